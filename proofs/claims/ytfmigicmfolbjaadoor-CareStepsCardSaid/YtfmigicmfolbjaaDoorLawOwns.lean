/-
  Nothing that is given is changed, and what is returned is new.
-/
import Derived.Test.YtfmigicmfolbjaaDoorLawHulls
import Derived.Test.YtfmigicmfolbjaaDoorN3
import Derived.Test.YtfmigicmfolbjaaDoorP4
namespace Go.Proofs.YtfmigicmfolbjaaDoor
set_option linter.all false
set_option linter.unusedSimpArgs false
set_option linter.unusedVariables false
open Go.ChangeShapes Go.WideShapes Go.ChangeAt Go.RowKit

/-- What is written over: cells of the list's own block alone. -/
theorem spoil_any (ad : Option Addr) (n cap : Nat) (cs : List Value) (own : Option Nat) (w : World) (hs : Sl w 3 1 (.slice ad n cap) n cs own) :
    Calls Tryd.prog 39 #[.slice ad n cap] w fun e w' => (∃ v, e = .returned v) ∧ Frm w.heap.size own.toList w w' := by
  have hf0 := Tryd.func39
  have hlen := hs.n_le
  obtain ⟨a', c', b, off, he, ha, ho, hth⟩ := hs.place
  cases he
  rw [Nat.mul_one] at hth
  have hBb : 0 < n → b ∈ own.toList := fun h => by rw [ho h]; simp
  have HS := Lib.hid hs
  have HA := Lib.hid ha
  have HO := Lib.hid ho
  have HTH := Lib.hid hth
  have HBB := Lib.hid hBb
  clear hBb hth ho ha hs
  go_enter Tryd.func39, Tryd.ntmps39
  go_wp2_with fail
  go_loopw [2] (fun s2 wr => ∃ i : Nat, s2 = .int .i64 i ∧ i ≤ n ∧ (∀ j, j < n → ∃ v, wr.cell? ⟨b, off + j, none⟩ = some v) ∧ (∀ j, j < n → wr.frozen? ⟨b, off + j, none⟩ = false) ∧ Frm w.heap.size own.toList w wr) (fun s2 _ => n - (intOf s2).toNat)
  case atStart => exact ⟨0, rfl, Nat.zero_le _, fun j hj => Option.isSome_iff_exists.1 (HTH.out j hj).1, fun j hj => (HTH.out j hj).2, Frm.refl _ _ _⟩
  case round =>
    obtain ⟨i, rfl, hi, hcs, hfz, hfr⟩ := hrel
    by_cases hin : i < n
    rotate_left
    · have hin' : ¬ (i : Int) < (n : Int) := by omega
      clear hcs hfz
      have HFR := Lib.hid hfr
      clear hfr
      go_wp2_with fail
      go_end0
      exact ⟨⟨_, rfl⟩, HFR.out⟩
    have hin' : (i : Int) < (n : Int) := by omega
    obtain ⟨w4, w5⟩ := wrapUp hin hlen
    have hms := meas_up hin
    have had := HA.out (by omega)
    subst had
    obtain ⟨v, c1⟩ := hcs i hin
    have c2 := hfz i hin
    have hc2 : ∀ j, j < n → ∃ v, (wr.setCell ⟨b, off + i, none⟩ (.int .i64 (-7))).cell? ⟨b, off + j, none⟩ = some v := fun j hj => by
      obtain ⟨v, hv⟩ := hcs j hj
      exact cell?_setCell_some hv
    have hf2 : ∀ j, j < n → (wr.setCell ⟨b, off + i, none⟩ (.int .i64 (-7))).frozen? ⟨b, off + j, none⟩ = false := fun j hj => (World.frozen?_setCell _ _ _ _).trans (hfz j hj)
    have hfr2 := hfr.setCell (p := ⟨b, off + i, none⟩) (.inl (HBB.out (by omega))) (.int .i64 (-7))
    clear hcs hfz hfr
    have HC2 := Lib.hid hc2
    have HF2 := Lib.hid hf2
    have HFR := Lib.hid hfr2
    have HIN := Lib.hid hin
    have HMS := Lib.hid hms
    clear hms hin hfr2 hf2 hc2
    go_wp2_with fail
    (try simp only [w4, w5])
    exact ⟨⟨i + 1, by simp, HIN.out, HC2.out, HF2.out, HFR.out⟩, HMS.out⟩
theorem row_same (R : Raw) : ∃ A k, (∀ w w' e, RowIs R w w' e → ListIs A k w w' e) ∧ ∀ w' e, RefRowIs R w' e → ∃ ad cap own, e = .returned (.tuple #[.slice ad A.length cap, .int .i64 k]) ∧ Sl w' 3 1 (.slice ad A.length cap) A.length (intsC A) own := by
  cases hP : plannedO R with
  | none =>
    refine ⟨[], 2, fun w w' e he => ?_, fun w' e he => ?_⟩
    · unfold RowIs at he; rw [hP] at he; exact listNo he
    · unfold RefRowIs at he; rw [hP] at he
      exact ⟨none, 0, none, he, Sl.nil _ _ _⟩
  | some P =>
    refine ⟨rowL P, 0, fun w w' e he => ?_, fun w' e he => ?_⟩
    · unfold RowIs at he; rw [hP] at he
      obtain ⟨v, own, h1, h2, h3⟩ := he
      exact listIs h1 h2 h3
    · unfold RefRowIs at he; rw [hP] at he
      obtain ⟨v, own, h1, h2⟩ := he
      obtain ⟨ad, cap, rfl⟩ := h2.form
      exact ⟨ad, cap, own, h1, h2⟩
theorem ends_same (R : Raw) : ∃ A k, ∀ w w' e, EndsIs R w w' e → ListIs A k w w' e := by
  cases hP : plannedO R with
  | none =>
    refine ⟨[], 2, fun w w' e he => ?_⟩
    unfold EndsIs at he; rw [hP] at he; exact listNo he
  | some P =>
    refine ⟨endsL P 16, 0, fun w w' e he => ?_⟩
    unfold EndsIs at he; rw [hP] at he
    obtain ⟨v, own, h1, h2, h3⟩ := he
    exact listIs h1 h2 h3
set_option maxRecDepth 100000 in
set_option maxHeartbeats 16000000 in
theorem owns_walk (q : RPos) (R : Raw) (h : Hu) (ad : Option Addr) (b off n cap : Nat) (L : Nat → Ta) (m : Int) (w : World) (hp : RawAt w q R) (hr : Rw w 4 ad b off n fun i => (L i).cells) (hg : Glob w) :
    Calls Tryd.prog 11 #[.agg (rawC q R).toArray, .agg h.cells.toArray, .slice ad n cap, .int .i64 m] w fun e w' => e = .returned (.bool true) ∧ Frm w.heap.size [] w w' := by
  have hf0 := Tryd.func11
  obtain ⟨A, k, hAk, hAr⟩ := row_same R
  obtain ⟨E, j, hEj⟩ := ends_same R
  obtain ⟨D, t, hDt⟩ := drain_same h n L m
  have HP := Lib.hid hp
  have HR := Lib.hid hr
  have HG := Lib.hid hg
  have HAK := Lib.hid hAk
  have HAR := Lib.hid hAr
  have HEJ := Lib.hid hEj
  have HDT := Lib.hid hDt
  clear hDt hEj hAr hAk hg hr hp
  go_enter Tryd.func11, Tryd.ntmps11
  go_upto_region 1 with fail
  refine namedC ?_; intro W hW
  obtain ⟨c, hc⟩ : ∃ c, c = w.heap.size := ⟨_, rfl⟩
  obtain ⟨d, hd⟩ : ∃ d, d = w.heap.size + 1 := ⟨_, rfl⟩
  have k0 : Blk W c 66 (rawC q R) := by rw [hW, hc]; refine Blk.alloc' ?_; exact Blk.new w 66 (rawC q R)
  have kd : Blk W d 41 h.cells := by rw [hW, hd]; exact Blk.new' _ 41 h.cells (by simp)
  have hf : Frm w.heap.size [] w W := by rw [hW]; repeat (first | with_reducible exact Frm.refl _ _ _ | with_reducible refine Frm.drewN ?_ | with_reducible refine Frm.drew ?_ | ((with_reducible refine Frm.setCell' ?_ ?_); · first | (left; simp; done) | (right; simp; done) | (right; simp; omega)) | ((with_reducible refine Frm.alloc' ?_ ?_); · first | exact Nat.le_refl _ | (simp; done) | (simp; omega)))
  clear hW hf0
  rw [← hd, ← hc]
  clear hc hd
  have hfw : Frm W.heap.size [] W W := Frm.refl _ _ _
  have K0 := Lib.hid k0
  have KD := Lib.hid kd
  have HF := Lib.hid hf
  have HFW := Lib.hid hfw
  clear hfw hf kd k0
  have ht : ∀ V, Frm W.heap.size [] W V → Frm w.heap.size [] w V := fun V hV => HF.out.call hV HF.out.size (by simp)
  have HT := Lib.hid ht
  clear ht
  go_wp2_with (with_reducible refine atLoad 66 rfl ?_; refine wpList_loadE rfl rfl rfl (load_raw K0.out) ?_)
  refine (great_any q R W (HP.out.frm HF.out (Nat.le_refl _))).mono ?_; rintro e w1 ⟨hgr, hf1⟩
  obtain ⟨g, rfl, hgm⟩ := hgr
  have hfw := HFW.out.call hf1 (Nat.le_refl _) (by simp)
  clear hf1 HFW hgm
  have HFW := Lib.hid hfw
  clear hfw
  cases g
  rotate_left
  · go_wp2_with (go_at_call 18; refine (awake_any _ (HG.out.frm (HT.out _ HFW.out) (Nat.le_refl _))).mono ?_; rintro e9 w9 ⟨rfl, hf9⟩; replace HFW := Lib.hid (HFW.out.call hf9 HFW.out.size (by simp)); clear hf9)
    go_ret
    exact ⟨rfl, HT.out _ HFW.out⟩
  by_cases hn : 8 < n
  · have hn' : (8 : Int) < (n : Int) := by omega
    go_wp2_with (go_at_call 18; refine (awake_any _ (HG.out.frm (HT.out _ HFW.out) (Nat.le_refl _))).mono ?_; rintro e9 w9 ⟨rfl, hf9⟩; replace HFW := Lib.hid (HFW.out.call hf9 HFW.out.size (by simp)); clear hf9)
    go_ret
    exact ⟨rfl, HT.out _ HFW.out⟩
  have hn' : ¬ (8 : Int) < (n : Int) := by omega
  go_wp2_with (with_reducible refine atLoad 66 rfl ?_; refine wpList_loadE rfl rfl rfl (load_raw (HFW.out.blk K0.out K0.out.lt (by simp))) ?_)
  refine (row_any q R w1 (HP.out.frm (HT.out _ HFW.out) (Nat.le_refl _)) (HG.out.frm (HT.out _ HFW.out) (Nat.le_refl _))).mono ?_; rintro e w2 ⟨he, hf1⟩
  obtain ⟨a1, c1, o1, rfl, s1, q1⟩ := HAK.out _ _ _ he
  have hfw := HFW.out.call hf1 HFW.out.size (by simp)
  obtain ⟨la, hla⟩ : ∃ l, l = A.length := ⟨_, rfl⟩
  rw [← hla] at s1 ⊢
  have q1 : ∀ b, o1 = some b → W.heap.size ≤ b := fun b hb => Nat.le_trans HFW.out.size (q1 b hb)
  clear he hf1 HFW
  have HFW := Lib.hid hfw
  have S1 := Lib.hid s1
  have Q1 := Lib.hid q1
  have HLA := Lib.hid hla
  clear hla q1 s1 hfw
  go_wp2_with (with_reducible refine atLoad 66 rfl ?_; refine wpList_loadE rfl rfl rfl (load_raw (HFW.out.blk K0.out K0.out.lt (by simp))) ?_)
  refine (ends_any q R w2 (HP.out.frm (HT.out _ HFW.out) (Nat.le_refl _)) (HG.out.frm (HT.out _ HFW.out) (Nat.le_refl _))).mono ?_; rintro e w3 ⟨he, hf1⟩
  obtain ⟨a2, c2, o2, rfl, s2, q2⟩ := HEJ.out _ _ _ he
  have hfw := HFW.out.call hf1 HFW.out.size (by simp)
  have s1 := S1.out.frm hf1 (fun b hb => S1.out.lt b hb) (by simp)
  obtain ⟨le, hle⟩ : ∃ l, l = E.length := ⟨_, rfl⟩
  rw [← hle] at s2 ⊢
  have n12 : ∀ b, o1 = some b → o2 ≠ some b := fun b hb hb2 => by have h1 := S1.out.lt b hb; have h2 := q2 b hb2; omega
  have q2 : ∀ b, o2 = some b → W.heap.size ≤ b := fun b hb => Nat.le_trans HFW.out.size (q2 b hb)
  clear he hf1 HFW S1
  have HFW := Lib.hid hfw
  have S1 := Lib.hid s1
  have S2 := Lib.hid s2
  have Q2 := Lib.hid q2
  have N12 := Lib.hid n12
  have HLE := Lib.hid hle
  clear hle n12 q2 s2 s1 hfw
  go_wp2_with (with_reducible refine atLoad 41 rfl ?_; refine wpList_loadE rfl rfl rfl (load_hu (HFW.out.blk KD.out KD.out.lt (by simp))) ?_)
  refine (drain_any h ad b off n cap L m w3 (HR.out.frm (HT.out _ HFW.out) (Nat.le_refl _)) (HG.out.frm (HT.out _ HFW.out) (Nat.le_refl _))).mono ?_; rintro e w4 ⟨he, hf1⟩
  obtain ⟨a3, c3, o3, rfl, s3, q3⟩ := HDT.out _ _ _ he
  have hfw := HFW.out.call hf1 HFW.out.size (by simp)
  have s1 := S1.out.frm hf1 (fun b hb => S1.out.lt b hb) (by simp)
  have s2 := S2.out.frm hf1 (fun b hb => S2.out.lt b hb) (by simp)
  obtain ⟨ld, hld⟩ : ∃ l, l = D.length := ⟨_, rfl⟩
  rw [← hld] at s3 ⊢
  have n13 : ∀ b, o1 = some b → o3 ≠ some b := fun b hb hb2 => by have h1 := S1.out.lt b hb; have h2 := q3 b hb2; omega
  have n23 : ∀ b, o2 = some b → o3 ≠ some b := fun b hb hb2 => by have h1 := S2.out.lt b hb; have h2 := q3 b hb2; omega
  have q3 : ∀ b, o3 = some b → W.heap.size ≤ b := fun b hb => Nat.le_trans HFW.out.size (q3 b hb)
  clear he hf1 HFW S1 S2
  have HFW := Lib.hid hfw
  have S1 := Lib.hid s1
  have S2 := Lib.hid s2
  have S3 := Lib.hid s3
  have Q3 := Lib.hid q3
  have N13 := Lib.hid n13
  have N23 := Lib.hid n23
  have HLD := Lib.hid hld
  clear hld n23 n13 q3 s3 s2 s1 hfw
  go_wp2_with fail
  refine (spoil_any a1 la c1 _ o1 _ S1.out).mono ?_; rintro e w5 ⟨⟨v, rfl⟩, hf1⟩
  have hfw := HFW.out.call hf1 HFW.out.size (fun x hx hm => by have := Q1.out x (by simpa using hm); omega)
  have s2 := S2.out.beside hf1 (Nat.le_refl _) (fun b hb hb2 => N12.out b hb2 hb)
  have s3 := S3.out.beside hf1 (Nat.le_refl _) (fun b hb hb2 => N13.out b hb2 hb)
  clear hf1 HFW S1 S2 S3
  have HFW := Lib.hid hfw
  have S2 := Lib.hid s2
  have S3 := Lib.hid s3
  clear s3 s2 hfw
  go_wp2_with fail
  refine (spoil_any a2 le c2 _ o2 _ S2.out).mono ?_; rintro e w6 ⟨⟨v, rfl⟩, hf1⟩
  have hfw := HFW.out.call hf1 HFW.out.size (fun x hx hm => by have := Q2.out x (by simpa using hm); omega)
  have s3 := S3.out.beside hf1 (Nat.le_refl _) (fun b hb hb2 => N23.out b hb2 hb)
  clear hf1 HFW S2 S3
  have HFW := Lib.hid hfw
  have S3 := Lib.hid s3
  clear s3 hfw
  go_wp2_with fail
  refine (spoil_any a3 ld c3 _ o3 _ S3.out).mono ?_; rintro e w7 ⟨⟨v, rfl⟩, hf1⟩
  have hfw := HFW.out.call hf1 HFW.out.size (fun x hx hm => by have := Q3.out x (by simpa using hm); omega)
  clear hf1 HFW S3 
  have HFW := Lib.hid hfw
  clear hfw
  go_wp2_with (with_reducible refine atLoad 66 rfl ?_; refine wpList_loadE rfl rfl rfl (load_raw (HFW.out.blk K0.out K0.out.lt (by simp))) ?_)
  refine (row_any q R w7 (HP.out.frm (HT.out _ HFW.out) (Nat.le_refl _)) (HG.out.frm (HT.out _ HFW.out) (Nat.le_refl _))).mono ?_; rintro e w8 ⟨he, hf1⟩
  obtain ⟨a4, c4, o4, rfl, s4, _⟩ := HAK.out _ _ _ he
  have hfw := HFW.out.call hf1 HFW.out.size (by simp)
  rw [← HLA.out] at s4 ⊢
  clear he hf1 HFW
  have HFW := Lib.hid hfw
  have S4 := Lib.hid s4
  clear s4 hfw
  go_wp2_with (with_reducible refine atLoad 66 rfl ?_; refine wpList_loadE rfl rfl rfl (load_raw (HFW.out.blk K0.out K0.out.lt (by simp))) ?_)
  refine (refRow_any q R w8 (HP.out.frm (HT.out _ HFW.out) (Nat.le_refl _))).mono ?_; rintro e w9 ⟨he, hf1⟩
  obtain ⟨a5, c5, o5, rfl, s5⟩ := HAR.out _ _ he
  have hfw := HFW.out.call hf1 HFW.out.size (by simp)
  have s4 := S4.out.frm hf1 (fun b hb => S4.out.lt b hb) (by simp)
  rw [← HLA.out] at s5 ⊢
  clear he hf1 HFW S4
  have HFW := Lib.hid hfw
  have S4 := Lib.hid s4
  have S5 := Lib.hid s5
  clear s5 s4 hfw
  go_wp2_with (with_reducible refine atLoad 41 rfl ?_; refine wpList_loadE rfl rfl rfl (load_hu (HFW.out.blk KD.out KD.out.lt (by simp))) ?_)
  refine (drain_any h ad b off n cap L m w9 (HR.out.frm (HT.out _ HFW.out) (Nat.le_refl _)) (HG.out.frm (HT.out _ HFW.out) (Nat.le_refl _))).mono ?_; rintro e w10 ⟨he, hf1⟩
  obtain ⟨a6, c6, o6, rfl, s6, _⟩ := HDT.out _ _ _ he
  have hfw := HFW.out.call hf1 HFW.out.size (by simp)
  have s4 := S4.out.frm hf1 (fun b hb => S4.out.lt b hb) (by simp)
  have s5 := S5.out.frm hf1 (fun b hb => S5.out.lt b hb) (by simp)
  obtain ⟨ld2, hld2⟩ : ∃ l, l = D.length := ⟨_, rfl⟩
  rw [← hld2] at s6 ⊢
  clear he hf1 HFW S4 S5
  have HFW := Lib.hid hfw
  have S4 := Lib.hid s4
  have S5 := Lib.hid s5
  have S6 := Lib.hid s6
  have HLD2 := Lib.hid hld2
  clear hld2 s6 s5 s4 hfw
  go_wp2_with (with_reducible refine atLoad 41 rfl ?_; refine wpList_loadE rfl rfl rfl (load_hu (HFW.out.blk KD.out KD.out.lt (by simp))) ?_)
  refine (refDrain_any h ad b off n cap L m w10 (HR.out.frm (HT.out _ HFW.out) (Nat.le_refl _))).mono ?_; rintro e w11 ⟨he, hf1⟩
  obtain ⟨a7, c7, o7, rfl, s7, _⟩ := HDT.out _ _ _ he
  have hfw := HFW.out.call hf1 HFW.out.size (by simp)
  have s4 := S4.out.frm hf1 (fun b hb => S4.out.lt b hb) (by simp)
  have s5 := S5.out.frm hf1 (fun b hb => S5.out.lt b hb) (by simp)
  have s6 := S6.out.frm hf1 (fun b hb => S6.out.lt b hb) (by simp)
  rw [← HLD2.out] at s7 ⊢
  clear he hf1 HFW S4 S5 S6
  have hi1 : Calls Tryd.prog 17 #[.slice a4 la c4, .slice a5 la c5] w11 fun e w' => e = .returned (.bool true) ∧ Frm w11.heap.size [] w11 w' := ints_sl (l := A) (by rw [← HLA.out]; exact s4) (by rw [← HLA.out]; exact s5)
  have hi2 : ∀ V, Frm w11.heap.size [] w11 V → Calls Tryd.prog 17 #[.slice a6 ld2 c6, .slice a7 ld2 c7] V fun e w' => e = .returned (.bool true) ∧ Frm V.heap.size [] V w' := fun V hV => ints_sl (l := D) (by rw [← HLD2.out]; exact s6.frm hV (fun b hb => s6.lt b hb) (by simp)) (by rw [← HLD2.out]; exact s7.frm hV (fun b hb => s7.lt b hb) (by simp))
  clear s4 s5 s6 s7
  have HFW := Lib.hid hfw
  have HI1 := Lib.hid hi1
  have HI2 := Lib.hid hi2
  clear hi2 hi1 hfw
  go_wp2_with fail
  refine HI1.out.mono ?_; rintro e w12 ⟨rfl, hf1⟩
  have hi2 := HI2.out w12 hf1
  have hfw := HFW.out.call hf1 HFW.out.size (by simp)
  clear hf1 HFW HI1 HI2
  have HFW := Lib.hid hfw
  have HI2 := Lib.hid hi2
  clear hi2 hfw
  go_wp2_with fail
  refine HI2.out.mono ?_; rintro e w13 ⟨rfl, hf1⟩
  have hfw := HFW.out.call hf1 HFW.out.size (by simp)
  clear hf1 HFW HI2
  have HFW := Lib.hid hfw
  clear hfw
  go_wp2_with (go_at_call 18; refine (awake_any _ (HG.out.frm (HT.out _ HFW.out) (Nat.le_refl _))).mono ?_; rintro e9 w9 ⟨rfl, hf9⟩; replace HFW := Lib.hid (HFW.out.call hf9 HFW.out.size (by simp)); clear hf9)
  go_ret
  exact ⟨rfl, HT.out _ HFW.out⟩
/-! the row -/
set_option maxRecDepth 100000 in
theorem careOwns_lifted (os : Os) (started : os.Started) (H : Type) (enc : TypeId × Value → H) :
    ReturnsInHanded {} Tryd.checked os 11 .any (fun w args => (Rows.careOwnsSpec.pre enc Tryd.prog Tryd.f11 [] false w args ∧ laidMetH Tryd.prog laidR w) ∧ sizedMet enc Tryd.prog Tryd.f11 (OpenSpec.ofChange Rows.careOwnsSpec) false w args) (Rows.careOwnsSpec.post enc Tryd.prog Tryd.f11 false true false false) := by
  refine law_liftL (fn := Tryd.f11) (s := Rows.careOwnsSpec) started 4 (by kernel_rfl) Tryd.func11
      (ChangeSpec.witness_shaped (enc := enc) (C := Tryd.checked) (os := os) (X := fun w _ => laidMetH Tryd.prog laidR w) false (World.doorLaid Tryd.prog 400 os)
        #[.agg #[.slice none 0 0, .slice none 0 0, .slice none 0 0], .agg #[.int .i64 0, .int .i64 0, .int .i64 0], .slice none 0 0, .int .i64 0] 8 rfl
        (World.shaped_of_RefB (by kernel_rfl) (by kernel_rfl)) (by kernel_rfl) (by kernel_rfl) (by kernel_rfl) (door_met os _))
      (by rw [Tryd.params11]; decide +kernel) (by rw [Tryd.params11]; rfl) (by kernel_rfl) rfl (fun ds h => by match ds, h with | [d1, d2, d3, d4], _ => rfl) ?_
  intro W base args ds ps hval hA hgl
  rw [Tryd.params11] at hA hval
  obtain ⟨v0, vs0, d0, ds0, p0, q0, hargs, rfl, rfl, h0, r0⟩ := trodAll_cons hA
  obtain ⟨v1, vs1, d1, ds1, p1, q1, rfl, rfl, rfl, h1, r1⟩ := trodAll_cons r0
  obtain ⟨v2, vs2, d2, ds2, p2, q2, rfl, rfl, rfl, h2, r2⟩ := trodAll_cons r1
  obtain ⟨v3, vs3, d3, ds3, p3, q3, rfl, rfl, rfl, h3, r3⟩ := trodAll_cons r2
  obtain ⟨rfl, rfl, rfl⟩ := trodAll_nil r3
  obtain rfl : args = #[v0, v1, v2, v3] := by cases args; simp_all
  obtain ⟨q, R, rfl, hp⟩ := open_plan (hval 0 66 v0 rfl rfl) h0
  obtain ⟨h, rfl⟩ := open_hull (hval 1 41 v1 rfl rfl)
  obtain ⟨ad, len, cap, b, off, L, rfl, hr⟩ := open_tanks (hval 2 42 v2 rfl rfl) h2
  obtain ⟨m, rfl⟩ := okWide_int Tryd.underlying3 (hval 3 3 v3 rfl rfl)
  exact owns_walk q R h ad b off len cap L m W hp hr hgl

theorem careOwns_over : Rows.CareOwnsSaid :=
  OpenClaim.holds_of_wide 11 Tryd.f11 rfl rfl rfl rfl rfl rfl rfl ⟨rfl, rfl, rfl, rfl, rfl⟩ rfl rfl rfl rfl rfl (by kernel_rfl) Tryd.func11 (by kernel_rfl)
    (of_decide_eq_true (by kernel_rfl)) (by unfold Func.isWrapper; first | (rw [if_pos (by decide +kernel)]; kernel_rfl) | (rw [if_neg (by decide +kernel)]; exact ⟨rfl, rfl⟩))
    (fun os started H enc _ => careOwns_lifted os started H enc)
end Go.Proofs.YtfmigicmfolbjaaDoor
