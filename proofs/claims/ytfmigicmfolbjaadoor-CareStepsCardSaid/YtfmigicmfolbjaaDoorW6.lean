/-
  Which tanks have to be empty, by the document.
-/
import Derived.Test.YtfmigicmfolbjaaDoorW5
import Derived.Test.YtfmigicmfolbjaaDoorB20
namespace Go.Proofs.YtfmigicmfolbjaaDoor
set_option linter.all false
set_option linter.unusedSimpArgs false
set_option linter.unusedVariables false
open Go.RowKit

theorem but_ok {L : Nat → Ta} {n e : Nat} (hL : ∀ i, i < n → TaOK (L i)) : ∀ i, i < (butL L e n).length → TaOK ((butL L e n).getD i ta0) := fun i hi => by
  have hm : (butL L e n).getD i ta0 ∈ butL L e n := by simp [List.getD_eq_getElem?_getD, hi]
  obtain ⟨j, hj, hx⟩ := but_mem hm
  rw [hx]
  exact hL j hj
theorem stable_but (h : Hu) (hh : HuOK h) (L : Nat → Ta) (n e : Nat) (hL : ∀ i, i < n → TaOK (L i)) (hn : n ≤ 6) (m : Int) (hm : LeastOK m) (w : World) (v : Value) (o : Option Nat) (hs : Sl w 49 4 v (butL L e n).length (rowsT (butL L e n)) o) :
    Calls Tryd.prog 59 #[.agg h.cells.toArray, v, .int .i64 m] w fun x w' => x = .returned (.bool (goodB h n L m e)) ∧ Frm w.heap.size [] w w' := by
  obtain ⟨ad, b, off, cap, rfl, hr⟩ := hs.tanks
  have := stable_any h hh ad b off _ cap (fun i => (butL L e n).getD i ta0) (but_ok hL) (Nat.le_trans (butL_len L e n) hn) m hm w hr
  rw [tasL_self] at this
  exact this
set_option maxRecDepth 100000 in
set_option maxHeartbeats 8000000 in
theorem refDrain_any (h : Hu) (ad : Option Addr) (b off n cap : Nat) (L : Nat → Ta) (m : Int) (w : World) (hr : Rw w 4 ad b off n fun i => (L i).cells) :
    Calls Tryd.prog 24 #[.agg h.cells.toArray, .slice ad n cap, .int .i64 m] w fun e w' => DrainIsR h n L m w w' e ∧ Frm w.heap.size [] w w' := by
  have hf0 := Tryd.func24
  have HR := Lib.hid hr
  clear hr
  go_enter Tryd.func24, Tryd.ntmps24
  go_upto_region 1 with fail
  refine namedC ?_; intro W hW
  obtain ⟨c, hc⟩ : ∃ c, c = w.heap.size := ⟨_, rfl⟩
  have k0 : Blk W c 41 h.cells := by rw [hW, hc]; exact Blk.new w 41 h.cells
  have hf : Frm w.heap.size [] w W := by rw [hW]; repeat (first | with_reducible exact Frm.refl _ _ _ | with_reducible refine Frm.drewN ?_ | with_reducible refine Frm.drew ?_ | ((with_reducible refine Frm.setCell' ?_ ?_); · first | (left; simp; done) | (right; simp; done) | (right; simp; omega)) | ((with_reducible refine Frm.alloc' ?_ ?_); · first | exact Nat.le_refl _ | (simp; done) | (simp; omega)))
  clear hW hf0
  rw [← hc]
  clear hc
  have K0 := Lib.hid k0
  have HF := Lib.hid hf
  clear hf k0
  go_wp2_with (with_reducible refine atLoad 41 rfl ?_; refine wpList_loadE rfl rfl rfl (load_hu K0.out) ?_)
  refine (refShip_any h ad b off n cap L W (HR.out.frm HF.out (Nat.le_refl _))).mono ?_; rintro e w1 ⟨rfl, hf1⟩
  have k0 := hf1.blk K0.out K0.out.lt (by simp)
  have hf := HF.out.call hf1 HF.out.size (by simp)
  clear hf1 K0 HF
  cases hs : (huB h && tasB n L)
  · have hE : shipE h n L = 2 := by unfold shipE; rw [hs]; rfl
    clear k0 hs
    have HF := Lib.hid hf
    have HE := Lib.hid hE
    clear hE hf
    go_wp2_with fail
    refine bodyPost_ret (v := .tuple #[.slice none 0 0, .int .i64 2]) (by simp [results, Tryd.results24, go_sem]) rfl ?_
    exact ⟨.inl ⟨by rw [HE.out]; decide, by rw [HE.out]⟩, HF.out⟩
  by_cases hn : 6 < n
  · have hn' : (6 : Int) < (n : Int) := by omega
    have hE : shipE h n L = 3 := by unfold shipE; rw [hs, if_pos rfl, if_pos hn]
    clear k0 hs
    have HF := Lib.hid hf
    have HE := Lib.hid hE
    clear hE hf
    go_wp2_with fail
    refine bodyPost_ret (v := .tuple #[.slice none 0 0, .int .i64 3]) (by simp [results, Tryd.results24, go_sem]) rfl ?_
    exact ⟨.inl ⟨by rw [HE.out]; decide, by rw [HE.out]⟩, HF.out⟩
  have hn' : ¬ (6 : Int) < (n : Int) := by omega
  have hE : shipE h n L = 0 := by unfold shipE; rw [hs, if_pos rfl, if_neg hn]
  obtain ⟨hh, hL⟩ := ship_two hs (by omega)
  have hn6 : n ≤ 6 := by omega
  obtain ⟨W1, hW1⟩ : ∃ V, V = w1 := ⟨_, rfl⟩
  rw [← hW1] at k0 hf ⊢
  clear hW1
  have K0 := Lib.hid k0
  have HF := Lib.hid hf
  clear hf k0
  go_wp2_with fail
  refine (refin_any _ _ _ _).mono ?_; rintro e w' ⟨rfl, rfl⟩
  cases hin : inB m (-10000) 10000
  · clear K0 hs hh hL
    have HE := Lib.hid hE
    have HIN := Lib.hid hin
    clear hin hE
    go_wp2_with fail
    refine bodyPost_ret (v := .tuple #[.slice none 0 0, .int .i64 4]) (by simp [results, Tryd.results24, go_sem]) rfl ?_
    exact ⟨.inr (.inl ⟨HE.out, HIN.out, rfl⟩), HF.out⟩
  have hmr := inB_iff.1 hin
  have hlm : LeastOK m := by unfold LeastOK; omega
  obtain ⟨M, hM⟩ : ∃ M, M = 2 ^ n := ⟨_, rfl⟩
  have hM64 : M ≤ 64 := by rw [hM]; exact Nat.pow_le_pow_right (n := 2) (i := n) (j := 6) (by omega) hn6
  have hlen := HR.out.len
  have hsh : IntKind.i64.wrap (2 ^ min n 64) = (M : Int) := by
    rw [show min n 64 = n by omega, show ((2 : Int) ^ n) = ((2 ^ n : Nat) : Int) by simp, ← hM]
    exact IntWalk.i64_in _ (by omega)
  have hsw : wrap64 (2 ^ min n 64) = (M : Int) := by
    rw [show min n 64 = n by omega, show ((2 : Int) ^ n) = ((2 ^ n : Nat) : Int) by simp, ← hM]
    exact IntWalk.wrap64_in _ (by omega)
  have hsh2 : IntKind.i64.wrap (2 ^ n) = (M : Int) := by
    rw [show ((2 : Int) ^ n) = ((2 ^ n : Nat) : Int) by simp, ← hM]
    exact IntWalk.i64_in _ (by omega)
  have hsw2 : wrap64 (2 ^ n) = (M : Int) := by
    rw [show ((2 : Int) ^ n) = ((2 ^ n : Nat) : Int) by simp, ← hM]
    exact IntWalk.wrap64_in _ (by omega)
  clear hs hn hmr
  have HE := Lib.hid hE
  have HH := Lib.hid hh
  have HL := Lib.hid hL
  have HN6 := Lib.hid hn6
  have HIN := Lib.hid hin
  have HLM := Lib.hid hlm
  have HM := Lib.hid hM
  have HM64 := Lib.hid hM64
  clear hM64 hM hlm hin hn6 hL hh hE
  go_wp2_with fail
  go_loopw [8, 9, 10] (fun s8 s9 s10 wr => ∃ e : Nat, s10 = .int .i64 e ∧ e ≤ M ∧ ∃ o : Bool, s9 = .bool o ∧ ∃ A : List Nat, drainF n (goodB h n L m) e = optOf o A ∧ (∃ own, Sl wr 3 1 s8 A.length (intsC A) own ∧ ∀ b, own = some b → W1.heap.size ≤ b) ∧ Frm W1.heap.size [] W1 wr) (fun _ _ s10 _ => M - (intOf s10).toNat)
  case atStart => exact ⟨0, rfl, Nat.zero_le _, false, rfl, [], rfl, ⟨none, Sl.nil _ 3 1, fun b hb => by cases hb⟩, Frm.refl _ _ _⟩
  case round =>
    obtain ⟨e, rfl, heM, o, rfl, A, hD, ⟨own, hsl, hown⟩, hfr⟩ := hrel
    obtain ⟨ad0, cp0, rfl⟩ := hsl.form
    obtain ⟨la, hla⟩ : ∃ k, k = A.length := ⟨_, rfl⟩
    rw [← hla] at hsl ⊢
    by_cases hel : e < M
    rotate_left
    · have hel' : ¬ (e : Int) < (M : Int) := by omega
      obtain rfl : e = M := by omega
      rw [HM.out] at hD
      have hfrw := HF.out.call hfr HF.out.size (by simp)
      clear hfr
      have HD := Lib.hid hD
      have HSL := Lib.hid hsl
      have HOWN := Lib.hid hown
      have HFRW := Lib.hid hfrw
      have HEM := Lib.hid heM
      have HLA := Lib.hid hla
      have HEL := Lib.hid hel
      clear hel hla heM hfrw hown hsl hD
      cases o
      · go_wp2_with fail
        refine bodyPost_ret (v := .tuple #[.slice none 0 0, .int .i64 7]) (by simp [results, Tryd.results24, go_sem]) rfl ?_
        exact ⟨.inr (.inr (.inl ⟨HE.out, HIN.out, HD.out, rfl⟩)), HFRW.out⟩
      · go_wp2_with fail
        refine bodyPost_ret (v := .tuple #[.slice ad0 la cp0, .int .i64 0]) (by simp [results, Tryd.results24, go_sem]) rfl ?_
        exact ⟨.inr (.inr (.inr ⟨HE.out, HIN.out, A, HD.out, _, own, rfl, by rw [← HLA.out]; exact HSL.out, fun b hb => Nat.le_trans HF.out.size (HOWN.out b hb)⟩)), HFRW.out⟩
    have hel' : (e : Int) < (M : Int) := by omega
    have he64 : e < 64 := Nat.lt_of_lt_of_le hel HM64.out
    obtain ⟨u1, u2⟩ := wrapUp (n := 64) he64 (by unfold maxLen; decide)
    have hms := meas_up hel
    have hsp := split_any ad b off n cap L e (Nat.lt_trans he64 (by decide)) (Nat.le_trans HN6.out (by decide)) wr (HR.out.frm (HF.out.call hfr HF.out.size (by simp)) (Nat.le_refl _))
    have HD := Lib.hid hD
    have HSL := Lib.hid hsl
    have HOWN := Lib.hid hown
    have HFR := Lib.hid hfr
    have HEM := Lib.hid heM
    have HLA := Lib.hid hla
    have HEL := Lib.hid hel
    have HMS := Lib.hid hms
    have HSP := Lib.hid hsp
    clear hsp hms hel hla heM hfr hown hsl hD
    go_wp2_with fail
    refine HSP.out.mono ?_; rintro x w2 ⟨⟨v1, v2, o1, o2, rfl, hs1, hs2, ho1⟩, hf1⟩
    have hfr := HFR.out.call hf1 HFR.out.size (by simp)
    have hsl := HSL.out.beside (o2 := none) (B := wr.heap.size) hf1 (Nat.le_refl _) (fun b _ hh => by cases hh)
    have k0 := (HFR.out.call hf1 HFR.out.size (by simp)).blk K0.out K0.out.lt (by simp)
    have ho1' : ∀ b, o1 = some b → W1.heap.size ≤ b := fun b hb => Nat.le_trans HFR.out.size (ho1 b hb)
    have hst := stable_but h HH.out L n e HL.out HN6.out m HLM.out w2 v2 o2 hs2
    have hsuc := drainF_succ n (goodB h n L m) e
    rw [HD.out] at hsuc
    unfold drainS at hsuc
    obtain ⟨ad2, cp2, rfl⟩ := hs2.form
    obtain ⟨adn, cpn, rfl⟩ := hs1.form
    obtain ⟨N, hN⟩ : ∃ N, N = bitsOf n e := ⟨_, rfl⟩
    rw [← hN] at hsuc hs1 ⊢
    obtain ⟨ln, hln⟩ : ∃ k, k = N.length := ⟨_, rfl⟩
    rw [← hln] at hs1 ⊢
    obtain ⟨gb, hgb⟩ : ∃ g, g = goodB h n L m e := ⟨_, rfl⟩
    rw [← hgb] at hsuc hst
    obtain ⟨l2, hl2⟩ : ∃ l, l = (butL L e n).length := ⟨_, rfl⟩
    rw [← hl2] at hst ⊢
    clear hf1 HFR HSL HD HSP ho1 hs2 hl2 hgb
    have HFR := Lib.hid hfr
    have HSL := Lib.hid hsl
    have K1 := Lib.hid k0
    have HO1 := Lib.hid ho1'
    have HST := Lib.hid hst
    have HS1 := Lib.hid hs1
    have HN := Lib.hid hN
    have HLN := Lib.hid hln
    have HSUC := Lib.hid hsuc
    clear hsuc hln hN hs1 hst ho1' k0 hsl hfr
    go_wp2_with (with_reducible refine atLoad 41 rfl ?_; refine wpList_loadE rfl rfl rfl (load_hu K1.out) ?_)
    refine HST.out.mono ?_; rintro x w3 ⟨rfl, hf1⟩
    have hfr := HFR.out.call hf1 HFR.out.size (by simp)
    have hsl := HSL.out.beside (o2 := none) (B := w2.heap.size) hf1 (Nat.le_refl _) (fun b _ hh => by cases hh)
    have hs1 := HS1.out.beside (o2 := none) (B := w2.heap.size) hf1 (Nat.le_refl _) (fun b _ hh => by cases hh)
    have hsuc := HSUC.out
    clear hf1 HFR HSL HS1 HST K1 HSUC
    have hnew : ∀ X, Frm w3.heap.size [] w3 X → drainF n (goodB h n L m) (e + 1) = some N → ∃ e' : Nat, Value.int .i64 ((e : Int) + 1) = .int .i64 e' ∧ e' ≤ M ∧ ∃ o' : Bool, Value.bool true = .bool o' ∧ ∃ A' : List Nat, drainF n (goodB h n L m) e' = optOf o' A' ∧ (∃ own, Sl X 3 1 (.slice adn ln cpn) A'.length (intsC A') own ∧ ∀ b, own = some b → W1.heap.size ≤ b) ∧ Frm W1.heap.size [] W1 X := fun X hX hh => ⟨e + 1, by simp, HEL.out, true, rfl, N, by rw [hh]; rfl, ⟨o1, by have q := hs1.beside (o2 := none) (B := w3.heap.size) hX (Nat.le_refl _) (fun b _ hh => by cases hh); rw [← HLN.out]; exact q, HO1.out⟩, hfr.call hX hfr.size (by simp)⟩
    have hold : ∀ X, Frm w3.heap.size [] w3 X → drainF n (goodB h n L m) (e + 1) = optOf o A → ∃ e' : Nat, Value.int .i64 ((e : Int) + 1) = .int .i64 e' ∧ e' ≤ M ∧ ∃ o' : Bool, Value.bool o = .bool o' ∧ ∃ A' : List Nat, drainF n (goodB h n L m) e' = optOf o' A' ∧ (∃ own, Sl X 3 1 (.slice ad0 la cp0) A'.length (intsC A') own ∧ ∀ b, own = some b → W1.heap.size ≤ b) ∧ Frm W1.heap.size [] W1 X := fun X hX hh => ⟨e + 1, by simp, HEL.out, o, rfl, A, hh, ⟨own, by have q := hsl.beside (o2 := none) (B := w3.heap.size) hX (Nat.le_refl _) (fun b _ hh => by cases hh); rw [← HLA.out]; exact q, HOWN.out⟩, hfr.call hX hfr.size (by simp)⟩
    cases gb
    · rw [if_neg (by simp)] at hsuc
      have hfin := hold w3 (Frm.refl _ _ _) hsuc
      clear hsuc hnew hold hfr hsl hs1
      have HFIN := Lib.hid hfin
      clear hfin
      go_wp2_with fail
      (try simp only [u1, u2])
      exact ⟨HFIN.out, HMS.out⟩
    rw [if_pos rfl] at hsuc
    cases o
    · have hfin := hnew w3 (Frm.refl _ _ _) hsuc
      clear hsuc hnew hold hfr hsl hs1
      have HFIN := Lib.hid hfin
      clear hfin
      go_wp2_with fail
      (try simp only [u1, u2])
      exact ⟨HFIN.out, HMS.out⟩
    have hsuc : drainF n (goodB h n L m) (e + 1) = if beforeL N A = true then some N else some A := hsuc
    obtain ⟨b4, off4, hR4⟩ := hs1.ints0
    obtain ⟨bA, offA, hRA⟩ := hsl.ints0
    have hbe := before_any adn ad0 b4 off4 cpn bA offA cp0 ln la N A HLN.out HLA.out w3 hR4 hRA
    obtain ⟨bf, hbf⟩ : ∃ q, q = beforeL N A := ⟨_, rfl⟩
    rw [← hbf] at hsuc hbe
    clear hR4 hRA hsl hs1 hfr hbf
    cases bf
    · rw [if_neg (by simp)] at hsuc
      have hold2 := fun X (hX : Frm w3.heap.size [] w3 X) => hold X hX hsuc
      clear hsuc hnew hold
      have HOLD := Lib.hid hold2
      have HBE := Lib.hid hbe
      clear hbe hold2
      go_wp2_with fail
      refine HBE.out.mono ?_; rintro x w5 ⟨rfl, hf5⟩
      have hfin := HOLD.out w5 hf5
      clear HOLD HBE hf5
      have HFIN := Lib.hid hfin
      clear hfin
      go_wp2_with fail
      (try simp only [u1, u2])
      exact ⟨HFIN.out, HMS.out⟩
    · rw [if_pos rfl] at hsuc
      have hnew2 := fun X (hX : Frm w3.heap.size [] w3 X) => hnew X hX hsuc
      clear hsuc hnew hold
      have HNEW := Lib.hid hnew2
      have HBE := Lib.hid hbe
      clear hbe hnew2
      go_wp2_with fail
      refine HBE.out.mono ?_; rintro x w5 ⟨rfl, hf5⟩
      have hfin := HNEW.out w5 hf5
      clear HNEW HBE hf5
      have HFIN := Lib.hid hfin
      clear hfin
      go_wp2_with fail
      (try simp only [u1, u2])
      exact ⟨HFIN.out, HMS.out⟩
end Go.Proofs.YtfmigicmfolbjaaDoor
