/-
  Whether any plan is valid, its first need that is not surely met, what ends, and its first row, are the document's, by all rows.
-/
import Derived.Test.YtfmigicmfolbjaaDoorX5
import Derived.Test.YtfmigicmfolbjaaDoorLawOwns
namespace Go.Proofs.YtfmigicmfolbjaaDoor
set_option linter.all false
set_option linter.unusedSimpArgs false
set_option linter.unusedVariables false
open Go.ChangeShapes Go.WideShapes Go.ChangeAt Go.RowKit

theorem sound_same (R : Raw) : ∃ x y z : Int, ∀ e, SoundIs R e → e = .returned (.tuple #[.int .i64 x, .int .i64 y, .int .i64 z]) := by
  cases hP : plannedO R with
  | none => exact ⟨-1, -1, 2, fun e he => by unfold SoundIs at he; rw [hP] at he; exact he⟩
  | some P =>
    cases hs : soundO P with
    | none => exact ⟨-1, -1, 0, fun e he => by unfold SoundIs at he; rw [hP] at he; dsimp only at he; rw [hs] at he; exact he⟩
    | some x => exact ⟨x.1, x.2, 9, fun e he => by unfold SoundIs at he; rw [hP] at he; dsimp only at he; rw [hs] at he; exact he⟩
theorem ends_same2 (R : Raw) : ∃ A k, (∀ w w' e, EndsIs R w w' e → ListIs A k w w' e) ∧ ∀ w' e, RefEndsIs R w' e → ∃ ad cap own, e = .returned (.tuple #[.slice ad A.length cap, .int .i64 k]) ∧ Sl w' 3 1 (.slice ad A.length cap) A.length (intsC A) own := by
  cases hP : plannedO R with
  | none =>
    refine ⟨[], 2, fun w w' e he => ?_, fun w' e he => ?_⟩
    · unfold EndsIs at he; rw [hP] at he; exact listNo he
    · unfold RefEndsIs at he; rw [hP] at he
      exact ⟨none, 0, none, he, Sl.nil _ _ _⟩
  | some P =>
    refine ⟨endsL P 16, 0, fun w w' e he => ?_, fun w' e he => ?_⟩
    · unfold EndsIs at he; rw [hP] at he
      obtain ⟨v, own, h1, h2, h3⟩ := he
      exact listIs h1 h2 h3
    · unfold RefEndsIs at he; rw [hP] at he
      obtain ⟨v, own, h1, h2⟩ := he
      obtain ⟨ad, cap, rfl⟩ := h2.form
      exact ⟨ad, cap, own, h1, h2⟩
set_option maxRecDepth 100000 in
set_option maxHeartbeats 16000000 in
theorem steps_walk (q : RPos) (R : Raw) (w : World) (hp : RawAt w q R) (hg : Glob w) :
    Calls Tryd.prog 12 #[.agg (rawC q R).toArray] w fun e w' => e = .returned (.bool true) ∧ Frm w.heap.size [] w w' := by
  have hf0 := Tryd.func12
  obtain ⟨A, k, hAk, hAr⟩ := row_same R
  obtain ⟨E, j, hEj, hEr⟩ := ends_same2 R
  obtain ⟨x, y, z, hso⟩ := sound_same R
  obtain ⟨n, hn⟩ : ∃ n, n = R.steps.length := ⟨_, rfl⟩
  obtain ⟨m, hm⟩ : ∃ n, n = R.edges.length := ⟨_, rfl⟩
  have hraw : rawC q R = [q.s.v R.starts, .slice q.sa n q.sc, .slice q.ea m q.ec] := by rw [hn, hm]; rfl
  have HP := Lib.hid hp
  have HG := Lib.hid hg
  have HAK := Lib.hid hAk
  have HAR := Lib.hid hAr
  have HEJ := Lib.hid hEj
  have HER := Lib.hid hEr
  have HSO := Lib.hid hso
  have HN := Lib.hid hn
  have HM := Lib.hid hm
  have HRAW := Lib.hid hraw
  clear hraw hm hn hso hEr hEj hAr hAk hg hp
  go_enter Tryd.func12, Tryd.ntmps12
  go_upto_region 1 with fail
  refine namedC ?_; intro W hW
  obtain ⟨c, hc⟩ : ∃ c, c = w.heap.size := ⟨_, rfl⟩
  have k0 : Blk W c 66 (rawC q R) := by rw [hW, hc]; exact Blk.new w 66 (rawC q R)
  have hf : Frm w.heap.size [] w W := by rw [hW]; repeat (first | with_reducible exact Frm.refl _ _ _ | with_reducible refine Frm.drewN ?_ | with_reducible refine Frm.drew ?_ | ((with_reducible refine Frm.setCell' ?_ ?_); · first | (left; simp; done) | (right; simp; done) | (right; simp; omega)) | ((with_reducible refine Frm.alloc' ?_ ?_); · first | exact Nat.le_refl _ | (simp; done) | (simp; omega)))
  clear hW hf0
  rw [← hc]
  clear hc
  have hfw : Frm W.heap.size [] W W := Frm.refl _ _ _
  have ht : ∀ V, Frm W.heap.size [] W V → Frm w.heap.size [] w V := fun V hV => hf.call hV hf.size (by simp)
  have K0 := Lib.hid k0
  have HF := Lib.hid hf
  have HFW := Lib.hid hfw
  have HT := Lib.hid ht
  clear ht hfw hf k0
  go_wp2_with (with_reducible refine atLoad 66 rfl ?_; refine wpList_loadE rfl rfl rfl (load_raw K0.out) ?_)
  refine (great_any q R W (HP.out.frm HF.out (Nat.le_refl _))).mono ?_; rintro e w1 ⟨hgr, hf1⟩
  obtain ⟨g, rfl, hgm⟩ := hgr
  have hfw := HFW.out.call hf1 (Nat.le_refl _) (by simp)
  clear hf1 HFW hgm
  have HFW := Lib.hid hfw
  clear hfw
  cases g
  rotate_left
  · go_wp2_with (go_at_call 18; refine (awake_any _ (HG.out.frm (HT.out _ HFW.out) (Nat.le_refl _))).mono ?_; rintro e9 w9 ⟨rfl, hf9⟩; replace HFW := Lib.hid (HFW.out.call hf9 HFW.out.size (by simp)); clear hf9)
    go_ret
    exact ⟨rfl, HT.out _ HFW.out⟩
  go_wp2_with (with_reducible refine atLoad 66 rfl ?_; refine wpList_loadE rfl rfl rfl (load_raw (HFW.out.blk K0.out K0.out.lt (by simp))) ?_)
  refine (row_any q R w1 (HP.out.frm (HT.out _ HFW.out) (Nat.le_refl _)) (HG.out.frm (HT.out _ HFW.out) (Nat.le_refl _))).mono ?_; rintro e w2 ⟨he, hf1⟩
  obtain ⟨a1, c1, o1, rfl, s1, _⟩ := HAK.out _ _ _ he
  have hfw := HFW.out.call hf1 HFW.out.size (by simp)
  obtain ⟨la, hla⟩ : ∃ l, l = A.length := ⟨_, rfl⟩
  rw [← hla] at s1 ⊢
  clear he hf1 HFW
  have HFW := Lib.hid hfw
  have S1 := Lib.hid s1
  have HLA := Lib.hid hla
  clear hla s1 hfw
  go_wp2_with (with_reducible refine atLoad 66 rfl ?_; refine wpList_loadE rfl rfl rfl (load_raw (HFW.out.blk K0.out K0.out.lt (by simp))) ?_)
  refine (refRow_any q R w2 (HP.out.frm (HT.out _ HFW.out) (Nat.le_refl _))).mono ?_; rintro e w3 ⟨he, hf1⟩
  obtain ⟨a2, c2, o2, rfl, s2⟩ := HAR.out _ _ he
  have hfw := HFW.out.call hf1 HFW.out.size (by simp)
  have s1 := S1.out.frm hf1 (fun b hb => S1.out.lt b hb) (by simp)
  rw [← HLA.out] at s2 ⊢
  clear he hf1 HFW S1
  have hin : ∀ V, Frm w3.heap.size [] w3 V → Calls Tryd.prog 17 #[.slice a1 la c1, .slice a2 la c2] V fun e w' => e = .returned (.bool true) ∧ Frm V.heap.size [] V w' := fun V hV => ints_sl (l := A) (by rw [← HLA.out]; exact s1.frm hV (fun b hb => s1.lt b hb) (by simp)) (by rw [← HLA.out]; exact s2.frm hV (fun b hb => s2.lt b hb) (by simp))
  have hlo : ∀ V, Frm w3.heap.size [] w3 V → (loadVar 66 ⟨c, 0, none⟩).run Tryd.prog V = .ok (.agg (rawC q R).toArray) V := fun V hV => load_raw ((hfw.call hV hfw.size (by simp)).blk K0.out K0.out.lt (by simp))
  have hfx : ∀ V, Frm w3.heap.size [] w3 V → True ∧ True := fun _ _ => ⟨trivial, trivial⟩
  have hkk : (k != k) = false := by simp
  obtain ⟨bb, hbb⟩ : ∃ b, b = (plannedO R).isSome := ⟨_, rfl⟩
  have hck : ∀ V, Frm w3.heap.size [] w3 V → Calls Tryd.prog 41 #[.agg (rawC q R).toArray] V fun e w' => e = .returned (.bool bb) ∧ Frm V.heap.size [] V w' := fun V hV => by
    rw [hbb]; exact checkSteps_any q R V (HP.out.frm (HT.out _ (hfw.call hV hfw.size (by simp))) (Nat.le_refl _)) (HG.out.frm (HT.out _ (hfw.call hV hfw.size (by simp))) (Nat.le_refl _))
  have hrc : ∀ V, Frm w3.heap.size [] w3 V → Calls Tryd.prog 33 #[.agg (rawC q R).toArray] V fun e w' => e = .returned (.bool bb) ∧ Frm V.heap.size [] V w' := fun V hV => by
    rw [hbb]; exact refCheck_any q R V (HP.out.frm (HT.out _ (hfw.call hV hfw.size (by simp))) (Nat.le_refl _))
  clear s1 s2 hbb
  have HFW := Lib.hid hfw
  have HIN := Lib.hid hin
  have HLO := Lib.hid hlo
  have HFX := Lib.hid hfx
  have HCK := Lib.hid hck
  have HRC := Lib.hid hrc
  clear hrc hck hfx hlo hin hfw
  go_upto_region 5 with fail
  go_cut [45] from 30 to 46 (fun s45 w' => s45 = .bool false ∧ Frm w3.heap.size [] w3 w')
  case first =>
    cases bb
    all_goals
      refine wp_region_leftL (fun V => Frm w3.heap.size [] w3 V) 1000 (by kernel_rfl) ?_
      have hS : Frm w3.heap.size [] w3 w3.drew := (Frm.refl _ _ w3).drew
      have HS := Lib.hid hS
      clear hS
      refine LeftL.take 0 rfl (by kernel_rfl) (fun _ _ d _ _ h => by cases d <;> exact h) (yields_loadE (ty := 66) rfl rfl rfl (HLO.out)) HS.out ?_; (intro K' hK'; go_simp; refine hK' _ ?_; clear hK' K')
      refine LeftL.take 2 rfl (by kernel_rfl) (fun _ _ d _ _ h => by cases d <;> exact h) (yields_loadE (ty := 66) rfl rfl rfl (HLO.out)) HS.out ?_; (intro K' hK'; go_simp; refine hK' _ ?_; clear hK' K')
      refine LeftL.one 1 rfl (by kernel_rfl) ?_
      go_wp2_with fail
      refine (HCK.out _ HS.out).mono ?_; rintro e V1 ⟨rfl, hf1⟩
      have hS1 := HS.out.call hf1 HS.out.size (by simp)
      clear hf1 HS
      have HS := Lib.hid hS1
      clear hS1
      go_wp2_with fail
      first | refine ⟨fun _ => HS.out, ?_⟩ | refine ⟨HS.out, ?_⟩
      refine LeftL.one 3 rfl (by kernel_rfl) ?_
      go_wp2_with fail
      refine (HRC.out _ HS.out).mono ?_; rintro e V2 ⟨rfl, hf1⟩
      have hS1 := HS.out.call hf1 HS.out.size (by simp)
      clear hf1 HS
      have HS := Lib.hid hS1
      clear hS1
      go_wp2_with fail
      first | refine ⟨fun _ => HS.out, ?_⟩ | refine ⟨HS.out, ?_⟩
      first | ((first | refine LeftL.tkF (v := ?_) 4 rfl HS.out ?_ ?_ | refine LeftL.tkG (v := ?_) 4 rfl HS.out ?_ ?_); rotate_left; (· intro V hV; obtain ⟨z1, z2⟩ := HFX.out V hV; clear hV; go_simp; rfl)) | refine LeftL.tkN 4 rfl HS.out ?_
      (intro K' hK'; go_simp; refine hK' _ ?_; clear hK' K')
      first | ((first | refine LeftL.tkF (v := ?_) 5 rfl HS.out ?_ ?_ | refine LeftL.tkG (v := ?_) 5 rfl HS.out ?_ ?_); rotate_left; (· intro V hV; obtain ⟨z1, z2⟩ := HFX.out V hV; clear hV; go_simp; rfl)) | refine LeftL.tkN 5 rfl HS.out ?_
      (intro K' hK'; go_simp; refine hK' _ ?_; clear hK' K')
      first | ((first | refine LeftL.tkF (v := ?_) 6 rfl HS.out ?_ ?_ | refine LeftL.tkG (v := ?_) 6 rfl HS.out ?_ ?_); rotate_left; (· intro V hV; obtain ⟨z1, z2⟩ := HFX.out V hV; clear hV; go_simp; rfl)) | refine LeftL.tkN 6 rfl HS.out ?_
      (intro K' hK'; go_simp; refine hK' _ ?_; clear hK' K')
      first | ((first | refine LeftL.tkF (v := ?_) 7 rfl HS.out ?_ ?_ | refine LeftL.tkG (v := ?_) 7 rfl HS.out ?_ ?_); rotate_left; (· intro V hV; obtain ⟨z1, z2⟩ := HFX.out V hV; clear hV; go_simp; rfl)) | refine LeftL.tkN 7 rfl HS.out ?_
      (intro K' hK'; go_simp; refine hK' _ ?_; clear hK' K')
      refine LeftL.one 8 rfl (by kernel_rfl) ?_
      go_wp2_with fail
      refine (HIN.out _ HS.out).mono ?_; rintro e V3 ⟨rfl, hf1⟩
      have hS1 := HS.out.call hf1 HS.out.size (by simp)
      clear hf1 HS
      have HS := Lib.hid hS1
      clear hS1
      go_wp2_with fail
      first | refine ⟨fun _ => HS.out, ?_⟩ | refine ⟨HS.out, ?_⟩
      first | ((first | refine LeftL.tkF (v := ?_) 9 rfl HS.out ?_ ?_ | refine LeftL.tkG (v := ?_) 9 rfl HS.out ?_ ?_); rotate_left; (· intro V hV; obtain ⟨z1, z2⟩ := HFX.out V hV; clear hV; go_simp; rfl)) | refine LeftL.tkN 9 rfl HS.out ?_
      (intro K' hK'; go_simp; refine hK' _ ?_; clear hK' K')
      first | ((first | refine LeftL.tkF (v := ?_) 10 rfl HS.out ?_ ?_ | refine LeftL.tkG (v := ?_) 10 rfl HS.out ?_ ?_); rotate_left; (· intro V hV; obtain ⟨z1, z2⟩ := HFX.out V hV; clear hV; go_simp; rfl)) | refine LeftL.tkN 10 rfl HS.out ?_
      (intro K' hK'; go_simp; refine hK' _ ?_; clear hK' K')
      first | ((first | refine LeftL.tkF (v := ?_) 11 rfl HS.out ?_ ?_ | refine LeftL.tkG (v := ?_) 11 rfl HS.out ?_ ?_); rotate_left; (· intro V hV; obtain ⟨z1, z2⟩ := HFX.out V hV; clear hV; go_simp; rfl)) | refine LeftL.tkN 11 rfl HS.out ?_
      (intro K' hK'; go_simp; refine hK' _ ?_; clear hK' K')
      first | ((first | refine LeftL.tkF (v := ?_) 12 rfl HS.out ?_ ?_ | refine LeftL.tkG (v := ?_) 12 rfl HS.out ?_ ?_); rotate_left; (· intro V hV; obtain ⟨z1, z2⟩ := HFX.out V hV; clear hV; go_simp; rfl)) | refine LeftL.tkN 12 rfl HS.out ?_
      (intro K' hK'; go_simp; refine hK' _ ?_; clear hK' K')
      first | ((first | refine LeftL.tkF (v := ?_) 13 rfl HS.out ?_ ?_ | refine LeftL.tkG (v := ?_) 13 rfl HS.out ?_ ?_); rotate_left; (· intro V hV; obtain ⟨z1, z2⟩ := HFX.out V hV; clear hV; go_simp; rfl)) | refine LeftL.tkN 13 rfl HS.out ?_
      (intro K' hK'; go_simp; refine hK' _ ?_; clear hK' K')
      first | ((first | refine LeftL.tkF (v := ?_) 14 rfl HS.out ?_ ?_ | refine LeftL.tkG (v := ?_) 14 rfl HS.out ?_ ?_); rotate_left; (· intro V hV; obtain ⟨z1, z2⟩ := HFX.out V hV; clear hV; go_simp; rfl)) | refine LeftL.tkN 14 rfl HS.out ?_
      (intro K' hK'; go_simp; refine hK' _ ?_; clear hK' K')
      first | ((first | refine LeftL.tkF (v := ?_) 15 rfl HS.out ?_ ?_ | refine LeftL.tkG (v := ?_) 15 rfl HS.out ?_ ?_); rotate_left; (· intro V hV; obtain ⟨z1, z2⟩ := HFX.out V hV; clear hV; go_simp; rfl)) | refine LeftL.tkN 15 rfl HS.out ?_
      (intro K' hK'; go_simp; refine hK' _ ?_; clear hK' K')
      refine LeftL.done (by kernel_rfl) ?_
      go_wp2_with fail
      go_meet
      case rel => exact ⟨rfl, HS.out⟩
  obtain ⟨rfl, hfc⟩ := hcut
  have hfw := HFW.out.call hfc HFW.out.size (by simp)
  obtain ⟨w4, hw4⟩ : ∃ V, V = wc := ⟨_, rfl⟩
  rw [← hw4] at hfw ⊢
  clear HFW hfc HIN HLO HFX HCK HRC hw4
  have k1 : w4.cell? ⟨c, 1, none⟩ = some (.slice q.sa n q.sc) := by have := hfw.blk K0.out K0.out.lt (by simp); rw [HRAW.out] at this; exact this.cell 1
  have HFW := Lib.hid hfw
  clear hfw
  by_cases h6 : 6 < n
  · have h6' : (6 : Int) < (n : Int) := by omega
    go_wp2_with (go_at_call 18; refine (awake_any _ (HG.out.frm (HT.out _ HFW.out) (Nat.le_refl _))).mono ?_; rintro e9 w9 ⟨rfl, hf9⟩; replace HFW := Lib.hid (HFW.out.call hf9 HFW.out.size (by simp)); clear hf9)
    go_ret
    exact ⟨rfl, HT.out _ HFW.out⟩
  have h6' : ¬ (6 : Int) < (n : Int) := by omega
  have hn6 : R.steps.length ≤ 6 := by have := HN.out; omega
  have HN6 := Lib.hid hn6
  clear hn6
  go_wp2_with (with_reducible refine atLoad 66 rfl ?_; refine wpList_loadE rfl rfl rfl (load_raw (HFW.out.blk K0.out K0.out.lt (by simp))) ?_)
  refine (sound_any q R w4 (HP.out.frm (HT.out _ HFW.out) (Nat.le_refl _)) (HG.out.frm (HT.out _ HFW.out) (Nat.le_refl _))).mono ?_; rintro e w5 ⟨he, hf1⟩
  obtain rfl := HSO.out e he
  have hfw := HFW.out.call hf1 HFW.out.size (by simp)
  clear he hf1 HFW k1
  have HFW := Lib.hid hfw
  clear hfw
  go_wp2_with (with_reducible refine atLoad 66 rfl ?_; refine wpList_loadE rfl rfl rfl (load_raw (HFW.out.blk K0.out K0.out.lt (by simp))) ?_)
  refine (refSound_any q R w5 HN6.out (HP.out.frm (HT.out _ HFW.out) (Nat.le_refl _))).mono ?_; rintro e w6 ⟨he, hf1⟩
  obtain rfl := HSO.out e he
  have hfw := HFW.out.call hf1 HFW.out.size (by simp)
  clear he hf1 HFW
  have HFW := Lib.hid hfw
  clear hfw
  go_wp2_with (with_reducible refine atLoad 66 rfl ?_; refine wpList_loadE rfl rfl rfl (load_raw (HFW.out.blk K0.out K0.out.lt (by simp))) ?_)
  refine (ends_any q R w6 (HP.out.frm (HT.out _ HFW.out) (Nat.le_refl _)) (HG.out.frm (HT.out _ HFW.out) (Nat.le_refl _))).mono ?_; rintro e w7 ⟨he, hf1⟩
  obtain ⟨a3, c3, o3, rfl, s3, _⟩ := HEJ.out _ _ _ he
  have hfw := HFW.out.call hf1 HFW.out.size (by simp)
  obtain ⟨le, hle⟩ : ∃ l, l = E.length := ⟨_, rfl⟩
  rw [← hle] at s3 ⊢
  clear he hf1 HFW
  have HFW := Lib.hid hfw
  have S3 := Lib.hid s3
  have HLE := Lib.hid hle
  clear hle s3 hfw
  go_wp2_with (with_reducible refine atLoad 66 rfl ?_; refine wpList_loadE rfl rfl rfl (load_raw (HFW.out.blk K0.out K0.out.lt (by simp))) ?_)
  refine (refEnds_any q R w7 HN6.out (HP.out.frm (HT.out _ HFW.out) (Nat.le_refl _))).mono ?_; rintro e w8 ⟨he, hf1⟩
  obtain ⟨a4, c4, o4, rfl, s4⟩ := HER.out _ _ he
  have hfw := HFW.out.call hf1 HFW.out.size (by simp)
  have s3 := S3.out.frm hf1 (fun b hb => S3.out.lt b hb) (by simp)
  rw [← HLE.out] at s4 ⊢
  have hin : Calls Tryd.prog 17 #[.slice a3 le c3, .slice a4 le c4] w8 fun e w' => e = .returned (.bool true) ∧ Frm w8.heap.size [] w8 w' := ints_sl (l := E) (by rw [← HLE.out]; exact s3) (by rw [← HLE.out]; exact s4)
  clear he hf1 HFW S3 s3 s4
  have HFW := Lib.hid hfw
  have HIN := Lib.hid hin
  clear hin hfw
  go_wp2_with (first | (go_at_call 17; refine HIN.out.mono ?_; rintro e9 w9 ⟨rfl, hf9⟩; replace HFW := Lib.hid (HFW.out.call hf9 HFW.out.size (by simp)); clear hf9) | (go_at_call 18; refine (awake_any _ (HG.out.frm (HT.out _ HFW.out) (Nat.le_refl _))).mono ?_; rintro e9 w9 ⟨rfl, hf9⟩; replace HFW := Lib.hid (HFW.out.call hf9 HFW.out.size (by simp)); clear hf9))
  go_ret
  exact ⟨rfl, HT.out _ HFW.out⟩
/-! the row -/
set_option maxRecDepth 100000 in
theorem careSteps_lifted (os : Os) (started : os.Started) (H : Type) (enc : TypeId × Value → H) :
    ReturnsInHanded {} Tryd.checked os 12 .any (fun w args => (Rows.careStepsSpec.pre enc Tryd.prog Tryd.f12 [] false w args ∧ laidMetH Tryd.prog laidR w) ∧ sizedMet enc Tryd.prog Tryd.f12 (OpenSpec.ofChange Rows.careStepsSpec) false w args) (Rows.careStepsSpec.post enc Tryd.prog Tryd.f12 false true false false) := by
  refine law_liftL (fn := Tryd.f12) (s := Rows.careStepsSpec) started 1 (by kernel_rfl) Tryd.func12
      (ChangeSpec.witness_shaped (enc := enc) (C := Tryd.checked) (os := os) (X := fun w _ => laidMetH Tryd.prog laidR w) false (World.doorLaid Tryd.prog 400 os)
        #[.agg #[.slice none 0 0, .slice none 0 0, .slice none 0 0]] 8 rfl
        (World.shaped_of_RefB (by kernel_rfl) (by kernel_rfl)) (by kernel_rfl) (by kernel_rfl) (by kernel_rfl) (door_met os _))
      (by rw [Tryd.params12]; decide +kernel) (by rw [Tryd.params12]; rfl) (by kernel_rfl) rfl (fun ds h => by match ds, h with | [d1], _ => rfl) ?_
  intro W base args ds ps hval hA hgl
  rw [Tryd.params12] at hA hval
  obtain ⟨v0, vs0, d0, ds0, p0, q0, hargs, rfl, rfl, h0, r0⟩ := trodAll_cons hA
  obtain ⟨rfl, rfl, rfl⟩ := trodAll_nil r0
  obtain rfl : args = #[v0] := by cases args; simp_all
  obtain ⟨q, R, rfl, hr⟩ := open_plan (hval 0 66 v0 rfl rfl) h0
  exact steps_walk q R W hr hgl

theorem careSteps_over : Rows.CareStepsSaid :=
  OpenClaim.holds_of_wide 12 Tryd.f12 rfl rfl rfl rfl rfl rfl rfl ⟨rfl, rfl, rfl, rfl, rfl⟩ rfl rfl rfl rfl rfl (by kernel_rfl) Tryd.func12 (by kernel_rfl)
    (of_decide_eq_true (by kernel_rfl)) (by unfold Func.isWrapper; first | (rw [if_pos (by decide +kernel)]; kernel_rfl) | (rw [if_neg (by decide +kernel)]; exact ⟨rfl, rfl⟩))
    (fun os started H enc _ => careSteps_lifted os started H enc)
end Go.Proofs.YtfmigicmfolbjaaDoor
