/-
  The time of a way, and what is burnt.
-/
import Derived.Test.YtghkfopcjdkieaaDoorU3
namespace Go.Proofs.YtghkfopcjdkieaaDoor
set_option linter.all false
set_option linter.unusedSimpArgs false
set_option linter.unusedVariables false
open Go.RowKit

theorem wayZ_in {s : Int} (h0 : 0 ≤ s) (h1 : s ≤ 4503599627370496) : 0 ≤ wayZ s ∧ wayZ s ≤ 67108864 := by
  have hr := wayZ_root h1
  refine ⟨hr.pos, ?_⟩
  rcases Int.lt_or_le 67108864 (wayZ s) with h | h
  · have h2 := hr.low (by omega)
    have h3 : (67108864 : Int) * 67108864 ≤ (wayZ s - 1) * (wayZ s - 1) := Int.mul_le_mul (by omega) (by omega) (by omega) (by omega)
    omega
  · exact h
def takesZ (speed x y u v : Int) : Int := ceilZ (wayZ (sqZ x y u v) * 3600) speed
def burnsZ (burn t : Int) : Int := ceilZ (burn * t) 3600
theorem takesZ_in {speed x y u v : Int} (hs : 1 ≤ speed) (h : placeB x y = true) (k : placeB u v = true) : 0 ≤ takesZ speed x y u v ∧ takesZ speed x y u v ≤ 241591910400 := by
  have hq := sqZ_in h k
  have hw := wayZ_in hq.1 hq.2
  unfold takesZ ceilZ
  refine ⟨Int.ediv_nonneg (by omega) (by omega), ?_⟩
  refine Int.le_of_lt_add_one (Int.ediv_lt_of_lt_mul (by omega) ?_)
  have h1 : (241591910400 : Int) * 1 ≤ 241591910400 * speed := Int.mul_le_mul_of_nonneg_left hs (by omega)
  rw [Int.add_mul, Int.one_mul]
  omega

set_option maxRecDepth 100000 in
set_option maxHeartbeats 4000000 in
theorem takes_any (c : UC) (x y u v : Int) (w : World) (hs : 1 ≤ c.speed ∧ c.speed ≤ 1000000) (h : placeB x y = true) (k : placeB u v = true) :
    Calls Tryd.prog 84 #[.agg c.cells.toArray, .agg #[.int .i64 x, .int .i64 y], .agg #[.int .i64 u, .int .i64 v]] w fun e w' => e = .returned (.int .i64 (takesZ c.speed x y u v)) ∧ Frm w.heap.size [] w w' := by
  have hq := sqZ_in h k
  have hwi := wayZ_in hq.1 hq.2
  have hw := fun W => way_place x y u v W h k
  obtain ⟨r, hr⟩ : ∃ r, wayZ (sqZ x y u v) = r := ⟨_, rfl⟩
  obtain ⟨sp, hsp⟩ : ∃ sp, c.speed = sp := ⟨_, rfl⟩
  unfold takesZ
  rw [hr] at hw hwi ⊢
  rw [hsp] at hs ⊢
  have hce := fun W => ceil_any (r * 3600) sp W (by omega) (by omega) hs.1 (by omega)
  have hwr : IntKind.i64.wrap (r * 3600) = r * 3600 := IntWalk.i64_in _ (by omega)
  have HH := Lib.hid h
  have HK := Lib.hid k
  have HW := Lib.hid hw
  have HR := Lib.hid hr
  have HSP := Lib.hid hsp
  have HQ := Lib.hid hq
  have HCE := Lib.hid hce
  clear hce hq hsp hr hw k h
  go_enter Tryd.func84, Tryd.ntmps84
  iterate 16 go_step
  refine named ?_; intro W hW
  have hb : Blk W w.heap.size 25 c.cells := by rw [hW]; repeat (first | exact Blk.new w 25 c.cells | refine Blk.alloc' ?_)
  have hx1 : Blk W (w.heap.size + 1) 23 [.int .i64 x, .int .i64 y] := by rw [hW]; refine Blk.alloc' ?_; exact Blk.new' _ 23 [.int .i64 x, .int .i64 y] (by simp)
  have hx2 : Blk W (w.heap.size + 1 + 1) 23 [.int .i64 u, .int .i64 v] := by rw [hW]; exact Blk.new' _ 23 [.int .i64 u, .int .i64 v] (by simp)
  have hf : Frm w.heap.size [] w W := by rw [hW]; repeat (first | with_reducible exact Frm.refl _ _ _ | with_reducible refine Frm.drewN ?_ | with_reducible refine Frm.drew ?_ | ((with_reducible refine Frm.setCell' ?_ ?_); · first | (left; simp; done) | (right; simp; done) | (right; simp; omega)) | ((with_reducible refine Frm.alloc' ?_ ?_); · first | exact Nat.le_refl _ | (simp; done) | (simp; omega)))
  clear hW
  have hfx : ∀ V, Frm W.heap.size [] W V → V.cell? ⟨w.heap.size, 1, none⟩ = some (.int .i64 sp) ∧ V.cell? ⟨w.heap.size + 1, 0, none⟩ = some (.int .i64 x) ∧ V.cell? ⟨w.heap.size + 1, 1, none⟩ = some (.int .i64 y) ∧ V.cell? ⟨w.heap.size + 1 + 1, 0, none⟩ = some (.int .i64 u) ∧ V.cell? ⟨w.heap.size + 1 + 1, 1, none⟩ = some (.int .i64 v) := fun V hV => by
    have b0 := hV.blk hb hb.lt (by simp)
    have b1 := hV.blk hx1 hx1.lt (by simp)
    have b2 := hV.blk hx2 hx2.lt (by simp)
    exact ⟨by rw [← HSP.out]; exact b0.cell 1, b1.cell 0, b1.cell 1, b2.cell 0, b2.cell 1⟩
  have HB := Lib.hid hb
  have HX1 := Lib.hid hx1
  have HX2 := Lib.hid hx2
  have HF := Lib.hid hf
  have HFX := Lib.hid hfx
  clear hfx hf hx2 hx1 hb
  go_wp2_with fail
  refine wp_region_leftL (fun V => Frm W.heap.size [] W V) 100 (by kernel_rfl) ?_
  have hS : Frm W.heap.size [] W W.drew := (Frm.refl _ _ W).drew
  have HS := Lib.hid hS
  clear hS
  refine LeftL.run (v := ?_) 0 rfl (by kernel_rfl) rfl (fun _ _ d _ _ h => by cases d <;> exact h) ?_ HS.out ?_; rotate_left; (· intro V hV; obtain ⟨q0, q1, q2, q3, q4⟩ := HFX.out V hV; clear hV; go_simp; rfl); (intro K' hK'; go_simp; refine hK' _ ?_; clear hK' K')
  refine LeftL.run (v := ?_) 1 rfl (by kernel_rfl) rfl (fun _ _ d _ _ h => by cases d <;> exact h) ?_ HS.out ?_; rotate_left; (· intro V hV; obtain ⟨q0, q1, q2, q3, q4⟩ := HFX.out V hV; clear hV; go_simp; rfl); (intro K' hK'; go_simp; refine hK' _ ?_; clear hK' K')
  refine LeftL.run (v := ?_) 4 rfl (by kernel_rfl) rfl (fun _ _ d _ _ h => by cases d <;> exact h) ?_ HS.out ?_; rotate_left; (· intro V hV; obtain ⟨q0, q1, q2, q3, q4⟩ := HFX.out V hV; clear hV; go_simp; rfl); (intro K' hK'; go_simp; refine hK' _ ?_; clear hK' K')
  refine LeftL.run (v := ?_) 5 rfl (by kernel_rfl) rfl (fun _ _ d _ _ h => by cases d <;> exact h) ?_ HS.out ?_; rotate_left; (· intro V hV; obtain ⟨q0, q1, q2, q3, q4⟩ := HFX.out V hV; clear hV; go_simp; rfl); (intro K' hK'; go_simp; refine hK' _ ?_; clear hK' K')
  refine LeftL.one 2 rfl (by kernel_rfl) ?_
  go_wp2_with fail
  refine (HW.out _).mono ?_; rintro e w1 ⟨rfl, hf1⟩
  have hS1 : Frm W.heap.size [] W w1 := (HS.out).call hf1 (Nat.le_refl _) (by simp)
  clear HS hf1
  have HS := Lib.hid hS1
  clear hS1
  go_wp2_with fail
  first | refine ⟨fun _ => HS.out, ?_⟩ | refine ⟨HS.out, ?_⟩
  refine LeftL.run (v := ?_) 3 rfl (by kernel_rfl) rfl (fun _ _ d _ _ h => by cases d <;> exact h) ?_ HS.out ?_; rotate_left; (· intro V hV; obtain ⟨q0, q1, q2, q3, q4⟩ := HFX.out V hV; clear hV; go_simp; rfl); (intro K' hK'; go_simp; refine hK' _ ?_; clear hK' K')
  refine LeftL.one 6 rfl (by kernel_rfl) ?_
  go_wp2_with fail
  refine (HCE.out _).mono ?_; rintro e w2 ⟨rfl, rfl⟩
  go_wp2_with fail
  first | refine ⟨fun _ => HS.out, ?_⟩ | refine ⟨HS.out, ?_⟩
  refine LeftL.one 7 rfl (by kernel_rfl) ?_
  go_wp2_with fail
  first | refine ⟨fun _ => HS.out, ?_⟩ | refine ⟨HS.out, ?_⟩
  refine LeftL.done (by kernel_rfl) ?_
  go_wp2_with fail
  go_ret
  exact ⟨rfl, HF.out.call HS.out HF.out.size (by simp)⟩
set_option maxRecDepth 100000 in
set_option maxHeartbeats 4000000 in
theorem refTakes_any (c : UC) (x y u v : Int) (w : World) (hs : 1 ≤ c.speed ∧ c.speed ≤ 1000000) (h : placeB x y = true) (k : placeB u v = true) :
    Calls Tryd.prog 96 #[.agg c.cells.toArray, .agg #[.int .i64 x, .int .i64 y], .agg #[.int .i64 u, .int .i64 v]] w fun e w' => e = .returned (.int .i64 (takesZ c.speed x y u v)) ∧ Frm w.heap.size [] w w' := by
  have hq := sqZ_in h k
  have hwi := wayZ_in hq.1 hq.2
  have hw := fun W => refWay_place x y u v W h k
  obtain ⟨r, hr⟩ : ∃ r, wayZ (sqZ x y u v) = r := ⟨_, rfl⟩
  obtain ⟨sp, hsp⟩ : ∃ sp, c.speed = sp := ⟨_, rfl⟩
  unfold takesZ
  rw [hr] at hw hwi ⊢
  rw [hsp] at hs ⊢
  have hce := fun W => refUp_any (r * 3600) sp W (by omega) (by omega) hs.1 (by omega)
  have hwr : IntKind.i64.wrap (r * 3600) = r * 3600 := IntWalk.i64_in _ (by omega)
  have HH := Lib.hid h
  have HK := Lib.hid k
  have HW := Lib.hid hw
  have HR := Lib.hid hr
  have HSP := Lib.hid hsp
  have HQ := Lib.hid hq
  have HCE := Lib.hid hce
  clear hce hq hsp hr hw k h
  go_enter Tryd.func96, Tryd.ntmps96
  iterate 16 go_step
  refine named ?_; intro W hW
  have hb : Blk W w.heap.size 25 c.cells := by rw [hW]; repeat (first | exact Blk.new w 25 c.cells | refine Blk.alloc' ?_)
  have hx1 : Blk W (w.heap.size + 1) 23 [.int .i64 x, .int .i64 y] := by rw [hW]; refine Blk.alloc' ?_; exact Blk.new' _ 23 [.int .i64 x, .int .i64 y] (by simp)
  have hx2 : Blk W (w.heap.size + 1 + 1) 23 [.int .i64 u, .int .i64 v] := by rw [hW]; exact Blk.new' _ 23 [.int .i64 u, .int .i64 v] (by simp)
  have hf : Frm w.heap.size [] w W := by rw [hW]; repeat (first | with_reducible exact Frm.refl _ _ _ | with_reducible refine Frm.drewN ?_ | with_reducible refine Frm.drew ?_ | ((with_reducible refine Frm.setCell' ?_ ?_); · first | (left; simp; done) | (right; simp; done) | (right; simp; omega)) | ((with_reducible refine Frm.alloc' ?_ ?_); · first | exact Nat.le_refl _ | (simp; done) | (simp; omega)))
  clear hW
  have hfx : ∀ V, Frm W.heap.size [] W V → V.cell? ⟨w.heap.size, 1, none⟩ = some (.int .i64 sp) ∧ V.cell? ⟨w.heap.size + 1, 0, none⟩ = some (.int .i64 x) ∧ V.cell? ⟨w.heap.size + 1, 1, none⟩ = some (.int .i64 y) ∧ V.cell? ⟨w.heap.size + 1 + 1, 0, none⟩ = some (.int .i64 u) ∧ V.cell? ⟨w.heap.size + 1 + 1, 1, none⟩ = some (.int .i64 v) := fun V hV => by
    have b0 := hV.blk hb hb.lt (by simp)
    have b1 := hV.blk hx1 hx1.lt (by simp)
    have b2 := hV.blk hx2 hx2.lt (by simp)
    exact ⟨by rw [← HSP.out]; exact b0.cell 1, b1.cell 0, b1.cell 1, b2.cell 0, b2.cell 1⟩
  have HB := Lib.hid hb
  have HX1 := Lib.hid hx1
  have HX2 := Lib.hid hx2
  have HF := Lib.hid hf
  have HFX := Lib.hid hfx
  clear hfx hf hx2 hx1 hb
  go_wp2_with fail
  refine wp_region_leftL (fun V => Frm W.heap.size [] W V) 100 (by kernel_rfl) ?_
  have hS : Frm W.heap.size [] W W.drew := (Frm.refl _ _ W).drew
  have HS := Lib.hid hS
  clear hS
  refine LeftL.run (v := ?_) 0 rfl (by kernel_rfl) rfl (fun _ _ d _ _ h => by cases d <;> exact h) ?_ HS.out ?_; rotate_left; (· intro V hV; obtain ⟨q0, q1, q2, q3, q4⟩ := HFX.out V hV; clear hV; go_simp; rfl); (intro K' hK'; go_simp; refine hK' _ ?_; clear hK' K')
  refine LeftL.run (v := ?_) 1 rfl (by kernel_rfl) rfl (fun _ _ d _ _ h => by cases d <;> exact h) ?_ HS.out ?_; rotate_left; (· intro V hV; obtain ⟨q0, q1, q2, q3, q4⟩ := HFX.out V hV; clear hV; go_simp; rfl); (intro K' hK'; go_simp; refine hK' _ ?_; clear hK' K')
  refine LeftL.run (v := ?_) 4 rfl (by kernel_rfl) rfl (fun _ _ d _ _ h => by cases d <;> exact h) ?_ HS.out ?_; rotate_left; (· intro V hV; obtain ⟨q0, q1, q2, q3, q4⟩ := HFX.out V hV; clear hV; go_simp; rfl); (intro K' hK'; go_simp; refine hK' _ ?_; clear hK' K')
  refine LeftL.run (v := ?_) 5 rfl (by kernel_rfl) rfl (fun _ _ d _ _ h => by cases d <;> exact h) ?_ HS.out ?_; rotate_left; (· intro V hV; obtain ⟨q0, q1, q2, q3, q4⟩ := HFX.out V hV; clear hV; go_simp; rfl); (intro K' hK'; go_simp; refine hK' _ ?_; clear hK' K')
  refine LeftL.one 2 rfl (by kernel_rfl) ?_
  go_wp2_with fail
  refine (HW.out _).mono ?_; rintro e w1 ⟨rfl, hf1⟩
  have hS1 : Frm W.heap.size [] W w1 := (HS.out).call hf1 (Nat.le_refl _) (by simp)
  clear HS hf1
  have HS := Lib.hid hS1
  clear hS1
  go_wp2_with fail
  first | refine ⟨fun _ => HS.out, ?_⟩ | refine ⟨HS.out, ?_⟩
  refine LeftL.run (v := ?_) 3 rfl (by kernel_rfl) rfl (fun _ _ d _ _ h => by cases d <;> exact h) ?_ HS.out ?_; rotate_left; (· intro V hV; obtain ⟨q0, q1, q2, q3, q4⟩ := HFX.out V hV; clear hV; go_simp; rfl); (intro K' hK'; go_simp; refine hK' _ ?_; clear hK' K')
  refine LeftL.one 6 rfl (by kernel_rfl) ?_
  go_wp2_with fail
  refine (HCE.out _).mono ?_; rintro e w2 ⟨rfl, rfl⟩
  go_wp2_with fail
  first | refine ⟨fun _ => HS.out, ?_⟩ | refine ⟨HS.out, ?_⟩
  refine LeftL.one 7 rfl (by kernel_rfl) ?_
  go_wp2_with fail
  first | refine ⟨fun _ => HS.out, ?_⟩ | refine ⟨HS.out, ?_⟩
  refine LeftL.done (by kernel_rfl) ?_
  go_wp2_with fail
  go_ret
  exact ⟨rfl, HF.out.call HS.out HF.out.size (by simp)⟩

set_option maxHeartbeats 1000000 in
theorem burns_any (c : UC) (t : Int) (w : World) (hb0 : 0 ≤ c.burn ∧ c.burn ≤ 1048576) (ht : 0 ≤ t ∧ t ≤ 1000000000000) :
    Calls Tryd.prog 95 #[.agg c.cells.toArray, .int .i64 t] w fun e w' => e = .returned (.int .i64 (burnsZ c.burn t)) ∧ Frm w.heap.size [] w w' := by
  obtain ⟨bn, hbn⟩ : ∃ bn, c.burn = bn := ⟨_, rfl⟩
  unfold burnsZ
  rw [hbn] at hb0 ⊢
  have p0 : 0 ≤ bn * t := Int.mul_nonneg hb0.1 ht.1
  have p1 : bn * t ≤ 1048576 * 1000000000000 := Int.mul_le_mul hb0.2 ht.2 ht.1 (by omega)
  obtain ⟨pr, hpr⟩ : ∃ pr, bn * t = pr := ⟨_, rfl⟩
  have hce := fun W => ceil_any (bn * t) 3600 W p0 (by omega) (by omega) (by omega)
  have hwr : IntKind.i64.wrap (bn * t) = bn * t := IntWalk.i64_in _ (by omega)
  rw [hpr] at hce p0 p1 ⊢
  have HBN := Lib.hid hbn
  have HCE := Lib.hid hce
  clear hce hbn
  go_enter Tryd.func95, Tryd.ntmps95
  iterate 10 go_step
  refine named ?_; intro W hW
  have hb : Blk W w.heap.size 25 c.cells := by rw [hW]; repeat (first | exact Blk.new w 25 c.cells | refine Blk.alloc' ?_)
  have hf : Frm w.heap.size [] w W := by rw [hW]; repeat (first | with_reducible exact Frm.refl _ _ _ | with_reducible refine Frm.drewN ?_ | with_reducible refine Frm.drew ?_ | ((with_reducible refine Frm.setCell' ?_ ?_); · first | (left; simp; done) | (right; simp; done) | (right; simp; omega)) | ((with_reducible refine Frm.alloc' ?_ ?_); · first | exact Nat.le_refl _ | (simp; done) | (simp; omega)))
  clear hW
  have c3 : W.cell? ⟨w.heap.size, 3, none⟩ = some (.int .i64 bn) := by rw [← HBN.out]; exact hb.cell 3
  have HB := Lib.hid hb
  have HF := Lib.hid hf
  clear hf hb
  go_wp2_with (go_at_call 70; refine (HCE.out _).mono ?_; rintro e w2 ⟨rfl, rfl⟩)
  go_ret
  exact ⟨rfl, HF.out⟩

set_option maxHeartbeats 1000000 in
theorem refBurns_any (c : UC) (t : Int) (w : World) (hb0 : 0 ≤ c.burn ∧ c.burn ≤ 1048576) (ht : 0 ≤ t ∧ t ≤ 1000000000000) :
    Calls Tryd.prog 97 #[.agg c.cells.toArray, .int .i64 t] w fun e w' => e = .returned (.int .i64 (burnsZ c.burn t)) ∧ Frm w.heap.size [] w w' := by
  obtain ⟨bn, hbn⟩ : ∃ bn, c.burn = bn := ⟨_, rfl⟩
  unfold burnsZ
  rw [hbn] at hb0 ⊢
  have p0 : 0 ≤ bn * t := Int.mul_nonneg hb0.1 ht.1
  have p1 : bn * t ≤ 1048576 * 1000000000000 := Int.mul_le_mul hb0.2 ht.2 ht.1 (by omega)
  obtain ⟨pr, hpr⟩ : ∃ pr, bn * t = pr := ⟨_, rfl⟩
  have hce := fun W => refUp_any (bn * t) 3600 W p0 (by omega) (by omega) (by omega)
  have hwr : IntKind.i64.wrap (bn * t) = bn * t := IntWalk.i64_in _ (by omega)
  rw [hpr] at hce p0 p1 ⊢
  have HBN := Lib.hid hbn
  have HCE := Lib.hid hce
  clear hce hbn
  go_enter Tryd.func97, Tryd.ntmps97
  iterate 10 go_step
  refine named ?_; intro W hW
  have hb : Blk W w.heap.size 25 c.cells := by rw [hW]; repeat (first | exact Blk.new w 25 c.cells | refine Blk.alloc' ?_)
  have hf : Frm w.heap.size [] w W := by rw [hW]; repeat (first | with_reducible exact Frm.refl _ _ _ | with_reducible refine Frm.drewN ?_ | with_reducible refine Frm.drew ?_ | ((with_reducible refine Frm.setCell' ?_ ?_); · first | (left; simp; done) | (right; simp; done) | (right; simp; omega)) | ((with_reducible refine Frm.alloc' ?_ ?_); · first | exact Nat.le_refl _ | (simp; done) | (simp; omega)))
  clear hW
  have c3 : W.cell? ⟨w.heap.size, 3, none⟩ = some (.int .i64 bn) := by rw [← HBN.out]; exact hb.cell 3
  have HB := Lib.hid hb
  have HF := Lib.hid hf
  clear hf hb
  go_wp2_with (go_at_call 72; refine (HCE.out _).mono ?_; rintro e w2 ⟨rfl, rfl⟩)
  go_ret
  exact ⟨rfl, HF.out⟩
end Go.Proofs.YtghkfopcjdkieaaDoor
