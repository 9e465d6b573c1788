/-
  A unit under way: what is wrong with a step.
-/
import Derived.Test.YtghkfopcjdkieaaDoorU11
namespace Go.Proofs.YtghkfopcjdkieaaDoor
set_option linter.all false
set_option linter.unusedSimpArgs false
set_option linter.unusedVariables false
open Go.RowKit

theorem yields_loadE {P : Program} {ops : Array Oper} {S : World → Prop} {o : Oper} {a : Act} (hgd : o.guard = none) {ty : TypeId} {x : Operand} (ho : o.op = .load ty x)
    {ad : Addr} {v : Value} (hx : a.eval x = .pointer (some ad)) (hl : ∀ w, S w → (loadVar ty ad).run P w = .ok v w) :
    YieldsIf P ops S o v a :=
  .inl ⟨by simp [Region.wanted, hgd], fun w hw => by
    unfold execOp
    simp only [ho, hx, Instr.loadAt, Instr.sureAddr, Sem.run_bind, Sem.run_pure, Result.andThen_ok, hl w hw]⟩
theorem LeftL.runG {P : Program} {l : List Oper} {Q : Exit → Act → World → Prop} {S : World → Prop} {t : Nat} {done : List Nat} {a : Act} {w : World} (i : Nat) {o : Oper} {v : Value} (ho : l[i]? = some o) (hB : takeC l t done i = true) (hw : Region.wanted o (yielded l.toArray a.tmps) = true)
    (hQ : ∀ c a d v w, Q (.panic c) (a.put d v) w → Q (.panic c) a w) (hy : ∀ w, S w → (execOp a.eval o).run P w = .ok (.value v) w) (hS : S w)
    (h : ∀ K' : Act → Prop, (∀ a, LeftL P l Q S t (done ++ [i]) a w → K' a) → K' (a.put o.dst v)) : LeftL P l Q S t done a w :=
  LeftL.take i ho hB hQ (.inl ⟨hw, hy⟩) hS h

/-- A leg. -/
structure LC where
  fx : Int
  fy : Int
  tx : Int
  ty : Int
  start : Int
  arrive : Int
  leave : Int
  fuel : Int
def LC.cells (f : LC) : List Value := [.int .i64 f.fx, .int .i64 f.fy, .int .i64 f.tx, .int .i64 f.ty, .int .i64 f.start, .int .i64 f.arrive, .int .i64 f.leave, .int .i64 f.fuel]
theorem info49 : (Tryd.prog.info? 49).map (fun i => i.size) = some 8 := by kernel_rfl
/-- Where a unit is. -/
structure GC where
  x : Int
  y : Int
  time : Int
  fuel : Int
def tripC (u : UC) (sv : Value) (since : Int) (g : GC) : List Value := u.cells ++ [sv, .int .i64 g.x, .int .i64 g.y, .int .i64 since, .int .i64 g.time, .int .i64 g.fuel]
theorem info103 : (Tryd.prog.info? 103).map (fun i => i.size) = some 18 := by kernel_rfl
def stepC (T : Nat) (l : LC) (back : Int) : List Value := [.pointer (some ⟨T, 0, none⟩)] ++ l.cells ++ [.int .i64 back]
theorem info141 : (Tryd.prog.info? 141).map (fun i => i.size) = some 10 := by kernel_rfl
/-- The unit in a trip. -/
theorem load_unit {W : World} {T : Nat} {u : UC} {sv : Value} {since : Int} {g : GC} (h : Blk W T 103 (tripC u sv since g)) : (loadVar 25 ⟨T, 0, none⟩).run Tryd.prog W = .ok (.agg u.cells.toArray) W :=
  run_loadVar_mid W T 0 25 u.cells _ (fun j v hv => by
    have := h.cell j
    unfold tripC at this
    rw [List.getElem?_append_left (List.getElem?_eq_some_iff.1 hv).1] at this
    rw [Nat.zero_add, this, hv]) Tryd.underlying25 rfl info25

theorem burnsZ_in {b t : Int} (hb : 0 ≤ b ∧ b ≤ 1048576) (ht : 0 ≤ t ∧ t ≤ 1000000000000) : 0 ≤ burnsZ b t ∧ burnsZ b t ≤ 1152921504606846976 := by
  have h0 : 0 ≤ b * t := Int.mul_nonneg hb.1 ht.1
  have h1 : b * t ≤ 1048576 * 1000000000000 := Int.mul_le_mul hb.2 ht.2 ht.1 (by omega)
  unfold burnsZ ceilZ
  omega

/-- Have two intervals something in common? -/
def overB (a b c d : Int) : Bool := decide (a ≤ d) && decide (c ≤ b)
set_option maxHeartbeats 4000000 in
theorem overlap_any (a b c d : Int) (w : World) : Calls Tryd.prog 100 #[.int .i64 a, .int .i64 b, .int .i64 c, .int .i64 d] w fun e w' => e = .returned (.bool (overB a b c d)) ∧ w = w' := by
  by_cases h : a ≤ d
  · go_enter Tryd.func100, Tryd.ntmps100
    go_wp2_with fail
    go_ret
    exact ⟨by simp [overB]; omega, rfl⟩
  · go_enter Tryd.func100, Tryd.ntmps100
    go_wp2_with fail
    go_ret
    exact ⟨by simp [overB]; omega, rfl⟩

/-- The home-coming's time. -/
def homeZ (l : LC) (back : Int) : Int := l.leave + back
set_option maxRecDepth 100000 in
set_option maxHeartbeats 4000000 in
theorem home_any (T : Nat) (l : LC) (back : Int) (w : World) (h0 : 0 ≤ l.leave ∧ l.leave ≤ 1000000000000) (h1 : 0 ≤ back ∧ back ≤ 1000000000000) :
    Calls Tryd.prog 125 #[.agg (stepC T l back).toArray] w fun e w' => e = .returned (.int .i64 (homeZ l back)) ∧ Frm w.heap.size [] w w' := by
  have hf0 := Tryd.func125
  go_enter Tryd.func125, Tryd.ntmps125
  iterate 10 go_step
  refine named ?_; intro W hW
  have hb : Blk W w.heap.size 141 (stepC T l back) := by rw [hW]; repeat (first | exact Blk.new w 141 (stepC T l back) | refine Blk.alloc' ?_)
  have hf : Frm w.heap.size [] w W := by rw [hW]; repeat (first | with_reducible exact Frm.refl _ _ _ | with_reducible refine Frm.drewN ?_ | with_reducible refine Frm.drew ?_ | ((with_reducible refine Frm.setCell' ?_ ?_); · first | (left; simp; done) | (right; simp; done) | (right; simp; omega)) | ((with_reducible refine Frm.alloc' ?_ ?_); · first | exact Nat.le_refl _ | (simp; done) | (simp; omega)))
  clear hW hf0
  have c7 : W.cell? ⟨w.heap.size, 7, none⟩ = some (.int .i64 l.leave) := hb.cell 7
  have c9 : W.cell? ⟨w.heap.size, 9, none⟩ = some (.int .i64 back) := hb.cell 9
  have HB := Lib.hid hb
  have HF := Lib.hid hf
  clear hf hb
  go_wp2_with fail
  go_ret
  exact ⟨rfl, HF.out⟩
set_option maxRecDepth 100000 in
set_option maxHeartbeats 4000000 in
theorem late_any (T : Nat) (l : LC) (back : Int) (w : World) (h0 : 0 ≤ l.leave ∧ l.leave ≤ 1000000000000) (h1 : 0 ≤ back ∧ back ≤ 1000000000000) :
    Calls Tryd.prog 101 #[.agg (stepC T l back).toArray] w fun e w' => e = .returned (.bool (decide (1073741824 < homeZ l back))) ∧ Frm w.heap.size [] w w' := by
  have hf0 := Tryd.func101
  have hs : (Tryd.prog.info? 141).map (fun i => i.size) = some (stepC T l back).length := info141
  have HSI := Lib.hid hs
  clear hs
  go_enter Tryd.func101, Tryd.ntmps101
  iterate 10 go_step
  refine named ?_; intro W hW
  have hb : Blk W w.heap.size 141 (stepC T l back) := by rw [hW]; repeat (first | exact Blk.new w 141 (stepC T l back) | refine Blk.alloc' ?_)
  have hf : Frm w.heap.size [] w W := by rw [hW]; repeat (first | with_reducible exact Frm.refl _ _ _ | with_reducible refine Frm.drewN ?_ | with_reducible refine Frm.drew ?_ | ((with_reducible refine Frm.setCell' ?_ ?_); · first | (left; simp; done) | (right; simp; done) | (right; simp; omega)) | ((with_reducible refine Frm.alloc' ?_ ?_); · first | exact Nat.le_refl _ | (simp; done) | (simp; omega)))
  clear hW hf0
  have HB := Lib.hid hb
  have HF := Lib.hid hf
  clear hf hb
  go_wp2_with (with_reducible refine atLoad 141 rfl ?_; refine wpList_loadB (ty := 141) rfl rfl HB.out rfl Tryd.underlying141 rfl HSI.out ?_)
  refine (home_any T l back W h0 h1).mono ?_; rintro e w1 ⟨rfl, hf1⟩
  have hw1 := HF.out.call hf1 HF.out.size (by simp)
  clear hf1
  obtain ⟨z, hz⟩ : ∃ z, z = homeZ l back := ⟨_, rfl⟩
  rw [← hz]
  have HW1 := Lib.hid hw1
  have HZ := Lib.hid hz
  clear hz hw1
  go_wp2_with fail
  go_ret
  exact ⟨by simp [HZ.out], HW1.out⟩
set_option maxRecDepth 100000 in
set_option maxHeartbeats 4000000 in
theorem tired_any (T : Nat) (l : LC) (back : Int) (u : UC) (sv : Value) (since : Int) (g : GC) (w : World) (hT : Blk w T 103 (tripC u sv since g)) (h0 : 0 ≤ l.leave ∧ l.leave ≤ 1000000000000) (h1 : 0 ≤ back ∧ back ≤ 1000000000000)
    (h2 : 0 ≤ since ∧ since ≤ 1073741824) :
    Calls Tryd.prog 103 #[.agg (stepC T l back).toArray] w fun e w' => e = .returned (.bool (decide (u.hours < homeZ l back - since))) ∧ Frm w.heap.size [] w w' := by
  have hf0 := Tryd.func103
  have hs : (Tryd.prog.info? 141).map (fun i => i.size) = some (stepC T l back).length := info141
  have hz0 : 0 ≤ homeZ l back ∧ homeZ l back ≤ 2000000000000 := by unfold homeZ; omega
  have HSI := Lib.hid hs
  clear hs
  go_enter Tryd.func103, Tryd.ntmps103
  iterate 10 go_step
  refine named ?_; intro W hW
  have hb : Blk W w.heap.size 141 (stepC T l back) := by rw [hW]; repeat (first | exact Blk.new w 141 (stepC T l back) | refine Blk.alloc' ?_)
  have hf : Frm w.heap.size [] w W := by rw [hW]; repeat (first | with_reducible exact Frm.refl _ _ _ | with_reducible refine Frm.drewN ?_ | with_reducible refine Frm.drew ?_ | ((with_reducible refine Frm.setCell' ?_ ?_); · first | (left; simp; done) | (right; simp; done) | (right; simp; omega)) | ((with_reducible refine Frm.alloc' ?_ ?_); · first | exact Nat.le_refl _ | (simp; done) | (simp; omega)))
  clear hW hf0
  have hTW := hf.blk hT hT.lt (by simp)
  have hfx : ∀ V, Frm W.heap.size [] W V → V.cell? ⟨w.heap.size, 0, none⟩ = some (.pointer (some ⟨T, 0, none⟩)) ∧ V.cell? ⟨T, 15, none⟩ = some (.int .i64 since) ∧ V.cell? ⟨T, 5, none⟩ = some (.int .i64 u.hours) := fun V hV => by
    have hb' := hV.blk hb hb.lt (by simp)
    have hT' := hV.blk hTW hTW.lt (by simp)
    exact ⟨hb'.cell 0, hT'.cell 15, hT'.cell 5⟩
  have hld : ∀ V, Frm W.heap.size [] W V → (loadVar 141 ⟨w.heap.size, 0, none⟩).run Tryd.prog V = .ok (.agg (stepC T l back).toArray) V := fun V hV => loadVarB (hV.blk hb hb.lt (by simp)) Tryd.underlying141 rfl HSI.out
  have HB := Lib.hid hb
  have HF := Lib.hid hf
  have HTW := Lib.hid hTW
  have HT := Lib.hid hT
  have HFX := Lib.hid hfx
  have HLD := Lib.hid hld
  clear hld hfx hT hTW hf hb
  go_wp2_with fail
  refine wp_region_leftL (fun V => Frm W.heap.size [] W V) 1000 (by kernel_rfl) ?_
  have hS : Frm W.heap.size [] W W.drew := (Frm.refl _ _ W).drew
  have HS := Lib.hid hS
  clear hS
  refine LeftL.take 0 rfl (by kernel_rfl) (fun _ _ d _ _ h => by cases d <;> exact h) (yields_loadE (ty := 141) rfl rfl rfl (HLD.out)) HS.out ?_; (intro K' hK'; go_simp; refine hK' _ ?_; clear hK' K')
  refine LeftL.run (v := ?_) 2 rfl (by kernel_rfl) rfl (fun _ _ d _ _ h => by cases d <;> exact h) ?_ HS.out ?_; rotate_left; (· intro V hV; obtain ⟨q0, q1, q2⟩ := HFX.out V hV; clear hV; go_simp; rfl); (intro K' hK'; go_simp; refine hK' _ ?_; clear hK' K')
  refine LeftL.run (v := ?_) 3 rfl (by kernel_rfl) rfl (fun _ _ d _ _ h => by cases d <;> exact h) ?_ HS.out ?_; rotate_left; (· intro V hV; obtain ⟨q0, q1, q2⟩ := HFX.out V hV; clear hV; go_simp; rfl); (intro K' hK'; go_simp; refine hK' _ ?_; clear hK' K')
  refine LeftL.run (v := ?_) 4 rfl (by kernel_rfl) rfl (fun _ _ d _ _ h => by cases d <;> exact h) ?_ HS.out ?_; rotate_left; (· intro V hV; obtain ⟨q0, q1, q2⟩ := HFX.out V hV; clear hV; go_simp; rfl); (intro K' hK'; go_simp; refine hK' _ ?_; clear hK' K')
  refine LeftL.run (v := ?_) 5 rfl (by kernel_rfl) rfl (fun _ _ d _ _ h => by cases d <;> exact h) ?_ HS.out ?_; rotate_left; (· intro V hV; obtain ⟨q0, q1, q2⟩ := HFX.out V hV; clear hV; go_simp; rfl); (intro K' hK'; go_simp; refine hK' _ ?_; clear hK' K')
  refine LeftL.run (v := ?_) 6 rfl (by kernel_rfl) rfl (fun _ _ d _ _ h => by cases d <;> exact h) ?_ HS.out ?_; rotate_left; (· intro V hV; obtain ⟨q0, q1, q2⟩ := HFX.out V hV; clear hV; go_simp; rfl); (intro K' hK'; go_simp; refine hK' _ ?_; clear hK' K')
  refine LeftL.run (v := ?_) 8 rfl (by kernel_rfl) rfl (fun _ _ d _ _ h => by cases d <;> exact h) ?_ HS.out ?_; rotate_left; (· intro V hV; obtain ⟨q0, q1, q2⟩ := HFX.out V hV; clear hV; go_simp; rfl); (intro K' hK'; go_simp; refine hK' _ ?_; clear hK' K')
  refine LeftL.run (v := ?_) 9 rfl (by kernel_rfl) rfl (fun _ _ d _ _ h => by cases d <;> exact h) ?_ HS.out ?_; rotate_left; (· intro V hV; obtain ⟨q0, q1, q2⟩ := HFX.out V hV; clear hV; go_simp; rfl); (intro K' hK'; go_simp; refine hK' _ ?_; clear hK' K')
  refine LeftL.run (v := ?_) 10 rfl (by kernel_rfl) rfl (fun _ _ d _ _ h => by cases d <;> exact h) ?_ HS.out ?_; rotate_left; (· intro V hV; obtain ⟨q0, q1, q2⟩ := HFX.out V hV; clear hV; go_simp; rfl); (intro K' hK'; go_simp; refine hK' _ ?_; clear hK' K')
  refine LeftL.run (v := ?_) 11 rfl (by kernel_rfl) rfl (fun _ _ d _ _ h => by cases d <;> exact h) ?_ HS.out ?_; rotate_left; (· intro V hV; obtain ⟨q0, q1, q2⟩ := HFX.out V hV; clear hV; go_simp; rfl); (intro K' hK'; go_simp; refine hK' _ ?_; clear hK' K')
  refine LeftL.run (v := ?_) 12 rfl (by kernel_rfl) rfl (fun _ _ d _ _ h => by cases d <;> exact h) ?_ HS.out ?_; rotate_left; (· intro V hV; obtain ⟨q0, q1, q2⟩ := HFX.out V hV; clear hV; go_simp; rfl); (intro K' hK'; go_simp; refine hK' _ ?_; clear hK' K')
  refine LeftL.run (v := ?_) 13 rfl (by kernel_rfl) rfl (fun _ _ d _ _ h => by cases d <;> exact h) ?_ HS.out ?_; rotate_left; (· intro V hV; obtain ⟨q0, q1, q2⟩ := HFX.out V hV; clear hV; go_simp; rfl); (intro K' hK'; go_simp; refine hK' _ ?_; clear hK' K')
  refine LeftL.one 1 rfl (by kernel_rfl) ?_
  go_wp2_with fail
  refine (home_any T l back _ h0 h1).mono ?_; rintro e w1 ⟨rfl, hf1⟩
  have hS1 := HS.out.call hf1 HS.out.size (by simp)
  clear hf1 HS
  obtain ⟨z, hz⟩ : ∃ z, z = homeZ l back := ⟨_, rfl⟩
  rw [← hz] at hz0
  rw [← hz]
  have HS := Lib.hid hS1
  have HZ := Lib.hid hz
  clear hz hS1
  go_wp2_with fail
  first | refine ⟨fun _ => HS.out, ?_⟩ | refine ⟨HS.out, ?_⟩
  refine LeftL.one 7 rfl (by kernel_rfl) ?_
  go_wp2_with fail
  first | refine ⟨fun _ => HS.out, ?_⟩ | refine ⟨HS.out, ?_⟩
  refine LeftL.one 14 rfl (by kernel_rfl) ?_
  go_wp2_with fail
  first | refine ⟨fun _ => HS.out, ?_⟩ | refine ⟨HS.out, ?_⟩
  refine LeftL.one 15 rfl (by kernel_rfl) ?_
  go_wp2_with fail
  first | refine ⟨fun _ => HS.out, ?_⟩ | refine ⟨HS.out, ?_⟩
  refine LeftL.done (by kernel_rfl) ?_
  go_wp2_with fail
  go_ret
  exact ⟨by simp [HZ.out], HF.out.call HS.out HF.out.size (by simp)⟩

set_option maxRecDepth 100000 in
set_option maxHeartbeats 4000000 in
theorem dry_any (T : Nat) (l : LC) (back : Int) (u : UC) (sv : Value) (since : Int) (g : GC) (w : World) (hT : Blk w T 103 (tripC u sv since g)) (hb0 : 0 ≤ u.burn ∧ u.burn ≤ 1048576) (h1 : 0 ≤ back ∧ back ≤ 1000000000000)
    (h2 : -4611686018427387904 ≤ l.fuel ∧ l.fuel ≤ 4611686018427387904) :
    Calls Tryd.prog 102 #[.agg (stepC T l back).toArray] w fun e w' => e = .returned (.bool (decide (l.fuel - burnsZ u.burn back < u.reserve))) ∧ Frm w.heap.size [] w w' := by
  have hf0 := Tryd.func102
  have hbz := burnsZ_in hb0 h1
  go_enter Tryd.func102, Tryd.ntmps102
  iterate 10 go_step
  refine named ?_; intro W hW
  have hb : Blk W w.heap.size 141 (stepC T l back) := by rw [hW]; repeat (first | exact Blk.new w 141 (stepC T l back) | refine Blk.alloc' ?_)
  have hf : Frm w.heap.size [] w W := by rw [hW]; repeat (first | with_reducible exact Frm.refl _ _ _ | with_reducible refine Frm.drewN ?_ | with_reducible refine Frm.drew ?_ | ((with_reducible refine Frm.setCell' ?_ ?_); · first | (left; simp; done) | (right; simp; done) | (right; simp; omega)) | ((with_reducible refine Frm.alloc' ?_ ?_); · first | exact Nat.le_refl _ | (simp; done) | (simp; omega)))
  clear hW hf0
  have hTW := hf.blk hT hT.lt (by simp)
  have hfx : ∀ V, Frm W.heap.size [] W V → V.cell? ⟨w.heap.size, 0, none⟩ = some (.pointer (some ⟨T, 0, none⟩)) ∧ V.cell? ⟨w.heap.size, 8, none⟩ = some (.int .i64 l.fuel) ∧ V.cell? ⟨w.heap.size, 9, none⟩ = some (.int .i64 back) ∧ V.cell? ⟨T, 4, none⟩ = some (.int .i64 u.reserve) := fun V hV => by
    have hb' := hV.blk hb hb.lt (by simp)
    have hT' := hV.blk hTW hTW.lt (by simp)
    exact ⟨hb'.cell 0, hb'.cell 8, hb'.cell 9, hT'.cell 4⟩
  have hld : ∀ V, Frm W.heap.size [] W V → (loadVar 25 ⟨T, 0, none⟩).run Tryd.prog V = .ok (.agg u.cells.toArray) V := fun V hV => load_unit (hV.blk hTW hTW.lt (by simp))
  have HB := Lib.hid hb
  have HF := Lib.hid hf
  have HTW := Lib.hid hTW
  have HT := Lib.hid hT
  have HFX := Lib.hid hfx
  have HLD := Lib.hid hld
  clear hld hfx hT hTW hf hb
  go_wp2_with fail
  refine wp_region_leftL (fun V => Frm W.heap.size [] W V) 1000 (by kernel_rfl) ?_
  have hS : Frm W.heap.size [] W W.drew := (Frm.refl _ _ W).drew
  have HS := Lib.hid hS
  clear hS
  refine LeftL.run (v := ?_) 0 rfl (by kernel_rfl) rfl (fun _ _ d _ _ h => by cases d <;> exact h) ?_ HS.out ?_; rotate_left; (· intro V hV; obtain ⟨q0, q1, q2, q3⟩ := HFX.out V hV; clear hV; go_simp; rfl); (intro K' hK'; go_simp; refine hK' _ ?_; clear hK' K')
  refine LeftL.run (v := ?_) 1 rfl (by kernel_rfl) rfl (fun _ _ d _ _ h => by cases d <;> exact h) ?_ HS.out ?_; rotate_left; (· intro V hV; obtain ⟨q0, q1, q2, q3⟩ := HFX.out V hV; clear hV; go_simp; rfl); (intro K' hK'; go_simp; refine hK' _ ?_; clear hK' K')
  refine LeftL.run (v := ?_) 2 rfl (by kernel_rfl) rfl (fun _ _ d _ _ h => by cases d <;> exact h) ?_ HS.out ?_; rotate_left; (· intro V hV; obtain ⟨q0, q1, q2, q3⟩ := HFX.out V hV; clear hV; go_simp; rfl); (intro K' hK'; go_simp; refine hK' _ ?_; clear hK' K')
  refine LeftL.run (v := ?_) 3 rfl (by kernel_rfl) rfl (fun _ _ d _ _ h => by cases d <;> exact h) ?_ HS.out ?_; rotate_left; (· intro V hV; obtain ⟨q0, q1, q2, q3⟩ := HFX.out V hV; clear hV; go_simp; rfl); (intro K' hK'; go_simp; refine hK' _ ?_; clear hK' K')
  refine LeftL.run (v := ?_) 4 rfl (by kernel_rfl) rfl (fun _ _ d _ _ h => by cases d <;> exact h) ?_ HS.out ?_; rotate_left; (· intro V hV; obtain ⟨q0, q1, q2, q3⟩ := HFX.out V hV; clear hV; go_simp; rfl); (intro K' hK'; go_simp; refine hK' _ ?_; clear hK' K')
  refine LeftL.run (v := ?_) 5 rfl (by kernel_rfl) rfl (fun _ _ d _ _ h => by cases d <;> exact h) ?_ HS.out ?_; rotate_left; (· intro V hV; obtain ⟨q0, q1, q2, q3⟩ := HFX.out V hV; clear hV; go_simp; rfl); (intro K' hK'; go_simp; refine hK' _ ?_; clear hK' K')
  refine LeftL.run (v := ?_) 6 rfl (by kernel_rfl) rfl (fun _ _ d _ _ h => by cases d <;> exact h) ?_ HS.out ?_; rotate_left; (· intro V hV; obtain ⟨q0, q1, q2, q3⟩ := HFX.out V hV; clear hV; go_simp; rfl); (intro K' hK'; go_simp; refine hK' _ ?_; clear hK' K')
  refine LeftL.take 7 rfl (by kernel_rfl) (fun _ _ d _ _ h => by cases d <;> exact h) (yields_loadE (ty := 25) rfl rfl rfl (HLD.out)) HS.out ?_; (intro K' hK'; go_simp; refine hK' _ ?_; clear hK' K')
  refine LeftL.run (v := ?_) 8 rfl (by kernel_rfl) rfl (fun _ _ d _ _ h => by cases d <;> exact h) ?_ HS.out ?_; rotate_left; (· intro V hV; obtain ⟨q0, q1, q2, q3⟩ := HFX.out V hV; clear hV; go_simp; rfl); (intro K' hK'; go_simp; refine hK' _ ?_; clear hK' K')
  refine LeftL.run (v := ?_) 9 rfl (by kernel_rfl) rfl (fun _ _ d _ _ h => by cases d <;> exact h) ?_ HS.out ?_; rotate_left; (· intro V hV; obtain ⟨q0, q1, q2, q3⟩ := HFX.out V hV; clear hV; go_simp; rfl); (intro K' hK'; go_simp; refine hK' _ ?_; clear hK' K')
  refine LeftL.run (v := ?_) 12 rfl (by kernel_rfl) rfl (fun _ _ d _ _ h => by cases d <;> exact h) ?_ HS.out ?_; rotate_left; (· intro V hV; obtain ⟨q0, q1, q2, q3⟩ := HFX.out V hV; clear hV; go_simp; rfl); (intro K' hK'; go_simp; refine hK' _ ?_; clear hK' K')
  refine LeftL.run (v := ?_) 13 rfl (by kernel_rfl) rfl (fun _ _ d _ _ h => by cases d <;> exact h) ?_ HS.out ?_; rotate_left; (· intro V hV; obtain ⟨q0, q1, q2, q3⟩ := HFX.out V hV; clear hV; go_simp; rfl); (intro K' hK'; go_simp; refine hK' _ ?_; clear hK' K')
  refine LeftL.run (v := ?_) 14 rfl (by kernel_rfl) rfl (fun _ _ d _ _ h => by cases d <;> exact h) ?_ HS.out ?_; rotate_left; (· intro V hV; obtain ⟨q0, q1, q2, q3⟩ := HFX.out V hV; clear hV; go_simp; rfl); (intro K' hK'; go_simp; refine hK' _ ?_; clear hK' K')
  refine LeftL.run (v := ?_) 15 rfl (by kernel_rfl) rfl (fun _ _ d _ _ h => by cases d <;> exact h) ?_ HS.out ?_; rotate_left; (· intro V hV; obtain ⟨q0, q1, q2, q3⟩ := HFX.out V hV; clear hV; go_simp; rfl); (intro K' hK'; go_simp; refine hK' _ ?_; clear hK' K')
  refine LeftL.run (v := ?_) 16 rfl (by kernel_rfl) rfl (fun _ _ d _ _ h => by cases d <;> exact h) ?_ HS.out ?_; rotate_left; (· intro V hV; obtain ⟨q0, q1, q2, q3⟩ := HFX.out V hV; clear hV; go_simp; rfl); (intro K' hK'; go_simp; refine hK' _ ?_; clear hK' K')
  refine LeftL.run (v := ?_) 17 rfl (by kernel_rfl) rfl (fun _ _ d _ _ h => by cases d <;> exact h) ?_ HS.out ?_; rotate_left; (· intro V hV; obtain ⟨q0, q1, q2, q3⟩ := HFX.out V hV; clear hV; go_simp; rfl); (intro K' hK'; go_simp; refine hK' _ ?_; clear hK' K')
  refine LeftL.one 10 rfl (by kernel_rfl) ?_
  go_wp2_with fail
  refine (burns_any u back _ hb0 h1).mono ?_; rintro e w1 ⟨rfl, hf1⟩
  have hS1 := HS.out.call hf1 HS.out.size (by simp)
  clear hf1 HS
  obtain ⟨z, hz⟩ : ∃ z, z = burnsZ u.burn back := ⟨_, rfl⟩
  rw [← hz] at hbz
  rw [← hz]
  have HS := Lib.hid hS1
  have HZ := Lib.hid hz
  clear hz hS1
  go_wp2_with fail
  first | refine ⟨fun _ => HS.out, ?_⟩ | refine ⟨HS.out, ?_⟩
  refine LeftL.one 11 rfl (by kernel_rfl) ?_
  go_wp2_with fail
  first | refine ⟨fun _ => HS.out, ?_⟩ | refine ⟨HS.out, ?_⟩
  refine LeftL.one 18 rfl (by kernel_rfl) ?_
  go_wp2_with fail
  first | refine ⟨fun _ => HS.out, ?_⟩ | refine ⟨HS.out, ?_⟩
  refine LeftL.one 19 rfl (by kernel_rfl) ?_
  go_wp2_with fail
  first | refine ⟨fun _ => HS.out, ?_⟩ | refine ⟨HS.out, ?_⟩
  refine LeftL.done (by kernel_rfl) ?_
  go_wp2_with fail
  go_ret
  exact ⟨by simp [HZ.out], HF.out.call HS.out HF.out.size (by simp)⟩
end Go.Proofs.YtghkfopcjdkieaaDoor
