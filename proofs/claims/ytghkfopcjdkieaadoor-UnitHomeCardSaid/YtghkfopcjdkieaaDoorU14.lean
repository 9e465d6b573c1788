/-
  Rough weather.
-/
import Derived.Test.YtghkfopcjdkieaaDoorU13
namespace Go.Proofs.YtghkfopcjdkieaaDoor
set_option linter.all false
set_option linter.unusedSimpArgs false
set_option linter.unusedVariables false
open Go.RowKit

theorem yields_loadG {P : Program} {ops : Array Oper} {S : World → Prop} {o : Oper} {a : Act} (hw : Region.wanted o (yielded ops a.tmps) = true) {ty : TypeId} {x : Operand} (ho : o.op = .load ty x)
    {ad : Addr} {v : Value} (hx : a.eval x = .pointer (some ad)) (hl : ∀ w, S w → (loadVar ty ad).run P w = .ok v w) :
    YieldsIf P ops S o v a :=
  .inl ⟨hw, fun w hw => by
    unfold execOp
    simp only [ho, hx, Instr.loadAt, Instr.sureAddr, Sem.run_bind, Sem.run_pure, Result.andThen_ok, hl w hw]⟩
/-- Is the weather of a step too bad? -/
def roughB (u : UC) (n : Nat) (S : Nat → FC) (l : LC) (back : Int) : Bool := badB u n S l.fx l.fy l.tx l.ty l.start l.leave || badB u n S l.tx l.ty u.bx u.by_ l.leave (homeZ l back)

set_option maxRecDepth 100000 in
set_option maxHeartbeats 4000000 in
theorem rough_any (T : Nat) (l : LC) (back : Int) (u : UC) (since : Int) (g : GC) (ad : Option Addr) (b off n cap : Nat) (S : Nat → FC) (w : World) (hT : Blk w T 103 (tripC u (.slice ad n cap) since g)) (hr : Rw w 8 ad b off n fun i => (S i).cells)
    (h0 : 0 ≤ l.leave ∧ l.leave ≤ 1000000000000) (h1 : 0 ≤ back ∧ back ≤ 1000000000000) :
    Calls Tryd.prog 104 #[.agg (stepC T l back).toArray] w fun e w' => e = .returned (.bool (roughB u n S l back)) ∧ Frm w.heap.size [] w w' := by
  have hf0 := Tryd.func104
  have hs : (Tryd.prog.info? 141).map (fun i => i.size) = some (stepC T l back).length := info141
  obtain ⟨p, hp⟩ : ∃ p, p = badB u n S l.fx l.fy l.tx l.ty l.start l.leave := ⟨_, rfl⟩
  obtain ⟨q, hq⟩ : ∃ q, q = badB u n S l.tx l.ty u.bx u.by_ l.leave (homeZ l back) := ⟨_, rfl⟩
  have hu : roughB u n S l back = (p || q) := by rw [hp, hq]; rfl
  rw [hu]
  have HSI := Lib.hid hs
  have HP := Lib.hid hp
  have HQ := Lib.hid hq
  clear hq hp hs
  clear hu
  go_enter Tryd.func104, Tryd.ntmps104
  iterate 10 go_step
  refine named ?_; intro W hW
  have hb : Blk W w.heap.size 141 (stepC T l back) := by rw [hW]; repeat (first | exact Blk.new w 141 (stepC T l back) | refine Blk.alloc' ?_)
  have hf : Frm w.heap.size [] w W := by rw [hW]; repeat (first | with_reducible exact Frm.refl _ _ _ | with_reducible refine Frm.drewN ?_ | with_reducible refine Frm.drew ?_ | ((with_reducible refine Frm.setCell' ?_ ?_); · first | (left; simp; done) | (right; simp; done) | (right; simp; omega)) | ((with_reducible refine Frm.alloc' ?_ ?_); · first | exact Nat.le_refl _ | (simp; done) | (simp; omega)))
  clear hW hf0
  have hTW := hf.blk hT hT.lt (by simp)
  have hrW := hr.frm hf (Nat.le_refl _)
  have hfx : ∀ V, Frm W.heap.size [] W V → V.cell? ⟨w.heap.size, 0, none⟩ = some (.pointer (some ⟨T, 0, none⟩)) ∧ V.cell? ⟨w.heap.size, 1, none⟩ = some (.int .i64 l.fx) ∧ V.cell? ⟨w.heap.size, 2, none⟩ = some (.int .i64 l.fy) ∧ V.cell? ⟨w.heap.size, 3, none⟩ = some (.int .i64 l.tx) ∧ V.cell? ⟨w.heap.size, 4, none⟩ = some (.int .i64 l.ty)
      ∧ V.cell? ⟨w.heap.size, 5, none⟩ = some (.int .i64 l.start) ∧ V.cell? ⟨w.heap.size, 7, none⟩ = some (.int .i64 l.leave) ∧ V.cell? ⟨T, 8, none⟩ = some (.int .i64 u.bx) ∧ V.cell? ⟨T, 9, none⟩ = some (.int .i64 u.by_) := fun V hV => by
    have hb' := hV.blk hb hb.lt (by simp)
    have hT' := hV.blk hTW hTW.lt (by simp)
    exact ⟨hb'.cell 0, hb'.cell 1, hb'.cell 2, hb'.cell 3, hb'.cell 4, hb'.cell 5, hb'.cell 7, hT'.cell 8, hT'.cell 9⟩
  have hld : ∀ V, Frm W.heap.size [] W V → (loadVar 141 ⟨w.heap.size, 0, none⟩).run Tryd.prog V = .ok (.agg (stepC T l back).toArray) V := fun V hV => loadVarB (hV.blk hb hb.lt (by simp)) Tryd.underlying141 rfl HSI.out
  have hT2 : ∀ V, Frm W.heap.size [] W V → Blk V T 103 (tripC u (.slice ad n cap) since g) ∧ Rw V 8 ad b off n fun i => (S i).cells := fun V hV => ⟨hV.blk hTW hTW.lt (by simp), hrW.frm hV (Nat.le_refl _)⟩
  have HB := Lib.hid hb
  have HF := Lib.hid hf
  have HRW := Lib.hid hrW
  have HTW := Lib.hid hTW
  have HT := Lib.hid hT
  have HR := Lib.hid hr
  have HFX := Lib.hid hfx
  have HLD := Lib.hid hld
  have HT2 := Lib.hid hT2
  clear hT2 hld hfx hr hT hTW hrW hf hb
  go_wp2_with fail
  refine wp_region_leftL (fun V => Frm W.heap.size [] W V) 1000 (by kernel_rfl) ?_
  have hS : Frm W.heap.size [] W W.drew := (Frm.refl _ _ W).drew
  have HS := Lib.hid hS
  clear hS
  refine LeftL.run (v := ?_) 0 rfl (by kernel_rfl) rfl (fun _ _ d _ _ h => by cases d <;> exact h) ?_ HS.out ?_; rotate_left; (· intro V hV; obtain ⟨q0, q1, q2, q3, q4, q5, q7, q8, q9⟩ := HFX.out V hV; clear hV; go_simp; rfl); (intro K' hK'; go_simp; refine hK' _ ?_; clear hK' K')
  refine LeftL.run (v := ?_) 1 rfl (by kernel_rfl) rfl (fun _ _ d _ _ h => by cases d <;> exact h) ?_ HS.out ?_; rotate_left; (· intro V hV; obtain ⟨q0, q1, q2, q3, q4, q5, q7, q8, q9⟩ := HFX.out V hV; clear hV; go_simp; rfl); (intro K' hK'; go_simp; refine hK' _ ?_; clear hK' K')
  refine LeftL.run (v := ?_) 2 rfl (by kernel_rfl) rfl (fun _ _ d _ _ h => by cases d <;> exact h) ?_ HS.out ?_; rotate_left; (· intro V hV; obtain ⟨q0, q1, q2, q3, q4, q5, q7, q8, q9⟩ := HFX.out V hV; clear hV; go_simp; rfl); (intro K' hK'; go_simp; refine hK' _ ?_; clear hK' K')
  refine LeftL.run (v := ?_) 3 rfl (by kernel_rfl) rfl (fun _ _ d _ _ h => by cases d <;> exact h) ?_ HS.out ?_; rotate_left; (· intro V hV; obtain ⟨q0, q1, q2, q3, q4, q5, q7, q8, q9⟩ := HFX.out V hV; clear hV; go_simp; rfl); (intro K' hK'; go_simp; refine hK' _ ?_; clear hK' K')
  refine LeftL.run (v := ?_) 4 rfl (by kernel_rfl) rfl (fun _ _ d _ _ h => by cases d <;> exact h) ?_ HS.out ?_; rotate_left; (· intro V hV; obtain ⟨q0, q1, q2, q3, q4, q5, q7, q8, q9⟩ := HFX.out V hV; clear hV; go_simp; rfl); (intro K' hK'; go_simp; refine hK' _ ?_; clear hK' K')
  refine LeftL.run (v := ?_) 5 rfl (by kernel_rfl) rfl (fun _ _ d _ _ h => by cases d <;> exact h) ?_ HS.out ?_; rotate_left; (· intro V hV; obtain ⟨q0, q1, q2, q3, q4, q5, q7, q8, q9⟩ := HFX.out V hV; clear hV; go_simp; rfl); (intro K' hK'; go_simp; refine hK' _ ?_; clear hK' K')
  refine LeftL.run (v := ?_) 6 rfl (by kernel_rfl) rfl (fun _ _ d _ _ h => by cases d <;> exact h) ?_ HS.out ?_; rotate_left; (· intro V hV; obtain ⟨q0, q1, q2, q3, q4, q5, q7, q8, q9⟩ := HFX.out V hV; clear hV; go_simp; rfl); (intro K' hK'; go_simp; refine hK' _ ?_; clear hK' K')
  refine LeftL.run (v := ?_) 7 rfl (by kernel_rfl) rfl (fun _ _ d _ _ h => by cases d <;> exact h) ?_ HS.out ?_; rotate_left; (· intro V hV; obtain ⟨q0, q1, q2, q3, q4, q5, q7, q8, q9⟩ := HFX.out V hV; clear hV; go_simp; rfl); (intro K' hK'; go_simp; refine hK' _ ?_; clear hK' K')
  refine LeftL.run (v := ?_) 8 rfl (by kernel_rfl) rfl (fun _ _ d _ _ h => by cases d <;> exact h) ?_ HS.out ?_; rotate_left; (· intro V hV; obtain ⟨q0, q1, q2, q3, q4, q5, q7, q8, q9⟩ := HFX.out V hV; clear hV; go_simp; rfl); (intro K' hK'; go_simp; refine hK' _ ?_; clear hK' K')
  refine LeftL.run (v := ?_) 9 rfl (by kernel_rfl) rfl (fun _ _ d _ _ h => by cases d <;> exact h) ?_ HS.out ?_; rotate_left; (· intro V hV; obtain ⟨q0, q1, q2, q3, q4, q5, q7, q8, q9⟩ := HFX.out V hV; clear hV; go_simp; rfl); (intro K' hK'; go_simp; refine hK' _ ?_; clear hK' K')
  refine LeftL.run (v := ?_) 10 rfl (by kernel_rfl) rfl (fun _ _ d _ _ h => by cases d <;> exact h) ?_ HS.out ?_; rotate_left; (· intro V hV; obtain ⟨q0, q1, q2, q3, q4, q5, q7, q8, q9⟩ := HFX.out V hV; clear hV; go_simp; rfl); (intro K' hK'; go_simp; refine hK' _ ?_; clear hK' K')
  refine LeftL.run (v := ?_) 11 rfl (by kernel_rfl) rfl (fun _ _ d _ _ h => by cases d <;> exact h) ?_ HS.out ?_; rotate_left; (· intro V hV; obtain ⟨q0, q1, q2, q3, q4, q5, q7, q8, q9⟩ := HFX.out V hV; clear hV; go_simp; rfl); (intro K' hK'; go_simp; refine hK' _ ?_; clear hK' K')
  refine LeftL.run (v := ?_) 12 rfl (by kernel_rfl) rfl (fun _ _ d _ _ h => by cases d <;> exact h) ?_ HS.out ?_; rotate_left; (· intro V hV; obtain ⟨q0, q1, q2, q3, q4, q5, q7, q8, q9⟩ := HFX.out V hV; clear hV; go_simp; rfl); (intro K' hK'; go_simp; refine hK' _ ?_; clear hK' K')
  refine LeftL.run (v := ?_) 13 rfl (by kernel_rfl) rfl (fun _ _ d _ _ h => by cases d <;> exact h) ?_ HS.out ?_; rotate_left; (· intro V hV; obtain ⟨q0, q1, q2, q3, q4, q5, q7, q8, q9⟩ := HFX.out V hV; clear hV; go_simp; rfl); (intro K' hK'; go_simp; refine hK' _ ?_; clear hK' K')
  refine LeftL.one 14 rfl (by kernel_rfl) ?_
  go_wp2_with fail
  refine (bad_any T u since g ad b off n cap S _ _ _ _ _ _ _ (HT2.out _ HS.out).1 (HT2.out _ HS.out).2).mono ?_; rintro e w1 ⟨rfl, hf1⟩
  have hS1 := HS.out.call hf1 HS.out.size (by simp)
  clear hf1 HS
  have HS := Lib.hid hS1
  clear hS1
  rw [← HP.out]
  go_wp2_with fail
  first | refine ⟨fun _ => HS.out, ?_⟩ | refine ⟨HS.out, ?_⟩
  cases p
  · refine LeftL.run (v := ?_) 15 rfl (by kernel_rfl) rfl (fun _ _ d _ _ h => by cases d <;> exact h) ?_ HS.out ?_; rotate_left; (· intro V hV; obtain ⟨q0, q1, q2, q3, q4, q5, q7, q8, q9⟩ := HFX.out V hV; clear hV; go_simp; rfl); (intro K' hK'; go_simp; refine hK' _ ?_; clear hK' K')
    refine LeftL.runG (v := ?_) 16 rfl (by kernel_rfl) rfl (fun _ _ d _ _ h => by cases d <;> exact h) ?_ HS.out ?_; rotate_left; (· intro V hV; obtain ⟨q0, q1, q2, q3, q4, q5, q7, q8, q9⟩ := HFX.out V hV; clear hV; go_simp; rfl); (intro K' hK'; go_simp; refine hK' _ ?_; clear hK' K')
    refine LeftL.runG (v := ?_) 17 rfl (by kernel_rfl) rfl (fun _ _ d _ _ h => by cases d <;> exact h) ?_ HS.out ?_; rotate_left; (· intro V hV; obtain ⟨q0, q1, q2, q3, q4, q5, q7, q8, q9⟩ := HFX.out V hV; clear hV; go_simp; rfl); (intro K' hK'; go_simp; refine hK' _ ?_; clear hK' K')
    refine LeftL.runG (v := ?_) 18 rfl (by kernel_rfl) rfl (fun _ _ d _ _ h => by cases d <;> exact h) ?_ HS.out ?_; rotate_left; (· intro V hV; obtain ⟨q0, q1, q2, q3, q4, q5, q7, q8, q9⟩ := HFX.out V hV; clear hV; go_simp; rfl); (intro K' hK'; go_simp; refine hK' _ ?_; clear hK' K')
    refine LeftL.runG (v := ?_) 19 rfl (by kernel_rfl) rfl (fun _ _ d _ _ h => by cases d <;> exact h) ?_ HS.out ?_; rotate_left; (· intro V hV; obtain ⟨q0, q1, q2, q3, q4, q5, q7, q8, q9⟩ := HFX.out V hV; clear hV; go_simp; rfl); (intro K' hK'; go_simp; refine hK' _ ?_; clear hK' K')
    refine LeftL.runG (v := ?_) 20 rfl (by kernel_rfl) rfl (fun _ _ d _ _ h => by cases d <;> exact h) ?_ HS.out ?_; rotate_left; (· intro V hV; obtain ⟨q0, q1, q2, q3, q4, q5, q7, q8, q9⟩ := HFX.out V hV; clear hV; go_simp; rfl); (intro K' hK'; go_simp; refine hK' _ ?_; clear hK' K')
    refine LeftL.runG (v := ?_) 21 rfl (by kernel_rfl) rfl (fun _ _ d _ _ h => by cases d <;> exact h) ?_ HS.out ?_; rotate_left; (· intro V hV; obtain ⟨q0, q1, q2, q3, q4, q5, q7, q8, q9⟩ := HFX.out V hV; clear hV; go_simp; rfl); (intro K' hK'; go_simp; refine hK' _ ?_; clear hK' K')
    refine LeftL.runG (v := ?_) 22 rfl (by kernel_rfl) rfl (fun _ _ d _ _ h => by cases d <;> exact h) ?_ HS.out ?_; rotate_left; (· intro V hV; obtain ⟨q0, q1, q2, q3, q4, q5, q7, q8, q9⟩ := HFX.out V hV; clear hV; go_simp; rfl); (intro K' hK'; go_simp; refine hK' _ ?_; clear hK' K')
    refine LeftL.runG (v := ?_) 23 rfl (by kernel_rfl) rfl (fun _ _ d _ _ h => by cases d <;> exact h) ?_ HS.out ?_; rotate_left; (· intro V hV; obtain ⟨q0, q1, q2, q3, q4, q5, q7, q8, q9⟩ := HFX.out V hV; clear hV; go_simp; rfl); (intro K' hK'; go_simp; refine hK' _ ?_; clear hK' K')
    refine LeftL.runG (v := ?_) 24 rfl (by kernel_rfl) rfl (fun _ _ d _ _ h => by cases d <;> exact h) ?_ HS.out ?_; rotate_left; (· intro V hV; obtain ⟨q0, q1, q2, q3, q4, q5, q7, q8, q9⟩ := HFX.out V hV; clear hV; go_simp; rfl); (intro K' hK'; go_simp; refine hK' _ ?_; clear hK' K')
    refine LeftL.runG (v := ?_) 25 rfl (by kernel_rfl) rfl (fun _ _ d _ _ h => by cases d <;> exact h) ?_ HS.out ?_; rotate_left; (· intro V hV; obtain ⟨q0, q1, q2, q3, q4, q5, q7, q8, q9⟩ := HFX.out V hV; clear hV; go_simp; rfl); (intro K' hK'; go_simp; refine hK' _ ?_; clear hK' K')
    refine LeftL.runG (v := ?_) 26 rfl (by kernel_rfl) rfl (fun _ _ d _ _ h => by cases d <;> exact h) ?_ HS.out ?_; rotate_left; (· intro V hV; obtain ⟨q0, q1, q2, q3, q4, q5, q7, q8, q9⟩ := HFX.out V hV; clear hV; go_simp; rfl); (intro K' hK'; go_simp; refine hK' _ ?_; clear hK' K')
    refine LeftL.runG (v := ?_) 27 rfl (by kernel_rfl) rfl (fun _ _ d _ _ h => by cases d <;> exact h) ?_ HS.out ?_; rotate_left; (· intro V hV; obtain ⟨q0, q1, q2, q3, q4, q5, q7, q8, q9⟩ := HFX.out V hV; clear hV; go_simp; rfl); (intro K' hK'; go_simp; refine hK' _ ?_; clear hK' K')
    refine LeftL.runG (v := ?_) 28 rfl (by kernel_rfl) rfl (fun _ _ d _ _ h => by cases d <;> exact h) ?_ HS.out ?_; rotate_left; (· intro V hV; obtain ⟨q0, q1, q2, q3, q4, q5, q7, q8, q9⟩ := HFX.out V hV; clear hV; go_simp; rfl); (intro K' hK'; go_simp; refine hK' _ ?_; clear hK' K')
    refine LeftL.runG (v := ?_) 29 rfl (by kernel_rfl) rfl (fun _ _ d _ _ h => by cases d <;> exact h) ?_ HS.out ?_; rotate_left; (· intro V hV; obtain ⟨q0, q1, q2, q3, q4, q5, q7, q8, q9⟩ := HFX.out V hV; clear hV; go_simp; rfl); (intro K' hK'; go_simp; refine hK' _ ?_; clear hK' K')
    refine LeftL.take 30 rfl (by kernel_rfl) (fun _ _ d _ _ h => by cases d <;> exact h) (yields_loadG (ty := 141) rfl rfl rfl (HLD.out)) HS.out ?_; (intro K' hK'; go_simp; refine hK' _ ?_; clear hK' K')
    refine LeftL.one 31 rfl (by kernel_rfl) ?_
    go_wp2_with fail
    refine (home_any T l back _ h0 h1).mono ?_; rintro e w1 ⟨rfl, hf1⟩
    have hS1 := HS.out.call hf1 HS.out.size (by simp)
    clear hf1 HS
    have HS := Lib.hid hS1
    clear hS1
    go_wp2_with fail
    first | refine ⟨fun _ => HS.out, ?_⟩ | refine ⟨HS.out, ?_⟩
    refine LeftL.one 32 rfl (by kernel_rfl) ?_
    go_wp2_with fail
    refine (bad_any T u since g ad b off n cap S _ _ _ _ _ _ _ (HT2.out _ HS.out).1 (HT2.out _ HS.out).2).mono ?_; rintro e w1 ⟨rfl, hf1⟩
    have hS1 := HS.out.call hf1 HS.out.size (by simp)
    clear hf1 HS
    have HS := Lib.hid hS1
    clear hS1
    rw [← HQ.out]
    go_wp2_with fail
    first | refine ⟨fun _ => HS.out, ?_⟩ | refine ⟨HS.out, ?_⟩
    refine LeftL.one 33 rfl (by kernel_rfl) ?_
    go_wp2_with fail
    first | refine ⟨fun _ => HS.out, ?_⟩ | refine ⟨HS.out, ?_⟩
    refine LeftL.one 34 rfl (by kernel_rfl) ?_
    go_wp2_with fail
    first | refine ⟨fun _ => HS.out, ?_⟩ | refine ⟨HS.out, ?_⟩
    refine LeftL.done (by kernel_rfl) ?_
    go_wp2_with fail
    go_ret
    exact ⟨by simp, HF.out.call HS.out HF.out.size (by simp)⟩
  · refine LeftL.run (v := ?_) 15 rfl (by kernel_rfl) rfl (fun _ _ d _ _ h => by cases d <;> exact h) ?_ HS.out ?_; rotate_left; (· intro V hV; obtain ⟨q0, q1, q2, q3, q4, q5, q7, q8, q9⟩ := HFX.out V hV; clear hV; go_simp; rfl); (intro K' hK'; go_simp; refine hK' _ ?_; clear hK' K')
    refine LeftL.take (v := undef) 16 rfl (by kernel_rfl) (fun _ _ d _ _ h => by cases d <;> exact h) (.inr ⟨rfl, rfl⟩) HS.out ?_; (intro K' hK'; go_simp; refine hK' _ ?_; clear hK' K')
    refine LeftL.take (v := undef) 17 rfl (by kernel_rfl) (fun _ _ d _ _ h => by cases d <;> exact h) (.inr ⟨rfl, rfl⟩) HS.out ?_; (intro K' hK'; go_simp; refine hK' _ ?_; clear hK' K')
    refine LeftL.take (v := undef) 18 rfl (by kernel_rfl) (fun _ _ d _ _ h => by cases d <;> exact h) (.inr ⟨rfl, rfl⟩) HS.out ?_; (intro K' hK'; go_simp; refine hK' _ ?_; clear hK' K')
    refine LeftL.take (v := undef) 19 rfl (by kernel_rfl) (fun _ _ d _ _ h => by cases d <;> exact h) (.inr ⟨rfl, rfl⟩) HS.out ?_; (intro K' hK'; go_simp; refine hK' _ ?_; clear hK' K')
    refine LeftL.take (v := undef) 20 rfl (by kernel_rfl) (fun _ _ d _ _ h => by cases d <;> exact h) (.inr ⟨rfl, rfl⟩) HS.out ?_; (intro K' hK'; go_simp; refine hK' _ ?_; clear hK' K')
    refine LeftL.take (v := undef) 21 rfl (by kernel_rfl) (fun _ _ d _ _ h => by cases d <;> exact h) (.inr ⟨rfl, rfl⟩) HS.out ?_; (intro K' hK'; go_simp; refine hK' _ ?_; clear hK' K')
    refine LeftL.take (v := undef) 22 rfl (by kernel_rfl) (fun _ _ d _ _ h => by cases d <;> exact h) (.inr ⟨rfl, rfl⟩) HS.out ?_; (intro K' hK'; go_simp; refine hK' _ ?_; clear hK' K')
    refine LeftL.take (v := undef) 23 rfl (by kernel_rfl) (fun _ _ d _ _ h => by cases d <;> exact h) (.inr ⟨rfl, rfl⟩) HS.out ?_; (intro K' hK'; go_simp; refine hK' _ ?_; clear hK' K')
    refine LeftL.take (v := undef) 24 rfl (by kernel_rfl) (fun _ _ d _ _ h => by cases d <;> exact h) (.inr ⟨rfl, rfl⟩) HS.out ?_; (intro K' hK'; go_simp; refine hK' _ ?_; clear hK' K')
    refine LeftL.take (v := undef) 25 rfl (by kernel_rfl) (fun _ _ d _ _ h => by cases d <;> exact h) (.inr ⟨rfl, rfl⟩) HS.out ?_; (intro K' hK'; go_simp; refine hK' _ ?_; clear hK' K')
    refine LeftL.take (v := undef) 26 rfl (by kernel_rfl) (fun _ _ d _ _ h => by cases d <;> exact h) (.inr ⟨rfl, rfl⟩) HS.out ?_; (intro K' hK'; go_simp; refine hK' _ ?_; clear hK' K')
    refine LeftL.take (v := undef) 27 rfl (by kernel_rfl) (fun _ _ d _ _ h => by cases d <;> exact h) (.inr ⟨rfl, rfl⟩) HS.out ?_; (intro K' hK'; go_simp; refine hK' _ ?_; clear hK' K')
    refine LeftL.take (v := undef) 28 rfl (by kernel_rfl) (fun _ _ d _ _ h => by cases d <;> exact h) (.inr ⟨rfl, rfl⟩) HS.out ?_; (intro K' hK'; go_simp; refine hK' _ ?_; clear hK' K')
    refine LeftL.take (v := undef) 29 rfl (by kernel_rfl) (fun _ _ d _ _ h => by cases d <;> exact h) (.inr ⟨rfl, rfl⟩) HS.out ?_; (intro K' hK'; go_simp; refine hK' _ ?_; clear hK' K')
    refine LeftL.take (v := undef) 30 rfl (by kernel_rfl) (fun _ _ d _ _ h => by cases d <;> exact h) (.inr ⟨rfl, rfl⟩) HS.out ?_; (intro K' hK'; go_simp; refine hK' _ ?_; clear hK' K')
    refine LeftL.take (v := undef) 31 rfl (by kernel_rfl) (fun _ _ d _ _ h => by cases d <;> exact h) (.inr ⟨rfl, rfl⟩) HS.out ?_; (intro K' hK'; go_simp; refine hK' _ ?_; clear hK' K')
    refine LeftL.take (v := undef) 32 rfl (by kernel_rfl) (fun _ _ d _ _ h => by cases d <;> exact h) (.inr ⟨rfl, rfl⟩) HS.out ?_; (intro K' hK'; go_simp; refine hK' _ ?_; clear hK' K')
    refine LeftL.one 33 rfl (by kernel_rfl) ?_
    go_wp2_with fail
    first | refine ⟨fun _ => HS.out, ?_⟩ | refine ⟨HS.out, ?_⟩
    refine LeftL.one 34 rfl (by kernel_rfl) ?_
    go_wp2_with fail
    first | refine ⟨fun _ => HS.out, ?_⟩ | refine ⟨HS.out, ?_⟩
    refine LeftL.done (by kernel_rfl) ?_
    go_wp2_with fail
    go_ret
    exact ⟨by simp, HF.out.call HS.out HF.out.size (by simp)⟩
end Go.Proofs.YtghkfopcjdkieaaDoor
