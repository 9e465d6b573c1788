/-
  A step is tried.
-/
import Derived.Test.YtghkfopcjdkieaaDoorU14
namespace Go.Proofs.YtghkfopcjdkieaaDoor
set_option linter.all false
set_option linter.unusedSimpArgs false
set_option linter.unusedVariables false
open Go.RowKit

def arriveZ (u : UC) (g : GC) (w : WC) : Int := g.time + takesZ u.speed g.x g.y w.tx w.ty
def leaveZ (u : UC) (g : GC) (w : WC) : Int := arriveZ u g w + w.stay
def leftZ (u : UC) (g : GC) (w : WC) : Int := g.fuel - burnsZ u.burn (leaveZ u g w - g.time)
def legOf (u : UC) (g : GC) (w : WC) : LC := ⟨g.x, g.y, w.tx, w.ty, g.time, arriveZ u g w, leaveZ u g w, leftZ u g w⟩
def backOf (u : UC) (w : WC) : Int := takesZ u.speed w.tx w.ty u.bx u.by_
/-- Why a unit cannot go on; 0: it can. -/
def whyOf (u : UC) (n : Nat) (S : Nat → FC) (since : Int) (g : GC) (w : WC) : Int :=
  if 1073741824 < homeZ (legOf u g w) (backOf u w) then 4
  else if leftZ u g w - burnsZ u.burn (backOf u w) < u.reserve then 1
  else if u.hours < homeZ (legOf u g w) (backOf u w) - since then 2
  else if roughB u n S (legOf u g w) (backOf u w) = true then 3 else 0
structure UOK (u : UC) : Prop where
  speed : 1 ≤ u.speed ∧ u.speed ≤ 1000000
  burn : 0 ≤ u.burn ∧ u.burn ≤ 1048576
  reserve : 0 ≤ u.reserve ∧ u.reserve ≤ 1073741824
  fuel : 0 ≤ u.fuel ∧ u.fuel ≤ 1073741824
  hours : 0 ≤ u.hours ∧ u.hours ≤ 1073741824
  base : placeB u.bx u.by_ = true
structure GOK (g : GC) : Prop where
  place : placeB g.x g.y = true
  time : 0 ≤ g.time ∧ g.time ≤ 1073741824
  fuel : 0 ≤ g.fuel ∧ g.fuel ≤ 1099511627776
theorem wayB_in {w : WC} (h : wayB w = true) : placeB w.tx w.ty = true ∧ 0 ≤ w.stay ∧ w.stay ≤ 1073741824 := by
  unfold wayB timeB at h
  rw [Bool.and_eq_true, inB_iff] at h
  exact ⟨h.1, h.2.1, h.2.2⟩
theorem leg_in {u : UC} {g : GC} {w : WC} (hu : UOK u) (hg : GOK g) (hw : wayB w = true) :
    (0 ≤ takesZ u.speed g.x g.y w.tx w.ty ∧ takesZ u.speed g.x g.y w.tx w.ty ≤ 241591910400) ∧ (0 ≤ backOf u w ∧ backOf u w ≤ 241591910400) ∧
    (0 ≤ arriveZ u g w ∧ arriveZ u g w ≤ 300000000000) ∧ (0 ≤ leaveZ u g w ∧ leaveZ u g w ≤ 400000000000) ∧ (0 ≤ leaveZ u g w - g.time ∧ leaveZ u g w - g.time ≤ 1000000000000) ∧
    (-1152921504606846976 ≤ leftZ u g w ∧ leftZ u g w ≤ 1099511627776) := by
  obtain ⟨hp, hs0, hs1⟩ := wayB_in hw
  have h1 := takesZ_in (speed := u.speed) hu.speed.1 hg.place hp
  have h2 := takesZ_in (speed := u.speed) hu.speed.1 hp hu.base
  have ht := hg.time
  have hf := hg.fuel
  have h3 : 0 ≤ leaveZ u g w - g.time ∧ leaveZ u g w - g.time ≤ 1000000000000 := by unfold leaveZ arriveZ; omega
  have h4 := burnsZ_in hu.burn h3
  unfold leftZ backOf
  refine ⟨h1, h2, ?_, ?_, h3, ?_⟩
  · unfold arriveZ; omega
  · unfold leaveZ arriveZ; omega
  · omega
/-- The laid table of reasons. -/
structure Glob (w : World) : Prop where
  c0 : w.cell? ⟨0, 0, none⟩ = some (.int .i64 4)
  c1 : w.cell? ⟨0, 1, none⟩ = some (.int .i64 1)
  c2 : w.cell? ⟨0, 2, none⟩ = some (.int .i64 2)
  c3 : w.cell? ⟨0, 3, none⟩ = some (.int .i64 3)
theorem Glob.frm {w w' : World} {B : Nat} (h : Glob w) (hf : Frm B [] w w') (hB : w.heap.size ≤ B) : Glob w' := by
  have hl := cell_lt h.c0
  have hl' : 0 < B := by simp at hl; omega
  exact ⟨(hf.cell hl' (by simp)).trans h.c0, (hf.cell hl' (by simp)).trans h.c1, (hf.cell hl' (by simp)).trans h.c2, (hf.cell hl' (by simp)).trans h.c3⟩

theorem under142 : Tryd.prog.underlying 142 = some (.array 4 29) := by kernel_rfl
theorem index_fn0 (a b c d : Value) (w : World) : (Instr.index 142 (.agg #[a, b, c, d]) (.int .i64 0)).run Tryd.prog w = .ok a w := by
  simp [Instr.index, run_underlying under142, asIntOf, go_sem]
theorem index_fn1 (a b c d : Value) (w : World) : (Instr.index 142 (.agg #[a, b, c, d]) (.int .i64 1)).run Tryd.prog w = .ok b w := by
  simp [Instr.index, run_underlying under142, asIntOf, go_sem]
theorem index_fn2 (a b c d : Value) (w : World) : (Instr.index 142 (.agg #[a, b, c, d]) (.int .i64 2)).run Tryd.prog w = .ok c w := by
  simp [Instr.index, run_underlying under142, asIntOf, go_sem]
theorem index_fn3 (a b c d : Value) (w : World) : (Instr.index 142 (.agg #[a, b, c, d]) (.int .i64 3)).run Tryd.prog w = .ok d w := by
  simp [Instr.index, run_underlying under142, asIntOf, go_sem]
attribute [local go_sem] index_fn0 index_fn1 index_fn2 index_fn3

set_option maxRecDepth 100000 in
set_option maxHeartbeats 4000000 in
theorem try_any (T : Nat) (u : UC) (since : Int) (g : GC) (wy : WC) (ad : Option Addr) (b off n cap : Nat) (S : Nat → FC) (w : World) (hT : Blk w T 103 (tripC u (.slice ad n cap) since g)) (hr : Rw w 8 ad b off n fun i => (S i).cells) (hgl : Glob w)
    (hu : UOK u) (hg : GOK g) (hw : wayB wy = true) (hs : 0 ≤ since ∧ since ≤ 1073741824) :
    Calls Tryd.prog 77 #[.pointer (some ⟨T, 0, none⟩), .agg wy.cells.toArray] w fun e w' => e = .returned (.tuple #[.agg (legOf u g wy).cells.toArray, .int .i64 (whyOf u n S since g wy)]) ∧ Frm w.heap.size [] w w' := by
  have hf0 := Tryd.func77
  obtain ⟨i1, i2, i3, i4, i5, i6⟩ := leg_in hu hg hw
  have hwy := wayB_in hw
  obtain ⟨tk, htk⟩ : ∃ tk, tk = takesZ u.speed g.x g.y wy.tx wy.ty := ⟨_, rfl⟩
  have har : arriveZ u g wy = g.time + tk := by rw [htk]; rfl
  have hle : leaveZ u g wy = arriveZ u g wy + wy.stay := rfl
  have hgt := hg.time
  have hw1 : IntKind.i64.wrap (g.time + tk) = g.time + tk := IntWalk.i64_in _ (by rw [← har]; omega)
  rw [← htk] at i1
  have HU := Lib.hid hu
  have HG := Lib.hid hg
  have HW := Lib.hid hw
  have HWY := Lib.hid hwy
  have HTK := Lib.hid htk
  have HAR := Lib.hid har
  have HLE := Lib.hid hle
  clear hle har htk hwy hw hg hu
  go_enter Tryd.func77, Tryd.ntmps77
  iterate 13 go_step
  refine named ?_; intro W hW
  have hb : Blk W w.heap.size 51 wy.cells := by rw [hW]; repeat (first | exact Blk.new w 51 wy.cells | refine Blk.alloc' ?_)
  obtain ⟨zs, hz1, hz⟩ : ∃ zs, zs.length = 8 ∧ Blk W (w.heap.size + 1) 49 zs := ⟨[.int .i64 0, .int .i64 0, .int .i64 0, .int .i64 0, .int .i64 0, .int .i64 0, .int .i64 0, .int .i64 0], rfl, by rw [hW]; repeat (first | exact Blk.new' _ 49 [.int .i64 0, .int .i64 0, .int .i64 0, .int .i64 0, .int .i64 0, .int .i64 0, .int .i64 0, .int .i64 0] (by simp) | refine Blk.alloc' ?_)⟩
  have hf : Frm w.heap.size [] w W := by rw [hW]; repeat (first | with_reducible exact Frm.refl _ _ _ | with_reducible refine Frm.drewN ?_ | with_reducible refine Frm.drew ?_ | ((with_reducible refine Frm.setCell' ?_ ?_); · first | (left; simp; done) | (right; simp; done) | (right; simp; omega)) | ((with_reducible refine Frm.alloc' ?_ ?_); · first | exact Nat.le_refl _ | (simp; done) | (simp; omega)))
  clear hW hf0
  have hTW := hf.blk hT hT.lt (by simp)
  have hrW := hr.frm hf (Nat.le_refl _)
  have hgW := hgl.frm hf (Nat.le_refl _)
  have hfx : ∀ V, Frm W.heap.size [] W V → V.cell? ⟨w.heap.size, 0, none⟩ = some (.int .i64 wy.tx) ∧ V.cell? ⟨w.heap.size, 1, none⟩ = some (.int .i64 wy.ty) ∧ V.cell? ⟨T, 13, none⟩ = some (.int .i64 g.x) ∧ V.cell? ⟨T, 14, none⟩ = some (.int .i64 g.y) ∧ V.cell? ⟨T, 16, none⟩ = some (.int .i64 g.time) := fun V hV => by
    have hb' := hV.blk hb hb.lt (by simp)
    have hT' := hV.blk hTW hTW.lt (by simp)
    exact ⟨hb'.cell 0, hb'.cell 1, hT'.cell 13, hT'.cell 14, hT'.cell 16⟩
  have hlu : ∀ V, Frm W.heap.size [] W V → (loadVar 25 ⟨T, 0, none⟩).run Tryd.prog V = .ok (.agg u.cells.toArray) V := fun V hV => load_unit (hV.blk hTW hTW.lt (by simp))
  have HB := Lib.hid hb
  have HZ := Lib.hid hz
  have HF := Lib.hid hf
  have HRW := Lib.hid hrW
  have HTW := Lib.hid hTW
  have HGW := Lib.hid hgW
  have HT := Lib.hid hT
  have HR := Lib.hid hr
  have HGL := Lib.hid hgl
  have HFX := Lib.hid hfx
  have HLU := Lib.hid hlu
  clear hlu hfx hgl hr hT hgW hTW hrW hf hz hb
  go_upto_region 1 with fail
  go_cut [6] from 10 to 36 (fun s6 w' => ∃ k, s6 = .pointer (some ⟨k, 0, none⟩) ∧ (w.heap.size + 1 < k ∧ W.heap.size ≤ k) ∧ Blk w' k 49 (LC.cells ⟨g.x, g.y, wy.tx, wy.ty, g.time, arriveZ u g wy, 0, 0⟩) ∧ Frm W.heap.size [] W w')
  case first =>
    refine wp_region_leftL (fun V => Frm W.heap.size [] W V) 1000 (by kernel_rfl) ?_
    have hS : Frm W.heap.size [] W W.drew := (Frm.refl _ _ W).drew
    have HS := Lib.hid hS
    clear hS
    refine LeftL.run (v := ?_) 0 rfl (by kernel_rfl) rfl (fun _ _ d _ _ h => by cases d <;> exact h) ?_ HS.out ?_; rotate_left; (· intro V hV; obtain ⟨q0, q1, q2, q3, q4⟩ := HFX.out V hV; clear hV; go_simp; rfl); (intro K' hK'; go_simp; refine hK' _ ?_; clear hK' K')
    refine LeftL.run (v := ?_) 1 rfl (by kernel_rfl) rfl (fun _ _ d _ _ h => by cases d <;> exact h) ?_ HS.out ?_; rotate_left; (· intro V hV; obtain ⟨q0, q1, q2, q3, q4⟩ := HFX.out V hV; clear hV; go_simp; rfl); (intro K' hK'; go_simp; refine hK' _ ?_; clear hK' K')
    refine LeftL.run (v := ?_) 2 rfl (by kernel_rfl) rfl (fun _ _ d _ _ h => by cases d <;> exact h) ?_ HS.out ?_; rotate_left; (· intro V hV; obtain ⟨q0, q1, q2, q3, q4⟩ := HFX.out V hV; clear hV; go_simp; rfl); (intro K' hK'; go_simp; refine hK' _ ?_; clear hK' K')
    refine LeftL.run (v := ?_) 3 rfl (by kernel_rfl) rfl (fun _ _ d _ _ h => by cases d <;> exact h) ?_ HS.out ?_; rotate_left; (· intro V hV; obtain ⟨q0, q1, q2, q3, q4⟩ := HFX.out V hV; clear hV; go_simp; rfl); (intro K' hK'; go_simp; refine hK' _ ?_; clear hK' K')
    refine LeftL.run (v := ?_) 4 rfl (by kernel_rfl) rfl (fun _ _ d _ _ h => by cases d <;> exact h) ?_ HS.out ?_; rotate_left; (· intro V hV; obtain ⟨q0, q1, q2, q3, q4⟩ := HFX.out V hV; clear hV; go_simp; rfl); (intro K' hK'; go_simp; refine hK' _ ?_; clear hK' K')
    refine LeftL.run (v := ?_) 5 rfl (by kernel_rfl) rfl (fun _ _ d _ _ h => by cases d <;> exact h) ?_ HS.out ?_; rotate_left; (· intro V hV; obtain ⟨q0, q1, q2, q3, q4⟩ := HFX.out V hV; clear hV; go_simp; rfl); (intro K' hK'; go_simp; refine hK' _ ?_; clear hK' K')
    refine LeftL.run (v := ?_) 6 rfl (by kernel_rfl) rfl (fun _ _ d _ _ h => by cases d <;> exact h) ?_ HS.out ?_; rotate_left; (· intro V hV; obtain ⟨q0, q1, q2, q3, q4⟩ := HFX.out V hV; clear hV; go_simp; rfl); (intro K' hK'; go_simp; refine hK' _ ?_; clear hK' K')
    refine LeftL.run (v := ?_) 7 rfl (by kernel_rfl) rfl (fun _ _ d _ _ h => by cases d <;> exact h) ?_ HS.out ?_; rotate_left; (· intro V hV; obtain ⟨q0, q1, q2, q3, q4⟩ := HFX.out V hV; clear hV; go_simp; rfl); (intro K' hK'; go_simp; refine hK' _ ?_; clear hK' K')
    refine LeftL.run (v := ?_) 8 rfl (by kernel_rfl) rfl (fun _ _ d _ _ h => by cases d <;> exact h) ?_ HS.out ?_; rotate_left; (· intro V hV; obtain ⟨q0, q1, q2, q3, q4⟩ := HFX.out V hV; clear hV; go_simp; rfl); (intro K' hK'; go_simp; refine hK' _ ?_; clear hK' K')
    refine LeftL.run (v := ?_) 9 rfl (by kernel_rfl) rfl (fun _ _ d _ _ h => by cases d <;> exact h) ?_ HS.out ?_; rotate_left; (· intro V hV; obtain ⟨q0, q1, q2, q3, q4⟩ := HFX.out V hV; clear hV; go_simp; rfl); (intro K' hK'; go_simp; refine hK' _ ?_; clear hK' K')
    refine LeftL.run (v := ?_) 10 rfl (by kernel_rfl) rfl (fun _ _ d _ _ h => by cases d <;> exact h) ?_ HS.out ?_; rotate_left; (· intro V hV; obtain ⟨q0, q1, q2, q3, q4⟩ := HFX.out V hV; clear hV; go_simp; rfl); (intro K' hK'; go_simp; refine hK' _ ?_; clear hK' K')
    refine LeftL.run (v := ?_) 11 rfl (by kernel_rfl) rfl (fun _ _ d _ _ h => by cases d <;> exact h) ?_ HS.out ?_; rotate_left; (· intro V hV; obtain ⟨q0, q1, q2, q3, q4⟩ := HFX.out V hV; clear hV; go_simp; rfl); (intro K' hK'; go_simp; refine hK' _ ?_; clear hK' K')
    refine LeftL.run (v := ?_) 12 rfl (by kernel_rfl) rfl (fun _ _ d _ _ h => by cases d <;> exact h) ?_ HS.out ?_; rotate_left; (· intro V hV; obtain ⟨q0, q1, q2, q3, q4⟩ := HFX.out V hV; clear hV; go_simp; rfl); (intro K' hK'; go_simp; refine hK' _ ?_; clear hK' K')
    refine LeftL.run (v := ?_) 13 rfl (by kernel_rfl) rfl (fun _ _ d _ _ h => by cases d <;> exact h) ?_ HS.out ?_; rotate_left; (· intro V hV; obtain ⟨q0, q1, q2, q3, q4⟩ := HFX.out V hV; clear hV; go_simp; rfl); (intro K' hK'; go_simp; refine hK' _ ?_; clear hK' K')
    refine LeftL.run (v := ?_) 14 rfl (by kernel_rfl) rfl (fun _ _ d _ _ h => by cases d <;> exact h) ?_ HS.out ?_; rotate_left; (· intro V hV; obtain ⟨q0, q1, q2, q3, q4⟩ := HFX.out V hV; clear hV; go_simp; rfl); (intro K' hK'; go_simp; refine hK' _ ?_; clear hK' K')
    refine LeftL.run (v := ?_) 15 rfl (by kernel_rfl) rfl (fun _ _ d _ _ h => by cases d <;> exact h) ?_ HS.out ?_; rotate_left; (· intro V hV; obtain ⟨q0, q1, q2, q3, q4⟩ := HFX.out V hV; clear hV; go_simp; rfl); (intro K' hK'; go_simp; refine hK' _ ?_; clear hK' K')
    refine LeftL.run (v := ?_) 16 rfl (by kernel_rfl) rfl (fun _ _ d _ _ h => by cases d <;> exact h) ?_ HS.out ?_; rotate_left; (· intro V hV; obtain ⟨q0, q1, q2, q3, q4⟩ := HFX.out V hV; clear hV; go_simp; rfl); (intro K' hK'; go_simp; refine hK' _ ?_; clear hK' K')
    refine LeftL.take 17 rfl (by kernel_rfl) (fun _ _ d _ _ h => by cases d <;> exact h) (yields_loadE (ty := 25) rfl rfl rfl (HLU.out)) HS.out ?_; (intro K' hK'; go_simp; refine hK' _ ?_; clear hK' K')
    refine LeftL.run (v := ?_) 18 rfl (by kernel_rfl) rfl (fun _ _ d _ _ h => by cases d <;> exact h) ?_ HS.out ?_; rotate_left; (· intro V hV; obtain ⟨q0, q1, q2, q3, q4⟩ := HFX.out V hV; clear hV; go_simp; rfl); (intro K' hK'; go_simp; refine hK' _ ?_; clear hK' K')
    refine LeftL.run (v := ?_) 19 rfl (by kernel_rfl) rfl (fun _ _ d _ _ h => by cases d <;> exact h) ?_ HS.out ?_; rotate_left; (· intro V hV; obtain ⟨q0, q1, q2, q3, q4⟩ := HFX.out V hV; clear hV; go_simp; rfl); (intro K' hK'; go_simp; refine hK' _ ?_; clear hK' K')
    refine LeftL.run (v := ?_) 20 rfl (by kernel_rfl) rfl (fun _ _ d _ _ h => by cases d <;> exact h) ?_ HS.out ?_; rotate_left; (· intro V hV; obtain ⟨q0, q1, q2, q3, q4⟩ := HFX.out V hV; clear hV; go_simp; rfl); (intro K' hK'; go_simp; refine hK' _ ?_; clear hK' K')
    refine LeftL.run (v := ?_) 21 rfl (by kernel_rfl) rfl (fun _ _ d _ _ h => by cases d <;> exact h) ?_ HS.out ?_; rotate_left; (· intro V hV; obtain ⟨q0, q1, q2, q3, q4⟩ := HFX.out V hV; clear hV; go_simp; rfl); (intro K' hK'; go_simp; refine hK' _ ?_; clear hK' K')
    refine LeftL.run (v := ?_) 22 rfl (by kernel_rfl) rfl (fun _ _ d _ _ h => by cases d <;> exact h) ?_ HS.out ?_; rotate_left; (· intro V hV; obtain ⟨q0, q1, q2, q3, q4⟩ := HFX.out V hV; clear hV; go_simp; rfl); (intro K' hK'; go_simp; refine hK' _ ?_; clear hK' K')
    refine LeftL.run (v := ?_) 23 rfl (by kernel_rfl) rfl (fun _ _ d _ _ h => by cases d <;> exact h) ?_ HS.out ?_; rotate_left; (· intro V hV; obtain ⟨q0, q1, q2, q3, q4⟩ := HFX.out V hV; clear hV; go_simp; rfl); (intro K' hK'; go_simp; refine hK' _ ?_; clear hK' K')
    refine LeftL.two 24 27 rfl rfl (by kernel_rfl) ?_ ?_
    · go_wp2_with fail
      refine (takes_any u _ _ _ _ _ HU.out.speed HG.out.place HWY.out.1).mono ?_; rintro e w1 ⟨rfl, hf1⟩
      have hS1 := HS.out.call hf1 HS.out.size (by simp)
      clear hf1 HS
      have HS := Lib.hid hS1
      clear hS1
      rw [← HTK.out]
      go_wp2_with fail
      first | refine ⟨fun _ => HS.out, ?_⟩ | refine ⟨HS.out, ?_⟩
      refine LeftL.run (v := ?_) 25 rfl (by kernel_rfl) rfl (fun _ _ d _ _ h => by cases d <;> exact h) ?_ HS.out ?_; rotate_left; (· intro V hV; obtain ⟨q0, q1, q2, q3, q4⟩ := HFX.out V hV; clear hV; go_simp; rfl); (intro K' hK'; go_simp; refine hK' _ ?_; clear hK' K')
      refine LeftL.run (v := ?_) 26 rfl (by kernel_rfl) rfl (fun _ _ d _ _ h => by cases d <;> exact h) ?_ HS.out ?_; rotate_left; (· intro V hV; obtain ⟨q0, q1, q2, q3, q4⟩ := HFX.out V hV; clear hV; go_simp; rfl); (intro K' hK'; go_simp; refine hK' _ ?_; clear hK' K')
      refine LeftL.one 27 rfl (by kernel_rfl) ?_
      go_wp2_with fail
      have hS2 := HS.out.alloc HS.out.size (.cells #[.int .i64 0, .int .i64 0, .int .i64 0, .int .i64 0, .int .i64 0, .int .i64 0, .int .i64 0, .int .i64 0] 49)
      have hB := Blk.new w1 49 [.int .i64 0, .int .i64 0, .int .i64 0, .int .i64 0, .int .i64 0, .int .i64 0, .int .i64 0, .int .i64 0]
      have hk : w.heap.size + 1 < w1.heap.size := Nat.lt_of_lt_of_le HZ.out.lt HS.out.size
      have hk2 : W.heap.size ≤ w1.heap.size := HS.out.size
      clear HS
      have HS := Lib.hid hS2
      have HBN := Lib.hid hB
      have HKK := Lib.hid hk
      have HKK2 := Lib.hid hk2
      clear hk2 hk hB hS2
      first | refine ⟨fun _ => HS.out, ?_⟩ | refine ⟨HS.out, ?_⟩
      refine LeftL.one 28 rfl (by kernel_rfl) ?_
      refine wpList_storeB (P := Tryd.prog) (ty := 49) (cs := LC.cells ⟨g.x, g.y, wy.tx, wy.ty, g.time, g.time + tk, 0, 0⟩) rfl rfl HBN.out rfl rfl rfl info49 (by simp [LC.cells, Value.oneCell']) ?_
      refine wpList_nil ?_
      have hS3 := HS.out.setRow (g := w1.heap.size) (.inr HKK2.out) (LC.cells ⟨g.x, g.y, wy.tx, wy.ty, g.time, g.time + tk, 0, 0⟩).toArray
      refine ⟨fun _ => hS3, ?_⟩
      refine LeftL.done (by kernel_rfl) ?_
      simp only [Act.put]
      go_wp2_with fail
      go_meet
      case rel => exact ⟨_, rfl, ⟨HKK.out, HKK2.out⟩, by rw [HAR.out]; exact HBN.out.row _, hS3⟩
    · go_wp2_with fail
      have hS2 := HS.out.alloc HS.out.size (.cells #[.int .i64 0, .int .i64 0, .int .i64 0, .int .i64 0, .int .i64 0, .int .i64 0, .int .i64 0, .int .i64 0] 49)
      have hB := Blk.new W.drew 49 [.int .i64 0, .int .i64 0, .int .i64 0, .int .i64 0, .int .i64 0, .int .i64 0, .int .i64 0, .int .i64 0]
      have hk : w.heap.size + 1 < W.drew.heap.size := Nat.lt_of_lt_of_le HZ.out.lt HS.out.size
      have hk2 : W.heap.size ≤ W.drew.heap.size := HS.out.size
      clear HS
      have HS := Lib.hid hS2
      have HBN := Lib.hid hB
      have HKK := Lib.hid hk
      have HKK2 := Lib.hid hk2
      clear hk2 hk hB hS2
      first | refine ⟨fun _ => HS.out, ?_⟩ | refine ⟨HS.out, ?_⟩
      refine LeftL.one 24 rfl (by kernel_rfl) ?_
      go_wp2_with fail
      refine (takes_any u _ _ _ _ _ HU.out.speed HG.out.place HWY.out.1).mono ?_; rintro e w1 ⟨rfl, hf1⟩
      have hS1 := HS.out.call hf1 HS.out.size (by simp)
      have hB := hf1.blk HBN.out HBN.out.lt (by simp)
      clear hf1 HS HBN
      have HS := Lib.hid hS1
      have HBN := Lib.hid hB
      clear hB hS1
      rw [← HTK.out]
      go_wp2_with fail
      first | refine ⟨fun _ => HS.out, ?_⟩ | refine ⟨HS.out, ?_⟩
      refine LeftL.run (v := ?_) 25 rfl (by kernel_rfl) rfl (fun _ _ d _ _ h => by cases d <;> exact h) ?_ HS.out ?_; rotate_left; (· intro V hV; obtain ⟨q0, q1, q2, q3, q4⟩ := HFX.out V hV; clear hV; go_simp; rfl); (intro K' hK'; go_simp; refine hK' _ ?_; clear hK' K')
      refine LeftL.run (v := ?_) 26 rfl (by kernel_rfl) rfl (fun _ _ d _ _ h => by cases d <;> exact h) ?_ HS.out ?_; rotate_left; (· intro V hV; obtain ⟨q0, q1, q2, q3, q4⟩ := HFX.out V hV; clear hV; go_simp; rfl); (intro K' hK'; go_simp; refine hK' _ ?_; clear hK' K')
      refine LeftL.one 28 rfl (by kernel_rfl) ?_
      refine wpList_storeB (P := Tryd.prog) (ty := 49) (cs := LC.cells ⟨g.x, g.y, wy.tx, wy.ty, g.time, g.time + tk, 0, 0⟩) rfl rfl HBN.out rfl rfl rfl info49 (by simp [LC.cells, Value.oneCell']) ?_
      refine wpList_nil ?_
      have hS3 := HS.out.setRow (g := W.drew.heap.size) (.inr HKK2.out) (LC.cells ⟨g.x, g.y, wy.tx, wy.ty, g.time, g.time + tk, 0, 0⟩).toArray
      refine ⟨fun _ => hS3, ?_⟩
      refine LeftL.done (by kernel_rfl) ?_
      simp only [Act.put]
      go_wp2_with fail
      go_meet
      case rel => exact ⟨_, rfl, ⟨HKK.out, HKK2.out⟩, by rw [HAR.out]; exact HBN.out.row _, hS3⟩
  obtain ⟨k, rfl, ⟨hk, hkW⟩, hB, hS⟩ := hcut
  obtain ⟨ar, har2⟩ : ∃ ar, ar = arriveZ u g wy := ⟨_, rfl⟩
  rw [← har2] at hB i3
  have hst := HWY.out.2
  have a5 : wc.cell? ⟨k, 5, none⟩ = some (.int .i64 ar) := hB.cell 5
  have f6 := hB.free 6
  have z6 : wc.cell? ⟨k, 6, none⟩ = some (.int .i64 0) := hB.cell 6
  have s2 : wc.cell? ⟨w.heap.size, 2, none⟩ = some (.int .i64 wy.stay) := (hS.blk HB.out HB.out.lt (by simp)).cell 2
  have HK := Lib.hid hk
  have HKW := Lib.hid hkW
  have HB1 := Lib.hid hB
  have HS1 := Lib.hid hS
  have HAR2 := Lib.hid har2
  clear har2 hS hB hkW hk
  go_upto_region 3 with fail
  refine namedC ?_; intro W2 hW2
  obtain ⟨lv, hlv⟩ : ∃ lv, lv = leaveZ u g wy := ⟨_, rfl⟩
  rw [← hlv] at i4 i5
  have hlv2 : ar + wy.stay = lv := by rw [hlv, HLE.out, HAR2.out]
  rw [hlv2] at hW2
  have hB2 : Blk W2 k 49 (LC.cells ⟨g.x, g.y, wy.tx, wy.ty, g.time, ar, lv, 0⟩) := by rw [hW2]; exact HB1.out.set 6 _
  have hS2 : Frm W.heap.size [] W W2 := by rw [hW2]; exact HS1.out.setCell (.inr HKW.out) _
  clear hW2 hlv2 a5 f6 z6 s2
  have hT2 := hS2.blk HTW.out HTW.out.lt (by simp)
  have hfx2 : ∀ V, Frm W2.heap.size [] W2 V → V.cell? ⟨k, 6, none⟩ = some (.int .i64 lv) ∧ V.cell? ⟨k, 4, none⟩ = some (.int .i64 g.time) ∧ V.cell? ⟨T, 17, none⟩ = some (.int .i64 g.fuel) ∧ V.frozen? ⟨k, 7, none⟩ = false ∧ V.cell? ⟨k, 7, none⟩ = some (.int .i64 0) := fun V hV => by
    have hb' := hV.blk hB2 hB2.lt (by simp)
    have hT' := hV.blk hT2 hT2.lt (by simp)
    exact ⟨hb'.cell 6, hb'.cell 4, hT'.cell 17, hb'.free 7, hb'.cell 7⟩
  have hlu2 : ∀ V, Frm W2.heap.size [] W2 V → (loadVar 25 ⟨T, 0, none⟩).run Tryd.prog V = .ok (.agg u.cells.toArray) V := fun V hV => load_unit (hV.blk hT2 hT2.lt (by simp))
  have hw2 : IntKind.i64.wrap (lv - g.time) = lv - g.time := IntWalk.i64_in _ (by omega)
  clear HFX HLU hw1
  have HB2 := Lib.hid hB2
  have HS2 := Lib.hid hS2
  have HT2 := Lib.hid hT2
  have HFX := Lib.hid hfx2
  have HLU := Lib.hid hlu2
  have HLV := Lib.hid hlv
  clear hlv hlu2 hfx2 hT2 hS2 hB2
  refine wp_region_leftL (fun V => Frm W2.heap.size [] W2 V) 16 (by kernel_rfl) ?_
  have hS : Frm W2.heap.size [] W2 W2.drew := (Frm.refl _ _ W2).drew
  have HS := Lib.hid hS
  clear hS
  refine LeftL.run (v := ?_) 0 rfl (by kernel_rfl) rfl (fun _ _ d _ _ h => by cases d <;> exact h) ?_ HS.out ?_; rotate_left; (· intro V hV; obtain ⟨q0, q1, q2, q3, q4⟩ := HFX.out V hV; clear hV; go_simp; rfl); (intro K' hK'; go_simp; refine hK' _ ?_; clear hK' K')
  refine LeftL.run (v := ?_) 1 rfl (by kernel_rfl) rfl (fun _ _ d _ _ h => by cases d <;> exact h) ?_ HS.out ?_; rotate_left; (· intro V hV; obtain ⟨q0, q1, q2, q3, q4⟩ := HFX.out V hV; clear hV; go_simp; rfl); (intro K' hK'; go_simp; refine hK' _ ?_; clear hK' K')
  refine LeftL.run (v := ?_) 2 rfl (by kernel_rfl) rfl (fun _ _ d _ _ h => by cases d <;> exact h) ?_ HS.out ?_; rotate_left; (· intro V hV; obtain ⟨q0, q1, q2, q3, q4⟩ := HFX.out V hV; clear hV; go_simp; rfl); (intro K' hK'; go_simp; refine hK' _ ?_; clear hK' K')
  refine LeftL.run (v := ?_) 3 rfl (by kernel_rfl) rfl (fun _ _ d _ _ h => by cases d <;> exact h) ?_ HS.out ?_; rotate_left; (· intro V hV; obtain ⟨q0, q1, q2, q3, q4⟩ := HFX.out V hV; clear hV; go_simp; rfl); (intro K' hK'; go_simp; refine hK' _ ?_; clear hK' K')
  refine LeftL.run (v := ?_) 4 rfl (by kernel_rfl) rfl (fun _ _ d _ _ h => by cases d <;> exact h) ?_ HS.out ?_; rotate_left; (· intro V hV; obtain ⟨q0, q1, q2, q3, q4⟩ := HFX.out V hV; clear hV; go_simp; rfl); (intro K' hK'; go_simp; refine hK' _ ?_; clear hK' K')
  refine LeftL.run (v := ?_) 5 rfl (by kernel_rfl) rfl (fun _ _ d _ _ h => by cases d <;> exact h) ?_ HS.out ?_; rotate_left; (· intro V hV; obtain ⟨q0, q1, q2, q3, q4⟩ := HFX.out V hV; clear hV; go_simp; rfl); (intro K' hK'; go_simp; refine hK' _ ?_; clear hK' K')
  refine LeftL.run (v := ?_) 6 rfl (by kernel_rfl) rfl (fun _ _ d _ _ h => by cases d <;> exact h) ?_ HS.out ?_; rotate_left; (· intro V hV; obtain ⟨q0, q1, q2, q3, q4⟩ := HFX.out V hV; clear hV; go_simp; rfl); (intro K' hK'; go_simp; refine hK' _ ?_; clear hK' K')
  refine LeftL.take 7 rfl (by kernel_rfl) (fun _ _ d _ _ h => by cases d <;> exact h) (yields_loadE (ty := 25) rfl rfl rfl (HLU.out)) HS.out ?_; (intro K' hK'; go_simp; refine hK' _ ?_; clear hK' K')
  refine LeftL.run (v := ?_) 8 rfl (by kernel_rfl) rfl (fun _ _ d _ _ h => by cases d <;> exact h) ?_ HS.out ?_; rotate_left; (· intro V hV; obtain ⟨q0, q1, q2, q3, q4⟩ := HFX.out V hV; clear hV; go_simp; rfl); (intro K' hK'; go_simp; refine hK' _ ?_; clear hK' K')
  refine LeftL.run (v := ?_) 9 rfl (by kernel_rfl) rfl (fun _ _ d _ _ h => by cases d <;> exact h) ?_ HS.out ?_; rotate_left; (· intro V hV; obtain ⟨q0, q1, q2, q3, q4⟩ := HFX.out V hV; clear hV; go_simp; rfl); (intro K' hK'; go_simp; refine hK' _ ?_; clear hK' K')
  refine LeftL.run (v := ?_) 10 rfl (by kernel_rfl) rfl (fun _ _ d _ _ h => by cases d <;> exact h) ?_ HS.out ?_; rotate_left; (· intro V hV; obtain ⟨q0, q1, q2, q3, q4⟩ := HFX.out V hV; clear hV; go_simp; rfl); (intro K' hK'; go_simp; refine hK' _ ?_; clear hK' K')
  refine LeftL.run (v := ?_) 11 rfl (by kernel_rfl) rfl (fun _ _ d _ _ h => by cases d <;> exact h) ?_ HS.out ?_; rotate_left; (· intro V hV; obtain ⟨q0, q1, q2, q3, q4⟩ := HFX.out V hV; clear hV; go_simp; rfl); (intro K' hK'; go_simp; refine hK' _ ?_; clear hK' K')
  refine LeftL.run (v := ?_) 12 rfl (by kernel_rfl) rfl (fun _ _ d _ _ h => by cases d <;> exact h) ?_ HS.out ?_; rotate_left; (· intro V hV; obtain ⟨q0, q1, q2, q3, q4⟩ := HFX.out V hV; clear hV; go_simp; rfl); (intro K' hK'; go_simp; refine hK' _ ?_; clear hK' K')
  refine LeftL.one 13 rfl (by kernel_rfl) ?_
  go_wp2_with fail
  refine (burns_any u _ _ HU.out.burn i5).mono ?_; rintro e w1 ⟨rfl, hf1⟩
  have hS1 := HS.out.call hf1 HS.out.size (by simp)
  clear hf1 HS
  have HS := Lib.hid hS1
  clear hS1
  obtain ⟨bz, hbz⟩ : ∃ bz, bz = burnsZ u.burn (lv - g.time) := ⟨_, rfl⟩
  have ibz := burnsZ_in HU.out.burn i5
  rw [← hbz] at ibz
  rw [← hbz]
  have hgf := HG.out.fuel
  have HBZ := Lib.hid hbz
  clear hbz
  go_wp2_with fail
  first | refine ⟨fun _ => HS.out, ?_⟩ | refine ⟨HS.out, ?_⟩
  refine LeftL.one 14 rfl (by kernel_rfl) ?_
  go_wp2_with fail
  first | refine ⟨fun _ => HS.out, ?_⟩ | refine ⟨HS.out, ?_⟩
  refine LeftL.one 15 rfl (by kernel_rfl) ?_
  go_wp2_with fail
  first | refine ⟨fun _ => HS.out, ?_⟩ | refine ⟨HS.out, ?_⟩
  refine LeftL.one 16 rfl (by kernel_rfl) ?_
  have k7 := (HFX.out _ HS.out).2.2.2.1
  have z7 := (HFX.out _ HS.out).2.2.2.2
  go_wp2_with fail
  refine ⟨fun h => absurd rfl h, ?_⟩
  refine LeftL.done (by kernel_rfl) ?_
  clear k7 z7 hw2
  go_upto_region 4 with fail
  refine namedC ?_; intro W4 hW4
  obtain ⟨leg, hleg⟩ : ∃ leg, leg = legOf u g wy := ⟨_, rfl⟩
  have hle2 : leg = ⟨g.x, g.y, wy.tx, wy.ty, g.time, ar, lv, g.fuel - bz⟩ := by rw [hleg, HBZ.out, HLV.out, HAR2.out]; rfl
  have hB4 : Blk W4 k 49 leg.cells := by
    rw [hW4, hle2]
    have := HS.out.blk HB2.out HB2.out.lt (by simp)
    exact this.set 7 _
  have hS4 : Frm W.heap.size [] W W4 := by
    rw [hW4]
    exact (HS2.out.call HS.out HS2.out.size (by simp)).setCell (.inr HKW.out) _
  clear hW4 HS HFX HLU ibz hst
  have hT4 := hS4.blk HTW.out HTW.out.lt (by simp)
  have hb4 := hS4.blk HB.out HB.out.lt (by simp)
  have hfx4 : ∀ V, Frm W4.heap.size [] W4 V → V.cell? ⟨w.heap.size, 0, none⟩ = some (.int .i64 wy.tx) ∧ V.cell? ⟨w.heap.size, 1, none⟩ = some (.int .i64 wy.ty) ∧ V.cell? ⟨T, 8, none⟩ = some (.int .i64 u.bx) ∧ V.cell? ⟨T, 9, none⟩ = some (.int .i64 u.by_) := fun V hV => by
    have hb' := hV.blk hb4 hb4.lt (by simp)
    have hT' := hV.blk hT4 hT4.lt (by simp)
    exact ⟨hb'.cell 0, hb'.cell 1, hT'.cell 8, hT'.cell 9⟩
  have hlu4 : ∀ V, Frm W4.heap.size [] W4 V → (loadVar 25 ⟨T, 0, none⟩).run Tryd.prog V = .ok (.agg u.cells.toArray) V := fun V hV => load_unit (hV.blk hT4 hT4.lt (by simp))
  have hll4 : ∀ V, Frm W4.heap.size [] W4 V → (loadVar 49 ⟨k, 0, none⟩).run Tryd.prog V = .ok (.agg #[.int .i64 g.x, .int .i64 g.y, .int .i64 wy.tx, .int .i64 wy.ty, .int .i64 g.time, .int .i64 ar, .int .i64 lv, .int .i64 (g.fuel - bz)]) V := fun V hV => by
    have := loadVarB (hV.blk hB4 hB4.lt (by simp)) (P := Tryd.prog) Tryd.underlying49 rfl info49
    rw [hle2] at this
    exact this
  obtain ⟨bk, hbk⟩ : ∃ bk, bk = backOf u wy := ⟨_, rfl⟩
  rw [← hbk] at i2
  have HLEG := Lib.hid hleg
  have HB4 := Lib.hid hB4
  have HS4 := Lib.hid hS4
  have HT4 := Lib.hid hT4
  have HBW4 := Lib.hid hb4
  have HFX := Lib.hid hfx4
  have HLU := Lib.hid hlu4
  have HLL := Lib.hid hll4
  have HBK := Lib.hid hbk
  have HLE2 := Lib.hid hle2
  clear hle2 hbk hll4 hlu4 hfx4 hb4 hT4 hS4 hB4 hleg
  go_cut [7] from 59 to 73 (fun s7 w' => ∃ k7, s7 = .pointer (some ⟨k7, 0, none⟩) ∧ W4.heap.size ≤ k7 ∧ Blk w' k7 141 (stepC T leg bk) ∧ Frm W4.heap.size [] W4 w')
  case first =>
    refine wp_region_leftL (fun V => Frm W4.heap.size [] W4 V) 1000 (by kernel_rfl) ?_
    have hS : Frm W4.heap.size [] W4 W4.drew := (Frm.refl _ _ W4).drew
    have HS := Lib.hid hS
    clear hS
    refine LeftL.run (v := ?_) 0 rfl (by kernel_rfl) rfl (fun _ _ d _ _ h => by cases d <;> exact h) ?_ HS.out ?_; rotate_left; (· intro V hV; obtain ⟨q0, q1, q2, q3⟩ := HFX.out V hV; clear hV; go_simp; rfl); (intro K' hK'; go_simp; refine hK' _ ?_; clear hK' K')
    refine LeftL.take 1 rfl (by kernel_rfl) (fun _ _ d _ _ h => by cases d <;> exact h) (yields_loadE (ty := 49) rfl rfl rfl (HLL.out)) HS.out ?_; (intro K' hK'; go_simp; refine hK' _ ?_; clear hK' K')
    refine LeftL.run (v := ?_) 2 rfl (by kernel_rfl) rfl (fun _ _ d _ _ h => by cases d <;> exact h) ?_ HS.out ?_; rotate_left; (· intro V hV; obtain ⟨q0, q1, q2, q3⟩ := HFX.out V hV; clear hV; go_simp; rfl); (intro K' hK'; go_simp; refine hK' _ ?_; clear hK' K')
    refine LeftL.run (v := ?_) 3 rfl (by kernel_rfl) rfl (fun _ _ d _ _ h => by cases d <;> exact h) ?_ HS.out ?_; rotate_left; (· intro V hV; obtain ⟨q0, q1, q2, q3⟩ := HFX.out V hV; clear hV; go_simp; rfl); (intro K' hK'; go_simp; refine hK' _ ?_; clear hK' K')
    refine LeftL.run (v := ?_) 4 rfl (by kernel_rfl) rfl (fun _ _ d _ _ h => by cases d <;> exact h) ?_ HS.out ?_; rotate_left; (· intro V hV; obtain ⟨q0, q1, q2, q3⟩ := HFX.out V hV; clear hV; go_simp; rfl); (intro K' hK'; go_simp; refine hK' _ ?_; clear hK' K')
    refine LeftL.take 5 rfl (by kernel_rfl) (fun _ _ d _ _ h => by cases d <;> exact h) (yields_loadE (ty := 25) rfl rfl rfl (HLU.out)) HS.out ?_; (intro K' hK'; go_simp; refine hK' _ ?_; clear hK' K')
    refine LeftL.run (v := ?_) 6 rfl (by kernel_rfl) rfl (fun _ _ d _ _ h => by cases d <;> exact h) ?_ HS.out ?_; rotate_left; (· intro V hV; obtain ⟨q0, q1, q2, q3⟩ := HFX.out V hV; clear hV; go_simp; rfl); (intro K' hK'; go_simp; refine hK' _ ?_; clear hK' K')
    refine LeftL.run (v := ?_) 7 rfl (by kernel_rfl) rfl (fun _ _ d _ _ h => by cases d <;> exact h) ?_ HS.out ?_; rotate_left; (· intro V hV; obtain ⟨q0, q1, q2, q3⟩ := HFX.out V hV; clear hV; go_simp; rfl); (intro K' hK'; go_simp; refine hK' _ ?_; clear hK' K')
    refine LeftL.run (v := ?_) 8 rfl (by kernel_rfl) rfl (fun _ _ d _ _ h => by cases d <;> exact h) ?_ HS.out ?_; rotate_left; (· intro V hV; obtain ⟨q0, q1, q2, q3⟩ := HFX.out V hV; clear hV; go_simp; rfl); (intro K' hK'; go_simp; refine hK' _ ?_; clear hK' K')
    refine LeftL.run (v := ?_) 9 rfl (by kernel_rfl) rfl (fun _ _ d _ _ h => by cases d <;> exact h) ?_ HS.out ?_; rotate_left; (· intro V hV; obtain ⟨q0, q1, q2, q3⟩ := HFX.out V hV; clear hV; go_simp; rfl); (intro K' hK'; go_simp; refine hK' _ ?_; clear hK' K')
    refine LeftL.run (v := ?_) 10 rfl (by kernel_rfl) rfl (fun _ _ d _ _ h => by cases d <;> exact h) ?_ HS.out ?_; rotate_left; (· intro V hV; obtain ⟨q0, q1, q2, q3⟩ := HFX.out V hV; clear hV; go_simp; rfl); (intro K' hK'; go_simp; refine hK' _ ?_; clear hK' K')
    refine LeftL.run (v := ?_) 11 rfl (by kernel_rfl) rfl (fun _ _ d _ _ h => by cases d <;> exact h) ?_ HS.out ?_; rotate_left; (· intro V hV; obtain ⟨q0, q1, q2, q3⟩ := HFX.out V hV; clear hV; go_simp; rfl); (intro K' hK'; go_simp; refine hK' _ ?_; clear hK' K')
    refine LeftL.run (v := ?_) 12 rfl (by kernel_rfl) rfl (fun _ _ d _ _ h => by cases d <;> exact h) ?_ HS.out ?_; rotate_left; (· intro V hV; obtain ⟨q0, q1, q2, q3⟩ := HFX.out V hV; clear hV; go_simp; rfl); (intro K' hK'; go_simp; refine hK' _ ?_; clear hK' K')
    refine LeftL.two 13 15 rfl rfl (by kernel_rfl) ?_ ?_
    · go_wp2_with fail
      refine (takes_any u _ _ _ _ _ HU.out.speed HWY.out.1 HU.out.base).mono ?_; rintro e w5 ⟨rfl, hf1⟩
      have hS1 := HS.out.call hf1 HS.out.size (by simp)
      clear hf1 HS
      have HS := Lib.hid hS1
      clear hS1
      rw [show takesZ u.speed wy.tx wy.ty u.bx u.by_ = bk from HBK.out.symm]
      go_wp2_with fail
      first | refine ⟨fun _ => HS.out, ?_⟩ | refine ⟨HS.out, ?_⟩
      refine LeftL.run (v := ?_) 14 rfl (by kernel_rfl) rfl (fun _ _ d _ _ h => by cases d <;> exact h) ?_ HS.out ?_; rotate_left; (· intro V hV; obtain ⟨q0, q1, q2, q3⟩ := HFX.out V hV; clear hV; go_simp; rfl); (intro K' hK'; go_simp; refine hK' _ ?_; clear hK' K')
      refine LeftL.one 15 rfl (by kernel_rfl) ?_
      go_wp2_with fail
      have hS2 := HS.out.alloc HS.out.size (.cells #[.pointer none, .int .i64 0, .int .i64 0, .int .i64 0, .int .i64 0, .int .i64 0, .int .i64 0, .int .i64 0, .int .i64 0, .int .i64 0] 141)
      have hB := Blk.new w5 141 [.pointer none, .int .i64 0, .int .i64 0, .int .i64 0, .int .i64 0, .int .i64 0, .int .i64 0, .int .i64 0, .int .i64 0, .int .i64 0]
      have hk2 : W4.heap.size ≤ w5.heap.size := HS.out.size
      clear HS
      have HS := Lib.hid hS2
      have HBN := Lib.hid hB
      have HKK2 := Lib.hid hk2
      clear hk2 hB hS2
      first | refine ⟨fun _ => HS.out, ?_⟩ | refine ⟨HS.out, ?_⟩
      refine LeftL.one 16 rfl (by kernel_rfl) ?_
      refine wpList_storeB (P := Tryd.prog) (ty := 141) (cs := stepC T ⟨g.x, g.y, wy.tx, wy.ty, g.time, ar, lv, g.fuel - bz⟩ bk) rfl rfl HBN.out rfl rfl rfl info141 (by simp [stepC, LC.cells, Value.oneCell']) ?_
      refine wpList_nil ?_
      have hS3 := HS.out.setRow (g := w5.heap.size) (.inr HKK2.out) (stepC T ⟨g.x, g.y, wy.tx, wy.ty, g.time, ar, lv, g.fuel - bz⟩ bk).toArray
      refine ⟨fun _ => hS3, ?_⟩
      refine LeftL.done (by kernel_rfl) ?_
      simp only [Act.put]
      go_wp2_with fail
      go_meet
      case rel => exact ⟨_, rfl, HKK2.out, by rw [HLE2.out]; exact HBN.out.row _, hS3⟩
    · go_wp2_with fail
      have hS2 := HS.out.alloc HS.out.size (.cells #[.pointer none, .int .i64 0, .int .i64 0, .int .i64 0, .int .i64 0, .int .i64 0, .int .i64 0, .int .i64 0, .int .i64 0, .int .i64 0] 141)
      have hB := Blk.new W4.drew 141 [.pointer none, .int .i64 0, .int .i64 0, .int .i64 0, .int .i64 0, .int .i64 0, .int .i64 0, .int .i64 0, .int .i64 0, .int .i64 0]
      have hk2 : W4.heap.size ≤ W4.drew.heap.size := HS.out.size
      clear HS
      have HS := Lib.hid hS2
      have HBN := Lib.hid hB
      have HKK2 := Lib.hid hk2
      clear hk2 hB hS2
      first | refine ⟨fun _ => HS.out, ?_⟩ | refine ⟨HS.out, ?_⟩
      refine LeftL.one 13 rfl (by kernel_rfl) ?_
      go_wp2_with fail
      refine (takes_any u _ _ _ _ _ HU.out.speed HWY.out.1 HU.out.base).mono ?_; rintro e w5 ⟨rfl, hf1⟩
      have hS1 := HS.out.call hf1 HS.out.size (by simp)
      have hB := hf1.blk HBN.out HBN.out.lt (by simp)
      clear hf1 HS HBN
      have HS := Lib.hid hS1
      have HBN := Lib.hid hB
      clear hB hS1
      rw [show takesZ u.speed wy.tx wy.ty u.bx u.by_ = bk from HBK.out.symm]
      go_wp2_with fail
      first | refine ⟨fun _ => HS.out, ?_⟩ | refine ⟨HS.out, ?_⟩
      refine LeftL.run (v := ?_) 14 rfl (by kernel_rfl) rfl (fun _ _ d _ _ h => by cases d <;> exact h) ?_ HS.out ?_; rotate_left; (· intro V hV; obtain ⟨q0, q1, q2, q3⟩ := HFX.out V hV; clear hV; go_simp; rfl); (intro K' hK'; go_simp; refine hK' _ ?_; clear hK' K')
      refine LeftL.one 16 rfl (by kernel_rfl) ?_
      refine wpList_storeB (P := Tryd.prog) (ty := 141) (cs := stepC T ⟨g.x, g.y, wy.tx, wy.ty, g.time, ar, lv, g.fuel - bz⟩ bk) rfl rfl HBN.out rfl rfl rfl info141 (by simp [stepC, LC.cells, Value.oneCell']) ?_
      refine wpList_nil ?_
      have hS3 := HS.out.setRow (g := W4.drew.heap.size) (.inr HKK2.out) (stepC T ⟨g.x, g.y, wy.tx, wy.ty, g.time, ar, lv, g.fuel - bz⟩ bk).toArray
      refine ⟨fun _ => hS3, ?_⟩
      refine LeftL.done (by kernel_rfl) ?_
      simp only [Act.put]
      go_wp2_with fail
      go_meet
      case rel => exact ⟨_, rfl, HKK2.out, by rw [HLE2.out]; exact HBN.out.row _, hS3⟩
  obtain ⟨k7, rfl, hk7, hB7, hS7⟩ := hcut
  obtain ⟨A, hA⟩ : ∃ A, A = decide (1073741824 < homeZ leg bk) := ⟨_, rfl⟩
  obtain ⟨B, hBB⟩ : ∃ B, B = decide (leg.fuel - burnsZ u.burn bk < u.reserve) := ⟨_, rfl⟩
  obtain ⟨C, hC⟩ : ∃ C, C = decide (u.hours < homeZ leg bk - since) := ⟨_, rfl⟩
  obtain ⟨D, hD⟩ : ∃ D, D = roughB u n S leg bk := ⟨_, rfl⟩
  have hwhy : whyOf u n S since g wy = if A = true then 4 else if B = true then 1 else if C = true then 2 else if D = true then 3 else 0 := by
    have e1 : leg.fuel = leftZ u g wy := by rw [HLEG.out]; rfl
    rw [hA, hBB, hC, hD, HBK.out, e1, HLEG.out]
    unfold whyOf
    simp only [decide_eq_true_eq]
  have hll : 0 ≤ leg.leave ∧ leg.leave ≤ 1000000000000 := by
    have e1 : leg.leave = lv := by rw [HLE2.out]
    rw [e1]; omega
  have hlf : -4611686018427387904 ≤ leg.fuel ∧ leg.fuel ≤ 4611686018427387904 := by
    have e1 : leg.fuel = leftZ u g wy := by rw [HLEG.out]; rfl
    rw [e1]; omega
  have hbk2 : 0 ≤ bk ∧ bk ≤ 1000000000000 := by omega
  have hSc : Frm W.heap.size [] W wc := HS4.out.call hS7 HS4.out.size (by simp)
  have hTc := hSc.blk HTW.out HTW.out.lt (by simp)
  have hrc := HRW.out.frm hSc (Nat.le_refl _)
  have hgc := HGW.out.frm hSc (Nat.le_refl _)
  have hkc := hS7.blk HB4.out HB4.out.lt (by simp)
  have hzc := hSc.blk HZ.out HZ.out.lt (by simp)
  have hlc : ∀ V, Frm wc.heap.size [] wc V → Blk V T 103 (tripC u (.slice ad n cap) since g) ∧ (Rw V 8 ad b off n fun i => (S i).cells) ∧ Glob V ∧ Blk V k 49 leg.cells ∧ Blk V (w.heap.size + 1) 49 zs := fun V hV =>
    ⟨hV.blk hTc hTc.lt (by simp), hrc.frm hV (Nat.le_refl _), hgc.frm hV (Nat.le_refl _), hV.blk hkc hkc.lt (by simp), hV.blk hzc hzc.lt (by simp)⟩
  have c1 : ∀ V, Frm wc.heap.size [] wc V → Calls Tryd.prog 101 #[.agg (stepC T leg bk).toArray] V fun e w' => e = .returned (.bool A) ∧ Frm V.heap.size [] V w' := fun V hV => by
    rw [hA]; exact late_any T leg bk V hll hbk2
  have c2 : ∀ V, Frm wc.heap.size [] wc V → Calls Tryd.prog 102 #[.agg (stepC T leg bk).toArray] V fun e w' => e = .returned (.bool B) ∧ Frm V.heap.size [] V w' := fun V hV => by
    rw [hBB]; exact dry_any T leg bk u _ since g V (hlc V hV).1 HU.out.burn hbk2 hlf
  have c3 : ∀ V, Frm wc.heap.size [] wc V → Calls Tryd.prog 103 #[.agg (stepC T leg bk).toArray] V fun e w' => e = .returned (.bool C) ∧ Frm V.heap.size [] V w' := fun V hV => by
    rw [hC]; exact tired_any T leg bk u _ since g V (hlc V hV).1 hll hbk2 hs
  have c4 : ∀ V, Frm wc.heap.size [] wc V → Calls Tryd.prog 104 #[.agg (stepC T leg bk).toArray] V fun e w' => e = .returned (.bool D) ∧ Frm V.heap.size [] V w' := fun V hV => by
    rw [hD]; exact rough_any T leg bk u since g ad b off n cap S V (hlc V hV).1 (hlc V hV).2.1 hll hbk2
  have hld : ∀ V, Frm wc.heap.size [] wc V → (loadVar 49 ⟨k, 0, none⟩).run Tryd.prog V = .ok (.agg leg.cells.toArray) V := fun V hV => by
    exact loadVarB (hlc V hV).2.2.2.1 (P := Tryd.prog) Tryd.underlying49 rfl info49
  have hfin : Frm w.heap.size [] w wc := HF.out.call hSc HF.out.size (by simp)
  have hkne : k ≠ w.heap.size + 1 := by have := HK.out; omega
  have h0ne : 0 ≠ w.heap.size + 1 := by omega
  obtain ⟨cl, hcl⟩ : ∃ cl, cl = (legOf u g wy).cells := ⟨_, rfl⟩
  have hcl8 : cl.length = 8 := by rw [hcl]; rfl
  have hcl1 : ∀ v ∈ cl, v.oneCell' = true := by rw [hcl]; simp [LC.cells, Value.oneCell']
  rw [HLEG.out, ← hcl] at hld
  have hi49 : (Tryd.prog.info? 49).map (fun i => i.size) = some cl.length := by rw [hcl8]; exact info49
  clear hk7 hA hBB hC hD hll hlf hbk2 hSc hTc hrc hgc hkc hzc hS7 i3 i4 i5 i6 hs
  clear HU HG HW HWY HTK HAR HLE HB HF HRW HTW HGW HT HR HGL HK HKW HB1 HS1 HAR2 HLV HB2 HS2 HT2 HBZ HB4 HS4 HT4 HBW4 HFX HLU HLL HBK HLE2
  have hsi : (Tryd.prog.info? 141).map (fun i => i.size) = some (stepC T leg bk).length := info141
  have HSI := Lib.hid hsi
  have HWHY := Lib.hid hwhy
  have HLC := Lib.hid hlc
  have C1 := Lib.hid c1
  have C2 := Lib.hid c2
  have C3 := Lib.hid c3
  have C4 := Lib.hid c4
  have HLD := Lib.hid hld
  have HFIN := Lib.hid hfin
  have HZ1 := Lib.hid hz1
  have HB7 := Lib.hid hB7
  have HCL := Lib.hid hcl
  have HCL8 := Lib.hid hcl8
  have HCL1 := Lib.hid hcl1
  have HI49 := Lib.hid hi49
  have HKNE := Lib.hid hkne
  have H0NE := Lib.hid h0ne
  clear h0ne hkne hi49 hcl1 hcl8 hcl hB7 hz1 hfin hld c4 c3 c2 c1 hlc hwhy hsi
  go_wp2_with (with_reducible refine atLoad 141 rfl ?_; refine wpList_loadB (ty := 141) rfl rfl HB7.out rfl Tryd.underlying141 rfl HSI.out ?_)
  go_loopw [83] (fun i83 wr => ∃ j : Int, i83 = .int .i64 j ∧ (0 ≤ j ∧ j ≤ 4) ∧ (0 < j → A = false) ∧ (1 < j → B = false) ∧ (2 < j → C = false) ∧ (3 < j → D = false) ∧ Frm wc.heap.size [] wc wr) (fun i83 _ => 4 - (intOf i83).toNat)
  case atStart => exact ⟨0, rfl, by omega, by omega, by omega, by omega, by omega, by repeat (first | with_reducible exact Frm.refl _ _ _ | with_reducible refine Frm.drewN ?_ | with_reducible refine Frm.drew ?_ | ((with_reducible refine Frm.setCell' ?_ ?_); · first | (left; simp; done) | (right; simp; done) | (right; simp; omega)) | ((with_reducible refine Frm.alloc' ?_ ?_); · first | exact Nat.le_refl _ | (simp; done) | (simp; omega)))⟩
  case round =>
    obtain ⟨j, rfl, hj, h1, h2, h3, h4, hfr⟩ := hrel
    have HFR := Lib.hid hfr
    clear hfr
    rcases (show j = 0 ∨ j = 1 ∨ j = 2 ∨ j = 3 ∨ j = 4 by omega) with rfl | rfl | rfl | rfl | rfl
    · cases A
      · go_wp2_with fail
        refine (C1.out _ HFR.out).mono ?_; rintro e w1 ⟨rfl, hf1⟩
        have hf2 : Frm wc.heap.size [] wc w1 := HFR.out.call hf1 HFR.out.size (by simp)
        clear hf1
        have HF2 := Lib.hid hf2
        clear hf2
        go_wp2_with fail
        exact ⟨⟨1, rfl, by omega, fun hq => by first | trivial | rfl | exact h1 (by decide) | exact absurd hq (by decide), fun hq => by first | trivial | rfl | exact h2 (by decide) | exact absurd hq (by decide), fun hq => by first | trivial | rfl | exact h3 (by decide) | exact absurd hq (by decide), fun hq => by first | trivial | rfl | exact h4 (by decide) | exact absurd hq (by decide), HF2.out⟩, by simp [intOf]⟩
      · go_wp2_with fail
        refine (C1.out _ HFR.out).mono ?_; rintro e w1 ⟨rfl, hf1⟩
        have hf2 : Frm wc.heap.size [] wc w1 := HFR.out.call hf1 HFR.out.size (by simp)
        clear hf1
        have HF2 := Lib.hid hf2
        clear hf2
        go_wp2_with fail
        have hg1 := (HLC.out w1 HF2.out).2.2.1.c0
        have hk1 := (HLC.out w1 HF2.out).2.2.2.1
        have hz9 := (HLC.out w1 HF2.out).2.2.2.2
        have hf9 : Frm w.heap.size [] w w1 := HFIN.out.call HF2.out HFIN.out.size (by simp)
        have hfx : ∀ V, Frm w1.heap.size [w.heap.size + 1] w1 V → V.cell? ⟨0, 0, none⟩ = some (.int .i64 4) := fun V hV => (hV.cell (by have := cell_lt hg1; simpa using this) (by simp)).trans hg1
        have hlk : ∀ V, Frm w1.heap.size [w.heap.size + 1] w1 V → (loadVar 49 ⟨k, 0, none⟩).run Tryd.prog V = .ok (.agg cl.toArray) V := fun V hV => by
          have := loadVarB (hV.blk hk1 hk1.lt (by simpa using HKNE.out)) (P := Tryd.prog) Tryd.underlying49 rfl info49
          rw [HCL.out, ← HLEG.out]; exact this
        have HG1 := Lib.hid hg1
        have HK1 := Lib.hid hk1
        have HZ9 := Lib.hid hz9
        have HF9 := Lib.hid hf9
        have HFX := Lib.hid hfx
        have HLK := Lib.hid hlk
        clear hlk hfx hf9 hz9 hk1 hg1
        refine wp_region_leftL (fun V => Frm w1.heap.size [w.heap.size + 1] w1 V) 1000 (by kernel_rfl) ?_
        have hS : Frm w1.heap.size [w.heap.size + 1] w1 w1.drew := (Frm.refl _ _ w1).drew
        have HS := Lib.hid hS
        clear hS
        refine LeftL.take 0 rfl (by kernel_rfl) (fun _ _ d _ _ h => by cases d <;> exact h) (yields_loadE (ty := 49) rfl rfl rfl (HLK.out)) HS.out ?_; (intro K' hK'; go_simp; refine hK' _ ?_; clear hK' K')
        refine LeftL.run (v := ?_) 1 rfl (by kernel_rfl) rfl (fun _ _ d _ _ h => by cases d <;> exact h) ?_ HS.out ?_; rotate_left; (· intro V hV; obtain q0 := HFX.out V hV; clear hV; go_simp; rfl); (intro K' hK'; go_simp; refine hK' _ ?_; clear hK' K')
        refine LeftL.run (v := ?_) 2 rfl (by kernel_rfl) rfl (fun _ _ d _ _ h => by cases d <;> exact h) ?_ HS.out ?_; rotate_left; (· intro V hV; obtain q0 := HFX.out V hV; clear hV; go_simp; rfl); (intro K' hK'; go_simp; refine hK' _ ?_; clear hK' K')
        refine LeftL.run (v := ?_) 3 rfl (by kernel_rfl) rfl (fun _ _ d _ _ h => by cases d <;> exact h) ?_ HS.out ?_; rotate_left; (· intro V hV; obtain q0 := HFX.out V hV; clear hV; go_simp; rfl); (intro K' hK'; go_simp; refine hK' _ ?_; clear hK' K')
        refine LeftL.one 4 rfl (by kernel_rfl) ?_
        refine wpList_storeB (P := Tryd.prog) (ty := 49) (cs := cl) rfl rfl (show Blk w1.drew (w.heap.size + 1) 49 zs from HZ9.out) rfl rfl (HZ1.out.trans HCL8.out.symm) HI49.out HCL1.out ?_
        refine wpList_nil ?_
        have hS2 := HS.out.setRow (g := w.heap.size + 1) (.inl (by simp)) cl.toArray
        have hz10 := (show Blk w1.drew (w.heap.size + 1) 49 zs from HZ9.out).row cl
        have hf10 := HF9.out.drew.setRow (g := w.heap.size + 1) (.inr (Nat.le_succ _)) cl.toArray
        clear HS
        simp only [Act.put]
        have HZ10 := Lib.hid hz10
        have HF10 := Lib.hid hf10
        have HS := Lib.hid hS2
        clear hS2 hf10 hz10
        first | refine ⟨fun _ => HS.out, ?_⟩ | refine ⟨HS.out, ?_⟩
        refine LeftL.one 5 rfl (by kernel_rfl) ?_
        go_wp2_with fail
        first | refine ⟨fun _ => HS.out, ?_⟩ | refine ⟨HS.out, ?_⟩
        refine LeftL.done (by kernel_rfl) ?_
        go_wp2_with fail
        refine bodyPost_ret (results_ct Tryd.results77 HZ10.out rfl Tryd.underlying49 rfl HI49.out) rfl ?_
        exact ⟨by simp [HCL.out, HWHY.out], HF10.out⟩
    · cases B
      · go_wp2_with fail
        refine (C2.out _ HFR.out).mono ?_; rintro e w1 ⟨rfl, hf1⟩
        have hf2 : Frm wc.heap.size [] wc w1 := HFR.out.call hf1 HFR.out.size (by simp)
        clear hf1
        have HF2 := Lib.hid hf2
        clear hf2
        go_wp2_with fail
        exact ⟨⟨2, rfl, by omega, fun hq => by first | trivial | rfl | exact h1 (by decide) | exact absurd hq (by decide), fun hq => by first | trivial | rfl | exact h2 (by decide) | exact absurd hq (by decide), fun hq => by first | trivial | rfl | exact h3 (by decide) | exact absurd hq (by decide), fun hq => by first | trivial | rfl | exact h4 (by decide) | exact absurd hq (by decide), HF2.out⟩, by simp [intOf]⟩
      · go_wp2_with fail
        refine (C2.out _ HFR.out).mono ?_; rintro e w1 ⟨rfl, hf1⟩
        have hf2 : Frm wc.heap.size [] wc w1 := HFR.out.call hf1 HFR.out.size (by simp)
        clear hf1
        have HF2 := Lib.hid hf2
        clear hf2
        go_wp2_with fail
        have hg1 := (HLC.out w1 HF2.out).2.2.1.c1
        have hk1 := (HLC.out w1 HF2.out).2.2.2.1
        have hz9 := (HLC.out w1 HF2.out).2.2.2.2
        have hf9 : Frm w.heap.size [] w w1 := HFIN.out.call HF2.out HFIN.out.size (by simp)
        have hfx : ∀ V, Frm w1.heap.size [w.heap.size + 1] w1 V → V.cell? ⟨0, 1, none⟩ = some (.int .i64 1) := fun V hV => (hV.cell (by have := cell_lt hg1; simpa using this) (by simp)).trans hg1
        have hlk : ∀ V, Frm w1.heap.size [w.heap.size + 1] w1 V → (loadVar 49 ⟨k, 0, none⟩).run Tryd.prog V = .ok (.agg cl.toArray) V := fun V hV => by
          have := loadVarB (hV.blk hk1 hk1.lt (by simpa using HKNE.out)) (P := Tryd.prog) Tryd.underlying49 rfl info49
          rw [HCL.out, ← HLEG.out]; exact this
        have HG1 := Lib.hid hg1
        have HK1 := Lib.hid hk1
        have HZ9 := Lib.hid hz9
        have HF9 := Lib.hid hf9
        have HFX := Lib.hid hfx
        have HLK := Lib.hid hlk
        clear hlk hfx hf9 hz9 hk1 hg1
        refine wp_region_leftL (fun V => Frm w1.heap.size [w.heap.size + 1] w1 V) 1000 (by kernel_rfl) ?_
        have hS : Frm w1.heap.size [w.heap.size + 1] w1 w1.drew := (Frm.refl _ _ w1).drew
        have HS := Lib.hid hS
        clear hS
        refine LeftL.take 0 rfl (by kernel_rfl) (fun _ _ d _ _ h => by cases d <;> exact h) (yields_loadE (ty := 49) rfl rfl rfl (HLK.out)) HS.out ?_; (intro K' hK'; go_simp; refine hK' _ ?_; clear hK' K')
        refine LeftL.run (v := ?_) 1 rfl (by kernel_rfl) rfl (fun _ _ d _ _ h => by cases d <;> exact h) ?_ HS.out ?_; rotate_left; (· intro V hV; obtain q0 := HFX.out V hV; clear hV; go_simp; rfl); (intro K' hK'; go_simp; refine hK' _ ?_; clear hK' K')
        refine LeftL.run (v := ?_) 2 rfl (by kernel_rfl) rfl (fun _ _ d _ _ h => by cases d <;> exact h) ?_ HS.out ?_; rotate_left; (· intro V hV; obtain q0 := HFX.out V hV; clear hV; go_simp; rfl); (intro K' hK'; go_simp; refine hK' _ ?_; clear hK' K')
        refine LeftL.run (v := ?_) 3 rfl (by kernel_rfl) rfl (fun _ _ d _ _ h => by cases d <;> exact h) ?_ HS.out ?_; rotate_left; (· intro V hV; obtain q0 := HFX.out V hV; clear hV; go_simp; rfl); (intro K' hK'; go_simp; refine hK' _ ?_; clear hK' K')
        refine LeftL.one 4 rfl (by kernel_rfl) ?_
        refine wpList_storeB (P := Tryd.prog) (ty := 49) (cs := cl) rfl rfl (show Blk w1.drew (w.heap.size + 1) 49 zs from HZ9.out) rfl rfl (HZ1.out.trans HCL8.out.symm) HI49.out HCL1.out ?_
        refine wpList_nil ?_
        have hS2 := HS.out.setRow (g := w.heap.size + 1) (.inl (by simp)) cl.toArray
        have hz10 := (show Blk w1.drew (w.heap.size + 1) 49 zs from HZ9.out).row cl
        have hf10 := HF9.out.drew.setRow (g := w.heap.size + 1) (.inr (Nat.le_succ _)) cl.toArray
        clear HS
        simp only [Act.put]
        have HZ10 := Lib.hid hz10
        have HF10 := Lib.hid hf10
        have HS := Lib.hid hS2
        clear hS2 hf10 hz10
        first | refine ⟨fun _ => HS.out, ?_⟩ | refine ⟨HS.out, ?_⟩
        refine LeftL.one 5 rfl (by kernel_rfl) ?_
        go_wp2_with fail
        first | refine ⟨fun _ => HS.out, ?_⟩ | refine ⟨HS.out, ?_⟩
        refine LeftL.done (by kernel_rfl) ?_
        go_wp2_with fail
        refine bodyPost_ret (results_ct Tryd.results77 HZ10.out rfl Tryd.underlying49 rfl HI49.out) rfl ?_
        exact ⟨by simp [HCL.out, HWHY.out, h1 (by decide)], HF10.out⟩
    · cases C
      · go_wp2_with fail
        refine (C3.out _ HFR.out).mono ?_; rintro e w1 ⟨rfl, hf1⟩
        have hf2 : Frm wc.heap.size [] wc w1 := HFR.out.call hf1 HFR.out.size (by simp)
        clear hf1
        have HF2 := Lib.hid hf2
        clear hf2
        go_wp2_with fail
        exact ⟨⟨3, rfl, by omega, fun hq => by first | trivial | rfl | exact h1 (by decide) | exact absurd hq (by decide), fun hq => by first | trivial | rfl | exact h2 (by decide) | exact absurd hq (by decide), fun hq => by first | trivial | rfl | exact h3 (by decide) | exact absurd hq (by decide), fun hq => by first | trivial | rfl | exact h4 (by decide) | exact absurd hq (by decide), HF2.out⟩, by simp [intOf]⟩
      · go_wp2_with fail
        refine (C3.out _ HFR.out).mono ?_; rintro e w1 ⟨rfl, hf1⟩
        have hf2 : Frm wc.heap.size [] wc w1 := HFR.out.call hf1 HFR.out.size (by simp)
        clear hf1
        have HF2 := Lib.hid hf2
        clear hf2
        go_wp2_with fail
        have hg1 := (HLC.out w1 HF2.out).2.2.1.c2
        have hk1 := (HLC.out w1 HF2.out).2.2.2.1
        have hz9 := (HLC.out w1 HF2.out).2.2.2.2
        have hf9 : Frm w.heap.size [] w w1 := HFIN.out.call HF2.out HFIN.out.size (by simp)
        have hfx : ∀ V, Frm w1.heap.size [w.heap.size + 1] w1 V → V.cell? ⟨0, 2, none⟩ = some (.int .i64 2) := fun V hV => (hV.cell (by have := cell_lt hg1; simpa using this) (by simp)).trans hg1
        have hlk : ∀ V, Frm w1.heap.size [w.heap.size + 1] w1 V → (loadVar 49 ⟨k, 0, none⟩).run Tryd.prog V = .ok (.agg cl.toArray) V := fun V hV => by
          have := loadVarB (hV.blk hk1 hk1.lt (by simpa using HKNE.out)) (P := Tryd.prog) Tryd.underlying49 rfl info49
          rw [HCL.out, ← HLEG.out]; exact this
        have HG1 := Lib.hid hg1
        have HK1 := Lib.hid hk1
        have HZ9 := Lib.hid hz9
        have HF9 := Lib.hid hf9
        have HFX := Lib.hid hfx
        have HLK := Lib.hid hlk
        clear hlk hfx hf9 hz9 hk1 hg1
        refine wp_region_leftL (fun V => Frm w1.heap.size [w.heap.size + 1] w1 V) 1000 (by kernel_rfl) ?_
        have hS : Frm w1.heap.size [w.heap.size + 1] w1 w1.drew := (Frm.refl _ _ w1).drew
        have HS := Lib.hid hS
        clear hS
        refine LeftL.take 0 rfl (by kernel_rfl) (fun _ _ d _ _ h => by cases d <;> exact h) (yields_loadE (ty := 49) rfl rfl rfl (HLK.out)) HS.out ?_; (intro K' hK'; go_simp; refine hK' _ ?_; clear hK' K')
        refine LeftL.run (v := ?_) 1 rfl (by kernel_rfl) rfl (fun _ _ d _ _ h => by cases d <;> exact h) ?_ HS.out ?_; rotate_left; (· intro V hV; obtain q0 := HFX.out V hV; clear hV; go_simp; rfl); (intro K' hK'; go_simp; refine hK' _ ?_; clear hK' K')
        refine LeftL.run (v := ?_) 2 rfl (by kernel_rfl) rfl (fun _ _ d _ _ h => by cases d <;> exact h) ?_ HS.out ?_; rotate_left; (· intro V hV; obtain q0 := HFX.out V hV; clear hV; go_simp; rfl); (intro K' hK'; go_simp; refine hK' _ ?_; clear hK' K')
        refine LeftL.run (v := ?_) 3 rfl (by kernel_rfl) rfl (fun _ _ d _ _ h => by cases d <;> exact h) ?_ HS.out ?_; rotate_left; (· intro V hV; obtain q0 := HFX.out V hV; clear hV; go_simp; rfl); (intro K' hK'; go_simp; refine hK' _ ?_; clear hK' K')
        refine LeftL.one 4 rfl (by kernel_rfl) ?_
        refine wpList_storeB (P := Tryd.prog) (ty := 49) (cs := cl) rfl rfl (show Blk w1.drew (w.heap.size + 1) 49 zs from HZ9.out) rfl rfl (HZ1.out.trans HCL8.out.symm) HI49.out HCL1.out ?_
        refine wpList_nil ?_
        have hS2 := HS.out.setRow (g := w.heap.size + 1) (.inl (by simp)) cl.toArray
        have hz10 := (show Blk w1.drew (w.heap.size + 1) 49 zs from HZ9.out).row cl
        have hf10 := HF9.out.drew.setRow (g := w.heap.size + 1) (.inr (Nat.le_succ _)) cl.toArray
        clear HS
        simp only [Act.put]
        have HZ10 := Lib.hid hz10
        have HF10 := Lib.hid hf10
        have HS := Lib.hid hS2
        clear hS2 hf10 hz10
        first | refine ⟨fun _ => HS.out, ?_⟩ | refine ⟨HS.out, ?_⟩
        refine LeftL.one 5 rfl (by kernel_rfl) ?_
        go_wp2_with fail
        first | refine ⟨fun _ => HS.out, ?_⟩ | refine ⟨HS.out, ?_⟩
        refine LeftL.done (by kernel_rfl) ?_
        go_wp2_with fail
        refine bodyPost_ret (results_ct Tryd.results77 HZ10.out rfl Tryd.underlying49 rfl HI49.out) rfl ?_
        exact ⟨by simp [HCL.out, HWHY.out, h1 (by decide), h2 (by decide)], HF10.out⟩
    · cases D
      · go_wp2_with fail
        refine (C4.out _ HFR.out).mono ?_; rintro e w1 ⟨rfl, hf1⟩
        have hf2 : Frm wc.heap.size [] wc w1 := HFR.out.call hf1 HFR.out.size (by simp)
        clear hf1
        have HF2 := Lib.hid hf2
        clear hf2
        go_wp2_with fail
        exact ⟨⟨4, rfl, by omega, fun hq => by first | trivial | rfl | exact h1 (by decide) | exact absurd hq (by decide), fun hq => by first | trivial | rfl | exact h2 (by decide) | exact absurd hq (by decide), fun hq => by first | trivial | rfl | exact h3 (by decide) | exact absurd hq (by decide), fun hq => by first | trivial | rfl | exact h4 (by decide) | exact absurd hq (by decide), HF2.out⟩, by simp [intOf]⟩
      · go_wp2_with fail
        refine (C4.out _ HFR.out).mono ?_; rintro e w1 ⟨rfl, hf1⟩
        have hf2 : Frm wc.heap.size [] wc w1 := HFR.out.call hf1 HFR.out.size (by simp)
        clear hf1
        have HF2 := Lib.hid hf2
        clear hf2
        go_wp2_with fail
        have hg1 := (HLC.out w1 HF2.out).2.2.1.c3
        have hk1 := (HLC.out w1 HF2.out).2.2.2.1
        have hz9 := (HLC.out w1 HF2.out).2.2.2.2
        have hf9 : Frm w.heap.size [] w w1 := HFIN.out.call HF2.out HFIN.out.size (by simp)
        have hfx : ∀ V, Frm w1.heap.size [w.heap.size + 1] w1 V → V.cell? ⟨0, 3, none⟩ = some (.int .i64 3) := fun V hV => (hV.cell (by have := cell_lt hg1; simpa using this) (by simp)).trans hg1
        have hlk : ∀ V, Frm w1.heap.size [w.heap.size + 1] w1 V → (loadVar 49 ⟨k, 0, none⟩).run Tryd.prog V = .ok (.agg cl.toArray) V := fun V hV => by
          have := loadVarB (hV.blk hk1 hk1.lt (by simpa using HKNE.out)) (P := Tryd.prog) Tryd.underlying49 rfl info49
          rw [HCL.out, ← HLEG.out]; exact this
        have HG1 := Lib.hid hg1
        have HK1 := Lib.hid hk1
        have HZ9 := Lib.hid hz9
        have HF9 := Lib.hid hf9
        have HFX := Lib.hid hfx
        have HLK := Lib.hid hlk
        clear hlk hfx hf9 hz9 hk1 hg1
        refine wp_region_leftL (fun V => Frm w1.heap.size [w.heap.size + 1] w1 V) 1000 (by kernel_rfl) ?_
        have hS : Frm w1.heap.size [w.heap.size + 1] w1 w1.drew := (Frm.refl _ _ w1).drew
        have HS := Lib.hid hS
        clear hS
        refine LeftL.take 0 rfl (by kernel_rfl) (fun _ _ d _ _ h => by cases d <;> exact h) (yields_loadE (ty := 49) rfl rfl rfl (HLK.out)) HS.out ?_; (intro K' hK'; go_simp; refine hK' _ ?_; clear hK' K')
        refine LeftL.run (v := ?_) 1 rfl (by kernel_rfl) rfl (fun _ _ d _ _ h => by cases d <;> exact h) ?_ HS.out ?_; rotate_left; (· intro V hV; obtain q0 := HFX.out V hV; clear hV; go_simp; rfl); (intro K' hK'; go_simp; refine hK' _ ?_; clear hK' K')
        refine LeftL.run (v := ?_) 2 rfl (by kernel_rfl) rfl (fun _ _ d _ _ h => by cases d <;> exact h) ?_ HS.out ?_; rotate_left; (· intro V hV; obtain q0 := HFX.out V hV; clear hV; go_simp; rfl); (intro K' hK'; go_simp; refine hK' _ ?_; clear hK' K')
        refine LeftL.run (v := ?_) 3 rfl (by kernel_rfl) rfl (fun _ _ d _ _ h => by cases d <;> exact h) ?_ HS.out ?_; rotate_left; (· intro V hV; obtain q0 := HFX.out V hV; clear hV; go_simp; rfl); (intro K' hK'; go_simp; refine hK' _ ?_; clear hK' K')
        refine LeftL.one 4 rfl (by kernel_rfl) ?_
        refine wpList_storeB (P := Tryd.prog) (ty := 49) (cs := cl) rfl rfl (show Blk w1.drew (w.heap.size + 1) 49 zs from HZ9.out) rfl rfl (HZ1.out.trans HCL8.out.symm) HI49.out HCL1.out ?_
        refine wpList_nil ?_
        have hS2 := HS.out.setRow (g := w.heap.size + 1) (.inl (by simp)) cl.toArray
        have hz10 := (show Blk w1.drew (w.heap.size + 1) 49 zs from HZ9.out).row cl
        have hf10 := HF9.out.drew.setRow (g := w.heap.size + 1) (.inr (Nat.le_succ _)) cl.toArray
        clear HS
        simp only [Act.put]
        have HZ10 := Lib.hid hz10
        have HF10 := Lib.hid hf10
        have HS := Lib.hid hS2
        clear hS2 hf10 hz10
        first | refine ⟨fun _ => HS.out, ?_⟩ | refine ⟨HS.out, ?_⟩
        refine LeftL.one 5 rfl (by kernel_rfl) ?_
        go_wp2_with fail
        first | refine ⟨fun _ => HS.out, ?_⟩ | refine ⟨HS.out, ?_⟩
        refine LeftL.done (by kernel_rfl) ?_
        go_wp2_with fail
        refine bodyPost_ret (results_ct Tryd.results77 HZ10.out rfl Tryd.underlying49 rfl HI49.out) rfl ?_
        exact ⟨by simp [HCL.out, HWHY.out, h1 (by decide), h2 (by decide), h3 (by decide)], HF10.out⟩
    · have hlo := HLD.out wr HFR.out
      have hz9 := (HLC.out wr HFR.out).2.2.2.2
      have hf9 : Frm w.heap.size [] w wr := HFIN.out.call HFR.out HFIN.out.size (by simp)
      have HLO := Lib.hid hlo
      have HZ9 := Lib.hid hz9
      have HF9 := Lib.hid hf9
      clear hf9 hz9 hlo
      go_wp2_with (first | (with_reducible refine atLoad 49 rfl ?_; refine wpList_loadE rfl rfl rfl HLO.out ?_) | (with_reducible refine atStore 49 rfl ?_; refine stop_ ?_))
      refine go_on ?_
      refine wpList_storeB (P := Tryd.prog) (ty := 49) (cs := cl) rfl rfl HZ9.out rfl rfl (HZ1.out.trans HCL8.out.symm) HI49.out HCL1.out ?_
      have hz10 := HZ9.out.row cl
      have hf10 := HF9.out.setRow (g := w.heap.size + 1) (.inr (Nat.le_succ _)) cl.toArray
      have HZ10 := Lib.hid hz10
      have HF10 := Lib.hid hf10
      clear hf10 hz10
      go_wp2_with fail
      refine bodyPost_ret (results_ct Tryd.results77 HZ10.out rfl Tryd.underlying49 rfl HI49.out) rfl ?_
      exact ⟨by simp [HCL.out, HWHY.out, h1 (by decide), h2 (by decide), h3 (by decide), h4 (by decide)], HF10.out⟩
end Go.Proofs.YtghkfopcjdkieaaDoor
