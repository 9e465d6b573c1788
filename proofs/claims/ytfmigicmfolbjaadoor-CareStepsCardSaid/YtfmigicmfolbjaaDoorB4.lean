/-
  Texts C2, C3 of this claim, one behind the other.
-/
import Derived.Test.YtfmigicmfolbjaaDoorB3
namespace Go.Proofs.YtfmigicmfolbjaaDoor
set_option linter.all false
set_option linter.unusedSimpArgs false
set_option linter.unusedVariables false
open Go.RowKit

/-- An evacuation. -/
structure Wi where
  hover : Int
  swing : Int
  cable : Int
  load : Int
  most : Int
  wind : Int
  mostw : Int
  period : Int
def Wi.list (f : Wi) : List Int := [f.hover, f.swing, f.cable, f.load, f.most, f.wind, f.mostw, f.period]
def Wi.cells (f : Wi) : List Value := [.int .i64 f.hover, .int .i64 f.swing, .int .i64 f.cable, .int .i64 f.load, .int .i64 f.most, .int .i64 f.wind, .int .i64 f.mostw, .int .i64 f.period]
theorem info23 : (Tryd.prog.info? 23).map (fun i => i.size) = some 8 := by kernel_rfl
theorem Wi.info (f : Wi) : (Tryd.prog.info? 23).map (fun i => i.size) = some f.cells.length := info23
/-- A row of integers just made. -/
def numsF (l : List Int) (i : Nat) : Int := l.getD i 0
theorem rwI_new {W : World} {h : Nat} {l : List Int} (hb : Blk W h 3 (l.map fun x => Value.int .i64 x)) (hl : l.length ≤ 1000) : RwI W (some ⟨h, 0, none⟩) h 0 l.length (numsF l) := by
  refine ⟨fun _ => rfl, by unfold maxLen; omega, fun i hi k v hv => ?_⟩
  have hk : k = 0 := by have := (List.getElem?_eq_some_iff.1 hv).1; simp at this; omega
  subst hk
  have := hb.cell i
  simp only [Nat.zero_add, Nat.mul_one, Nat.add_zero]
  rw [this, List.getElem?_map, List.getElem?_eq_getElem hi]
  simp only [List.getElem?_cons_zero, Option.some.injEq] at hv
  rw [← hv]
  simp [numsF, List.getD_eq_getElem?_getD, List.getElem?_eq_getElem hi]
def wiIn (f : Wi) : Bool := allIn (numsF f.list) 8 0 100000 && !decide (f.period = 0)
theorem wiIn_all {f : Wi} (h : wiIn f = true) : (0 ≤ f.hover ∧ f.hover ≤ 100000) ∧ (0 ≤ f.swing ∧ f.swing ≤ 100000) ∧ (0 ≤ f.cable ∧ f.cable ≤ 100000) ∧ (0 ≤ f.period ∧ f.period ≤ 100000) := by
  unfold wiIn at h
  simp only [Bool.and_eq_true] at h
  have h1 := allIn_iff.1 h.1
  have a0 := inB_iff.1 (h1 0 (by omega))
  have a1 := inB_iff.1 (h1 1 (by omega))
  have a2 := inB_iff.1 (h1 2 (by omega))
  have a7 := inB_iff.1 (h1 7 (by omega))
  exact ⟨a0, a1, a2, a7⟩
/-- Is something against it? -/
def agB (f : Wi) : Nat → Bool
  | 0 => decide (f.cable < f.hover + f.swing)
  | 1 => decide (f.most < f.load)
  | 2 => decide (f.mostw < f.wind)
  | 3 => decide (f.hover < 3 * f.swing)
  | _ => decide (14000 * f.period < 22 * f.swing)
/-- What is against it, of the first k things. -/
def liftL (f : Wi) (k : Nat) : List Nat := ((List.range k).filter (agB f)).map (· + 1)
theorem liftL_succ (f : Wi) (k : Nat) : liftL f (k + 1) = liftL f k ++ (if agB f k = true then [k + 1] else []) := by
  unfold liftL
  rw [List.range_succ, List.filter_append, List.map_append]
  congr 1
  cases h : agB f k <;> simp [h]
theorem liftL_len (f : Wi) : ∀ k, (liftL f k).length ≤ k
  | 0 => Nat.le_refl _
  | k + 1 => by
    rw [liftL_succ, List.length_append]
    have := liftL_len f k
    split <;> simp <;> omega
set_option maxRecDepth 100000 in
set_option maxHeartbeats 4000000 in
theorem ag0_any (f : Wi) (h : wiIn f = true) (w : World) : Calls Tryd.prog 79 #[.agg f.cells.toArray] w fun e w' => e = .returned (.bool (agB f 0)) ∧ Frm w.heap.size [] w w' := by
  obtain ⟨r0, r1, r2, r7⟩ := wiIn_all h
  have w1 : wrap64 (f.hover + f.swing) = f.hover + f.swing := IntWalk.wrap64_in _ (by omega)
  have v1 : IntKind.i64.wrap (f.hover + f.swing) = f.hover + f.swing := IntWalk.i64_in _ (by omega)
  clear r0 r1 r2 r7 h
  have hd : agB f 0 = decide (f.cable < f.hover + f.swing) := rfl
  rw [hd]
  clear hd
  go_enter Tryd.func79, Tryd.ntmps79
  go_upto_region 1 with fail
  refine namedC ?_; intro W hW
  have hb : Blk W w.heap.size 23 f.cells := by rw [hW]; exact Blk.new w 23 f.cells
  have hf : Frm w.heap.size [] w W := by rw [hW]; repeat (first | with_reducible exact Frm.refl _ _ _ | with_reducible refine Frm.drewN ?_ | with_reducible refine Frm.drew ?_ | ((with_reducible refine Frm.setCell' ?_ ?_); · first | (left; simp; done) | (right; simp; done) | (right; simp; omega)) | ((with_reducible refine Frm.alloc' ?_ ?_); · first | exact Nat.le_refl _ | (simp; done) | (simp; omega)))
  clear hW
  have c0 : W.cell? ⟨w.heap.size, 0, none⟩ = some (.int .i64 f.hover) := hb.cell 0
  have c1 : W.cell? ⟨w.heap.size, 1, none⟩ = some (.int .i64 f.swing) := hb.cell 1
  have c2 : W.cell? ⟨w.heap.size, 2, none⟩ = some (.int .i64 f.cable) := hb.cell 2
  have HB := Lib.hid hb
  have HF := Lib.hid hf
  clear hf hb
  go_wp2_with fail
  go_ret
  exact ⟨rfl, HF.out⟩
set_option maxRecDepth 100000 in
set_option maxHeartbeats 4000000 in
theorem ag1_any (f : Wi) (h : wiIn f = true) (w : World) : Calls Tryd.prog 80 #[.agg f.cells.toArray] w fun e w' => e = .returned (.bool (agB f 1)) ∧ Frm w.heap.size [] w w' := by
  obtain ⟨r0, r1, r2, r7⟩ := wiIn_all h
  clear r0 r1 r2 r7 h
  have hd : agB f 1 = decide (f.most < f.load) := rfl
  rw [hd]
  clear hd
  go_enter Tryd.func80, Tryd.ntmps80
  go_upto_region 1 with fail
  refine namedC ?_; intro W hW
  have hb : Blk W w.heap.size 23 f.cells := by rw [hW]; exact Blk.new w 23 f.cells
  have hf : Frm w.heap.size [] w W := by rw [hW]; repeat (first | with_reducible exact Frm.refl _ _ _ | with_reducible refine Frm.drewN ?_ | with_reducible refine Frm.drew ?_ | ((with_reducible refine Frm.setCell' ?_ ?_); · first | (left; simp; done) | (right; simp; done) | (right; simp; omega)) | ((with_reducible refine Frm.alloc' ?_ ?_); · first | exact Nat.le_refl _ | (simp; done) | (simp; omega)))
  clear hW
  have c3 : W.cell? ⟨w.heap.size, 3, none⟩ = some (.int .i64 f.load) := hb.cell 3
  have c4 : W.cell? ⟨w.heap.size, 4, none⟩ = some (.int .i64 f.most) := hb.cell 4
  have HB := Lib.hid hb
  have HF := Lib.hid hf
  clear hf hb
  go_wp2_with fail
  go_ret
  exact ⟨rfl, HF.out⟩
set_option maxRecDepth 100000 in
set_option maxHeartbeats 4000000 in
theorem ag2_any (f : Wi) (h : wiIn f = true) (w : World) : Calls Tryd.prog 81 #[.agg f.cells.toArray] w fun e w' => e = .returned (.bool (agB f 2)) ∧ Frm w.heap.size [] w w' := by
  obtain ⟨r0, r1, r2, r7⟩ := wiIn_all h
  clear r0 r1 r2 r7 h
  have hd : agB f 2 = decide (f.mostw < f.wind) := rfl
  rw [hd]
  clear hd
  go_enter Tryd.func81, Tryd.ntmps81
  go_upto_region 1 with fail
  refine namedC ?_; intro W hW
  have hb : Blk W w.heap.size 23 f.cells := by rw [hW]; exact Blk.new w 23 f.cells
  have hf : Frm w.heap.size [] w W := by rw [hW]; repeat (first | with_reducible exact Frm.refl _ _ _ | with_reducible refine Frm.drewN ?_ | with_reducible refine Frm.drew ?_ | ((with_reducible refine Frm.setCell' ?_ ?_); · first | (left; simp; done) | (right; simp; done) | (right; simp; omega)) | ((with_reducible refine Frm.alloc' ?_ ?_); · first | exact Nat.le_refl _ | (simp; done) | (simp; omega)))
  clear hW
  have c5 : W.cell? ⟨w.heap.size, 5, none⟩ = some (.int .i64 f.wind) := hb.cell 5
  have c6 : W.cell? ⟨w.heap.size, 6, none⟩ = some (.int .i64 f.mostw) := hb.cell 6
  have HB := Lib.hid hb
  have HF := Lib.hid hf
  clear hf hb
  go_wp2_with fail
  go_ret
  exact ⟨rfl, HF.out⟩
set_option maxRecDepth 100000 in
set_option maxHeartbeats 4000000 in
theorem ag3_any (f : Wi) (h : wiIn f = true) (w : World) : Calls Tryd.prog 82 #[.agg f.cells.toArray] w fun e w' => e = .returned (.bool (agB f 3)) ∧ Frm w.heap.size [] w w' := by
  obtain ⟨r0, r1, r2, r7⟩ := wiIn_all h
  have w1 : wrap64 (3 * f.swing) = 3 * f.swing := IntWalk.wrap64_in _ (by omega)
  have v1 : IntKind.i64.wrap (3 * f.swing) = 3 * f.swing := IntWalk.i64_in _ (by omega)
  clear r0 r1 r2 r7 h
  have hd : agB f 3 = decide (f.hover < 3 * f.swing) := rfl
  rw [hd]
  clear hd
  go_enter Tryd.func82, Tryd.ntmps82
  go_upto_region 1 with fail
  refine namedC ?_; intro W hW
  have hb : Blk W w.heap.size 23 f.cells := by rw [hW]; exact Blk.new w 23 f.cells
  have hf : Frm w.heap.size [] w W := by rw [hW]; repeat (first | with_reducible exact Frm.refl _ _ _ | with_reducible refine Frm.drewN ?_ | with_reducible refine Frm.drew ?_ | ((with_reducible refine Frm.setCell' ?_ ?_); · first | (left; simp; done) | (right; simp; done) | (right; simp; omega)) | ((with_reducible refine Frm.alloc' ?_ ?_); · first | exact Nat.le_refl _ | (simp; done) | (simp; omega)))
  clear hW
  have c0 : W.cell? ⟨w.heap.size, 0, none⟩ = some (.int .i64 f.hover) := hb.cell 0
  have c1 : W.cell? ⟨w.heap.size, 1, none⟩ = some (.int .i64 f.swing) := hb.cell 1
  have HB := Lib.hid hb
  have HF := Lib.hid hf
  clear hf hb
  go_wp2_with fail
  go_ret
  exact ⟨rfl, HF.out⟩
set_option maxRecDepth 100000 in
set_option maxHeartbeats 4000000 in
theorem ag4_any (f : Wi) (h : wiIn f = true) (w : World) : Calls Tryd.prog 83 #[.agg f.cells.toArray] w fun e w' => e = .returned (.bool (agB f 4)) ∧ Frm w.heap.size [] w w' := by
  obtain ⟨r0, r1, r2, r7⟩ := wiIn_all h
  have w1 : wrap64 (22 * f.swing) = 22 * f.swing := IntWalk.wrap64_in _ (by omega)
  have v1 : IntKind.i64.wrap (22 * f.swing) = 22 * f.swing := IntWalk.i64_in _ (by omega)
  have w2 : wrap64 (14000 * f.period) = 14000 * f.period := IntWalk.wrap64_in _ (by omega)
  have v2 : IntKind.i64.wrap (14000 * f.period) = 14000 * f.period := IntWalk.i64_in _ (by omega)
  clear r0 r1 r2 r7 h
  have hd : agB f 4 = decide (14000 * f.period < 22 * f.swing) := rfl
  rw [hd]
  clear hd
  go_enter Tryd.func83, Tryd.ntmps83
  go_upto_region 1 with fail
  refine namedC ?_; intro W hW
  have hb : Blk W w.heap.size 23 f.cells := by rw [hW]; exact Blk.new w 23 f.cells
  have hf : Frm w.heap.size [] w W := by rw [hW]; repeat (first | with_reducible exact Frm.refl _ _ _ | with_reducible refine Frm.drewN ?_ | with_reducible refine Frm.drew ?_ | ((with_reducible refine Frm.setCell' ?_ ?_); · first | (left; simp; done) | (right; simp; done) | (right; simp; omega)) | ((with_reducible refine Frm.alloc' ?_ ?_); · first | exact Nat.le_refl _ | (simp; done) | (simp; omega)))
  clear hW
  have c1 : W.cell? ⟨w.heap.size, 1, none⟩ = some (.int .i64 f.swing) := hb.cell 1
  have c7 : W.cell? ⟨w.heap.size, 7, none⟩ = some (.int .i64 f.period) := hb.cell 7
  have HB := Lib.hid hb
  have HF := Lib.hid hf
  clear hf hb
  go_wp2_with fail
  go_ret
  exact ⟨rfl, HF.out⟩

set_option maxRecDepth 100000 in
set_option maxHeartbeats 4000000 in
theorem against_any (w : World) : Calls Tryd.prog 45 #[] w fun e w' => e = .returned (.agg #[.func (.func 79) #[] #[], .func (.func 80) #[] #[], .func (.func 81) #[] #[], .func (.func 82) #[] #[], .func (.func 83) #[] #[]]) ∧ Frm w.heap.size [] w w' := by
  have hf0 := Tryd.func45
  have hi : (Tryd.prog.info? 84).map (fun i => i.size) = some 5 := by kernel_rfl
  go_enter Tryd.func45, Tryd.ntmps45
  go_wp2_with (with_reducible refine atStore 84 rfl ?_; refine stop_ ?_)
  refine go_on ?_
  refine wpList_storeNew (P := Tryd.prog) (cs := [.func (.func 79) #[] #[], .func (.func 80) #[] #[], .func (.func 81) #[] #[], .func (.func 82) #[] #[], .func (.func 83) #[] #[]]) rfl rfl rfl rfl rfl hi (by simp [Value.oneCell']) ?_
  intro V hf1 b1 hz1
  have HF := Lib.hid hf1
  have B1 := Lib.hid b1
  clear b1 hf1
  go_wp2_with fail
  refine bodyPost_ret (results_c Tryd.results45 B1.out rfl Tryd.underlying84 rfl hi) rfl ?_
  exact ⟨rfl, HF.out⟩

theorem under84 : Tryd.prog.underlying 84 = some (.array 5 83) := Tryd.underlying84
theorem index_fn0 (a b c d e : Value) (w : World) : (Instr.index 84 (.agg #[a, b, c, d, e]) (.int .i64 0)).run Tryd.prog w = .ok a w := by
  simp [Instr.index, run_underlying under84, asIntOf, go_sem]
theorem index_fn1 (a b c d e : Value) (w : World) : (Instr.index 84 (.agg #[a, b, c, d, e]) (.int .i64 1)).run Tryd.prog w = .ok b w := by
  simp [Instr.index, run_underlying under84, asIntOf, go_sem]
theorem index_fn2 (a b c d e : Value) (w : World) : (Instr.index 84 (.agg #[a, b, c, d, e]) (.int .i64 2)).run Tryd.prog w = .ok c w := by
  simp [Instr.index, run_underlying under84, asIntOf, go_sem]
theorem index_fn3 (a b c d e : Value) (w : World) : (Instr.index 84 (.agg #[a, b, c, d, e]) (.int .i64 3)).run Tryd.prog w = .ok d w := by
  simp [Instr.index, run_underlying under84, asIntOf, go_sem]
theorem index_fn4 (a b c d e : Value) (w : World) : (Instr.index 84 (.agg #[a, b, c, d, e]) (.int .i64 4)).run Tryd.prog w = .ok e w := by
  simp [Instr.index, run_underlying under84, asIntOf, go_sem]
attribute [local go_sem] index_fn0 index_fn1 index_fn2 index_fn3 index_fn4
def LiftIs (f : Wi) (w w' : World) (e : Ending) : Prop :=
  Frm w.heap.size [] w w' ∧ ((wiIn f = false ∧ e = .returned (.tuple #[.slice none 0 0, .int .i64 2])) ∨
    (wiIn f = true ∧ ∃ v own, e = .returned (.tuple #[v, .int .i64 0]) ∧ Sl w' 3 1 v (liftL f 5).length (intsC (liftL f 5)) own ∧ ∀ b, own = some b → w.heap.size ≤ b))
set_option maxRecDepth 100000 in
set_option maxHeartbeats 8000000 in
theorem lift_any (f : Wi) (w : World) : Calls Tryd.prog 13 #[.agg f.cells.toArray] w fun e w' => LiftIs f w w' e := by
  have hf0 := Tryd.func13
  have hsi := f.info
  go_enter Tryd.func13, Tryd.ntmps13
  go_upto_region 1 with fail
  refine namedC ?_; intro W hW
  have hb : Blk W w.heap.size 23 f.cells := by rw [hW]; exact Blk.new w 23 f.cells
  have hf : Frm w.heap.size [] w W := by rw [hW]; repeat (first | with_reducible exact Frm.refl _ _ _ | with_reducible refine Frm.drewN ?_ | with_reducible refine Frm.drew ?_ | ((with_reducible refine Frm.setCell' ?_ ?_); · first | (left; simp; done) | (right; simp; done) | (right; simp; omega)) | ((with_reducible refine Frm.alloc' ?_ ?_); · first | exact Nat.le_refl _ | (simp; done) | (simp; omega)))
  clear hW hf0
  obtain ⟨c, hc⟩ : ∃ c, c = w.heap.size := ⟨_, rfl⟩
  rw [← hc] at hb ⊢
  have c0 : W.cell? ⟨c, 0, none⟩ = some (.int .i64 f.hover) := hb.cell 0
  have c1 : W.cell? ⟨c, 1, none⟩ = some (.int .i64 f.swing) := hb.cell 1
  have c2 : W.cell? ⟨c, 2, none⟩ = some (.int .i64 f.cable) := hb.cell 2
  have c3 : W.cell? ⟨c, 3, none⟩ = some (.int .i64 f.load) := hb.cell 3
  have c4 : W.cell? ⟨c, 4, none⟩ = some (.int .i64 f.most) := hb.cell 4
  have c5 : W.cell? ⟨c, 5, none⟩ = some (.int .i64 f.wind) := hb.cell 5
  have c6 : W.cell? ⟨c, 6, none⟩ = some (.int .i64 f.mostw) := hb.cell 6
  have c7 : W.cell? ⟨c, 7, none⟩ = some (.int .i64 f.period) := hb.cell 7
  have HB := Lib.hid hb
  have HF := Lib.hid hf
  have HSI := Lib.hid hsi
  have HC := Lib.hid hc
  clear hc hsi hf hb
  go_wp2_with fail
  refine namedCalls ?_; intro V hV
  have hbn : Blk V W.heap.size 3 (f.list.map fun x => Value.int .i64 x) := by rw [hV]; exact Blk.new W 3 (f.list.map fun x => Value.int .i64 x)
  have hf2 : Frm W.heap.size [] W V := by rw [hV]; exact (Frm.refl _ _ W).alloc (Nat.le_refl _) _
  clear hV
  refine (all_any 0 100000 _ W.heap.size 0 8 8 (numsF f.list) V (rwI_new hbn (show 8 ≤ 1000 by omega))).mono ?_; rintro e w1 ⟨rfl, hf1⟩
  have hf3 := hf2.call hf1 hf2.size (by simp)
  have hb := hf3.blk HB.out HB.out.lt (by simp)
  have hf := HF.out.call hf3 HF.out.size (by simp)
  clear hf1 hf2 hf3 hbn HB HF c0 c1 c2 c3 c4 c5 c6 c7
  have c7 : w1.cell? ⟨c, 7, none⟩ = some (.int .i64 f.period) := hb.cell 7
  have HB := Lib.hid hb
  have HF := Lib.hid hf
  clear hf hb
  cases hal : allIn (numsF f.list) 8 0 100000
  · have hin : wiIn f = false := by unfold wiIn; rw [hal]; rfl
    have HIN := Lib.hid hin
    have HAL := Lib.hid hal
    clear hal hin
    go_wp2_with fail
    refine bodyPost_ret (v := .tuple #[.slice none 0 0, .int .i64 2]) (by simp [results, Tryd.results13, go_sem]) rfl ?_
    exact ⟨HF.out, .inl ⟨HIN.out, rfl⟩⟩
  by_cases hp : f.period = 0
  · have hin : wiIn f = false := by unfold wiIn; rw [hp]; simp
    have e1 : (f.period == 0) = true := by simp [hp]
    have HIN := Lib.hid hin
    have HAL := Lib.hid hal
    clear hal hin
    go_wp2_with fail
    refine bodyPost_ret (v := .tuple #[.slice none 0 0, .int .i64 2]) (by simp [results, Tryd.results13, go_sem]) rfl ?_
    exact ⟨HF.out, .inl ⟨HIN.out, rfl⟩⟩
  have hin : wiIn f = true := by unfold wiIn; rw [hal]; simp [hp]
  have e1 : (f.period == 0) = false := by simp [hp]
  have HIN := Lib.hid hin
  have HAL := Lib.hid hal
  clear hal hin
  go_wp2_with (go_at_call 45; refine (against_any _).mono ?_; rintro e w2 ⟨rfl, hf1⟩; replace HB := Lib.hid (hf1.blk HB.out HB.out.lt (by simp)); replace HF := Lib.hid (HF.out.call hf1 HF.out.size (by simp)); clear hf1)
  clear c7 e1 hp
  obtain ⟨i0, hi0, hz0', hz1, hz2⟩ := info_parts3 info3x
  have HI0 := Lib.hid hi0
  have HZ0 := Lib.hid hz0'
  have HZ1 := Lib.hid hz1
  have HZ2 := Lib.hid hz2
  clear hz2 hz1 hz0' hi0
  go_loopw [4, 32] (fun s4 s32 wr => ∃ k : Nat, s32 = .int .i64 k ∧ k ≤ 5 ∧ (∃ own, Sl wr 3 1 s4 (liftL f k).length (intsC (liftL f k)) own ∧ ∀ b, own = some b → w2.heap.size ≤ b) ∧ Frm w2.heap.size [] w2 wr) (fun _ s32 _ => 5 - (intOf s32).toNat)
  case atStart => exact ⟨0, rfl, Nat.zero_le _, ⟨none, Sl.nil _ 3 1, fun b hb => by cases hb⟩, by repeat (first | with_reducible exact Frm.refl _ _ _ | with_reducible refine Frm.drewN ?_ | with_reducible refine Frm.drew ?_ | ((with_reducible refine Frm.setCell' ?_ ?_); · first | (left; simp; done) | (right; simp; done) | (right; simp; omega)) | ((with_reducible refine Frm.alloc' ?_ ?_); · first | exact Nat.le_refl _ | (simp; done) | (simp; omega)))⟩
  case round =>
    obtain ⟨k, rfl, hk, ⟨own, hsl, hown⟩, hfr⟩ := hrel
    obtain ⟨ad, cp, rfl⟩ := hsl.form
    by_cases hk5 : k < 5
    · have hkl := liftL_len f k
      have hsc := liftL_succ f k
      obtain ⟨n, hn⟩ : ∃ n, n = (liftL f k).length := ⟨_, rfl⟩
      obtain ⟨L, hL⟩ : ∃ L, L = liftL f k := ⟨_, rfl⟩
      rw [← hn] at hsl hkl ⊢
      rw [← hL] at hsl hsc hn
      have hbw := hfr.blk HB.out HB.out.lt (by simp)
      have HSL := Lib.hid hsl
      have HOWN := Lib.hid hown
      have HFR := Lib.hid hfr
      have HBW := Lib.hid hbw
      have HKL := Lib.hid hkl
      have HSC := Lib.hid hsc
      have HN := Lib.hid hn
      have HLL := Lib.hid hL
      clear hL hn hsc hkl hbw hfr hown hsl
      have e79 := (enters Tryd.func79 (by kernel_rfl) (by kernel_rfl)).out
      have e80 := (enters Tryd.func80 (by kernel_rfl) (by kernel_rfl)).out
      have e81 := (enters Tryd.func81 (by kernel_rfl) (by kernel_rfl)).out
      have e82 := (enters Tryd.func82 (by kernel_rfl) (by kernel_rfl)).out
      have e83 := (enters Tryd.func83 (by kernel_rfl) (by kernel_rfl)).out
      have hkk : k = 0 ∨ k = 1 ∨ k = 2 ∨ k = 3 ∨ k = 4 := by omega
      rcases hkk with rfl | rfl | rfl | rfl | rfl
      · go_wp2_with (with_reducible refine atLoad 23 rfl ?_; refine wpList_loadB (ty := 23) rfl rfl HBW.out rfl Tryd.underlying23 rfl HSI.out ?_)
        refine (ag0_any f HIN.out _).mono ?_; rintro e v1 ⟨rfl, hf1⟩
        have hsl := HSL.out.frm hf1 HSL.out.lt (by simp)
        have hfr := HFR.out.call hf1 HFR.out.size (by simp)
        clear hf1 HSL HFR HBW
        cases hag : agB f 0
        · have hfin : ∃ k' : Nat, Value.int .i64 1 = .int .i64 k' ∧ k' ≤ 5 ∧ (∃ own, Sl v1 3 1 (.slice ad n cp) (liftL f k').length (intsC (liftL f k')) own ∧ ∀ b, own = some b → w2.heap.size ≤ b) ∧ Frm w2.heap.size [] w2 v1 := ⟨1, rfl, by omega, ⟨own, by rw [HSC.out, hag]; simpa [HN.out] using hsl, HOWN.out⟩, hfr⟩
          clear hsl hfr
          have HFIN := Lib.hid hfin
          have HAG := Lib.hid hag
          clear hag hfin
          go_wp2_with fail
          exact ⟨HFIN.out, by simp [intOf]⟩
        · have HSL := Lib.hid hsl
          have HFR := Lib.hid hfr
          have HAG := Lib.hid hag
          clear hag hfr hsl
          go_wp2_with (at_builtin; refine hold ?_; intro qG hG)
          refine hG.1 ?_; clear hG qG
          refine wpList_append_sl _ rfl (.tmp 39) (.tmp 42) 26 rfl 3 i0 _ 1 8 Tryd.underlying26 HI0.out HZ0.out HZ1.out HZ2.out rfl _ n (intsC L) own rfl (HSL.out.alloc _) ⟨v1.heap.size, 0, none⟩ 1 1 [.int .i64 ((1 : Nat) : Int)] rfl rfl (news_alloc _ [.int .i64 ((1 : Nat) : Int)] _) (by simp [Value.oneCell']) (by have := HKL.out; unfold maxLen; omega) (by have := HKL.out; omega) ?_
          intro v2 w4 own1 hs1 hf1 ho1
          have hfr4 : Frm w2.heap.size [] w2 w4 := (HFR.out.alloc HFR.out.size _).call hf1 (by have := HFR.out.size; simp; omega) (fun x hx hm => by have := HOWN.out x (by simpa using hm); omega)
          have hown1 : ∀ b, own1 = some b → w2.heap.size ≤ b := fun b hb => by
            rcases ho1 with h | ⟨q, h, hq⟩
            · exact HOWN.out b (by rw [← h]; exact hb)
            · rw [hb] at h; cases h; have := HFR.out.size; simp at hq; omega
          have hs2 : Sl w4 3 1 v2 (liftL f 1).length (intsC (liftL f 1)) own1 := by rw [HSC.out, HAG.out, if_pos rfl, intsC_snoc, List.length_append, ← HN.out]; exact hs1
          obtain ⟨ad1, cp1, rfl⟩ := hs2.form
          have hfin : ∃ k' : Nat, Value.int .i64 1 = .int .i64 k' ∧ k' ≤ 5 ∧ (∃ own, Sl w4 3 1 (.slice ad1 (liftL f 1).length cp1) (liftL f k').length (intsC (liftL f k')) own ∧ ∀ b, own = some b → w2.heap.size ≤ b) ∧ Frm w2.heap.size [] w2 w4 := ⟨1, rfl, by omega, ⟨own1, hs2, hown1⟩, hfr4⟩
          clear hf1 ho1 hs1 hs2 hfr4 hown1
          have HFIN := Lib.hid hfin
          clear hfin
          go_wp2_with fail
          exact ⟨HFIN.out, by simp [intOf]⟩
      · go_wp2_with (with_reducible refine atLoad 23 rfl ?_; refine wpList_loadB (ty := 23) rfl rfl HBW.out rfl Tryd.underlying23 rfl HSI.out ?_)
        refine (ag1_any f HIN.out _).mono ?_; rintro e v1 ⟨rfl, hf1⟩
        have hsl := HSL.out.frm hf1 HSL.out.lt (by simp)
        have hfr := HFR.out.call hf1 HFR.out.size (by simp)
        clear hf1 HSL HFR HBW
        cases hag : agB f 1
        · have hfin : ∃ k' : Nat, Value.int .i64 2 = .int .i64 k' ∧ k' ≤ 5 ∧ (∃ own, Sl v1 3 1 (.slice ad n cp) (liftL f k').length (intsC (liftL f k')) own ∧ ∀ b, own = some b → w2.heap.size ≤ b) ∧ Frm w2.heap.size [] w2 v1 := ⟨2, rfl, by omega, ⟨own, by rw [HSC.out, hag]; simpa [HN.out] using hsl, HOWN.out⟩, hfr⟩
          clear hsl hfr
          have HFIN := Lib.hid hfin
          have HAG := Lib.hid hag
          clear hag hfin
          go_wp2_with fail
          exact ⟨HFIN.out, by simp [intOf]⟩
        · have HSL := Lib.hid hsl
          have HFR := Lib.hid hfr
          have HAG := Lib.hid hag
          clear hag hfr hsl
          go_wp2_with (at_builtin; refine hold ?_; intro qG hG)
          refine hG.1 ?_; clear hG qG
          refine wpList_append_sl _ rfl (.tmp 39) (.tmp 42) 26 rfl 3 i0 _ 1 8 Tryd.underlying26 HI0.out HZ0.out HZ1.out HZ2.out rfl _ n (intsC L) own rfl (HSL.out.alloc _) ⟨v1.heap.size, 0, none⟩ 1 1 [.int .i64 ((2 : Nat) : Int)] rfl rfl (news_alloc _ [.int .i64 ((2 : Nat) : Int)] _) (by simp [Value.oneCell']) (by have := HKL.out; unfold maxLen; omega) (by have := HKL.out; omega) ?_
          intro v2 w4 own1 hs1 hf1 ho1
          have hfr4 : Frm w2.heap.size [] w2 w4 := (HFR.out.alloc HFR.out.size _).call hf1 (by have := HFR.out.size; simp; omega) (fun x hx hm => by have := HOWN.out x (by simpa using hm); omega)
          have hown1 : ∀ b, own1 = some b → w2.heap.size ≤ b := fun b hb => by
            rcases ho1 with h | ⟨q, h, hq⟩
            · exact HOWN.out b (by rw [← h]; exact hb)
            · rw [hb] at h; cases h; have := HFR.out.size; simp at hq; omega
          have hs2 : Sl w4 3 1 v2 (liftL f 2).length (intsC (liftL f 2)) own1 := by rw [HSC.out, HAG.out, if_pos rfl, intsC_snoc, List.length_append, ← HN.out]; exact hs1
          obtain ⟨ad1, cp1, rfl⟩ := hs2.form
          have hfin : ∃ k' : Nat, Value.int .i64 2 = .int .i64 k' ∧ k' ≤ 5 ∧ (∃ own, Sl w4 3 1 (.slice ad1 (liftL f 2).length cp1) (liftL f k').length (intsC (liftL f k')) own ∧ ∀ b, own = some b → w2.heap.size ≤ b) ∧ Frm w2.heap.size [] w2 w4 := ⟨2, rfl, by omega, ⟨own1, hs2, hown1⟩, hfr4⟩
          clear hf1 ho1 hs1 hs2 hfr4 hown1
          have HFIN := Lib.hid hfin
          clear hfin
          go_wp2_with fail
          exact ⟨HFIN.out, by simp [intOf]⟩
      · go_wp2_with (with_reducible refine atLoad 23 rfl ?_; refine wpList_loadB (ty := 23) rfl rfl HBW.out rfl Tryd.underlying23 rfl HSI.out ?_)
        refine (ag2_any f HIN.out _).mono ?_; rintro e v1 ⟨rfl, hf1⟩
        have hsl := HSL.out.frm hf1 HSL.out.lt (by simp)
        have hfr := HFR.out.call hf1 HFR.out.size (by simp)
        clear hf1 HSL HFR HBW
        cases hag : agB f 2
        · have hfin : ∃ k' : Nat, Value.int .i64 3 = .int .i64 k' ∧ k' ≤ 5 ∧ (∃ own, Sl v1 3 1 (.slice ad n cp) (liftL f k').length (intsC (liftL f k')) own ∧ ∀ b, own = some b → w2.heap.size ≤ b) ∧ Frm w2.heap.size [] w2 v1 := ⟨3, rfl, by omega, ⟨own, by rw [HSC.out, hag]; simpa [HN.out] using hsl, HOWN.out⟩, hfr⟩
          clear hsl hfr
          have HFIN := Lib.hid hfin
          have HAG := Lib.hid hag
          clear hag hfin
          go_wp2_with fail
          exact ⟨HFIN.out, by simp [intOf]⟩
        · have HSL := Lib.hid hsl
          have HFR := Lib.hid hfr
          have HAG := Lib.hid hag
          clear hag hfr hsl
          go_wp2_with (at_builtin; refine hold ?_; intro qG hG)
          refine hG.1 ?_; clear hG qG
          refine wpList_append_sl _ rfl (.tmp 39) (.tmp 42) 26 rfl 3 i0 _ 1 8 Tryd.underlying26 HI0.out HZ0.out HZ1.out HZ2.out rfl _ n (intsC L) own rfl (HSL.out.alloc _) ⟨v1.heap.size, 0, none⟩ 1 1 [.int .i64 ((3 : Nat) : Int)] rfl rfl (news_alloc _ [.int .i64 ((3 : Nat) : Int)] _) (by simp [Value.oneCell']) (by have := HKL.out; unfold maxLen; omega) (by have := HKL.out; omega) ?_
          intro v2 w4 own1 hs1 hf1 ho1
          have hfr4 : Frm w2.heap.size [] w2 w4 := (HFR.out.alloc HFR.out.size _).call hf1 (by have := HFR.out.size; simp; omega) (fun x hx hm => by have := HOWN.out x (by simpa using hm); omega)
          have hown1 : ∀ b, own1 = some b → w2.heap.size ≤ b := fun b hb => by
            rcases ho1 with h | ⟨q, h, hq⟩
            · exact HOWN.out b (by rw [← h]; exact hb)
            · rw [hb] at h; cases h; have := HFR.out.size; simp at hq; omega
          have hs2 : Sl w4 3 1 v2 (liftL f 3).length (intsC (liftL f 3)) own1 := by rw [HSC.out, HAG.out, if_pos rfl, intsC_snoc, List.length_append, ← HN.out]; exact hs1
          obtain ⟨ad1, cp1, rfl⟩ := hs2.form
          have hfin : ∃ k' : Nat, Value.int .i64 3 = .int .i64 k' ∧ k' ≤ 5 ∧ (∃ own, Sl w4 3 1 (.slice ad1 (liftL f 3).length cp1) (liftL f k').length (intsC (liftL f k')) own ∧ ∀ b, own = some b → w2.heap.size ≤ b) ∧ Frm w2.heap.size [] w2 w4 := ⟨3, rfl, by omega, ⟨own1, hs2, hown1⟩, hfr4⟩
          clear hf1 ho1 hs1 hs2 hfr4 hown1
          have HFIN := Lib.hid hfin
          clear hfin
          go_wp2_with fail
          exact ⟨HFIN.out, by simp [intOf]⟩
      · go_wp2_with (with_reducible refine atLoad 23 rfl ?_; refine wpList_loadB (ty := 23) rfl rfl HBW.out rfl Tryd.underlying23 rfl HSI.out ?_)
        refine (ag3_any f HIN.out _).mono ?_; rintro e v1 ⟨rfl, hf1⟩
        have hsl := HSL.out.frm hf1 HSL.out.lt (by simp)
        have hfr := HFR.out.call hf1 HFR.out.size (by simp)
        clear hf1 HSL HFR HBW
        cases hag : agB f 3
        · have hfin : ∃ k' : Nat, Value.int .i64 4 = .int .i64 k' ∧ k' ≤ 5 ∧ (∃ own, Sl v1 3 1 (.slice ad n cp) (liftL f k').length (intsC (liftL f k')) own ∧ ∀ b, own = some b → w2.heap.size ≤ b) ∧ Frm w2.heap.size [] w2 v1 := ⟨4, rfl, by omega, ⟨own, by rw [HSC.out, hag]; simpa [HN.out] using hsl, HOWN.out⟩, hfr⟩
          clear hsl hfr
          have HFIN := Lib.hid hfin
          have HAG := Lib.hid hag
          clear hag hfin
          go_wp2_with fail
          exact ⟨HFIN.out, by simp [intOf]⟩
        · have HSL := Lib.hid hsl
          have HFR := Lib.hid hfr
          have HAG := Lib.hid hag
          clear hag hfr hsl
          go_wp2_with (at_builtin; refine hold ?_; intro qG hG)
          refine hG.1 ?_; clear hG qG
          refine wpList_append_sl _ rfl (.tmp 39) (.tmp 42) 26 rfl 3 i0 _ 1 8 Tryd.underlying26 HI0.out HZ0.out HZ1.out HZ2.out rfl _ n (intsC L) own rfl (HSL.out.alloc _) ⟨v1.heap.size, 0, none⟩ 1 1 [.int .i64 ((4 : Nat) : Int)] rfl rfl (news_alloc _ [.int .i64 ((4 : Nat) : Int)] _) (by simp [Value.oneCell']) (by have := HKL.out; unfold maxLen; omega) (by have := HKL.out; omega) ?_
          intro v2 w4 own1 hs1 hf1 ho1
          have hfr4 : Frm w2.heap.size [] w2 w4 := (HFR.out.alloc HFR.out.size _).call hf1 (by have := HFR.out.size; simp; omega) (fun x hx hm => by have := HOWN.out x (by simpa using hm); omega)
          have hown1 : ∀ b, own1 = some b → w2.heap.size ≤ b := fun b hb => by
            rcases ho1 with h | ⟨q, h, hq⟩
            · exact HOWN.out b (by rw [← h]; exact hb)
            · rw [hb] at h; cases h; have := HFR.out.size; simp at hq; omega
          have hs2 : Sl w4 3 1 v2 (liftL f 4).length (intsC (liftL f 4)) own1 := by rw [HSC.out, HAG.out, if_pos rfl, intsC_snoc, List.length_append, ← HN.out]; exact hs1
          obtain ⟨ad1, cp1, rfl⟩ := hs2.form
          have hfin : ∃ k' : Nat, Value.int .i64 4 = .int .i64 k' ∧ k' ≤ 5 ∧ (∃ own, Sl w4 3 1 (.slice ad1 (liftL f 4).length cp1) (liftL f k').length (intsC (liftL f k')) own ∧ ∀ b, own = some b → w2.heap.size ≤ b) ∧ Frm w2.heap.size [] w2 w4 := ⟨4, rfl, by omega, ⟨own1, hs2, hown1⟩, hfr4⟩
          clear hf1 ho1 hs1 hs2 hfr4 hown1
          have HFIN := Lib.hid hfin
          clear hfin
          go_wp2_with fail
          exact ⟨HFIN.out, by simp [intOf]⟩
      · go_wp2_with (with_reducible refine atLoad 23 rfl ?_; refine wpList_loadB (ty := 23) rfl rfl HBW.out rfl Tryd.underlying23 rfl HSI.out ?_)
        refine (ag4_any f HIN.out _).mono ?_; rintro e v1 ⟨rfl, hf1⟩
        have hsl := HSL.out.frm hf1 HSL.out.lt (by simp)
        have hfr := HFR.out.call hf1 HFR.out.size (by simp)
        clear hf1 HSL HFR HBW
        cases hag : agB f 4
        · have hfin : ∃ k' : Nat, Value.int .i64 5 = .int .i64 k' ∧ k' ≤ 5 ∧ (∃ own, Sl v1 3 1 (.slice ad n cp) (liftL f k').length (intsC (liftL f k')) own ∧ ∀ b, own = some b → w2.heap.size ≤ b) ∧ Frm w2.heap.size [] w2 v1 := ⟨5, rfl, by omega, ⟨own, by rw [HSC.out, hag]; simpa [HN.out] using hsl, HOWN.out⟩, hfr⟩
          clear hsl hfr
          have HFIN := Lib.hid hfin
          have HAG := Lib.hid hag
          clear hag hfin
          go_wp2_with fail
          exact ⟨HFIN.out, by simp [intOf]⟩
        · have HSL := Lib.hid hsl
          have HFR := Lib.hid hfr
          have HAG := Lib.hid hag
          clear hag hfr hsl
          go_wp2_with (at_builtin; refine hold ?_; intro qG hG)
          refine hG.1 ?_; clear hG qG
          refine wpList_append_sl _ rfl (.tmp 39) (.tmp 42) 26 rfl 3 i0 _ 1 8 Tryd.underlying26 HI0.out HZ0.out HZ1.out HZ2.out rfl _ n (intsC L) own rfl (HSL.out.alloc _) ⟨v1.heap.size, 0, none⟩ 1 1 [.int .i64 ((5 : Nat) : Int)] rfl rfl (news_alloc _ [.int .i64 ((5 : Nat) : Int)] _) (by simp [Value.oneCell']) (by have := HKL.out; unfold maxLen; omega) (by have := HKL.out; omega) ?_
          intro v2 w4 own1 hs1 hf1 ho1
          have hfr4 : Frm w2.heap.size [] w2 w4 := (HFR.out.alloc HFR.out.size _).call hf1 (by have := HFR.out.size; simp; omega) (fun x hx hm => by have := HOWN.out x (by simpa using hm); omega)
          have hown1 : ∀ b, own1 = some b → w2.heap.size ≤ b := fun b hb => by
            rcases ho1 with h | ⟨q, h, hq⟩
            · exact HOWN.out b (by rw [← h]; exact hb)
            · rw [hb] at h; cases h; have := HFR.out.size; simp at hq; omega
          have hs2 : Sl w4 3 1 v2 (liftL f 5).length (intsC (liftL f 5)) own1 := by rw [HSC.out, HAG.out, if_pos rfl, intsC_snoc, List.length_append, ← HN.out]; exact hs1
          obtain ⟨ad1, cp1, rfl⟩ := hs2.form
          have hfin : ∃ k' : Nat, Value.int .i64 5 = .int .i64 k' ∧ k' ≤ 5 ∧ (∃ own, Sl w4 3 1 (.slice ad1 (liftL f 5).length cp1) (liftL f k').length (intsC (liftL f k')) own ∧ ∀ b, own = some b → w2.heap.size ≤ b) ∧ Frm w2.heap.size [] w2 w4 := ⟨5, rfl, by omega, ⟨own1, hs2, hown1⟩, hfr4⟩
          clear hf1 ho1 hs1 hs2 hfr4 hown1
          have HFIN := Lib.hid hfin
          clear hfin
          go_wp2_with fail
          exact ⟨HFIN.out, by simp [intOf]⟩
    · obtain rfl : k = 5 := by omega
      have hfin := HF.out.call hfr HF.out.size (by simp)
      obtain ⟨n, hn⟩ : ∃ n, n = (liftL f 5).length := ⟨_, rfl⟩
      rw [← hn] at hsl ⊢
      clear hfr
      have HSL := Lib.hid hsl
      have HOWN := Lib.hid hown
      have HFIN := Lib.hid hfin
      have HN := Lib.hid hn
      clear hn hfin hown hsl
      go_wp2_with fail
      refine bodyPost_ret (v := .tuple #[.slice ad n cp, .int .i64 0]) (by simp [results, Tryd.results13, go_sem]) rfl ?_
      exact ⟨HFIN.out, .inr ⟨HIN.out, _, own, rfl, by rw [← HN.out]; exact HSL.out, fun b hb => by have h1 := HOWN.out b hb; have h2 := HF.out.size; omega⟩⟩
end Go.Proofs.YtfmigicmfolbjaaDoor

namespace Go.Proofs.YtfmigicmfolbjaaDoor
set_option linter.all false
set_option linter.unusedSimpArgs false
set_option linter.unusedVariables false
open Go.RowKit

set_option maxRecDepth 100000 in
set_option maxHeartbeats 4000000 in
theorem refAll_any (a b : Int) (ad : Option Addr) (bk off len cap : Nat) (F : Nat → Int) (w : World) (hr : RwI w ad bk off len F) :
    Calls Tryd.prog 46 #[.slice ad len cap, .int .i64 a, .int .i64 b] w fun e w' => e = .returned (.bool (allIn F len a b)) ∧ Frm w.heap.size [] w w' := by
  have hf0 := Tryd.func46
  obtain ⟨r, hr0⟩ : ∃ r, r = allIn F len a b := ⟨_, rfl⟩
  rw [← hr0]
  have HR := Lib.hid hr
  have HR0 := Lib.hid hr0
  clear hr0 hr
  go_enter Tryd.func46, Tryd.ntmps46
  go_wp2_with fail
  go_loopw [7] (fun s7 wr => ∃ j : Nat, s7 = .int .i64 j ∧ j ≤ len ∧ (∀ k, k < j → inB (F k) a b = true) ∧ Frm w.heap.size [] w wr) (fun s7 _ => len - (intOf s7).toNat)
  case atStart => exact ⟨0, rfl, Nat.zero_le _, fun k hk => absurd hk (by omega), by repeat (first | with_reducible exact Frm.refl _ _ _ | with_reducible refine Frm.drewN ?_ | with_reducible refine Frm.drew ?_ | ((with_reducible refine Frm.setCell' ?_ ?_); · first | (left; simp; done) | (right; simp; done) | (right; simp; omega)) | ((with_reducible refine Frm.alloc' ?_ ?_); · first | exact Nat.le_refl _ | (simp; done) | (simp; omega)))⟩
  case round =>
    obtain ⟨j, rfl, hj, hall, hfr⟩ := hrel
    by_cases hjl : j < len
    · have hjl' : (j : Int) < (len : Int) := by omega
      have had := HR.out.ad (by omega)
      subst had
      obtain ⟨x, hx⟩ : ∃ x, x = F j := ⟨_, rfl⟩
      have c1 : wr.cell? ⟨bk, off + j, none⟩ = some (.int .i64 x) := by rw [hx]; exact (HR.out.frm hfr (Nat.le_refl _)).cellI hjl
      obtain ⟨w4, w5⟩ := wrapUp hjl HR.out.len
      cases hp : inB x a b
      · have HALL := Lib.hid hall
        have HFR := Lib.hid hfr
        have HJL := Lib.hid hjl
        have HX := Lib.hid hx
        have HP := Lib.hid hp
        clear hp hx hjl hfr hall
        go_wp2_with (go_at_call 57; refine (refin_any _ _ _ _).mono ?_; rintro e w' ⟨rfl, rfl⟩; rw [HP.out])
        go_ret
        refine ⟨?_, HFR.out⟩
        have : r = false := by
          rw [HR0.out, ← Bool.not_eq_true, allIn_iff]
          intro h
          have := h j HJL.out
          rw [← HX.out, HP.out] at this
          cases this
        rw [this]; rfl
      · have HALL := Lib.hid hall
        have HFR := Lib.hid hfr
        have HJL := Lib.hid hjl
        have HX := Lib.hid hx
        have HP := Lib.hid hp
        clear hp hx hjl hfr hall
        go_wp2_with (go_at_call 57; refine (refin_any _ _ _ _).mono ?_; rintro e w' ⟨rfl, rfl⟩; rw [HP.out])
        (try simp only [w4, w5])
        exact ⟨⟨j + 1, by simp, HJL.out, fun k hk => by
          rcases Nat.lt_or_ge k j with h | h
          · exact HALL.out k h
          · obtain rfl : k = j := by omega
            rw [← HX.out]; exact HP.out, HFR.out⟩, meas_up HJL.out⟩
    · have hjl' : ¬ (j : Int) < (len : Int) := by omega
      obtain rfl : j = len := by omega
      have hres : r = true := by rw [HR0.out]; exact allIn_iff.2 hall
      have HFR := Lib.hid hfr
      have HRES := Lib.hid hres
      clear hres hfr
      go_wp2_with fail
      go_ret
      exact ⟨by rw [HRES.out]; rfl, HFR.out⟩
set_option maxRecDepth 100000 in
set_option maxHeartbeats 4000000 in
theorem ints_any (ad : Option Addr) (b off n cap : Nat) (F : Nat → Int) (ad2 : Option Addr) (b2 off2 n2 cap2 : Nat) (G : Nat → Int) (w : World) (hr : RwI w ad b off n F) (hr2 : RwI w ad2 b2 off2 n2 G) (hn : n = n2) (hall : ∀ i, i < n → F i = G i) :
    Calls Tryd.prog 17 #[.slice ad n cap, .slice ad2 n2 cap2] w fun e w' => e = .returned (.bool true) ∧ Frm w.heap.size [] w w' := by
  subst hn
  have hf0 := Tryd.func17
  have HR := Lib.hid hr
  have HR2 := Lib.hid hr2
  have HALL := Lib.hid hall
  clear hall hr2 hr
  go_enter Tryd.func17, Tryd.ntmps17
  go_wp2_with fail
  go_loopw [5] (fun i5 wr => ∃ j : Nat, i5 = .int .i64 j ∧ j ≤ n ∧ Frm w.heap.size [] w wr) (fun i5 _ => n - (intOf i5).toNat)
  case atStart => exact ⟨0, rfl, Nat.zero_le _, by repeat (first | with_reducible exact Frm.refl _ _ _ | with_reducible refine Frm.drewN ?_ | with_reducible refine Frm.drew ?_ | ((with_reducible refine Frm.setCell' ?_ ?_); · first | (left; simp; done) | (right; simp; done) | (right; simp; omega)) | ((with_reducible refine Frm.alloc' ?_ ?_); · first | exact Nat.le_refl _ | (simp; done) | (simp; omega)))⟩
  case round =>
    obtain ⟨j, rfl, hj, hfr⟩ := hrel
    by_cases hjl : j < n
    · have hjl' : (j : Int) < (n : Int) := by omega
      have had := HR.out.ad (by omega)
      have had2 := HR2.out.ad (by omega)
      subst had
      subst had2
      obtain ⟨x, hx⟩ : ∃ x, x = F j := ⟨_, rfl⟩
      have hx2 : G j = x := by rw [hx]; exact (HALL.out j hjl).symm
      have hfx : ∀ V, Frm wr.heap.size [] wr V → V.cell? ⟨b, off + j, none⟩ = some (.int .i64 x) ∧ V.cell? ⟨b2, off2 + j, none⟩ = some (.int .i64 x) := fun V hV => by
        have h2 := hfr.call hV hfr.size (by simp)
        exact ⟨by rw [hx]; exact (HR.out.frm h2 (Nat.le_refl _)).cellI hjl, by rw [← hx2]; exact (HR2.out.frm h2 (Nat.le_refl _)).cellI hjl⟩
      obtain ⟨w4, w5⟩ := wrapUp hjl HR.out.len
      have e1 : (x != x) = false := by simp
      have HFX := Lib.hid hfx
      have HFR := Lib.hid hfr
      have HJL := Lib.hid hjl
      have HX := Lib.hid hx
      have HX2 := Lib.hid hx2
      clear hx2 hx hjl hfr hfx
      go_upto_region 6 with fail
      refine wp_region_leftL (fun V => Frm wr.heap.size [] wr V) 1000 (by kernel_rfl) ?_
      have hS : Frm wr.heap.size [] wr wr.drew := (Frm.refl _ _ wr).drew
      have HS := Lib.hid hS
      clear hS
      first | ((first | refine LeftL.tkF (v := ?_) 0 rfl HS.out ?_ ?_ | refine LeftL.tkG (v := ?_) 0 rfl HS.out ?_ ?_); rotate_left; (· intro V hV; obtain ⟨q0, q1⟩ := HFX.out V hV; clear hV; go_simp; rfl)) | refine LeftL.tkN 0 rfl HS.out ?_
      (intro K' hK'; go_simp; refine hK' _ ?_; clear hK' K')
      first | ((first | refine LeftL.tkF (v := ?_) 1 rfl HS.out ?_ ?_ | refine LeftL.tkG (v := ?_) 1 rfl HS.out ?_ ?_); rotate_left; (· intro V hV; obtain ⟨q0, q1⟩ := HFX.out V hV; clear hV; go_simp; rfl)) | refine LeftL.tkN 1 rfl HS.out ?_
      (intro K' hK'; go_simp; refine hK' _ ?_; clear hK' K')
      first | ((first | refine LeftL.tkF (v := ?_) 2 rfl HS.out ?_ ?_ | refine LeftL.tkG (v := ?_) 2 rfl HS.out ?_ ?_); rotate_left; (· intro V hV; obtain ⟨q0, q1⟩ := HFX.out V hV; clear hV; go_simp; rfl)) | refine LeftL.tkN 2 rfl HS.out ?_
      (intro K' hK'; go_simp; refine hK' _ ?_; clear hK' K')
      first | ((first | refine LeftL.tkF (v := ?_) 3 rfl HS.out ?_ ?_ | refine LeftL.tkG (v := ?_) 3 rfl HS.out ?_ ?_); rotate_left; (· intro V hV; obtain ⟨q0, q1⟩ := HFX.out V hV; clear hV; go_simp; rfl)) | refine LeftL.tkN 3 rfl HS.out ?_
      (intro K' hK'; go_simp; refine hK' _ ?_; clear hK' K')
      first | ((first | refine LeftL.tkF (v := ?_) 4 rfl HS.out ?_ ?_ | refine LeftL.tkG (v := ?_) 4 rfl HS.out ?_ ?_); rotate_left; (· intro V hV; obtain ⟨q0, q1⟩ := HFX.out V hV; clear hV; go_simp; rfl)) | refine LeftL.tkN 4 rfl HS.out ?_
      (intro K' hK'; go_simp; refine hK' _ ?_; clear hK' K')
      first | ((first | refine LeftL.tkF (v := ?_) 5 rfl HS.out ?_ ?_ | refine LeftL.tkG (v := ?_) 5 rfl HS.out ?_ ?_); rotate_left; (· intro V hV; obtain ⟨q0, q1⟩ := HFX.out V hV; clear hV; go_simp; rfl)) | refine LeftL.tkN 5 rfl HS.out ?_
      (intro K' hK'; go_simp; refine hK' _ ?_; clear hK' K')
      first | ((first | refine LeftL.tkF (v := ?_) 6 rfl HS.out ?_ ?_ | refine LeftL.tkG (v := ?_) 6 rfl HS.out ?_ ?_); rotate_left; (· intro V hV; obtain ⟨q0, q1⟩ := HFX.out V hV; clear hV; go_simp; rfl)) | refine LeftL.tkN 6 rfl HS.out ?_
      (intro K' hK'; go_simp; refine hK' _ ?_; clear hK' K')
      first | ((first | refine LeftL.tkF (v := ?_) 7 rfl HS.out ?_ ?_ | refine LeftL.tkG (v := ?_) 7 rfl HS.out ?_ ?_); rotate_left; (· intro V hV; obtain ⟨q0, q1⟩ := HFX.out V hV; clear hV; go_simp; rfl)) | refine LeftL.tkN 7 rfl HS.out ?_
      (intro K' hK'; go_simp; refine hK' _ ?_; clear hK' K')
      first | ((first | refine LeftL.tkF (v := ?_) 8 rfl HS.out ?_ ?_ | refine LeftL.tkG (v := ?_) 8 rfl HS.out ?_ ?_); rotate_left; (· intro V hV; obtain ⟨q0, q1⟩ := HFX.out V hV; clear hV; go_simp; rfl)) | refine LeftL.tkN 8 rfl HS.out ?_
      (intro K' hK'; go_simp; refine hK' _ ?_; clear hK' K')
      refine LeftL.done (by kernel_rfl) ?_
      go_wp2_with fail
      (try simp only [w4, w5])
      exact ⟨⟨j + 1, by simp, HJL.out, HFR.out.call HS.out HFR.out.size (by simp)⟩, meas_up HJL.out⟩
    · have hjl' : ¬ (j : Int) < (n : Int) := by omega
      have HFR := Lib.hid hfr
      clear hfr
      go_wp2_with fail
      go_ret
      exact ⟨rfl, HFR.out⟩
theorem ints_sl {w : World} {a a2 : Option Addr} {n n2 cap cap2 : Nat} {l : List Nat} {own own2 : Option Nat} (h : Sl w 3 1 (.slice a n cap) l.length (intsC l) own) (h2 : Sl w 3 1 (.slice a2 n2 cap2) l.length (intsC l) own2) :
    Calls Tryd.prog 17 #[.slice a n cap, .slice a2 n2 cap2] w fun e w' => e = .returned (.bool true) ∧ Frm w.heap.size [] w w' := by
  obtain ⟨ad, b, off, c, e, hr⟩ := ints_at0 h
  obtain ⟨ad2, b2, off2, c2, e2, hr2⟩ := ints_at0 h2
  cases e
  cases e2
  exact ints_any _ _ _ _ _ _ _ _ _ _ _ _ w hr hr2 rfl (fun i _ => rfl)
set_option maxRecDepth 100000 in
set_option maxHeartbeats 8000000 in
theorem refLift_any (f : Wi) (w : World) : Calls Tryd.prog 14 #[.agg f.cells.toArray] w fun e w' => LiftIs f w w' e := by
  have hf0 := Tryd.func14
  go_enter Tryd.func14, Tryd.ntmps14
  go_upto_region 1 with fail
  refine namedC ?_; intro W hW
  have hb : Blk W w.heap.size 23 f.cells := by rw [hW]; exact Blk.new w 23 f.cells
  have hf : Frm w.heap.size [] w W := by rw [hW]; repeat (first | with_reducible exact Frm.refl _ _ _ | with_reducible refine Frm.drewN ?_ | with_reducible refine Frm.drew ?_ | ((with_reducible refine Frm.setCell' ?_ ?_); · first | (left; simp; done) | (right; simp; done) | (right; simp; omega)) | ((with_reducible refine Frm.alloc' ?_ ?_); · first | exact Nat.le_refl _ | (simp; done) | (simp; omega)))
  clear hW hf0
  obtain ⟨c, hc⟩ : ∃ c, c = w.heap.size := ⟨_, rfl⟩
  rw [← hc] at hb ⊢
  have c0 : W.cell? ⟨c, 0, none⟩ = some (.int .i64 f.hover) := hb.cell 0
  have c1 : W.cell? ⟨c, 1, none⟩ = some (.int .i64 f.swing) := hb.cell 1
  have c2 : W.cell? ⟨c, 2, none⟩ = some (.int .i64 f.cable) := hb.cell 2
  have c3 : W.cell? ⟨c, 3, none⟩ = some (.int .i64 f.load) := hb.cell 3
  have c4 : W.cell? ⟨c, 4, none⟩ = some (.int .i64 f.most) := hb.cell 4
  have c5 : W.cell? ⟨c, 5, none⟩ = some (.int .i64 f.wind) := hb.cell 5
  have c6 : W.cell? ⟨c, 6, none⟩ = some (.int .i64 f.mostw) := hb.cell 6
  have c7 : W.cell? ⟨c, 7, none⟩ = some (.int .i64 f.period) := hb.cell 7
  have HB := Lib.hid hb
  have HF := Lib.hid hf
  have HC := Lib.hid hc
  clear hc hf hb
  go_wp2_with fail
  refine namedCalls ?_; intro V hV
  have hbn : Blk V W.heap.size 3 (f.list.map fun x => Value.int .i64 x) := by rw [hV]; exact Blk.new W 3 (f.list.map fun x => Value.int .i64 x)
  have hf2 : Frm W.heap.size [] W V := by rw [hV]; exact (Frm.refl _ _ W).alloc (Nat.le_refl _) _
  clear hV
  refine (refAll_any 0 100000 _ W.heap.size 0 8 8 (numsF f.list) V (rwI_new hbn (show 8 ≤ 1000 by omega))).mono ?_; rintro e w1 ⟨rfl, hf1⟩
  have hf3 := hf2.call hf1 hf2.size (by simp)
  have hb := hf3.blk HB.out HB.out.lt (by simp)
  have hf := HF.out.call hf3 HF.out.size (by simp)
  clear hf1 hf2 hf3 hbn HB HF c0 c1 c2 c3 c4 c5 c6 c7
  have c0 : w1.cell? ⟨c, 0, none⟩ = some (.int .i64 f.hover) := hb.cell 0
  have c1 : w1.cell? ⟨c, 1, none⟩ = some (.int .i64 f.swing) := hb.cell 1
  have c2 : w1.cell? ⟨c, 2, none⟩ = some (.int .i64 f.cable) := hb.cell 2
  have c3 : w1.cell? ⟨c, 3, none⟩ = some (.int .i64 f.load) := hb.cell 3
  have c4 : w1.cell? ⟨c, 4, none⟩ = some (.int .i64 f.most) := hb.cell 4
  have c5 : w1.cell? ⟨c, 5, none⟩ = some (.int .i64 f.wind) := hb.cell 5
  have c6 : w1.cell? ⟨c, 6, none⟩ = some (.int .i64 f.mostw) := hb.cell 6
  have c7 : w1.cell? ⟨c, 7, none⟩ = some (.int .i64 f.period) := hb.cell 7
  have HB := Lib.hid hb
  have HF := Lib.hid hf
  clear hf hb
  cases hal : allIn (numsF f.list) 8 0 100000
  · have hin : wiIn f = false := by unfold wiIn; rw [hal]; rfl
    have HIN := Lib.hid hin
    have HAL := Lib.hid hal
    clear hal hin
    go_wp2_with fail
    refine bodyPost_ret (v := .tuple #[.slice none 0 0, .int .i64 2]) (by simp [results, Tryd.results14, go_sem]) rfl ?_
    exact ⟨HF.out, .inl ⟨HIN.out, rfl⟩⟩
  have hp0 : 0 ≤ f.period := by
    have h1 := allIn_iff.1 hal 7 (by omega)
    exact (inB_iff.1 h1).1
  by_cases hp : f.period < 1
  · have hin : wiIn f = false := by unfold wiIn; rw [show f.period = 0 by omega]; simp
    have HIN := Lib.hid hin
    have HAL := Lib.hid hal
    clear hal hin
    go_wp2_with fail
    refine bodyPost_ret (v := .tuple #[.slice none 0 0, .int .i64 2]) (by simp [results, Tryd.results14, go_sem]) rfl ?_
    exact ⟨HF.out, .inl ⟨HIN.out, rfl⟩⟩
  have hin : wiIn f = true := by unfold wiIn; rw [hal]; simp; omega
  obtain ⟨r0, r1, r2, r7⟩ := wiIn_all hin
  have xx1 : wrap64 (f.hover + f.swing) = f.hover + f.swing := IntWalk.wrap64_in _ (by omega)
  have xx2 : wrap64 (3 * f.swing) = 3 * f.swing := IntWalk.wrap64_in _ (by omega)
  have xx3 : wrap64 (22 * f.swing) = 22 * f.swing := IntWalk.wrap64_in _ (by omega)
  have xx4 : wrap64 (14000 * f.period) = 14000 * f.period := IntWalk.wrap64_in _ (by omega)
  have yy1 : IntKind.i64.wrap (f.hover + f.swing) = f.hover + f.swing := IntWalk.i64_in _ (by omega)
  have yy2 : IntKind.i64.wrap (3 * f.swing) = 3 * f.swing := IntWalk.i64_in _ (by omega)
  have yy3 : IntKind.i64.wrap (22 * f.swing) = 22 * f.swing := IntWalk.i64_in _ (by omega)
  have yy4 : IntKind.i64.wrap (14000 * f.period) = 14000 * f.period := IntWalk.i64_in _ (by omega)
  clear r0 r1 r2 r7 hp0
  have HIN := Lib.hid hin
  have HAL := Lib.hid hal
  clear hal hin
  go_upto_region 4 with fail
  refine namedC ?_; intro w2 hw2
  have hbo : Blk w2 w1.heap.size 4 [.bool (agB f 0), .bool (agB f 1), .bool (agB f 2), .bool (agB f 3), .bool (agB f 4)] := by rw [hw2]; exact Blk.new w1 4 [.bool (agB f 0), .bool (agB f 1), .bool (agB f 2), .bool (agB f 3), .bool (agB f 4)]
  have hf2 : Frm w1.heap.size [] w1 w2 := by rw [hw2]; exact (Frm.refl _ _ w1).alloc (Nat.le_refl _) _
  have hcell : ∀ V k, Frm w2.heap.size [] w2 V → k < 5 → V.cell? ⟨w1.heap.size, k, none⟩ = some (.bool (agB f k)) := fun V k hV hk => by
    have hb := hV.blk hbo hbo.lt (by simp)
    rw [hb.cell k]
    have hkk : k = 0 ∨ k = 1 ∨ k = 2 ∨ k = 3 ∨ k = 4 := by omega
    rcases hkk with rfl | rfl | rfl | rfl | rfl <;> rfl
  obtain ⟨h, hh⟩ : ∃ h, h = w1.heap.size := ⟨_, rfl⟩
  have hfw := HF.out.call hf2 HF.out.size (by simp)
  clear hw2 hbo hf2 HB HF
  rw [← hh] at hcell ⊢
  obtain ⟨i0, hi0, hz0', hz1, hz2⟩ := info_parts3 info3x
  clear xx1 xx2 xx3 xx4 yy1 yy2 yy3 yy4 c0 c1 c2 c3 c4 c5 c6 c7 hh hp
  have HF := Lib.hid hfw
  have HCELL := Lib.hid hcell
  have HI0 := Lib.hid hi0
  have HZ0 := Lib.hid hz0'
  have HZ1 := Lib.hid hz1
  have HZ2 := Lib.hid hz2
  clear hz2 hz1 hz0' hi0 hcell hfw
  go_wp2_with fail
  go_loopw [5, 6] (fun s5 s6 wr => ∃ k : Nat, s6 = .int .i64 k ∧ k ≤ 5 ∧ (∃ own, Sl wr 3 1 s5 (liftL f k).length (intsC (liftL f k)) own ∧ ∀ b, own = some b → w2.heap.size ≤ b) ∧ Frm w2.heap.size [] w2 wr) (fun _ s6 _ => 5 - (intOf s6).toNat)
  case atStart => exact ⟨0, rfl, Nat.zero_le _, ⟨none, Sl.nil _ 3 1, fun b hb => by cases hb⟩, by repeat (first | with_reducible exact Frm.refl _ _ _ | with_reducible refine Frm.drewN ?_ | with_reducible refine Frm.drew ?_ | ((with_reducible refine Frm.setCell' ?_ ?_); · first | (left; simp; done) | (right; simp; done) | (right; simp; omega)) | ((with_reducible refine Frm.alloc' ?_ ?_); · first | exact Nat.le_refl _ | (simp; done) | (simp; omega)))⟩
  case round =>
    obtain ⟨k, rfl, hk, ⟨own, hsl, hown⟩, hfr⟩ := hrel
    obtain ⟨ad, cp, rfl⟩ := hsl.form
    by_cases hk5 : k < 5
    · have hk5' : (k : Int) < 5 := by omega
      have hkl := liftL_len f k
      have hsc := liftL_succ f k
      obtain ⟨n, hn⟩ : ∃ n, n = (liftL f k).length := ⟨_, rfl⟩
      obtain ⟨L, hL⟩ : ∃ L, L = liftL f k := ⟨_, rfl⟩
      rw [← hn] at hsl hkl ⊢
      rw [← hL] at hsl hsc hn
      have c1 := HCELL.out wr k hfr hk5
      have x1 : wrap64 ((k : Int) + 1) = (k : Int) + 1 := IntWalk.wrap64_in _ (by omega)
      have x2 : IntKind.i64.wrap ((k : Int) + 1) = (k : Int) + 1 := IntWalk.i64_in _ (by omega)
      have HSL := Lib.hid hsl
      have HOWN := Lib.hid hown
      have HFR := Lib.hid hfr
      have HKL := Lib.hid hkl
      have HSC := Lib.hid hsc
      have HN := Lib.hid hn
      have HLL := Lib.hid hL
      have HK5 := Lib.hid hk5
      clear hk5 hL hn hsc hkl hfr hown hsl
      cases hag : agB f k
      · rw [hag] at c1
        have hfin : ∃ k' : Nat, Value.int .i64 ((k : Int) + 1) = .int .i64 k' ∧ k' ≤ 5 ∧ (∃ own, Sl wr 3 1 (.slice ad n cp) (liftL f k').length (intsC (liftL f k')) own ∧ ∀ b, own = some b → w2.heap.size ≤ b) ∧ Frm w2.heap.size [] w2 wr := ⟨k + 1, by simp, HK5.out, ⟨own, by rw [HSC.out, hag]; simpa [HN.out] using HSL.out, HOWN.out⟩, HFR.out⟩
        have hms : 5 - ((k : Int) + 1).toNat < 5 - ((k : Int)).toNat := by have := HK5.out; omega
        have HFIN := Lib.hid hfin
        have HMS := Lib.hid hms
        have HAG := Lib.hid hag
        clear hag hms hfin
        go_wp2_with fail
        (try simp only [x1, x2])
        exact ⟨HFIN.out, HMS.out⟩
      · rw [hag] at c1
        have HAG := Lib.hid hag
        clear hag
        go_wp2_with (at_builtin; refine hold ?_; intro qG hG)
        refine hG.1 ?_; clear hG qG
        refine wpList_append_sl _ rfl (.tmp 71) (.tmp 74) 26 rfl 3 i0 _ 1 8 Tryd.underlying26 HI0.out HZ0.out HZ1.out HZ2.out rfl _ n (intsC L) own rfl (HSL.out.alloc _) ⟨wr.heap.size, 0, none⟩ 1 1 [.int .i64 ((k : Int) + 1)] rfl rfl (news_alloc _ [.int .i64 ((k : Int) + 1)] _) (by simp [Value.oneCell']) (by have := HKL.out; have := HK5.out; unfold maxLen; omega) (by have := HKL.out; have := HK5.out; omega) ?_
        intro v2 w4 own1 hs1 hf1 ho1
        have hfr4 : Frm w2.heap.size [] w2 w4 := (HFR.out.alloc HFR.out.size _).call hf1 (by have := HFR.out.size; simp; omega) (fun x hx hm => by have := HOWN.out x (by simpa using hm); omega)
        have hown1 : ∀ b, own1 = some b → w2.heap.size ≤ b := fun b hb => by
          rcases ho1 with h | ⟨q, h, hq⟩
          · exact HOWN.out b (by rw [← h]; exact hb)
          · rw [hb] at h; cases h; have := HFR.out.size; simp at hq; omega
        have hs2 : Sl w4 3 1 v2 (liftL f (k + 1)).length (intsC (liftL f (k + 1))) own1 := by rw [HSC.out, HAG.out, if_pos rfl, intsC_snoc, List.length_append, ← HN.out]; simpa using hs1
        obtain ⟨ad1, cp1, rfl⟩ := hs2.form
        have hfin : ∃ k' : Nat, Value.int .i64 ((k : Int) + 1) = .int .i64 k' ∧ k' ≤ 5 ∧ (∃ own, Sl w4 3 1 (.slice ad1 (liftL f (k + 1)).length cp1) (liftL f k').length (intsC (liftL f k')) own ∧ ∀ b, own = some b → w2.heap.size ≤ b) ∧ Frm w2.heap.size [] w2 w4 := ⟨k + 1, by simp, HK5.out, ⟨own1, hs2, hown1⟩, hfr4⟩
        have hms : 5 - ((k : Int) + 1).toNat < 5 - ((k : Int)).toNat := by have := HK5.out; omega
        clear hf1 ho1 hs1 hs2 hfr4 hown1 c1
        have HFIN := Lib.hid hfin
        have HMS := Lib.hid hms
        clear hms hfin
        go_wp2_with fail
        (try simp only [x1, x2])
        exact ⟨HFIN.out, HMS.out⟩
    · have hk5' : ¬ (k : Int) < 5 := by omega
      obtain rfl : k = 5 := by omega
      have hfin := HF.out.call hfr HF.out.size (by simp)
      obtain ⟨n, hn⟩ : ∃ n, n = (liftL f 5).length := ⟨_, rfl⟩
      rw [← hn] at hsl ⊢
      clear hfr
      have HSL := Lib.hid hsl
      have HOWN := Lib.hid hown
      have HFIN := Lib.hid hfin
      have HN := Lib.hid hn
      clear hn hfin hown hsl
      go_wp2_with fail
      refine bodyPost_ret (v := .tuple #[.slice ad n cp, .int .i64 0]) (by simp [results, Tryd.results14, go_sem]) rfl ?_
      exact ⟨HFIN.out, .inr ⟨HIN.out, _, own, rfl, by rw [← HN.out]; exact HSL.out, fun b hb => by have h1 := HOWN.out b hb; have h2 := HF.out.size; omega⟩⟩
end Go.Proofs.YtfmigicmfolbjaaDoor
