/-
  Wait and NewCentre.
-/
import Derived.Test.YthmladcepkdheaaCent4
import Derived.Laws.EntriesVeiled
import Derived.Deep.OwnRows
import Derived.Conc.WgWords
namespace Go.Proofs.Ythmladcepkdheaa
open Go.RowKit

def waitN (term slow : Int) : Int := (term * (1000 + slow) + 999) / 1000 + 1

set_option maxHeartbeats 1000000 in
theorem wait_ok (term slow : Int) (w : World) (h : (inB term 1 100000 && inB slow 0 1000) = true) :
    Calls Try.prog 11 #[.int .i64 term, .int .i64 slow] w fun e w' => e = .returned (.tuple #[.int .i64 (waitN term slow), .int .i64 0]) ∧ w = w' := by
  obtain ⟨h1, h2⟩ := Bool.and_eq_true_iff.1 h
  obtain ⟨b1, b2⟩ := inB_iff.1 h1
  obtain ⟨b3, b4⟩ := inB_iff.1 h2
  have p1 : 0 ≤ term * (1000 + slow) := Int.mul_nonneg (by omega) (by omega)
  have p2 : term * (1000 + slow) ≤ 100000 * 2000 := Int.mul_le_mul b2 (by omega) (by omega) (by omega)
  have H1 := Lib.hid h1
  have H2 := Lib.hid h2
  clear h2 h1
  clear h
  go_enter Try.func11, Try.ntmps11
  go_wp2_with (go_at_call 44; refine (within_any _ _ _ _).mono ?_; rintro e w' ⟨rfl, rfl⟩; first | rw [H1.out] | rw [H2.out])
  go_ret2
  exact ⟨by simp only [waitN, Ending.returned.injEq]; simp; omega, rfl⟩

set_option maxHeartbeats 1000000 in
theorem wait_no (term slow : Int) (w : World) (h : (inB term 1 100000 && inB slow 0 1000) = false) :
    Calls Try.prog 11 #[.int .i64 term, .int .i64 slow] w fun e w' => e = .returned (.tuple #[.int .i64 0, .int .i64 4]) ∧ w = w' := by
  cases h1 : inB term 1 100000 <;> cases h2 : inB slow 0 1000
  case true.true => rw [h1, h2] at h; cases h
  all_goals
    have H1 := Lib.hid h1
    have H2 := Lib.hid h2
    clear h2 h1
    clear h
    go_enter Try.func11, Try.ntmps11
    go_wp2_with (go_at_call 44; refine (within_any _ _ _ _).mono ?_; rintro e w' ⟨rfl, rfl⟩; first | rw [H1.out] | rw [H2.out])
    go_ret2
    exact ⟨rfl, rfl⟩

set_option maxHeartbeats 1000000 in
theorem newCentre_no (nodes term slow : Int) (w : World) (h : (inB term 1 100000 && inB slow 0 1000 && inB nodes 1 8) = false) :
    Calls Try.prog 13 #[.int .i64 nodes, .int .i64 term, .int .i64 slow] w fun e w' => e = .returned (.tuple #[.pointer none, .int .i64 4]) ∧ w = w' := by
  cases hw : (inB term 1 100000 && inB slow 0 1000)
  · have HW := Lib.hid hw
    clear hw
    clear h
    go_enter Try.func13, Try.ntmps13
    go_wp2_with (go_at_call 11; refine (wait_no _ _ _ HW.out).mono ?_; rintro e w' ⟨rfl, rfl⟩)
    go_ret2
    exact ⟨rfl, rfl⟩
  · have h1 : inB nodes 1 8 = false := by rw [hw] at h; simpa using h
    have HW := Lib.hid hw
    have H1 := Lib.hid h1
    clear h1 hw
    clear h
    go_enter Try.func13, Try.ntmps13
    go_wp2_with (first | (go_at_call 11; refine (wait_ok _ _ _ HW.out).mono ?_; rintro e w' ⟨rfl, rfl⟩) | (go_at_call 44; refine (within_any _ _ _ _).mono ?_; rintro e w' ⟨rfl, rfl⟩; rw [H1.out]))
    go_ret2
    exact ⟨rfl, rfl⟩

theorem made_ints (n : Nat) : madeCells #[.int .i64 0] n = (ints (List.replicate n 0)).toArray := by
  apply Array.ext
  · simp [madeCells, ints]
  · intro i h1 h2
    simp [madeCells, ints, Nat.mod_one]

theorem run_make_ints (n : Nat) (hn : n ≤ 1000000) (w : World) : (Instr.makeSlice 73 (.int .i64 (n : Int)) (.int .i64 (n : Int))).run Try.prog w =
    .ok (.slice (some ⟨w.heap.size, 0, none⟩) n n) (w.alloc (.cells (ints (List.replicate n 0)).toArray 3)) := by
  rw [← made_ints]
  exact run_make_row' 73 3 (.int .i64 0) 8 Try.underlying73 (by kernel_rfl) rfl .i64 .i64 n (by omega) (by omega) w

theorem run_insert (k : Int) (es : Array MapEntry) (cl r : Nat) (v : Value) (w : World) (h : w.heap[r]? = some (.map es cl)) (hf : Instr.findNow (.int .i64) (.int .i64 k) es.toList 0 = some none) :
    ∃ w', (Instr.mapUpdate 88 (.map (some r)) (.int .i64 k) v).run Try.prog w = .ok () w' ∧ w'.heap[r]? = some (.map (es.push ⟨.int .i64 k, v, cl⟩) (cl + 1)) ∧ Frm w.heap.size [r] w w' := by
  have h10 := MapKept.run_checkKey (P := Try.prog) (w := w) Try.underlying3 (k := .int .i64 k) (by simp [MapKept.IsKey]) false 9999
  have h2 := MapKept.run_findKey (P := Try.prog) (w := w) Try.underlying3 (k := .int .i64 k) hf
  have hlt : r < w.heap.size := (Array.getElem?_eq_some_iff.1 h).1
  refine ⟨{ w with heap := w.heap.setIfInBounds r (.map (es.push ⟨.int .i64 k, v, cl⟩) (cl + 1)) }, ?_, ?_, ⟨rfl, rfl, rfl, by simp, fun x hx hn => ?_⟩⟩
  · simp [Instr.mapUpdate, run_underlying Try.underlying88, getObj, h10, h2, run_getObj_map h, setObj, Sem.run, h]
  · simp [hlt]
  · simp only [List.mem_singleton] at hn
    simp [Array.getElem?_setIfInBounds, Ne.symm hn]

set_option maxRecDepth 100000 in
set_option maxHeartbeats 2000000 in
theorem newCentre_ok (nodes : Nat) (term slow : Int) (w : World) (hw : (inB term 1 100000 && inB slow 0 1000) = true) (hn : inB nodes 1 8 = true) :
    Calls Try.prog 13 #[.int .i64 nodes, .int .i64 term, .int .i64 slow] w fun e w' => e = .returned (.tuple #[.pointer (some ⟨w.heap.size + 1, 0, none⟩), .int .i64 0]) ∧
      CentS w' (w.heap.size + 1) w.heap.size (w.heap.size + 2) ⟨0, 0, 0, 0, waitN term slow, 0, List.replicate (nodes + 1) 0⟩ ∧ Frm w.heap.size [] w w' := by
  have hmm := @run_makeMap Try.prog
  obtain ⟨b1, b2⟩ := inB_iff.1 hn
  have hmk := run_make_ints (nodes + 1) (by omega)
  rw [show ((nodes + 1 : Nat) : Int) = (nodes : Int) + 1 from by omega] at hmk
  obtain ⟨W3, hW3⟩ : ∃ W3, W3 = (((w.alloc (.cells (ints (List.replicate (nodes + 1) 0)).toArray 3)).alloc (.cells #[.int .i64 0, .int .i64 0, .int .i64 0, .int .i64 0, .bool true, .int .i64 (waitN term slow), .int .i64 0, .slice (some ⟨w.heap.size, 0, none⟩) (nodes + 1) (nodes + 1), .map none] 90)).alloc (.map #[] 0)) := ⟨_, rfl⟩
  have f0 : Frm w.heap.size [] w W3 := by
    rw [hW3]
    repeat (first | with_reducible exact Frm.refl _ _ _ | with_reducible refine Frm.drewN ?_ | with_reducible refine Frm.drew ?_ | ((with_reducible refine Frm.setCell' ?_ ?_); · first | (left; simp; done) | (right; simp; done) | (right; simp; omega)) | ((with_reducible refine Frm.alloc' ?_ ?_); · first | exact Nat.le_refl _ | (simp; done) | (simp; omega)))
  have hsz : W3.heap.size = w.heap.size + 3 := by rw [hW3]; simp
  have hm3 : W3.heap[w.heap.size + 1 + 1]? = some (.map #[] 0) := by
    rw [hW3]
    have := heap_alloc_new ((w.alloc (.cells (ints (List.replicate (nodes + 1) 0)).toArray 3)).alloc (.cells #[.int .i64 0, .int .i64 0, .int .i64 0, .int .i64 0, .bool true, .int .i64 (waitN term slow), .int .i64 0, .slice (some ⟨w.heap.size, 0, none⟩) (nodes + 1) (nodes + 1), .map none] 90)) (.map #[] 0)
    simpa using this
  have hr3 : Blk W3 w.heap.size 3 (ints (List.replicate (nodes + 1) 0)) := by
    rw [hW3]; exact ((Blk.new w 3 _).alloc _).alloc _
  have hb3 : Blk W3 (w.heap.size + 1) 90 [.int .i64 0, .int .i64 0, .int .i64 0, .int .i64 0, .bool true, .int .i64 (waitN term slow), .int .i64 0, .slice (some ⟨w.heap.size, 0, none⟩) (nodes + 1) (nodes + 1), .map none] := by
    rw [hW3]; exact (Blk.new' (w.alloc (.cells (ints (List.replicate (nodes + 1) 0)).toArray 3)) 90 _ (by simp)).alloc _
  obtain ⟨W4, hr4, hm4, hf4⟩ := run_insert 1 #[] 0 (w.heap.size + 1 + 1) (.func (.func 45) #[.pointer (some ⟨w.heap.size + 1, 0, none⟩)] #[]) W3 hm3 rfl
  obtain ⟨W5, hr5, hm5, hf5⟩ := run_insert 3 _ _ (w.heap.size + 1 + 1) (.func (.func 46) #[.pointer (some ⟨w.heap.size + 1, 0, none⟩)] #[]) W4 hm4 rfl
  have hf35 : Frm W3.heap.size [w.heap.size + 1 + 1] W3 W5 := hf4.call hf5 hf4.size (fun _ _ h => h)
  have hb5 := hf35.blk hb3 (by omega) (by simp)
  have hr5' := hf35.blk hr3 (by omega) (by simp; omega)
  have hf05 : Frm w.heap.size [] w W5 := f0.call hf35 f0.size (fun x h1 h2 => by simp at h2; omega)
  have c8 := hb5.cell 8
  have fr8 := hb5.free 8
  simp only [List.getElem?_cons_succ, List.getElem?_cons_zero] at c8
  rw [hW3] at hr4
  have HW := Lib.hid hw
  have HN := Lib.hid hn
  have HB := Lib.hid hb5
  have HR := Lib.hid hr5'
  have HF := Lib.hid hf05
  have HM := Lib.hid hm5
  have HSZ := Lib.hid hsz
  clear hsz hm5 hf05 hr5' hb5 hn hw
  clear hf35 f0 hm3 hr3 hb3 hm4 hf4 hf5 hW3
  go_enter Try.func13, Try.ntmps13
  go_wp2_with (first | (go_at_call 11; refine (wait_ok _ _ _ HW.out).mono ?_; rintro e w' ⟨rfl, rfl⟩) | (go_at_call 44; refine (within_any _ _ _ _).mono ?_; rintro e w' ⟨rfl, rfl⟩; rw [HN.out]))
  go_ret2
  refine ⟨rfl, ⟨?_, ?_, ?_, by simp, by simp, by simp⟩, ?_⟩
  · have := HB.out.set 8 (.map (some (w.heap.size + 1 + 1)))
    simpa [centCells] using this
  · exact HR.out.other _ (by simp) _
  · exact (Below.heap_setCell _ _ _ _ (by simp)).trans HM.out
  · exact HF.out.setCell (.inr (by simp)) _
end Go.Proofs.Ythmladcepkdheaa
