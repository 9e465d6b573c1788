/-
  The centre: a Return heard; Hear; NewCentre; Wait.
-/
import Derived.Test.YthmladcepkdheaaCent2
namespace Go.Proofs.Ythmladcepkdheaa
open Go.RowKit

section
variable {now node number since wait wanted : Int} {g : List Int} {bG bM : Nat}

/-- What the centre is behind a Return. -/
def Backed (w : World) (b bG bM : Nat) (now node number since wait wanted : Int) (g : List Int) (n : Nat) (m : Int) (e : Ending) (w' : World) : Prop :=
  Frm w.heap.size [b, bG] w w' ∧ e = .returned (.agg #[.int .i64 0, .int .i64 0, .int .i64 0]) ∧
  if node = n ∧ number ≤ m then CentAt w' b bG bM now 0 0 0 wait wanted (g.set n (max (g[n]?.getD 0) m))
  else CentAt w' b bG bM now node number since wait wanted (g.set n (max (g[n]?.getD 0) m))

set_option maxRecDepth 100000 in
set_option maxHeartbeats 4000000 in
theorem back_any (b : Nat) (w : World) (k : Int) (n : Nat) (m : Int) (h : CentAt w b bG bM now node number since wait wanted g) (hg : g.length ≤ 100000) (hn : n < g.length) :
    Calls Try.prog 46 #[.pointer (some ⟨b, 0, none⟩), .agg #[.int .i64 k, .int .i64 n, .int .i64 m]] w (Backed w b bG bM now node number since wait wanted g n m) := by
  have hb := h.blk.lt
  have hbG := h.row.lt
  have n1 := h.ne
  have x1 : w.heap.size ≠ b := by omega
  have x2 : w.heap.size ≠ bG := by omega
  have x3 : w.heap.size + 1 ≠ b := by omega
  have x4 : w.heap.size + 1 ≠ bG := by omega
  have x5 : b ≠ bG := by omega
  have hget := ints_get hn
  have eg : g[n]?.getD 0 = g[n] := by simp [hn]
  obtain ⟨⟨c0, c1, c2, c3, c4, c5, c6, c7, c8⟩, f0, f1, f2, f3, f6⟩ := cent_cells h.blk
  have r0 : w.cell? ⟨bG, n, none⟩ = some (.int .i64 g[n]) := (h.row.cell n).trans hget
  have fr0 := h.row.free n
  have H := Lib.hid h
  have HG := Lib.hid hget
  have EG := Lib.hid eg
  clear eg hget h
  clear c0 c4 c5 c6 c8
  have hn' : (n : Int) < (g.length : Int) := by omega
  have hn0 : (0 : Int) ≤ (n : Int) := by omega
  obtain ⟨M, hM⟩ : ∃ M, M = max (g[n]?.getD 0) m := ⟨_, rfl⟩
  have HMM := Lib.hid hM
  have hMo : (M = m ∧ g[n] < m) ∨ (M = g[n] ∧ m ≤ g[n]) := by rw [hM, EG.out]; omega
  have HMO := Lib.hid hMo
  clear hM hMo
  by_cases t0 : g[n] < m
  · have HE := Lib.hid (show M = m by rcases HMO.out with h | h <;> omega)
    by_cases t1 : node = (n : Int)
    · have t2 : (node == (n : Int)) = true := by simpa using t1
      by_cases t3 : number ≤ m
      · have T := Lib.hid t1
        have T3 := Lib.hid t3
        clear t1
        go_enter Try.func46, Try.ntmps46
        go_wp2_with fail
        refine wp_region_left (by kernel_rfl) ?_
        refine Left.headD 18 (by kernel_rfl) ?_
        simp only [List.take_succ_cons, List.take_zero, List.drop_succ_cons, List.drop_zero, Nat.reduceSub]
        repeat (quiet_step (fail))
        refine wpQuiet_nil ?_
        rintro _ ⟨nq, rfl⟩
        refine Left.tail (by kernel_rfl) ?_
        simp only [List.drop_succ_cons, List.drop_zero]
        go_wp2_with fail
        go_quiet (fail)
        go_wp2
        refine bodyPost_ret (v := .agg #[.int .i64 0, .int .i64 0, .int .i64 0]) (by simp [results, Try.results46, go_sem]) rfl ?_
        rw [Backed, if_pos ⟨T.out, T3.out⟩, ← HMM.out, HE.out]
        refine ⟨by repeat (first | with_reducible exact Frm.refl _ _ _ | with_reducible refine Frm.drewN ?_ | with_reducible refine Frm.drew ?_ | ((with_reducible refine Frm.setCell' ?_ ?_); · first | (left; simp; done) | (right; simp; done) | (right; simp; omega)) | ((with_reducible refine Frm.alloc' ?_ ?_); · first | exact Nat.le_refl _ | (simp; done) | (simp; omega))), rfl, H.out.turn (by repeat (first | with_reducible exact Frm.refl _ _ _ | with_reducible refine Frm.drewN ?_ | with_reducible refine Frm.drew ?_ | ((with_reducible refine Frm.setCell' ?_ ?_); · first | (left; simp; done) | (right; simp; done) | (right; simp; omega)) | ((with_reducible refine Frm.alloc' ?_ ?_); · first | exact Nat.le_refl _ | (simp; done) | (simp; omega)))) ?_ ?_⟩
        · rw [List.length_set]
          exact ((((((((H.out.blk.alloc _).alloc _).drewN.other ⟨bG, n, none⟩ n1 _).drewN.set 1 _).set 2 _).set 3 _).other ⟨_, 0, none⟩ x3 _).other ⟨_, 1, none⟩ x3 _).other ⟨_, 2, none⟩ x3 _
        · rw [← ints_set]
          exact ((((((((H.out.row.alloc _).alloc _).drewN.set n _).drewN.other ⟨b, 1, none⟩ x5 _).other ⟨b, 2, none⟩ x5 _).other ⟨b, 3, none⟩ x5 _).other ⟨_, 0, none⟩ x4 _).other ⟨_, 1, none⟩ x4 _).other ⟨_, 2, none⟩ x4 _
      · have T := Lib.hid (show ¬ (node = (n : Int) ∧ number ≤ m) from fun h => t3 h.2)
        clear t1
        go_enter Try.func46, Try.ntmps46
        go_wp2_with fail
        refine wp_region_left (by kernel_rfl) ?_
        refine Left.headD 18 (by kernel_rfl) ?_
        simp only [List.take_succ_cons, List.take_zero, List.drop_succ_cons, List.drop_zero, Nat.reduceSub]
        repeat (quiet_step (fail))
        refine wpQuiet_nil ?_
        rintro _ ⟨nq, rfl⟩
        refine Left.tail (by kernel_rfl) ?_
        simp only [List.drop_succ_cons, List.drop_zero]
        go_wp2_with fail
        go_quiet (fail)
        go_wp2
        refine bodyPost_ret (v := .agg #[.int .i64 0, .int .i64 0, .int .i64 0]) (by simp [results, Try.results46, go_sem]) rfl ?_
        rw [Backed, if_neg T.out, ← HMM.out, HE.out]
        refine ⟨by repeat (first | with_reducible exact Frm.refl _ _ _ | with_reducible refine Frm.drewN ?_ | with_reducible refine Frm.drew ?_ | ((with_reducible refine Frm.setCell' ?_ ?_); · first | (left; simp; done) | (right; simp; done) | (right; simp; omega)) | ((with_reducible refine Frm.alloc' ?_ ?_); · first | exact Nat.le_refl _ | (simp; done) | (simp; omega))), rfl, H.out.turn (by repeat (first | with_reducible exact Frm.refl _ _ _ | with_reducible refine Frm.drewN ?_ | with_reducible refine Frm.drew ?_ | ((with_reducible refine Frm.setCell' ?_ ?_); · first | (left; simp; done) | (right; simp; done) | (right; simp; omega)) | ((with_reducible refine Frm.alloc' ?_ ?_); · first | exact Nat.le_refl _ | (simp; done) | (simp; omega)))) ?_ ?_⟩
        · rw [List.length_set]
          exact (((((H.out.blk.alloc _).alloc _).drewN.other ⟨bG, n, none⟩ n1 _).drewN.other ⟨_, 0, none⟩ x3 _).other ⟨_, 1, none⟩ x3 _).other ⟨_, 2, none⟩ x3 _
        · rw [← ints_set]
          exact (((((H.out.row.alloc _).alloc _).drewN.set n _).drewN.other ⟨_, 0, none⟩ x4 _).other ⟨_, 1, none⟩ x4 _).other ⟨_, 2, none⟩ x4 _
    · have t2 : (node == (n : Int)) = false := by simpa using t1
      have T := Lib.hid (show ¬ (node = (n : Int) ∧ number ≤ m) from fun h => t1 h.1)
      clear t1
      go_enter Try.func46, Try.ntmps46
      go_wp2_with fail
      refine wp_region_left (by kernel_rfl) ?_
      refine Left.headD 18 (by kernel_rfl) ?_
      simp only [List.take_succ_cons, List.take_zero, List.drop_succ_cons, List.drop_zero, Nat.reduceSub]
      repeat (quiet_step (fail))
      refine wpQuiet_nil ?_
      rintro _ ⟨nq, rfl⟩
      refine Left.tail (by kernel_rfl) ?_
      simp only [List.drop_succ_cons, List.drop_zero]
      go_wp2_with fail
      go_quiet (fail)
      go_wp2
      refine bodyPost_ret (v := .agg #[.int .i64 0, .int .i64 0, .int .i64 0]) (by simp [results, Try.results46, go_sem]) rfl ?_
      rw [Backed, if_neg T.out, ← HMM.out, HE.out]
      refine ⟨by repeat (first | with_reducible exact Frm.refl _ _ _ | with_reducible refine Frm.drewN ?_ | with_reducible refine Frm.drew ?_ | ((with_reducible refine Frm.setCell' ?_ ?_); · first | (left; simp; done) | (right; simp; done) | (right; simp; omega)) | ((with_reducible refine Frm.alloc' ?_ ?_); · first | exact Nat.le_refl _ | (simp; done) | (simp; omega))), rfl, H.out.turn (by repeat (first | with_reducible exact Frm.refl _ _ _ | with_reducible refine Frm.drewN ?_ | with_reducible refine Frm.drew ?_ | ((with_reducible refine Frm.setCell' ?_ ?_); · first | (left; simp; done) | (right; simp; done) | (right; simp; omega)) | ((with_reducible refine Frm.alloc' ?_ ?_); · first | exact Nat.le_refl _ | (simp; done) | (simp; omega)))) ?_ ?_⟩
      · rw [List.length_set]
        exact (((((H.out.blk.alloc _).alloc _).drewN.other ⟨bG, n, none⟩ n1 _).drewN.other ⟨_, 0, none⟩ x3 _).other ⟨_, 1, none⟩ x3 _).other ⟨_, 2, none⟩ x3 _
      · rw [← ints_set]
        exact (((((H.out.row.alloc _).alloc _).drewN.set n _).drewN.other ⟨_, 0, none⟩ x4 _).other ⟨_, 1, none⟩ x4 _).other ⟨_, 2, none⟩ x4 _
  · have HE := Lib.hid (show M = g[n] by rcases HMO.out with h | h <;> omega)
    by_cases t1 : node = (n : Int)
    · have t2 : (node == (n : Int)) = true := by simpa using t1
      by_cases t3 : number ≤ m
      · have T := Lib.hid t1
        have T3 := Lib.hid t3
        clear t1
        go_enter Try.func46, Try.ntmps46
        go_wp2_with fail
        refine wp_region_left (by kernel_rfl) ?_
        refine Left.headD 18 (by kernel_rfl) ?_
        simp only [List.take_succ_cons, List.take_zero, List.drop_succ_cons, List.drop_zero, Nat.reduceSub]
        repeat (quiet_step (fail))
        refine wpQuiet_nil ?_
        rintro _ ⟨nq, rfl⟩
        refine Left.tail (by kernel_rfl) ?_
        simp only [List.drop_succ_cons, List.drop_zero]
        go_wp2_with fail
        go_quiet (fail)
        go_wp2
        refine bodyPost_ret (v := .agg #[.int .i64 0, .int .i64 0, .int .i64 0]) (by simp [results, Try.results46, go_sem]) rfl ?_
        rw [Backed, if_pos ⟨T.out, T3.out⟩, ← HMM.out, HE.out]
        refine ⟨by repeat (first | with_reducible exact Frm.refl _ _ _ | with_reducible refine Frm.drewN ?_ | with_reducible refine Frm.drew ?_ | ((with_reducible refine Frm.setCell' ?_ ?_); · first | (left; simp; done) | (right; simp; done) | (right; simp; omega)) | ((with_reducible refine Frm.alloc' ?_ ?_); · first | exact Nat.le_refl _ | (simp; done) | (simp; omega))), rfl, H.out.turn (by repeat (first | with_reducible exact Frm.refl _ _ _ | with_reducible refine Frm.drewN ?_ | with_reducible refine Frm.drew ?_ | ((with_reducible refine Frm.setCell' ?_ ?_); · first | (left; simp; done) | (right; simp; done) | (right; simp; omega)) | ((with_reducible refine Frm.alloc' ?_ ?_); · first | exact Nat.le_refl _ | (simp; done) | (simp; omega)))) ?_ ?_⟩
        · rw [List.length_set]
          exact ((((((((H.out.blk.alloc _).alloc _).drewN.other ⟨bG, n, none⟩ n1 _).drewN.set 1 _).set 2 _).set 3 _).other ⟨_, 0, none⟩ x3 _).other ⟨_, 1, none⟩ x3 _).other ⟨_, 2, none⟩ x3 _
        · rw [← ints_set]
          exact ((((((((H.out.row.alloc _).alloc _).drewN.set n _).drewN.other ⟨b, 1, none⟩ x5 _).other ⟨b, 2, none⟩ x5 _).other ⟨b, 3, none⟩ x5 _).other ⟨_, 0, none⟩ x4 _).other ⟨_, 1, none⟩ x4 _).other ⟨_, 2, none⟩ x4 _
      · have T := Lib.hid (show ¬ (node = (n : Int) ∧ number ≤ m) from fun h => t3 h.2)
        clear t1
        go_enter Try.func46, Try.ntmps46
        go_wp2_with fail
        refine wp_region_left (by kernel_rfl) ?_
        refine Left.headD 18 (by kernel_rfl) ?_
        simp only [List.take_succ_cons, List.take_zero, List.drop_succ_cons, List.drop_zero, Nat.reduceSub]
        repeat (quiet_step (fail))
        refine wpQuiet_nil ?_
        rintro _ ⟨nq, rfl⟩
        refine Left.tail (by kernel_rfl) ?_
        simp only [List.drop_succ_cons, List.drop_zero]
        go_wp2_with fail
        go_quiet (fail)
        go_wp2
        refine bodyPost_ret (v := .agg #[.int .i64 0, .int .i64 0, .int .i64 0]) (by simp [results, Try.results46, go_sem]) rfl ?_
        rw [Backed, if_neg T.out, ← HMM.out, HE.out]
        refine ⟨by repeat (first | with_reducible exact Frm.refl _ _ _ | with_reducible refine Frm.drewN ?_ | with_reducible refine Frm.drew ?_ | ((with_reducible refine Frm.setCell' ?_ ?_); · first | (left; simp; done) | (right; simp; done) | (right; simp; omega)) | ((with_reducible refine Frm.alloc' ?_ ?_); · first | exact Nat.le_refl _ | (simp; done) | (simp; omega))), rfl, H.out.turn (by repeat (first | with_reducible exact Frm.refl _ _ _ | with_reducible refine Frm.drewN ?_ | with_reducible refine Frm.drew ?_ | ((with_reducible refine Frm.setCell' ?_ ?_); · first | (left; simp; done) | (right; simp; done) | (right; simp; omega)) | ((with_reducible refine Frm.alloc' ?_ ?_); · first | exact Nat.le_refl _ | (simp; done) | (simp; omega)))) ?_ ?_⟩
        · rw [List.length_set]
          exact (((((H.out.blk.alloc _).alloc _).drewN.other ⟨bG, n, none⟩ n1 _).drewN.other ⟨_, 0, none⟩ x3 _).other ⟨_, 1, none⟩ x3 _).other ⟨_, 2, none⟩ x3 _
        · rw [← ints_set]
          exact (((((H.out.row.alloc _).alloc _).drewN.set n _).drewN.other ⟨_, 0, none⟩ x4 _).other ⟨_, 1, none⟩ x4 _).other ⟨_, 2, none⟩ x4 _
    · have t2 : (node == (n : Int)) = false := by simpa using t1
      have T := Lib.hid (show ¬ (node = (n : Int) ∧ number ≤ m) from fun h => t1 h.1)
      clear t1
      go_enter Try.func46, Try.ntmps46
      go_wp2_with fail
      refine wp_region_left (by kernel_rfl) ?_
      refine Left.headD 18 (by kernel_rfl) ?_
      simp only [List.take_succ_cons, List.take_zero, List.drop_succ_cons, List.drop_zero, Nat.reduceSub]
      repeat (quiet_step (fail))
      refine wpQuiet_nil ?_
      rintro _ ⟨nq, rfl⟩
      refine Left.tail (by kernel_rfl) ?_
      simp only [List.drop_succ_cons, List.drop_zero]
      go_wp2_with fail
      go_quiet (fail)
      go_wp2
      refine bodyPost_ret (v := .agg #[.int .i64 0, .int .i64 0, .int .i64 0]) (by simp [results, Try.results46, go_sem]) rfl ?_
      rw [Backed, if_neg T.out, ← HMM.out, HE.out]
      refine ⟨by repeat (first | with_reducible exact Frm.refl _ _ _ | with_reducible refine Frm.drewN ?_ | with_reducible refine Frm.drew ?_ | ((with_reducible refine Frm.setCell' ?_ ?_); · first | (left; simp; done) | (right; simp; done) | (right; simp; omega)) | ((with_reducible refine Frm.alloc' ?_ ?_); · first | exact Nat.le_refl _ | (simp; done) | (simp; omega))), rfl, H.out.turn (by repeat (first | with_reducible exact Frm.refl _ _ _ | with_reducible refine Frm.drewN ?_ | with_reducible refine Frm.drew ?_ | ((with_reducible refine Frm.setCell' ?_ ?_); · first | (left; simp; done) | (right; simp; done) | (right; simp; omega)) | ((with_reducible refine Frm.alloc' ?_ ?_); · first | exact Nat.le_refl _ | (simp; done) | (simp; omega)))) ?_ ?_⟩
      · rw [List.length_set]
        exact (((((H.out.blk.alloc _).alloc _).drewN.other ⟨bG, n, none⟩ n1 _).drewN.other ⟨_, 0, none⟩ x3 _).other ⟨_, 1, none⟩ x3 _).other ⟨_, 2, none⟩ x3 _
      · rw [← ints_set]
        exact (((((H.out.row.alloc _).alloc _).drewN.set n _).drewN.other ⟨_, 0, none⟩ x4 _).other ⟨_, 1, none⟩ x4 _).other ⟨_, 2, none⟩ x4 _
end
end Go.Proofs.Ythmladcepkdheaa
