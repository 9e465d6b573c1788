/-
  The document's ranges and wait, and the law 'CommandRules'.
-/
import Derived.Test.YthmladcepkdheaaAwake
namespace Go.Proofs.Ythmladcepkdheaa
open Go.RowKit

set_option maxHeartbeats 400000 in
theorem refIn0_any (a b c : Int) (w : World) :
    Calls Try.prog 57 #[.int .i64 a, .int .i64 b, .int .i64 c] w fun e w' => e = .returned (.bool (inB a b c)) ∧ w = w' := by
  by_cases h1 : b ≤ a
  · by_cases h2 : a ≤ c
    · go_enter Try.func57, Try.ntmps57
      go_wp2
      go_ret
      exact ⟨by simp [inB, h1, h2], rfl⟩
    · go_enter Try.func57, Try.ntmps57
      go_wp2
      go_ret
      exact ⟨by simp [inB, h2], rfl⟩
  · go_enter Try.func57, Try.ntmps57
    go_wp2
    go_ret
    have h1' : ¬ b ≤ a := by omega
    exact ⟨by simp [inB, h1'], rfl⟩

set_option maxHeartbeats 400000 in
theorem refIn_any (a b c : Int) (w : World) :
    Calls Try.prog 47 #[.int .i64 a, .int .i64 b, .int .i64 c] w fun e w' => e = .returned (.bool (inB a b c)) ∧ w = w' := by
  go_enter Try.func47, Try.ntmps47
  go_wp2_with (go_at_call 57; refine (refIn0_any _ _ _ _).mono ?_; rintro e w' ⟨rfl, rfl⟩)
  go_ret
  exact ⟨rfl, rfl⟩

set_option maxHeartbeats 400000 in
theorem refRules_any (a b : Int) (w : World) :
    Calls Try.prog 15 #[.int .i64 a, .int .i64 b] w fun e w' => e = .returned (.bool (inB a 1 100000 && inB b 0 1000)) ∧ w = w' := by
  cases h1 : inB a 1 100000 <;> cases h2 : inB b 0 1000
  all_goals
    have H1 := Lib.hid h1
    have H2 := Lib.hid h2
    clear h2 h1
    go_enter Try.func15, Try.ntmps15
    go_wp2_with (go_at_call 47; refine (refIn_any _ _ _ _).mono ?_; rintro e w' ⟨rfl, rfl⟩; first | rw [H1.out] | rw [H2.out])
    go_ret
    exact ⟨rfl, rfl⟩

set_option maxHeartbeats 1000000 in
theorem refWait_ok (term slow : Int) (w : World) (h : (inB term 1 100000 && inB slow 0 1000) = true) :
    Calls Try.prog 12 #[.int .i64 term, .int .i64 slow] w fun e w' => e = .returned (.tuple #[.int .i64 (waitN term slow), .int .i64 0]) ∧ w = w' := by
  obtain ⟨h1, h2⟩ := Bool.and_eq_true_iff.1 h
  obtain ⟨b1, b2⟩ := inB_iff.1 h1
  obtain ⟨b3, b4⟩ := inB_iff.1 h2
  have p1 : 0 ≤ term * (1000 + slow) := Int.mul_nonneg (by omega) (by omega)
  have p2 : term * (1000 + slow) ≤ 100000 * 2000 := Int.mul_le_mul b2 (by omega) (by omega) (by omega)
  have H := Lib.hid h
  clear h
  clear h1 h2
  go_enter Try.func12, Try.ntmps12
  go_wp2_with (go_at_call 15; refine (refRules_any _ _ _).mono ?_; rintro e w' ⟨rfl, rfl⟩; rw [H.out])
  go_ret2
  exact ⟨by simp only [waitN, Ending.returned.injEq]; simp, rfl⟩

set_option maxHeartbeats 1000000 in
theorem refWait_no (term slow : Int) (w : World) (h : (inB term 1 100000 && inB slow 0 1000) = false) :
    Calls Try.prog 12 #[.int .i64 term, .int .i64 slow] w fun e w' => e = .returned (.tuple #[.int .i64 0, .int .i64 4]) ∧ w = w' := by
  have H := Lib.hid h
  clear h
  go_enter Try.func12, Try.ntmps12
  go_wp2_with (go_at_call 15; refine (refRules_any _ _ _).mono ?_; rintro e w' ⟨rfl, rfl⟩; rw [H.out])
  go_ret2
  exact ⟨rfl, rfl⟩

/-- Both answers of 'Wait'. -/
def waitR (term slow : Int) : Int × Int := if (inB term 1 100000 && inB slow 0 1000) = true then (waitN term slow, 0) else (0, 4)
theorem wait_any (term slow : Int) (w : World) : Calls Try.prog 11 #[.int .i64 term, .int .i64 slow] w fun e w' => e = .returned (.tuple #[.int .i64 (waitR term slow).1, .int .i64 (waitR term slow).2]) ∧ w = w' := by
  unfold waitR
  cases h : (inB term 1 100000 && inB slow 0 1000)
  · exact wait_no term slow w h
  · exact wait_ok term slow w h
theorem refWait_any (term slow : Int) (w : World) : Calls Try.prog 12 #[.int .i64 term, .int .i64 slow] w fun e w' => e = .returned (.tuple #[.int .i64 (waitR term slow).1, .int .i64 (waitR term slow).2]) ∧ w = w' := by
  unfold waitR
  cases h : (inB term 1 100000 && inB slow 0 1000)
  · exact refWait_no term slow w h
  · exact refWait_ok term slow w h

/-- What a maker answers: a pointer or none, and the error that belongs to it. -/
theorem newCentre_any (nodes term slow : Int) (w : World) :
    Calls Try.prog 13 #[.int .i64 nodes, .int .i64 term, .int .i64 slow] w fun e w' => (if (inB term 1 100000 && inB slow 0 1000 && inB nodes 1 8) = true then e = .returned (.tuple #[.pointer (some ⟨w.heap.size + 1, 0, none⟩), .int .i64 0]) else e = .returned (.tuple #[.pointer none, .int .i64 4])) ∧ Frm w.heap.size [] w w' := by
  cases h : (inB term 1 100000 && inB slow 0 1000 && inB nodes 1 8)
  · exact (newCentre_no nodes term slow w h).mono fun e w' ⟨he, hw⟩ => ⟨by simpa using he, hw ▸ Frm.refl _ _ _⟩
  · obtain ⟨h1, h2⟩ := Bool.and_eq_true_iff.1 h
    obtain ⟨b1, b2⟩ := inB_iff.1 h2
    obtain ⟨n, rfl⟩ := Int.eq_ofNat_of_zero_le (show 0 ≤ nodes by omega)
    exact (newCentre_ok n term slow w h1 h2).mono fun e w' ⟨he, _, hf⟩ => ⟨by simpa using he, hf⟩
theorem newNode_any (number term : Int) (w : World) :
    Calls Try.prog 14 #[.int .i64 number, .int .i64 term] w fun e w' => (if (inB number 1 8 && inB term 1 100000) = true then e = .returned (.tuple #[.pointer (some ⟨w.heap.size, 0, none⟩), .int .i64 0]) else e = .returned (.tuple #[.pointer none, .int .i64 4])) ∧ Frm w.heap.size [] w w' := by
  cases h : (inB number 1 8 && inB term 1 100000)
  · exact (newNode_no number term w h).mono fun e w' ⟨he, hw⟩ => ⟨by simpa using he, hw ▸ Frm.refl _ _ _⟩
  · obtain ⟨h1, h2⟩ := Bool.and_eq_true_iff.1 h
    exact (newNode_ok number term w h1 h2).mono fun e w' ⟨he, _, hf⟩ => ⟨by simpa using he, hf⟩
end Go.Proofs.Ythmladcepkdheaa
