/-
  The leaves of chapter 9: numbers between two others, places, times, quotients.
-/
import Derived.Test.YtghkfopcjdkieaaDoorRows
import Derived.Test.YtghkfopcjdkieaaDoorLib3
import Derived.Test.YtghkfopcjdkieaaDoorLib4
import Derived.ProofKit
import Derived.Lib.Hide
namespace Go.Proofs.YtghkfopcjdkieaaDoor
set_option linter.all false
set_option linter.unusedSimpArgs false
set_option linter.unusedVariables false
open Go.RowKit

/-- (A goal at which the walk stays.) -/
theorem hold {p : Prop} (h : ∀ q : Prop, (p ↔ q) → q) : p := h p Iff.rfl

/-- Is a number from one to another one? (A name that the walk does not open.) -/
def inB (n l m : Int) : Bool := decide (l ≤ n) && decide (n ≤ m)
theorem inB_iff {n l m : Int} : inB n l m = true ↔ l ≤ n ∧ n ≤ m := by simp [inB]
theorem inB_false {n l m : Int} : inB n l m = false ↔ ¬ (l ≤ n ∧ n ≤ m) := by rw [← inB_iff]; simp
def placeB (x y : Int) : Bool := inB x (-16777216) 16777216 && inB y (-16777216) 16777216
def timeB (n : Int) : Bool := inB n 0 1073741824

set_option maxHeartbeats 400000 in
theorem within_any (a b c : Int) (w : World) : Calls Tryd.prog 55 #[.int .i64 a, .int .i64 b, .int .i64 c] w fun e w' => e = .returned (.bool (inB a b c)) ∧ w = w' := by
  by_cases h1 : b ≤ a
  · by_cases h2 : a ≤ c
    · go_enter Tryd.func55, Tryd.ntmps55
      go_wp2
      go_ret
      exact ⟨by simp [inB, h1, h2], rfl⟩
    · go_enter Tryd.func55, Tryd.ntmps55
      go_wp2
      go_ret
      exact ⟨by simp [inB, h2], rfl⟩
  · go_enter Tryd.func55, Tryd.ntmps55
    go_wp2
    go_ret
    exact ⟨by simp [inB]; omega, rfl⟩
set_option maxHeartbeats 400000 in
theorem refIn_any (a b c : Int) (w : World) : Calls Tryd.prog 69 #[.int .i64 a, .int .i64 b, .int .i64 c] w fun e w' => e = .returned (.bool (inB a b c)) ∧ w = w' := by
  by_cases h1 : b ≤ a
  · by_cases h2 : a ≤ c
    · go_enter Tryd.func69, Tryd.ntmps69
      go_wp2
      go_ret
      exact ⟨by simp [inB, h1, h2], rfl⟩
    · go_enter Tryd.func69, Tryd.ntmps69
      go_wp2
      go_ret
      exact ⟨by simp [inB, h2], rfl⟩
  · go_enter Tryd.func69, Tryd.ntmps69
    go_wp2
    go_ret
    exact ⟨by simp [inB]; omega, rfl⟩
theorem refin_any (a b c : Int) (w : World) : Calls Tryd.prog 56 #[.int .i64 a, .int .i64 b, .int .i64 c] w fun e w' => e = .returned (.bool (inB a b c)) ∧ w = w' := by
  go_enter Tryd.func56, Tryd.ntmps56
  go_wp2_with (go_at_call 69; refine (refIn_any _ _ _ _).mono ?_; rintro e w' ⟨rfl, rfl⟩)
  go_ret
  exact ⟨rfl, rfl⟩
theorem timed_any (a : Int) (w : World) : Calls Tryd.prog 52 #[.int .i64 a] w fun e w' => e = .returned (.bool (timeB a)) ∧ w = w' := by
  go_enter Tryd.func52, Tryd.ntmps52
  go_wp2_with (go_at_call 55; refine (within_any _ _ _ _).mono ?_; rintro e w' ⟨rfl, rfl⟩)
  go_ret
  exact ⟨rfl, rfl⟩
theorem refTime_any (a : Int) (w : World) : Calls Tryd.prog 46 #[.int .i64 a] w fun e w' => e = .returned (.bool (timeB a)) ∧ w = w' := by
  go_enter Tryd.func46, Tryd.ntmps46
  go_wp2_with (go_at_call 69; refine (refIn_any _ _ _ _).mono ?_; rintro e w' ⟨rfl, rfl⟩)
  go_ret
  exact ⟨rfl, rfl⟩
set_option maxHeartbeats 400000 in
theorem placed_any (x y : Int) (w : World) : Calls Tryd.prog 48 #[.agg #[.int .i64 x, .int .i64 y]] w fun e w' => e = .returned (.bool (placeB x y)) ∧ Frm w.heap.size [] w w' := by
  cases hx : inB x (-16777216) 16777216
  · have HX := Lib.hid hx
    clear hx
    go_enter Tryd.func48, Tryd.ntmps48
    go_wp2_with (go_at_call 55; refine (within_any _ _ _ _).mono ?_; rintro e w' ⟨rfl, rfl⟩; rw [HX.out])
    go_ret
    exact ⟨by unfold placeB; rw [HX.out]; rfl, by repeat (first | with_reducible exact Frm.refl _ _ _ | with_reducible refine Frm.drewN ?_ | with_reducible refine Frm.drew ?_ | ((with_reducible refine Frm.setCell' ?_ ?_); · first | (left; simp; done) | (right; simp; done) | (right; simp; omega)) | ((with_reducible refine Frm.alloc' ?_ ?_); · first | exact Nat.le_refl _ | (simp; done) | (simp; omega)))⟩
  · have HX := Lib.hid hx
    clear hx
    go_enter Tryd.func48, Tryd.ntmps48
    go_wp2_with (go_at_call 55; refine (within_any _ _ _ _).mono ?_; rintro e w' ⟨rfl, rfl⟩; try rw [HX.out])
    go_ret
    exact ⟨by unfold placeB; rw [HX.out]; rfl, by repeat (first | with_reducible exact Frm.refl _ _ _ | with_reducible refine Frm.drewN ?_ | with_reducible refine Frm.drew ?_ | ((with_reducible refine Frm.setCell' ?_ ?_); · first | (left; simp; done) | (right; simp; done) | (right; simp; omega)) | ((with_reducible refine Frm.alloc' ?_ ?_); · first | exact Nat.le_refl _ | (simp; done) | (simp; omega)))⟩
set_option maxHeartbeats 400000 in
theorem refPlace_any (x y : Int) (w : World) : Calls Tryd.prog 32 #[.agg #[.int .i64 x, .int .i64 y]] w fun e w' => e = .returned (.bool (placeB x y)) ∧ Frm w.heap.size [] w w' := by
  cases hx : inB x (-16777216) 16777216
  · have HX := Lib.hid hx
    clear hx
    go_enter Tryd.func32, Tryd.ntmps32
    go_wp2_with (go_at_call 69; refine (refIn_any _ _ _ _).mono ?_; rintro e w' ⟨rfl, rfl⟩; rw [HX.out])
    go_ret
    exact ⟨by unfold placeB; rw [HX.out]; rfl, by repeat (first | with_reducible exact Frm.refl _ _ _ | with_reducible refine Frm.drewN ?_ | with_reducible refine Frm.drew ?_ | ((with_reducible refine Frm.setCell' ?_ ?_); · first | (left; simp; done) | (right; simp; done) | (right; simp; omega)) | ((with_reducible refine Frm.alloc' ?_ ?_); · first | exact Nat.le_refl _ | (simp; done) | (simp; omega)))⟩
  · have HX := Lib.hid hx
    clear hx
    go_enter Tryd.func32, Tryd.ntmps32
    go_wp2_with (go_at_call 69; refine (refIn_any _ _ _ _).mono ?_; rintro e w' ⟨rfl, rfl⟩; try rw [HX.out])
    go_ret
    exact ⟨by unfold placeB; rw [HX.out]; rfl, by repeat (first | with_reducible exact Frm.refl _ _ _ | with_reducible refine Frm.drewN ?_ | with_reducible refine Frm.drew ?_ | ((with_reducible refine Frm.setCell' ?_ ?_); · first | (left; simp; done) | (right; simp; done) | (right; simp; omega)) | ((with_reducible refine Frm.alloc' ?_ ?_); · first | exact Nat.le_refl _ | (simp; done) | (simp; omega)))⟩

/-- A quotient, rounded up. -/
def ceilZ (n b : Int) : Int := (n + b - 1) / b
theorem ceil_any (n b : Int) (w : World) (h0 : 0 ≤ n) (h1 : n ≤ 4611686018427387904) (b0 : 1 ≤ b) (b1 : b ≤ 1000000000) : Calls Tryd.prog 70 #[.int .i64 n, .int .i64 b] w fun e w' => e = .returned (.int .i64 (ceilZ n b)) ∧ w = w' := by
  go_enter Tryd.func70, Tryd.ntmps70
  go_wp2
  go_ret
  exact ⟨rfl, rfl⟩
theorem refUp_any (n b : Int) (w : World) (h0 : 0 ≤ n) (h1 : n ≤ 4611686018427387904) (b0 : 1 ≤ b) (b1 : b ≤ 1000000000) : Calls Tryd.prog 72 #[.int .i64 n, .int .i64 b] w fun e w' => e = .returned (.int .i64 (ceilZ n b)) ∧ w = w' := by
  go_enter Tryd.func72, Tryd.ntmps72
  go_wp2
  go_ret
  exact ⟨rfl, rfl⟩
end Go.Proofs.YtghkfopcjdkieaaDoor
