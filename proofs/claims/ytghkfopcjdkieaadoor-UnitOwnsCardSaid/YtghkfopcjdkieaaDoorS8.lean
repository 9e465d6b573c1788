/-
  The choices come in order: both searches find the same one.
-/
import Derived.Test.YtghkfopcjdkieaaDoorS7
namespace Go.Proofs.YtghkfopcjdkieaaDoor
set_option linter.all false
set_option linter.unusedSimpArgs false
set_option linter.unusedVariables false
open Go.RowKit

theorem lexB_succ (F G : Nat → Int) (i k : Nat) : lexB F G i (k + 1) = if F i = G i then lexB F G (i + 1) k else decide (F i < G i) := rfl
theorem lexB_same {F G : Nat → Int} : ∀ (m i k : Nat), (∀ j, i ≤ j → j < i + m → F j = G j) → lexB F G i (m + k) = lexB F G (i + m) k
  | 0, i, k, _ => by rw [Nat.zero_add, Nat.add_zero]
  | m + 1, i, k, h => by
    rw [show m + 1 + k = (m + k) + 1 by omega]
    rw [lexB_succ, if_pos (h i (Nat.le_refl _) (by omega)), lexB_same m (i + 1) k (fun j h1 h2 => h j (by omega) (by omega)), show i + 1 + m = i + (m + 1) by omega]
/-- What a list begins with. -/
theorem ext_mem {N : Nat} : ∀ (d : Nat) (l c : List Nat), c ∈ ext N d l → c.length = l.length + d ∧ ∀ j, j < l.length → c.getD j 0 = l.getD j 0
  | 0, l, c, h => by
    have : c = l := by simpa [ext] using h
    subst this
    exact ⟨by omega, fun j _ => rfl⟩
  | d + 1, l, c, h => by
    unfold ext at h
    rw [List.mem_flatMap] at h
    obtain ⟨i, hi, h⟩ := h
    split at h
    · cases h
    · have := ext_mem d (l ++ [i]) c h
      refine ⟨by rw [this.1, List.length_append, List.length_cons, List.length_nil]; omega, fun j hj => ?_⟩
      rw [this.2 j (by simp; omega), List.getD_eq_getElem?_getD, List.getD_eq_getElem?_getD, List.getElem?_append_left hj]
theorem ext_next {N d i : Nat} {l c : List Nat} (h : c ∈ ext N d (l ++ [i])) : c.getD l.length 0 = i := by
  rw [(ext_mem d _ c h).2 l.length (by simp), List.getD_eq_getElem?_getD, List.getElem?_append_right (Nat.le_refl _)]
  simp
/-- That a comes no later than b. -/
def Earlier (a b : List Nat) : Prop := a.length = b.length ∧ lexB (at0 b) (at0 a) 0 b.length = false
theorem ext_sorted {N : Nat} : ∀ (d : Nat) (l : List Nat), (ext N d l).Pairwise Earlier
  | 0, l => by simp [ext]
  | d + 1, l => by
    unfold ext
    rw [List.pairwise_flatMap]
    refine ⟨fun i _ => ?_, ?_⟩
    · split
      · exact List.Pairwise.nil
      · exact ext_sorted d _
    · refine List.Pairwise.imp (R := fun i j => i < j) ?_ List.pairwise_lt_range
      intro i j hij a ha b hb
      split at ha
      · cases ha
      · split at hb
        · cases hb
        · have la := ext_mem d _ a ha
          have lb := ext_mem d _ b hb
          have na := ext_next ha
          have nb := ext_next hb
          rw [List.length_append, List.length_cons, List.length_nil] at la lb
          refine ⟨by omega, ?_⟩
          rw [show b.length = l.length + (d + 1) by omega, lexB_same l.length 0 (d + 1) (fun q h1 h2 => ?_), Nat.zero_add]
          · rw [lexB_succ]
            unfold at0
            rw [na, nb, if_neg (by omega)]
            simp
            omega
          · unfold at0
            rw [la.2 q (by simp; omega), lb.2 q (by simp; omega)]
            rw [List.getD_eq_getElem?_getD, List.getD_eq_getElem?_getD, List.getElem?_append_left (by omega), List.getElem?_append_left (by omega)]
theorem same_step {A : Nat → Nat → Int} {s : SC} {c : List Nat} (h : s.found = true → Earlier s.which c) : stepR A s c = takeS A s c := by
  have hb : betterB ⟨c, lateC A c, sumC A c, true⟩ s = takesIt A s c := by
    unfold betterB takesIt
    cases hf : s.found
    · simp
    · have h1 := (h hf).2
      simp only [Bool.not_true, Bool.false_or, Bool.true_eq_false, if_false]
      by_cases h2 : lateC A c = s.late
      · rw [if_pos h2]
        by_cases h3 : sumC A c = s.sum
        · rw [if_pos h3, h1]
          simp [h2, h3]
        · rw [if_neg h3]
          simp [h2]
      · rw [if_neg h2]
        simp [h2]
  unfold stepR takeS
  rw [hb]
theorem same_fold {A : Nat → Nat → Int} : ∀ (L : List (List Nat)) (s : SC), L.Pairwise Earlier → (s.found = true → ∀ c, c ∈ L → Earlier s.which c) → L.foldl (stepR A) s = L.foldl (takeS A) s
  | [], _, _, _ => rfl
  | c :: L, s, hp, hs => by
    rw [List.foldl_cons, List.foldl_cons, same_step (fun hf => hs hf c (by simp))]
    refine same_fold L _ (List.pairwise_cons.1 hp).2 (fun hf x hx => ?_)
    unfold takeS at hf ⊢
    by_cases ht : takesIt A s c = true
    · rw [if_pos ht]
      exact (List.pairwise_cons.1 hp).1 x hx
    · rw [if_neg ht] at hf ⊢
      exact hs hf x (by simp [hx])
/-- BOTH FIND THE SAME. -/
theorem best_same (N : Nat) (U : Nat → UC) (T : Nat → Int) (G : Nat) (Q : Nat → Int × Int) : bestR N U T G Q = bestOf N U T G Q :=
  same_fold _ _ (ext_sorted G []) (fun h => by cases h)
end Go.Proofs.YtghkfopcjdkieaaDoor
