/-
  All rows of a plan, as the document makes them.
-/
import Derived.Test.YtfmigicmfolbjaaDoorB20
namespace Go.Proofs.YtfmigicmfolbjaaDoor
set_option linter.all false
set_option linter.unusedSimpArgs false
set_option linter.unusedVariables false

/-- Can a step come behind a beginning? -/
def readyB (n : Nat) (A : Nat → Nat → Bool) (row : List Nat) (i : Nat) : Bool := !row.contains i && (List.range n).all fun k => !A k i || row.contains k
def rowsR (n : Nat) (A : Nat → Nat → Bool) : Nat → List Nat → List (List Nat)
  | 0, row => [row]
  | d + 1, row => (List.range n).flatMap fun i => if readyB n A row i = true then rowsR n A d (row ++ [i]) else []
theorem ready_iff {n : Nat} {A : Nat → Nat → Bool} (ho : Ord n A) {row : List Nat} {i : Nat} : readyB n A row i = true ↔ i ∉ row ∧ ∀ k, A k i = true → k ∈ row := by
  unfold readyB
  simp only [Bool.and_eq_true, Bool.not_eq_true', List.all_eq_true, List.mem_range, Bool.or_eq_true]
  constructor
  · rintro ⟨h1, h2⟩
    refine ⟨by simpa using h1, fun k hk => ?_⟩
    rcases h2 k (ho.lt k i hk).1 with h3 | h3
    · rw [hk] at h3; cases h3
    · simpa using h3
  · rintro ⟨h1, h2⟩
    refine ⟨by simpa using h1, fun k hk => ?_⟩
    cases hki : A k i
    · exact .inl rfl
    · exact .inr (by simpa using h2 k hki)
theorem rowsR_mem {n : Nat} {A : Nat → Nat → Bool} (ho : Ord n A) : ∀ (d : Nat) (row : List Nat), Lin n A row → row.length + d = n → ∀ r, r ∈ rowsR n A d row ↔ IsRow n A r ∧ ∃ m, r = row ++ m
  | 0, row, hl, hd, r => by
    unfold rowsR
    constructor
    · intro h
      have : r = row := by simpa using h
      subst this
      exact ⟨⟨hl, by omega⟩, [], by simp⟩
    · rintro ⟨h, m, rfl⟩
      have := h.2
      rw [List.length_append] at this
      have : m = [] := List.length_eq_zero_iff.1 (by omega)
      subst this
      simp
  | d + 1, row, hl, hd, r => by
    unfold rowsR
    rw [List.mem_flatMap]
    constructor
    · rintro ⟨i, hi, h⟩
      have hin : i < n := by simpa using hi
      by_cases hr : readyB n A row i = true
      · rw [if_pos hr] at h
        obtain ⟨h1, h2⟩ := (ready_iff ho).1 hr
        obtain ⟨h3, m, rfl⟩ := (rowsR_mem ho d (row ++ [i]) (.snoc hl hin h1 h2) (by simp; omega) r).1 h
        exact ⟨h3, i :: m, by simp⟩
      · rw [if_neg hr] at h; cases h
    · rintro ⟨h, m, rfl⟩
      match m, h with
      | [], h =>
        have := h.2
        simp at this
        omega
      | i :: m, h =>
        have h0 : Lin n A (row ++ [i] ++ m) := by simpa using h.1
        have h1 := (Lin.pre m h0).inv
        refine ⟨i, by simpa using h1.2.1, ?_⟩
        rw [if_pos ((ready_iff ho).2 h1.2.2)]
        exact (rowsR_mem ho d (row ++ [i]) (Lin.pre m h0) (by simp; omega) _).2 ⟨by simpa using h, m, by simp⟩
theorem rows_all {n : Nat} {A : Nat → Nat → Bool} (ho : Ord n A) (r : List Nat) : r ∈ rowsR n A n [] ↔ IsRow n A r := by
  rw [rowsR_mem ho n [] .nil (by simp)]
  exact ⟨fun h => h.1, fun h => ⟨h, r, by simp⟩⟩
/-- The first row: each time the first step that can come. -/
def firstNext (n : Nat) (A : Nat → Nat → Bool) (row : List Nat) : Option Nat := (List.range n).find? (readyB n A row)
def firstRow (n : Nat) (A : Nat → Nat → Bool) : Nat → List Nat → List Nat
  | 0, row => row
  | d + 1, row => match firstNext n A row with
    | some i => firstRow n A d (row ++ [i])
    | none => row
theorem firstNext_some {n : Nat} {A : Nat → Nat → Bool} (ho : Ord n A) {row : List Nat} (hl : Lin n A row) (hlt : row.length < n) : ∃ i, firstNext n A row = some i ∧ i < n ∧ readyB n A row i = true := by
  obtain ⟨m, hm⟩ := lin_row ho hl
  match m, hm with
  | [], hm =>
    have := hm.2
    simp at this
    omega
  | i :: m, hm =>
    have h0 : Lin n A (row ++ [i] ++ m) := by simpa using hm.1
    have h1 := (Lin.pre m h0).inv
    have hr := (ready_iff ho).2 h1.2.2
    unfold firstNext
    cases hf : (List.range n).find? (readyB n A row) with
    | none =>
      rw [List.find?_eq_none] at hf
      exact absurd hr (hf i (by simpa using h1.2.1))
    | some j => exact ⟨j, rfl, by simpa using List.mem_of_find?_eq_some hf, List.find?_some hf⟩
end Go.Proofs.YtfmigicmfolbjaaDoor
