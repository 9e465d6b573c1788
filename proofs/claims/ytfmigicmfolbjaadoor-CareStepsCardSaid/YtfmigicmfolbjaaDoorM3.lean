/-
  What the program says of needs and ends, by all rows: plain.
-/
import Derived.Test.YtfmigicmfolbjaaDoorM1
namespace Go.Proofs.YtfmigicmfolbjaaDoor
set_option linter.all false
set_option linter.unusedSimpArgs false
set_option linter.unusedVariables false

theorem surelyP_congr {n : Nat} {A A' : Nat → Nat → Bool} {st : Bool} {adds takes B B' M M' : Nat → Bool} (hA : ∀ c d, c < n → A c d = A' c d) (hB : ∀ d, d < n → B d = B' d) (hM : ∀ d, d < n → M d = M' d) (h : surelyP n A st adds takes B M) : surelyP n A' st adds takes B' M' := by
  obtain ⟨h1, h2⟩ := h
  refine ⟨?_, fun c hc hm ht => ?_⟩
  · rcases h1 with h1 | ⟨d, hd, h3, h4⟩
    · exact .inl h1
    · exact .inr ⟨d, hd, by rw [← hB d hd]; exact h3, h4⟩
  · obtain ⟨d, hd, h3, h4, h5⟩ := h2 c hc (by rw [hM c hc]; exact hm) ht
    exact ⟨d, hd, by rw [← hA c d hc]; exact h3, by rw [← hB d hd]; exact h4, h5⟩
theorem planned_before {R : Raw} {P : PL} (h : plannedO R = some P) (i d : Nat) (hd : d < P.n) : (P.before i).testBit d = P.behind d i := by
  obtain ⟨st, xs, a, _, _, _, rfl⟩ := planned_parts h
  show (beforeS R.steps.length _ i).testBit d = _
  rw [beforeS_bit]
  rfl
theorem planned_apart {R : Raw} {P : PL} (h : plannedO R = some P) (f d : Nat) (hd : d < P.n) (ht : (P.ends d).testBit f = true) : (P.add d).testBit f = false := by
  obtain ⟨st, xs, a, _, h2, _, rfl⟩ := planned_parts h
  have hx := stepsO_all h2
  have hd : d < R.steps.length := hd
  have hm : xs.getD d (0, 0, 0) ∈ xs := by
    have : d < xs.length := by omega
    simp [List.getD_eq_getElem?_getD, this]
  have h0 := (hx.2 _ hm).2.2.2
  have ht : (xs.getD d (0, 0, 0)).2.2.testBit f = true := ht
  show (xs.getD d (0, 0, 0)).2.1.testBit f = false
  have h1 : ((xs.getD d (0, 0, 0)).2.1 &&& (xs.getD d (0, 0, 0)).2.2).testBit f = false := by rw [h0]; simp
  rw [Nat.testBit_and, ht, Bool.and_true] at h1
  exact h1
/-- Whether a fact holds behind a row's beginning. -/
def PL.holds (P : PL) (f : Nat) (l : List Nat) : Bool := holdsF (P.start.testBit f) (fun d => (P.add d).testBit f) (fun d => (P.ends d).testBit f) l
theorem sure_rows {R : Raw} {P : PL} (h : plannedO R = some P) {i f : Nat} (hi : i < P.n) : sureN P i f = true ↔ ∀ r, IsRow P.n P.behind r → P.holds f (beforeI i r) = true := by
  have ho := planned_ord h
  have hk := planned_ok h
  have hb : ∀ c d, c < P.n → (P.after c).testBit d = P.behind c d := fun c d hc => by unfold PL.behind; simp [hc]
  refine Iff.trans ?_ (need_iff ho (fun d hd ht => planned_apart h f d hd ht) hi).symm
  unfold sureN
  rw [surelyB_iff]
  constructor
  · intro hs
    refine surelyP_congr (fun c d hc => hb c d hc) (fun d hd => planned_before h i d hd) (fun d hd => ?_) hs
    rw [maybe_bit hk, hb i d hi]
    simp [hd]
  · intro hs
    refine surelyP_congr (fun c d hc => (hb c d hc).symm) (fun d hd => (planned_before h i d hd).symm) (fun d hd => ?_) hs
    rw [maybe_bit hk, hb i d hi]
    simp [hd]
theorem ends_rows {R : Raw} {P : PL} (h : plannedO R = some P) {f : Nat} : endsB P f = true ↔ ∀ r, IsRow P.n P.behind r → P.holds f r = true := by
  have ho := planned_ord h
  have hb : ∀ c d, c < P.n → (P.after c).testBit d = P.behind c d := fun c d hc => by unfold PL.behind; simp [hc]
  refine Iff.trans ?_ (end_iff ho (fun d hd ht => planned_apart h f d hd ht)).symm
  unfold endsB
  rw [surelyB_iff]
  constructor
  · intro hs
    refine surelyP_congr (fun c d hc => hb c d hc) (fun d hd => ?_) (fun d hd => ?_) hs <;> rw [all_bit] <;> simp [hd]
  · intro hs
    refine surelyP_congr (fun c d hc => (hb c d hc).symm) (fun d hd => ?_) (fun d hd => ?_) hs <;> rw [all_bit] <;> simp [hd]
/-- One step more of a row. -/
theorem holds_snoc (P : PL) (f : Nat) (l : List Nat) (d : Nat) : P.holds f (l ++ [d]) = ((P.add d).testBit f || (P.holds f l && !(P.ends d).testBit f)) := holdsF_snoc _ _ _ _ _
/-- What is given of step d, and its sets. -/
theorem planned_step {R : Raw} {P : PL} (h : plannedO R = some P) {d : Nat} (hd : d < R.steps.length) : numL (R.steps.getD d rs0).need = some (P.need d) ∧ numL (R.steps.getD d rs0).add = some (P.add d) ∧ numL (R.steps.getD d rs0).ends = some (P.ends d) := by
  obtain ⟨st, xs, a, _, h2, _, rfl⟩ := planned_parts h
  have key : ∀ (rs : List RS) (xs : List (Nat × Nat × Nat)) (d : Nat), stepsO rs = some xs → d < rs.length → stepO (rs.getD d rs0) = some (xs.getD d (0, 0, 0)) := by
    intro rs
    induction rs with
    | nil => intro xs d _ h; simp at h
    | cons r rs ih =>
      intro xs d hx hd
      unfold stepsO at hx
      split at hx
      · rename_i x ys e1 e2
        cases hx
        cases d with
        | zero => exact e1
        | succ d => exact ih ys d e2 (by simpa using hd)
      · cases hx
  have h3 := key _ _ d h2 hd
  unfold stepO at h3
  split at h3
  · rename_i a b c e1 e2 e3
    split at h3
    · have h3 := Option.some.inj h3
      refine ⟨?_, ?_, ?_⟩
      · rw [e1]; show some a = some (xs.getD d (0, 0, 0)).1; rw [← h3]
      · rw [e2]; show some b = some (xs.getD d (0, 0, 0)).2.1; rw [← h3]
      · rw [e3]; show some c = some (xs.getD d (0, 0, 0)).2.2; rw [← h3]
    · cases h3
  · cases h3
theorem planned_len {R : Raw} {P : PL} (h : plannedO R = some P) : P.n = R.steps.length := by
  obtain ⟨st, xs, a, _, _, _, rfl⟩ := planned_parts h
  rfl
theorem planned_start {R : Raw} {P : PL} (h : plannedO R = some P) : numL R.starts = some P.start := by
  obtain ⟨st, xs, a, h1, _, _, rfl⟩ := planned_parts h
  exact h1
theorem planned_edges {R : Raw} {P : PL} (h : plannedO R = some P) : ∃ a, edgesO R.steps.length R.edges = some a ∧ P.after = closeK R.steps.length a R.steps.length := by
  obtain ⟨st, xs, a, _, _, h3, rfl⟩ := planned_parts h
  exact ⟨a, h3, rfl⟩
theorem planned_n12 {R : Raw} {P : PL} (h : plannedO R = some P) : R.steps.length ≤ 12 := by
  have := (planned_ok h).n
  rw [planned_len h] at this
  exact this
end Go.Proofs.YtfmigicmfolbjaaDoor
