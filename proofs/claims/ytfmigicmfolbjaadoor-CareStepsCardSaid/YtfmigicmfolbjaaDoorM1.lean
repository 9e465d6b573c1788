/-
  With one more order what is sound stays sound, and what ends still does: plain.
-/
import Derived.Test.YtfmigicmfolbjaaDoorB20
namespace Go.Proofs.YtfmigicmfolbjaaDoor
set_option linter.all false
set_option linter.unusedSimpArgs false
set_option linter.unusedVariables false

theorem beforeS_bit (n : Nat) (a : Nat → Nat) (i : Nat) : ∀ j, (beforeS n a i).testBit j = (decide (j < n) && (a j).testBit i) := by
  unfold beforeS
  induction n with
  | zero => intro j; simp
  | succ n ih =>
    intro j
    rw [List.range_succ, List.foldl_append]
    simp only [List.foldl_cons, List.foldl_nil]
    by_cases hb : (a n).testBit i = true
    · rw [if_pos hb, Nat.testBit_or, ih, Nat.shiftLeft_eq, Nat.one_mul, Nat.testBit_two_pow]
      rcases Nat.lt_trichotomy j n with h | h | h
      · simp [h, show j < n + 1 by omega, show ¬ n = j by omega]
      · subst h; simp [hb]
      · simp [show ¬ j < n by omega, show ¬ j < n + 1 by omega, show ¬ n = j by omega]
    · rw [if_neg hb, ih]
      have hb : (a n).testBit i = false := by simpa using hb
      rcases Nat.lt_trichotomy j n with h | h | h
      · simp [h, show j < n + 1 by omega]
      · subst h; simp [hb]
      · simp [show ¬ j < n by omega, show ¬ j < n + 1 by omega]
/-- A plan with one more order. -/
def Raw.more (R : Raw) (o : Int × Int) : Raw := ⟨R.starts, R.steps, R.edges ++ [o]⟩
structure Wider (P Q : PL) : Prop where
  n : Q.n = P.n
  start : Q.start = P.start
  need : Q.need = P.need
  add : Q.add = P.add
  ends : Q.ends = P.ends
  after : ∀ i j, i < P.n → (P.after i).testBit j = true → (Q.after i).testBit j = true
  before : ∀ i j, (P.before i).testBit j = true → (Q.before i).testBit j = true
theorem planned_parts {R : Raw} {P : PL} (h : plannedO R = some P) : ∃ st xs a, numL R.starts = some st ∧ stepsO R.steps = some xs ∧ edgesO R.steps.length R.edges = some a ∧ P = ⟨st, R.steps.length, fun i => (xs.getD i (0, 0, 0)).1, fun i => (xs.getD i (0, 0, 0)).2.1, fun i => (xs.getD i (0, 0, 0)).2.2, beforeS R.steps.length (closeK R.steps.length a R.steps.length), closeK R.steps.length a R.steps.length⟩ := by
  unfold plannedO at h
  split at h
  · cases h
  rename_i st hst
  split at h
  · cases h
  split at h
  · cases h
  rename_i xs hxs
  split at h
  · cases h
  rename_i a ha
  split at h
  · cases h
    exact ⟨st, xs, a, hst, hxs, ha, rfl⟩
  · cases h
theorem more_wider {R : Raw} {o : Int × Int} {P Q : PL} (h : plannedO R = some P) (h2 : plannedO (R.more o) = some Q) : Wider P Q := by
  obtain ⟨st, xs, a, e1, e2, e3, rfl⟩ := planned_parts h
  obtain ⟨st', xs', a', f1, f2, f3, rfl⟩ := planned_parts h2
  have f1 : numL R.starts = some st' := f1
  have f2 : stepsO R.steps = some xs' := f2
  rw [e1] at f1
  rw [e2] at f2
  cases f1
  cases f2
  have f3 : (R.edges ++ [o]).foldl (edgeO R.steps.length) (some fun _ => 0) = some a' := f3
  have e3' : R.edges.foldl (edgeO R.steps.length) (some fun _ => 0) = some a := e3
  rw [List.foldl_append, e3'] at f3
  have f3 : edgeO R.steps.length (some a) o = some a' := f3
  have hal := edges_lt R.edges _ a (fun j _ => Nat.pow_pos (by omega)) e3
  have hsub : ∀ i j, (a i).testBit j = true → (a' i).testBit j = true := by
    intro i j hij
    unfold edgeO at f3
    dsimp only at f3
    split at f3
    · cases f3
      unfold upd
      split
      · rename_i e; subst e; rw [Nat.testBit_or, hij]; rfl
      · exact hij
    · cases f3
  have key : ∀ i j, i < R.steps.length → (closeK R.steps.length a R.steps.length i).testBit j = true → (closeK R.steps.length a' R.steps.length i).testBit j = true := by
    intro i j hi hij
    have := closeK_le (n := R.steps.length) (a := a) (T := fun i j => i < R.steps.length ∧ j < R.steps.length ∧ (closeK R.steps.length a' R.steps.length i).testBit j = true)
      (fun i m j h1 h2 => ⟨h1.1, h2.2.1, close_tr h1.1 h1.2.1 h1.2.2 h2.2.2⟩)
      (fun i j hi hij => ⟨hi, (Classical.byContradiction fun hj => by
          have := Nat.testBit_lt_two_pow (Nat.lt_of_lt_of_le (hal i hi) (Nat.pow_le_pow_right (by omega) (Nat.le_of_not_lt hj)))
          rw [hij] at this; cases this), closeK_ge hi (hsub i j hij) _⟩) _ (Nat.le_refl _) i j hi hij
    exact this.2.2
  refine ⟨rfl, rfl, rfl, rfl, rfl, key, fun i j hj => ?_⟩
  show (beforeS R.steps.length (closeK R.steps.length a' R.steps.length) i).testBit j = true
  have hj : (beforeS R.steps.length (closeK R.steps.length a R.steps.length) i).testBit j = true := hj
  rw [beforeS_bit] at hj ⊢
  rw [Bool.and_eq_true, decide_eq_true_eq] at hj ⊢
  exact ⟨hj.1, key j i hj.1 hj.2⟩
theorem Wider.surely {P Q : PL} (h : Wider P Q) {f B M B' M' : Nat} (hB : ∀ j, j < P.n → B.testBit j = true → B'.testBit j = true) (hM : ∀ j, j < P.n → M'.testBit j = true → M.testBit j = true) (hs : surelyB P f B M = true) : surelyB Q f B' M' = true := by
  rw [surelyB_iff] at hs ⊢
  rw [h.n, h.start, h.add, h.ends]
  obtain ⟨h1, h2⟩ := hs
  refine ⟨?_, fun c hc hm ht => ?_⟩
  · rcases h1 with h1 | ⟨d, hd, h3, h4⟩
    · exact .inl h1
    · exact .inr ⟨d, hd, hB d hd h3, h4⟩
  · obtain ⟨d, hd, h3, h4, h5⟩ := h2 c hc (hM c hc hm) ht
    exact ⟨d, hd, h.after c d hc h3, hB d hd h4, h5⟩
theorem Wider.sure {P Q : PL} (h : Wider P Q) (hP : PLOK P) (hQ : PLOK Q) {i f : Nat} (hi : i < P.n) (hs : sureN P i f = true) : sureN Q i f = true := by
  refine h.surely (fun j _ hj => h.before i j hj) (fun j _ hj => ?_) hs
  rw [maybe_bit hQ] at hj
  rw [maybe_bit hP]
  rw [h.n] at hj
  simp only [Bool.and_eq_true, Bool.not_eq_true', decide_eq_true_eq, decide_eq_false_iff_not] at hj ⊢
  refine ⟨⟨hj.1.1, ?_⟩, hj.2⟩
  cases hb : (P.after i).testBit j
  · rfl
  · rw [h.after i j hi hb] at hj
    cases hj.1.2
theorem Wider.end_ {P Q : PL} (h : Wider P Q) {f : Nat} (hs : endsB P f = true) : endsB Q f = true := by
  refine h.surely (fun j hj _ => ?_) (fun j hj _ => ?_) hs
  · rw [all_bit, h.n]; simpa using hj
  · rw [all_bit]; simpa using hj
theorem sound_iff {P : PL} : soundO P = none ↔ ∀ i, i < P.n → ∀ f, f < 16 → (P.need i).testBit f = true → sureN P i f = true := by
  unfold soundO
  rw [List.findSome?_eq_none_iff]
  constructor
  · intro h i hi f hf hb
    have h1 := h i (by simpa using hi)
    rw [Option.map_eq_none_iff] at h1
    unfold badF at h1
    rw [List.find?_eq_none] at h1
    simpa using h1 f (bitsOf_mem.2 ⟨hf, hb⟩)
  · intro h i hi
    rw [Option.map_eq_none_iff]
    unfold badF
    rw [List.find?_eq_none]
    intro f hf
    have h2 := bitsOf_mem.1 hf
    simpa using h i (by simpa using hi) f h2.1 h2.2
theorem Wider.sound {P Q : PL} (h : Wider P Q) (hP : PLOK P) (hQ : PLOK Q) (hs : soundO P = none) : soundO Q = none := by
  rw [sound_iff] at hs ⊢
  intro i hi f hf hb
  rw [h.n] at hi
  rw [h.need] at hb
  exact h.sure hP hQ hi (hs i hi f hf hb)
theorem Wider.endsL {P Q : PL} (h : Wider P Q) {f : Nat} (hf : f ∈ endsL P 16) : f ∈ endsL Q 16 := by
  unfold Go.Proofs.YtfmigicmfolbjaaDoor.endsL at hf ⊢
  rw [List.mem_filter] at hf ⊢
  exact ⟨hf.1, h.end_ hf.2⟩
/-- What the answer of Sound and of Ends says. -/
theorem SoundIs.out {R : Raw} {e : Ending} (h : SoundIs R e) : ∃ x y z : Int, e = .returned (.tuple #[.int .i64 x, .int .i64 y, .int .i64 z]) ∧ (z = 0 ↔ ∃ P, plannedO R = some P ∧ soundO P = none) := by
  unfold SoundIs at h
  split at h
  · rename_i h0
    exact ⟨_, _, _, h, by simp [h0]⟩
  · rename_i P h0
    split at h
    · rename_i h1
      exact ⟨_, _, _, h, by simp [h0, h1]⟩
    · rename_i i f h1
      exact ⟨_, _, _, h, by simp [h0, h1]⟩
theorem EndsIs.out {R : Raw} {w w' : World} {e : Ending} (h : EndsIs R w w' e) : ∃ (v : Value) (z : Int), e = .returned (.tuple #[v, .int .i64 z]) ∧ (z = 0 ↔ (plannedO R).isSome = true) ∧ ∀ P, plannedO R = some P → ∃ own, Sl w' 3 1 v (Go.Proofs.YtfmigicmfolbjaaDoor.endsL P 16).length (intsC (Go.Proofs.YtfmigicmfolbjaaDoor.endsL P 16)) own := by
  unfold EndsIs at h
  split at h
  · rename_i h0
    exact ⟨_, _, h, by simp [h0], fun P hP => by rw [h0] at hP; cases hP⟩
  · rename_i P h0
    obtain ⟨v, own, h1, h2, _⟩ := h
    exact ⟨v, _, h1, by simp [h0], fun P' hP => by rw [h0] at hP; cases hP; exact ⟨own, h2⟩⟩
end Go.Proofs.YtfmigicmfolbjaaDoor
