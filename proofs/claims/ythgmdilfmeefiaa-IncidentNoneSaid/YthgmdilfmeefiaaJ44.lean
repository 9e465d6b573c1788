/-
  Silence: plain.
-/
import Derived.Test.YthgmdilfmeefiaaBI
namespace Go.Proofs.Ythgmdilfmeefiaa
set_option linter.all false
set_option linter.unusedSimpArgs false
set_option linter.unusedVariables false
open Go.RowKit

theorem mem_open {s : BS} {i : Nat} : i ∈ openL s ↔ i < s.opn.length ∧ s.opn.getD i false = true := by
  unfold openL
  simp
theorem has_no {l : List Nat} {n : Nat} (h : hasL l (n : Int) = false) : n ∉ l := by
  unfold hasL at h
  rw [List.any_eq_false] at h
  intro hm
  have := h n hm
  simp at this
theorem getD_set (l : List Bool) (j : Nat) (v : Bool) (i : Nat) (hi : i < l.length) : (l.set j v).getD i false = if j = i then v else l.getD i false := by
  rw [List.getD_eq_getElem?_getD, List.getD_eq_getElem?_getD, List.getElem?_set]
  by_cases e : j = i
  · rw [if_pos e, if_pos e, if_pos (by omega)]; rfl
  · rw [if_neg e, if_neg e]
/-- An open incident is closed by Close, which found all settled, or by Join as the second one. -/
theorem silence_ok {s : BS} (x : Act_) {i : Nat} (hi : i ∈ openL s) (hn : hasL (openL (doS s x).1) (i : Int) = false) :
    (x.what = 2 ∧ x.n = (i : Int) ∧ (doS s x).2.2.2 = 0 ∧ missingS s x.n = ([], 0)) ∨ (x.what = 3 ∧ x.m = (i : Int) ∧ (doS s x).2.2.2 = 0) := by
  have hno := has_no hn
  obtain ⟨h1, h2⟩ := mem_open.1 hi
  by_cases e1 : x.what = 1
  · exfalso
    apply hno
    have : (doS s x).1.opn = s.opn := by
      unfold doS
      rw [if_pos e1]
      dsimp only
      unfold proveS
      split
      · rfl
      · split
        · rfl
        · split <;> rfl
    rw [mem_open, this]
    exact ⟨h1, h2⟩
  by_cases e2 : x.what = 2
  · have hd : doS s x = ((closeS s x.n).1, (closeS s x.n).2.1, 0, (closeS s x.n).2.2) := by unfold doS; rw [if_neg e1, if_pos e2]
    rw [hd] at hno ⊢
    dsimp only at hno ⊢
    left
    unfold closeS at hno ⊢
    split at hno
    · exact absurd hi hno
    · rename_i ht
      split at hno
      · exact absurd hi hno
      · rename_i ho
        rw [if_neg ht, if_neg ho]
        have ht' : thereB s x.n = true := by simpa using ht
        split at hno
        · exact absurd hi hno
        · rename_i hm
          have hl : x.n.toNat = i := by
            rcases Decidable.em (x.n.toNat = i) with e | e
            · exact e
            · exfalso
              apply hno
              rw [mem_open]
              refine ⟨by simpa using h1, ?_⟩
              rw [getD_set _ _ _ _ h1, if_neg e]
              exact h2
          have := inB_iff.1 ht'
          refine ⟨e2, by omega, ?_, ?_⟩
          · rfl
          · unfold missingS
            rw [if_pos ht', hm]
  by_cases e3 : x.what = 3
  · have hd : doS s x = ((joinS s x.n x.m).1, 0, 0, (joinS s x.n x.m).2) := by unfold doS; rw [if_neg e1, if_neg e2, if_pos e3]
    rw [hd] at hno ⊢
    dsimp only at hno ⊢
    right
    unfold joinS at hno ⊢
    split at hno
    · exact absurd hi hno
    · rename_i hne
      split at hno
      · exact absurd hi hno
      · rename_i hab
        split at hno
        · exact absurd hi hno
        · rename_i hot
          rw [if_neg hne, if_neg hab, if_neg hot]
          have hm : x.m.toNat = i := by
            rcases Decidable.em (x.m.toNat = i) with e | e
            · exact e
            · exfalso
              apply hno
              unfold joinedS
              rw [mem_open]
              refine ⟨by simpa using h1, ?_⟩
              dsimp only
              rw [getD_set _ _ _ _ (by simpa using h1), if_neg e, getD_set _ _ _ _ h1]
              split
              · rfl
              · exact h2
          have hmem : ofL s x.m ≠ [] := fun e => hne (.inr e)
          obtain ⟨j, hj⟩ := List.exists_mem_of_ne_nil _ hmem
          obtain ⟨_, h4⟩ := of_mem.1 hj
          exact ⟨e3, by omega, rfl⟩
  · exfalso
    have hd : doS s x = tookS s x.r := by unfold doS; rw [if_neg e1, if_neg e2, if_neg e3]
    rw [hd] at hno
    apply hno
    unfold tookS
    split
    · exact hi
    · split
      · exact hi
      · dsimp only
        rw [mem_open]
        unfold takenS
        dsimp only
        by_cases e : (placeS s x.r).1 = s.opn.length
        · rw [if_pos e]
          refine ⟨by simp; omega, ?_⟩
          rw [getD_set _ _ _ _ (by simp; omega), if_neg (by omega)]
          rw [List.getD_eq_getElem?_getD, List.getElem?_append_left h1, ← List.getD_eq_getElem?_getD]
          exact h2
        · rw [if_neg e]
          refine ⟨by simpa using h1, ?_⟩
          rw [getD_set _ _ _ _ h1]
          split
          · rfl
          · exact h2
theorem Turn.ints {w0 w w' : World} {k : Nat} {s s' : BS} {m m' : Mem} (ht : Turn k w w' s s' m m') {v : Value} {l : List Nat} (h : Ints w0 w v l) (ho : ∀ b ∈ m.own k s, b < w0.heap.size) : Ints w0 w' v l := by
  obtain ⟨own, hs, hg⟩ := h
  exact ⟨own, hs.frm ht.frm hs.lt (fun b hb hm => by have := hg b hb; have := ho b hm; omega), hg⟩
theorem open_len {s : BS} (h : BInv s) : (openL s).length ≤ 500 := by
  unfold openL
  have h1 := List.length_filter_le (fun i => s.opn.getD i false) (List.range s.opn.length)
  have h2 := h.opn
  have h3 := h.max.1
  simp only [List.length_range] at h1
  omega
end Go.Proofs.Ythgmdilfmeefiaa
