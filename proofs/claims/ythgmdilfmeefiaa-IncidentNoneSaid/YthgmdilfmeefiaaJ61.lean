/-
  Join by the document: plain.
-/
import Derived.Test.YthgmdilfmeefiaaJ58
namespace Go.Proofs.Ythgmdilfmeefiaa
set_option linter.all false
set_option linter.unusedSimpArgs false
set_option linter.unusedVariables false

def setL (a : Nat) (l : List Nat) (o : List Nat) : List Nat := l.foldl (fun o j => o.set j a) o
theorem setL_len (a : Nat) : ∀ (l o : List Nat), (setL a l o).length = o.length
  | [], o => rfl
  | j :: l, o => by
    show (setL a l (o.set j a)).length = _
    rw [setL_len a l, List.length_set]
theorem setL_get (a : Nat) (i : Nat) : ∀ (l o : List Nat), (setL a l o)[i]? = if i ∈ l then (o[i]?).map (fun _ => a) else o[i]?
  | [], o => by simp [setL]
  | j :: l, o => by
    show (setL a l (o.set j a))[i]? = _
    rw [setL_get a i l, List.getElem?_set]
    by_cases e : j = i
    · subst e
      by_cases hl : j < o.length
      · simp [hl]
      · simp [hl]
    · have e' : ¬ i = j := fun h => e h.symm
      simp only [e, if_false, List.mem_cons, e', false_or]
theorem setL_snoc (a : Nat) (L o : List Nat) {i : Nat} (hi : i < L.length) : setL a (L.take (i + 1)) o = (setL a (L.take i) o).set (L.getD i 0) a := by
  rw [List.take_succ_eq_append_getElem hi]
  unfold setL
  rw [List.foldl_append]
  simp [List.getD_eq_getElem?_getD, List.getElem?_eq_getElem hi]
theorem mem_ofL {s : BS} {i : Int} {j : Nat} : j ∈ ofL s i ↔ j < s.reps.length ∧ (s.o j : Int) = i := by
  unfold ofL
  simp
theorem setL_all (s : BS) (a : Nat) (b : Int) (hlen : s.of.length = s.reps.length) : setL a (ofL s b) s.of = s.of.map (joinF a b) := by
  apply List.ext_getElem?
  intro i
  rw [setL_get, List.getElem?_map]
  by_cases hi : i < s.of.length
  · have ho : s.o i = s.of[i] := by
      unfold BS.o
      simp [List.getD_eq_getElem?_getD, List.getElem?_eq_getElem hi]
    rw [List.getElem?_eq_getElem hi]
    simp only [mem_ofL, ho, Option.map_some, joinF]
    by_cases e : (s.of[i] : Int) = b
    · rw [if_pos ⟨by omega, e⟩, if_pos e]
    · rw [if_neg (fun h => e h.2), if_neg e]
  · rw [List.getElem?_eq_none (by omega)]
    simp
/-- The first i reports of a list are of another incident now. -/
def stT (s : BS) (a : Nat) (L : List Nat) (i : Nat) : BS := { s with of := setL a (L.take i) s.of }
theorem stT_zero (s : BS) (a : Nat) (L : List Nat) : stT s a L 0 = s := by simp [stT, setL]
theorem stT_all (s : BS) (a : Nat) (b : Int) (hlen : s.of.length = s.reps.length) : stT s a (ofL s b) (ofL s b).length = { s with of := s.of.map (joinF a b) } := by
  unfold stT
  rw [List.take_length, setL_all s a b hlen]
theorem stT_of (s : BS) (a : Nat) (L : List Nat) {i : Nat} (hi : i < L.length) : (stT s a L (i + 1)).of = (stT s a L i).of.set (L.getD i 0) a := setL_snoc a L s.of hi
theorem stT_len (s : BS) (a : Nat) (L : List Nat) (i : Nat) : (stT s a L i).of.length = s.of.length := setL_len a _ _
theorem ofL_get {s : BS} {i : Int} {j : Nat} (hj : j < (ofL s i).length) : (ofL s i).getD j 0 < s.reps.length ∧ (s.o ((ofL s i).getD j 0) : Int) = i := by
  have : (ofL s i).getD j 0 ∈ ofL s i := by
    rw [List.getD_eq_getElem?_getD, List.getElem?_eq_getElem hj]
    exact List.getElem_mem hj
  exact mem_ofL.1 this
theorem other_no2 {s : BS} {a b : Int} (h : ∀ j, j < (ofL s a).length → hasI s b (s.rp ((ofL s a).getD j 0)) 2 = false) : otherB s a b = false := by
  refine other_no fun i hi hh => ?_
  obtain ⟨j, hj, e⟩ := List.getElem_of_mem (mem_ofL.2 ⟨hi, hh.1⟩)
  have := h j hj
  rw [List.getD_eq_getElem?_getD, List.getElem?_eq_getElem hj, e] at this
  rw [show ((some i).getD 0 : Nat) = i from rfl, hh.2] at this
  exact absurd this (by simp)
theorem other_yes2 {s : BS} {a b : Int} {j : Nat} (hj : j < (ofL s a).length) (h : hasI s b (s.rp ((ofL s a).getD j 0)) 2 = true) : otherB s a b = true :=
  other_yes (ofL_get hj).1 (ofL_get hj).2 h
theorem of_nat {s : BS} {i : Int} (h : ofL s i ≠ []) (hi : BInv s) : ∃ n : Nat, i = (n : Int) ∧ n < s.opn.length := by
  obtain ⟨j, hj⟩ := List.exists_mem_of_ne_nil _ h
  obtain ⟨h1, h2⟩ := mem_ofL.1 hj
  exact ⟨s.o j, h2.symm, hi.lt j h1⟩
end Go.Proofs.Ythgmdilfmeefiaa
