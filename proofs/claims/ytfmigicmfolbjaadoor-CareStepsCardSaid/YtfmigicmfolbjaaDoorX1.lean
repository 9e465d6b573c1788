/-
  All rows of a plan, by the document.
-/
import Derived.Test.YtfmigicmfolbjaaDoorN3
namespace Go.Proofs.YtfmigicmfolbjaaDoor
set_option linter.all false
set_option linter.unusedSimpArgs false
set_option linter.unusedVariables false
open Go.RowKit Go.Shelf

theorem rowsR_len (n : Nat) (A : Nat → Nat → Bool) : ∀ (d : Nat) (row : List Nat), (rowsR n A d row).length ≤ n ^ d
  | 0, row => by simp [rowsR]
  | d + 1, row => by
    have key : ∀ m, ((List.range m).flatMap fun i => if readyB n A row i = true then rowsR n A d (row ++ [i]) else []).length ≤ m * n ^ d := fun m => by
      induction m with
      | zero => simp
      | succ m ih =>
        rw [List.range_succ, List.flatMap_append, List.length_append, Nat.add_mul, Nat.one_mul]
        refine Nat.add_le_add ih ?_
        simp only [List.flatMap_cons, List.flatMap_nil, List.append_nil]
        split
        · exact rowsR_len n A d _
        · exact Nat.zero_le _
    rw [rowsR, Nat.pow_succ, Nat.mul_comm]
    exact key n
/-- The rows that go on with one of the first i steps. -/
def rowsP (n : Nat) (A : Nat → Nat → Bool) (d : Nat) (row : List Nat) (i : Nat) : List (List Nat) := (List.range i).flatMap fun i => if readyB n A row i = true then rowsR n A d (row ++ [i]) else []
theorem rowsP_zero (n : Nat) (A : Nat → Nat → Bool) (d : Nat) (row : List Nat) : rowsP n A d row 0 = [] := rfl
theorem rowsP_succ (n : Nat) (A : Nat → Nat → Bool) (d : Nat) (row : List Nat) (i : Nat) : rowsP n A d row (i + 1) = rowsP n A d row i ++ (if readyB n A row i = true then rowsR n A d (row ++ [i]) else []) := by
  unfold rowsP
  rw [List.range_succ, List.flatMap_append]
  simp
theorem rowsP_all (n : Nat) (A : Nat → Nat → Bool) (d : Nat) (row : List Nat) : rowsP n A d row n = rowsR n A (d + 1) row := rfl
theorem rowsP_len (n : Nat) (A : Nat → Nat → Bool) (d : Nat) (row : List Nat) : ∀ i, (rowsP n A d row i).length ≤ i * n ^ d
  | 0 => by simp [rowsP]
  | i + 1 => by
    have ih := rowsP_len n A d row i
    rw [rowsP_succ, List.length_append, Nat.add_mul, Nat.one_mul]
    refine Nat.add_le_add ih ?_
    split
    · exact rowsR_len n A d _
    · exact Nat.zero_le _
/-- Lists of numbers in memory, each in a block that is not the outer one's. -/
def RowsAt (w : World) (v : Value) (rs : List (List Nat)) (own : Option Nat) : Prop := ∃ cs : List Value, Sl w 26 1 v rs.length cs own ∧
  ∀ k, k < rs.length → ∃ ad b off cap, cs[k]? = some (.slice ad (rs.getD k []).length cap) ∧ RwI w ad b off (rs.getD k []).length (at0 (rs.getD k [])) ∧ (0 < (rs.getD k []).length → own ≠ some b)
theorem RowsAt.frm {w w' : World} {v : Value} {rs : List (List Nat)} {own : Option Nat} {N : Nat} (h : RowsAt w v rs own) (hf : Frm N [] w w') (hN : w.heap.size ≤ N) : RowsAt w' v rs own := by
  obtain ⟨cs, h1, h2⟩ := h
  refine ⟨cs, h1.frm hf (fun b hb => Nat.lt_of_lt_of_le (h1.lt b hb) hN) (by simp), fun k hk => ?_⟩
  obtain ⟨ad, b, off, cap, e1, e2, e3⟩ := h2 k hk
  exact ⟨ad, b, off, cap, e1, e2.frm hf hN, e3⟩
theorem RowsAt.lt {w : World} {v : Value} {rs : List (List Nat)} {own : Option Nat} (h : RowsAt w v rs own) : ∀ b, own = some b → b < w.heap.size := by
  obtain ⟨cs, h1, _⟩ := h
  exact h1.lt
theorem RowsAt.form {w : World} {v : Value} {rs : List (List Nat)} {own : Option Nat} (h : RowsAt w v rs own) : ∃ ad cap, v = .slice ad rs.length cap := by
  obtain ⟨cs, h1, _⟩ := h
  exact h1.form
theorem rwI_nil (w : World) (ad : Option Addr) (b off : Nat) (F : Nat → Int) : RwI w ad b off 0 F := ⟨fun h => absurd h (by omega), Nat.zero_le _, fun i hi => absurd hi (by omega)⟩
theorem RwI.block {w : World} {ad : Option Addr} {b off n : Nat} {F : Nat → Int} (h : RwI w ad b off n F) (hn : 0 < n) : b < w.heap.size := by
  have := Rw.cellI h hn
  exact cell_lt this
theorem info26 : (Tryd.prog.info? 26).map (fun i => (i.zero, i.size, i.bytes)) = some (some (.slice none 0 0), 1, 24) := by kernel_rfl
theorem flat_at0 (l : List Nat) : (List.range l.length).flatMap (fun i => [Value.int .i64 (at0 l i)]) = intsC l := by
  rw [← List.map_eq_flatMap]
  unfold intsC
  apply List.ext_getElem
  · simp
  · intro i h1 h2
    have hi : i < l.length := by simpa using h2
    simp [at0, List.getD_eq_getElem?_getD, hi]
theorem RowsAt.snoc {w w' : World} {v' : Value} {rs : List (List Nat)} {own own' : Option Nat} {row : List Nat} {ad : Option Addr} {b off cap : Nat} {cs : List Value} (h2 : ∀ k, k < rs.length → ∃ ad b off cap, cs[k]? = some (.slice ad (rs.getD k []).length cap) ∧ RwI w ad b off (rs.getD k []).length (at0 (rs.getD k [])) ∧ (0 < (rs.getD k []).length → own ≠ some b))
    (hl : cs.length = rs.length) (hr : RwI w ad b off row.length (at0 row)) (hb : 0 < row.length → own ≠ some b) (hf : Frm w.heap.size own.toList w w') (ho : own' = own ∨ ∃ g, own' = some g ∧ w.heap.size ≤ g)
    (hs : Sl w' 26 1 v' (rs.length + 1) (cs ++ [.slice ad row.length cap]) own') : RowsAt w' v' (rs ++ [row]) own' := by
  have hne : ∀ (n x : Nat) (a : Option Addr) (o : Nat) (F : Nat → Int), RwI w a x o n F → 0 < n → own ≠ some x → own' ≠ some x := fun n x a o F hrx hn hx => by
    rcases ho with e | ⟨g, e, hg⟩
    · rw [e]; exact hx
    · rw [e]
      intro e2
      cases e2
      have := hrx.block hn
      omega
  have hkeep : ∀ (n x : Nat) (a : Option Addr) (o : Nat) (F : Nat → Int), RwI w a x o n F → (0 < n → own ≠ some x) → RwI w' a x o n F := fun n x a o F hrx hx => by
    rcases Nat.eq_zero_or_pos n with e | e
    · subst e; exact rwI_nil _ _ _ _ _
    · exact Rw.frmS hrx hf (fun hm => hx e (by simpa using hm))
  refine ⟨cs ++ [.slice ad row.length cap], by rw [List.length_append]; exact hs, fun k hk => ?_⟩
  rw [List.length_append] at hk
  by_cases hk2 : k < rs.length
  · obtain ⟨a, x, o, c, e1, e2, e3⟩ := h2 k hk2
    have eg : (rs ++ [row]).getD k [] = rs.getD k [] := by simp [List.getD_eq_getElem?_getD, List.getElem?_append_left hk2]
    rw [eg]
    refine ⟨a, x, o, c, ?_, hkeep _ _ _ _ _ e2 e3, fun hn => hne _ _ _ _ _ e2 hn (e3 hn)⟩
    rw [List.getElem?_append_left (by rw [hl]; exact hk2)]
    exact e1
  · obtain rfl : k = rs.length := by simp at hk; omega
    have eg : (rs ++ [row]).getD rs.length [] = row := by simp [List.getD_eq_getElem?_getD]
    rw [eg]
    refine ⟨ad, b, off, cap, ?_, hkeep _ _ _ _ _ hr hb, fun hn => hne _ _ _ _ _ hr hn (hb hn)⟩
    rw [← hl]
    simp
/-- All rows that go on from one. -/
def RowsIs (rs : List (List Nat)) (own : Option Nat) (w w' : World) (e : Ending) : Prop := ∃ v' own', e = .returned v' ∧ RowsAt w' v' rs own' ∧ Frm w.heap.size own.toList w w' ∧ (own' = own ∨ ∃ g, own' = some g ∧ w.heap.size ≤ g)
theorem rowsIs {rs : List (List Nat)} {own : Option Nat} {w w' : World} {v' : Value} (own' : Option Nat) (h1 : RowsAt w' v' rs own') (h2 : Frm w.heap.size own.toList w w') (h3 : own' = own ∨ ∃ g, own' = some g ∧ w.heap.size ≤ g) : RowsIs rs own w w' (.returned v') := ⟨v', own', rfl, h1, h2, h3⟩
end Go.Proofs.YtfmigicmfolbjaaDoor
