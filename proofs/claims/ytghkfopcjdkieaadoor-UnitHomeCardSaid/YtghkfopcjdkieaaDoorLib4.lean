/-
  A REGION THAT DRAWS ITS ORDER, walked operation by operation in an order of one's own: what yields under a condition S on the world is taken first, where that is allowed; of what changes the world every order that may come is walked.
-/
import Derived.Test.YtghkfopcjdkieaaDoorLib3
namespace Go.Proofs.YtghkfopcjdkieaaDoor
set_option linter.all false
set_option linter.unusedSimpArgs false
set_option linter.unusedVariables false
open Go.RowKit

section
variable {P : Program} {ops : Array Oper} {Q : Exit → Act → World → Prop} {S : World → Prop} {t : Nat}

/-- Whatever order comes; S holds behind each operation but that of number t. -/
def wpAnyT (P : Program) (ops : Array Oper) (Q : Exit → Act → World → Prop) (S : World → Prop) (t : Nat) : Nat → Array Bool → Act → World → Prop
  | 0, listed, a, w => Region.ready .any ops listed = [] ∧ Q .normal a w
  | n + 1, listed, a, w =>
    (Region.ready .any ops listed = [] → Q .normal a w) ∧
    ∀ i ∈ Region.ready .any ops listed, wpOp P ops Q i (fun a' w' => (i ≠ t → S w') ∧ wpAnyT P ops Q S t n (listed.setIfInBounds i true) a' w') a w

theorem wpAny_ofT : ∀ (n : Nat) (listed : Array Bool) (a : Act) (w : World), wpAnyT P ops Q S t n listed a w → wpAny P .any ops Q n listed a w
  | 0, _, _, _, h => h
  | n + 1, _, _, _, h => ⟨h.1, fun i hi => wpOp_mono (fun a' w' h' => wpAny_ofT n _ a' w' h'.2) (h.2 i hi)⟩

/-- Does operation t wait for i? -/
def waitsB (ops : Array Oper) (t i : Nat) : Bool := (ops[t]?.map fun o => o.after.any fun e => Region.binds .any e && e.on == i).getD true

theorem wpAnyT_first {i : Nat} {x : Oper} {v : Value} (hi : ops[i]? = some x) (ht : waitsB ops t i = true) (hsel : Region.noSelect ops = true) (hQ : ∀ c a w, Q (.panic c) (a.put x.dst v) w → Q (.panic c) a w) :
    ∀ (n : Nat) (listed : Array Bool) (a : Act) (w : World),
      (∀ j y, ops[j]? = some y → j ≠ i → listed.getD j true = false → (∀ e ∈ y.after, Region.binds .any e = true → e.on ≠ i) → x.apart ops y = true) →
      i ∈ Region.ready .any ops listed → YieldsIf P ops S x v a → S w → wpAnyT P ops Q S t n (listed.setIfInBounds i true) (a.put x.dst v) w → wpAnyT P ops Q S t (n + 1) listed a w := by
  intro n
  induction n with
  | zero =>
    intro listed a w _ hr hy hS H
    refine ⟨fun h0 => (by rw [h0] at hr; cases hr), fun j hj => ?_⟩
    by_cases e : j = i
    · subst e; exact hy.wpOp hi hS ⟨fun _ => hS, H⟩
    · have h1 := ready_mono hj e
      rw [H.1] at h1
      cases h1
  | succ n ih =>
    intro listed a w hfree hr hy hS H
    refine ⟨fun h0 => (by rw [h0] at hr; cases hr), fun j hj => ?_⟩
    by_cases e : j = i
    · subst e; exact hy.wpOp hi hS ⟨fun _ => hS, H⟩
    · obtain ⟨hun, y, hy0, hall⟩ := mem_ready.1 hj
      have away : ∀ e ∈ y.after, Region.binds .any e = true → e.on ≠ i := fun e' he hb heq => by
        have h1 := hall e' he hb
        rw [heq, getD_both (mem_ready.1 hr).1] at h1
        cases h1
      have hjt : j ≠ t := by
        rintro rfl
        unfold waitsB at ht
        rw [hy0] at ht
        obtain ⟨e', he, hb⟩ := Array.any_eq_true'.1 (show (y.after.any fun e => Region.binds .any e && e.on == i) = true from ht)
        simp only [Bool.and_eq_true, beq_iff_eq] at hb
        exact away e' he hb.1 hb.2
      have step := wpOp_putIf hy0 (hfree j y hy0 e hun away) (fun cs b => Region.noSelect_spec hsel i x cs b hi) (fun cs b => Region.noSelect_spec hsel j y cs b hy0) hQ hy (H.2 j (ready_mono hj e))
      refine wpOp_mono (fun a' w' h3 => ⟨fun _ => h3.2.1 hjt, ih (listed.setIfInBounds j true) a' w' (fun k z hz hki hk hno => ?_) (ready_mono hr (Ne.symm e)) h3.1 (h3.2.1 hjt) ?_⟩) step
      · refine hfree k z hz hki ?_ hno
        by_cases hjk : j = k
        · subst hjk; exact hun
        · rwa [getD_set_ne true hjk] at hk
      · rw [Array.setIfInBounds_comm _ _ e]
        exact h3.2.2
end

section
variable {P : Program}

/-- (A goal at which the walk stays.) -/
structure Stay (p : Prop) : Prop where
  out : p
theorem stay {p : Prop} (h : Stay (id p)) : p := h.out
theorem go_on {p : Prop} (h : p) : Stay (id p) := ⟨h⟩

def doneOf (l : List Oper) (done : List Nat) : Array Bool := done.foldl (fun arr i => arr.setIfInBounds i true) (Array.replicate l.toArray.size false)
theorem doneOf_snoc (l : List Oper) (done : List Nat) (i : Nat) : doneOf l (done ++ [i]) = (doneOf l done).setIfInBounds i true := by simp [doneOf, List.foldl_append]

/-- What is left when those of 'done' have been carried out. -/
def LeftL (P : Program) (l : List Oper) (Q : Exit → Act → World → Prop) (S : World → Prop) (t : Nat) (done : List Nat) (a : Act) (w : World) : Prop :=
  wpAnyT P l.toArray Q S t (l.length - done.length) (doneOf l done) a w

theorem wp_region_leftL {id : Nat} {Q : Exit → Act → World → Prop} {a : Act} {w : World} {l : List Oper} (S : World → Prop) (t : Nat) (hm : P.follows .mixedOrders = true) (h : LeftL P l Q S t [] a w.drew) : (Code.region id l.toArray true).wp P Q a w :=
  wp_region_any hm (wpAny_ofT _ _ _ _ (by simpa [LeftL, doneOf] using h))

/-- What the kernel is asked when operation i is taken first. -/
def takeC (l : List Oper) (t : Nat) (done : List Nat) (i : Nat) : Bool :=
  waitsB l.toArray t i && Region.noSelect l.toArray && decide (done.length < l.length) && Region.free .any l.toArray (doneOf l done) i && (Region.ready .any l.toArray (doneOf l done)).contains i

theorem LeftL.take {l : List Oper} {Q : Exit → Act → World → Prop} {S : World → Prop} {t : Nat} {done : List Nat} {a : Act} {w : World} (i : Nat) {o : Oper} {v : Value} (ho : l[i]? = some o) (hB : takeC l t done i = true)
    (hQ : ∀ c a d v w, Q (.panic c) (a.put d v) w → Q (.panic c) a w) (hy : YieldsIf P l.toArray S o v a) (hS : S w)
    (h : ∀ K' : Act → Prop, (∀ a, LeftL P l Q S t (done ++ [i]) a w → K' a) → K' (a.put o.dst v)) : LeftL P l Q S t done a w := by
  simp only [takeC, Bool.and_eq_true, decide_eq_true_eq] at hB
  obtain ⟨⟨⟨⟨hw, hs⟩, hn⟩, hf⟩, hr⟩ := hB
  unfold LeftL
  rw [show l.length - done.length = (l.length - (done ++ [i]).length) + 1 by simp; omega]
  have ho' : l.toArray[i]? = some o := by simpa using ho
  refine wpAnyT_first ho' hw hs (fun c a w => hQ c a _ _ w) _ _ _ _ (Region.free_spec ho' hf) (by simpa using hr) hy hS ?_
  rw [← doneOf_snoc]
  exact h _ (fun _ h => h)

theorem LeftL.run {l : List Oper} {Q : Exit → Act → World → Prop} {S : World → Prop} {t : Nat} {done : List Nat} {a : Act} {w : World} (i : Nat) {o : Oper} {v : Value} (ho : l[i]? = some o) (hB : takeC l t done i = true) (hg : o.guard = none)
    (hQ : ∀ c a d v w, Q (.panic c) (a.put d v) w → Q (.panic c) a w) (hy : ∀ w, S w → (execOp a.eval o).run P w = .ok (.value v) w) (hS : S w)
    (h : ∀ K' : Act → Prop, (∀ a, LeftL P l Q S t (done ++ [i]) a w → K' a) → K' (a.put o.dst v)) : LeftL P l Q S t done a w :=
  LeftL.take i ho hB hQ (.inl ⟨by simp [Region.wanted, hg], hy⟩) hS h

/-- One operation, in the plain list's form: what follows it. -/
theorem LeftL.op {l : List Oper} {Q : Exit → Act → World → Prop} {S : World → Prop} {t : Nat} {done : List Nat} {a : Act} {w : World} {i : Nat} {o : Oper} (ho : l[i]? = some o) (hn : done.length < l.length)
    (h : wpList P l.toArray (Exit.then (fun a' w' => (i ≠ t → S w') ∧ LeftL P l Q S t (done ++ [i]) a' w') Q) [o] a w) :
    wpOp P l.toArray Q i (fun a' w' => (i ≠ t → S w') ∧ wpAnyT P l.toArray Q S t (l.length - (done.length + 1)) ((doneOf l done).setIfInBounds i true) a' w') a w := by
  have e : ∀ a' w', LeftL P l Q S t (done ++ [i]) a' w' ↔ wpAnyT P l.toArray Q S t (l.length - (done.length + 1)) ((doneOf l done).setIfInBounds i true) a' w' := fun a' w' => by
    unfold LeftL
    rw [doneOf_snoc, List.length_append]
    exact Iff.rfl
  simp only [e] at h
  have h0 : l.toArray[i]? = some o := by simpa using ho
  unfold wpOp
  simp only [h0]
  unfold wpList at h
  split
  · rename_i hw
    simp only [hw, if_true] at h
    rcases h with h | ⟨h1, a₀, w₀, h2⟩
    · left
      unfold Oper.wp at h ⊢
      generalize (execOp a.eval o).run P w = r at *
      cases r with
      | ok x w' =>
        cases x <;> simp only [Oper.upon] at h ⊢ <;> first | exact h | exact h.mono (fun e w'' he => by cases e <;> exact he)
      | halt x w' => cases x <;> simp only [Oper.upon] at h ⊢ <;> exact h
    · exact .inr ⟨h1, a₀, w₀, h2⟩
  · rename_i hw
    simp only [hw, if_false, Bool.false_eq_true] at h
    exact h

/-- ONE OPERATION for which all others wait. -/
theorem LeftL.one {l : List Oper} {Q : Exit → Act → World → Prop} {S : World → Prop} {t : Nat} {done : List Nat} {a : Act} {w : World} (i : Nat) {o : Oper} (ho : l[i]? = some o) (hB : (decide (done.length < l.length) && decide (Region.ready .any l.toArray (doneOf l done) = [i])) = true)
    (h : wpList P l.toArray (Exit.then (fun a' w' => (i ≠ t → S w') ∧ LeftL P l Q S t (done ++ [i]) a' w') Q) [o] a w) : LeftL P l Q S t done a w := by
  simp only [Bool.and_eq_true, decide_eq_true_eq] at hB
  unfold LeftL
  rw [show l.length - done.length = (l.length - (done.length + 1)) + 1 by omega]
  refine ⟨fun h0 => (by rw [hB.2] at h0; cases h0), fun j hj => ?_⟩
  rw [hB.2] at hj
  obtain rfl : j = i := by simpa using hj
  exact LeftL.op ho hB.1 h
/-- TWO OPERATIONS, either of which may come. -/
theorem LeftL.two {l : List Oper} {Q : Exit → Act → World → Prop} {S : World → Prop} {t : Nat} {done : List Nat} {a : Act} {w : World} (i i' : Nat) {o o' : Oper} (ho : l[i]? = some o) (ho' : l[i']? = some o') (hB : (decide (done.length < l.length) && decide (Region.ready .any l.toArray (doneOf l done) = [i, i'])) = true)
    (h : wpList P l.toArray (Exit.then (fun a' w' => (i ≠ t → S w') ∧ LeftL P l Q S t (done ++ [i]) a' w') Q) [o] a w)
    (h' : wpList P l.toArray (Exit.then (fun a' w' => (i' ≠ t → S w') ∧ LeftL P l Q S t (done ++ [i']) a' w') Q) [o'] a w) : LeftL P l Q S t done a w := by
  simp only [Bool.and_eq_true, decide_eq_true_eq] at hB
  unfold LeftL
  rw [show l.length - done.length = (l.length - (done.length + 1)) + 1 by omega]
  refine ⟨fun h0 => (by rw [hB.2] at h0; cases h0), fun j hj => ?_⟩
  rw [hB.2] at hj
  simp only [List.mem_cons, List.not_mem_nil, or_false] at hj
  rcases hj with rfl | rfl
  · exact LeftL.op ho hB.1 h
  · exact LeftL.op ho' hB.1 h'
theorem LeftL.done {l : List Oper} {Q : Exit → Act → World → Prop} {S : World → Prop} {t : Nat} {done : List Nat} {a : Act} {w : World} (hB : (decide (l.length = done.length) && decide (Region.ready .any l.toArray (doneOf l done) = [])) = true) (h : Q .normal a w) : LeftL P l Q S t done a w := by
  simp only [Bool.and_eq_true, decide_eq_true_eq] at hB
  unfold LeftL
  rw [hB.1, Nat.sub_self]
  exact ⟨hB.2, h⟩
/-- Where S is asked no more. -/
theorem LeftL.ofPlain {l : List Oper} {Q : Exit → Act → World → Prop} {k t : Nat} {a : Act} {w : World} (hk : k ≤ l.length) (h : LeftL P l Q (fun _ => True) t (List.range k) a w) : Left P l Q k a w := by
  have e : ∀ k, doneOf l (List.range k) = pre l.toArray k := by
    intro k
    induction k with
    | zero => rfl
    | succ k ih => rw [List.range_succ, doneOf_snoc, ih]; rfl
  have := wpAny_ofT _ _ _ _ h
  rw [e, List.length_range] at this
  exact this
end

section
variable {P : Program}
theorem namedC {c : Code} {Q : Exit → Act → World → Prop} {a : Act} {w : World} (h : ∀ W, W = w → c.wp P Q a W) : c.wp P Q a w := h w rfl

/-- Nothing appended. -/
theorem run_append_none (w : World) (t ty e : TypeId) (i : TypeInfo) (size : Nat) (ht : P.underlying t = some (.slice e)) (hi : P.info? e = some i) {v : Value} {n : Nat} {cs : List Value} {own : Option Nat} (hown : Sl w e size v n cs own) :
    (Builtin.append_ #[t, t] ty #[v, .slice none 0 0]).run P w = .ok v w := by
  rcases hown.2 with ⟨rfl, rfl, rfl⟩ | ⟨g, off, cap, cur, rfl, rfl, hg, hnc, hcm, hcs, htake⟩
  · simp [Builtin.append_, run_underlying ht, sizeOf, typeInfo, hi, Builtin.lenOf, Builtin.firstCells, loadCells, loadCellsFrom]
  · simp [Builtin.append_, run_underlying ht, sizeOf, typeInfo, hi, Builtin.lenOf, Builtin.firstCells, loadCells, loadCellsFrom, storeCells, hnc]

/-- APPEND a slice to a slice, both known by their cells. -/
theorem wpList_append_both {ops : Array Oper} {rest : List Oper} {o : Oper} {a : Act} {w : World} {Q : Exit → Act → World → Prop} (hgd : o.guard = none) (s x : Operand) (t : TypeId)
    (ho : o.op = .call { callee := .builtin .append, args := #[s, x], argTypes := #[t, t] })
    (e : TypeId) (i : TypeInfo) (z : Value) (size bytes : Nat) (ht : P.underlying t = some (.slice e)) (hi : P.info? e = some i) (hz : i.zero = some z)
    (hsize : i.size = size) (hby : i.bytes = bytes) (hzs : z.cells.size = size)
    (v : Value) (n : Nat) (cs : List Value) (own : Option Nat) (hs : a.eval s = v) (hown : Sl w e size v n cs own)
    (u : Value) (m : Nat) (news : List Value) (own2 : Option Nat) (hx : a.eval x = u) (hu : Sl w e size u m news own2) (h1 : ∀ u ∈ news, u.oneCell' = true)
    (h63 : n + m ≤ maxLen) (hbytes : (n + m) * bytes ≤ 140737488355328)
    (h : ∀ v' w' own', Sl w' e size v' (n + m) (cs ++ news) own' → Frm w.heap.size own.toList w w' → (own' = own ∨ ∃ g, own' = some g ∧ w.heap.size ≤ g) → wpList P ops Q rest (a.put o.dst v') w') : wpList P ops Q (o :: rest) a w := by
  rcases hu.2 with ⟨rfl, rfl, rfl⟩ | ⟨g, off, cap, cur, rfl, rfl, hg, hnc, hcm, hcs, htake⟩
  · have hn : news = [] := List.eq_nil_of_length_eq_zero (by simpa using hu.1)
    subst hn
    have hr := run_append_none (P := P) w t o.type e i size ht hi hown
    have key := h v w own (by simpa using hown) (Frm.refl _ _ _) (.inl rfl)
    refine wpList_step fun K hK => ?_
    rw [if_pos (by simp [Region.wanted, hgd])]
    unfold Oper.wp
    cases o with
    | mk dst op type pos after guard =>
      dsimp only at ho hgd hr key ⊢
      subst ho
      rw [BigFrame.execOp_builtin, BigFrame.builtin_append]
      have ha : (#[s, x] : Array Operand).map a.eval = #[v, .slice none 0 0] := by simp [hs, hx]
      rw [ha]
      have hrun : (do pure (Next.value (← Builtin.append_ #[t, t] type #[v, .slice none 0 0])) : Sem Next).run P w = .ok (.value v) w := by
        simp [hr]
      rw [hrun]
      exact hK _ _ key
  · refine wpList_append_sl w hgd s x t ho e i z size bytes ht hi hz hsize hby hzs v n cs own hs hown ⟨g, off, none⟩ m cap news hx hu.1 (fun j y hj => ?_) h1 h63 hbytes h
    have hadd : (⟨g, off, none⟩ : Addr).add j = ⟨g, off + j, none⟩ := by unfold Addr.add; split <;> simp_all
    rw [hadd, Sl.cell hu j (List.getElem?_eq_some_iff.1 hj).1]
    exact hj
end
end Go.Proofs.YtghkfopcjdkieaaDoor
