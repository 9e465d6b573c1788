/-
  Texts Lib4, Lib5, G1 of this claim, one behind the other.
-/
import Derived.Test.YtfmigicmfolbjaaDoorB1
import Derived.RangeFuncWrites
import Derived.RangeFuncLeaves
import Derived.RangeFuncCalls
import Derived.RangeFuncSeq
import Derived.TacticsIn
import Derived.ControlIn
import Derived.Test.YtfmigicmfolbjaaDoorRows
import Derived.ProofKit
import Derived.Lib.Hide
import Derived.Deep.CutRange
import Derived.Deep.MidRow
import Derived.RangeFuncBound
import Derived.Shelf.Abstract
namespace Go.Proofs.YtfmigicmfolbjaaDoor
set_option linter.all false
set_option linter.unusedSimpArgs false
set_option linter.unusedVariables false
open Go.RowKit

section
variable {P : Program} {ops : Array Oper} {Q : Exit → Act → World → Prop} {S : World → Prop} {t : Nat}

/-- Whatever order comes; S holds behind each operation but that of number t. -/
def wpAnyT (P : Program) (ops : Array Oper) (Q : Exit → Act → World → Prop) (S : World → Prop) (t : Nat) : Nat → Array Bool → Act → World → Prop
  | 0, listed, a, w => Region.ready .any ops listed = [] ∧ Q .normal a w
  | n + 1, listed, a, w =>
    (Region.ready .any ops listed = [] → Q .normal a w) ∧
    ∀ i ∈ Region.ready .any ops listed, wpOp P ops Q i (fun a' w' => (i ≠ t → S w') ∧ wpAnyT P ops Q S t n (listed.setIfInBounds i true) a' w') a w

theorem wpAny_ofT : ∀ (n : Nat) (listed : Array Bool) (a : Act) (w : World), wpAnyT P ops Q S t n listed a w → wpAny P .any ops Q n listed a w
  | 0, _, _, _, h => h
  | n + 1, _, _, _, h => ⟨h.1, fun i hi => wpOp_mono (fun a' w' h' => wpAny_ofT n _ a' w' h'.2) (h.2 i hi)⟩

/-- Does operation t wait for i? -/
def waitsB (ops : Array Oper) (t i : Nat) : Bool := (ops[t]?.map fun o => o.after.any fun e => Region.binds .any e && e.on == i).getD true

theorem wpAnyT_first {i : Nat} {x : Oper} {v : Value} (hi : ops[i]? = some x) (ht : waitsB ops t i = true) (hsel : Region.noSelect ops = true) (hQ : ∀ c a w, Q (.panic c) (a.put x.dst v) w → Q (.panic c) a w) :
    ∀ (n : Nat) (listed : Array Bool) (a : Act) (w : World),
      (∀ j y, ops[j]? = some y → j ≠ i → listed.getD j true = false → (∀ e ∈ y.after, Region.binds .any e = true → e.on ≠ i) → x.apart ops y = true) →
      i ∈ Region.ready .any ops listed → YieldsIf P ops S x v a → S w → wpAnyT P ops Q S t n (listed.setIfInBounds i true) (a.put x.dst v) w → wpAnyT P ops Q S t (n + 1) listed a w := by
  intro n
  induction n with
  | zero =>
    intro listed a w _ hr hy hS H
    refine ⟨fun h0 => (by rw [h0] at hr; cases hr), fun j hj => ?_⟩
    by_cases e : j = i
    · subst e; exact hy.wpOp hi hS ⟨fun _ => hS, H⟩
    · have h1 := ready_mono hj e
      rw [H.1] at h1
      cases h1
  | succ n ih =>
    intro listed a w hfree hr hy hS H
    refine ⟨fun h0 => (by rw [h0] at hr; cases hr), fun j hj => ?_⟩
    by_cases e : j = i
    · subst e; exact hy.wpOp hi hS ⟨fun _ => hS, H⟩
    · obtain ⟨hun, y, hy0, hall⟩ := mem_ready.1 hj
      have away : ∀ e ∈ y.after, Region.binds .any e = true → e.on ≠ i := fun e' he hb heq => by
        have h1 := hall e' he hb
        rw [heq, getD_both (mem_ready.1 hr).1] at h1
        cases h1
      have hjt : j ≠ t := by
        rintro rfl
        unfold waitsB at ht
        rw [hy0] at ht
        obtain ⟨e', he, hb⟩ := Array.any_eq_true'.1 (show (y.after.any fun e => Region.binds .any e && e.on == i) = true from ht)
        simp only [Bool.and_eq_true, beq_iff_eq] at hb
        exact away e' he hb.1 hb.2
      have step := wpOp_putIf hy0 (hfree j y hy0 e hun away) (fun cs b => Region.noSelect_spec hsel i x cs b hi) (fun cs b => Region.noSelect_spec hsel j y cs b hy0) hQ hy (H.2 j (ready_mono hj e))
      refine wpOp_mono (fun a' w' h3 => ⟨fun _ => h3.2.1 hjt, ih (listed.setIfInBounds j true) a' w' (fun k z hz hki hk hno => ?_) (ready_mono hr (Ne.symm e)) h3.1 (h3.2.1 hjt) ?_⟩) step
      · refine hfree k z hz hki ?_ hno
        by_cases hjk : j = k
        · subst hjk; exact hun
        · rwa [getD_set_ne true hjk] at hk
      · rw [Array.setIfInBounds_comm _ _ e]
        exact h3.2.2
end

section
variable {P : Program}

/-- (A goal at which the walk stays.) -/
structure Stay (p : Prop) : Prop where
  out : p
theorem stay {p : Prop} (h : Stay (id p)) : p := h.out
theorem go_on {p : Prop} (h : p) : Stay (id p) := ⟨h⟩

def doneOf (l : List Oper) (done : List Nat) : Array Bool := done.foldl (fun arr i => arr.setIfInBounds i true) (Array.replicate l.toArray.size false)
theorem doneOf_snoc (l : List Oper) (done : List Nat) (i : Nat) : doneOf l (done ++ [i]) = (doneOf l done).setIfInBounds i true := by simp [doneOf, List.foldl_append]

/-- What is left when those of 'done' have been carried out. -/
def LeftL (P : Program) (l : List Oper) (Q : Exit → Act → World → Prop) (S : World → Prop) (t : Nat) (done : List Nat) (a : Act) (w : World) : Prop :=
  wpAnyT P l.toArray Q S t (l.length - done.length) (doneOf l done) a w

theorem wp_region_leftL {id : Nat} {Q : Exit → Act → World → Prop} {a : Act} {w : World} {l : List Oper} (S : World → Prop) (t : Nat) (hm : P.follows .mixedOrders = true) (h : LeftL P l Q S t [] a w.drew) : (Code.region id l.toArray true).wp P Q a w :=
  wp_region_any hm (wpAny_ofT _ _ _ _ (by simpa [LeftL, doneOf] using h))

/-- What the kernel is asked when operation i is taken first. -/
def takeC (l : List Oper) (t : Nat) (done : List Nat) (i : Nat) : Bool :=
  waitsB l.toArray t i && Region.noSelect l.toArray && decide (done.length < l.length) && Region.free .any l.toArray (doneOf l done) i && (Region.ready .any l.toArray (doneOf l done)).contains i

theorem LeftL.take {l : List Oper} {Q : Exit → Act → World → Prop} {S : World → Prop} {t : Nat} {done : List Nat} {a : Act} {w : World} (i : Nat) {o : Oper} {v : Value} (ho : l[i]? = some o) (hB : takeC l t done i = true)
    (hQ : ∀ c a d v w, Q (.panic c) (a.put d v) w → Q (.panic c) a w) (hy : YieldsIf P l.toArray S o v a) (hS : S w)
    (h : ∀ K' : Act → Prop, (∀ a, LeftL P l Q S t (done ++ [i]) a w → K' a) → K' (a.put o.dst v)) : LeftL P l Q S t done a w := by
  simp only [takeC, Bool.and_eq_true, decide_eq_true_eq] at hB
  obtain ⟨⟨⟨⟨hw, hs⟩, hn⟩, hf⟩, hr⟩ := hB
  unfold LeftL
  rw [show l.length - done.length = (l.length - (done ++ [i]).length) + 1 by simp; omega]
  have ho' : l.toArray[i]? = some o := by simpa using ho
  refine wpAnyT_first ho' hw hs (fun c a w => hQ c a _ _ w) _ _ _ _ (Region.free_spec ho' hf) (by simpa using hr) hy hS ?_
  rw [← doneOf_snoc]
  exact h _ (fun _ h => h)

theorem LeftL.run {l : List Oper} {Q : Exit → Act → World → Prop} {S : World → Prop} {t : Nat} {done : List Nat} {a : Act} {w : World} (i : Nat) {o : Oper} {v : Value} (ho : l[i]? = some o) (hB : takeC l t done i = true) (hg : o.guard = none)
    (hQ : ∀ c a d v w, Q (.panic c) (a.put d v) w → Q (.panic c) a w) (hy : ∀ w, S w → (execOp a.eval o).run P w = .ok (.value v) w) (hS : S w)
    (h : ∀ K' : Act → Prop, (∀ a, LeftL P l Q S t (done ++ [i]) a w → K' a) → K' (a.put o.dst v)) : LeftL P l Q S t done a w :=
  LeftL.take i ho hB hQ (.inl ⟨by simp [Region.wanted, hg], hy⟩) hS h

/-- One operation, in the plain list's form: what follows it. -/
theorem LeftL.op {l : List Oper} {Q : Exit → Act → World → Prop} {S : World → Prop} {t : Nat} {done : List Nat} {a : Act} {w : World} {i : Nat} {o : Oper} (ho : l[i]? = some o) (hn : done.length < l.length)
    (h : wpList P l.toArray (Exit.then (fun a' w' => (i ≠ t → S w') ∧ LeftL P l Q S t (done ++ [i]) a' w') Q) [o] a w) :
    wpOp P l.toArray Q i (fun a' w' => (i ≠ t → S w') ∧ wpAnyT P l.toArray Q S t (l.length - (done.length + 1)) ((doneOf l done).setIfInBounds i true) a' w') a w := by
  have e : ∀ a' w', LeftL P l Q S t (done ++ [i]) a' w' ↔ wpAnyT P l.toArray Q S t (l.length - (done.length + 1)) ((doneOf l done).setIfInBounds i true) a' w' := fun a' w' => by
    unfold LeftL
    rw [doneOf_snoc, List.length_append]
    exact Iff.rfl
  simp only [e] at h
  have h0 : l.toArray[i]? = some o := by simpa using ho
  unfold wpOp
  simp only [h0]
  unfold wpList at h
  split
  · rename_i hw
    simp only [hw, if_true] at h
    rcases h with h | ⟨h1, a₀, w₀, h2⟩
    · left
      unfold Oper.wp at h ⊢
      generalize (execOp a.eval o).run P w = r at *
      cases r with
      | ok x w' =>
        cases x <;> simp only [Oper.upon] at h ⊢ <;> first | exact h | exact h.mono (fun e w'' he => by cases e <;> exact he)
      | halt x w' => cases x <;> simp only [Oper.upon] at h ⊢ <;> exact h
    · exact .inr ⟨h1, a₀, w₀, h2⟩
  · rename_i hw
    simp only [hw, if_false, Bool.false_eq_true] at h
    exact h

/-- ONE OPERATION for which all others wait. -/
theorem LeftL.one {l : List Oper} {Q : Exit → Act → World → Prop} {S : World → Prop} {t : Nat} {done : List Nat} {a : Act} {w : World} (i : Nat) {o : Oper} (ho : l[i]? = some o) (hB : (decide (done.length < l.length) && decide (Region.ready .any l.toArray (doneOf l done) = [i])) = true)
    (h : wpList P l.toArray (Exit.then (fun a' w' => (i ≠ t → S w') ∧ LeftL P l Q S t (done ++ [i]) a' w') Q) [o] a w) : LeftL P l Q S t done a w := by
  simp only [Bool.and_eq_true, decide_eq_true_eq] at hB
  unfold LeftL
  rw [show l.length - done.length = (l.length - (done.length + 1)) + 1 by omega]
  refine ⟨fun h0 => (by rw [hB.2] at h0; cases h0), fun j hj => ?_⟩
  rw [hB.2] at hj
  obtain rfl : j = i := by simpa using hj
  exact LeftL.op ho hB.1 h
/-- TWO OPERATIONS, either of which may come. -/
theorem LeftL.two {l : List Oper} {Q : Exit → Act → World → Prop} {S : World → Prop} {t : Nat} {done : List Nat} {a : Act} {w : World} (i i' : Nat) {o o' : Oper} (ho : l[i]? = some o) (ho' : l[i']? = some o') (hB : (decide (done.length < l.length) && decide (Region.ready .any l.toArray (doneOf l done) = [i, i'])) = true)
    (h : wpList P l.toArray (Exit.then (fun a' w' => (i ≠ t → S w') ∧ LeftL P l Q S t (done ++ [i]) a' w') Q) [o] a w)
    (h' : wpList P l.toArray (Exit.then (fun a' w' => (i' ≠ t → S w') ∧ LeftL P l Q S t (done ++ [i']) a' w') Q) [o'] a w) : LeftL P l Q S t done a w := by
  simp only [Bool.and_eq_true, decide_eq_true_eq] at hB
  unfold LeftL
  rw [show l.length - done.length = (l.length - (done.length + 1)) + 1 by omega]
  refine ⟨fun h0 => (by rw [hB.2] at h0; cases h0), fun j hj => ?_⟩
  rw [hB.2] at hj
  simp only [List.mem_cons, List.not_mem_nil, or_false] at hj
  rcases hj with rfl | rfl
  · exact LeftL.op ho hB.1 h
  · exact LeftL.op ho' hB.1 h'
theorem LeftL.done {l : List Oper} {Q : Exit → Act → World → Prop} {S : World → Prop} {t : Nat} {done : List Nat} {a : Act} {w : World} (hB : (decide (l.length = done.length) && decide (Region.ready .any l.toArray (doneOf l done) = [])) = true) (h : Q .normal a w) : LeftL P l Q S t done a w := by
  simp only [Bool.and_eq_true, decide_eq_true_eq] at hB
  unfold LeftL
  rw [hB.1, Nat.sub_self]
  exact ⟨hB.2, h⟩
/-- Where S is asked no more. -/
theorem LeftL.ofPlain {l : List Oper} {Q : Exit → Act → World → Prop} {k t : Nat} {a : Act} {w : World} (hk : k ≤ l.length) (h : LeftL P l Q (fun _ => True) t (List.range k) a w) : Left P l Q k a w := by
  have e : ∀ k, doneOf l (List.range k) = pre l.toArray k := by
    intro k
    induction k with
    | zero => rfl
    | succ k ih => rw [List.range_succ, doneOf_snoc, ih]; rfl
  have := wpAny_ofT _ _ _ _ h
  rw [e, List.length_range] at this
  exact this
end

section
variable {P : Program}
theorem namedC {c : Code} {Q : Exit → Act → World → Prop} {a : Act} {w : World} (h : ∀ W, W = w → c.wp P Q a W) : c.wp P Q a w := h w rfl

/-- Nothing appended. -/
theorem run_append_none (w : World) (t ty e : TypeId) (i : TypeInfo) (size : Nat) (ht : P.underlying t = some (.slice e)) (hi : P.info? e = some i) {v : Value} {n : Nat} {cs : List Value} {own : Option Nat} (hown : Sl w e size v n cs own) :
    (Builtin.append_ #[t, t] ty #[v, .slice none 0 0]).run P w = .ok v w := by
  rcases hown.2 with ⟨rfl, rfl, rfl⟩ | ⟨g, off, cap, cur, rfl, rfl, hg, hnc, hcm, hcs, htake⟩
  · simp [Builtin.append_, run_underlying ht, sizeOf, typeInfo, hi, Builtin.lenOf, Builtin.firstCells, loadCells, loadCellsFrom]
  · simp [Builtin.append_, run_underlying ht, sizeOf, typeInfo, hi, Builtin.lenOf, Builtin.firstCells, loadCells, loadCellsFrom, storeCells, hnc]

/-- APPEND a slice to a slice, both known by their cells. -/
theorem wpList_append_both {ops : Array Oper} {rest : List Oper} {o : Oper} {a : Act} {w : World} {Q : Exit → Act → World → Prop} (hgd : o.guard = none) (s x : Operand) (t : TypeId)
    (ho : o.op = .call { callee := .builtin .append, args := #[s, x], argTypes := #[t, t] })
    (e : TypeId) (i : TypeInfo) (z : Value) (size bytes : Nat) (ht : P.underlying t = some (.slice e)) (hi : P.info? e = some i) (hz : i.zero = some z)
    (hsize : i.size = size) (hby : i.bytes = bytes) (hzs : z.cells.size = size)
    (v : Value) (n : Nat) (cs : List Value) (own : Option Nat) (hs : a.eval s = v) (hown : Sl w e size v n cs own)
    (u : Value) (m : Nat) (news : List Value) (own2 : Option Nat) (hx : a.eval x = u) (hu : Sl w e size u m news own2) (h1 : ∀ u ∈ news, u.oneCell' = true)
    (h63 : n + m ≤ maxLen) (hbytes : (n + m) * bytes ≤ 140737488355328)
    (h : ∀ v' w' own', Sl w' e size v' (n + m) (cs ++ news) own' → Frm w.heap.size own.toList w w' → (own' = own ∨ ∃ g, own' = some g ∧ w.heap.size ≤ g) → wpList P ops Q rest (a.put o.dst v') w') : wpList P ops Q (o :: rest) a w := by
  rcases hu.2 with ⟨rfl, rfl, rfl⟩ | ⟨g, off, cap, cur, rfl, rfl, hg, hnc, hcm, hcs, htake⟩
  · have hn : news = [] := List.eq_nil_of_length_eq_zero (by simpa using hu.1)
    subst hn
    have hr := run_append_none (P := P) w t o.type e i size ht hi hown
    have key := h v w own (by simpa using hown) (Frm.refl _ _ _) (.inl rfl)
    refine wpList_step fun K hK => ?_
    rw [if_pos (by simp [Region.wanted, hgd])]
    unfold Oper.wp
    cases o with
    | mk dst op type pos after guard =>
      dsimp only at ho hgd hr key ⊢
      subst ho
      rw [BigFrame.execOp_builtin, BigFrame.builtin_append]
      have ha : (#[s, x] : Array Operand).map a.eval = #[v, .slice none 0 0] := by simp [hs, hx]
      rw [ha]
      have hrun : (do pure (Next.value (← Builtin.append_ #[t, t] type #[v, .slice none 0 0])) : Sem Next).run P w = .ok (.value v) w := by
        simp [hr]
      rw [hrun]
      exact hK _ _ key
  · refine wpList_append_sl w hgd s x t ho e i z size bytes ht hi hz hsize hby hzs v n cs own hs hown ⟨g, off, none⟩ m cap news hx hu.1 (fun j y hj => ?_) h1 h63 hbytes h
    have hadd : (⟨g, off, none⟩ : Addr).add j = ⟨g, off + j, none⟩ := by unfold Addr.add; split <;> simp_all
    rw [hadd, Sl.cell hu j (List.getElem?_eq_some_iff.1 hj).1]
    exact hj
end
end Go.Proofs.YtfmigicmfolbjaaDoor

namespace Go.Proofs.YtfmigicmfolbjaaDoor
set_option linter.all false
set_option linter.unusedSimpArgs false
set_option linter.unusedVariables false
open Go.RowKit

section
variable {P : Program}

theorem rowsIn_of {n l : Nat} {row : String} {args : Array Value} {w : World} {R : Value → World → Prop} (h : Rows P row args w R) : RowsIn (Fence.wide.inRound l) n P row args w R := by
  intro c cs _
  obtain ⟨v, w', hR, hs⟩ := h c cs
  exact ⟨v, w', hR, stepsIn_wide.2 hs⟩

theorem uponIn_of {n l : Nat} {o : Oper} {a : Act} {nx nx' : Act → World → Prop} {Q : Exit → Act → World → Prop} (hn : ∀ a w, nx a w → nx' a w) (r : Result Next) (h : o.upon P a nx Q r) : o.uponIn (Fence.wide.inRound l) n P a nx' Q r := by
  cases r with
  | ok x w' =>
    cases x with
    | enter f args =>
      refine ⟨fun h0 => by simp [Fence.wide] at h0, CallsIn.inRound l (callsIn_wide.2 (Calls.mono h ?_))⟩
      intro e w'' he
      cases e with
      | returned v => exact hn _ _ he
      | panicked c => exact he
      | outgrown => exact he
    | row row args => exact ⟨fun h0 => by simp [Fence.wide] at h0, rowsIn_of (Rows.mono h fun v w'' hv => hn _ _ hv)⟩
    | value v => exact hn _ _ h
    | skip => exact hn _ _ h
    | defer d => exact hn _ _ h
    | _ => exact h.elim
  | halt x w' =>
    cases x with
    | panic v => exact h
    | _ => exact h.elim

/-- Are there no defer statements? -/
def noDefers (l : List Oper) : Bool := l.all fun o => match o.op with | .defer _ => false | _ => true

theorem opIn_of {n l : Nat} {o : Oper} {a : Act} {w : World} {nx nx' : Act → World → Prop} {Q : Exit → Act → World → Prop} (hd : ∀ c, o.op ≠ .defer c) (hn : ∀ a w, nx a w → nx' a w) (h : o.wp P a w nx Q) :
    o.wpIn (Fence.wide.inRound l) n P a w nx' Q := by
  refine ⟨fun _ _ => trivial, ?_⟩
  rw [Fence.inRound_round, Oper.semAt_some l _ _ hd]
  exact uponIn_of hn _ h

theorem wpListIn_of {n l : Nat} {ops : Array Oper} {Q : Exit → Act → World → Prop} (hLO : ¬ LetsOut Q) : ∀ (rest : List Oper) (_ : noDefers rest = true) (a : Act) (w : World), wpList P ops Q rest a w → wpListIn (Fence.wide.inRound l) n P ops Q rest a w
  | [], _, _, _, h => h
  | o :: rest, hd, a, w, h => by
    have hd' : (match o.op with | .defer _ => false | _ => true) = true ∧ noDefers rest = true := by simpa [noDefers] using hd
    have ih := wpListIn_of (n := n) (l := l) (ops := ops) hLO rest hd'.2
    simp only [wpList] at h
    simp only [wpListIn]
    split
    · rename_i hw
      rw [if_pos hw] at h
      rcases h with h | h
      · exact opIn_of (fun c hc => by have := hd'.1; rw [hc] at this; simp at this) ih h
      · exact absurd h.2 hLO
    · rename_i hw
      rw [if_neg hw] at h
      exact ⟨fun _ _ => trivial, ih _ _ h⟩

/-- A region of a round, walked as outside of rounds. -/
theorem regionIn_of {n l id : Nat} {xs : List Oper} {Q : Exit → Act → World → Prop} {a : Act} {w : World} (hLO : ¬ LetsOut Q) (hd : noDefers xs = true) (h : wpList P xs.toArray Q xs a w) :
    (Code.region id xs.toArray false).wpIn (Fence.wide.inRound l) n P Q a w :=
  wpIn_region_lit (wpListIn_of hLO xs hd a w h)

/-- (In a fence:) an operation that yields a value. -/
theorem wpListIn_value {F : Fence} {n : Nat} {ops : Array Oper} {Q : Exit → Act → World → Prop} {a : Act} {w w' : World} {rest : List Oper} {o : Oper} {v : Value} (hg : o.guard = none) (hF : ∀ f, F.fn f)
    (hd : ∀ c, o.op ≠ .defer c) (hr : (execOp a.eval o).run P w = .ok (.value v) w') (h : wpListIn F n P ops Q rest (a.put o.dst v) w') : wpListIn F n P ops Q (o :: rest) a w := by
  refine wpListIn_plain hg fun K hK => ⟨fun f _ => hF f, ?_⟩
  rw [Oper.semAt_eq _ _ _ hd, hr]
  exact hK _ _ h
end

theorem Frm.putObj {B : Nat} {S : List Nat} {a w : World} (h : Frm B S a w) {g : Nat} (hp : g ∈ S ∨ B ≤ g) (o : Obj) : Frm B S a (w.putObj g o) := by
  refine ⟨h.os, h.tape, h.output, by rw [World.putObj_size]; exact h.size, fun k hk hn => ?_⟩
  rw [World.putObj_heap_other]
  · exact h.block k hk hn
  · rintro rfl
    rcases hp with hp | hp
    · exact hn hp
    · omega
theorem Frm.at_ {B : Nat} {S : List Nat} {a w : World} (h : Frm B S a w) {k : Nat} {o : Obj} (ho : a.heap[k]? = some o) (hk : k < B) (hn : k ∉ S) : w.heap[k]? = some o := (h.block k hk hn).trans ho

section
variable {P : Program}

/-- Of the blocks below B only those of S have turned; and none of those that are there from number z on. -/
structure KeepY (B : Nat) (S : List Nat) (z : Nat) (W W' : World) : Prop where
  frm : Frm B S W W'
  young : ∀ k, z ≤ k → k < W.heap.size → W'.heap[k]? = W.heap[k]?
theorem KeepY.trans {B : Nat} {S : List Nat} {z : Nat} {a b c : World} (h : KeepY B S z a b) (k : KeepY B S z b c) : KeepY B S z a c :=
  ⟨h.frm.trans k.frm, fun i hz hi => (k.young i hz (Nat.lt_of_lt_of_le hi h.frm.size)).trans (h.young i hz hi)⟩
theorem KeepY.mono {B B' : Nat} {S : List Nat} {z : Nat} {a b : World} (h : KeepY B S z a b) (hB : B' ≤ B) : KeepY B' S z a b := ⟨h.frm.mono hB (fun _ _ h => h), h.young⟩
theorem KeepY.putObj {B : Nat} {S : List Nat} {z : Nat} {a w : World} (h : KeepY B S z a w) {g : Nat} (hB : B ≤ g) (hg : g < z) (o : Obj) : KeepY B S z a (w.putObj g o) :=
  ⟨h.frm.putObj (.inr hB) o, fun k hz hk => (World.putObj_heap_other (by omega)).trans (h.young k hz hk)⟩
/-- What a round's body must leave. -/
def roundQ (w : World) (S0 : List Nat) (z : Nat) (J Jx : Nat → World → Prop) (cont : Nat → Bool) (i : Nat) (W : World) : Exit → Act → World → Prop
  | .normal, _, W' => KeepY (w.heap.size + 2) S0 z W W' ∧ cont i = true ∧ J (i + 1) W'
  | .ret, _, W' => KeepY (w.heap.size + 2) S0 z W W' ∧ cont i = false ∧ Jx i W'
  | _, _, _ => False

/-- THE LAW: the iterator changes blocks of ST (below the loop's start) and makes new ones; the body those of S0, and what it makes. -/
theorem wp_rangeFunc_ret {g : Operand} {ps : Array Tmp} {assign body : Code} {Q : Exit → Act → World → Prop} {a : Act} {w : World} {gf m : Nat} {lb : Array Value} (hg : a.eval g = .func (.func gf) #[] lb)
    (eg : ∀ args w, (callFunc gf args).run P w = .ok (.enter gf args) w) (encs : Nat → Array Value) (hps : ∀ i, (encs i).size = ps.size) (rn : Nat) (cont : Nat → Bool) (ST S0 : List Nat) (J Jx : Nat → World → Prop) (R : Option Nat → World → Prop)
    (hS0 : ∀ x ∈ S0, x < w.heap.size) (hST : ∀ x ∈ ST, x < w.heap.size)
    (hJ : ∀ i A B, w.heap.size + 2 ≤ A.heap.size → J i A → Frm A.heap.size ((w.heap.size + 1) :: ST) A B → J i B)
    (hJx : ∀ i A o, w.heap.size + 2 ≤ A.heap.size → Jx i A → Jx i (A.putObj (w.heap.size + 1) o))
    (hR : ∀ i A o, R i A → R i (A.putObj (w.heap.size + 1) o))
    (hiter : ∀ (J' Jx' : Nat → World → Prop) (W : World), Frm w.heap.size [] w W → w.heap.size + 2 ≤ W.heap.size →
      (∀ i A B, w.heap.size + 2 ≤ A.heap.size → J' i A → Frm A.heap.size ST A B → J' i B) →
      (∀ i A0 A, i < rn → w.heap.size + 2 ≤ A0.heap.size → J' i A0 → Frm A0.heap.size ST A0 A → YieldAt Fence.wide m P (w.heap.size + 1) (encs i) A fun e A' =>
        KeepY w.heap.size S0 A0.heap.size A A' ∧ ((cont i = true ∧ e = .returned (.bool true) ∧ J' (i + 1) A') ∨ (cont i = false ∧ e = .returned (.bool false) ∧ Jx' i A'))) →
      J' 0 W →
      CallsIn Fence.wide m P gf (#[.func (.yield (w.heap.size + 1)) #[] #[]] ++ lb) W fun e W' => (∃ v, e = .returned v) ∧ ((R none W' ∧ J' rn W') ∨ ∃ i, R (some i) W' ∧ Jx' i W'))
    (h0 : ∀ W, Frm w.heap.size [] w W → w.heap.size + 2 ≤ W.heap.size → J 0 W)
    (hround : ∀ i A0 W, i < rn → w.heap.size + 2 ≤ A0.heap.size → J i A0 → Frm A0.heap.size ST A0 W → J i W →
      assign.wpIn (Fence.wide.inRound (w.heap.size + 1)) m P (Exit.then (fun a₁ W₁ => KeepY (w.heap.size + 2) S0 A0.heap.size W W₁ ∧ ∀ o, body.wpIn (Fence.wide.inRound (w.heap.size + 1)) m P (roundQ w S0 A0.heap.size J Jx cont i (W₁.putObj (w.heap.size + 1) o)) a₁ (W₁.putObj (w.heap.size + 1) o)) (fun _ _ _ => False))
        { tmps := (ps.zip (encs i)).foldl (fun t (p, v) => t.setIfInBounds p v) a.tmps, defers := [] } W)
    (hdone : ∀ W, R none W → J rn W → W.heap[w.heap.size]? = some (.deferred (some [])) → Q .normal { a with defers := { target := .collected w.heap.size, args := #[] } :: a.defers } W)
    (hstop : ∀ i W, R (some i) W → Jx i W → W.heap[w.heap.size]? = some (.deferred (some [])) → Q .ret { a with defers := { target := .collected w.heap.size, args := #[] } :: a.defers } W) :
    (Code.rangeFunc g ps assign body).wpIn Fence.wide (m + 1) P Q a w := by
  refine wpIn_rangeFunc ?_
  intro fn hfn
  obtain ⟨rec, hrec⟩ : ∃ rec : LoopState → Option Code → Loop, rec = fun st pe => { state := st, pending := pe, fn, tmps := a.tmps, params := ps, assign, body, defers := w.heap.size } := ⟨_, rfl⟩
  obtain ⟨W1, hW1⟩ : ∃ W1, (w.alloc (.deferred (some []))).alloc (.loop (rec .ready none)) = W1 := ⟨_, rfl⟩
  have hL1 : W1.heap[w.heap.size + 1]? = some (.loop (rec .ready none)) := by
    rw [← hW1]; have := World.alloc_heap_new (w.alloc (.deferred (some []))) (.loop (rec .ready none)); rwa [World.size_alloc] at this
  have hK1 : W1.heap[w.heap.size]? = some (.deferred (some [])) := by
    rw [← hW1]; exact (Below.heap_alloc _ _ _ (by simp)).trans (World.alloc_heap_new w _)
  have hf1 : Frm w.heap.size [] w W1 := by
    rw [← hW1]; exact ((Frm.refl _ _ w).alloc (Nat.le_refl _) _).alloc (by simp) _
  have hs1 : w.heap.size + 2 ≤ W1.heap.size := by rw [← hW1]; simp
  have hS0L : w.heap.size + 1 ∉ S0 := fun h => by have := hS0 _ h; omega
  have hS0D : w.heap.size ∉ S0 := fun h => by have := hS0 _ h; omega
  have hSTL : w.heap.size + 1 ∉ ST := fun h => by have := hST _ h; omega
  have hSTD : w.heap.size ∉ ST := fun h => by have := hST _ h; omega
  refine ⟨w.heap.size + 1, [{ target := .collected w.heap.size, args := #[] }], W1, { target := .fn (.func gf) lb, args := #[.func (.yield (w.heap.size + 1)) #[] #[]] }, W1, gf,
    #[.func (.yield (w.heap.size + 1)) #[] #[]] ++ lb, W1, ?_, ?_, ?_, ?_, fun h => by simp [Fence.wide] at h, ?_⟩
  · rw [← hW1, hrec]; exact run_enterLoop_outer _ _ _ _ _
  · simp only [resolve, hg]
    simp [go_sem]
  · intro f' _; exact trivial
  · simp [invoke, go_sem, eg]
  · refine (hiter (fun i W => J i W ∧ W.heap[w.heap.size + 1]? = some (.loop (rec .ready none)) ∧ W.heap[w.heap.size]? = some (.deferred (some [])) ∧ w.heap.size + 2 ≤ W.heap.size)
      (fun i W => Jx i W ∧ W.heap[w.heap.size + 1]? = some (.loop (rec .done (some .ret))) ∧ W.heap[w.heap.size]? = some (.deferred (some [])) ∧ w.heap.size + 2 ≤ W.heap.size) W1 hf1 hs1 ?_ ?_ ⟨h0 W1 hf1 hs1, hL1, hK1, hs1⟩).mono ?_
    · rintro i A B hA ⟨hj, hl, hk, hz⟩ hf
      exact ⟨hJ i A B hA hj (hf.narrow fun k hk => List.mem_cons_of_mem _ hk), hf.at_ hl (by omega) hSTL, hf.at_ hk (by omega) hSTD, Nat.le_trans hz hf.size⟩
    · rintro i A0 W hi hz0 ⟨hj0, hl0, hk0, hz'⟩ hf0
      have hj : J i W := hJ i A0 W hz0 hj0 (hf0.narrow fun k hk => List.mem_cons_of_mem _ hk)
      have hl := hf0.at_ hl0 (by omega) hSTL
      have hk := hf0.at_ hk0 (by omega) hSTD
      have hz : w.heap.size + 2 ≤ W.heap.size := Nat.le_trans hz0 hf0.size
      have hy := run_yield (P := P) (args := encs i) hl (by rw [hrec]; exact hps i)
      rw [hrec] at hy
      refine ⟨fn, _, assign, body, hy, roundIn_of_wpIn trivial (wpIn_mono (hround i A0 W hi hz0 hj0 hf0 hj) ?_)⟩
      rintro e a1 W2 hp
      cases e with
      | normal =>
        obtain ⟨hy2, hbody⟩ := hp
        have hf2 := hy2.frm
        have hl2 := hf2.at_ hl (by omega) hS0L
        have hk2 := hf2.at_ hk (by omega) hS0D
        refine ⟨_, run_beginRound hl2 (by rw [hrec]), ?_⟩
        have hz2 : w.heap.size + 2 ≤ W2.heap.size := Nat.le_trans hz hf2.size
        refine wpIn_mono (hbody _) ?_
        have hl3 : (W2.putObj (w.heap.size + 1) (.loop { rec .ready none with state := .busy })).heap[w.heap.size + 1]? = some (.loop { rec .ready none with state := .busy }) := World.putObj_heap_same (by omega)
        have hk3 : (W2.putObj (w.heap.size + 1) (.loop { rec .ready none with state := .busy })).heap[w.heap.size]? = some (.deferred (some [])) := (World.putObj_heap_other (by omega)).trans hk2
        have hf3 : KeepY w.heap.size S0 A0.heap.size W (W2.putObj (w.heap.size + 1) (.loop { rec .ready none with state := .busy })) :=
          (hy2.mono (B' := w.heap.size) (by omega)).putObj (by omega) (by omega) _
        have fin : ∀ (jump : Option Code) (W3 : World), KeepY (w.heap.size + 2) S0 A0.heap.size (W2.putObj (w.heap.size + 1) (.loop { rec .ready none with state := .busy })) W3 →
            (Instr.endRound (w.heap.size + 1) jump).run P W3 = .ok (.bool jump.isNone) (W3.putObj (w.heap.size + 1) (.loop (rec (if jump.isNone then .ready else .done) jump))) ∧
            (W3.putObj (w.heap.size + 1) (.loop (rec (if jump.isNone then .ready else .done) jump))).heap[w.heap.size + 1]? = some (.loop (rec (if jump.isNone then .ready else .done) jump)) ∧
            (W3.putObj (w.heap.size + 1) (.loop (rec (if jump.isNone then .ready else .done) jump))).heap[w.heap.size]? = some (.deferred (some [])) ∧
            w.heap.size + 2 ≤ W3.heap.size ∧ KeepY w.heap.size S0 A0.heap.size W (W3.putObj (w.heap.size + 1) (.loop (rec (if jump.isNone then .ready else .done) jump))) := fun jump W3 hy4 => by
          have hf4 := hy4.frm
          have hl4 := hf4.at_ hl3 (by omega) hS0L
          have hk4 := hf4.at_ hk3 (by omega) hS0D
          have hz4 : w.heap.size + 2 ≤ W3.heap.size := by have := hf4.size; rw [World.putObj_size] at this; omega
          have := run_endRound (P := P) jump hl4
          rw [hrec] at this ⊢
          refine ⟨this, World.putObj_heap_same (by omega), (World.putObj_heap_other (by omega)).trans hk4, hz4, ?_⟩
          exact (hf3.trans (hy4.mono (B' := w.heap.size) (by omega))).putObj (by omega) (by omega) _
        rintro e a3 W3 hp
        cases e with
        | normal =>
          obtain ⟨hf4, hc, hj4⟩ := hp
          obtain ⟨hr, hl5, hk5, hz5, hf5⟩ := fin none W3 hf4
          exact ⟨_, _, hr, hf5, .inl ⟨hc, rfl, hJ _ _ _ hz5 hj4 ((Frm.refl _ _ W3).putObj (.inl (by simp)) _), hl5, hk5, by rw [World.putObj_size]; exact hz5⟩⟩
        | ret =>
          obtain ⟨hf4, hc, hj4⟩ := hp
          obtain ⟨hr, hl5, hk5, hz5, hf5⟩ := fin (some .ret) W3 hf4
          exact ⟨_, _, hr, hf5, .inr ⟨hc, rfl, hJx _ _ _ hz5 hj4, hl5, hk5, by rw [World.putObj_size]; exact hz5⟩⟩
        | exit id => exact hp.elim
        | goto t => exact hp.elim
        | panic ch => exact hp.elim
        | outgrown => exact hp.elim
      | exit id => exact hp.elim
      | goto t => exact hp.elim
      | ret => exact hp.elim
      | panic ch => exact hp.elim
      | outgrown => exact hp.elim
    · rintro e W2 ⟨⟨v, rfl⟩, (⟨hr, hj, hl, hk, hz⟩ | ⟨i, hr, hj, hl, hk, hz⟩)⟩
      · refine ⟨none, _, by have := run_endLoop (P := P) hl (by rw [hrec]; simp); rw [hrec] at this; exact this, ?_⟩
        exact hdone _ (hR _ _ _ hr) (hJ _ _ _ hz hj ((Frm.refl _ _ W2).putObj (.inl (by simp)) _)) ((World.putObj_heap_other (by omega)).trans hk)
      · refine ⟨some .ret, _, by have := run_endLoop (P := P) hl (by rw [hrec]; simp); rw [hrec] at this; exact this, ?_⟩
        exact wpIn_ret (hstop i _ (hR _ _ _ hr) (hJx _ _ _ hz hj) ((World.putObj_heap_other (by omega)).trans hk))
end
end Go.Proofs.YtfmigicmfolbjaaDoor

namespace Go.Proofs.YtfmigicmfolbjaaDoor
set_option linter.all false
set_option linter.unusedSimpArgs false
set_option linter.unusedVariables false
open Go.RowKit

/-- (A goal at which the walk stays.) -/
theorem hold {p : Prop} (h : ∀ q : Prop, (p ↔ q) → q) : p := h p Iff.rfl
/-- Is a number from one to another one? (A name that the walk does not open.) -/
def inB (n l m : Int) : Bool := decide (l ≤ n) && decide (n ≤ m)
theorem inB_iff {n l m : Int} : inB n l m = true ↔ l ≤ n ∧ n ≤ m := by simp [inB]
theorem inB_false {n l m : Int} : inB n l m = false ↔ ¬ (l ≤ n ∧ n ≤ m) := by rw [← inB_iff]; simp
theorem cell_lt {w : World} {a : Addr} {v : Value} (h : w.cell? a = some v) : a.block < w.heap.size := by
  unfold World.cell? at h
  split at h
  · rename_i c e f hh
    exact (Array.getElem?_eq_some_iff.1 hh).1
  · cases h
/-- A function that has a body. -/
structure Enters (g : FuncId) : Prop where
  out : ∀ (args : Array Value) (W : World), (callFunc g args).run Tryd.prog W = .ok (.enter g args) W
theorem enters {g : FuncId} {fn : Func} (hf : Tryd.prog.funcs[g]? = some fn) (hname : (fn.name == "runtime.NumGoroutine") = false) (hb : fn.body.isSome = true) : Enters g := by
  refine ⟨fun args W => ?_⟩
  obtain ⟨c, hc⟩ := Option.isSome_iff_exists.1 hb
  have h1 : fn.name ≠ "runtime.NumGoroutine" := by simpa using hname
  simp [callFunc, hf, h1, hc]
/-- A load, by what the memory answers. -/
theorem wpList_loadE {P : Program} {ops : Array Oper} {rest : List Oper} {o : Oper} {a : Act} {w : World} {Q : Exit → Act → World → Prop} (hgd : o.guard = none) {ty : TypeId} {x : Operand} (ho : o.op = .load ty x)
    {ad : Addr} {v : Value} (hx : a.eval x = .pointer (some ad)) (hl : (loadVar ty ad).run P w = .ok v w)
    (h : wpList P ops Q rest (a.put o.dst v) w) : wpList P ops Q (o :: rest) a w := by
  refine wpList_step fun K hK => ?_
  rw [if_pos (by simp [Region.wanted, hgd])]
  unfold Oper.wp
  have hr : (execOp a.eval o).run P w = .ok (.value v) w := by
    unfold execOp
    simp only [ho, hx, Instr.loadAt, Instr.sureAddr, Sem.run_bind, Sem.run_pure, Result.andThen_ok, hl]
  rw [hr]
  exact hK _ _ h
/-- The first place at which something holds. -/
def First (p : Nat → Bool) (len : Nat) (r : Int) : Prop := (r = -1 ∧ ∀ i, i < len → p i = false) ∨ ∃ i, i < len ∧ r = (i : Int) ∧ p i = true ∧ ∀ k, k < i → p k = false
theorem First.all {p : Nat → Bool} {len : Nat} {r : Int} (h : First (fun i => !(p i)) len r) : (!(decide (0 ≤ r))) = true ↔ ∀ i, i < len → p i = true := by
  rcases h with ⟨rfl, h⟩ | ⟨i, hi, rfl, h, _⟩
  · simp only [show ¬ (0 : Int) ≤ -1 by omega, decide_false, Bool.not_false, true_iff]
    intro i hi
    simpa using h i hi
  · have hd : decide (0 ≤ (i : Int)) = true := decide_eq_true (by omega)
    rw [hd]
    simp only [Bool.not_true, Bool.false_eq_true, false_iff]
    intro hall
    have := hall i hi
    simp [this] at h
theorem stop_ {p : Prop} (h : Stay (id p)) : p := stay h
/-- A store of a whole struct into a variable that has just been made. -/
theorem wpList_storeNew {P : Program} {ops : Array Oper} {rest : List Oper} {o : Oper} {a : Act} {w : World} {Q : Exit → Act → World → Prop} (hgd : o.guard = none) {ty : TypeId} {x y : Operand} (ho : o.op = .store ty x y)
    {T : Nat} {zs cs : List Value} (hx : a.eval x = .pointer (some ⟨w.heap.size, 0, none⟩)) (hy : a.eval y = .agg cs.toArray) (hl : zs.length = cs.length) (hi : (P.info? ty).map (·.size) = some cs.length)
    (h1 : ∀ v ∈ cs, v.oneCell' = true) (h : ∀ W', Frm w.heap.size [] w W' → Blk W' w.heap.size T cs → W'.heap.size = w.heap.size + 1 → wpList P ops Q rest (a.put o.dst undef) W') :
    wpList P ops Q (o :: rest) a (w.alloc (.cells zs.toArray T (0, 0))) := by
  have hb := Blk.new w T zs
  refine wpList_storeB hgd ho hb hx hy hl hi h1 ?_
  refine h _ ?_ (hb.row cs) (by simp [World.setRow])
  exact ((Frm.refl _ _ w).alloc (Nat.le_refl _) _).setRow (.inr (Nat.le_refl _)) _
/-- A box of ours, and what is below it, behind a call that turns nothing. -/
theorem boxNext {W w w1 : World} {b T : Nat} {cs : List Value} (h : Blk W b T cs ∧ Frm w.heap.size [] w W) (hf : Frm W.heap.size [] W w1) : Blk w1 b T cs ∧ Frm w.heap.size [] w w1 :=
  ⟨hf.blk h.1 h.1.lt (by simp), h.2.call hf h.2.size (by simp)⟩
/-- A slice of structs, that is read: n of them, of 'size' cells each; f: their cells. -/
structure Rw (w : World) (size : Nat) (ad : Option Addr) (b off n : Nat) (f : Nat → List Value) : Prop where
  ad : 0 < n → ad = some ⟨b, off, none⟩
  len : n ≤ maxLen
  at_ : ∀ i, i < n → ∀ k v, (f i)[k]? = some v → w.cell? ⟨b, off + i * size + k, none⟩ = some v
theorem Rw.frm {w w' : World} {size : Nat} {ad : Option Addr} {b off n : Nat} {f : Nat → List Value} {B : Nat} (h : Rw w size ad b off n f) (hf : Frm B [] w w') (hB : w.heap.size ≤ B) : Rw w' size ad b off n f := by
  refine ⟨h.ad, h.len, fun i hi k v hv => ?_⟩
  have h0 := h.at_ i hi k v hv
  have := cell_lt h0
  rw [hf.cell (by simp at this ⊢; omega) (by simp)]
  exact h0
theorem Rw.load {w : World} {size : Nat} {ad : Option Addr} {b off n : Nat} {f : Nat → List Value} (h : Rw w size ad b off n f) {P : Program} {ty : TypeId} {d : TypeDesc} (hu : P.underlying ty = some d) (hd : d.isRow = true)
    {i : Nat} (hi : i < n) (hk : (P.info? ty).map (·.size) = some (f i).length) : (loadVar ty ⟨b, off + i * size, none⟩).run P w = .ok (.agg (f i).toArray) w :=
  run_loadVar_mid w b (off + i * size) ty (f i) d (fun j v hv => by exact h.at_ i hi j v hv) hu hd hk
theorem yields_loadE {P : Program} {ops : Array Oper} {S : World → Prop} {o : Oper} {a : Act} (hgd : o.guard = none) {ty : TypeId} {x : Operand} (ho : o.op = .load ty x)
    {ad : Addr} {v : Value} (hx : a.eval x = .pointer (some ad)) (hl : ∀ w, S w → (loadVar ty ad).run P w = .ok v w) :
    YieldsIf P ops S o v a :=
  .inl ⟨by simp [Region.wanted, hgd], fun w hw => by
    unfold execOp
    simp only [ho, hx, Instr.loadAt, Instr.sureAddr, Sem.run_bind, Sem.run_pure, Result.andThen_ok, hl w hw]⟩
theorem yields_loadG {P : Program} {ops : Array Oper} {S : World → Prop} {o : Oper} {a : Act} (hw : Region.wanted o (yielded ops a.tmps) = true) {ty : TypeId} {x : Operand} (ho : o.op = .load ty x)
    {ad : Addr} {v : Value} (hx : a.eval x = .pointer (some ad)) (hl : ∀ w, S w → (loadVar ty ad).run P w = .ok v w) :
    YieldsIf P ops S o v a :=
  .inl ⟨hw, fun w hw => by
    unfold execOp
    simp only [ho, hx, Instr.loadAt, Instr.sureAddr, Sem.run_bind, Sem.run_pure, Result.andThen_ok, hl w hw]⟩
/-- A guarded load, by what the memory answers. -/
theorem wpList_loadGE {P : Program} {ops : Array Oper} {rest : List Oper} {o : Oper} {a : Act} {w : World} {Q : Exit → Act → World → Prop} (hw : Region.wanted o (yielded ops a.tmps) = true) {ty : TypeId} {x : Operand} (ho : o.op = .load ty x)
    {ad : Addr} {v : Value} (hx : a.eval x = .pointer (some ad)) (hl : (loadVar ty ad).run P w = .ok v w)
    (h : wpList P ops Q rest (a.put o.dst v) w) : wpList P ops Q (o :: rest) a w := by
  refine wpList_step fun K hK => ?_
  rw [if_pos hw]
  unfold Oper.wp
  have hr : (execOp a.eval o).run P w = .ok (.value v) w := by
    unfold execOp
    simp only [ho, hx, Instr.loadAt, Instr.sureAddr, Sem.run_bind, Sem.run_pure, Result.andThen_ok, hl]
  rw [hr]
  exact hK _ _ h
/-- A slice of structs, all of whose cells are known, is read. -/
theorem Sl.rw {w : World} {E size : Nat} {v : Value} {n : Nat} {own : Option Nat} {f : Nat → List Value} (h : Sl w E size v n ((List.range n).flatMap f) own) (hf : ∀ i, (f i).length = size) :
    ∃ ad b off cap, v = .slice ad n cap ∧ Rw w size ad b off n f := by
  have hlen : ∀ m, ((List.range m).flatMap f).length = m * size := fun m => by
    induction m with
    | zero => simp
    | succ m ih => rw [List.range_succ, List.flatMap_append, List.length_append, ih]; simp [hf, Nat.add_mul]
  have hat : ∀ m i k, i < m → k < size → ((List.range m).flatMap f)[i * size + k]? = (f i)[k]? := fun m => by
    induction m with
    | zero => intro i k hi; omega
    | succ m ih =>
      intro i k hi hk
      rw [List.range_succ, List.flatMap_append]
      by_cases e : i < m
      · have hlt : i * size + k < ((List.range m).flatMap f).length := by
          rw [hlen]
          have : (i + 1) * size ≤ m * size := Nat.mul_le_mul_right _ e
          rw [Nat.add_mul] at this
          omega
        rw [List.getElem?_append_left hlt]
        exact ih i k e hk
      · obtain rfl : i = m := by omega
        rw [List.getElem?_append_right (by rw [hlen]; omega), hlen]
        simp
  rcases h.2 with ⟨e, e2, _⟩ | ⟨b, off, cap, arr, e1, e2, e3, e4, e5, e6, e7⟩
  · subst e2
    exact ⟨none, 0, 0, 0, e, ⟨fun h => absurd h (by omega), Nat.zero_le _, fun i hi => absurd hi (by omega)⟩⟩
  · refine ⟨some ⟨b, off, none⟩, b, off, cap, e1, ⟨fun _ => rfl, Nat.le_trans e4 e5, fun i hi k v hv => ?_⟩⟩
    have hk : k < size := by have := (List.getElem?_eq_some_iff.1 hv).1; rw [hf] at this; exact this
    subst e1
    have hj : i * size + k < ((List.range n).flatMap f).length := by
      rw [hlen]
      have : (i + 1) * size ≤ n * size := Nat.mul_le_mul_right _ hi
      rw [Nat.add_mul] at this
      omega
    have := h.cell (i * size + k) hj
    rw [hat n i k hi hk, hv, ← Nat.add_assoc] at this
    exact this
/-- A slice of integers is read. -/
abbrev RwI (w : World) (ad : Option Addr) (b off n : Nat) (F : Nat → Int) : Prop := Rw w 1 ad b off n fun i => [.int .i64 (F i)]
theorem Rw.cellI {w : World} {ad : Option Addr} {b off n : Nat} {F : Nat → Int} (h : RwI w ad b off n F) {i : Nat} (hi : i < n) : w.cell? ⟨b, off + i, none⟩ = some (.int .i64 (F i)) := by
  have := h.at_ i hi 0 _ rfl
  simpa using this
theorem wrapUp {k n : Nat} (h : k < n) (hn : n ≤ maxLen) : IntKind.i64.wrap ((k : Int) + 1) = (k : Int) + 1 ∧ wrap64 ((k : Int) + 1) = (k : Int) + 1 := by
  have : n ≤ 9223372036854775807 := hn
  exact ⟨IntWalk.i64_in _ (by omega), IntWalk.wrap64_in _ (by omega)⟩
theorem meas_up {n j : Nat} (h : j < n) : n - ((j : Int) + 1).toNat < n - ((j : Int)).toNat := by omega
def intsC (l : List Nat) : List Value := l.map fun (n : Nat) => Value.int .i64 (n : Int)
theorem intsC_len (l : List Nat) : (intsC l).length = l.length := by simp [intsC]
theorem intsC_one (l : List Nat) : ∀ u ∈ intsC l, u.oneCell' = true := by
  intro u hu
  simp only [intsC, List.mem_map] at hu
  obtain ⟨n, _, rfl⟩ := hu
  rfl
theorem Sl.ints {w : World} {v : Value} {n : Nat} {l : List Nat} {own : Option Nat} (h : Sl w 3 1 v n (intsC l) own) : l.length = n ∧ ∃ ad b off cap, v = .slice ad n cap ∧ RwI w ad b off n fun i => (l.getD i 0 : Int) := by
  have hl : l.length = n := by have := h.1; rw [intsC_len] at this; omega
  refine ⟨hl, ?_⟩
  rcases h.2 with ⟨e, e2, _⟩ | ⟨b, off, cap, arr, e1, e2, e3, e4, e5, e6, e7⟩
  · subst e2
    exact ⟨none, 0, 0, 0, e, ⟨fun h => absurd h (by omega), Nat.zero_le _, fun i hi => absurd hi (by omega)⟩⟩
  · refine ⟨some ⟨b, off, none⟩, b, off, cap, e1, ⟨fun _ => rfl, Nat.le_trans e4 e5, fun i hi k v hv => ?_⟩⟩
    subst e1
    have hk : k = 0 := by have := (List.getElem?_eq_some_iff.1 hv).1; simp at this; omega
    subst hk
    have hc := h.cell i (by rw [intsC_len]; omega)
    simp only [Nat.mul_one, Nat.add_zero]
    rw [hc]
    simp only [intsC, List.getElem?_map, List.getElem?_eq_getElem (show i < l.length by omega), Option.map_some]
    rw [← hv]
    simp [List.getD_eq_getElem?_getD, List.getElem?_eq_getElem (show i < l.length by omega)]
def at0 (l : List Nat) (i : Nat) : Int := (l.getD i 0 : Int)
theorem ints_at0 {w : World} {v : Value} {n : Nat} {l : List Nat} {own : Option Nat} (h : Sl w 3 1 v n (intsC l) own) : ∃ ad b off cap, v = .slice ad n cap ∧ RwI w ad b off n (at0 l) := h.ints.2
theorem info_parts3 {i : TypeId} {z : Value} {s n : Nat} (h : (Tryd.prog.info? i).map (fun i => (i.zero, i.size, i.bytes)) = some (some z, s, n)) : ∃ i0, Tryd.prog.info? i = some i0 ∧ i0.zero = some z ∧ i0.size = s ∧ i0.bytes = n := by
  obtain ⟨i0, h0, h1⟩ := Option.map_eq_some_iff.1 h
  simp only [Prod.mk.injEq] at h1
  exact ⟨i0, h0, h1.1, h1.2.1, h1.2.2⟩
theorem keepY_of {B z : Nat} {S Sx : List Nat} {W W' : World} (h : Frm W.heap.size Sx W W') (hB : B ≤ W.heap.size) (h1 : ∀ x ∈ Sx, x < B → x ∈ S) (h2 : ∀ x ∈ Sx, x < z) : KeepY B S z W W' :=
  ⟨h.mono hB (fun k hk hm => h1 k hm hk), fun k hz hk => h.block k hk (fun hm => by have := h2 k hm; omega)⟩
def retOnly (Q : Exit → Act → World → Prop) : Exit → Act → World → Prop
  | .ret, a, w => Q .ret a w
  | _, _, _ => False
theorem retOnly_le {Q : Exit → Act → World → Prop} : ∀ e a w, retOnly Q e a w → Q e a w := fun e a w h => by
  cases e <;> first | exact h | exact h.elim
theorem namedCalls {P : Program} {f : FuncId} {args : Array Value} {w : World} {R : Ending → World → Prop} (h : ∀ W, W = w → Calls P f args W R) : Calls P f args w R := h w rfl
theorem noOut {K : Act → World → Prop} {Q : Exit → Act → World → Prop} (h : ¬ LetsOut Q) : ¬ LetsOut (Exit.then K Q) := fun ⟨a, w, hq⟩ => h ⟨a, w, hq⟩
theorem noOutB {id : Nat} {Q : Exit → Act → World → Prop} (h : ¬ LetsOut Q) : ¬ LetsOut (Exit.inBlock id Q) := fun ⟨a, w, hq⟩ => h ⟨a, w, hq⟩
theorem noOutR {w : World} {S0 : List Nat} {z : Nat} {J Jx : Nat → World → Prop} {cont : Nat → Bool} {i : Nat} {W : World} : ¬ LetsOut (roundQ w S0 z J Jx cont i W) := fun ⟨_, _, hq⟩ => hq
theorem noOutF : ¬ LetsOut (fun _ _ _ => False) := fun ⟨_, _, hq⟩ => hq
theorem run_min2 {P : Program} (p q : Int) (w : World) : (Builtin.min2 (.int .i64 p) (.int .i64 q)).run P w = .ok (.int .i64 (min p q)) w := by
  unfold Builtin.min2
  simp [go_sem, Int.min_def]
  by_cases h : q < p <;> simp_all <;> omega
theorem run_max2 {P : Program} (p q : Int) (w : World) : (Builtin.max2 (.int .i64 p) (.int .i64 q)).run P w = .ok (.int .i64 (max p q)) w := by
  unfold Builtin.max2
  simp [go_sem, Int.max_def]
  by_cases h : p < q <;> simp_all <;> omega
theorem run_min_ {P : Program} (p q : Int) (w : World) : (Builtin.min_ #[3, 3] 3 #[.int .i64 p, .int .i64 q]).run P w = .ok (.int .i64 (min p q)) w := by
  simp [Builtin.min_, run_min2]
theorem run_max_ {P : Program} (p q : Int) (w : World) : (Builtin.max_ #[3, 3] 3 #[.int .i64 p, .int .i64 q]).run P w = .ok (.int .i64 (max p q)) w := by
  simp [Builtin.max_, run_max2]
theorem Rw.frmS {w w' : World} {size : Nat} {ad : Option Addr} {b off n : Nat} {f : Nat → List Value} {S : List Nat} (h : Rw w size ad b off n f) (hf : Frm w.heap.size S w w') (hb : b ∉ S) : Rw w' size ad b off n f := by
  refine ⟨h.ad, h.len, fun i hi k v hv => ?_⟩
  have h0 := h.at_ i hi k v hv
  have := cell_lt h0
  rw [hf.cell (by simpa using this) (by simpa using hb)]
  exact h0
theorem wpListIn_loadE {P : Program} {F : Fence} {n : Nat} {ops : Array Oper} {Q : Exit → Act → World → Prop} {a : Act} {w : World} {rest : List Oper} {o : Oper} (hgd : o.guard = none) (hF : ∀ f, F.fn f) {ty : TypeId} {x : Operand} (ho : o.op = .load ty x)
    {ad : Addr} {v : Value} (hx : a.eval x = .pointer (some ad)) (hl : (loadVar ty ad).run P w = .ok v w) (h : wpListIn F n P ops Q rest (a.put o.dst v) w) : wpListIn F n P ops Q (o :: rest) a w :=
  wpListIn_value hgd hF (fun c hc => by rw [ho] at hc; cases hc) (by unfold execOp; simp only [ho, hx, Instr.loadAt, Instr.sureAddr, Sem.run_bind, Sem.run_pure, Result.andThen_ok, hl]) h
/-- What stands in a slice may be written. -/
theorem Sl.there {w : World} {E size : Nat} {n b off cap : Nat} {cs : List Value} {own : Option Nat} (h : Sl w E size (.slice (some ⟨b, off, none⟩) n cap) n cs own) : w.there b off (n * size) := fun j hj =>
  ⟨by rw [h.cell j (by rw [h.1]; exact hj), List.getElem?_eq_getElem (by rw [h.1]; exact hj)]; rfl, h.free (off + j)⟩
theorem there_part {w : World} {b off n m o : Nat} (h : w.there b off n) (hm : o + m ≤ n) : w.there b (off + o) m := fun j hj => by
  have := h (o + j) (by omega)
  rw [← Nat.add_assoc] at this
  exact this
theorem Frm.setCells {B : Nat} {S : List Nat} {a : World} (b : Nat) (hp : b ∈ S ∨ B ≤ b) : ∀ (vs : List Value) (o : Nat) (w : World), Frm B S a w → Frm B S a (w.setCells b o vs)
  | [], _, _, h => h
  | v :: vs, o, w, h => Frm.setCells b hp vs (o + 1) _ (h.setCell (p := ⟨b, o, none⟩) hp v)
theorem Frm.there {B : Nat} {S : List Nat} {w w' : World} (h : Frm B S w w') {b off n : Nat} (k : w.there b off n) (hp : b < B) (hn : b ∉ S) : w'.there b off n := fun j hj => by
  obtain ⟨h1, h2⟩ := k j hj
  refine ⟨by rw [h.cell (p := ⟨b, off + j, none⟩) hp hn]; exact h1, ?_⟩
  rw [← h2]
  simp only [World.frozen?]
  rw [h.block b hp hn]
theorem sl_buildEmpty (w : World) (E size : Nat) : Sl (w.alloc (Obj.cells #[] E)) E size (.slice (some ⟨w.heap.size, 0, none⟩) 0 0) 0 [] (some w.heap.size) :=
  ⟨by simp, .inr ⟨w.heap.size, 0, 0, _, rfl, rfl, heap_alloc_new w _, Nat.le_refl _, Nat.zero_le _, by simp, by simp⟩⟩
/-- A slice's place. -/
theorem Sl.place {w : World} {E size : Nat} {v : Value} {n : Nat} {cs : List Value} {own : Option Nat} (h : Sl w E size v n cs own) : ∃ a cap b off, v = .slice a n cap ∧ (0 < n → a = some ⟨b, off, none⟩) ∧ (0 < n → own = some b) ∧ w.there b off (n * size) := by
  rcases h.2 with ⟨e, e2, e3⟩ | ⟨b, off, cap, arr, e1, e2, _⟩
  · subst e e2
    exact ⟨none, 0, 0, 0, rfl, fun h => absurd h (by omega), fun h => absurd h (by omega), fun j hj => absurd hj (by omega)⟩
  · subst e1
    exact ⟨_, cap, b, off, rfl, fun _ => rfl, fun _ => e2, h.there⟩
theorem Sl.there_of {w : World} {E size : Nat} {a : Option Addr} {n b off cap : Nat} {cs : List Value} {own : Option Nat} (h : Sl w E size (.slice a n cap) n cs own) (ha : 0 < n → a = some ⟨b, off, none⟩) : w.there b off (n * size) := by
  rcases Nat.eq_zero_or_pos n with h0 | h0
  · subst h0
    intro j hj
    simp at hj
  · have := ha h0
    subst this
    exact h.there
theorem Sl.n_le {w : World} {E size : Nat} {v : Value} {n : Nat} {cs : List Value} {own : Option Nat} (h : Sl w E size v n cs own) : n ≤ maxLen := by
  rcases h.2 with ⟨_, e2, _⟩ | ⟨b, off, cap, arr, e1, e2, e3, e4, e5, _⟩
  · omega
  · omega
theorem Sl.ints0 {w : World} {a : Option Addr} {n cap : Nat} {l : List Nat} {own : Option Nat} (h : Sl w 3 1 (.slice a n cap) n (intsC l) own) : ∃ b off, RwI w a b off n (at0 l) := by
  obtain ⟨ad, b, off, c, e, hr⟩ := ints_at0 h
  cases e
  exact ⟨b, off, hr⟩
/-- A slice through stores into other slices. -/
theorem Sl.beside {w w' : World} {E size : Nat} {v : Value} {n : Nat} {cs : List Value} {own o2 : Option Nat} {B : Nat} (h : Sl w E size v n cs own) (hf : Frm B o2.toList w w') (hB : w.heap.size ≤ B) (hne : ∀ b, own = some b → o2 ≠ some b) : Sl w' E size v n cs own :=
  h.frm hf (fun b hb => Nat.lt_of_lt_of_le (h.lt b hb) hB) (fun b hb hm => hne b hb (by simpa using hm))
theorem info3x : (Tryd.prog.info? 3).map (fun i => (i.zero, i.size, i.bytes)) = some (some (.int .i64 0), 1, 8) := by kernel_rfl
theorem intsC_snoc (l : List Nat) (k : Nat) : intsC (l ++ [k]) = intsC l ++ [.int .i64 (k : Int)] := by simp [intsC]
theorem LeftL.runG {P : Program} {l : List Oper} {Q : Exit → Act → World → Prop} {S : World → Prop} {t : Nat} {done : List Nat} {a : Act} {w : World} (i : Nat) {o : Oper} {v : Value} (ho : l[i]? = some o) (hB : takeC l t done i = true) (hw : Region.wanted o (yielded l.toArray a.tmps) = true)
    (hQ : ∀ c a d v w, Q (.panic c) (a.put d v) w → Q (.panic c) a w) (hy : ∀ w, S w → (execOp a.eval o).run P w = .ok (.value v) w) (hS : S w)
    (h : ∀ K' : Act → Prop, (∀ a, LeftL P l Q S t (done ++ [i]) a w → K' a) → K' (a.put o.dst v)) : LeftL P l Q S t done a w :=
  LeftL.take i ho hB hQ (.inl ⟨hw, hy⟩) hS h
/-- The same, short. -/
theorem LeftL.tkF {P : Program} {l : List Oper} {Q : Exit → Act → World → Prop} {S : World → Prop} {t : Nat} {done : List Nat} {a : Act} {w : World} (i : Nat) {o : Oper} {v : Value} (ho : l[i]? = some o) (hS : S w)
    (hy : ∀ w, S w → (execOp a.eval o).run P w = .ok (.value v) w) (h : ∀ K' : Act → Prop, (∀ a, LeftL P l Q S t (done ++ [i]) a w → K' a) → K' (a.put o.dst v))
    (hB : takeC l t done i = true := by kernel_rfl) (hg : o.guard = none := by rfl) (hQ : ∀ c a d v w, Q (.panic c) (a.put d v) w → Q (.panic c) a w := by intro _ _ d _ _ h; cases d <;> exact h) : LeftL P l Q S t done a w :=
  LeftL.run i ho hB hg hQ hy hS h
theorem LeftL.tkG {P : Program} {l : List Oper} {Q : Exit → Act → World → Prop} {S : World → Prop} {t : Nat} {done : List Nat} {a : Act} {w : World} (i : Nat) {o : Oper} {v : Value} (ho : l[i]? = some o) (hS : S w)
    (hy : ∀ w, S w → (execOp a.eval o).run P w = .ok (.value v) w) (h : ∀ K' : Act → Prop, (∀ a, LeftL P l Q S t (done ++ [i]) a w → K' a) → K' (a.put o.dst v))
    (hB : takeC l t done i = true := by kernel_rfl) (hw : Region.wanted o (yielded l.toArray a.tmps) = true := by rfl) (hQ : ∀ c a d v w, Q (.panic c) (a.put d v) w → Q (.panic c) a w := by intro _ _ d _ _ h; cases d <;> exact h) : LeftL P l Q S t done a w :=
  LeftL.runG i ho hB hw hQ hy hS h
theorem LeftL.tkN {P : Program} {l : List Oper} {Q : Exit → Act → World → Prop} {S : World → Prop} {t : Nat} {done : List Nat} {a : Act} {w : World} (i : Nat) {o : Oper} (ho : l[i]? = some o) (hS : S w)
    (h : ∀ K' : Act → Prop, (∀ a, LeftL P l Q S t (done ++ [i]) a w → K' a) → K' (a.put o.dst undef))
    (hB : takeC l t done i = true := by kernel_rfl) (hQ : ∀ c a d v w, Q (.panic c) (a.put d v) w → Q (.panic c) a w := by intro _ _ d _ _ h; cases d <;> exact h)
    (hy : YieldsIf P l.toArray S o undef a := by exact .inr ⟨rfl, rfl⟩) : LeftL P l Q S t done a w :=
  LeftL.take i ho hB hQ hy hS h
end Go.Proofs.YtfmigicmfolbjaaDoor
