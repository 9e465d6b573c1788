/-
  A REGION THAT DRAWS ITS ORDER, walked in the order of its text, over a class of worlds: a head of operations that each yield one value in every world of the class (calls may be among them, which stay in the class), and a tail whose order is forced (a store, an append, a call that writes).
  Once for the plain walk, once inside a fence, in a round of a range over a function too.
-/
import Derived.StillTail
import Derived.Deep.Quiet
import Derived.Sort.QuietThIn
import Derived.TacticsIn
namespace Go.Proofs.YtghkfopcjdkieaaDoor
set_option linter.all false
set_option linter.unusedSimpArgs false
set_option linter.unusedVariables false

section
variable {ops : Array Oper} {Yv : Oper → Value → Act → Prop}

/-- That a value stays yielded when another operation, apart from this one, has been carried out or not yet. -/
structure Steady (ops : Array Oper) (Yv : Oper → Value → Act → Prop) : Prop where
  sel : ∀ (j : Nat) (o : Oper) cs b, ops[j]? = some o → o.op ≠ .select cs b
  onto : ∀ {x y : Oper} {v u : Value} {a : Act}, (∀ cs b, x.op ≠ .select cs b) → (∀ d, y.dst = some d → d ∉ x.looksAt ops) → (Yv x v (a.put y.dst u) ↔ Yv x v a)

/-- The first k operations have been carried out. -/
def pre (ops : Array Oper) : Nat → Array Bool
  | 0 => Array.replicate ops.size false
  | k + 1 => (pre ops k).setIfInBounds k true

/-- Each operation behind number n waits for number n or for one behind it. -/
def lateB (ops : Array Oper) (n : Nat) : Bool :=
  (List.range ops.size).all fun t => decide (t ≤ n) || (List.range t).any fun j => decide (n ≤ j) && Region.waitsFor .any ops t j

theorem late_waits {n : Nat} {listed : Array Bool} (hs : Region.sinkB .any ops n = true) (hl : lateB ops n = true) (inv : HeadInv .any ops n listed) {i : Nat} (hi : i < n) (hun : listed.getD i false = false) :
    ∀ t, t ∈ Region.ready .any ops listed → t < n := by
  intro t hr
  rcases Nat.lt_or_ge t n with h | ht
  · exact h
  exfalso
  obtain ⟨_, o, ho, hall⟩ := mem_ready.1 hr
  have htl : t < ops.size := (Array.getElem?_eq_some_iff.1 ho).1
  have notLate : ∀ j, n ≤ j → j < ops.size → listed.getD j false = false := fun j h1 h2 => getD_both (inv.tail j h1 h2)
  rcases Nat.lt_or_ge n t with hgt | hle
  · have h1 := List.all_eq_true.1 hl t (List.mem_range.2 htl)
    rw [Bool.or_eq_true] at h1
    rcases h1 with h1 | h1
    · have := of_decide_eq_true h1; omega
    · obtain ⟨j, hj, h2⟩ := List.any_eq_true.1 h1
      rw [Bool.and_eq_true] at h2
      obtain ⟨o', ho', e, he, hb, hon⟩ := Region.waitsFor_spec h2.2
      obtain rfl : o' = o := Option.some.inj (ho'.symm.trans ho)
      have h3 := hall e he hb
      rw [hon, notLate j (of_decide_eq_true h2.1) (by have := List.mem_range.1 hj; omega)] at h3
      cases h3
  · obtain rfl : t = n := by omega
    -- whatever is ready at n has all of the head behind it
    have key : ∀ d k, t - k ≤ d → k < t → listed.getD k false = true := by
      intro d
      induction d with
      | zero => intro k h1 h2; omega
      | succ d ih =>
        intro k h1 h2
        obtain ⟨j, hj, h3⟩ := List.any_eq_true.1 (List.all_eq_true.1 hs k (List.mem_range.2 h2))
        rw [Bool.and_eq_true] at h3
        have hkj := of_decide_eq_true h3.1
        have hjt : j ≤ t := by have := List.mem_range.1 hj; omega
        obtain ⟨y, hy, e, he, hb, hon⟩ := Region.waitsFor_spec h3.2
        rcases Nat.lt_or_ge j t with h4 | h4
        · exact hon ▸ inv.closed j y hy (ih j (by omega) h4) e he hb
        · obtain rfl : j = t := by omega
          obtain rfl : y = o := Option.some.inj (hy.symm.trans ho)
          exact hon ▸ hall e he hb
    rw [key t i (by omega) hi] at hun
    cases hun

/-- What is asked of the operations behind a head: each of them waits for the whole head. -/
def waitB (ops : Array Oper) (n : Nat) : Bool := decide (n = ops.size) || Region.sinkB .any ops n && lateB ops n
theorem wait_waits {n : Nat} {listed : Array Bool} (hs : waitB ops n = true) (inv : HeadInv .any ops n listed) {i : Nat} (hi : i < n) (hun : listed.getD i false = false) :
    ∀ t, t ∈ Region.ready .any ops listed → t < n := by
  unfold waitB at hs
  rw [Bool.or_eq_true, Bool.and_eq_true, decide_eq_true_eq] at hs
  rcases hs with rfl | ⟨h1, h2⟩
  · intro t hr
    obtain ⟨_, o, ho, _⟩ := mem_ready.1 hr
    exact (Array.getElem?_eq_some_iff.1 ho).1
  · exact late_waits h1 h2 inv hi hun

/-- The head: f operations are still to come, each of them ready only if it is one of the first n. -/
def headOK (ops : Array Oper) (Yv : Oper → Value → Act → Prop) (n : Nat) (L : Array Bool → Act → Prop) : Nat → Array Bool → Act → Prop
  | 0, listed, a => L listed a
  | f + 1, listed, a => Region.ready .any ops listed ≠ [] ∧ ∀ i ∈ Region.ready .any ops listed, i < n ∧ ∃ o v, ops[i]? = some o ∧ Yv o v a ∧ headOK ops Yv n L f (listed.setIfInBounds i true) (a.put o.dst v)

theorem headOK_first (st : Steady ops Yv) {n i : Nat} {x : Oper} {v : Value} {L : Array Bool → Act → Prop} (hi : ops[i]? = some x)
    (hs : waitB ops n = true) (hin : i < n)
    (hL : ∀ listed a, L listed a → ∀ j ∈ Region.ready .any ops listed, n ≤ j) :
    ∀ (f : Nat) (listed : Array Bool) (a : Act), HeadInv .any ops n listed →
      (∀ j y, ops[j]? = some y → j ≠ i → listed.getD j true = false → (∀ e ∈ y.after, Region.binds .any e = true → e.on ≠ i) → x.apart ops y = true) →
      i ∈ Region.ready .any ops listed → Yv x v a → headOK ops Yv n L f (listed.setIfInBounds i true) (a.put x.dst v) → headOK ops Yv n L (f + 1) listed a := by
  intro f
  induction f with
  | zero =>
    intro listed a inv _ hr hy H
    have inHead := wait_waits hs inv hin (getD_both (mem_ready.1 hr).1)
    refine ⟨List.ne_nil_of_mem hr, fun j hj => ⟨inHead j hj, ?_⟩⟩
    by_cases e : j = i
    · exact e ▸ ⟨x, v, hi, hy, H⟩
    · have h1 := hL _ _ H j (ready_mono hj e)
      have h2 := inHead j hj
      omega
  | succ f ih =>
    intro listed a inv hfree hr hy H
    refine ⟨List.ne_nil_of_mem hr, fun j hj => ?_⟩
    have hjn : j < n := wait_waits hs inv hin (getD_both (mem_ready.1 hr).1) j hj
    refine ⟨hjn, ?_⟩
    by_cases e : j = i
    · exact e ▸ ⟨x, v, hi, hy, H⟩
    · obtain ⟨_, y, u, hy0, hyu, H'⟩ := H.2 j (ready_mono hj e)
      obtain ⟨hjun, y', hy', hall⟩ := mem_ready.1 hj
      obtain rfl : y = y' := Option.some.inj (hy0.symm.trans hy')
      have hap : x.apart ops y = true := hfree j y hy0 e hjun fun e' he hb heq => by
        have h1 := hall e' he hb
        rw [heq, getD_both (mem_ready.1 hr).1] at h1
        cases h1
      obtain ⟨p1, p2, p3⟩ := Oper.apart_spec hap
      refine ⟨y, u, hy0, (st.onto (fun cs b => st.sel j y cs b hy0) p1).1 hyu, ?_⟩
      refine ih (listed.setIfInBounds j true) (a.put y.dst u) (inv.set hj hjn) (fun k z hz hki hun hno => ?_) (ready_mono hr (Ne.symm e)) ((st.onto (fun cs b => st.sel i x cs b hi) p3).2 hy) ?_
      · refine hfree k z hz hki ?_ hno
        by_cases hjk : j = k
        · exact hjk ▸ hjun
        · rwa [getD_set_ne true hjk] at hun
      · rw [Array.setIfInBounds_comm _ _ e, ← Act.put_comm a v u p2]
        exact H'

/-- The walk of the head in the order of the text. -/
def headLex (Yv : Oper → Value → Act → Prop) (Lq : Act → Prop) : List Oper → Act → Prop
  | [], a => Lq a
  | o :: l, a => ∃ v, Yv o v a ∧ headLex Yv Lq l (a.put o.dst v)

/-- Operations k, k + 1, .. may be taken in this order, f of them. -/
def freeB (ops : Array Oper) : Nat → Nat → Bool
  | 0, _ => true
  | f + 1, k => (Region.ready .any ops (pre ops k)).contains k && Region.free .any ops (pre ops k) k && freeB ops f (k + 1)

theorem headOK_lex (st : Steady ops Yv) {n : Nat} {Lq : Act → Prop} (hs : waitB ops n = true)
    (hend : ∀ j ∈ Region.ready .any ops (pre ops n), n ≤ j) :
    ∀ (l : List Oper) (k : Nat) (a : Act), (∀ j, j < l.length → l[j]? = ops[k + j]?) → k + l.length = n → HeadInv .any ops n (pre ops k) →
      freeB ops l.length k = true → headLex Yv Lq l a → headOK ops Yv n (fun listed' a' => listed' = pre ops n ∧ Lq a') l.length (pre ops k) a
  | [], k, a, _, hk, _, _, h => by
    obtain rfl : k = n := by simpa using hk
    exact ⟨rfl, h⟩
  | o :: l, k, a, hl, hk, inv, hB, h => by
    have h0 : ops[k]? = some o := by simpa using (hl 0 (by simp)).symm
    simp only [List.length_cons, freeB, Bool.and_eq_true] at hB
    obtain ⟨⟨hr, hf⟩, hB'⟩ := hB
    have hkn : k < n := by simp only [List.length_cons] at hk; omega
    have hr' : k ∈ Region.ready .any ops (pre ops k) := by simpa using hr
    obtain ⟨v, hy, hK⟩ := h
    exact headOK_first st h0 hs hkn (fun listed' a' hL => by rw [hL.1]; exact hend) l.length (pre ops k) a inv (Region.free_spec h0 hf) hr' hy
      (headOK_lex st hs hend l (k + 1) _ (fun j hj => by have := hl (j + 1) (by simp; omega); simpa [Nat.add_assoc, Nat.add_comm 1 j] using this) (by simp only [List.length_cons] at hk; omega) (inv.set hr' hkn) hB' hK)

theorem pre_size (ops : Array Oper) : ∀ k, (pre ops k).size = ops.size
  | 0 => by simp [pre]
  | k + 1 => by simp [pre, pre_size ops k]
theorem pre_getD (ops : Array Oper) (j : Nat) (hj : j < ops.size) : ∀ k, (pre ops k).getD j false = decide (j < k)
  | 0 => by
    show (Array.replicate ops.size false).getD j false = decide (j < 0)
    rw [getD_replicate_false]
    simp
  | k + 1 => by
    have ih := pre_getD ops j hj k
    simp only [pre]
    by_cases e : k = j
    · subst e
      simp [Array.getD, pre_size, hj]
    · rw [getD_set_ne false e, ih]
      simp only [decide_eq_decide]
      omega

/-- What the kernel is asked of a head: operations k to n - 1. -/
def headB (ops : Array Oper) (k n : Nat) : Bool :=
  Region.noSelect ops && decide (k ≤ n) && decide (n ≤ ops.size) && waitB ops n &&
  ((List.range k).all fun j => (ops[j]?.map fun o => o.after.all fun e => !Region.binds .any e || decide (e.on < k)).getD true) &&
  (Region.ready .any ops (pre ops n)).all (fun j => decide (n ≤ j)) && freeB ops (n - k) k

theorem headInv_of {k n : Nat} (hk : k ≤ n) (hn : n ≤ ops.size) (h : ((List.range k).all fun j => (ops[j]?.map fun o => o.after.all fun e => !Region.binds .any e || decide (e.on < k)).getD true) = true) : HeadInv .any ops n (pre ops k) := by
  refine ⟨pre_size ops k, fun j o hj hl e he hb => ?_, fun t h1 h2 => getD_in (by rw [pre_size]; exact h2) (by rw [pre_getD ops t h2]; simp; omega)⟩
  have hjs : j < ops.size := (Array.getElem?_eq_some_iff.1 hj).1
  rw [pre_getD ops j hjs, decide_eq_true_eq] at hl
  have h1 := List.all_eq_true.1 h j (List.mem_range.2 hl)
  rw [hj, Option.map_some, Option.getD_some] at h1
  obtain ⟨i, hi, rfl⟩ := Array.mem_iff_getElem.1 he
  have h2 := Array.all_eq_true.1 h1 i hi
  rw [hb] at h2
  have h3 : o.after[i].on < k := by simpa using h2
  rw [pre_getD ops _ (by omega)]
  simpa using h3
end

/-! ### The plain walk -/
section
variable {P : Program} {ops : Array Oper} {C : World → Prop}

theorem steady_plain (hsel : Region.noSelect ops = true) : Steady ops (YieldsIn P ops C) :=
  ⟨Region.noSelect_spec hsel, fun {x y _ u a} hx hd =>
    ⟨fun h => h.of_same (execOp_put x hx a y.dst u hd).symm (wanted_put x a y.dst u hd).symm, fun h => h.of_same (execOp_put x hx a y.dst u hd) (wanted_put x a y.dst u hd)⟩⟩

theorem headLex_of_quiet {Lq : Act → Prop} : ∀ (l : List Oper) (a : Act), wpQuiet P ops C Lq l a → headLex (YieldsIn P ops C) Lq l a
  | [], _, h => h
  | o :: l, a, h => by
    unfold wpQuiet at h
    by_cases hw : Region.wanted o (yielded ops a.tmps) = true
    · simp only [hw, if_true] at h
      obtain ⟨v, h1, h2⟩ := h
      exact ⟨v, .inl ⟨hw, h1⟩, headLex_of_quiet l _ h2⟩
    · simp only [hw, if_false, Bool.false_eq_true] at h
      exact ⟨undef, .inr ⟨by simpa using hw, rfl⟩, headLex_of_quiet l _ h⟩

theorem wpAny_of_headOK {n g : Nat} {L : Array Bool → Act → Prop} {Q : Exit → Act → World → Prop} (hL : ∀ listed a w, C w → L listed a → wpAny P .any ops Q g listed a w) :
    ∀ (f : Nat) (listed : Array Bool) (a : Act) (w : World), C w → headOK ops (YieldsIn P ops C) n L f listed a → wpAny P .any ops Q (f + g) listed a w
  | 0, listed, a, w, hw, h => by rw [Nat.zero_add]; exact hL _ _ _ hw h
  | f + 1, listed, a, w, hw, h => by
    rw [show f + 1 + g = (f + g) + 1 by omega]
    refine ⟨fun h0 => absurd h0 h.1, fun i hi => ?_⟩
    obtain ⟨_, o, _, ho, hy, h'⟩ := h.2 i hi
    exact wpOp_of_qOp hw (fun a' w' hw' h2 => wpAny_of_headOK hL f _ a' w' hw' h2) (hy.qOp ho h')

/-- What is still to be walked of a region when its first k operations have been carried out. -/
def Left (P : Program) (l : List Oper) (Q : Exit → Act → World → Prop) (k : Nat) (a : Act) (w : World) : Prop := wpAny P .any l.toArray Q (l.length - k) (pre l.toArray k) a w

/-- The region begins. -/
theorem wp_region_left {id : Nat} {Q : Exit → Act → World → Prop} {a : Act} {w : World} {l : List Oper} (hm : P.follows .mixedOrders = true) (h : Left P l Q 0 a w.drew) : (Code.region id l.toArray true).wp P Q a w :=
  wp_region_any hm (by simpa [Left, pre] using h)

/-- A HEAD: operations k to n - 1 only read, or call what stays in the class C. -/
theorem Left.head {Q : Exit → Act → World → Prop} {a : Act} {w : World} {l : List Oper} {k : Nat} (n : Nat) (C : World → Prop) (hB : headB l.toArray k n = true) (hC : C w)
    (h : wpQuiet P l.toArray C (fun a' => ∀ w', C w' → Left P l Q n a' w') ((l.drop k).take (n - k)) a) : Left P l Q k a w := by
  simp only [headB, Bool.and_eq_true, decide_eq_true_eq] at hB
  obtain ⟨⟨⟨⟨⟨⟨hsel, hkn⟩, hn⟩, hs⟩, hcl⟩, hend⟩, hf⟩ := hB
  have hn' : n ≤ l.length := by simpa using hn
  have hlen : ((l.drop k).take (n - k)).length = n - k := by simp; omega
  have H := headOK_lex (steady_plain (P := P) (C := C) hsel) hs (fun j hj => of_decide_eq_true (List.all_eq_true.1 hend j hj)) ((l.drop k).take (n - k)) k a (fun j hj => by
    rw [hlen] at hj
    simp [List.getElem?_take, hj]) (by rw [hlen]; omega) (headInv_of hkn hn hcl) (by rw [hlen]; exact hf) (headLex_of_quiet _ _ h)
  have := wpAny_of_headOK (Q := Q) (g := l.length - n) (fun listed a' w' hw' hL => by rw [hL.1]; exact hL.2 w' hw') _ _ _ _ hC H
  rw [hlen, show n - k + (l.length - n) = l.length - k by omega] at this
  exact this

theorem Left.headD {Q : Exit → Act → World → Prop} {a : Act} {w : World} {l : List Oper} {k : Nat} (n : Nat) (hB : headB l.toArray k n = true)
    (h : wpQuiet P l.toArray (fun w' => ∃ d, w' = w.drewN d) (fun a' => ∀ w', (∃ d, w' = w.drewN d) → Left P l Q n a' w') ((l.drop k).take (n - k)) a) : Left P l Q k a w :=
  Left.head n _ hB ⟨0, rfl⟩ h

/-- ONE OPERATION for which all others wait. -/
theorem Left.one {Q : Exit → Act → World → Prop} {a : Act} {w : World} {l : List Oper} {k : Nat} {o : Oper} (ho : l[k]? = some o) (hB : Region.ready .any l.toArray (pre l.toArray k) = [k])
    (h : wpList P l.toArray (Exit.then (fun a' w' => Left P l Q (k + 1) a' w') Q) [o] a w) : Left P l Q k a w := by
  have hk : k < l.length := (List.getElem?_eq_some_iff.1 ho).1
  unfold Left
  rw [show l.length - k = (l.length - (k + 1)) + 1 by omega]
  refine ⟨fun h0 => (by rw [hB] at h0; cases h0), fun i hi => ?_⟩
  rw [hB] at hi
  obtain rfl : i = k := by simpa using hi
  have h0 : l.toArray[i]? = some o := by simpa using ho
  unfold wpOp
  simp only [h0]
  unfold wpList at h
  split
  · rename_i hw
    simp only [hw, if_true] at h
    rcases h with h | ⟨h1, a₀, w₀, h2⟩
    · left
      unfold Oper.wp at h ⊢
      generalize (execOp a.eval o).run P w = r at *
      cases r with
      | ok x w' =>
        cases x <;> simp only [Oper.upon] at h ⊢ <;> first | exact h | exact h.mono (fun e w'' he => by cases e <;> exact he)
      | halt x w' => cases x <;> simp only [Oper.upon] at h ⊢ <;> exact h
    · exact .inr ⟨h1, a₀, w₀, h2⟩
  · rename_i hw
    simp only [hw, if_false, Bool.false_eq_true] at h
    exact h

/-- A TAIL whose order is forced. -/
theorem Left.tail {Q : Exit → Act → World → Prop} {a : Act} {w : World} {l : List Oper} {k : Nat} (hB : Region.seqB .any l.toArray (l.drop k).length k (pre l.toArray k) = true)
    (h : wpList P l.toArray Q (l.drop k) a w) : Left P l Q k a w := by
  have := wpAny_of_seq (md := .any) (Q' := Q) (l.drop k) k (pre l.toArray k) a w (fun j => by simp [List.getElem?_drop]) hB h
  rw [List.length_drop] at this
  exact this

/-- The region ends. -/
theorem Left.done {Q : Exit → Act → World → Prop} {a : Act} {w : World} {l : List Oper} {k : Nat} (hk : l.length = k) (hB : Region.ready .any l.toArray (pre l.toArray k) = []) (h : Q .normal a w) : Left P l Q k a w := by
  unfold Left
  rw [hk, Nat.sub_self]
  exact ⟨hB, h⟩
end

/-! ### Inside a fence -/
section
variable {F : Fence} {m : Nat} {P : Program} {ops : Array Oper} {C : World → Prop}

def noDefer (ops : Array Oper) : Bool := ops.all fun o => match o.op with | .defer _ => false | _ => true
theorem noDefer_spec (h : noDefer ops = true) (j : Nat) (o : Oper) (ho : ops[j]? = some o) (c : Call) : o.op ≠ .defer c := by
  intro e
  obtain ⟨hj, rfl⟩ := Array.getElem?_eq_some_iff.1 ho
  have := Array.all_eq_true.1 h j hj
  rw [e] at this
  cases this

theorem steady_in (hsel : Region.noSelect ops = true) : Steady ops (YieldsQuiet F m P ops C) :=
  ⟨Region.noSelect_spec hsel, fun {x y _ u a} hx hd =>
    ⟨fun h => h.of_same (execOp_put x hx a y.dst u hd).symm (wanted_put x a y.dst u hd).symm (fun w => (about_put x w a y.dst u hd).symm),
     fun h => h.of_same (execOp_put x hx a y.dst u hd) (wanted_put x a y.dst u hd) (fun w => about_put x w a y.dst u hd)⟩⟩

theorem headLex_of_quietIn {Lq : Act → Prop} : ∀ (l : List Oper) (a : Act), wpQuietIn F m P ops C Lq l a → headLex (YieldsQuiet F m P ops C) Lq l a
  | [], _, h => h
  | o :: l, a, h => by
    unfold wpQuietIn at h
    obtain ⟨ha, h⟩ := h
    by_cases hw : Region.wanted o (yielded ops a.tmps) = true
    · simp only [hw, if_true] at h
      obtain ⟨v, h1, h2⟩ := h
      exact ⟨v, ⟨ha, .inl ⟨hw, h1⟩⟩, headLex_of_quietIn l _ h2⟩
    · simp only [hw, if_false, Bool.false_eq_true] at h
      exact ⟨undef, ⟨ha, .inr ⟨by simpa using hw, rfl⟩⟩, headLex_of_quietIn l _ h⟩

theorem wpOpIn_of_yields {i : Nat} {o : Oper} {v : Value} {a : Act} {w : World} {K : Act → World → Prop} {Q : Exit → Act → World → Prop} (hd : ∀ c, o.op ≠ .defer c) (ho : ops[i]? = some o)
    (hy : YieldsQuiet F m P ops C o v a) (hw : C w) (hK : ∀ w', C w' → K (a.put o.dst v) w') : wpOpIn F m P ops Q i K a w := by
  unfold wpOpIn
  simp only [ho]
  rcases hy.2 with ⟨h1, h2⟩ | ⟨h1, rfl⟩
  · simp only [h1, if_true]
    have h3 := h2 w hw
    unfold Oper.quietAtIn at h3
    unfold Oper.wpIn
    refine ⟨hy.1 w hw, ?_⟩
    rw [Oper.semAt_eq _ _ _ hd]
    generalize (execOp a.eval o).run P w = r at *
    cases r with
    | halt x w' => exact h3.elim
    | ok x w' =>
      cases x with
      | value u => obtain ⟨rfl, rfl⟩ := h3; exact hK _ hw
      | skip => obtain ⟨rfl, rfl⟩ := h3; exact hK _ hw
      | enter f args =>
        obtain ⟨rfl, hdep, hc⟩ := h3
        exact ⟨hdep, hc.mono fun e w'' ⟨he, hw''⟩ => by subst he; exact hK _ hw''⟩
      | _ => exact h3.elim
  · simp only [h1, Bool.false_eq_true, if_false]
    exact ⟨hy.1 w hw, hK _ hw⟩

theorem wpAnyIn_of_headOK {n g : Nat} {L : Array Bool → Act → Prop} {Q : Exit → Act → World → Prop} (hd : noDefer ops = true) (hL : ∀ listed a w, C w → L listed a → wpAnyIn F m P .any ops Q g listed a w) :
    ∀ (f : Nat) (listed : Array Bool) (a : Act) (w : World), C w → headOK ops (YieldsQuiet F m P ops C) n L f listed a → wpAnyIn F m P .any ops Q (f + g) listed a w
  | 0, listed, a, w, hw, h => by rw [Nat.zero_add]; exact hL _ _ _ hw h
  | f + 1, listed, a, w, hw, h => by
    rw [show f + 1 + g = (f + g) + 1 by omega]
    refine ⟨fun h0 => absurd h0 h.1, fun i hi => ?_⟩
    obtain ⟨_, o, v, ho, hy, h'⟩ := h.2 i hi
    exact wpOpIn_of_yields (noDefer_spec hd i o ho) ho hy hw (fun w' hw' => wpAnyIn_of_headOK hd hL f _ _ w' hw' h')

def LeftIn (F : Fence) (m : Nat) (P : Program) (l : List Oper) (Q : Exit → Act → World → Prop) (k : Nat) (a : Act) (w : World) : Prop := wpAnyIn F m P .any l.toArray Q (l.length - k) (pre l.toArray k) a w

theorem wpIn_region_left {id : Nat} {Q : Exit → Act → World → Prop} {a : Act} {w : World} {l : List Oper} (hm : P.follows .mixedOrders = true) (h : LeftIn F m P l Q 0 a w.drew) : (Code.region id l.toArray true).wpIn F m P Q a w :=
  wpIn_region_any hm (by simpa [LeftIn, pre] using h)

theorem LeftIn.head {Q : Exit → Act → World → Prop} {a : Act} {w : World} {l : List Oper} {k : Nat} (n : Nat) (C : World → Prop) (hB : headB l.toArray k n = true) (hd : noDefer l.toArray = true) (hC : C w)
    (h : wpQuietIn F m P l.toArray C (fun a' => ∀ w', C w' → LeftIn F m P l Q n a' w') ((l.drop k).take (n - k)) a) : LeftIn F m P l Q k a w := by
  simp only [headB, Bool.and_eq_true, decide_eq_true_eq] at hB
  obtain ⟨⟨⟨⟨⟨⟨hsel, hkn⟩, hn⟩, hs⟩, hcl⟩, hend⟩, hf⟩ := hB
  have hn' : n ≤ l.length := by simpa using hn
  have hlen : ((l.drop k).take (n - k)).length = n - k := by simp; omega
  have H := headOK_lex (steady_in (F := F) (m := m) (P := P) (C := C) hsel) hs (fun j hj => of_decide_eq_true (List.all_eq_true.1 hend j hj)) ((l.drop k).take (n - k)) k a (fun j hj => by
    rw [hlen] at hj
    simp [List.getElem?_take, hj]) (by rw [hlen]; omega) (headInv_of hkn hn hcl) (by rw [hlen]; exact hf) (headLex_of_quietIn _ _ h)
  have := wpAnyIn_of_headOK (Q := Q) (g := l.length - n) hd (fun listed a' w' hw' hL => by rw [hL.1]; exact hL.2 w' hw') _ _ _ _ hC H
  rw [hlen, show n - k + (l.length - n) = l.length - k by omega] at this
  exact this

theorem LeftIn.headD {Q : Exit → Act → World → Prop} {a : Act} {w : World} {l : List Oper} {k : Nat} (n : Nat) (hB : headB l.toArray k n = true) (hd : noDefer l.toArray = true)
    (h : wpQuietIn F m P l.toArray (fun w' => ∃ d, w' = w.drewN d) (fun a' => ∀ w', (∃ d, w' = w.drewN d) → LeftIn F m P l Q n a' w') ((l.drop k).take (n - k)) a) : LeftIn F m P l Q k a w :=
  LeftIn.head n _ hB hd ⟨0, rfl⟩ h

theorem LeftIn.one {Q : Exit → Act → World → Prop} {a : Act} {w : World} {l : List Oper} {k : Nat} {o : Oper} (ho : l[k]? = some o) (hB : Region.ready .any l.toArray (pre l.toArray k) = [k])
    (h : wpListIn F m P l.toArray (Exit.then (fun a' w' => LeftIn F m P l Q (k + 1) a' w') Q) [o] a w) : LeftIn F m P l Q k a w := by
  have hk : k < l.length := (List.getElem?_eq_some_iff.1 ho).1
  unfold LeftIn
  rw [show l.length - k = (l.length - (k + 1)) + 1 by omega]
  refine ⟨fun h0 => (by rw [hB] at h0; cases h0), fun i hi => ?_⟩
  rw [hB] at hi
  obtain rfl : i = k := by simpa using hi
  have h0 : l.toArray[i]? = some o := by simpa using ho
  unfold wpOpIn
  simp only [h0]
  unfold wpListIn at h
  split
  · rename_i hw
    simp only [hw, if_true] at h
    unfold Oper.wpIn at h ⊢
    refine ⟨h.1, ?_⟩
    have h := h.2
    generalize (o.semAt F.round a.eval).run P w = r at *
    cases r with
    | ok x w' =>
      cases x <;> simp only [Oper.uponIn] at h ⊢ <;> first | exact h | exact ⟨h.1, h.2.mono (fun e w'' he => by cases e <;> exact he)⟩ | exact ⟨h.1, h.2.mono (fun e w'' he => he)⟩
    | halt x w' => cases x <;> simp only [Oper.uponIn] at h ⊢ <;> exact h
  · rename_i hw
    simp only [hw, if_false, Bool.false_eq_true] at h
    exact h

theorem wpAnyIn_of_seq {Q : Exit → Act → World → Prop} : ∀ (l : List Oper) (k : Nat) (listed : Array Bool) (a : Act) (w : World), (∀ j, l[j]? = ops[k + j]?) →
    Region.seqB .any ops l.length k listed = true → wpListIn F m P ops Q l a w → wpAnyIn F m P .any ops Q l.length listed a w
  | [], _, _, _, _, _, hB, h => ⟨by simpa [Region.seqB] using hB, h⟩
  | o :: l, k, listed, a, w, hl, hB, h => by
    have h0 : ops[k]? = some o := by simpa using (hl 0).symm
    simp only [List.length_cons, Region.seqB, Bool.and_eq_true, decide_eq_true_eq] at hB
    refine ⟨fun h1 => (by rw [hB.1] at h1; cases h1), fun i hi => ?_⟩
    rw [hB.1] at hi
    obtain rfl : i = k := by simpa using hi
    have hw : wpOpIn F m P ops Q i (wpListIn F m P ops Q l) a w := by unfold wpOpIn; simp only [h0]; exact h
    exact wpOpIn_mono (fun a' w' h' => wpAnyIn_of_seq l (i + 1) _ a' w' (fun j => by have := hl (j + 1); simpa [Nat.add_assoc, Nat.add_comm 1 j] using this) hB.2 h') hw
theorem LeftIn.tail {Q : Exit → Act → World → Prop} {a : Act} {w : World} {l : List Oper} {k : Nat} (hB : Region.seqB .any l.toArray (l.drop k).length k (pre l.toArray k) = true)
    (h : wpListIn F m P l.toArray Q (l.drop k) a w) : LeftIn F m P l Q k a w := by
  have := wpAnyIn_of_seq (Q := Q) (l.drop k) k (pre l.toArray k) a w (fun j => by simp [List.getElem?_drop]) hB h
  rw [List.length_drop] at this
  exact this

theorem LeftIn.done {Q : Exit → Act → World → Prop} {a : Act} {w : World} {l : List Oper} {k : Nat} (hk : l.length = k) (hB : Region.ready .any l.toArray (pre l.toArray k) = []) (h : Q .normal a w) : LeftIn F m P l Q k a w := by
  unfold LeftIn
  rw [hk, Nat.sub_self]
  exact ⟨hB, h⟩
end
end Go.Proofs.YtghkfopcjdkieaaDoor
