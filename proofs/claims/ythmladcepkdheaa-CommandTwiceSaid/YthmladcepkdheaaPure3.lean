/-
  Any events in a world: nothing is refused that cannot be, and no two hold the authority.
-/
import Derived.Test.YthmladcepkdheaaPure2
namespace Go.Proofs.Ythmladcepkdheaa

section
variable {term : Int} {N : Nat} {w : WS}
theorem WS.may_iff (hl : w.gap.length = w.edge.length) : (∀ i, i < w.gap.length → w.gap.getD i 0 ≤ w.edge.getD i 0) → w.may := by
  intro h i g e hg he
  have hi := (List.getElem?_eq_some_iff.1 hg).1
  have := h i hi
  simp only [List.getD, hg, he, Option.getD_some] at this
  exact this

/-- ANY EVENT. -/
theorem Fine.happen (h : Fine term N w) (hN : N ≤ 1000000) (what n : Nat) : (w.happen what n).2 = true ∧ Fine term (N + 1) (w.happen what n).1 := by
  have hsome := h.2.some_
  have hk : n % w.ns.length < w.ns.length := Nat.mod_lt _ (by omega)
  have more : Fine term (N + 1) w := ⟨h.1, h.2.more⟩
  have hlen : w.gap.length = w.edge.length := by obtain ⟨⟨_, _, _, hg⟩, _⟩ := h; rw [hg.lenG, hg.lenE]
  unfold WS.happen
  by_cases h1 : what = 1
  · rw [if_pos h1]; exact ⟨rfl, h.ask hk⟩
  rw [if_neg h1]
  by_cases h2 : what = 2
  · rw [if_pos h2]
    refine ⟨rfl, ?_⟩
    by_cases h0 : (w.node (n % w.ns.length)).last = 0
    · simp only [h0, if_true]; exact more
    · simp only [h0, if_false]; exact h.return_ hk h0
  rw [if_neg h2]
  by_cases h3 : what = 3
  · rw [if_pos h3]; exact ⟨rfl, h.break_ hk⟩
  rw [if_neg h3]
  by_cases h4 : what = 4
  · rw [if_pos h4]; exact ⟨rfl, h.cbrk⟩
  rw [if_neg h4]
  by_cases h5 : what = 5
  · rw [if_pos h5]
    have := h.cwant (n % (w.ns.length + 1)) (by have := Nat.mod_lt n (show w.ns.length + 1 > 0 by omega); omega)
    exact ⟨by simp only [this.2]; rfl, this.1⟩
  rw [if_neg h5]
  by_cases h6 : what = 6
  · rw [if_pos h6]
    by_cases hs : w.sent.length = 0
    · rw [if_pos hs]; exact ⟨rfl, more⟩
    · rw [if_neg hs]
      have hlt : n % w.sent.length < w.sent.length := Nat.mod_lt _ (by omega)
      have hmem : w.sent.getD (n % w.sent.length) (0, 0, 0) ∈ w.sent := by
        simp only [List.getD, List.getElem?_eq_getElem hlt, Option.getD_some]
        exact List.getElem_mem hlt
      generalize w.sent.getD (n % w.sent.length) (0, 0, 0) = a at hmem
      simp only
      by_cases ha : a.1 = 2
      · rw [if_pos ha]
        obtain ⟨i, s, e1, e2, _⟩ := h.word hN hmem
        have hi : i < w.ns.length := (List.getElem?_eq_some_iff.1 e2).1
        rw [if_pos (by omega)]
        obtain ⟨k, m, q⟩ := a
        simp only at ha e1 ⊢
        subst ha
        subst e1
        have e : ((i : Int) + 1 - 1).toNat = i := by omega
        rw [e]
        have := h.nhear hN hmem
        exact ⟨by simp [this.2], this.1⟩
      · rw [if_neg ha]
        have := h.chear hN hmem ha
        refine ⟨by simp [this.2], ?_⟩
        exact this.1
  rw [if_neg h6]
  by_cases h7 : what = 7
  · rw [if_pos h7]
    refine ⟨rfl, ?_⟩
    show Fine term (N + 1) (if ∀ i, i < w.gap.length → w.gap.getD i 0 ≤ w.edge.getD i 0 then _ else w)
    split
    · rename_i hm; exact h.ctick (WS.may_iff hlen hm)
    · exact more
  · rw [if_neg h7]; exact ⟨rfl, h.ntick hk⟩

/-- How many hold. -/
def heldBy (l : List NS) : Nat := (l.filter fun s => decide (s.now < s.end_)).length
theorem heldBy_le : ∀ (l : List NS), (∀ (i i' : Nat) (s s' : NS), l[i]? = some s → l[i']? = some s' → s.now < s.end_ → s'.now < s'.end_ → i = i') → heldBy l ≤ 1
  | [], _ => by simp [heldBy]
  | x :: l, h => by
    by_cases hx : x.now < x.end_
    · have : heldBy l = 0 := by
        simp only [heldBy, List.length_eq_zero_iff, List.filter_eq_nil_iff, decide_eq_true_eq]
        intro s hs hh
        obtain ⟨i, hi⟩ := List.getElem?_of_mem hs
        have := h 0 (i + 1) x s (by simp) (by simpa using hi) hx hh
        omega
      simp only [heldBy, List.filter_cons, hx, decide_true, if_true, List.length_cons] at this ⊢
      omega
    · have ih := heldBy_le l (fun i i' s s' hi hi' => fun h1 h2 => by have := h (i + 1) (i' + 1) s s' (by simpa using hi) (by simpa using hi') h1 h2; omega)
      simp only [heldBy, List.filter_cons, hx, decide_false, Bool.false_eq_true, if_false] at ih ⊢
      exact ih
theorem Fine.one (h : Fine term N w) : (if w.c.node = 0 then 1 else 0) + heldBy w.ns ≤ 1 := by
  obtain ⟨⟨_, _, _, hg⟩, _⟩ := h
  obtain ⟨h1, h2⟩ := hg.one
  have := heldBy_le w.ns h2
  split
  · rename_i h0
    have : heldBy w.ns = 0 := by
      simp only [heldBy, List.length_eq_zero_iff, List.filter_eq_nil_iff, decide_eq_true_eq]
      intro s hs
      obtain ⟨i, hi⟩ := List.getElem?_of_mem hs
      exact h1 h0 i s hi
    omega
  · omega
end

/-- The world at the start. -/
def WS.start (n : Nat) (term slow wait : Int) : WS :=
  ⟨⟨0, 0, 0, 0, wait, 0, List.replicate (n + 1) 0⟩, (List.range n).map fun i : Nat => ⟨0, (i : Int) + 1, term, 0, 0, []⟩, [], List.replicate n 0, List.replicate n 0, slow⟩
theorem start_node {n : Nat} {term : Int} {i : Nat} {s : NS} (h : ((List.range n).map fun i : Nat => (⟨0, (i : Int) + 1, term, 0, 0, []⟩ : NS))[i]? = some s) : i < n ∧ s = ⟨0, (i : Int) + 1, term, 0, 0, []⟩ := by
  have hi : i < n := by have := (List.getElem?_eq_some_iff.1 h).1; simpa using this
  rw [List.getElem?_map, List.getElem?_range hi] at h
  cases h
  exact ⟨hi, rfl⟩
theorem Fine.start (n : Nat) (term slow wait : Int) (h1 : 1 ≤ n) (h3 : n ≤ 3) (t1 : 0 ≤ term) (t2 : term ≤ 100000) (s0 : 0 ≤ slow) (s1 : slow ≤ 1000) (hw : term * (1000 + slow) ≤ 1000 * wait - 1000) (w0 : 0 ≤ wait) (w1 : wait ≤ 1000000) :
    Fine term 0 (WS.start n term slow wait) := by
  have rep : ∀ {m i : Nat} {g : Int}, (List.replicate m (0 : Int))[i]? = some g → g = 0 := by
    intro m i g h
    rw [List.getElem?_replicate] at h
    split at h
    · cases h; rfl
    · cases h
  have repD : ∀ {m i : Nat}, (List.replicate m (0 : Int))[i]?.getD 0 = 0 := by
    intro m i
    rw [List.getElem?_replicate]
    split <;> rfl
  refine ⟨⟨fun _ _ => 0, fun _ _ => 0, fun _ => 0, ⟨by simp [WS.start], by simp [WS.start], by simp [WS.start], s0, fun i s hs => ?_, fun i s p hs hp => ?_, fun i s g e hs hg he => ?_, fun i s q hs _ _ => Int.le_refl _, fun i s hs hl => ?_, fun n q hq => by simp [WS.start] at hq, fun n q hq => by simp [WS.start] at hq, fun n q hq => by simp [WS.start] at hq, fun x hx => by simp [WS.start] at hx, fun i s q hs hq => by simp [WS.start] at hq, fun i s q i' s' q' hs hq => by simp [WS.start] at hq, hw⟩⟩, ⟨fun i s hs => ?_, fun i s hs => ?_, fun i s hs => ?_, fun i s p hs hp => ?_, Int.le_refl _, Int.le_refl _, Int.le_refl _, Int.le_refl _, by simpa [WS.start] using h1, by simpa [WS.start] using h3, Nat.le_refl _, w0, w1, s1, fun i g hg => ?_, fun i g hg => ?_⟩⟩
  · obtain ⟨_, rfl⟩ := start_node hs; exact ⟨rfl, rfl, Int.le_refl _, Int.le_refl _⟩
  · obtain ⟨_, rfl⟩ := start_node hs; simp at hp
  · obtain ⟨_, rfl⟩ := start_node hs
    have e1 := rep hg
    have e2 := rep he
    subst e1 e2
    exact ⟨by simp [WS.start], by omega, Int.le_refl _, fun q h1 h2 => by simp only at h2; omega⟩
  · obtain ⟨_, rfl⟩ := start_node hs; simp at hl
  · obtain ⟨_, rfl⟩ := start_node hs
    exact ⟨Int.le_refl _, Int.le_refl _, Int.le_refl _, Int.le_refl _, Nat.le_refl _, by simp, t1, t2⟩
  · obtain ⟨_, rfl⟩ := start_node hs
    simp only [WS.start, repD]; exact Int.le_refl _
  · obtain ⟨_, rfl⟩ := start_node hs; simp only; omega
  · obtain ⟨_, rfl⟩ := start_node hs; simp at hp
  · have := rep hg; omega
  · have := rep hg; omega
end Go.Proofs.Ythmladcepkdheaa
