/-
  The plain laws of CommandBack and CommandArrives: a lease runs out; a node that asks and is wanted gets the authority for its term.
-/
import Derived.Test.YthmladcepkdheaaPure3
namespace Go.Proofs.Ythmladcepkdheaa

/-! ### A lease runs out -/
/-- j ticks of waiting: either nobody has a lease, or it began at least j ticks ago, and (behind the first tick) has not run out yet. -/
def Waited (j : Nat) (c : CS) : Prop := c.node = 0 ∨ (c.since + j ≤ c.now ∧ (1 ≤ j → c.now < c.since + c.wait))
theorem Waited.start {c : CS} (h : c.since ≤ c.now) : Waited 0 c := .inr ⟨by omega, by omega⟩
theorem Waited.tick {j : Nat} {c : CS} (h : Waited j c) (h0 : c.node ≠ 0) : Waited (j + 1) c.tick := by
  rcases h with h | ⟨h1, h2⟩
  · exact absurd h h0
  · unfold CS.tick
    split
    · exact .inl rfl
    · rename_i ht
      refine .inr ⟨by simp only; omega, fun _ => ?_⟩
      simp only
      have : ¬ c.since + c.wait ≤ c.now + 1 := fun e => ht ⟨h0, e⟩
      omega
theorem Waited.over {j : Nat} {c : CS} (h : Waited j c) (h1 : 1 ≤ j) (hj : c.wait ≤ j) : c.node = 0 := by
  rcases h with h | ⟨h2, h3⟩
  · exact h
  · have := h3 h1; omega
theorem tick_wait (c : CS) : c.tick.wait = c.wait := by unfold CS.tick; split <;> rfl
theorem tick_now (c : CS) : c.tick.now = c.now + 1 := by unfold CS.tick; split <;> rfl
theorem tick_since (c : CS) (h0 : 0 ≤ c.since) (h1 : c.since ≤ c.now) : 0 ≤ c.tick.since ∧ c.tick.since ≤ c.tick.now := by unfold CS.tick; split <;> simp only <;> omega

/-! ### A node that asks and is wanted -/
section
variable {term : Int} {N : Nat} {w : WS}
/-- What the centre is behind the grant. -/
def granted (c : CS) (k : Nat) (m : Int) : CS := { c with wanted := (k : Int) + 1, node := (k : Int) + 1, number := m, since := c.now, g := c.g.set (k + 1) m }
theorem Fine.arrive (h : Fine term N w) (hN : N ≤ 1000000) {k : Nat} (hk : k < w.ns.length) (h0 : w.c.node = 0) :
    (w.c.want ((k : Int) + 1)).2 = 0 ∧ (w.c.want ((k : Int) + 1)).1.heard 1 (w.node k).number ((w.node k).last + 1) = (granted w.c k ((w.node k).last + 1), (2, (k : Int) + 1, (w.node k).last + 1), 0) ∧
    (w.node k).ask.2 = (1, (k : Int) + 1, (w.node k).last + 1) ∧ (w.node k).number = (k : Int) + 1 := by
  obtain ⟨⟨T0, C0, fal, hg⟩, hn⟩ := h
  have hs := w.node_at hk
  have hf := hn.fits k _ hs
  have hnum := (hg.number k _ hs).1
  have hlow := hn.low k _ hs
  have hfew := hn.few
  have hl := hf.last1
  have hl0 := hf.last0
  have hi : inB ((k : Int) + 1) 0 ((w.c.g.length : Int) - 1) = true := inB_iff.2 ⟨by omega, by rw [hg.lenC]; omega⟩
  have hv : wordB 1 ((k : Int) + 1) ((w.node k).last + 1) = true := by
    simp only [wordB, Bool.and_eq_true]
    exact ⟨⟨inB_iff.2 (by omega), inB_iff.2 (by omega)⟩, inB_iff.2 (by omega)⟩
  have e : ((k : Int) + 1).toNat = k + 1 := by omega
  refine ⟨by unfold CS.want; rw [if_pos hi], ?_, by simp only [NS.ask, hnum], hnum⟩
  unfold CS.want
  rw [if_pos hi, hnum]
  unfold CS.heard
  rw [hv, if_neg (by simp), if_neg (by rw [hg.lenC]; omega), e]
  unfold CS.hear CS.ask
  simp only [if_true]
  rw [if_neg (by omega)]
  have c1 : ((k + 1 : Nat) : Int) = (k : Int) + 1 := by omega
  rw [c1, if_pos ⟨rfl, .inl h0⟩]
  rfl
/-- What the node is behind its Ask and the Grant. -/
theorem Fine.arrived (h : Fine term N w) (hN : N ≤ 1000000) {k : Nat} (hk : k < w.ns.length) :
    (w.node k).ask.1.hear 2 ((k : Int) + 1) ((w.node k).last + 1) = ({ (w.node k) with last := (w.node k).last + 1, end_ := (w.node k).now + term, l := [] }, 0) := by
  obtain ⟨⟨T0, C0, fal, hg⟩, hn⟩ := h
  have hs := w.node_at hk
  have hf := hn.fits k _ hs
  have hnum := (hg.number k _ hs).1
  have hterm := (hg.number k _ hs).2.1
  have hah := hn.ahead k _ hs
  have hfew := hn.few
  have hl := hf.last1
  have hl0 := hf.last0
  have hv : wordB 2 ((k : Int) + 1) ((w.node k).last + 1) = true := by
    simp only [wordB, Bool.and_eq_true]
    exact ⟨⟨inB_iff.2 (by omega), inB_iff.2 (by omega)⟩, inB_iff.2 (by omega)⟩
  have ht : takeL ((w.node k).l ++ [((w.node k).last + 1, (w.node k).now)]) ((w.node k).last + 1) = some ((w.node k).now, []) :=
    takeL_some (fun p hp => by have := (hg.asks k _ p hs hp).2.2; omega) rfl
  unfold NS.hear NS.ask
  simp only
  rw [hv, hnum, if_neg (by simp), if_neg (by simp), ht]
  have e : max (w.node k).end_ ((w.node k).now + (w.node k).term) = (w.node k).now + term := by rw [hterm] at hah ⊢; omega
  simp only [e]
/-- The Return, heard. -/
theorem unleased (c : CS) (k : Nat) (m : Int) (hk : k + 1 < c.g.length) (hk8 : k ≤ 7) (h1 : 1 ≤ m) (h2 : m ≤ 1099511627776) (hn : c.node = (k : Int) + 1) (hm : c.number ≤ m) : (c.heard 3 ((k : Int) + 1) m).1.node = 0 ∧ (c.heard 3 ((k : Int) + 1) m).2.2 = 0 := by
  have hv : wordB 3 ((k : Int) + 1) m = true := by
    simp only [wordB, Bool.and_eq_true]
    exact ⟨⟨inB_iff.2 (by omega), inB_iff.2 (by omega)⟩, inB_iff.2 (by omega)⟩
  have e : ((k : Int) + 1).toNat = k + 1 := by omega
  unfold CS.heard
  rw [hv, if_neg (by simp), if_neg (by omega), e]
  unfold CS.hear CS.back
  simp only [show ¬ ((3 : Int) = 1) by decide, if_false, if_true]
  rw [if_pos ⟨by rw [hn]; omega, hm⟩]
  exact ⟨rfl, trivial⟩
end
end Go.Proofs.Ythmladcepkdheaa
