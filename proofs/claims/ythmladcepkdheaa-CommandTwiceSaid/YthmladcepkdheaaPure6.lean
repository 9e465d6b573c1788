/-
  The plain law of CommandArrives, put together.
-/
import Derived.Test.YthmladcepkdheaaPure4
namespace Go.Proofs.Ythmladcepkdheaa

section
variable {term : Int} {N : Nat} {w : WS}
/-- A node that was granted the authority i ticks ago. -/
def gotS (s : NS) (t : Int) (i : Nat) : NS := { s with last := s.last + 1, end_ := s.now + t, l := [], now := s.now + i }
theorem gotS_tick (s : NS) (t : Int) (i : Nat) : (gotS s t i).tick = gotS s t (i + 1) := by
  have e : s.now + (i : Int) + 1 = s.now + ((i + 1 : Nat) : Int) := by omega
  simp only [gotS, NS.tick, e]
theorem gotS_holds (s : NS) (t : Int) (i : Nat) : decide ((gotS s t i).now < (gotS s t i).end_) = decide ((i : Int) < t) := by
  have e : (gotS s t i).now < (gotS s t i).end_ ↔ (i : Int) < t := by
    show s.now + (i : Int) < s.now + t ↔ _
    omega
  simp only [e]
theorem Fine.got (h : Fine term N w) (hN : N ≤ 1000) {k : Nat} (hk : k < w.ns.length) (h0 : w.c.node = 0) :
    ({ w.c with wanted := ((k + 1 : Nat) : Int) } : CS).hear 1 (k + 1) ((w.node k).last + 1) = (granted w.c k ((w.node k).last + 1), (2, ((k + 1 : Nat) : Int), (w.node k).last + 1)) ∧
      wordB 1 ((k + 1 : Nat) : Int) ((w.node k).last + 1) = true ∧ wordB 3 ((k + 1 : Nat) : Int) ((w.node k).last + 1) = true ∧ k + 1 < w.c.g.length ∧ w.c.g.length ≤ 100000 ∧
      (w.node k).ask.2 = (1, ((k + 1 : Nat) : Int), (w.node k).last + 1) ∧ (w.node k).ask.1.hear 2 ((k + 1 : Nat) : Int) ((w.node k).last + 1) = (gotS (w.node k) term 0, 0) ∧ (w.node k).number = ((k + 1 : Nat) : Int) ∧
      (w.node k).ask.1.Fits (N + 1) ∧ ∀ i : Nat, i ≤ 1000 → (gotS (w.node k) term i).Fits 10000 := by
  have h1 := h.arrive (by omega) hk h0
  have h2 := h.arrived (by omega) hk
  obtain ⟨⟨T0, C0, fal, hg⟩, hn⟩ := h
  have hs := w.node_at hk
  have hf := hn.fits k _ hs
  have hnum := (hg.number k _ hs).1
  have hlow := hn.low k _ hs
  have hfew := hn.few
  have hl := hf.last1
  have hl0 := hf.last0
  have c1 : ((k + 1 : Nat) : Int) = (k : Int) + 1 := by omega
  have hv : ∀ q : Int, 1 ≤ q → q ≤ 3 → wordB q ((k + 1 : Nat) : Int) ((w.node k).last + 1) = true := fun q q1 q2 => by
    simp only [wordB, Bool.and_eq_true]
    exact ⟨⟨inB_iff.2 (by omega), inB_iff.2 (by omega)⟩, inB_iff.2 (by omega)⟩
  refine ⟨?_, hv 1 (by omega) (by omega), hv 3 (by omega) (by omega), by rw [hg.lenC]; omega, by rw [hg.lenC]; omega, by rw [c1]; exact h1.2.2.1, ?_, by rw [c1]; exact h1.2.2.2, hf.ask, fun i hi => ?_⟩
  · unfold CS.hear CS.ask
    simp only [if_true]
    rw [if_neg (by omega), if_pos ⟨trivial, .inl h0⟩, c1]
    rfl
  · rw [c1, h2]
    simp [gotS]
  · have := hf.now0; have := hf.now1; have := hf.term0; have := hf.term1
    exact ⟨by simp only [gotS]; omega, by simp only [gotS]; omega, by simp only [gotS]; omega, by simp only [gotS]; omega, by simp [gotS], by simp [gotS], by simp only [gotS]; omega, by simp only [gotS]; omega⟩
theorem granted_back (c : CS) (k : Nat) (m : Int) : ((granted c k m).hear 3 (k + 1) m).1.node = 0 ∧ ((granted c k m).hear 3 (k + 1) m).2 = (0, 0, 0) := by
  unfold CS.hear CS.back
  simp only [show ¬ ((3 : Int) = 1) by decide, if_false, if_true]
  have c1 : ((k + 1 : Nat) : Int) = (k : Int) + 1 := by omega
  rw [if_pos ⟨by simp only [granted]; omega, by simp only [granted]; exact Int.le_refl _⟩]
  exact ⟨rfl, trivial⟩
end
end Go.Proofs.Ythmladcepkdheaa
