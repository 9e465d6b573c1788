/-
  The centre's numbers while a word is heard twice.
-/
import Derived.Test.YthmladcepkdheaaPure5
namespace Go.Proofs.Ythmladcepkdheaa

/-- A centre's numbers. -/
structure Cb (L : Nat) (M : Int) (c : CS) : Prop where
  now0 : 0 ≤ c.now
  now1 : c.now ≤ M
  since0 : 0 ≤ c.since
  since1 : c.since ≤ c.now
  wait0 : 0 ≤ c.wait
  wait1 : c.wait ≤ 1000000
  len : c.g.length = L
section
variable {L : Nat} {M : Int} {c : CS}
theorem Cb.hear (h : Cb L M c) (k : Int) (n : Nat) (q : Int) : Cb L M (c.hear k n q).1 := by
  have a0 := h.now0; have a1 := h.now1; have a2 := h.since0; have a3 := h.since1; have a4 := h.wait0; have a5 := h.wait1; have a6 := h.len
  unfold CS.hear CS.ask CS.back
  split
  · split
    · exact h
    · split
      · exact ⟨a0, a1, a0, Int.le_refl _, a4, a5, by simpa using a6⟩
      · exact ⟨a0, a1, a2, a3, a4, a5, by simpa using a6⟩
  · split
    · split
      · exact ⟨a0, a1, Int.le_refl _, a0, a4, a5, by simpa using a6⟩
      · exact ⟨a0, a1, a2, a3, a4, a5, by simpa using a6⟩
    · exact h
theorem Cb.tick (h : Cb L M c) : Cb L (M + 1) c.tick := by
  have a0 := h.now0; have a1 := h.now1; have a2 := h.since0; have a3 := h.since1; have a4 := h.wait0; have a5 := h.wait1; have a6 := h.len
  have e1 := tick_now c
  have e2 := tick_since c a2 a3
  exact ⟨by omega, by omega, e2.1, e2.2, by rw [tick_wait]; exact a4, by rw [tick_wait]; exact a5, by rw [tick_g]; exact a6⟩
end
theorem start_rise (n : Nat) (t s wt : Int) : (WS.start n t s wt).Rise := fun i x hx => by
  obtain ⟨_, rfl⟩ := start_node hx
  simp [Ris]
/-- The last word that was sent. -/
theorem Fine.lastWord {term : Int} {N : Nat} {w : WS} (h : Fine term N w) (hN : N ≤ 1000000) (hr : w.Rise) (hs : 0 < w.sent.length) : ∃ (i : Nat) (kk q : Int), w.sent[w.sent.length - 1]? = some (kk, ((i + 1 : Nat) : Int), q) ∧ i < w.ns.length ∧ wordB kk ((i + 1 : Nat) : Int) q = true ∧ (kk = 1 ∨ kk = 2 ∨ kk = 3) ∧ i + 1 < w.c.g.length ∧
    Known kk (i + 1) q (if kk = 2 then w.c else (w.c.hear kk (i + 1) q).1) (if kk = 2 then ((w.node i).hear kk ((i + 1 : Nat) : Int) q).1 else w.node i) := by
  have hlt : w.sent.length - 1 < w.sent.length := by omega
  have hge := List.getElem?_eq_getElem hlt
  have hmem := List.mem_of_getElem? hge
  generalize w.sent[w.sent.length - 1] = a at hge hmem
  obtain ⟨i, s, e1, e2, e3, e4, e5⟩ := h.word hN hmem
  have hi : i < w.ns.length := (List.getElem?_eq_some_iff.1 e2).1
  have en : w.node i = s := by have := w.node_at hi; rw [e2] at this; exact (Option.some.inj this).symm
  obtain ⟨kk, nn, q⟩ := a
  simp only at e1 e3 e4 e5
  subst e1
  have c1 : ((i + 1 : Nat) : Int) = (i : Int) + 1 := by omega
  obtain ⟨⟨T0, C0, fal, hg⟩, hn⟩ := h
  have hk := hg.kinds _ hmem
  simp only at hk
  have hnum := (hg.number i s e2).1
  refine ⟨i, kk, q, by rw [c1]; exact hge, hi, by rw [c1]; exact e5, hk, by rw [hg.lenC]; omega, ?_⟩
  rw [en]
  refine known_first (hr i s e2) e4 hk (by rw [hg.lenC]; omega) ?_
  rw [c1, e5, hnum]
  simp
end Go.Proofs.Ythmladcepkdheaa
