/-
  Each call of a centre or a node, told of the whole of them.
-/
import Derived.Test.YthmladcepkdheaaSys
namespace Go.Proofs.Ythmladcepkdheaa
open Go.RowKit

def NS.ask (s : NS) : NS × (Int × Int × Int) := ({ s with last := s.last + 1, l := s.l ++ [(s.last + 1, s.now)] }, (1, s.number, s.last + 1))
def NS.fall (s : NS) : NS := { s with end_ := s.now, l := [] }
def NS.back (s : NS) : NS × (Int × Int × Int) × Int := if s.last = 0 then (s, (0, 0, 0), 9) else (s.fall, (3, s.number, s.last), 0)
def NS.tick (s : NS) : NS := { s with now := s.now + 1 }
def NS.hear (s : NS) (k n m : Int) : NS × Int :=
  if (wordB k n m && n == s.number) = false then (s, 2)
  else if k ≠ 2 then (s, 0)
  else match takeL s.l m with
    | none => (s, 0)
    | some (t, r) => ({ s with end_ := max s.end_ (t + s.term), l := r }, 0)

/-- A node's numbers are small. -/
structure NS.Fits (s : NS) (N : Nat) : Prop where
  now0 : 0 ≤ s.now
  now1 : s.now ≤ N
  last0 : 0 ≤ s.last
  last1 : s.last ≤ N
  len : s.l.length ≤ N
  times : ∀ p ∈ s.l, 0 ≤ p.2 ∧ p.2 ≤ N
  term0 : 0 ≤ s.term
  term1 : s.term ≤ 100000

theorem takeL_mem {l : List (Int × Int)} {m t : Int} {r : List (Int × Int)} (h : takeL l m = some (t, r)) : r.length ≤ l.length ∧ (∀ p ∈ r, p ∈ l) ∧ ∃ q, (q, t) ∈ l := by
  induction l with
  | nil => simp [takeL] at h
  | cons p l ih =>
    rw [takeL] at h
    split at h
    · simp only [Option.some.injEq, Prod.mk.injEq] at h
      obtain ⟨rfl, rfl⟩ := h
      exact ⟨by simp, fun q hq => by simp [hq], p.1, by simp⟩
    · obtain ⟨h1, h2, q, h3⟩ := ih h
      exact ⟨by simp; omega, fun q hq => by simp [h2 q hq], q, by simp [h3]⟩

section
variable {s : NS} {N : Nat}
theorem NS.Fits.mono {M : Nat} (h : s.Fits N) (hM : N ≤ M) : s.Fits M :=
  ⟨h.now0, by have := h.now1; omega, h.last0, by have := h.last1; omega, Nat.le_trans h.len hM, fun p hp => ⟨(h.times p hp).1, by have := (h.times p hp).2; omega⟩, h.term0, h.term1⟩
theorem NS.Fits.ask (h : s.Fits N) : s.ask.1.Fits (N + 1) := by
  refine ⟨h.now0, ?_, ?_, ?_, ?_, fun p hp => ?_, h.term0, h.term1⟩
  · have := h.now1; simp only [NS.ask]; omega
  · have := h.last0; simp only [NS.ask]; omega
  · have := h.last1; simp only [NS.ask]; omega
  · have := h.len; simp [NS.ask]; exact this
  · simp only [NS.ask, List.mem_append, List.mem_singleton] at hp
    rcases hp with hp | rfl
    · have := h.times p hp; omega
    · have := h.now0; have := h.now1; simp only; omega
theorem NS.Fits.fall (h : s.Fits N) : s.fall.Fits N := ⟨h.now0, h.now1, h.last0, h.last1, by simp [NS.fall], by simp [NS.fall], h.term0, h.term1⟩
theorem NS.Fits.back (h : s.Fits N) : s.back.1.Fits N := by
  unfold NS.back
  split
  · exact h
  · exact h.fall
theorem NS.Fits.tick (h : s.Fits N) : s.tick.Fits (N + 1) := by
  have h' := h.mono (Nat.le_succ N)
  exact ⟨by have := h.now0; simp only [NS.tick]; omega, by have := h.now1; simp only [NS.tick]; omega, h'.last0, h'.last1, h'.len, h'.times, h'.term0, h'.term1⟩
theorem NS.Fits.hear (h : s.Fits N) (k n m : Int) : (s.hear k n m).1.Fits N := by
  unfold NS.hear
  split
  · exact h
  · split
    · exact h
    · split
      · exact h
      · rename_i t r ht
        obtain ⟨h1, h2, _⟩ := takeL_mem ht
        exact ⟨h.now0, h.now1, h.last0, h.last1, Nat.le_trans h1 h.len, fun p hp => h.times p (h2 p hp), h.term0, h.term1⟩
end

section
variable {o w : World} {X : List (Nat × Obj)} {bc bG bM : Nat} {c : CS} {ns : List NP} {i : Nat} {p : NP} {N : Nat}

theorem sysAsk (h : Syst o w X bc bG bM c ns) (hi : ns[i]? = some p) (hf : p.s.Fits N) (hN : N ≤ 100000) :
    Calls Try.prog 17 #[.pointer (some ⟨p.b, 0, none⟩)] w fun e w' => e = .returned (.tuple #[wordV p.s.ask.2, .int .i64 0]) ∧ ∃ own', Syst o w' X bc bG bM c (ns.set i ⟨p.b, own', p.s.ask.1⟩) := by
  refine (nodeAsk p.b w (h.node p (List.mem_of_getElem? hi)) (by have := hf.len; omega) hf.last0 (by have := hf.last1; omega)).mono ?_
  rintro e w' ⟨he, own', hn, hfr, ho⟩
  refine ⟨he, own', h.turn hi (S := p.foot) (fun _ hx => hx) hfr hn (fun x hx => ?_)⟩
  simp only [NP.foot, nodeFoot, List.mem_cons, Option.mem_toList] at hx ⊢
  rcases hx with hx | hx
  · exact .inl (.inl hx)
  · rcases ho with rfl | ⟨g, rfl, hg⟩
    · exact .inl (.inr hx)
    · cases hx; exact .inr hg

theorem sysReturn (h : Syst o w X bc bG bM c ns) (hi : ns[i]? = some p) (hf : p.s.Fits N) :
    Calls Try.prog 23 #[.pointer (some ⟨p.b, 0, none⟩)] w fun e w' => e = .returned (.tuple #[wordV p.s.back.2.1, .int .i64 p.s.back.2.2]) ∧ ∃ own', Syst o w' X bc bG bM c (ns.set i ⟨p.b, own', p.s.back.1⟩) := by
  have hp := h.node p (List.mem_of_getElem? hi)
  by_cases h0 : p.s.last = 0
  · have hb : p.s.back = (p.s, (0, 0, 0), 9) := by simp [NS.back, h0]
    rw [hb]
    have hp' : NodeAt w p.b p.s.now p.s.number p.s.term p.s.end_ 0 p.s.l p.own := h0 ▸ hp
    refine (nodeReturn_no p.b w hp').mono ?_
    rintro e w' ⟨he, hfr⟩
    refine ⟨he, p.own, ?_⟩
    have e1 : ns.set i ⟨p.b, p.own, p.s⟩ = ns := by
      obtain ⟨h1, h2⟩ := List.getElem?_eq_some_iff.1 hi
      subst h2
      exact List.set_getElem_self h1
    rw [e1]
    exact h.quiet hfr
  · have hb : p.s.back = (p.s.fall, (3, p.s.number, p.s.last), 0) := by simp [NS.back, h0]
    rw [hb]
    refine (nodeReturn p.b w hp (by have := hf.last0; omega)).mono ?_
    rintro e w' ⟨he, hn, hfr⟩
    exact ⟨he, none, h.turn hi (S := p.foot) (fun _ hx => hx) hfr hn (fun x hx => .inl (by simp [NP.foot, nodeFoot] at hx ⊢; exact .inl hx))⟩

theorem sysBreakN (h : Syst o w X bc bG bM c ns) (hi : ns[i]? = some p) :
    Calls Try.prog 21 #[.pointer (some ⟨p.b, 0, none⟩)] w fun e w' => e = .returned (.int .i64 0) ∧ ∃ own', Syst o w' X bc bG bM c (ns.set i ⟨p.b, own', p.s.fall⟩) := by
  have hp := h.node p (List.mem_of_getElem? hi)
  obtain ⟨⟨asks, hb, hs⟩, hne⟩ := hp
  refine (nodeBreak p.b w hb).mono ?_
  rintro e w' ⟨he, hb', hfr⟩
  exact ⟨he, none, h.turn hi (S := [p.b]) (fun x hx => by simp at hx; simp [NP.foot, nodeFoot, hx]) hfr ⟨⟨_, hb', Sl.nil _ _ _⟩, by simp⟩ (fun x hx => .inl (by simp [NP.foot, nodeFoot] at hx ⊢; exact .inl hx))⟩

theorem sysTickN (h : Syst o w X bc bG bM c ns) (hi : ns[i]? = some p) (hf : p.s.Fits N) (hN : N ≤ 100000) :
    Calls Try.prog 25 #[.pointer (some ⟨p.b, 0, none⟩)] w fun e w' => e = .returned (.int .i64 0) ∧ ∃ own', Syst o w' X bc bG bM c (ns.set i ⟨p.b, own', p.s.tick⟩) := by
  have hp := h.node p (List.mem_of_getElem? hi)
  obtain ⟨⟨asks, hb, hs⟩, hne⟩ := hp
  refine (nodeTick p.b w hb).mono ?_
  rintro e w' ⟨he, hb', hfr⟩
  rw [IntWalk.wrap64_in (p.s.now + 1) ⟨by have := hf.now0; omega, by have := hf.now1; omega⟩] at hb'
  have hbl := hb.lt
  exact ⟨he, p.own, h.turn hi (S := [p.b]) (fun x hx => by simp at hx; simp [NP.foot, nodeFoot, hx]) hfr ⟨⟨asks, hb', hs.frm hfr (fun c hc => hs.lt c hc) (fun c hc => by simp; rintro rfl; exact hne hc)⟩, hne⟩ (fun x hx => .inl hx)⟩

theorem sysHearN (h : Syst o w X bc bG bM c ns) (hi : ns[i]? = some p) (hf : p.s.Fits N) (hN : N ≤ 100000) (x : Int × Int × Int) :
    Calls Try.prog 19 #[.pointer (some ⟨p.b, 0, none⟩), wordV x] w fun e w' => e = .returned (.int .i64 (p.s.hear x.1 x.2.1 x.2.2).2) ∧ ∃ own', Syst o w' X bc bG bM c (ns.set i ⟨p.b, own', (p.s.hear x.1 x.2.1 x.2.2).1⟩) := by
  have hp := h.node p (List.mem_of_getElem? hi)
  have e1 : ns.set i ⟨p.b, p.own, p.s⟩ = ns := by
    obtain ⟨h1, h2⟩ := List.getElem?_eq_some_iff.1 hi
    subst h2
    exact List.set_getElem_self h1
  have same : ∀ w', Frm w.heap.size [] w w' → ∃ own', Syst o w' X bc bG bM c (ns.set i ⟨p.b, own', p.s⟩) := fun w' hfr => ⟨p.own, by rw [e1]; exact h.quiet hfr⟩
  obtain ⟨k, n, m⟩ := x
  show Calls Try.prog 19 #[.pointer (some ⟨p.b, 0, none⟩), .agg #[.int .i64 k, .int .i64 n, .int .i64 m]] w fun e w' => e = .returned (.int .i64 (p.s.hear k n m).2) ∧ ∃ own', Syst o w' X bc bG bM c (ns.set i ⟨p.b, own', (p.s.hear k n m).1⟩)
  unfold NS.hear
  cases hok : (wordB k n m && n == p.s.number)
  · rw [if_pos rfl]
    exact (nodeHear_bad p.b w k n m hp hok).mono fun e w' ⟨he, hfr⟩ => ⟨he, same w' hfr⟩
  · rw [if_neg (by simp)]
    obtain ⟨hv, hn⟩ := Bool.and_eq_true_iff.1 hok
    have hn' : n = p.s.number := by simpa using hn
    by_cases hk : k = 2
    · subst hk
      subst hn'
      rw [if_neg (by simp)]
      refine (nodeHear_grant p.b w m hp hv (by have := hf.len; omega) (fun q hq => by have := hf.times q hq; omega) hf.term0 (by have := hf.term1; omega)).mono ?_
      rintro e w' ⟨he, hfr⟩
      cases ht : takeL p.s.l m with
      | none => rw [ht] at hfr; exact ⟨he, same w' hfr⟩
      | some tr =>
        obtain ⟨t, r⟩ := tr
        rw [ht] at hfr
        exact ⟨he, p.own, h.turn hi (S := [p.b]) (fun x hx => by simp at hx; simp [NP.foot, nodeFoot, hx]) hfr.2 hfr.1 (fun x hx => .inl hx)⟩
    · rw [if_pos hk]
      exact (nodeHear_other p.b w k n m hp hv hn' hk).mono fun e w' ⟨he, hfr⟩ => ⟨he, same w' hfr⟩

theorem sysHoldsN (h : Syst o w X bc bG bM c ns) (hi : ns[i]? = some p) :
    Calls Try.prog 27 #[.pointer (some ⟨p.b, 0, none⟩)] w fun e w' => e = .returned (.bool (decide (p.s.now < p.s.end_))) ∧ Syst o w' X bc bG bM c ns := by
  obtain ⟨⟨asks, hb, hs⟩, hne⟩ := h.node p (List.mem_of_getElem? hi)
  refine (nodeHolds p.b w hb).mono ?_
  rintro e w' ⟨he, n, rfl⟩
  exact ⟨he, h.quiet (Frm.refl _ _ w).drewN⟩

theorem sysEndsN (h : Syst o w X bc bG bM c ns) (hi : ns[i]? = some p) :
    Calls Try.prog 26 #[.pointer (some ⟨p.b, 0, none⟩)] w fun e w' => e = .returned (.tuple #[.int .i64 p.s.now, .int .i64 p.s.end_]) ∧ Syst o w' X bc bG bM c ns := by
  obtain ⟨⟨asks, hb, hs⟩, hne⟩ := h.node p (List.mem_of_getElem? hi)
  refine (nodeEnds p.b w hb).mono ?_
  rintro e w' ⟨he, n, rfl⟩
  exact ⟨he, h.quiet (Frm.refl _ _ w).drewN⟩

theorem sysHoldsC (h : Syst o w X bc bG bM c ns) :
    Calls Try.prog 39 #[.pointer (some ⟨bc, 0, none⟩)] w fun e w' => e = .returned (.bool (c.node == 0)) ∧ w = w' := centHolds bc w h.cent.blk

theorem sysLease (h : Syst o w X bc bG bM c ns) :
    Calls Try.prog 37 #[.pointer (some ⟨bc, 0, none⟩)] w fun e w' => e = .returned (.tuple #[.int .i64 c.node, .int .i64 c.since]) ∧ Syst o w' X bc bG bM c ns := by
  refine (centLease bc w h.cent.blk).mono ?_
  rintro e w' ⟨he, n, rfl⟩
  exact ⟨he, h.quiet (Frm.refl _ _ w).drewN⟩

def CS.brk (c : CS) : CS := { c with node := -1, number := 0, since := c.now }
def CS.tick (c : CS) : CS := if c.node ≠ 0 ∧ c.since + c.wait ≤ c.now + 1 then { c with now := c.now + 1, node := 0, number := 0, since := 0 } else { c with now := c.now + 1 }

theorem sysBreakC (h : Syst o w X bc bG bM c ns) :
    Calls Try.prog 33 #[.pointer (some ⟨bc, 0, none⟩)] w fun e w' => e = .returned (.int .i64 0) ∧ Syst o w' X bc bG bM c.brk ns := by
  refine (centBreak bc w h.cent.blk).mono ?_
  rintro e w' ⟨he, hb, hf⟩
  exact ⟨he, h.centre (hf.narrow (by simp)) (h.cent.turn (hf.narrow (by simp)) hb (hf.blk h.cent.row (h.ltC bG (by simp)) (by simpa using h.cent.ne)))⟩

theorem sysTickC (h : Syst o w X bc bG bM c ns) (h0 : 0 ≤ c.now) (h1 : c.now ≤ 1000000) (h2 : 0 ≤ c.since) (h3 : c.since ≤ 1000000) (h4 : 0 ≤ c.wait) (h5 : c.wait ≤ 1000000) :
    Calls Try.prog 35 #[.pointer (some ⟨bc, 0, none⟩)] w fun e w' => e = .returned (.int .i64 0) ∧ Syst o w' X bc bG bM c.tick ns := by
  refine (centTick bc w h.cent.blk h0 (by omega) h2 (by omega) h4 (by omega)).mono ?_
  rintro e w' ⟨he, hb, hf⟩
  refine ⟨he, h.centre (hf.narrow (by simp)) ?_⟩
  have hr := hf.blk h.cent.row (h.ltC bG (by simp)) (by simpa using h.cent.ne)
  unfold tickCells at hb
  unfold CS.tick
  split at hb
  · rename_i ht; rw [if_pos ht]; exact h.cent.turn (hf.narrow (by simp)) hb hr
  · rename_i ht; rw [if_neg ht]; exact h.cent.turn (hf.narrow (by simp)) hb hr

theorem sysWant (h : Syst o w X bc bG bM c ns) (n : Int) (hg : c.g.length ≤ 100000) (hi : inB n 0 (c.g.length - 1) = true) :
    Calls Try.prog 29 #[.pointer (some ⟨bc, 0, none⟩), .int .i64 n] w fun e w' => e = .returned (.int .i64 0) ∧ Syst o w' X bc bG bM { c with wanted := n } ns := by
  refine (centWant bc w n h.cent hg hi).mono ?_
  rintro e w' ⟨he, hc, hf⟩
  exact ⟨he, h.centre (hf.narrow (by simp)) hc⟩

theorem sysHearC (h : Syst o w X bc bG bM c ns) (k : Int) (n : Nat) (m : Int) (hg : c.g.length ≤ 100000) (hv : wordB k n m = true) (hn : n < c.g.length) :
    Calls Try.prog 31 #[.pointer (some ⟨bc, 0, none⟩), wordV (k, n, m)] w fun e w' => e = .returned (.tuple #[wordV (c.hear k n m).2, .int .i64 0]) ∧ Syst o w' X bc bG bM (c.hear k n m).1 ns := by
  refine (centHear_ok bc w k n m h.cent hg hv hn).mono ?_
  rintro e w' ⟨he, hf, hc⟩
  exact ⟨he, h.centre hf hc⟩
end
end Go.Proofs.Ythmladcepkdheaa
