/-
  The law on who holds the authority, with no program in sight: a world of a centre and nodes, what happens in it, and why no two hold the authority.
-/
import Derived.Test.YthmladcepkdheaaSys2
namespace Go.Proofs.Ythmladcepkdheaa

/-- A world: a centre, nodes, what was sent, how far the centre's clock has come beside each node's. -/
structure WS where
  c : CS
  ns : List NS
  sent : List (Int × Int × Int)
  gap : List Int
  edge : List Int
  slow : Int

/-- The centre's clock may tick. -/
def WS.may (w : WS) : Prop := ∀ (i : Nat) (g e : Int), w.gap[i]? = some g → w.edge[i]? = some e → g ≤ e

/-- Why no two hold: for each number that a node has asked for, T0 and C0 say when it was, by the node's clock and by the centre's; 'fal' is the last number of before the node's last fall. -/
structure Good (term : Int) (w : WS) (T0 C0 : Nat → Int → Int) (fal : Nat → Int) : Prop where
  lenG : w.gap.length = w.ns.length
  lenE : w.edge.length = w.ns.length
  lenC : w.c.g.length = w.ns.length + 1
  slow0 : 0 ≤ w.slow
  number : ∀ (i : Nat) (s : NS), w.ns[i]? = some s → s.number = i + 1 ∧ s.term = term ∧ 0 ≤ fal i ∧ fal i ≤ s.last
  asks : ∀ (i : Nat) (s : NS) (p : Int × Int), w.ns[i]? = some s → p ∈ s.l → p.2 = T0 i p.1 ∧ fal i < p.1 ∧ p.1 ≤ s.last
  clock : ∀ (i : Nat) (s : NS) (g e : Int), w.ns[i]? = some s → w.gap[i]? = some g → w.edge[i]? = some e →
    g = 1000 * w.c.now - (1000 + w.slow) * s.now ∧ g ≤ e + 1000 ∧ e ≤ g ∧ ∀ q, 1 ≤ q → q ≤ s.last → e ≤ 1000 * C0 i q - (1000 + w.slow) * T0 i q
  past : ∀ (i : Nat) (s : NS) (q : Int), w.ns[i]? = some s → 1 ≤ q → q ≤ s.last → C0 i q ≤ w.c.now
  ends : ∀ (i : Nat) (s : NS), w.ns[i]? = some s → s.now < s.end_ → ∃ q, ((2, (i : Int) + 1, q) : Int × Int × Int) ∈ w.sent ∧ fal i < q ∧ s.end_ = T0 i q + term
  asked : ∀ n q : Int, ((1, n, q) : Int × Int × Int) ∈ w.sent → ∃ (i : Nat) (s : NS), n = i + 1 ∧ w.ns[i]? = some s ∧ 1 ≤ q ∧ q ≤ s.last
  granted : ∀ n q : Int, ((2, n, q) : Int × Int × Int) ∈ w.sent → ∃ (i : Nat) (s : NS), n = i + 1 ∧ w.ns[i]? = some s ∧ 1 ≤ q ∧ q ≤ s.last ∧ q ≤ w.c.g[i + 1]?.getD 0
  returned : ∀ n q : Int, ((3, n, q) : Int × Int × Int) ∈ w.sent → ∃ (i : Nat) (s : NS), n = i + 1 ∧ w.ns[i]? = some s ∧ 1 ≤ q ∧ q ≤ fal i
  kinds : ∀ x ∈ w.sent, x.1 = 1 ∨ x.1 = 2 ∨ x.1 = 3
  live : ∀ (i : Nat) (s : NS) (q : Int), w.ns[i]? = some s → ((2, (i : Int) + 1, q) : Int × Int × Int) ∈ w.sent → fal i < q → s.now < T0 i q + term →
    (w.c.node = i + 1 ∨ w.c.node = -1) ∧ C0 i q ≤ w.c.since ∧ (w.c.node = i + 1 → q ≤ w.c.number)
  uniq : ∀ (i : Nat) (s : NS) (q : Int) (i' : Nat) (s' : NS) (q' : Int), w.ns[i]? = some s → ((2, (i : Int) + 1, q) : Int × Int × Int) ∈ w.sent → fal i < q → s.now < T0 i q + term →
    w.ns[i']? = some s' → ((2, (i' : Int) + 1, q') : Int × Int × Int) ∈ w.sent → fal i' < q' → s'.now < T0 i' q' + term → i = i'
  wait : term * (1000 + w.slow) ≤ 1000 * w.c.wait - 1000

section
variable {term : Int} {w : WS} {T0 C0 : Nat → Int → Int} {fal : Nat → Int}

/-- AT MOST ONE HOLDS. -/
theorem Good.one (h : Good term w T0 C0 fal) : (w.c.node = 0 → ∀ (i : Nat) (s : NS), w.ns[i]? = some s → ¬ s.now < s.end_) ∧
    ∀ (i i' : Nat) (s s' : NS), w.ns[i]? = some s → w.ns[i']? = some s' → s.now < s.end_ → s'.now < s'.end_ → i = i' := by
  refine ⟨fun h0 i s hs hh => ?_, fun i i' s s' hs hs' hh hh' => ?_⟩
  · obtain ⟨q, hq, hf, he⟩ := h.ends i s hs hh
    obtain ⟨h1, _⟩ := h.live i s q hs hq hf (by omega)
    omega
  · obtain ⟨q, hq, hf, he⟩ := h.ends i s hs hh
    obtain ⟨q', hq', hf', he'⟩ := h.ends i' s' hs' hh'
    exact h.uniq i s q i' s' q' hs hq hf (by omega) hs' hq' hf' (by omega)

/-- The centre breaks down. -/
theorem Good.brk (h : Good term w T0 C0 fal) : Good term { w with c := w.c.brk } T0 C0 fal where
  lenG := h.lenG
  lenE := h.lenE
  lenC := h.lenC
  slow0 := h.slow0
  number := h.number
  asks := h.asks
  clock := h.clock
  past := h.past
  ends := h.ends
  asked := h.asked
  granted := h.granted
  returned := h.returned
  kinds := h.kinds
  live i s q hs hq hf hl := by
    obtain ⟨j, s', h1, h2, h3, h4, _⟩ := h.granted _ _ hq
    have : i = j := by omega
    subst this
    rw [hs] at h2; cases h2
    exact ⟨.inr rfl, h.past i s q hs h3 h4, fun he => by simp only [CS.brk] at he; omega⟩
  uniq := h.uniq
  wait := h.wait

theorem Good.want (h : Good term w T0 C0 fal) (n : Int) : Good term { w with c := { w.c with wanted := n } } T0 C0 fal :=
  ⟨h.lenG, h.lenE, h.lenC, h.slow0, h.number, h.asks, h.clock, h.past, h.ends, h.asked, h.granted, h.returned, h.kinds, h.live, h.uniq, h.wait⟩

/-- The centre's clock ticks. -/
theorem Good.tick (h : Good term w T0 C0 fal) (hm : w.may) (hs0 : 0 ≤ w.c.since) : Good term { w with c := w.c.tick, gap := w.gap.map (· + 1000) } T0 C0 fal := by
  have hnow : w.c.tick.now = w.c.now + 1 := by unfold CS.tick; split <;> rfl
  have hg : w.c.tick.g = w.c.g := by unfold CS.tick; split <;> rfl
  have hwait : w.c.tick.wait = w.c.wait := by unfold CS.tick; split <;> rfl
  have clock' : ∀ (i : Nat) (s : NS) (g e : Int), w.ns[i]? = some s → (w.gap.map (· + 1000))[i]? = some g → w.edge[i]? = some e →
      g = 1000 * (w.c.now + 1) - (1000 + w.slow) * s.now ∧ g ≤ e + 1000 ∧ e ≤ g ∧ ∀ q, 1 ≤ q → q ≤ s.last → e ≤ 1000 * C0 i q - (1000 + w.slow) * T0 i q := by
    intro i s g e hs hgg he
    rw [List.getElem?_map] at hgg
    obtain ⟨g0, hg0, rfl⟩ := Option.map_eq_some_iff.1 hgg
    obtain ⟨h1, h2, h3, h4⟩ := h.clock i s g0 e hs hg0 he
    have := hm i g0 e hg0 he
    exact ⟨by omega, by omega, by omega, h4⟩
  refine ⟨by simpa using h.lenG, h.lenE, by rw [hg]; exact h.lenC, h.slow0, h.number, h.asks, by rw [hnow]; exact clock', fun i s q hs h1 h2 => by have := h.past i s q hs h1 h2; simp only [hnow]; omega, h.ends, h.asked, by simp only [hg]; exact h.granted, h.returned, h.kinds, fun i s q hs hq hf hl => ?_, h.uniq, by simp only [hwait]; exact h.wait⟩
  obtain ⟨l1, l2, l3⟩ := h.live i s q hs hq hf hl
  obtain ⟨j, s', e1, e2, e3, e4, _⟩ := h.granted _ _ hq
  have : i = j := by omega
  subst this
  rw [hs] at e2; cases e2
  by_cases t : w.c.node ≠ 0 ∧ w.c.since + w.c.wait ≤ w.c.now + 1
  · exfalso
    have hlen : i < w.gap.length := by rw [h.lenG]; exact (List.getElem?_eq_some_iff.1 hs).1
    have hlen' : i < w.edge.length := by rw [h.lenE]; exact (List.getElem?_eq_some_iff.1 hs).1
    obtain ⟨c1, c2, c3, c4⟩ := clock' i s (w.gap[i] + 1000) w.edge[i] hs (by simp [hlen]) (List.getElem?_eq_getElem hlen')
    have c5 := c4 q e3 e4
    have hw := h.wait
    have hs1 := h.slow0
    have key : term * (1000 + w.slow) ≤ (1000 + w.slow) * (s.now - T0 i q) := by
      have : (1000 + w.slow) * (s.now - T0 i q) = (1000 + w.slow) * s.now - (1000 + w.slow) * T0 i q := Int.mul_sub _ _ _
      omega
    have : term ≤ s.now - T0 i q := by
      rw [Int.mul_comm] at key
      exact Int.le_of_mul_le_mul_left key (by omega)
    omega
  · have e : w.c.tick = { w.c with now := w.c.now + 1 } := by unfold CS.tick; rw [if_neg t]
    rw [e]
    exact ⟨l1, l2, l3⟩

theorem get_set {α : Type} {l : List α} {k i : Nat} {x y : α} (h : (l.set k x)[i]? = some y) : (i = k ∧ y = x) ∨ (i ≠ k ∧ l[i]? = some y) := by
  rw [List.getElem?_set] at h
  split at h
  · rename_i e
    split at h
    · cases h; exact .inl ⟨e.symm, rfl⟩
    · cases h
  · rename_i e
    exact .inr ⟨fun e' => e e'.symm, h⟩
theorem get_set_ne {α : Type} {l : List α} {k i : Nat} {x y : α} (h : l[i]? = some y) (e : i ≠ k) : (l.set k x)[i]? = some y := by
  rw [List.getElem?_set, if_neg (fun e' => e e'.symm)]; exact h
theorem get_set_eq {α : Type} {l : List α} {k : Nat} {x y : α} (h : l[k]? = some y) : (l.set k x)[k]? = some x := by
  rw [List.getElem?_set, if_pos rfl, if_pos (List.getElem?_eq_some_iff.1 h).1]
/-- Where the node is, behind a change of node k. -/
theorem find_set {l : List NS} {k i : Nat} {s s' x : NS} (hk : l[k]? = some s) (hi : l[i]? = some x) (hl : s.last ≤ s'.last) : ∃ y, (l.set k s')[i]? = some y ∧ x.last ≤ y.last := by
  by_cases e : i = k
  · subst e; rw [hk] at hi; cases hi; exact ⟨s', get_set_eq hk, hl⟩
  · exact ⟨x, get_set_ne hi e, Int.le_refl _⟩

/-- A node's clock ticks. -/
theorem Good.ntick (h : Good term w T0 C0 fal) {k : Nat} {s : NS} (hk : w.ns[k]? = some s) {g e : Int} (hg : w.gap[k]? = some g) (he : w.edge[k]? = some e) :
    Good term { w with ns := w.ns.set k s.tick, gap := w.gap.set k (g - 1000 - w.slow), edge := w.edge.set k (min e (g - 1000 - w.slow)) } T0 C0 fal := by
  have fix : ∀ (n q : Int) (f : Int → Prop), (∃ (i : Nat) (x : NS), n = i + 1 ∧ w.ns[i]? = some x ∧ 1 ≤ q ∧ q ≤ x.last) → ∃ (i : Nat) (x : NS), n = i + 1 ∧ (w.ns.set k s.tick)[i]? = some x ∧ 1 ≤ q ∧ q ≤ x.last := by
    rintro n q _ ⟨i, x, h1, h2, h3, h4⟩
    obtain ⟨y, h5, h6⟩ := find_set (s' := s.tick) hk h2 (Int.le_refl _)
    exact ⟨i, y, h1, h5, h3, by omega⟩
  have old : ∀ {i : Nat} {x : NS}, (w.ns.set k s.tick)[i]? = some x → ∃ y, w.ns[i]? = some y ∧ x.number = y.number ∧ x.term = y.term ∧ x.last = y.last ∧ x.l = y.l ∧ x.end_ = y.end_ ∧ y.now ≤ x.now := by
    intro i x hx
    rcases get_set hx with ⟨rfl, rfl⟩ | ⟨_, hx⟩
    · exact ⟨s, hk, rfl, rfl, rfl, rfl, rfl, by simp only [NS.tick]; omega⟩
    · exact ⟨x, hx, rfl, rfl, rfl, rfl, rfl, Int.le_refl _⟩
  refine ⟨by simpa using h.lenG, by simpa using h.lenE, by simpa using h.lenC, h.slow0, fun i x hx => ?_, fun i x p hx hp => ?_, fun i x g' e' hx hg' he' => ?_, fun i x q hx h1 h2 => ?_, fun i x hx hl => ?_, fun n q hq => fix n q (fun _ => True) (h.asked n q hq), fun n q hq => ?_, fun n q hq => ?_, h.kinds, fun i x q hx hq hf hl => ?_, fun i x q i' x' q' hx hq hf hl hx' hq' hf' hl' => ?_, h.wait⟩
  · obtain ⟨y, hy, e1, e2, e3, _⟩ := old hx
    rw [e1, e2, e3]; exact h.number i y hy
  · obtain ⟨y, hy, e1, e2, e3, e4, _⟩ := old hx
    rw [e4] at hp; rw [e3]; exact h.asks i y p hy hp
  · rcases get_set hx with ⟨rfl, rfl⟩ | ⟨hne, hx⟩
    · rw [get_set_eq hg] at hg'
      rw [get_set_eq he] at he'
      cases hg'; cases he'
      obtain ⟨c1, c2, c3, c4⟩ := h.clock _ s g e hk hg he
      have h0 := h.slow0
      have : (1000 + w.slow) * (s.now + 1) = (1000 + w.slow) * s.now + (1000 + w.slow) := by rw [Int.mul_add, Int.mul_one]
      refine ⟨by simp only [NS.tick]; omega, by omega, by omega, fun q h1 h2 => ?_⟩
      exact Int.le_trans (Int.min_le_left _ _) (c4 q h1 h2)
    · have hg'' : w.gap[i]? = some g' := by rcases get_set hg' with ⟨e, _⟩ | ⟨_, h⟩; exact absurd e hne; exact h
      have he'' : w.edge[i]? = some e' := by rcases get_set he' with ⟨e, _⟩ | ⟨_, h⟩; exact absurd e hne; exact h
      exact h.clock i x g' e' hx hg'' he''
  · obtain ⟨y, hy, _, _, e3, _⟩ := old hx
    exact h.past i y q hy h1 (by omega)
  · obtain ⟨y, hy, _, _, _, _, e5, e6⟩ := old hx
    obtain ⟨q, h1, h2, h3⟩ := h.ends i y hy (by omega)
    exact ⟨q, h1, h2, by omega⟩
  · obtain ⟨i, x, h1, h2, h3, h4, h5⟩ := h.granted n q hq
    obtain ⟨y, h6, h7⟩ := find_set (s' := s.tick) hk h2 (Int.le_refl _)
    exact ⟨i, y, h1, h6, h3, by omega, h5⟩
  · obtain ⟨i, x, h1, h2, h3, h4⟩ := h.returned n q hq
    obtain ⟨y, h6, h7⟩ := find_set (s' := s.tick) hk h2 (Int.le_refl _)
    exact ⟨i, y, h1, h6, h3, h4⟩
  · obtain ⟨y, hy, _, _, _, _, _, e6⟩ := old hx
    exact h.live i y q hy hq hf (by omega)
  · obtain ⟨y, hy, _, _, _, _, _, e6⟩ := old hx
    obtain ⟨y', hy', _, _, _, _, _, e6'⟩ := old hx'
    exact h.uniq i y q i' y' q' hy hq hf (by omega) hy' hq' hf' (by omega)

/-- A node falls (Break), and perhaps says so (Return). -/
theorem Good.nfall (h : Good term w T0 C0 fal) {k : Nat} {s : NS} (hk : w.ns[k]? = some s) (h0 : 0 ≤ s.last) :
    Good term { w with ns := w.ns.set k s.fall } T0 C0 (fun i => if i = k then s.last else fal i) := by
  have hle : ∀ i (x : NS), w.ns[i]? = some x → fal i ≤ (if i = k then s.last else fal i) := by
    intro i x hx
    split
    · rename_i e; subst e; rw [hk] at hx; cases hx; exact (h.number _ s hk).2.2.2
    · exact Int.le_refl _
  have old : ∀ {i : Nat} {x : NS}, (w.ns.set k s.fall)[i]? = some x → ∃ y, w.ns[i]? = some y ∧ x.number = y.number ∧ x.term = y.term ∧ x.last = y.last ∧ x.now = y.now := by
    intro i x hx
    rcases get_set hx with ⟨rfl, rfl⟩ | ⟨_, hx⟩
    · exact ⟨s, hk, rfl, rfl, rfl, rfl⟩
    · exact ⟨x, hx, rfl, rfl, rfl, rfl⟩
  refine ⟨h.lenG.trans (by simp), h.lenE.trans (by simp), h.lenC.trans (by simp), h.slow0, fun i x hx => ?_, fun i x p hx hp => ?_, fun i x g' e' hx hg' he' => ?_, fun i x q hx h1 h2 => ?_, fun i x hx hl => ?_, fun n q hq => ?_, fun n q hq => ?_, fun n q hq => ?_, h.kinds, fun i x q hx hq hf hl => ?_, fun i x q i' x' q' hx hq hf hl hx' hq' hf' hl' => ?_, h.wait⟩
  · obtain ⟨y, hy, e1, e2, e3, _⟩ := old hx
    rw [e1, e2, e3]
    obtain ⟨n1, n2, n3, n4⟩ := h.number i y hy
    refine ⟨n1, n2, ?_, ?_⟩
    · have := hle i y hy; omega
    · split
      · rename_i e; subst e; rw [hk] at hy; cases hy; exact Int.le_refl _
      · exact n4
  · rcases get_set hx with ⟨rfl, rfl⟩ | ⟨hne, hx⟩
    · simp [NS.fall] at hp
    · simp only [if_neg hne]; exact h.asks i x p hx hp
  · obtain ⟨y, hy, _, _, e3, e4⟩ := old hx
    rw [e3, e4]; exact h.clock i y g' e' hy hg' he'
  · obtain ⟨y, hy, _, _, e3, _⟩ := old hx
    exact h.past i y q hy h1 (by omega)
  · rcases get_set hx with ⟨rfl, rfl⟩ | ⟨hne, hx⟩
    · simp [NS.fall] at hl
    · obtain ⟨q, h1, h2, h3⟩ := h.ends i x hx hl
      exact ⟨q, h1, by simp only [if_neg hne]; exact h2, h3⟩
  · obtain ⟨i, x, h1, h2, h3, h4⟩ := h.asked n q hq
    obtain ⟨y, h6, h7⟩ := find_set (s' := s.fall) hk h2 (Int.le_refl _)
    exact ⟨i, y, h1, h6, h3, by omega⟩
  · obtain ⟨i, x, h1, h2, h3, h4, h5⟩ := h.granted n q hq
    obtain ⟨y, h6, h7⟩ := find_set (s' := s.fall) hk h2 (Int.le_refl _)
    exact ⟨i, y, h1, h6, h3, by omega, h5⟩
  · obtain ⟨i, x, h1, h2, h3, h4⟩ := h.returned n q hq
    obtain ⟨y, h6, h7⟩ := find_set (s' := s.fall) hk h2 (Int.le_refl _)
    exact ⟨i, y, h1, h6, h3, by have := hle i x h2; omega⟩
  · obtain ⟨y, hy, _, _, _, e4⟩ := old hx
    have := hle i y hy
    exact h.live i y q hy hq (by omega) (by omega)
  · obtain ⟨y, hy, _, _, _, e4⟩ := old hx
    obtain ⟨y', hy', _, _, _, e4'⟩ := old hx'
    have h1 := hle i y hy
    have h2 := hle i' y' hy'
    exact h.uniq i y q i' y' q' hy hq (by omega) (by omega) hy' hq' (by omega) (by omega)

/-- A word of which nothing is asked but what it says. -/
theorem Good.send3 (h : Good term w T0 C0 fal) {k : Nat} {s : NS} {q : Int} (hk : w.ns[k]? = some s) (h1 : 1 ≤ q) (h2 : q ≤ fal k) : Good term { w with sent := w.sent ++ [(3, (k : Int) + 1, q)] } T0 C0 fal := by
  have only : ∀ {a n r : Int}, ((a, n, r) : Int × Int × Int) ∈ w.sent ++ [(3, (k : Int) + 1, q)] → a ≠ 3 → ((a, n, r) : Int × Int × Int) ∈ w.sent := by
    intro a n r hm ha
    rcases List.mem_append.1 hm with hm | hm
    · exact hm
    · simp only [List.mem_singleton, Prod.mk.injEq] at hm; exact absurd hm.1 ha
  refine ⟨h.lenG, h.lenE, h.lenC, h.slow0, h.number, h.asks, h.clock, h.past, fun i x hx hl => ?_, fun n r hr => h.asked n r (only hr (by decide)), fun n r hr => h.granted n r (only hr (by decide)), fun n r hr => ?_, fun x hx => ?_, fun i x r hx hr hf hl => h.live i x r hx (only hr (by decide)) hf hl, fun i x r i' x' r' hx hr hf hl hx' hr' hf' hl' => h.uniq i x r i' x' r' hx (only hr (by decide)) hf hl hx' (only hr' (by decide)) hf' hl', h.wait⟩
  · obtain ⟨r, h3, h4, h5⟩ := h.ends i x hx hl
    exact ⟨r, List.mem_append_left _ h3, h4, h5⟩
  · rcases List.mem_append.1 hr with hr | hr
    · exact h.returned n r hr
    · simp only [List.mem_singleton, Prod.mk.injEq] at hr
      obtain ⟨_, rfl, rfl⟩ := hr
      exact ⟨k, s, rfl, hk, h1, h2⟩
  · rcases List.mem_append.1 hx with hx | hx
    · exact h.kinds x hx
    · simp only [List.mem_singleton] at hx; subst hx; exact .inr (.inr rfl)

/-- A node asks. -/
theorem Good.nask (h : Good term w T0 C0 fal) {k : Nat} {s : NS} (hk : w.ns[k]? = some s) (h0 : 0 ≤ s.last) (hc : 0 ≤ w.c.now) (hkg : ∃ g, w.gap[k]? = some g) (hke : ∃ e, w.edge[k]? = some e) :
    Good term { w with ns := w.ns.set k s.ask.1, sent := w.sent ++ [(1, (k : Int) + 1, s.last + 1)] } (fun i q => if i = k ∧ q = s.last + 1 then s.now else T0 i q) (fun i q => if i = k ∧ q = s.last + 1 then w.c.now else C0 i q) fal := by
  have only : ∀ {a n r : Int}, ((a, n, r) : Int × Int × Int) ∈ w.sent ++ [(1, (k : Int) + 1, s.last + 1)] → a ≠ 1 → ((a, n, r) : Int × Int × Int) ∈ w.sent := by
    intro a n r hm ha
    rcases List.mem_append.1 hm with hm | hm
    · exact hm
    · simp only [List.mem_singleton, Prod.mk.injEq] at hm; exact absurd hm.1 ha
  have old : ∀ {i : Nat} {x : NS}, (w.ns.set k s.ask.1)[i]? = some x → ∃ y, w.ns[i]? = some y ∧ x.number = y.number ∧ x.term = y.term ∧ y.last ≤ x.last ∧ x.now = y.now ∧ x.end_ = y.end_ := by
    intro i x hx
    rcases get_set hx with ⟨rfl, rfl⟩ | ⟨_, hx⟩
    · exact ⟨s, hk, rfl, rfl, by simp only [NS.ask]; omega, rfl, rfl⟩
    · exact ⟨x, hx, rfl, rfl, Int.le_refl _, rfl, rfl⟩
  have same : ∀ (i : Nat) (x : NS) (q : Int), w.ns[i]? = some x → q ≤ x.last → ¬ (i = k ∧ q = s.last + 1) := by
    rintro i x q hx hq ⟨rfl, rfl⟩
    rw [hk] at hx; cases hx; omega
  have granted' : ∀ (i : Nat) (q : Int), ((2, (i : Int) + 1, q) : Int × Int × Int) ∈ w.sent → ∃ y, w.ns[i]? = some y ∧ q ≤ y.last := by
    intro i q hq
    obtain ⟨j, y, e1, e2, e3, e4, _⟩ := h.granted _ _ hq
    have : i = j := by omega
    subst this
    exact ⟨y, e2, e4⟩
  have tsame : ∀ (i : Nat) (q : Int), ((2, (i : Int) + 1, q) : Int × Int × Int) ∈ w.sent → (if i = k ∧ q = s.last + 1 then s.now else T0 i q) = T0 i q ∧ (if i = k ∧ q = s.last + 1 then w.c.now else C0 i q) = C0 i q := by
    intro i q hq
    obtain ⟨y, hy, hl⟩ := granted' i q hq
    rw [if_neg (same i y q hy hl), if_neg (same i y q hy hl)]
    exact ⟨rfl, rfl⟩
  refine ⟨h.lenG.trans (by simp), h.lenE.trans (by simp), h.lenC.trans (by simp), h.slow0, fun i x hx => ?_, fun i x p hx hp => ?_, fun i x g' e' hx hg' he' => ?_, fun i x q hx h1 h2 => ?_, fun i x hx hl => ?_, fun n q hq => ?_, fun n q hq => ?_, fun n q hq => ?_, fun x hx => ?_, fun i x q hx hq hf hl => ?_, fun i x q i' x' q' hx hq hf hl hx' hq' hf' hl' => ?_, h.wait⟩
  · obtain ⟨y, hy, e1, e2, e3, _⟩ := old hx
    rw [e1, e2]
    obtain ⟨n1, n2, n3, n4⟩ := h.number i y hy
    exact ⟨n1, n2, n3, by omega⟩
  · rcases get_set hx with ⟨rfl, rfl⟩ | ⟨hne, hx⟩
    · simp only [NS.ask, List.mem_append, List.mem_singleton] at hp
      rcases hp with hp | rfl
      · obtain ⟨a1, a2, a3⟩ := h.asks _ s p hk hp
        rw [if_neg (same _ s p.1 hk a3)]
        exact ⟨a1, a2, by simp only [NS.ask]; omega⟩
      · rw [if_pos ⟨rfl, rfl⟩]
        have := (h.number _ s hk).2.2.2
        exact ⟨rfl, by simp only; omega, by simp only [NS.ask]; omega⟩
    · rw [if_neg (fun e => hne e.1)]
      exact h.asks i x p hx hp
  · obtain ⟨y, hy, _, _, e3, e4, _⟩ := old hx
    obtain ⟨c1, c2, c3, c4⟩ := h.clock i y g' e' hy hg' he'
    rw [e4]
    refine ⟨c1, c2, c3, fun q h1 h2 => ?_⟩
    by_cases e : i = k ∧ q = s.last + 1
    · rw [if_pos e, if_pos e]
      obtain ⟨rfl, rfl⟩ := e
      rw [hk] at hy; cases hy
      rw [← c1]; exact c3
    · rw [if_neg e, if_neg e]
      refine c4 q h1 ?_
      rcases get_set hx with ⟨rfl, rfl⟩ | ⟨_, hx⟩
      · rw [hk] at hy; cases hy
        have : q ≠ s.last + 1 := fun e' => e ⟨rfl, e'⟩
        simp only [NS.ask] at h2; omega
      · rw [hy] at hx; cases hx; exact h2
  · by_cases e : i = k ∧ q = s.last + 1
    · simp only [if_pos e]; exact Int.le_refl _
    · simp only [if_neg e]
      rcases get_set hx with ⟨rfl, rfl⟩ | ⟨_, hx⟩
      · have : q ≠ s.last + 1 := fun e' => e ⟨rfl, e'⟩
        exact h.past _ s q hk h1 (by simp only [NS.ask] at h2; omega)
      · exact h.past i x q hx h1 h2
  · obtain ⟨y, hy, _, _, _, e4, e5⟩ := old hx
    obtain ⟨q, h1, h2, h3⟩ := h.ends i y hy (by omega)
    exact ⟨q, List.mem_append_left _ h1, h2, by rw [(tsame i q h1).1]; omega⟩
  · rcases List.mem_append.1 hq with hq | hq
    · obtain ⟨i, x, h1, h2, h3, h4⟩ := h.asked n q hq
      obtain ⟨y, h6, h7⟩ := find_set (s' := s.ask.1) hk h2 (by simp only [NS.ask]; omega)
      exact ⟨i, y, h1, h6, h3, by omega⟩
    · simp only [List.mem_singleton, Prod.mk.injEq] at hq
      obtain ⟨_, rfl, rfl⟩ := hq
      exact ⟨k, s.ask.1, rfl, get_set_eq hk, by omega, Int.le_refl _⟩
  · obtain ⟨i, x, h1, h2, h3, h4, h5⟩ := h.granted n q (only hq (by decide))
    obtain ⟨y, h6, h7⟩ := find_set (s' := s.ask.1) hk h2 (by simp only [NS.ask]; omega)
    exact ⟨i, y, h1, h6, h3, by omega, h5⟩
  · obtain ⟨i, x, h1, h2, h3, h4⟩ := h.returned n q (only hq (by decide))
    obtain ⟨y, h6, h7⟩ := find_set (s' := s.ask.1) hk h2 (by simp only [NS.ask]; omega)
    exact ⟨i, y, h1, h6, h3, h4⟩
  · rcases List.mem_append.1 hx with hx | hx
    · exact h.kinds x hx
    · simp only [List.mem_singleton] at hx; subst hx; exact .inl rfl
  · obtain ⟨y, hy, _, _, _, e4, _⟩ := old hx
    have hq' := only hq (by decide)
    rw [(tsame i q hq').1] at hl
    obtain ⟨l1, l2, l3⟩ := h.live i y q hy hq' hf (by omega)
    exact ⟨l1, by rw [(tsame i q hq').2]; exact l2, l3⟩
  · obtain ⟨y, hy, _, _, _, e4, _⟩ := old hx
    obtain ⟨y', hy', _, _, _, e4', _⟩ := old hx'
    have g1 := only hq (by decide)
    have g2 := only hq' (by decide)
    rw [(tsame i q g1).1] at hl
    rw [(tsame i' q' g2).1] at hl'
    exact h.uniq i y q i' y' q' hy g1 hf (by omega) hy' g2 hf' (by omega)

/-- A node hears a Grant that was sent. -/
theorem Good.ngrant (h : Good term w T0 C0 fal) {k : Nat} {s : NS} (hk : w.ns[k]? = some s) {q : Int} (hq : ((2, (k : Int) + 1, q) : Int × Int × Int) ∈ w.sent) {t : Int} {r : List (Int × Int)} (ht : takeL s.l q = some (t, r)) (hmem : (q, t) ∈ s.l) :
    Good term { w with ns := w.ns.set k { s with end_ := max s.end_ (t + s.term), l := r } } T0 C0 fal := by
  have old : ∀ {i : Nat} {x : NS}, (w.ns.set k { s with end_ := max s.end_ (t + s.term), l := r })[i]? = some x → ∃ y, w.ns[i]? = some y ∧ x.number = y.number ∧ x.term = y.term ∧ x.last = y.last ∧ x.now = y.now := by
    intro i x hx
    rcases get_set hx with ⟨rfl, rfl⟩ | ⟨_, hx⟩
    · exact ⟨s, hk, rfl, rfl, rfl, rfl⟩
    · exact ⟨x, hx, rfl, rfl, rfl, rfl⟩
  refine ⟨h.lenG.trans (by simp), h.lenE.trans (by simp), h.lenC.trans (by simp), h.slow0, fun i x hx => ?_, fun i x p hx hp => ?_, fun i x g' e' hx hg' he' => ?_, fun i x r hx h1 h2 => ?_, fun i x hx hl => ?_, fun n r hr => ?_, fun n r hr => ?_, fun n r hr => ?_, h.kinds, fun i x r hx hr hf hl => ?_, fun i x r i' x' r' hx hr hf hl hx' hr' hf' hl' => ?_, h.wait⟩
  · obtain ⟨y, hy, e1, e2, e3, _⟩ := old hx
    rw [e1, e2, e3]; exact h.number i y hy
  · rcases get_set hx with ⟨rfl, rfl⟩ | ⟨_, hx⟩
    · exact h.asks _ s p hk ((takeL_mem ht).2.1 p hp)
    · exact h.asks i x p hx hp
  · obtain ⟨y, hy, _, _, e3, e4⟩ := old hx
    rw [e3, e4]; exact h.clock i y g' e' hy hg' he'
  · obtain ⟨y, hy, _, _, e3, _⟩ := old hx
    exact h.past i y r hy h1 (by omega)
  · rcases get_set hx with ⟨rfl, rfl⟩ | ⟨_, hx⟩
    · by_cases e : s.end_ < t + s.term
      · obtain ⟨a1, a2, a3⟩ := h.asks _ s (q, t) hk hmem
        have hterm := (h.number _ s hk).2.1
        refine ⟨q, hq, a2, ?_⟩
        simp only at a1 ⊢
        rw [← a1, ← hterm]; omega
      · have e' : max s.end_ (t + s.term) = s.end_ := by omega
        simp only [e'] at hl ⊢
        exact h.ends _ s hk hl
    · exact h.ends i x hx hl
  · obtain ⟨i, x, h1, h2, h3, h4⟩ := h.asked n r hr
    obtain ⟨y, h6, h7⟩ := find_set (s' := { s with end_ := max s.end_ (t + s.term), l := _ }) hk h2 (Int.le_refl _)
    exact ⟨i, y, h1, h6, h3, by omega⟩
  · obtain ⟨i, x, h1, h2, h3, h4, h5⟩ := h.granted n r hr
    obtain ⟨y, h6, h7⟩ := find_set (s' := { s with end_ := max s.end_ (t + s.term), l := _ }) hk h2 (Int.le_refl _)
    exact ⟨i, y, h1, h6, h3, by omega, h5⟩
  · obtain ⟨i, x, h1, h2, h3, h4⟩ := h.returned n r hr
    obtain ⟨y, h6, h7⟩ := find_set (s' := { s with end_ := max s.end_ (t + s.term), l := _ }) hk h2 (Int.le_refl _)
    exact ⟨i, y, h1, h6, h3, h4⟩
  · obtain ⟨y, hy, _, _, _, e4⟩ := old hx
    exact h.live i y r hy hr hf (by omega)
  · obtain ⟨y, hy, _, _, _, e4⟩ := old hx
    obtain ⟨y', hy', _, _, _, e4'⟩ := old hx'
    exact h.uniq i y r i' y' r' hy hr hf (by omega) hy' hr' hf' (by omega)

theorem getD_set' (l : List Int) (n i : Nat) (v : Int) (hv : l[n]?.getD 0 ≤ v) : l[i]?.getD 0 ≤ (l.set n v)[i]?.getD 0 := by
  rw [List.getElem?_set]
  split
  · rename_i e; subst e
    split
    · exact hv
    · rename_i hn
      rw [List.getElem?_eq_none (by omega)]
      exact Int.le_refl _
  · exact Int.le_refl _

/-- A greater number is known. -/
theorem Good.gset (h : Good term w T0 C0 fal) (n : Nat) (v : Int) (hv : w.c.g[n]?.getD 0 ≤ v) : Good term { w with c := { w.c with g := w.c.g.set n v } } T0 C0 fal :=
  ⟨h.lenG, h.lenE, by simpa using h.lenC, h.slow0, h.number, h.asks, h.clock, h.past, h.ends, h.asked, fun n' q hq => by
    obtain ⟨i, x, h1, h2, h3, h4, h5⟩ := h.granted n' q hq
    exact ⟨i, x, h1, h2, h3, h4, Int.le_trans h5 (getD_set' _ _ _ _ hv)⟩, h.returned, h.kinds, h.live, h.uniq, h.wait⟩

/-- A lease is given. -/
theorem Good.grant (h : Good term w T0 C0 fal) {k : Nat} {s : NS} {q : Int} (hk : w.ns[k]? = some s) (h1 : 1 ≤ q) (h2 : q ≤ s.last) (hg : w.c.g[k + 1]?.getD 0 < q) (hfree : w.c.node = 0 ∨ w.c.node = (k : Int) + 1) :
    Good term { w with c := { w.c with node := (k : Int) + 1, number := q, since := w.c.now, g := w.c.g.set (k + 1) q }, sent := w.sent ++ [(2, (k : Int) + 1, q)] } T0 C0 fal := by
  have hklen : k + 1 < w.c.g.length := by rw [h.lenC]; have := (List.getElem?_eq_some_iff.1 hk).1; omega
  have mem : ∀ {n r : Int}, ((2, n, r) : Int × Int × Int) ∈ w.sent ++ [(2, (k : Int) + 1, q)] → ((2, n, r) : Int × Int × Int) ∈ w.sent ∨ (n = k + 1 ∧ r = q) := by
    intro n r hm
    rcases List.mem_append.1 hm with hm | hm
    · exact .inl hm
    · simp only [List.mem_singleton, Prod.mk.injEq] at hm; exact .inr ⟨hm.2.1, hm.2.2⟩
  have only : ∀ {a n r : Int}, ((a, n, r) : Int × Int × Int) ∈ w.sent ++ [(2, (k : Int) + 1, q)] → a ≠ 2 → ((a, n, r) : Int × Int × Int) ∈ w.sent := by
    intro a n r hm ha
    rcases List.mem_append.1 hm with hm | hm
    · exact hm
    · simp only [List.mem_singleton, Prod.mk.injEq] at hm; exact absurd hm.1 ha
  have isk : ∀ (i : Nat) (x : NS) (r : Int), w.ns[i]? = some x → ((2, (i : Int) + 1, r) : Int × Int × Int) ∈ w.sent ++ [(2, (k : Int) + 1, q)] → fal i < r → x.now < T0 i r + term → i = k := by
    intro i x r hx hr hf hl
    rcases mem hr with hr | ⟨e, _⟩
    · obtain ⟨l1, _⟩ := h.live i x r hx hr hf hl
      omega
    · omega
  refine ⟨h.lenG, h.lenE, by simpa using h.lenC, h.slow0, h.number, h.asks, h.clock, h.past, fun i x hx hl => ?_, fun n r hr => h.asked n r (only hr (by decide)), fun n r hr => ?_, fun n r hr => h.returned n r (only hr (by decide)), fun x hx => ?_, fun i x r hx hr hf hl => ?_, fun i x r i' x' r' hx hr hf hl hx' hr' hf' hl' => (isk i x r hx hr hf hl).trans (isk i' x' r' hx' hr' hf' hl').symm, h.wait⟩
  · obtain ⟨r, h3, h4, h5⟩ := h.ends i x hx hl
    exact ⟨r, List.mem_append_left _ h3, h4, h5⟩
  · rcases mem hr with hr | ⟨rfl, rfl⟩
    · obtain ⟨i, x, e1, e2, e3, e4, e5⟩ := h.granted n r hr
      exact ⟨i, x, e1, e2, e3, e4, Int.le_trans e5 (getD_set' _ _ _ _ (by omega))⟩
    · exact ⟨k, s, rfl, hk, h1, h2, by simp [hklen]⟩
  · rcases List.mem_append.1 hx with hx | hx
    · exact h.kinds x hx
    · simp only [List.mem_singleton] at hx; subst hx; exact .inr (.inl rfl)
  · have e := isk i x r hx hr hf hl
    subst e
    rcases mem hr with hr | ⟨_, rfl⟩
    · obtain ⟨j, y, e1, e2, e3, e4, e5⟩ := h.granted _ _ hr
      have : i = j := by omega
      subst this
      rw [hx] at e2; cases e2
      exact ⟨.inl rfl, h.past i x r hx e3 e4, fun _ => by simp only; omega⟩
    · rw [hk] at hx; cases hx
      exact ⟨.inl rfl, h.past i s r hk h1 h2, fun _ => Int.le_refl _⟩

/-- A lease is given back. -/
theorem Good.unlease (h : Good term w T0 C0 fal) {k : Nat} {s : NS} {q : Int} (hk : w.ns[k]? = some s) (h2 : q ≤ fal k) (hn : w.c.node = (k : Int) + 1) (hq : w.c.number ≤ q) :
    Good term { w with c := { w.c with node := 0, number := 0, since := 0 } } T0 C0 fal := by
  refine ⟨h.lenG, h.lenE, h.lenC, h.slow0, h.number, h.asks, h.clock, h.past, h.ends, h.asked, h.granted, h.returned, h.kinds, fun i x r hx hr hf hl => ?_, h.uniq, h.wait⟩
  exfalso
  obtain ⟨l1, _, l3⟩ := h.live i x r hx hr hf hl
  have e : i = k := by omega
  subst e
  have := l3 hn
  omega
end

/-! ### What the centre hears -/
section
variable {term : Int} {w : WS} {T0 C0 : Nat → Int → Int} {fal : Nat → Int}
theorem Good.cask (h : Good term w T0 C0 fal) {k : Nat} {s : NS} {q : Int} (hk : w.ns[k]? = some s) (h1 : 1 ≤ q) (h2 : q ≤ s.last) :
    Good term { w with c := (w.c.ask (k + 1) q).1, sent := if (w.c.ask (k + 1) q).2 = (0, 0, 0) then w.sent else w.sent ++ [(w.c.ask (k + 1) q).2] } T0 C0 fal := by
  unfold CS.ask
  by_cases t1 : q ≤ w.c.g[k + 1]?.getD 0
  · simp only [t1, if_true]
    exact h
  · simp only [t1, if_false]
    by_cases t2 : ((k + 1 : Nat) : Int) = w.c.wanted ∧ (w.c.node = 0 ∨ w.c.node = ((k + 1 : Nat) : Int))
    · rw [if_pos t2]
      have hne : ¬ ((2, ((k + 1 : Nat) : Int), q) : Int × Int × Int) = (0, 0, 0) := by simp
      rw [if_neg hne]
      have := h.grant hk h1 h2 (by omega) (by simpa using t2.2)
      simpa using this
    · rw [if_neg t2]
      simp only [if_true]
      exact h.gset (k + 1) q (by omega)
theorem Good.cback (h : Good term w T0 C0 fal) {k : Nat} {s : NS} {q : Int} (hk : w.ns[k]? = some s) (h2 : q ≤ fal k) : Good term { w with c := w.c.back (k + 1) q } T0 C0 fal := by
  unfold CS.back
  have hm : w.c.g[k + 1]?.getD 0 ≤ max (w.c.g[k + 1]?.getD 0) q := by omega
  by_cases t : w.c.node = ((k + 1 : Nat) : Int) ∧ w.c.number ≤ q
  · rw [if_pos t]
    exact (h.unlease hk h2 (by simpa using t.1) t.2).gset (k + 1) _ hm
  · rw [if_neg t]
    exact h.gset (k + 1) _ hm
end
end Go.Proofs.Ythmladcepkdheaa
