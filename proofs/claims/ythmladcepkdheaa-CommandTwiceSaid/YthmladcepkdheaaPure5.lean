/-
  What no event changes; and the plain law of CommandTwice: a word heard a second time, behind nothing but ticks and asks, changes nothing.
-/
import Derived.Test.YthmladcepkdheaaPure4
namespace Go.Proofs.Ythmladcepkdheaa

theorem ask_wait (c : CS) (n : Nat) (m : Int) : (c.ask n m).1.wait = c.wait := by
  unfold CS.ask
  split
  · rfl
  · split <;> rfl
theorem back_wait (c : CS) (n : Nat) (m : Int) : (c.back n m).wait = c.wait := by unfold CS.back; split <;> rfl
theorem hear_wait (c : CS) (k : Int) (n : Nat) (m : Int) : (c.hear k n m).1.wait = c.wait := by
  unfold CS.hear
  split
  · exact ask_wait c n m
  split
  · exact back_wait c n m
  · rfl
theorem heard_wait (c : CS) (k n m : Int) : (c.heard k n m).1.wait = c.wait := by
  unfold CS.heard
  split
  · rfl
  split
  · rfl
  · exact hear_wait c k n.toNat m
theorem want_wait (c : CS) (n : Int) : (c.want n).1.wait = c.wait := by unfold CS.want; split <;> rfl
theorem WS.put_len (w : WS) (k : Nat) (s : NS) : (w.put k s).ns.length = w.ns.length := by simp [WS.put]

/-- No event changes the rules. -/
theorem WS.happen_same (w : WS) (what n : Nat) : (w.happen what n).1.slow = w.slow ∧ (w.happen what n).1.c.wait = w.c.wait ∧ (w.happen what n).1.ns.length = w.ns.length := by
  unfold WS.happen
  split
  · exact ⟨rfl, rfl, w.put_len _ _⟩
  split
  · dsimp only; split
    · exact ⟨rfl, rfl, rfl⟩
    · exact ⟨rfl, rfl, w.put_len _ _⟩
  split
  · exact ⟨rfl, rfl, w.put_len _ _⟩
  split
  · exact ⟨rfl, rfl, rfl⟩
  split
  · exact ⟨rfl, want_wait _ _, rfl⟩
  split
  · split
    · exact ⟨rfl, rfl, rfl⟩
    · dsimp only
      split
      · split
        · exact ⟨rfl, rfl, w.put_len _ _⟩
        · exact ⟨rfl, rfl, rfl⟩
      · dsimp only
        split
        · exact ⟨rfl, heard_wait _ _ _ _, rfl⟩
        · exact ⟨rfl, heard_wait _ _ _ _, rfl⟩
  split
  · dsimp only; split
    · exact ⟨rfl, tick_wait _, rfl⟩
    · exact ⟨rfl, rfl, rfl⟩
  · exact ⟨rfl, rfl, by simp⟩

theorem WS.node_put (w : WS) (i k : Nat) (s : NS) (hk : k < w.ns.length) : (w.put i s).node k = if i = k then s else w.node k := by
  unfold WS.node WS.put
  simp only [List.getD, List.getElem?_set]
  split
  · rename_i e; subst e; simp [hk]
  · rfl
theorem WS.node_say (w : WS) (x : Int × Int × Int) (k : Nat) : (w.say x).node k = w.node k := rfl
theorem NS.hear_end (s : NS) (k n m : Int) : s.end_ ≤ (s.hear k n m).1.end_ := by
  unfold NS.hear
  split
  · exact Int.le_refl _
  split
  · exact Int.le_refl _
  · split
    · exact Int.le_refl _
    · exact Int.le_max_left _ _

/-- An end falls by Return and Break alone. -/
theorem WS.happen_end (w : WS) (what n : Nat) (h2 : what ≠ 2) (h3 : what ≠ 3) (k : Nat) (hk : k < w.ns.length) : (w.node k).end_ ≤ ((w.happen what n).1.node k).end_ := by
  unfold WS.happen
  split
  · dsimp only
    rw [WS.node_say, WS.node_put _ _ _ _ hk]
    split
    · rename_i e; rw [e]; exact Int.le_refl _
    · exact Int.le_refl _
  try rw [if_neg h2, if_neg h3]
  split
  · exact Int.le_refl _
  split
  · exact Int.le_refl _
  split
  · split
    · exact Int.le_refl _
    · dsimp only
      split
      · split
        · dsimp only
          rw [WS.node_put _ _ _ _ hk]
          split
          · rename_i e; rw [e]; exact NS.hear_end _ _ _ _
          · exact Int.le_refl _
        · exact Int.le_refl _
      · dsimp only
        split
        · exact Int.le_refl _
        · exact Int.le_refl _
  split
  · dsimp only; split
    · exact Int.le_refl _
    · exact Int.le_refl _
  · have := WS.node_put w (n % w.ns.length) k (w.node (n % w.ns.length)).tick hk
    have e : (({ w with ns := w.ns.set (n % w.ns.length) (w.node (n % w.ns.length)).tick, gap := w.gap.set (n % w.ns.length) (w.gap.getD (n % w.ns.length) 0 - 1000 - w.slow), edge := w.edge.set (n % w.ns.length) (min (w.edge.getD (n % w.ns.length) 0) (w.gap.getD (n % w.ns.length) 0 - 1000 - w.slow)) } : WS)).node k = (w.put (n % w.ns.length) (w.node (n % w.ns.length)).tick).node k := rfl
    dsimp only
    rw [e, this]
    split
    · rename_i e; rw [e]; exact Int.le_refl _
    · exact Int.le_refl _

/-! ### Asks rise -/
def Ris (s : NS) : Prop := s.l.Pairwise fun p q => p.1 < q.1
def WS.Rise (w : WS) : Prop := ∀ (i : Nat) (s : NS), w.ns[i]? = some s → Ris s
theorem takeL_suffix {l : List (Int × Int)} {m t : Int} {r : List (Int × Int)} (h : takeL l m = some (t, r)) : ∃ a, l = a ++ (m, t) :: r := by
  induction l with
  | nil => simp [takeL] at h
  | cons p l ih =>
    rw [takeL] at h
    split at h
    · rename_i e
      simp only [Option.some.injEq, Prod.mk.injEq] at h
      obtain ⟨rfl, rfl⟩ := h
      exact ⟨[], by rw [← e]; rfl⟩
    · obtain ⟨a, ha⟩ := ih h
      exact ⟨p :: a, by rw [ha]; rfl⟩
theorem takeL_ne {l : List (Int × Int)} {m : Int} (h : takeL l m = none) : ∀ p ∈ l, p.1 ≠ m := by
  induction l with
  | nil => intro p hp; cases hp
  | cons p l ih =>
    rw [takeL] at h
    split at h
    · cases h
    · rename_i e
      intro q hq
      rcases List.mem_cons.1 hq with rfl | hq
      · exact e
      · exact ih h q hq
theorem Ris.ask {s : NS} (h : Ris s) (hl : ∀ p ∈ s.l, p.1 ≤ s.last) : Ris s.ask.1 := by
  unfold Ris NS.ask
  simp only
  rw [List.pairwise_append]
  refine ⟨h, by simp, fun a ha b hb => ?_⟩
  obtain rfl := List.mem_singleton.1 hb
  have := hl a ha
  simp only
  omega
theorem Ris.hear {s : NS} (h : Ris s) (k n m : Int) : Ris (s.hear k n m).1 := by
  unfold NS.hear
  split
  · exact h
  split
  · exact h
  · split
    · exact h
    · rename_i t r ht
      obtain ⟨a, ha⟩ := takeL_suffix ht
      unfold Ris at h ⊢
      rw [ha, List.pairwise_append] at h
      exact (List.pairwise_cons.1 h.2.1).2
theorem WS.Rise.put {w : WS} (h : w.Rise) {k : Nat} {s : NS} (hs : Ris s) : (w.put k s).Rise := fun i x hx => by
  rcases get_set hx with ⟨_, rfl⟩ | ⟨_, hx⟩
  · exact hs
  · exact h i x hx
theorem Fine.rise {term : Int} {N : Nat} {w : WS} (hf : Fine term N w) (h : w.Rise) (what n : Nat) : (w.happen what n).1.Rise := by
  have hk : n % w.ns.length < w.ns.length := Nat.mod_lt _ (by have := hf.2.some_; omega)
  have hat := w.node_at hk
  have hr := h _ _ hat
  obtain ⟨⟨T0, C0, fal, hg⟩, hn⟩ := hf
  have hl : ∀ p ∈ (w.node (n % w.ns.length)).l, p.1 ≤ (w.node (n % w.ns.length)).last := fun p hp => (hg.asks _ _ p hat hp).2.2
  unfold WS.happen
  split
  · exact h.put (hr.ask hl)
  split
  · dsimp only; split
    · exact h
    · exact h.put (by simp [Ris, NS.fall])
  split
  · exact h.put (by simp [Ris, NS.fall])
  split
  · exact h
  split
  · exact h
  split
  · split
    · exact h
    · dsimp only
      split
      · split
        · rename_i h1
          dsimp only
          have hi : ((w.sent.getD (n % w.sent.length) (0, 0, 0)).2.1 - 1).toNat < w.ns.length := by omega
          exact h.put ((h _ _ (w.node_at hi)).hear _ _ _)
        · exact h
      · dsimp only
        split
        · exact h
        · exact h
  split
  · dsimp only; split
    · exact h
    · exact h
  · exact h.put hr

/-! ### Heard twice -/
/-- The word (k, n, q) has been heard: what the centre and the node that it names know of it. -/
structure Known (k : Int) (n : Nat) (q : Int) (c : CS) (s : NS) : Prop where
  last : q ≤ s.last
  grant : k = 2 → ∀ p ∈ s.l, p.1 ≠ q
  ask : k = 1 → q ≤ c.g[n]?.getD 0
  back : k = 3 → q ≤ c.g[n]?.getD 0 ∧ ¬ (c.node = n ∧ c.number ≤ q)
section
variable {k : Int} {n : Nat} {q : Int} {c : CS} {s : NS}
theorem tick_g (c : CS) : c.tick.g = c.g := by unfold CS.tick; split <;> rfl
theorem Known.ctick (h : Known k n q c s) (hn : 1 ≤ n) : Known k n q c.tick s := by
  refine ⟨h.last, h.grant, fun e => by rw [tick_g]; exact h.ask e, fun e => ⟨by rw [tick_g]; exact (h.back e).1, ?_⟩⟩
  have := (h.back e).2
  unfold CS.tick
  split
  · simp only; omega
  · exact this
theorem Known.ntick (h : Known k n q c s) : Known k n q c s.tick := ⟨h.last, h.grant, h.ask, h.back⟩
theorem Known.nask (h : Known k n q c s) : Known k n q c s.ask.1 := by
  refine ⟨by have := h.last; simp only [NS.ask]; omega, fun e p hp => ?_, h.ask, h.back⟩
  simp only [NS.ask, List.mem_append, List.mem_singleton] at hp
  rcases hp with hp | rfl
  · exact h.grant e p hp
  · have := h.last; simp only; omega
/-- The first time. -/
theorem known_first (hr : Ris s) (hl : q ≤ s.last) (hk : k = 1 ∨ k = 2 ∨ k = 3) (hn : n < c.g.length) (hok : (wordB k n q && (n : Int) == s.number) = true) :
    Known k n q (if k = 2 then c else (c.hear k n q).1) (if k = 2 then (s.hear k n q).1 else s) := by
  rcases hk with rfl | rfl | rfl
  · rw [if_neg (by omega), if_neg (by omega)]
    refine ⟨hl, fun e => by omega, fun _ => ?_, fun e => by omega⟩
    unfold CS.hear CS.ask
    rw [if_pos rfl]
    split
    · rename_i h; exact h
    · split <;> simp [List.getElem?_set, hn]
  · rw [if_pos rfl, if_pos rfl]
    refine ⟨?_, fun _ => ?_, fun e => by omega, fun e => by omega⟩
    · unfold NS.hear
      rw [hok, if_neg (by simp), if_neg (by simp)]
      split <;> exact hl
    · unfold NS.hear
      rw [hok, if_neg (by simp), if_neg (by simp)]
      split
      · rename_i ht
        exact takeL_ne ht
      · rename_i t r ht
        obtain ⟨a, ha⟩ := takeL_suffix ht
        unfold Ris at hr
        rw [ha, List.pairwise_append] at hr
        intro p hp
        have := (List.pairwise_cons.1 hr.2.1).1 p hp
        simp only at this
        omega
  · rw [if_neg (by omega), if_neg (by omega)]
    refine ⟨hl, fun e => by omega, fun e => by omega, fun _ => ?_⟩
    unfold CS.hear CS.back
    rw [if_neg (by omega), if_pos rfl]
    split
    · refine ⟨?_, ?_⟩
      · simp only [List.getElem?_set, hn, if_true, Option.getD_some]; exact Int.le_max_right _ _
      · have hv := (Bool.and_eq_true_iff.1 hok).1
        simp only [wordB, Bool.and_eq_true] at hv
        have := inB_iff.1 hv.1.2
        simp only
        omega
    · rename_i h
      refine ⟨?_, h⟩
      simp only [List.getElem?_set, hn, if_true, Option.getD_some]; exact Int.le_max_right _ _
/-- The second time nothing turns that can be seen. -/
theorem known_again (h : Known k n q c s) (hk : k = 1 ∨ k = 3) : ((c.hear k n q).1.node = c.node ∧ (c.hear k n q).1.since = c.since) := by
  rcases hk with rfl | rfl
  · unfold CS.hear CS.ask
    rw [if_pos rfl, if_pos (h.ask rfl)]
    exact ⟨rfl, rfl⟩
  · unfold CS.hear CS.back
    rw [if_neg (by omega), if_pos rfl, if_neg (h.back rfl).2]
    exact ⟨rfl, rfl⟩
theorem known_againN (h : Known 2 n q c s) : (s.hear 2 n q).1 = s := by
  unfold NS.hear
  split
  · rfl
  · rw [if_neg (by simp), takeL_none (h.grant rfl)]
end
end Go.Proofs.Ythmladcepkdheaa
