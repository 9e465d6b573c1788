/-
  What happens in a world, event by event, and that all that is asked is granted.
-/
import Derived.Test.YthmladcepkdheaaPure
import Derived.Test.YthmladcepkdheaaRef3
namespace Go.Proofs.Ythmladcepkdheaa

def WS.node (w : WS) (k : Nat) : NS := w.ns.getD k ⟨0, 0, 0, 0, 0, []⟩
def WS.put (w : WS) (k : Nat) (s : NS) : WS := { w with ns := w.ns.set k s }
def WS.say (w : WS) (x : Int × Int × Int) : WS := { w with sent := w.sent ++ [x] }
/-- The event; its second part: nothing that cannot be refused was. -/
def WS.happen (w : WS) (what n : Nat) : WS × Bool :=
  if what = 1 then ((w.put (n % w.ns.length) (w.node (n % w.ns.length)).ask.1).say (w.node (n % w.ns.length)).ask.2, true)
  else if what = 2 then
    (if (w.node (n % w.ns.length)).last = 0 then w else (w.put (n % w.ns.length) (w.node (n % w.ns.length)).fall).say (3, (w.node (n % w.ns.length)).number, (w.node (n % w.ns.length)).last), true)
  else if what = 3 then (w.put (n % w.ns.length) (w.node (n % w.ns.length)).fall, true)
  else if what = 4 then ({ w with c := w.c.brk }, true)
  else if what = 5 then ({ w with c := (w.c.want ((n % (w.ns.length + 1) : Nat) : Int)).1 }, (w.c.want ((n % (w.ns.length + 1) : Nat) : Int)).2 == 0)
  else if what = 6 then
    (if w.sent.length = 0 then (w, true)
     else
      let a := w.sent.getD (n % w.sent.length) (0, 0, 0)
      if a.1 = 2 then
        (if 1 ≤ a.2.1 ∧ a.2.1 ≤ w.ns.length then (w.put (a.2.1 - 1).toNat ((w.node (a.2.1 - 1).toNat).hear a.1 a.2.1 a.2.2).1, ((w.node (a.2.1 - 1).toNat).hear a.1 a.2.1 a.2.2).2 == 0) else (w, false))
      else
        ((if (w.c.heard a.1 a.2.1 a.2.2).2.1 = (0, 0, 0) then { w with c := (w.c.heard a.1 a.2.1 a.2.2).1 } else { w with c := (w.c.heard a.1 a.2.1 a.2.2).1, sent := w.sent ++ [(w.c.heard a.1 a.2.1 a.2.2).2.1] }), (w.c.heard a.1 a.2.1 a.2.2).2.2 == 0))
  else if what = 7 then
    (if (∀ i, i < w.gap.length → w.gap.getD i 0 ≤ w.edge.getD i 0) then { w with c := w.c.tick, gap := w.gap.map (· + 1000) } else w, true)
  else
    ({ w with ns := w.ns.set (n % w.ns.length) (w.node (n % w.ns.length)).tick, gap := w.gap.set (n % w.ns.length) (w.gap.getD (n % w.ns.length) 0 - 1000 - w.slow),
              edge := w.edge.set (n % w.ns.length) (min (w.edge.getD (n % w.ns.length) 0) (w.gap.getD (n % w.ns.length) 0 - 1000 - w.slow)) }, true)

/-- The numbers of a world, behind N events. -/
structure Nums (N : Nat) (w : WS) : Prop where
  fits : ∀ (i : Nat) (s : NS), w.ns[i]? = some s → s.Fits N
  low : ∀ (i : Nat) (s : NS), w.ns[i]? = some s → w.c.g[i + 1]?.getD 0 ≤ s.last
  ahead : ∀ (i : Nat) (s : NS), w.ns[i]? = some s → s.end_ ≤ s.now + s.term
  asked : ∀ (i : Nat) (s : NS) (p : Int × Int), w.ns[i]? = some s → p ∈ s.l → p.2 ≤ s.now
  now0 : 0 ≤ w.c.now
  now1 : w.c.now ≤ N
  since0 : 0 ≤ w.c.since
  since1 : w.c.since ≤ w.c.now
  some_ : 1 ≤ w.ns.length
  few : w.ns.length ≤ 3
  sent : w.sent.length ≤ N
  wait0 : 0 ≤ w.c.wait
  wait1 : w.c.wait ≤ 1000000
  slow1 : w.slow ≤ 1000
  gaps : ∀ (i : Nat) (g : Int), w.gap[i]? = some g → -(2000 * (N : Int)) ≤ g ∧ g ≤ 1000 * N
  edges : ∀ (i : Nat) (e : Int), w.edge[i]? = some e → -(2000 * (N : Int)) ≤ e ∧ e ≤ 1000 * N

section
variable {term : Int} {N : Nat} {w : WS}
theorem WS.node_at (w : WS) {k : Nat} (hk : k < w.ns.length) : w.ns[k]? = some (w.node k) := by
  simp [WS.node, List.getD, List.getElem?_eq_getElem hk]
theorem takeL_in {l : List (Int × Int)} {m t : Int} {r : List (Int × Int)} (h : takeL l m = some (t, r)) : (m, t) ∈ l := by
  induction l with
  | nil => simp [takeL] at h
  | cons p l ih =>
    rw [takeL] at h
    split at h
    · rename_i e
      simp only [Option.some.injEq, Prod.mk.injEq] at h
      obtain ⟨rfl, _⟩ := h
      rw [← e]; simp
    · exact List.mem_cons_of_mem _ (ih h)

/-- The numbers beside, where only node k turns. -/
theorem Nums.turn (h : Nums N w) {k : Nat} {s s' : NS} (hk : w.ns[k]? = some s) (hf : s'.Fits (N + 1)) (hl : s.last ≤ s'.last) (ha : s'.end_ ≤ s'.now + s'.term) (hp : ∀ p ∈ s'.l, p.2 ≤ s'.now) :
    Nums (N + 1) (w.put k s') := by
  refine ⟨fun i x hx => ?_, fun i x hx => ?_, fun i x hx => ?_, fun i x p hx hp' => ?_, h.now0, by have := h.now1; show w.c.now ≤ _; omega, h.since0, h.since1, by show 1 ≤ (w.ns.set k s').length; simpa using h.some_, by show (w.ns.set k s').length ≤ 3; simpa using h.few, by have := h.sent; show w.sent.length ≤ _; omega, h.wait0, h.wait1, h.slow1, fun i g hg => by have := h.gaps i g hg; omega, fun i e he => by have := h.edges i e he; omega⟩
  · rcases get_set hx with ⟨rfl, rfl⟩ | ⟨_, hx⟩
    · exact hf
    · exact (h.fits i x hx).mono (Nat.le_succ N)
  · rcases get_set hx with ⟨rfl, rfl⟩ | ⟨_, hx⟩
    · exact Int.le_trans (h.low _ s hk) hl
    · exact h.low i x hx
  · rcases get_set hx with ⟨rfl, rfl⟩ | ⟨_, hx⟩
    · exact ha
    · exact h.ahead i x hx
  · rcases get_set hx with ⟨rfl, rfl⟩ | ⟨_, hx⟩
    · exact hp p hp'
    · exact h.asked i x p hx hp'
theorem Nums.more (h : Nums N w) : Nums (N + 1) w :=
  { h with
    fits := fun i s hs => (h.fits i s hs).mono (Nat.le_succ N)
    now1 := by have := h.now1; omega
    sent := by have := h.sent; omega
    gaps := fun i g hg => by have := h.gaps i g hg; omega
    edges := fun i e he => by have := h.edges i e he; omega }
/-- .. where a word is said. -/
theorem Nums.say (h : Nums N w) (hl : w.sent.length + 1 ≤ N) (x : Int × Int × Int) : Nums N (w.say x) :=
  ⟨h.fits, h.low, h.ahead, h.asked, h.now0, h.now1, h.since0, h.since1, h.some_, h.few, by show (w.sent ++ [x]).length ≤ N; simpa using hl, h.wait0, h.wait1, h.slow1, h.gaps, h.edges⟩
/-- .. where only the centre turns. -/
theorem Nums.centre (h : Nums N w) {c : CS} (hl : ∀ (i : Nat) (s : NS), w.ns[i]? = some s → c.g[i + 1]?.getD 0 ≤ s.last) (h0 : 0 ≤ c.now) (h1 : c.now ≤ (N + 1 : Nat)) (h2 : 0 ≤ c.since) (h3 : c.since ≤ c.now) (h4 : c.wait = w.c.wait) : Nums (N + 1) { w with c := c } :=
  { h.more with low := hl, now0 := h0, now1 := h1, since0 := h2, since1 := h3, wait0 := by show 0 ≤ c.wait; rw [h4]; exact h.wait0, wait1 := by show c.wait ≤ _; rw [h4]; exact h.wait1 }

def Fine (term : Int) (N : Nat) (w : WS) : Prop := (∃ T0 C0 fal, Good term w T0 C0 fal) ∧ Nums N w

theorem Fine.break_ (h : Fine term N w) {k : Nat} (hk : k < w.ns.length) : Fine term (N + 1) (w.put k (w.node k).fall) := by
  obtain ⟨⟨T0, C0, fal, hg⟩, hn⟩ := h
  have hs := w.node_at hk
  have hf := hn.fits k _ hs
  exact ⟨⟨_, _, _, hg.nfall hs hf.last0⟩, hn.turn hs (hf.fall.mono (Nat.le_succ N)) (Int.le_refl _) (by have := hf.term0; simp only [NS.fall]; omega) (by simp [NS.fall])⟩
theorem Fine.return_ (h : Fine term N w) {k : Nat} (hk : k < w.ns.length) (h0 : ¬ (w.node k).last = 0) : Fine term (N + 1) ((w.put k (w.node k).fall).say (3, (w.node k).number, (w.node k).last)) := by
  obtain ⟨⟨T0, C0, fal, hg⟩, hn⟩ := h
  have hs := w.node_at hk
  have hf := hn.fits k _ hs
  have hnum := (hg.number k _ hs).1
  have g1 := (hg.nfall hs hf.last0).send3 (k := k) (s := (w.node k).fall) (q := (w.node k).last) (get_set_eq hs) (by have := hf.last0; omega) (by simp)
  rw [hnum]
  exact ⟨⟨_, _, _, g1⟩, (hn.turn hs (hf.fall.mono (Nat.le_succ N)) (Int.le_refl _) (by have := hf.term0; simp only [NS.fall]; omega) (by simp [NS.fall])).say (by have := hn.sent; show w.sent.length + 1 ≤ _; omega) _⟩
theorem Fine.ask (h : Fine term N w) {k : Nat} (hk : k < w.ns.length) : Fine term (N + 1) ((w.put k (w.node k).ask.1).say (w.node k).ask.2) := by
  obtain ⟨⟨T0, C0, fal, hg⟩, hn⟩ := h
  have hs := w.node_at hk
  have hf := hn.fits k _ hs
  have hnum := (hg.number k _ hs).1
  have l1 : k < w.gap.length := by rw [hg.lenG]; exact hk
  have l2 : k < w.edge.length := by rw [hg.lenE]; exact hk
  have g1 := hg.nask hs hf.last0 hn.now0 ⟨_, List.getElem?_eq_getElem l1⟩ ⟨_, List.getElem?_eq_getElem l2⟩
  have e : (w.node k).ask.2 = (1, (k : Int) + 1, (w.node k).last + 1) := by simp only [NS.ask, hnum]
  rw [e]
  exact ⟨⟨_, _, _, g1⟩, (hn.turn (s := w.node k) (s' := (w.node k).ask.1) hs hf.ask (by simp only [NS.ask]; omega) (hn.ahead k (w.node k) hs) (fun p hp => by
    simp only [NS.ask, List.mem_append, List.mem_singleton] at hp
    rcases hp with hp | rfl
    · exact hn.asked k (w.node k) p hs hp
    · exact Int.le_refl _)).say (by have := hn.sent; show w.sent.length + 1 ≤ _; omega) _⟩
theorem Fine.cbrk (h : Fine term N w) : Fine term (N + 1) { w with c := w.c.brk } := by
  obtain ⟨⟨T0, C0, fal, hg⟩, hn⟩ := h
  exact ⟨⟨_, _, _, hg.brk⟩, hn.centre hn.low hn.now0 (by have := hn.now1; simp only [CS.brk]; omega) hn.now0 (Int.le_refl _) rfl⟩
theorem Fine.cwant (h : Fine term N w) (n : Nat) (hle : n ≤ w.ns.length) : Fine term (N + 1) { w with c := (w.c.want n).1 } ∧ (w.c.want n).2 = 0 := by
  obtain ⟨⟨T0, C0, fal, hg⟩, hn⟩ := h
  have hi : inB n 0 ((w.c.g.length : Int) - 1) = true := inB_iff.2 ⟨by omega, by rw [hg.lenC]; omega⟩
  unfold CS.want
  rw [if_pos hi]
  exact ⟨⟨⟨_, _, _, hg.want n⟩, hn.centre hn.low hn.now0 (by have := hn.now1; simp only; omega) hn.since0 hn.since1 rfl⟩, rfl⟩
theorem Fine.ctick (h : Fine term N w) (hm : w.may) : Fine term (N + 1) { w with c := w.c.tick, gap := w.gap.map (· + 1000) } := by
  obtain ⟨⟨T0, C0, fal, hg⟩, hn⟩ := h
  refine ⟨⟨_, _, _, hg.tick hm hn.since0⟩, ?_⟩
  have e1 : w.c.tick.now = w.c.now + 1 := by unfold CS.tick; split <;> rfl
  have e2 : w.c.tick.g = w.c.g := by unfold CS.tick; split <;> rfl
  have e3 : w.c.tick.wait = w.c.wait := by unfold CS.tick; split <;> rfl
  have e4 : 0 ≤ w.c.tick.since ∧ w.c.tick.since ≤ w.c.now + 1 := by have := hn.since0; have := hn.since1; have := hn.now0; unfold CS.tick; split <;> simp only <;> omega
  have hc := hn.centre (c := w.c.tick) (by rw [e2]; exact hn.low) (by rw [e1]; have := hn.now0; omega) (by rw [e1]; have := hn.now1; omega) e4.1 (by rw [e1]; exact e4.2) e3
  exact { hc with
    gaps := fun i g hgi => by
      simp only [List.getElem?_map] at hgi
      obtain ⟨g0, h0, rfl⟩ := Option.map_eq_some_iff.1 hgi
      have := hn.gaps i g0 h0
      omega }
theorem Fine.ntick (h : Fine term N w) {k : Nat} (hk : k < w.ns.length) : Fine term (N + 1) { w with ns := w.ns.set k (w.node k).tick, gap := w.gap.set k (w.gap.getD k 0 - 1000 - w.slow), edge := w.edge.set k (min (w.edge.getD k 0) (w.gap.getD k 0 - 1000 - w.slow)) } := by
  obtain ⟨⟨T0, C0, fal, hg⟩, hn⟩ := h
  have hs := w.node_at hk
  have hf := hn.fits k _ hs
  have l1 : k < w.gap.length := by rw [hg.lenG]; exact hk
  have l2 : k < w.edge.length := by rw [hg.lenE]; exact hk
  have e1 : w.gap[k]? = some (w.gap.getD k 0) := by simp [List.getD, List.getElem?_eq_getElem l1]
  have e2 : w.edge[k]? = some (w.edge.getD k 0) := by simp [List.getD, List.getElem?_eq_getElem l2]
  have b1 := hn.gaps k _ e1
  have b2 := hn.edges k _ e2
  have b3 := hn.slow1
  have b4 := hg.slow0
  refine ⟨⟨_, _, _, hg.ntick hs e1 e2⟩, ?_⟩
  have ht := hn.turn hs hf.tick (Int.le_refl _) (by have := hn.ahead k _ hs; simp only [NS.tick]; omega) (fun p hp => by have := hn.asked k _ p hs hp; simp only [NS.tick]; omega)
  exact { ht with
    gaps := fun i g hgi => by
      rcases get_set hgi with ⟨rfl, rfl⟩ | ⟨_, hgi⟩
      · omega
      · have := hn.gaps i g hgi; omega
    edges := fun i e hei => by
      rcases get_set hei with ⟨rfl, rfl⟩ | ⟨_, hei⟩
      · omega
      · have := hn.edges i e hei; omega }

/-- A word that was sent is valid, and of a node that there is. -/
theorem Fine.word (h : Fine term N w) (hN : N ≤ 1000000) {a : Int × Int × Int} (ha : a ∈ w.sent) : ∃ (i : Nat) (s : NS), a.2.1 = i + 1 ∧ w.ns[i]? = some s ∧ 1 ≤ a.2.2 ∧ a.2.2 ≤ s.last ∧ wordB a.1 a.2.1 a.2.2 = true := by
  obtain ⟨⟨T0, C0, fal, hg⟩, hn⟩ := h
  obtain ⟨k, n, q⟩ := a
  have key : ∃ (i : Nat) (s : NS), n = i + 1 ∧ w.ns[i]? = some s ∧ 1 ≤ q ∧ q ≤ s.last ∧ (k = 1 ∨ k = 2 ∨ k = 3) := by
    rcases hg.kinds _ ha with h | h | h <;> simp only at h <;> subst h
    · obtain ⟨i, s, h1, h2, h3, h4⟩ := hg.asked n q ha; exact ⟨i, s, h1, h2, h3, h4, .inl rfl⟩
    · obtain ⟨i, s, h1, h2, h3, h4, _⟩ := hg.granted n q ha; exact ⟨i, s, h1, h2, h3, h4, .inr (.inl rfl)⟩
    · obtain ⟨i, s, h1, h2, h3, h4⟩ := hg.returned n q ha; exact ⟨i, s, h1, h2, h3, by have := (hg.number i s h2).2.2.2; omega, .inr (.inr rfl)⟩
  obtain ⟨i, s, h1, h2, h3, h4, h5⟩ := key
  have hi : i < w.ns.length := (List.getElem?_eq_some_iff.1 h2).1
  have := hn.few
  have hf := (hn.fits i s h2).last1
  refine ⟨i, s, h1, h2, h3, h4, ?_⟩
  simp only [wordB, Bool.and_eq_true]
  exact ⟨⟨inB_iff.2 (by omega), inB_iff.2 (by omega)⟩, inB_iff.2 (by omega)⟩

/-- A node hears a Grant that was sent. -/
theorem Fine.nhear (h : Fine term N w) (hN : N ≤ 1000000) {i : Nat} {q : Int} (ha : ((2, (i : Int) + 1, q) : Int × Int × Int) ∈ w.sent) :
    Fine term (N + 1) (w.put i ((w.node i).hear 2 (i + 1) q).1) ∧ ((w.node i).hear 2 (i + 1) q).2 = 0 := by
  obtain ⟨j, s, h1, h2, h3, h4, h5⟩ := h.word hN ha
  simp only at h1 h3 h4 h5
  have e : i = j := by omega
  subst e
  have hi : i < w.ns.length := (List.getElem?_eq_some_iff.1 h2).1
  have e2 : w.node i = s := by have := w.node_at hi; rw [h2] at this; exact (Option.some.inj this).symm
  rw [e2]
  obtain ⟨⟨T0, C0, fal, hg⟩, hn⟩ := h
  have hf := hn.fits i s h2
  have hnum := (hg.number i s h2).1
  have hself : w.put i s = w := by
    unfold WS.put
    have : w.ns.set i s = w.ns := by
      obtain ⟨h6, h7⟩ := List.getElem?_eq_some_iff.1 h2
      subst h7; exact List.set_getElem_self h6
    rw [this]
  unfold NS.hear
  have hok : (wordB 2 ((i : Int) + 1) q && ((i : Int) + 1) == s.number) = true := by rw [h5, hnum]; simp
  rw [hok, if_neg (by simp), if_neg (by simp)]
  cases ht : takeL s.l q with
  | none => exact ⟨by simp only [hself]; exact ⟨⟨_, _, _, hg⟩, hn.more⟩, rfl⟩
  | some tr =>
    obtain ⟨t, r⟩ := tr
    have hm := takeL_in ht
    have hta := hn.asked i s (q, t) h2 hm
    have htm := takeL_mem ht
    refine ⟨⟨⟨_, _, _, hg.ngrant h2 ha ht hm⟩, hn.turn h2 ⟨hf.now0, by have := hf.now1; simp only; omega, hf.last0, by have := hf.last1; simp only; omega, by have := hf.len; have := htm.1; simp only; omega, fun p hp => by have := hf.times p (htm.2.1 p hp); omega, hf.term0, hf.term1⟩ (Int.le_refl _) (by have := hn.ahead i s h2; simp only at hta ⊢; omega) (fun p hp => hn.asked i s p h2 (htm.2.1 p hp))⟩, rfl⟩

/-- The centre hears a word that was sent, and that is no Grant. -/
theorem Fine.chear (h : Fine term N w) (hN : N ≤ 1000000) {a : Int × Int × Int} (ha : a ∈ w.sent) (h2 : a.1 ≠ 2) :
    Fine term (N + 1) (if (w.c.heard a.1 a.2.1 a.2.2).2.1 = (0, 0, 0) then { w with c := (w.c.heard a.1 a.2.1 a.2.2).1 } else { w with c := (w.c.heard a.1 a.2.1 a.2.2).1, sent := w.sent ++ [(w.c.heard a.1 a.2.1 a.2.2).2.1] }) ∧ (w.c.heard a.1 a.2.1 a.2.2).2.2 = 0 := by
  obtain ⟨i, s, h1, hs, h3, h4, h5⟩ := h.word hN ha
  obtain ⟨k, n, q⟩ := a
  simp only at h1 h2 h3 h4 h5 ⊢
  subst h1
  obtain ⟨⟨T0, C0, fal, hg⟩, hn⟩ := h
  have hi : i < w.ns.length := (List.getElem?_eq_some_iff.1 hs).1
  have hh : w.c.heard k ((i : Int) + 1) q = ((w.c.hear k (i + 1) q).1, (w.c.hear k (i + 1) q).2, 0) := by
    unfold CS.heard
    rw [h5, if_neg (by simp), if_neg (by rw [hg.lenC]; omega)]
    rfl
  rw [hh]
  refine ⟨?_, rfl⟩
  simp only
  have hkn := hg.kinds _ ha
  simp only at hkn
  have gset : ∀ v : Int, v ≤ s.last ∨ v ≤ w.c.g[i + 1]?.getD 0 → ∀ (j : Nat) (x : NS), w.ns[j]? = some x → (w.c.g.set (i + 1) v)[j + 1]?.getD 0 ≤ x.last := by
    intro v hv j x hx
    rw [List.getElem?_set]
    split
    · rename_i e
      have e' : i = j := by omega
      subst e'
      rw [hs] at hx; cases hx
      have := hn.low i s hs
      split
      · simp only [Option.getD_some]; omega
      · have := (hn.fits i s hs).last0; simp only [Option.getD_none]; omega
    · exact hn.low j x hx
  rcases hkn with rfl | rfl | rfl
  · have hc : w.c.hear 1 (i + 1) q = w.c.ask (i + 1) q := by simp [CS.hear]
    rw [hc]
    have hgood := hg.cask hs h3 h4
    have hnum : Nums (N + 1) { w with c := (w.c.ask (i + 1) q).1 } := by
      refine hn.centre ?_ ?_ ?_ ?_ ?_ ?_
      all_goals unfold CS.ask; split
      all_goals first | (split <;> skip) | skip
      all_goals first
        | exact hn.low
        | exact gset q (.inl h4)
        | (have := hn.now0; have := hn.now1; have := hn.since0; have := hn.since1; simp only; omega)
        | rfl
    by_cases he : (w.c.ask (i + 1) q).2 = (0, 0, 0)
    · rw [if_pos he] at hgood ⊢
      exact ⟨⟨_, _, _, hgood⟩, hnum⟩
    · rw [if_neg he] at hgood ⊢
      exact ⟨⟨_, _, _, hgood⟩, hnum.say (by have := hn.sent; show w.sent.length + 1 ≤ _; omega) _⟩
  · exact absurd rfl h2
  · have hc : w.c.hear 3 (i + 1) q = (w.c.back (i + 1) q, (0, 0, 0)) := by simp [CS.hear]
    rw [hc]
    simp only [if_true]
    obtain ⟨j, x, e1, e2, e3, e4⟩ := hg.returned _ _ ha
    have e : i = j := by omega
    subst e
    have hlast := (hg.number i x e2).2.2.2
    refine ⟨⟨_, _, _, hg.cback e2 e4⟩, hn.centre ?_ ?_ ?_ ?_ ?_ ?_⟩
    all_goals unfold CS.back; split
    all_goals first
      | exact gset _ (by have := hn.low i s hs; omega)
      | (have := hn.now0; have := hn.now1; have := hn.since0; have := hn.since1; simp only; omega)
      | rfl
end
end Go.Proofs.Ythmladcepkdheaa
