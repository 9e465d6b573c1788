/-
  A node alone, and blocks beside it: what each call leaves.
-/
import Derived.Test.YthmladcepkdheaaSys2
import Derived.Test.YthmladcepkdheaaRefN3
namespace Go.Proofs.Ythmladcepkdheaa
open Go.RowKit

structure One (o w : World) (X : List (Nat × Obj)) (p : NP) : Prop where
  node : p.at w
  ext : ∀ x ∈ X, w.heap[x.1]? = some x.2
  xn : ∀ x ∈ X, x.1 ∉ p.foot
  root : Frm o.heap.size [] o w
  bigN : ∀ k ∈ p.foot, o.heap.size ≤ k
  bigX : ∀ x ∈ X, o.heap.size ≤ x.1

section
variable {o w w' : World} {X X' : List (Nat × Obj)} {p p' : NP}
theorem One.ltN (h : One o w X p) : ∀ x ∈ p.foot, x < w.heap.size := h.node.lt
theorem One.ltX (h : One o w X p) : ∀ x ∈ X, x.1 < w.heap.size := fun x hx => (Array.getElem?_eq_some_iff.1 (h.ext x hx)).1
theorem One.turn (h : One o w X p) {S : List Nat} (hS : ∀ x ∈ S, x ∈ p.foot) (hf : Frm w.heap.size S w w') (hp : p'.at w') (hfoot : ∀ x ∈ p'.foot, x ∈ p.foot ∨ w.heap.size ≤ x) : One o w' X p' where
  node := hp
  ext x hx := (hf.block _ (h.ltX x hx) (fun hm => h.xn x hx (hS _ hm))).trans (h.ext x hx)
  xn x hx hm := by
    rcases hfoot _ hm with h1 | h1
    · exact h.xn x hx h1
    · have := h.ltX x hx; omega
  root := h.root.onto hf (fun k hk => h.bigN k (hS k hk))
  bigN k hk := by
    rcases hfoot k hk with h1 | h1
    · exact h.bigN k h1
    · exact Nat.le_trans h.root.size h1
  bigX := h.bigX
theorem One.quiet (h : One o w X p) (hf : Frm w.heap.size [] w w') : One o w' X p :=
  h.turn (S := []) (by simp) hf (h.node.frm hf fun x hx => ⟨h.ltN x hx, by simp⟩) (fun _ hx => .inl hx)
theorem One.block (h : One o w X p) {b : Nat} {u : Obj} (hf : Frm w.heap.size [] w w') (hb : w.heap.size ≤ b) (ho : w'.heap[b]? = some u) : One o w' ((b, u) :: X) p := by
  have h' := h.quiet hf
  refine ⟨h'.node, fun x hx => ?_, fun x hx hm => ?_, h'.root, h.bigN, fun x hx => ?_⟩
  · rcases List.mem_cons.1 hx with rfl | hx
    · exact ho
    · exact h'.ext x hx
  · rcases List.mem_cons.1 hx with rfl | hx
    · have := h.ltN _ hm; simp only at this; omega
    · exact h.xn x hx hm
  · rcases List.mem_cons.1 hx with rfl | hx
    · exact Nat.le_trans h.root.size hb
    · exact h.bigX x hx
theorem One.boxed (h : One o w X p) (u : Obj) : One o (w.alloc u) ((w.heap.size, u) :: X) p := h.block ((Frm.refl _ _ w).alloc (Nat.le_refl _) u) (Nat.le_refl _) (heap_alloc_new w u)
theorem One.less (h : One o w X p) (hX : ∀ x ∈ X', x ∈ X) : One o w X' p := ⟨h.node, fun x hx => h.ext x (hX x hx), fun x hx => h.xn x (hX x hx), h.root, h.bigN, fun x hx => h.bigX x (hX x hx)⟩
theorem One.rebox (h : One o w X p) {b T : Nat} {old : Array Value} (hb : (b, Obj.cells old T (0, 0)) ∈ X) (cs : Array Value) (hX' : ∀ x ∈ X', x = (b, Obj.cells cs T (0, 0)) ∨ (x ∈ X ∧ x.1 ≠ b)) : One o (w.setRow b cs) X' p := by
  have hf : Frm w.heap.size [b] w (w.setRow b cs) := (Frm.refl _ _ w).setRow (.inl (by simp)) _
  refine ⟨h.node.frm hf fun x hx => ⟨h.ltN x hx, fun hm => h.xn _ hb ((List.mem_singleton.1 hm) ▸ hx)⟩, fun x hx => ?_, fun x hx => ?_, h.root.onto hf (fun k hk => by rw [List.mem_singleton.1 hk]; exact h.bigX _ hb), h.bigN, fun x hx => ?_⟩
  · rcases hX' x hx with rfl | ⟨h1, h2⟩
    · exact setRow_heap w b _ _ T _ (h.ext _ hb)
    · rw [setRow_other w b x.1 _ h2]; exact h.ext x h1
  · rcases hX' x hx with rfl | ⟨h1, _⟩
    · have := h.xn _ hb; exact this
    · exact h.xn x h1
  · rcases hX' x hx with rfl | ⟨h1, _⟩
    · have := h.bigX _ hb; exact this
    · exact h.bigX x h1
theorem One.blk (h : One o w X p) {b T : Nat} {cs : List Value} (hb : (b, Obj.cells cs.toArray T (0, 0)) ∈ X) : Blk w b T cs := h.ext _ hb

/-- The block of a slice is among those that are known. -/
def Kept (X : List (Nat × Obj)) (own : Option Nat) : Prop := ∀ g, own = some g → ∃ u, (g, u) ∈ X
theorem Kept.sl {v : Value} {l : List (Int × Int)} {own : Option Nat} {p p' : NP} (k : Kept X own) (h : One o w X p) (h' : One o w' X p') (hs : SlN w v l own) : SlN w' v l own :=
  hs.kept fun b hb => by obtain ⟨u, hu⟩ := k b hb; exact (h'.ext _ hu).trans (h.ext _ hu).symm
theorem One.keepNew {v : Value} {l : List (Int × Int)} {own : Option Nat} (h : One o w X p) (hf : Frm w.heap.size [] w w') (hs : SlN w' v l own) (hg : ∀ g, own = some g → w.heap.size ≤ g) : ∃ K, One o w' (K ++ X) p ∧ Kept K own ∧ ∀ x ∈ K, w.heap.size ≤ x.1 := by
  cases own with
  | none => exact ⟨[], h.quiet hf, (by intro g hg'; cases hg'), (by simp)⟩
  | some g =>
    have hlt := hs.lt g rfl
    refine ⟨[(g, w'.heap[g])], h.block (u := w'.heap[g]) hf (hg g rfl) (Array.getElem?_eq_getElem hlt), ?_, ?_⟩
    · intro g' hg'; cases hg'; exact ⟨w'.heap[g], by simp⟩
    · intro x hx; simp at hx; subst hx; exact hg g rfl

variable {N : Nat}
theorem oneAsk (h : One o w X p) (hf : p.s.Fits N) (hN : N ≤ 100000) :
    Calls Try.prog 17 #[.pointer (some ⟨p.b, 0, none⟩)] w fun e w' => e = .returned (.tuple #[.agg (wordL p.s.ask.2).toArray, .int .i64 0]) ∧ ∃ own', One o w' X ⟨p.b, own', p.s.ask.1⟩ := by
  refine (nodeAsk p.b w h.node (by have := hf.len; omega) hf.last0 (by have := hf.last1; omega)).mono ?_
  rintro e w' ⟨he, own', hn, hfr, ho⟩
  refine ⟨he, own', h.turn (S := p.foot) (fun _ hx => hx) hfr hn (fun x hx => ?_)⟩
  simp only [NP.foot, nodeFoot, List.mem_cons, Option.mem_toList] at hx ⊢
  rcases hx with hx | hx
  · exact .inl (.inl hx)
  · rcases ho with rfl | ⟨g, rfl, hg⟩
    · exact .inl (.inr hx)
    · cases hx; exact .inr hg
theorem oneReturn (h : One o w X p) (hf : p.s.Fits N) :
    Calls Try.prog 23 #[.pointer (some ⟨p.b, 0, none⟩)] w fun e w' => e = .returned (.tuple #[.agg (wordL p.s.back.2.1).toArray, .int .i64 p.s.back.2.2]) ∧ ∃ own', One o w' X ⟨p.b, own', p.s.back.1⟩ := by
  by_cases h0 : p.s.last = 0
  · have hb : p.s.back = (p.s, (0, 0, 0), 9) := by simp [NS.back, h0]
    rw [hb]
    have hp' : NodeAt w p.b p.s.now p.s.number p.s.term p.s.end_ 0 p.s.l p.own := h0 ▸ h.node
    refine (nodeReturn_no p.b w hp').mono ?_
    rintro e w' ⟨he, hfr⟩
    exact ⟨he, p.own, h.quiet hfr⟩
  · have hb : p.s.back = (p.s.fall, (3, p.s.number, p.s.last), 0) := by simp [NS.back, h0]
    rw [hb]
    refine (nodeReturn p.b w h.node (by have := hf.last0; omega)).mono ?_
    rintro e w' ⟨he, hn, hfr⟩
    exact ⟨he, none, h.turn (S := p.foot) (fun _ hx => hx) hfr hn (fun x hx => .inl (by simp [NP.foot, nodeFoot] at hx ⊢; exact .inl hx))⟩
theorem oneBreak (h : One o w X p) :
    Calls Try.prog 21 #[.pointer (some ⟨p.b, 0, none⟩)] w fun e w' => e = .returned (.int .i64 0) ∧ ∃ own', One o w' X ⟨p.b, own', p.s.fall⟩ := by
  obtain ⟨⟨asks, hb, hs⟩, hne⟩ := h.node
  refine (nodeBreak p.b w hb).mono ?_
  rintro e w' ⟨he, hb', hfr⟩
  exact ⟨he, none, h.turn (S := [p.b]) (fun x hx => by simp at hx; simp [NP.foot, nodeFoot, hx]) hfr ⟨⟨_, hb', Sl.nil _ _ _⟩, by simp⟩ (fun x hx => .inl (by simp [NP.foot, nodeFoot] at hx ⊢; exact .inl hx))⟩
theorem oneTick (h : One o w X p) (hf : p.s.Fits N) (hN : N ≤ 100000) :
    Calls Try.prog 25 #[.pointer (some ⟨p.b, 0, none⟩)] w fun e w' => e = .returned (.int .i64 0) ∧ ∃ own', One o w' X ⟨p.b, own', p.s.tick⟩ := by
  obtain ⟨⟨asks, hb, hs⟩, hne⟩ := h.node
  refine (nodeTick p.b w hb).mono ?_
  rintro e w' ⟨he, hb', hfr⟩
  rw [IntWalk.wrap64_in (p.s.now + 1) ⟨by have := hf.now0; omega, by have := hf.now1; omega⟩] at hb'
  have hbl := hb.lt
  exact ⟨he, p.own, h.turn (S := [p.b]) (fun x hx => by simp at hx; simp [NP.foot, nodeFoot, hx]) hfr ⟨⟨asks, hb', hs.frm hfr (fun c hc => hs.lt c hc) (fun c hc => by simp; rintro rfl; exact hne hc)⟩, hne⟩ (fun x hx => .inl hx)⟩
theorem oneHear (h : One o w X p) (hf : p.s.Fits N) (hN : N ≤ 100000) (k n m : Int) :
    Calls Try.prog 19 #[.pointer (some ⟨p.b, 0, none⟩), .agg #[.int .i64 k, .int .i64 n, .int .i64 m]] w fun e w' => e = .returned (.int .i64 (p.s.hear k n m).2) ∧ ∃ own', One o w' X ⟨p.b, own', (p.s.hear k n m).1⟩ := by
  have hp := h.node
  have same : ∀ w', Frm w.heap.size [] w w' → ∃ own', One o w' X ⟨p.b, own', p.s⟩ := fun w' hfr => ⟨p.own, h.quiet hfr⟩
  unfold NS.hear
  cases hok : (wordB k n m && n == p.s.number)
  · rw [if_pos rfl]
    exact (nodeHear_bad p.b w k n m hp hok).mono fun e w' ⟨he, hfr⟩ => ⟨he, same w' hfr⟩
  · rw [if_neg (by simp)]
    obtain ⟨hv, hn⟩ := Bool.and_eq_true_iff.1 hok
    have hn' : n = p.s.number := by simpa using hn
    by_cases hk : k = 2
    · subst hk
      subst hn'
      rw [if_neg (by simp)]
      refine (nodeHear_grant p.b w m hp hv (by have := hf.len; omega) (fun q hq => by have := hf.times q hq; omega) hf.term0 (by have := hf.term1; omega)).mono ?_
      rintro e w' ⟨he, hfr⟩
      cases ht : takeL p.s.l m with
      | none => rw [ht] at hfr; exact ⟨he, same w' hfr⟩
      | some tr =>
        obtain ⟨t, r⟩ := tr
        rw [ht] at hfr
        exact ⟨he, p.own, h.turn (S := [p.b]) (fun x hx => by simp at hx; simp [NP.foot, nodeFoot, hx]) hfr.2 hfr.1 (fun x hx => .inl hx)⟩
    · rw [if_pos hk]
      exact (nodeHear_other p.b w k n m hp hv hn' hk).mono fun e w' ⟨he, hfr⟩ => ⟨he, same w' hfr⟩
theorem oneHolds (h : One o w X p) : Calls Try.prog 27 #[.pointer (some ⟨p.b, 0, none⟩)] w fun e w' => e = .returned (.bool (decide (p.s.now < p.s.end_))) ∧ Frm w.heap.size [] w w' := by
  obtain ⟨⟨asks, hb, hs⟩, hne⟩ := h.node
  refine (nodeHolds p.b w hb).mono ?_
  rintro e w' ⟨he, n, rfl⟩
  exact ⟨he, (Frm.refl _ _ w).drewN⟩
theorem oneEnds (h : One o w X p) : Calls Try.prog 26 #[.pointer (some ⟨p.b, 0, none⟩)] w fun e w' => e = .returned (.tuple #[.int .i64 p.s.now, .int .i64 p.s.end_]) ∧ Frm w.heap.size [] w w' := by
  obtain ⟨⟨asks, hb, hs⟩, hne⟩ := h.node
  refine (nodeEnds p.b w hb).mono ?_
  rintro e w' ⟨he, n, rfl⟩
  exact ⟨he, (Frm.refl _ _ w).drewN⟩

/-! ### The blocks of a round: the document's node, two words, and the block of its asks -/
/-- Apart from these three. -/
abbrev Off (K : List (Nat × Obj)) (a b c : Nat) : Prop := ∀ x ∈ K, x.1 ≠ a ∧ x.1 ≠ b ∧ x.1 ≠ c
section
variable {a b c T : Nat} {K : List (Nat × Obj)} {u v x : Obj} {old : Array Value}
theorem One.set1 (h : One o w ((a, .cells old T (0, 0)) :: (b, u) :: (c, v) :: K) p) (hab : a ≠ b) (hac : a ≠ c) (hK : Off K a b c) (cs : Array Value) : One o (w.setRow a cs) ((a, .cells cs T (0, 0)) :: (b, u) :: (c, v) :: K) p := by
  refine h.rebox (b := a) (T := T) (old := old) (by simp) cs (fun y hy => ?_)
  simp only [List.mem_cons] at hy ⊢
  rcases hy with rfl | rfl | rfl | hy
  · exact .inl rfl
  · exact .inr ⟨by simp, Ne.symm hab⟩
  · exact .inr ⟨by simp, Ne.symm hac⟩
  · exact .inr ⟨by simp [hy], (hK y hy).1⟩
theorem One.set2 (h : One o w ((a, u) :: (b, .cells old T (0, 0)) :: (c, v) :: K) p) (hab : a ≠ b) (hbc : b ≠ c) (hK : Off K a b c) (cs : Array Value) : One o (w.setRow b cs) ((a, u) :: (b, .cells cs T (0, 0)) :: (c, v) :: K) p := by
  refine h.rebox (b := b) (T := T) (old := old) (by simp) cs (fun y hy => ?_)
  simp only [List.mem_cons] at hy ⊢
  rcases hy with rfl | rfl | rfl | hy
  · exact .inr ⟨by simp, hab⟩
  · exact .inl rfl
  · exact .inr ⟨by simp, Ne.symm hbc⟩
  · exact .inr ⟨by simp [hy], (hK y hy).2.1⟩
theorem One.set3 (h : One o w ((a, u) :: (b, v) :: (c, .cells old T (0, 0)) :: K) p) (hac : a ≠ c) (hbc : b ≠ c) (hK : Off K a b c) (cs : Array Value) : One o (w.setRow c cs) ((a, u) :: (b, v) :: (c, .cells cs T (0, 0)) :: K) p := by
  refine h.rebox (b := c) (T := T) (old := old) (by simp) cs (fun y hy => ?_)
  simp only [List.mem_cons] at hy ⊢
  rcases hy with rfl | rfl | rfl | hy
  · exact .inr ⟨by simp, hac⟩
  · exact .inr ⟨by simp, hbc⟩
  · exact .inl rfl
  · exact .inr ⟨by simp [hy], (hK y hy).2.2⟩
theorem One.cell1 {cs : List Value} (h : One o w ((a, .cells cs.toArray T (0, 0)) :: (b, u) :: (c, v) :: K) p) (hab : a ≠ b) (hac : a ≠ c) (hK : Off K a b c) (i : Nat) (y : Value) :
    One o (w.setCell ⟨a, i, none⟩ y) ((a, .cells (cs.set i y).toArray T (0, 0)) :: (b, u) :: (c, v) :: K) p := by
  have hb : Blk w a T cs := h.ext (a, _) (by simp)
  have hf : Frm w.heap.size [a] w (w.setCell ⟨a, i, none⟩ y) := (Frm.refl _ _ w).setCell (.inl (by simp)) _
  have h' := h.rebox (b := a) (T := T) (old := cs.toArray) (by simp) (cs.set i y).toArray (X' := (a, .cells (cs.set i y).toArray T (0, 0)) :: (b, u) :: (c, v) :: K) (fun z hz => by
    simp only [List.mem_cons] at hz ⊢
    rcases hz with rfl | rfl | rfl | hz
    · exact .inl rfl
    · exact .inr ⟨by simp, Ne.symm hab⟩
    · exact .inr ⟨by simp, Ne.symm hac⟩
    · exact .inr ⟨by simp [hz], (hK z hz).1⟩)
  have hX0 : (a, Obj.cells cs.toArray T (0, 0)) ∈ ((a, Obj.cells cs.toArray T (0, 0)) :: (b, u) :: (c, v) :: K) := by simp
  refine ⟨h.node.frm hf fun x hx => ⟨h.ltN x hx, fun hm => h.xn _ hX0 ((List.mem_singleton.1 hm) ▸ hx)⟩, fun z hz => ?_, h'.xn, h.root.onto hf (fun k hk => by rw [List.mem_singleton.1 hk]; exact h.bigX _ hX0), h.bigN, h'.bigX⟩
  simp only [List.mem_cons] at hz
  rcases hz with rfl | rfl | rfl | hz
  · exact hb.set i y
  · exact (Below.heap_setCell _ _ _ _ (Ne.symm hab)).trans (h.ext (b, u) (by simp))
  · exact (Below.heap_setCell _ _ _ _ (Ne.symm hac)).trans (h.ext (c, v) (by simp))
  · exact (Below.heap_setCell _ _ _ _ (hK z hz).1).trans (h.ext z (by simp [hz]))
theorem One.next {vv : Value} {l : List (Int × Int)} {own own' : Option Nat} (h : One o w ((a, u) :: (b, v) :: (c, x) :: K) p) (hf : Frm w.heap.size [] w w') (hs : SlN w' vv l own') (ho : own' = own ∨ ∀ g, own' = some g → w.heap.size ≤ g) (hk : Kept K own) (hK : Off K a b c) :
    ∃ K2, One o w' ((a, u) :: (b, v) :: (c, x) :: K2) p ∧ Kept K2 own' ∧ Off K2 a b c := by
  rcases ho with rfl | hg
  · exact ⟨K, h.quiet hf, hk, hK⟩
  · obtain ⟨K2, h2, hk2, hb2⟩ := h.keepNew hf hs hg
    have l1 := h.ltX (a, u) (by simp)
    have l2 := h.ltX (b, v) (by simp)
    have l3 := h.ltX (c, x) (by simp)
    simp only at l1 l2 l3
    exact ⟨K2, h2.less (fun y hy => by simp only [List.mem_cons, List.mem_append] at hy ⊢; rcases hy with h | h | h | h <;> simp [h]), hk2, fun y hy => by have := hb2 y hy; omega⟩
theorem Kept.sl3 {u' v' x' : Obj} {p' : NP} {vv : Value} {l : List (Int × Int)} {own : Option Nat} (k : Kept K own) (h : One o w ((a, u) :: (b, v) :: (c, x) :: K) p) (h' : One o w' ((a, u') :: (b, v') :: (c, x') :: K) p') (hs : SlN w vv l own) : SlN w' vv l own :=
  hs.kept fun g hg => by obtain ⟨y, hy⟩ := k g hg; exact (h'.ext (g, y) (by simp [hy])).trans (h.ext (g, y) (by simp [hy])).symm
theorem Kept.more {own : Option Nat} (h : Kept K own) : Kept ((a, u) :: (b, v) :: (c, x) :: K) own := fun g hg => by obtain ⟨y, hy⟩ := h g hg; exact ⟨y, by simp [hy]⟩
end

/-! ### The document's node, in one word each -/
theorem docHear (s : NS) (v : Value) (own : Option Nat) (w : World) (hv : SlN w v s.l own) (hf : s.Fits N) (hN : N ≤ 100000) (k n m : Int) :
    Calls Try.prog 20 #[.agg (nodeC s v).toArray, .agg (wordL (k, n, m)).toArray] w fun e w' => ∃ v' own', e = .returned (.tuple #[.agg (nodeC (s.hear k n m).1 v').toArray, .int .i64 (s.hear k n m).2]) ∧ Frm w.heap.size [] w w' ∧ SlN w' v' (s.hear k n m).1.l own' ∧
      (own' = own ∨ ∀ g, own' = some g → w.heap.size ≤ g) := by
  unfold NS.hear
  cases hok : (wordB k n m && n == s.number)
  · rw [if_pos rfl]
    exact (refListen_bad s v own w hv k n m hok).mono fun e w' ⟨he, hfr⟩ => ⟨v, own, he, hfr, hv.frm hfr hv.lt (by simp), .inl rfl⟩
  · rw [if_neg (by simp)]
    obtain ⟨hw, hn⟩ := Bool.and_eq_true_iff.1 hok
    have hn' : s.number = n := by have : n = s.number := by simpa using hn
                                  exact this.symm
    by_cases hk : k = 2
    · subst hk
      rw [if_neg (by simp)]
      refine (refListen_grant s v own w hv n m hw hn' (by have := hf.len; omega) (fun q hq => by have := hf.times q hq; omega) hf.term0 (by have := hf.term1; omega)).mono ?_
      rintro e w' ⟨hfr, h⟩
      cases ht : takeL s.l m with
      | none => rw [ht] at h; exact ⟨v, own, h, hfr, hv.frm hfr hv.lt (by simp), .inl rfl⟩
      | some tr =>
        obtain ⟨t, r⟩ := tr
        rw [ht] at h
        obtain ⟨v', own', he, hs, hg⟩ := h
        exact ⟨v', own', he, hfr, hs, .inr hg⟩
    · rw [if_pos hk]
      exact (refListen_other s v own w hv k n m hw hn' hk).mono fun e w' ⟨he, hfr⟩ => ⟨v, own, he, hfr, hv.frm hfr hv.lt (by simp), .inl rfl⟩
theorem docReturn (s : NS) (v : Value) (own : Option Nat) (w : World) (hv : SlN w v s.l own) :
    Calls Try.prog 24 #[.agg (nodeC s v).toArray] w fun e w' => ∃ v' own', e = .returned (.tuple #[.agg (nodeC s.back.1 v').toArray, .agg (wordL s.back.2.1).toArray, .int .i64 s.back.2.2]) ∧ Frm w.heap.size [] w w' ∧ SlN w' v' s.back.1.l own' ∧
      (own' = own ∨ ∀ g, own' = some g → w.heap.size ≤ g) := by
  by_cases h0 : s.last = 0
  · have hb : s.back = (s, (0, 0, 0), 9) := by simp [NS.back, h0]
    rw [hb]
    exact (refReturn_no s v w hv.one h0).mono fun e w' ⟨he, hfr⟩ => ⟨v, own, he, hfr, hv.frm hfr hv.lt (by simp), .inl rfl⟩
  · have hb : s.back = (s.fall, (3, s.number, s.last), 0) := by simp [NS.back, h0]
    rw [hb]
    exact (refReturn_yes s v w hv.one h0).mono fun e w' ⟨he, hfr⟩ => ⟨_, none, he, hfr, Sl.nil _ _ _, .inr (by intro g hg; cases hg)⟩
end
end Go.Proofs.Ythmladcepkdheaa
