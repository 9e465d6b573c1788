/-
  A centre, nodes, and blocks beside them: what a step of one of them leaves of the others.
-/
import Derived.Test.YthmladcepkdheaaNode3
import Derived.Test.YthmladcepkdheaaCent5
namespace Go.Proofs.Ythmladcepkdheaa
open Go.RowKit

/-- What a node holds. -/
structure NS where
  now : Int
  number : Int
  term : Int
  end_ : Int
  last : Int
  l : List (Int × Int)

/-- A node in memory: its block, its asks' block, what it holds. -/
structure NP where
  b : Nat
  own : Option Nat
  s : NS

def NP.foot (p : NP) : List Nat := nodeFoot p.b p.own
abbrev NP.at (p : NP) (w : World) : Prop := NodeAt w p.b p.s.now p.s.number p.s.term p.s.end_ p.s.last p.s.l p.own

structure Syst (o w : World) (X : List (Nat × Obj)) (bc bG bM : Nat) (c : CS) (ns : List NP) : Prop where
  cent : CentS w bc bG bM c
  node : ∀ p ∈ ns, p.at w
  ext : ∀ x ∈ X, w.heap[x.1]? = some x.2
  xc : ∀ x ∈ X, x.1 ∉ [bc, bG, bM]
  xn : ∀ x ∈ X, ∀ p ∈ ns, x.1 ∉ p.foot
  nc : ∀ p ∈ ns, ∀ k ∈ p.foot, k ∉ [bc, bG, bM]
  nn : ∀ (i j : Nat) (p q : NP), ns[i]? = some p → ns[j]? = some q → i ≠ j → ∀ k ∈ p.foot, k ∉ q.foot
  root : Frm o.heap.size [] o w
  bigC : ∀ k ∈ [bc, bG, bM], o.heap.size ≤ k
  bigN : ∀ p ∈ ns, ∀ k ∈ p.foot, o.heap.size ≤ k
  bigX : ∀ x ∈ X, o.heap.size ≤ x.1

theorem Frm.onto {o w w' : World} {S : List Nat} (h : Frm o.heap.size [] o w) (hf : Frm w.heap.size S w w') (hS : ∀ k ∈ S, o.heap.size ≤ k) : Frm o.heap.size [] o w' :=
  h.call hf h.size (fun x h1 h2 => by have := hS x h2; omega)

section
variable {o w w' : World} {X : List (Nat × Obj)} {bc bG bM : Nat} {c c' : CS} {ns : List NP}

theorem Syst.ltC (h : Syst o w X bc bG bM c ns) : ∀ x ∈ [bc, bG, bM], x < w.heap.size := h.cent.lt
theorem Syst.ltN (h : Syst o w X bc bG bM c ns) : ∀ p ∈ ns, ∀ x ∈ p.foot, x < w.heap.size := fun p hp => (h.node p hp).lt
theorem Syst.ltX (h : Syst o w X bc bG bM c ns) : ∀ x ∈ X, x.1 < w.heap.size := fun x hx => (Array.getElem?_eq_some_iff.1 (h.ext x hx)).1

/-- Nothing of these has turned. -/
theorem Syst.quiet (h : Syst o w X bc bG bM c ns) (hf : Frm w.heap.size [] w w') : Syst o w' X bc bG bM c ns where
  cent := h.cent.frm hf fun x hx => ⟨h.ltC x hx, by simp⟩
  node p hp := (h.node p hp).frm hf fun x hx => ⟨h.ltN p hp x hx, by simp⟩
  ext x hx := (hf.block _ (h.ltX x hx) (by simp)).trans (h.ext x hx)
  xc := h.xc
  xn := h.xn
  nc := h.nc
  nn := h.nn
  root := h.root.onto hf (by simp)
  bigC := h.bigC
  bigN := h.bigN
  bigX := h.bigX

/-- The centre has turned. -/
theorem Syst.centre (h : Syst o w X bc bG bM c ns) (hf : Frm w.heap.size [bc, bG] w w') (hc : CentS w' bc bG bM c') : Syst o w' X bc bG bM c' ns where
  cent := hc
  node p hp := (h.node p hp).frm hf fun x hx => ⟨h.ltN p hp x hx, fun hm => h.nc p hp x hx (by simp at hm ⊢; omega)⟩
  ext x hx := (hf.block _ (h.ltX x hx) (fun hm => h.xc x hx (by simp at hm ⊢; omega))).trans (h.ext x hx)
  xc := h.xc
  xn := h.xn
  nc := h.nc
  nn := h.nn
  root := h.root.onto hf (fun k hk => h.bigC k (by simp at hk ⊢; omega))
  bigC := h.bigC
  bigN := h.bigN
  bigX := h.bigX

/-- Node number i has turned. -/
theorem Syst.turn (h : Syst o w X bc bG bM c ns) {i : Nat} {p p' : NP} (hi : ns[i]? = some p) {S : List Nat} (hS : ∀ x ∈ S, x ∈ p.foot) (hf : Frm w.heap.size S w w') (hp : p'.at w') (hfoot : ∀ x ∈ p'.foot, x ∈ p.foot ∨ w.heap.size ≤ x) :
    Syst o w' X bc bG bM c (ns.set i p') := by
  have hpm : p ∈ ns := List.mem_of_getElem? hi
  have hlt : i < ns.length := (List.getElem?_eq_some_iff.1 hi).1
  have get : ∀ j q, (ns.set i p')[j]? = some q → (j = i ∧ q = p') ∨ (j ≠ i ∧ ns[j]? = some q) := fun j q hq => by
    by_cases e : j = i
    · subst e; simp [hlt] at hq; exact .inl ⟨rfl, hq.symm⟩
    · rw [List.getElem?_set_ne (Ne.symm e)] at hq; exact .inr ⟨e, hq⟩
  have mem : ∀ q ∈ ns.set i p', q = p' ∨ ∃ j, j ≠ i ∧ ns[j]? = some q := fun q hq => by
    obtain ⟨j, hj, e⟩ := List.mem_iff_getElem.1 hq
    rcases get j q (by rw [List.getElem?_eq_getElem hj, e]) with h | h
    · exact .inl h.2
    · exact .inr ⟨j, h⟩
  refine ⟨h.cent.frm hf fun x hx => ⟨h.ltC x hx, fun hm => h.nc p hpm x (hS x hm) hx⟩, fun q hq => ?_, fun x hx => (hf.block _ (h.ltX x hx) (fun hm => h.xn x hx p hpm (hS _ hm))).trans (h.ext x hx), h.xc, fun x hx q hq => ?_, fun q hq k hk => ?_, fun a b q r hq hr hab k hk => ?_, h.root.onto hf (fun k hk => h.bigN p hpm k (hS k hk)), h.bigC, fun q hq k hk => ?_, h.bigX⟩
  · rcases mem q hq with rfl | ⟨j, hj, hq'⟩
    · exact hp
    · have hqm := List.mem_of_getElem? hq'
      exact (h.node q hqm).frm hf fun x hx => ⟨h.ltN q hqm x hx, fun hm => h.nn j i q p hq' hi hj x hx (hS x hm)⟩
  · rcases mem q hq with rfl | ⟨j, hj, hq'⟩
    · intro hm
      rcases hfoot _ hm with h1 | h1
      · exact h.xn x hx p hpm h1
      · have := h.ltX x hx; omega
    · exact h.xn x hx q (List.mem_of_getElem? hq')
  · rcases mem q hq with rfl | ⟨j, hj, hq'⟩
    · rcases hfoot _ hk with h1 | h1
      · exact h.nc p hpm k h1
      · intro hm; have := h.ltC k hm; omega
    · exact h.nc q (List.mem_of_getElem? hq') k hk
  · rcases get a q hq with ⟨rfl, rfl⟩ | ⟨ha, hq'⟩
    · rcases get b r hr with ⟨rfl, rfl⟩ | ⟨hb, hr'⟩
      · exact absurd rfl hab
      · rcases hfoot _ hk with h1 | h1
        · exact h.nn a b p r hi hr' hab k h1
        · intro hm; have := h.ltN r (List.mem_of_getElem? hr') k hm; omega
    · rcases get b r hr with ⟨rfl, rfl⟩ | ⟨hb, hr'⟩
      · intro hm
        rcases hfoot _ hm with h1 | h1
        · exact h.nn a b q p hq' hi hab k hk h1
        · have := h.ltN q (List.mem_of_getElem? hq') k hk; omega
      · exact h.nn a b q r hq' hr' hab k hk
  · rcases mem q hq with rfl | ⟨j, hj, hq'⟩
    · rcases hfoot _ hk with h1 | h1
      · exact h.bigN p hpm k h1
      · exact Nat.le_trans h.root.size h1
    · exact h.bigN q (List.mem_of_getElem? hq') k hk

/-- A new node. -/
theorem Syst.more (h : Syst o w X bc bG bM c ns) {p : NP} (hf : Frm w.heap.size [] w w') (hp : p.at w') (hb : p.b = w.heap.size) (ho : p.own = none) : Syst o w' X bc bG bM c (ns ++ [p]) := by
  have h' := h.quiet hf
  have hfoot : ∀ k ∈ p.foot, k = w.heap.size := fun k hk => by simp [NP.foot, nodeFoot, ho, hb] at hk; exact hk
  have get : ∀ j q, (ns ++ [p])[j]? = some q → (j = ns.length ∧ q = p) ∨ ns[j]? = some q := fun j q hq => by
    rw [List.getElem?_append] at hq
    split at hq
    · exact .inr hq
    · rw [List.getElem?_singleton] at hq
      split at hq
      · exact .inl ⟨by omega, by cases hq; rfl⟩
      · cases hq
  refine ⟨h'.cent, fun q hq => ?_, h'.ext, h.xc, fun x hx q hq => ?_, fun q hq k hk => ?_, fun a b q r hq hr hab k hk => ?_, h.root.onto hf (by simp), h.bigC, fun q hq k hk => ?_, h.bigX⟩
  · rcases List.mem_append.1 hq with h1 | h1
    · exact h'.node q h1
    · simp at h1; subst h1; exact hp
  · rcases List.mem_append.1 hq with h1 | h1
    · exact h.xn x hx q h1
    · simp at h1; subst h1
      intro hm
      have h2 := hfoot _ hm
      have := h.ltX x hx
      omega
  · rcases List.mem_append.1 hq with h1 | h1
    · exact h.nc q h1 k hk
    · simp at h1; subst h1
      intro hm
      have h2 := hfoot _ hk
      have := h.ltC k hm
      omega
  · rcases get a q hq with ⟨rfl, rfl⟩ | hq'
    · rcases get b r hr with ⟨rfl, rfl⟩ | hr'
      · exact absurd rfl hab
      · intro hm
        have h2 := hfoot _ hk
        have := h.ltN r (List.mem_of_getElem? hr') k hm
        omega
    · rcases get b r hr with ⟨rfl, rfl⟩ | hr'
      · intro hm
        have h2 := hfoot _ hm
        have := h.ltN q (List.mem_of_getElem? hq') k hk
        omega
      · exact h.nn a b q r hq' hr' hab k hk
  · rcases List.mem_append.1 hq with h1 | h1
    · exact h.bigN q h1 k hk
    · simp at h1; subst h1
      have h2 := hfoot _ hk
      have := h.root.size
      omega

/-- A new block beside them. -/
theorem Syst.block (h : Syst o w X bc bG bM c ns) {b : Nat} {u : Obj} (hf : Frm w.heap.size [] w w') (hb : w.heap.size ≤ b) (ho : w'.heap[b]? = some u) : Syst o w' ((b, u) :: X) bc bG bM c ns := by
  have h' := h.quiet hf
  refine ⟨h'.cent, h'.node, fun x hx => ?_, fun x hx => ?_, fun x hx p hp => ?_, h.nc, h.nn, h'.root, h.bigC, h.bigN, fun x hx => ?_⟩
  · rcases List.mem_cons.1 hx with rfl | hx
    · exact ho
    · exact h'.ext x hx
  · rcases List.mem_cons.1 hx with rfl | hx
    · intro hm; have := h.ltC _ hm; simp only at this; omega
    · exact h.xc x hx
  · rcases List.mem_cons.1 hx with rfl | hx
    · intro hm; have := h.ltN p hp _ hm; simp only at this; omega
    · exact h.xn x hx p hp
  · rcases List.mem_cons.1 hx with rfl | hx
    · exact Nat.le_trans h.root.size hb
    · exact h.bigX x hx

/-- Fewer blocks beside them. -/
theorem Syst.less {X' : List (Nat × Obj)} (h : Syst o w X bc bG bM c ns) (hX : ∀ x ∈ X', x ∈ X) : Syst o w X' bc bG bM c ns :=
  ⟨h.cent, h.node, fun x hx => h.ext x (hX x hx), fun x hx => h.xc x (hX x hx), fun x hx => h.xn x (hX x hx), h.nc, h.nn, h.root, h.bigC, h.bigN, fun x hx => h.bigX x (hX x hx)⟩

/-- Blocks beside them have turned. -/
theorem Syst.beside {X' : List (Nat × Obj)} {S : List Nat} (h : Syst o w X bc bG bM c ns) (hf : Frm w.heap.size S w w') (hS : ∀ k ∈ S, ∃ x ∈ X, x.1 = k) (hX : ∀ x ∈ X', w'.heap[x.1]? = some x.2)
    (hin : ∀ x ∈ X', (∃ y ∈ X, y.1 = x.1) ∨ w.heap.size ≤ x.1) : Syst o w' X' bc bG bM c ns := by
  have s1 : ∀ k ∈ [bc, bG, bM], k ∉ S := fun k hk hm => by obtain ⟨x, hx, rfl⟩ := hS k hm; exact h.xc x hx hk
  have s2 : ∀ p ∈ ns, ∀ k ∈ p.foot, k ∉ S := fun p hp k hk hm => by obtain ⟨x, hx, rfl⟩ := hS k hm; exact h.xn x hx p hp hk
  refine ⟨h.cent.frm hf fun x hx => ⟨h.ltC x hx, s1 x hx⟩, fun p hp => (h.node p hp).frm hf fun x hx => ⟨h.ltN p hp x hx, s2 p hp x hx⟩, hX, fun x hx => ?_, fun x hx p hp => ?_, h.nc, h.nn, h.root.onto hf (fun k hk => by obtain ⟨x, hx, rfl⟩ := hS k hk; exact h.bigX x hx), h.bigC, h.bigN, fun x hx => ?_⟩
  · rcases hin x hx with ⟨y, hy, e⟩ | h1
    · rw [← e]; exact h.xc y hy
    · intro hm; have := h.ltC _ hm; omega
  · rcases hin x hx with ⟨y, hy, e⟩ | h1
    · rw [← e]; exact h.xn y hy p hp
    · intro hm; have := h.ltN p hp _ hm; omega
  · rcases hin x hx with ⟨y, hy, e⟩ | h1
    · rw [← e]; exact h.bigX y hy
    · exact Nat.le_trans h.root.size h1
end
end Go.Proofs.Ythmladcepkdheaa
