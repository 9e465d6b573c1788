/-
  The law's world in memory, whole: its rows, and what a call of the centre or of a node leaves of it.
-/
import Derived.Test.YthmladcepkdheaaWorld
namespace Go.Proofs.Ythmladcepkdheaa
open Go.RowKit

/-- Where a world lies. -/
structure WM where
  bc : Nat
  bG : Nat
  bM : Nat
  ps : List NP
  vN : Value
  ownN : Option Nat
  vS : Value
  ownS : Option Nat
  gG : Nat
  gE : Nat
  KN : List (Nat × Obj)
  KS : List (Nat × Obj)

def wordsL (l : List (Int × Int × Int)) : List Value := l.flatMap wordL
def WM.rows (m : WM) (ws : WS) : List (Nat × Obj) := (m.gG, .cells (ints ws.gap).toArray 3 (0, 0)) :: (m.gE, .cells (ints ws.edge).toArray 3 (0, 0)) :: (m.KN ++ m.KS)
def WM.cells (m : WM) (ws : WS) : List Value := worldC m.bc m.vN m.vS (.slice (some ⟨m.gG, 0, none⟩) ws.gap.length ws.gap.length) (.slice (some ⟨m.gE, 0, none⟩) ws.gap.length ws.gap.length) ws.slow

structure WAt (o W : World) (Y : List (Nat × Obj)) (m : WM) (ws : WS) : Prop where
  sys : Syst o W (m.rows ws ++ Y) m.bc m.bG m.bM ws.c m.ps
  ns : m.ps.map NP.s = ws.ns
  rowN : Sl W 30 1 m.vN m.ps.length (ptrs m.ps) m.ownN
  rowS : Sl W 41 3 m.vS ws.sent.length (wordsL ws.sent) m.ownS
  keptN : Kept m.KN m.ownN
  keptS : Kept m.KS m.ownS
  lenE : ws.edge.length = ws.gap.length
  lenN : ws.gap.length = m.ps.length
  ge : m.gG ≠ m.gE
  offN : ∀ x ∈ m.KN, x.1 ≠ m.gG ∧ x.1 ≠ m.gE ∧ m.ownS ≠ some x.1
  offS : ∀ x ∈ m.KS, x.1 ≠ m.gG ∧ x.1 ≠ m.gE
  offY : ∀ y ∈ Y, y.1 ≠ m.gG ∧ y.1 ≠ m.gE ∧ m.ownS ≠ some y.1
  offK : ∀ y ∈ Y, ∀ x ∈ m.KN ++ m.KS, x.1 ≠ y.1

section
variable {o W W' : World} {Y : List (Nat × Obj)} {m : WM} {ws : WS}
theorem Kept.heap {K X X' : List (Nat × Obj)} {own : Option Nat} {bc bG bM : Nat} {c : CS} {ps : List NP} {bc' bG' bM' : Nat} {c' : CS} {ps' : List NP} (k : Kept K own) (h : Syst o W X bc bG bM c ps) (h' : Syst o W' X' bc' bG' bM' c' ps') (hX : ∀ x ∈ K, x ∈ X) (hX' : ∀ x ∈ K, x ∈ X') :
    ∀ g, own = some g → W'.heap[g]? = W.heap[g]? := fun g hg => by
  obtain ⟨u, hu⟩ := k g hg
  exact (h'.ext (g, u) (hX' _ hu)).trans (h.ext (g, u) (hX _ hu)).symm

theorem WM.inN (m : WM) (ws : WS) (Y : List (Nat × Obj)) : ∀ x ∈ m.KN, x ∈ m.rows ws ++ Y := fun x hx => by simp [WM.rows, hx]
theorem WM.inS (m : WM) (ws : WS) (Y : List (Nat × Obj)) : ∀ x ∈ m.KS, x ∈ m.rows ws ++ Y := fun x hx => by simp [WM.rows, hx]

/-- A call of the centre or of a node: the rows stand. -/
theorem WAt.next (h : WAt o W Y m ws) {c : CS} {ps : List NP} (hs : Syst o W' (m.rows ws ++ Y) m.bc m.bG m.bM c ps) (hp : ptrs ps = ptrs m.ps) : WAt o W' Y { m with ps := ps } { ws with c := c, ns := ps.map NP.s } := by
  have hl : ps.length = m.ps.length := by have := congrArg List.length hp; simpa [ptrs] using this
  exact ⟨hs, rfl, by rw [hl, hp]; exact h.rowN.kept (h.keptN.heap h.sys hs (m.inN ws Y) (m.inN ws Y)), h.rowS.kept (h.keptS.heap h.sys hs (m.inS ws Y) (m.inS ws Y)), h.keptN, h.keptS, h.lenE, by rw [hl]; exact h.lenN, h.ge, h.offN, h.offS, h.offY, h.offK⟩
theorem WAt.quiet (h : WAt o W Y m ws) (hf : Frm W.heap.size [] W W') : WAt o W' Y m ws :=
  ⟨h.sys.quiet hf, h.ns, h.rowN.frm hf h.rowN.lt (by simp), h.rowS.frm hf h.rowS.lt (by simp), h.keptN, h.keptS, h.lenE, h.lenN, h.ge, h.offN, h.offS, h.offY, h.offK⟩
theorem WAt.less {Y' : List (Nat × Obj)} (h : WAt o W Y m ws) (hY : ∀ y ∈ Y', y ∈ Y) : WAt o W Y' m ws :=
  ⟨h.sys.less (fun x hx => by rcases List.mem_append.1 hx with hx | hx <;> simp [hx, hY]), h.ns, h.rowN, h.rowS, h.keptN, h.keptS, h.lenE, h.lenN, h.ge, h.offN, h.offS, fun y hy => h.offY y (hY y hy), fun y hy => h.offK y (hY y hy)⟩
theorem WAt.ltG (h : WAt o W Y m ws) : m.gG < W.heap.size ∧ m.gE < W.heap.size := ⟨h.sys.ltX (m.gG, _) (by simp [WM.rows]; exact .inl rfl), h.sys.ltX (m.gE, .cells (ints ws.edge).toArray 3 (0, 0)) (by simp [WM.rows])⟩
theorem WAt.ltK (h : WAt o W Y m ws) : ∀ x ∈ m.KN ++ m.KS, x.1 < W.heap.size := fun x hx => h.sys.ltX x (by simp only [WM.rows, List.mem_append, List.mem_cons] at hx ⊢; exact .inl (.inr (.inr hx)))
/-- New blocks beside it. -/
theorem WAt.beside {b : Nat} {u : Obj} (h : WAt o W Y m ws) (hf : Frm W.heap.size [] W W') (hb : W.heap.size ≤ b) (hu : W'.heap[b]? = some u) : WAt o W' ((b, u) :: Y) m ws := by
  have h' := h.quiet hf
  have l := h.ltG
  refine ⟨(h.sys.block hf hb hu).less (fun x hx => by simp only [List.mem_append, List.mem_cons] at hx ⊢; rcases hx with hx | hx | hx <;> simp [hx]), h.ns, h'.rowN, h'.rowS, h.keptN, h.keptS, h.lenE, h.lenN, h.ge, h.offN, h.offS, fun y hy => ?_, fun y hy => ?_⟩
  · rcases List.mem_cons.1 hy with rfl | hy
    · exact ⟨by simp only; omega, by simp only; omega, fun e => by have := h.rowS.lt b e; omega⟩
    · exact h.offY y hy
  · rcases List.mem_cons.1 hy with rfl | hy
    · intro x hx e
      have := h.ltK x hx
      simp only at e
      omega
    · exact h.offK y hy
theorem WAt.blkG (h : WAt o W Y m ws) : Blk W m.gG 3 (ints ws.gap) := h.sys.ext (m.gG, .cells (ints ws.gap).toArray 3 (0, 0)) (by simp [WM.rows])
theorem WAt.blkE (h : WAt o W Y m ws) : Blk W m.gE 3 (ints ws.edge) := h.sys.ext (m.gE, .cells (ints ws.edge).toArray 3 (0, 0)) (by simp [WM.rows])
theorem WAt.node (h : WAt o W Y m ws) {k : Nat} (hk : k < ws.ns.length) : ∃ p, m.ps[k]? = some p ∧ p.s = ws.node k := by
  have hl : k < m.ps.length := by rw [← h.ns] at hk; simpa using hk
  refine ⟨m.ps[k], List.getElem?_eq_getElem hl, ?_⟩
  have := ws.node_at hk
  rw [← h.ns, List.getElem?_map, List.getElem?_eq_getElem hl] at this
  exact Option.some.inj this
theorem ptrs_set {ps : List NP} {k : Nat} {p p' : NP} (hk : ps[k]? = some p) (hb : p'.b = p.b) : ptrs (ps.set k p') = ptrs ps := by
  unfold ptrs
  rw [List.map_set, hb]
  obtain ⟨h1, h2⟩ := List.getElem?_eq_some_iff.1 hk
  subst h2
  exact List.ext_getElem? (fun i => by
    rw [List.getElem?_set]
    split
    · rename_i e; subst e; simp [h1]
    · rfl)
/-- The node's place, behind a call of it. -/
theorem WAt.nodeNext (h : WAt o W Y m ws) {k : Nat} {p : NP} (hk : m.ps[k]? = some p) {own : Option Nat} {s : NS} (hs : Syst o W' (m.rows ws ++ Y) m.bc m.bG m.bM ws.c (m.ps.set k ⟨p.b, own, s⟩)) :
    WAt o W' Y { m with ps := m.ps.set k ⟨p.b, own, s⟩ } (ws.put k s) := by
  have := h.next hs (ptrs_set hk rfl)
  rw [List.map_set, h.ns] at this
  exact this
theorem WAt.centreNext (h : WAt o W Y m ws) {c : CS} (hs : Syst o W' (m.rows ws ++ Y) m.bc m.bG m.bM c m.ps) : WAt o W' Y m { ws with c := c } := by
  have := h.next hs rfl
  rw [h.ns] at this
  exact this
end
end Go.Proofs.Ythmladcepkdheaa
