/-
  The law's world in memory: new blocks beside it, a word more, a gap and an edge turned.
-/
import Derived.Test.YthmladcepkdheaaWorld2
namespace Go.Proofs.Ythmladcepkdheaa
open Go.RowKit

theorem Syst.blocks {o w w' : World} {X : List (Nat × Obj)} {bc bG bM : Nat} {c : CS} {ns : List NP} (h : Syst o w X bc bG bM c ns) (hf : Frm w.heap.size [] w w') (L : List (Nat × Obj)) (hL : ∀ x ∈ L, w.heap.size ≤ x.1 ∧ w'.heap[x.1]? = some x.2) : Syst o w' (L ++ X) bc bG bM c ns := by
  have h' := h.quiet hf
  refine ⟨h'.cent, h'.node, fun x hx => ?_, fun x hx => ?_, fun x hx p hp => ?_, h.nc, h.nn, h'.root, h.bigC, h.bigN, fun x hx => ?_⟩
  · rcases List.mem_append.1 hx with hx | hx
    · exact (hL x hx).2
    · exact h'.ext x hx
  · rcases List.mem_append.1 hx with hx | hx
    · intro hm; have := h.ltC _ hm; have := (hL x hx).1; omega
    · exact h.xc x hx
  · rcases List.mem_append.1 hx with hx | hx
    · intro hm; have := h.ltN p hp _ hm; have := (hL x hx).1; omega
    · exact h.xn x hx p hp
  · rcases List.mem_append.1 hx with hx | hx
    · exact Nat.le_trans h.root.size (hL x hx).1
    · exact h.bigX x hx
section
variable {o W W' : World} {Y : List (Nat × Obj)} {m : WM} {ws : WS}
theorem WAt.blocks (h : WAt o W Y m ws) (hf : Frm W.heap.size [] W W') (L : List (Nat × Obj)) (hL : ∀ x ∈ L, W.heap.size ≤ x.1 ∧ W'.heap[x.1]? = some x.2) : WAt o W' (L ++ Y) m ws := by
  have h' := h.quiet hf
  have l := h.ltG
  refine ⟨(h.sys.blocks hf L hL).less (fun x hx => by simp only [List.mem_append] at hx ⊢; rcases hx with hx | hx | hx <;> simp [hx]), h.ns, h'.rowN, h'.rowS, h.keptN, h.keptS, h.lenE, h.lenN, h.ge, h.offN, h.offS, fun y hy => ?_, fun y hy => ?_⟩
  · rcases List.mem_append.1 hy with hy | hy
    · have := (hL y hy).1
      exact ⟨by omega, by omega, fun e => by have := h.rowS.lt _ e; omega⟩
    · exact h.offY y hy
  · rcases List.mem_append.1 hy with hy | hy
    · intro x hx e
      have := h.ltK x hx
      have := (hL y hy).1
      omega
    · exact h.offK y hy

/-- A block beside it has turned. -/
theorem WAt.turnY (h : WAt o W Y m ws) {b : Nat} {u : Obj} (hb : (b, u) ∈ Y) (hf : Frm W.heap.size [b] W W') {Y' : List (Nat × Obj)} (hY' : ∀ y ∈ Y', (y ∈ Y ∧ y.1 ≠ b) ∨ (y.1 = b ∧ W'.heap[b]? = some y.2)) : WAt o W' Y' m ws := by
  have lt := fun x hx => h.sys.ltX x hx
  obtain ⟨b1, b2, b3⟩ := h.offY _ hb
  have b4 := h.offK _ hb
  have keep : ∀ x ∈ m.rows ws, x.1 ≠ b := by
    intro x hx
    simp only [WM.rows, List.mem_cons] at hx
    rcases hx with rfl | rfl | hx
    · exact Ne.symm b1
    · exact Ne.symm b2
    · exact b4 x hx
  have old : ∀ x ∈ m.rows ws ++ Y, x.1 ≠ b → W'.heap[x.1]? = some x.2 := fun x hx hne => (hf.block _ (lt x hx) (by simpa using hne)).trans (h.sys.ext x hx)
  have hs : Syst o W' (m.rows ws ++ Y') m.bc m.bG m.bM ws.c m.ps := by
    refine h.sys.beside hf (fun k hk => ?_) (fun x hx => ?_) (fun x hx => .inl ?_)
    · obtain rfl : k = b := by simpa using hk
      exact ⟨_, List.mem_append.2 (.inr hb), rfl⟩
    · rcases List.mem_append.1 hx with hx | hx
      · exact old x (List.mem_append.2 (.inl hx)) (keep x hx)
      · rcases hY' x hx with ⟨h1, h2⟩ | ⟨h1, h2⟩
        · exact old x (List.mem_append.2 (.inr h1)) h2
        · rw [h1]; exact h2
    · rcases List.mem_append.1 hx with hx | hx
      · exact ⟨x, List.mem_append.2 (.inl hx), rfl⟩
      · rcases hY' x hx with ⟨h1, h2⟩ | ⟨h1, h2⟩
        · exact ⟨x, List.mem_append.2 (.inr h1), rfl⟩
        · exact ⟨_, List.mem_append.2 (.inr hb), h1.symm⟩
  have hN : ∀ g, m.ownN = some g → g ∉ [b] := fun g hg => by
    obtain ⟨u, hu⟩ := h.keptN g hg
    have := b4 (g, u) (List.mem_append.2 (.inl hu))
    simpa using this
  have hS : ∀ g, m.ownS = some g → g ∉ [b] := fun g hg => by
    obtain ⟨u, hu⟩ := h.keptS g hg
    have := b4 (g, u) (List.mem_append.2 (.inr hu))
    simpa using this
  refine ⟨hs, h.ns, h.rowN.frm hf h.rowN.lt hN, h.rowS.frm hf h.rowS.lt hS, h.keptN, h.keptS, h.lenE, h.lenN, h.ge, h.offN, h.offS, fun y hy => ?_, fun y hy => ?_⟩
  · rcases hY' y hy with ⟨h1, _⟩ | ⟨h1, _⟩
    · exact h.offY y h1
    · rw [h1]; exact ⟨b1, b2, b3⟩
  · rcases hY' y hy with ⟨h1, _⟩ | ⟨h1, _⟩
    · exact h.offK y h1
    · rw [h1]; exact b4

/-- A word more is said. -/
theorem WAt.sayNext (h : WAt o W Y m ws) (x : Int × Int × Int) (hf : Frm W.heap.size m.ownS.toList W W') {v' : Value} {own' : Option Nat} (hs : Sl W' 41 3 v' (ws.sent.length + 1) (wordsL ws.sent ++ wordL x) own') (ho : own' = m.ownS ∨ ∃ g, own' = some g ∧ W.heap.size ≤ g) :
    ∃ KS', WAt o W' Y { m with vS := v', ownS := own', KS := KS' } (ws.say x) := by
  have lt := fun x hx => h.sys.ltX x hx
  have l := h.ltG
  have hlt' := hs.lt
  have key : ∀ g, own' = some g → ∃ u, W'.heap[g]? = some u := fun g hg => ⟨_, Array.getElem?_eq_getElem (hlt' g hg)⟩
  have offg : ∀ g, m.ownS = some g → g ≠ m.gG ∧ g ≠ m.gE := fun g hg => by
    obtain ⟨u, hu⟩ := h.keptS g hg
    exact h.offS _ hu
  obtain ⟨KS', hk1, hk2⟩ : ∃ KS' : List (Nat × Obj), Kept KS' own' ∧ ∀ y ∈ KS', own' = some y.1 ∧ W'.heap[y.1]? = some y.2 := by
    cases own' with
    | none => exact ⟨[], fun g hg => (by cases hg), fun y hy => (by cases hy)⟩
    | some g =>
      obtain ⟨u, hu⟩ := key g rfl
      refine ⟨[(g, u)], fun g' hg => ?_, fun y hy => ?_⟩
      · cases hg; exact ⟨u, by simp⟩
      · obtain rfl : y = (g, u) := by simpa using hy
        exact ⟨rfl, hu⟩
  have old : ∀ y ∈ m.rows ws ++ Y, m.ownS ≠ some y.1 → W'.heap[y.1]? = some y.2 := fun y hy hne => (hf.block _ (lt y hy) (by simpa [Option.mem_toList, eq_comm] using hne)).trans (h.sys.ext y hy)
  have gN : m.ownS ≠ some m.gG := fun e => (offg _ e).1 rfl
  have gE : m.ownS ≠ some m.gE := fun e => (offg _ e).2 rfl
  have hsys : Syst o W' (({ m with vS := v', ownS := own', KS := KS' } : WM).rows (ws.say x) ++ Y) m.bc m.bG m.bM ws.c m.ps := by
    refine h.sys.beside hf (fun k hk => ?_) (fun y hy => ?_) (fun y hy => ?_)
    · have hk' : m.ownS = some k := by simpa [Option.mem_toList] using hk
      obtain ⟨u, hu⟩ := h.keptS k hk'
      exact ⟨(k, u), m.inS ws Y _ hu, rfl⟩
    · simp only [WM.rows, WS.say, List.mem_append, List.mem_cons] at hy
      rcases hy with (rfl | rfl | hy | hy) | hy
      · exact old _ (by simp [WM.rows]) gN
      · exact old _ (by simp [WM.rows]) gE
      · exact old _ (by simp [WM.rows, hy]) (h.offN _ hy).2.2
      · exact (hk2 y hy).2
      · exact old _ (by simp [hy]) (h.offY _ hy).2.2
    · simp only [WM.rows, WS.say, List.mem_append, List.mem_cons] at hy
      rcases hy with (rfl | rfl | hy | hy) | hy
      · exact .inl ⟨(m.gG, .cells (ints ws.gap).toArray 3 (0, 0)), by simp [WM.rows], rfl⟩
      · exact .inl ⟨(m.gE, .cells (ints ws.edge).toArray 3 (0, 0)), by simp [WM.rows], rfl⟩
      · exact .inl ⟨_, by simp [WM.rows, hy], rfl⟩
      · rcases ho with e | ⟨g, e, hg⟩
        · obtain ⟨u, hu⟩ := h.keptS y.1 (e ▸ (hk2 y hy).1)
          exact .inl ⟨(y.1, u), m.inS ws Y _ hu, rfl⟩
        · have := (hk2 y hy).1
          rw [e] at this
          cases this
          exact .inr hg
      · exact .inl ⟨_, by simp [hy], rfl⟩
  have offNew : ∀ {b : Nat}, b < W.heap.size → m.ownS ≠ some b → own' ≠ some b := fun {b} hb hne e => by
    rcases ho with e' | ⟨g, e', hg⟩
    · exact hne (e' ▸ e)
    · rw [e] at e'; cases e'; omega
  refine ⟨KS', hsys, h.ns, h.rowN.frm hf h.rowN.lt (fun g hg => ?_), ?_, h.keptN, hk1, h.lenE, h.lenN, h.ge, fun y hy => ?_, fun y hy => ?_, fun y hy => ?_, fun y hy z hz => ?_⟩
  · obtain ⟨u, hu⟩ := h.keptN g hg
    have := (h.offN _ hu).2.2
    simpa [Option.mem_toList, eq_comm] using this
  · have e1 : (ws.say x).sent.length = ws.sent.length + 1 := by simp [WS.say]
    have e2 : wordsL (ws.say x).sent = wordsL ws.sent ++ wordL x := by simp [WS.say, wordsL]
    rw [e1, e2]; exact hs
  · exact ⟨(h.offN y hy).1, (h.offN y hy).2.1, offNew (h.ltK y (by simp [hy])) (h.offN y hy).2.2⟩
  · have e := (hk2 y hy).1
    exact ⟨fun e1 => offNew l.1 gN (e1 ▸ e), fun e1 => offNew l.2 gE (e1 ▸ e)⟩
  · exact ⟨(h.offY y hy).1, (h.offY y hy).2.1, offNew (lt y (by simp [hy])) (h.offY y hy).2.2⟩
  · rcases List.mem_append.1 hz with hz | hz
    · exact h.offK y hy z (by simp [hz])
    · intro e1
      exact offNew (lt y (by simp [hy])) (h.offY y hy).2.2 (e1 ▸ (hk2 z hz).1)

/-- A row of numbers has turned. -/
theorem WAt.rowNext (h : WAt o W Y m ws) {b : Nat} (hb : b = m.gG ∨ b = m.gE) (hf : Frm W.heap.size [b] W W') (ws' : WS) (hc : ws'.c = ws.c) (hn : ws'.ns = ws.ns) (hs : ws'.sent = ws.sent) (lg : ws'.gap.length = ws.gap.length) (le : ws'.edge.length = ws.edge.length)
    (hG : Blk W' m.gG 3 (ints ws'.gap)) (hE : Blk W' m.gE 3 (ints ws'.edge)) : WAt o W' Y m ws' := by
  have lt := fun x hx => h.sys.ltX x hx
  have l := h.ltG
  have nbK : ∀ x ∈ m.KN ++ m.KS, x.1 ≠ b := by
    intro x hx
    rcases List.mem_append.1 hx with hx | hx
    · have := h.offN x hx; rcases hb with rfl | rfl <;> omega
    · have := h.offS x hx; rcases hb with rfl | rfl <;> omega
  have nbY : ∀ x ∈ Y, x.1 ≠ b := fun x hx => by have := h.offY x hx; rcases hb with rfl | rfl <;> omega
  have old : ∀ x ∈ m.rows ws ++ Y, x.1 ≠ b → W'.heap[x.1]? = some x.2 := fun x hx hne => (hf.block _ (lt x hx) (by simpa using hne)).trans (h.sys.ext x hx)
  have hsys : Syst o W' (m.rows ws' ++ Y) m.bc m.bG m.bM ws'.c m.ps := by
    rw [hc]
    refine h.sys.beside hf (fun k hk => ?_) (fun y hy => ?_) (fun y hy => .inl ?_)
    · obtain rfl : k = b := by simpa using hk
      rcases hb with rfl | rfl
      · exact ⟨(m.gG, .cells (ints ws.gap).toArray 3 (0, 0)), by simp [WM.rows], rfl⟩
      · exact ⟨(m.gE, .cells (ints ws.edge).toArray 3 (0, 0)), by simp [WM.rows], rfl⟩
    · simp only [WM.rows, List.mem_append, List.mem_cons] at hy
      rcases hy with (rfl | rfl | hy) | hy
      · exact hG
      · exact hE
      · have hy' : y ∈ m.KN ++ m.KS := by simpa using hy
        exact old _ (by rcases hy with hy | hy <;> simp [WM.rows, hy]) (nbK y hy')
      · exact old _ (by simp [hy]) (nbY y hy)
    · simp only [WM.rows, List.mem_append, List.mem_cons] at hy
      rcases hy with (rfl | rfl | hy) | hy
      · exact ⟨(m.gG, .cells (ints ws.gap).toArray 3 (0, 0)), by simp [WM.rows], rfl⟩
      · exact ⟨(m.gE, .cells (ints ws.edge).toArray 3 (0, 0)), by simp [WM.rows], rfl⟩
      · exact ⟨y, by rcases hy with hy | hy <;> simp [WM.rows, hy], rfl⟩
      · exact ⟨y, by simp [hy], rfl⟩
  refine ⟨hsys, by rw [hn]; exact h.ns, h.rowN.frm hf h.rowN.lt (fun g hg => ?_), ?_, h.keptN, h.keptS, by rw [le, lg]; exact h.lenE, by rw [lg]; exact h.lenN, h.ge, h.offN, h.offS, h.offY, h.offK⟩
  · obtain ⟨u, hu⟩ := h.keptN g hg
    simpa using nbK (g, u) (by simp [hu])
  · rw [hs]
    refine h.rowS.frm hf h.rowS.lt (fun g hg => ?_)
    obtain ⟨u, hu⟩ := h.keptS g hg
    simpa using nbK (g, u) (by simp [hu])
theorem WAt.setGap (h : WAt o W Y m ws) (j : Nat) (v : Int) : WAt o (W.setCell ⟨m.gG, j, none⟩ (.int .i64 v)) Y m { ws with gap := ws.gap.set j v } :=
  h.rowNext (.inl rfl) ((Frm.refl _ _ W).setCell (p := ⟨m.gG, j, none⟩) (.inl (by simp)) _) _ rfl rfl rfl (by simp) rfl (by rw [← ints_set]; exact h.blkG.set j _) (h.blkE.other _ h.ge _)
theorem WAt.setEdge (h : WAt o W Y m ws) (j : Nat) (v : Int) : WAt o (W.setCell ⟨m.gE, j, none⟩ (.int .i64 v)) Y m { ws with edge := ws.edge.set j v } :=
  h.rowNext (.inr rfl) ((Frm.refl _ _ W).setCell (p := ⟨m.gE, j, none⟩) (.inl (by simp)) _) _ rfl rfl rfl rfl (by simp) (h.blkG.other _ (Ne.symm h.ge) _) (by rw [← ints_set]; exact h.blkE.set j _)

def zero75 : List Value := [.pointer none, .slice none 0 0, .slice none 0 0, .slice none 0 0, .slice none 0 0, .int .i64 0]
theorem WM.cells_len (m : WM) (ws : WS) : (m.cells ws).length = 6 := rfl
theorem WM.cells_info (m : WM) (ws : WS) : (Try.prog.info? 75).map (fun i => i.size) = some (m.cells ws).length := info75
theorem WAt.cells_one (h : WAt o W Y m ws) : ∀ v ∈ m.cells ws, v.oneCell' = true := by
  intro v hv
  simp only [WM.cells, worldC, List.mem_cons, List.not_mem_nil, or_false] at hv
  rcases hv with rfl | rfl | rfl | rfl | rfl | rfl
  · rfl
  · exact h.rowN.one
  · exact h.rowS.one
  all_goals rfl
theorem WAt.ptrCell (h : WAt o W Y m ws) {g off n cap : Nat} (hv : m.vN = .slice (some ⟨g, off, none⟩) n cap) {k : Nat} {p : NP} (hp : m.ps[k]? = some p) : W.cell? ⟨g, off + k, none⟩ = some (.pointer (some ⟨p.b, 0, none⟩)) := by
  have hr := h.rowN
  rw [hv] at hr
  have hn : n = m.ps.length := by
    rcases hr.2 with ⟨h1, _⟩ | ⟨_, _, _, _, h1, _⟩
    · cases h1
    · cases h1; rfl
  subst hn
  obtain ⟨q1, q2⟩ := List.getElem?_eq_some_iff.1 hp
  refine (hr.cell _ (by simpa [ptrs] using q1)).trans ?_
  rw [ptrs_get q1, q2]
/-- The first box has been stored. -/
theorem WAt.turnHead {b T : Nat} {old : Array Value} (h : WAt o W ((b, .cells old T (0, 0)) :: Y) m ws) (hY : ∀ y ∈ Y, y.1 ≠ b) (cs : Array Value) : WAt o (W.setRow b cs) ((b, .cells cs T (0, 0)) :: Y) m ws :=
  h.turnY (b := b) List.mem_cons_self ((Frm.refl _ _ W).setRow (.inl (by simp)) _) (fun y hy => by
    rcases List.mem_cons.1 hy with rfl | hy
    · exact .inr ⟨rfl, setRow_heap W b _ _ T _ (h.sys.ext _ (List.mem_append.2 (.inr List.mem_cons_self)))⟩
    · exact .inl ⟨List.mem_cons_of_mem _ hy, hY y hy⟩)
/-- What an event leaves. -/
def Hap (o : World) (Y : List (Nat × Obj)) (m : WM) (r : WS × Bool) (e : Ending) (w' : World) : Prop :=
  ∃ m', e = .returned (.tuple #[.agg (m'.cells r.1).toArray, .bool r.2]) ∧ ptrs m'.ps = ptrs m.ps ∧ WAt o w' Y m' r.1
/-- The box of the result is stored, and the boxes are forgotten. -/
theorem WAt.result {x y z : Nat × Obj} (h : WAt o W (x :: y :: z :: Y) m ws) (hy : ∀ z ∈ Y, z.1 ≠ y.1) (cs : Array Value) : WAt o (W.setRow y.1 cs) Y m ws :=
  h.turnY (b := y.1) (u := y.2) (by simp) ((Frm.refl _ _ W).setRow (.inl (by simp)) cs) (fun z hz => .inl ⟨by simp [hz], hy z hz⟩)
end
end Go.Proofs.Ythmladcepkdheaa
