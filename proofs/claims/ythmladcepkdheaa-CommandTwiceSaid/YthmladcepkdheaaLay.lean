/-
  A world of small rules is laid.
-/
import Derived.Test.YthmladcepkdheaaHapB
import Derived.Test.YthmladcepkdheaaAwake
namespace Go.Proofs.Ythmladcepkdheaa
open Go.RowKit

section
variable {P : Program}
/-- THREE OPERATIONS, any of which may come. -/
theorem LeftL.three {l : List Oper} {Q : Exit → Act → World → Prop} {S : World → Prop} {t : Nat} {done : List Nat} {a : Act} {w : World} (i i' i'' : Nat) {o o' o'' : Oper} (ho : l[i]? = some o) (ho' : l[i']? = some o') (ho'' : l[i'']? = some o'') (hB : (decide (done.length < l.length) && decide (Region.ready .any l.toArray (doneOf l done) = [i, i', i''])) = true)
    (h : wpList P l.toArray (Exit.then (fun a' w' => (i ≠ t → S w') ∧ LeftL P l Q S t (done ++ [i]) a' w') Q) [o] a w)
    (h' : wpList P l.toArray (Exit.then (fun a' w' => (i' ≠ t → S w') ∧ LeftL P l Q S t (done ++ [i']) a' w') Q) [o'] a w)
    (h'' : wpList P l.toArray (Exit.then (fun a' w' => (i'' ≠ t → S w') ∧ LeftL P l Q S t (done ++ [i'']) a' w') Q) [o''] a w) : LeftL P l Q S t done a w := by
  simp only [Bool.and_eq_true, decide_eq_true_eq] at hB
  unfold LeftL
  rw [show l.length - done.length = (l.length - (done.length + 1)) + 1 by omega]
  refine ⟨fun h0 => (by rw [hB.2] at h0; cases h0), fun j hj => ?_⟩
  rw [hB.2] at hj
  simp only [List.mem_cons, List.not_mem_nil, or_false] at hj
  rcases hj with rfl | rfl | rfl
  · exact LeftL.op ho hB.1 h
  · exact LeftL.op ho' hB.1 h'
  · exact LeftL.op ho'' hB.1 h''
end

theorem namedLL {P : Program} {l : List Oper} {Q : Exit → Act → World → Prop} {S : World → Prop} {t : Nat} {done : List Nat} {a : Act} {w : World} (h : ∀ W, W = w → LeftL P l Q S t done a W) : LeftL P l Q S t done a w := h w rfl
/-- The rows and the box of a world, made anew in any order. -/
def Laid (W2 : World) (bc n s gG gE bx : Nat) (w4 : World) : Prop :=
  Frm W2.heap.size [] W2 w4 ∧ W2.heap.size ≤ gG ∧ W2.heap.size ≤ gE ∧ W2.heap.size ≤ bx ∧ gG ≠ gE ∧ gG ≠ bx ∧ gE ≠ bx ∧ Blk w4 gG 3 (ints (List.replicate n 0)) ∧ Blk w4 gE 3 (ints (List.replicate n 0)) ∧
    Blk w4 bx 75 (worldC bc (.slice none 0 0) (.slice none 0 0) (.slice (some ⟨gG, 0, none⟩) n n) (.slice (some ⟨gE, 0, none⟩) n n) s)
theorem info30s : (Try.prog.info? 30).map (fun i => (i.zero, i.size, i.bytes)) = some (some (.pointer none), 1, 8) := by kernel_rfl
/-- A world half laid: j nodes are there. -/
structure Grow (o W : World) (bx z gG gE bc bG bM : Nat) (c : CS) (n j : Nat) (t s : Int) : Prop where
  ex : ∃ ps vN ownN KN, Syst o W ((gG, .cells (ints (List.replicate n 0)).toArray 3 (0, 0)) :: (gE, .cells (ints (List.replicate n 0)).toArray 3 (0, 0)) :: (bx, .cells (worldC bc vN (.slice none 0 0) (.slice (some ⟨gG, 0, none⟩) n n) (.slice (some ⟨gE, 0, none⟩) n n) s).toArray 75 (0, 0)) :: (z, .cells zero75.toArray 75 (0, 0)) :: KN) bc bG bM c ps ∧
    ps.map NP.s = (List.range j).map (fun i : Nat => (⟨0, (i : Int) + 1, t, 0, 0, []⟩ : NS)) ∧ Sl W 30 1 vN j (ptrs ps) ownN ∧ Kept KN ownN ∧ ∀ x ∈ KN, x.1 ≠ gG ∧ x.1 ≠ gE ∧ x.1 ≠ bx ∧ x.1 ≠ z
theorem setCell_other_heap (w : World) (b i : Nat) (v : Value) (k : Nat) (h : k ≠ b) : (w.setCell ⟨b, i, none⟩ v).heap[k]? = w.heap[k]? := Below.heap_setCell _ _ _ _ (by simpa [eq_comm] using h)
theorem Grow.step {o wA wB wC : World} {bx z gG gE bc bG bM : Nat} {c : CS} {n j : Nat} {t s : Int} {ps : List NP} {p : NP} {vN v' : Value} {ownN own' : Option Nat} {KN : List (Nat × Obj)}
    (hA : Syst o wA ((gG, .cells (ints (List.replicate n 0)).toArray 3 (0, 0)) :: (gE, .cells (ints (List.replicate n 0)).toArray 3 (0, 0)) :: (bx, .cells (worldC bc vN (.slice none 0 0) (.slice (some ⟨gG, 0, none⟩) n n) (.slice (some ⟨gE, 0, none⟩) n n) s).toArray 75 (0, 0)) :: (z, .cells zero75.toArray 75 (0, 0)) :: KN) bc bG bM c (ps ++ [p]))
    (hps : ps.map NP.s = (List.range j).map (fun i : Nat => (⟨0, (i : Int) + 1, t, 0, 0, []⟩ : NS))) (hp : p.s = ⟨0, (j : Int) + 1, t, 0, 0, []⟩) (hk : Kept KN ownN) (hKN : ∀ x ∈ KN, x.1 ≠ gG ∧ x.1 ≠ gE ∧ x.1 ≠ bx ∧ x.1 ≠ z)
    (n1 : gG ≠ gE) (n2 : gG ≠ bx) (n3 : gE ≠ bx) (nz : bx ≠ z ∧ gG ≠ z ∧ gE ≠ z)
    (hB : Frm wA.heap.size [] wA wB) (hC : Frm wB.heap.size ownN.toList wB wC) (hs : Sl wC 30 1 v' (j + 1) (ptrs ps ++ [.pointer (some ⟨p.b, 0, none⟩)]) own') (ho : own' = ownN ∨ ∃ g, own' = some g ∧ wB.heap.size ≤ g) :
    Grow o (wC.setCell ⟨bx, 1, none⟩ v') bx z gG gE bc bG bM c n (j + 1) t s := by
  have lt := fun x hx => hA.ltX x hx
  have hsz : wA.heap.size ≤ wB.heap.size := hB.size
  have hlt' := hs.lt
  have offN : ∀ g, ownN = some g → g ≠ gG ∧ g ≠ gE ∧ g ≠ bx ∧ g ≠ z ∧ g < wA.heap.size := fun g hg => by
    obtain ⟨u, hu⟩ := hk g hg
    have := hKN _ hu
    exact ⟨this.1, this.2.1, this.2.2.1, this.2.2.2, lt (g, u) (by simp [hu])⟩
  have lbx : bx < wA.heap.size := lt (bx, _) (by simp; exact .inr (.inr (.inl rfl)))
  have lgG : gG < wA.heap.size := lt (gG, _) (by simp; exact .inl rfl)
  have lgE : gE < wA.heap.size := lt (gE, .cells (ints (List.replicate n 0)).toArray 3 (0, 0)) (by simp)
  have lz : z < wA.heap.size := lt (z, .cells zero75.toArray 75 (0, 0)) (by simp)
  have offO : ∀ g, own' = some g → g ≠ gG ∧ g ≠ gE ∧ g ≠ bx ∧ g ≠ z := fun g hg => by
    rcases ho with e | ⟨g', e, h'⟩
    · have := offN g (e ▸ hg); exact ⟨this.1, this.2.1, this.2.2.1, this.2.2.2.1⟩
    · rw [hg] at e; cases e; omega
  have hAC : Frm wA.heap.size ownN.toList wA wC := hB.narrow (by simp) |>.call hC hB.size (fun x _ hx => hx)
  have hf : Frm wA.heap.size (bx :: ownN.toList) wA (wC.setCell ⟨bx, 1, none⟩ v') := (hAC.narrow (fun k hk => List.mem_cons_of_mem _ hk)).setCell (p := ⟨bx, 1, none⟩) (.inl (by simp)) _
  obtain ⟨KS', hk1, hk2⟩ : ∃ KS' : List (Nat × Obj), Kept KS' own' ∧ ∀ y ∈ KS', own' = some y.1 ∧ wC.heap[y.1]? = some y.2 := by
    cases own' with
    | none => exact ⟨[], fun g hg => (by cases hg), fun y hy => (by cases hy)⟩
    | some g =>
      refine ⟨[(g, wC.heap[g]'(hlt' g rfl))], fun g' hg => ?_, fun y hy => ?_⟩
      · cases hg; exact ⟨_, List.mem_singleton.2 rfl⟩
      · obtain rfl := List.mem_singleton.1 hy
        exact ⟨rfl, Array.getElem?_eq_getElem (hlt' g rfl)⟩
  have old : ∀ (b : Nat) (u : Obj), wA.heap[b]? = some u → b < wA.heap.size → b ≠ bx → ownN ≠ some b → (wC.setCell ⟨bx, 1, none⟩ v').heap[b]? = some u := fun b u hu hb h1 h2 => (hf.block b hb (by simp only [List.mem_cons, Option.mem_toList]; rintro (e | e); exact h1 e; exact h2 e)).trans hu
  have nG : ownN ≠ some gG := fun e => (offN _ e).1 rfl
  have nE : ownN ≠ some gE := fun e => (offN _ e).2.1 rfl
  have nZ : ownN ≠ some z := fun e => (offN _ e).2.2.2.1 rfl
  have nB : ownN ≠ some bx := fun e => (offN _ e).2.2.1 rfl
  have hbA : Blk wA bx 75 (worldC bc vN (.slice none 0 0) (.slice (some ⟨gG, 0, none⟩) n n) (.slice (some ⟨gE, 0, none⟩) n n) s) := hA.ext (bx, .cells (worldC bc vN (.slice none 0 0) (.slice (some ⟨gG, 0, none⟩) n n) (.slice (some ⟨gE, 0, none⟩) n n) s).toArray 75 (0, 0)) (by simp)
  have hbC : Blk wC bx 75 (worldC bc vN (.slice none 0 0) (.slice (some ⟨gG, 0, none⟩) n n) (.slice (some ⟨gE, 0, none⟩) n n) s) := hAC.blk hbA lbx (by simpa [Option.mem_toList] using nB)
  refine ⟨ps ++ [p], v', own', KS', hA.beside hf (fun k hk' => ?_) (fun y hy => ?_) (fun y hy => ?_), ?_, ?_, hk1, fun y hy => offO _ (hk2 y hy).1⟩
  · simp only [List.mem_cons, Option.mem_toList] at hk'
    rcases hk' with rfl | hk'
    · exact ⟨(k, .cells (worldC bc vN (.slice none 0 0) (.slice (some ⟨gG, 0, none⟩) n n) (.slice (some ⟨gE, 0, none⟩) n n) s).toArray 75 (0, 0)), by simp, rfl⟩
    · obtain ⟨u, hu⟩ := hk k hk'
      exact ⟨(k, u), by simp [hu], rfl⟩
  · simp only [List.mem_cons] at hy
    rcases hy with rfl | rfl | rfl | rfl | hy
    · exact old _ _ (hA.ext (gG, .cells (ints (List.replicate n 0)).toArray 3 (0, 0)) (by simp)) lgG n2 nG
    · exact old _ _ (hA.ext (gE, .cells (ints (List.replicate n 0)).toArray 3 (0, 0)) (by simp)) lgE n3 nE
    · exact hbC.set 1 v'
    · exact old _ _ (hA.ext (z, .cells zero75.toArray 75 (0, 0)) (by simp)) lz (Ne.symm nz.1) nZ
    · have h1 := hk2 y hy
      exact (setCell_other_heap wC bx 1 v' y.1 (offO _ h1.1).2.2.1).trans h1.2
  · simp only [List.mem_cons] at hy
    rcases hy with rfl | rfl | rfl | rfl | hy
    · exact .inl ⟨(gG, .cells (ints (List.replicate n 0)).toArray 3 (0, 0)), by simp, rfl⟩
    · exact .inl ⟨(gE, .cells (ints (List.replicate n 0)).toArray 3 (0, 0)), by simp, rfl⟩
    · exact .inl ⟨(bx, .cells (worldC bc vN (.slice none 0 0) (.slice (some ⟨gG, 0, none⟩) n n) (.slice (some ⟨gE, 0, none⟩) n n) s).toArray 75 (0, 0)), by simp, rfl⟩
    · exact .inl ⟨(z, .cells zero75.toArray 75 (0, 0)), by simp, rfl⟩
    · rcases ho with e | ⟨g', e, h'⟩
      · obtain ⟨u, hu⟩ := hk y.1 (e ▸ (hk2 y hy).1)
        exact .inl ⟨(y.1, u), by simp [hu], rfl⟩
      · have h1 := (hk2 y hy).1
        rw [e] at h1; cases h1
        exact .inr (Nat.le_trans hsz h')
  · rw [List.map_append, hps, List.range_succ, List.map_append]
    simp [hp]
  · have e : ptrs (ps ++ [p]) = ptrs ps ++ [.pointer (some ⟨p.b, 0, none⟩)] := by simp [ptrs]
    rw [e]
    exact hs.setCell _ _ (fun b hb => by have := (offO b hb).2.2.1; simpa [eq_comm] using this)
theorem Grow.final {o W : World} {bx z gG gE bc bG bM : Nat} {n : Nat} {t s wt : Int} (h : Grow o W bx z gG gE bc bG bM (WS.start n t s wt).c n n t s) (n1 : gG ≠ gE) (n2 : gG ≠ bx) (n3 : gE ≠ bx) (nz : bx ≠ z ∧ gG ≠ z ∧ gE ≠ z) :
    ∃ m, WAt o W [(bx, .cells (m.cells (WS.start n t s wt)).toArray 75 (0, 0)), (z, .cells zero75.toArray 75 (0, 0))] m (WS.start n t s wt) := by
  obtain ⟨ps, vN, ownN, KN, hs, hps, hsl, hk, hKN⟩ := h
  have hpl : ps.length = n := by have := congrArg List.length hps; simpa using this
  have eg : (WS.start n t s wt).gap.length = n := by simp [WS.start]
  refine ⟨⟨bc, bG, bM, ps, vN, ownN, .slice none 0 0, none, gG, gE, KN, []⟩, ?_⟩
  have ec : (⟨bc, bG, bM, ps, vN, ownN, .slice none 0 0, none, gG, gE, KN, []⟩ : WM).cells (WS.start n t s wt) = worldC bc vN (.slice none 0 0) (.slice (some ⟨gG, 0, none⟩) n n) (.slice (some ⟨gE, 0, none⟩) n n) s := by
    simp only [WM.cells, eg]; rfl
  rw [ec]
  refine ⟨hs.less (fun x hx => ?_), hps, by rw [hpl]; exact hsl, Sl.nil _ _ _, hk, fun g hg => (by cases hg), by simp [WS.start], by rw [eg, hpl], n1, fun x hx => ⟨(hKN x hx).1, (hKN x hx).2.1, by simp⟩, fun x hx => (by cases hx), fun y hy => ?_, fun y hy x hx => ?_⟩
  · simp only [WM.rows, WS.start, List.append_nil, List.mem_append, List.mem_cons, List.not_mem_nil, or_false] at hx ⊢
    rcases hx with (hx | hx | hx) | hx | hx <;> simp [hx]
  · simp only [List.mem_cons, List.not_mem_nil, or_false] at hy
    rcases hy with rfl | rfl
    · exact ⟨Ne.symm n2, Ne.symm n3, by simp⟩
    · exact ⟨Ne.symm nz.2.1, Ne.symm nz.2.2, by simp⟩
  · simp only [List.append_nil] at hx
    have := hKN x hx
    simp only [List.mem_cons, List.not_mem_nil, or_false] at hy
    rcases hy with rfl | rfl
    · exact this.2.2.1
    · exact this.2.2.2
/-- Many ways lead to one place. -/
theorem via {G : Prop} {K : Act → World → Prop} {F : Nat → Nat → Nat → Act} (L : Nat → Nat → Nat → World → Prop) (h1 : (∀ x y z w, L x y z w → K (F x y z) w) → G) (h2 : ∀ x y z w, L x y z w → K (F x y z) w) : G := h1 h2

set_option maxRecDepth 100000 in
set_option maxHeartbeats 8000000 in
theorem lay_any (w : World) (x0 x1 x2 : Nat) (h0 : x0 < 256) (h1 : x1 < 256) (h2 : x2 < 256) (n : Nat) (hn : n = 1 + x0 % 3) (t : Nat) (ht : t = 1 + x1 % 12) (s : Nat) (hs : s = 50 * (x2 % 21)) :
    Calls Try.prog 40 #[.agg #[.int .u8 x0, .int .u8 x1, .int .u8 x2]] w fun e w' => ∃ m, e = .returned (.tuple #[.agg (m.cells (WS.start n t s (waitN t s))).toArray, .bool true]) ∧ WAt w w' [] m (WS.start n t s (waitN t s)) := by
  go_enter Try.func40, Try.ntmps40
  iterate 13 go_step
  refine named ?_; intro W hW
  have hx : Blk W w.heap.size 69 [.int .u8 x0, .int .u8 x1, .int .u8 x2] := by rw [hW]; repeat (first | exact Blk.new w 69 [.int .u8 x0, .int .u8 x1, .int .u8 x2] | refine Blk.alloc' ?_)
  have hz : Blk W (w.heap.size + 1) 75 zero75 := by rw [hW]; repeat (first | exact Blk.new' _ 75 zero75 (by simp) | refine Blk.alloc' ?_)
  have hf : Frm w.heap.size [] w W := by rw [hW]; repeat (first | with_reducible exact Frm.refl _ _ _ | with_reducible refine Frm.drewN ?_ | with_reducible refine Frm.drew ?_ | ((with_reducible refine Frm.setCell' ?_ ?_); · first | (left; simp; done) | (right; simp; done) | (right; simp; omega)) | ((with_reducible refine Frm.alloc' ?_ ?_); · first | exact Nat.le_refl _ | (simp; done) | (simp; omega)))
  clear hW
  have hfx : ∀ V, Frm W.heap.size [] W V → V.cell? ⟨w.heap.size, 0, none⟩ = some (.int .u8 x0) ∧ V.cell? ⟨w.heap.size, 1, none⟩ = some (.int .u8 x1) ∧ V.cell? ⟨w.heap.size, 2, none⟩ = some (.int .u8 x2) := fun V hV => by
    have := hV.blk hx hx.lt (by simp)
    exact ⟨this.cell 0, this.cell 1, this.cell 2⟩
  have r0 : (x0 : Int).tmod 3 = ((x0 % 3 : Nat) : Int) := by rw [Int.tmod_eq_emod_of_nonneg (by omega)]; omega
  have r1 : (x1 : Int).tmod 12 = ((x1 % 12 : Nat) : Int) := by rw [Int.tmod_eq_emod_of_nonneg (by omega)]; omega
  have r2 : (x2 : Int).tmod 21 = ((x2 % 21 : Nat) : Int) := by rw [Int.tmod_eq_emod_of_nonneg (by omega)]; omega
  obtain ⟨a0, ha0⟩ : ∃ a : Nat, a = x0 % 3 := ⟨_, rfl⟩
  obtain ⟨a1, ha1⟩ : ∃ a : Nat, a = x1 % 12 := ⟨_, rfl⟩
  obtain ⟨a2, ha2⟩ : ∃ a : Nat, a = x2 % 21 := ⟨_, rfl⟩
  have b0 : a0 ≤ 2 := by omega
  have b1 : a1 ≤ 11 := by omega
  have b2 : a2 ≤ 20 := by omega
  rw [← ha0] at r0 hn
  rw [← ha1] at r1 ht
  rw [← ha2] at r2 hs
  have w0 : IntKind.i64.wrap (x0 : Int) = x0 := IntWalk.i64_in _ (by omega)
  have w1 : IntKind.i64.wrap (x1 : Int) = x1 := IntWalk.i64_in _ (by omega)
  have w2 : IntKind.i64.wrap (x2 : Int) = x2 := IntWalk.i64_in _ (by omega)
  have v0 : IntKind.i64.wrap (a0 : Int) = a0 := IntWalk.i64_in _ (by omega)
  have v1 : IntKind.i64.wrap (a1 : Int) = a1 := IntWalk.i64_in _ (by omega)
  have v2 : IntKind.i64.wrap (a2 : Int) = a2 := IntWalk.i64_in _ (by omega)
  have u0 : (1 : Int) + (a0 : Int) = (n : Int) := by omega
  have u1 : (1 : Int) + (a1 : Int) = (t : Int) := by omega
  have u2 : (50 : Int) * (a2 : Int) = (s : Int) := by omega
  have y0 : IntKind.i64.wrap (n : Int) = n := IntWalk.i64_in _ (by omega)
  have y1 : IntKind.i64.wrap (t : Int) = t := IntWalk.i64_in _ (by omega)
  have y2 : IntKind.i64.wrap (s : Int) = s := IntWalk.i64_in _ (by omega)
  have HX := Lib.hid hx
  have HZ := Lib.hid hz
  have HF := Lib.hid hf
  have HFX := Lib.hid hfx
  have HN := Lib.hid hn
  have HT := Lib.hid ht
  have HSS := Lib.hid hs
  have HA0 := Lib.hid ha0
  have HA1 := Lib.hid ha1
  have HA2 := Lib.hid ha2
  clear ha2 ha1 ha0 hs ht hn hfx hf hz hx
  go_wp2_with fail
  refine wp_region_leftL (fun V => Frm W.heap.size [] W V) 100 (by kernel_rfl) ?_
  have hS : Frm W.heap.size [] W W.drew := (Frm.refl _ _ W).drew
  have HS := Lib.hid hS
  clear hS
  refine LeftL.run (v := ?_) 0 rfl (by kernel_rfl) rfl (fun _ _ d _ _ h => by cases d <;> exact h) ?_ HS.out ?_; rotate_left; (· intro V hV; obtain ⟨p0, p1, p2⟩ := HFX.out V hV; clear hV; go_simp; rfl); (intro K' hK'; go_simp; refine hK' _ ?_; clear hK' K')
  refine LeftL.run (v := ?_) 1 rfl (by kernel_rfl) rfl (fun _ _ d _ _ h => by cases d <;> exact h) ?_ HS.out ?_; rotate_left; (· intro V hV; obtain ⟨p0, p1, p2⟩ := HFX.out V hV; clear hV; go_simp; rfl); (intro K' hK'; go_simp; refine hK' _ ?_; clear hK' K')
  refine LeftL.run (v := ?_) 2 rfl (by kernel_rfl) rfl (fun _ _ d _ _ h => by cases d <;> exact h) ?_ HS.out ?_; rotate_left; (· intro V hV; obtain ⟨p0, p1, p2⟩ := HFX.out V hV; clear hV; go_simp; rfl); (intro K' hK'; go_simp; refine hK' _ ?_; clear hK' K')
  refine LeftL.run (v := ?_) 3 rfl (by kernel_rfl) rfl (fun _ _ d _ _ h => by cases d <;> exact h) ?_ HS.out ?_; rotate_left; (· intro V hV; obtain ⟨p0, p1, p2⟩ := HFX.out V hV; clear hV; go_simp; rfl); (intro K' hK'; go_simp; refine hK' _ ?_; clear hK' K')
  refine LeftL.run (v := ?_) 4 rfl (by kernel_rfl) rfl (fun _ _ d _ _ h => by cases d <;> exact h) ?_ HS.out ?_; rotate_left; (· intro V hV; obtain ⟨p0, p1, p2⟩ := HFX.out V hV; clear hV; go_simp; rfl); (intro K' hK'; go_simp; refine hK' _ ?_; clear hK' K')
  refine LeftL.run (v := ?_) 5 rfl (by kernel_rfl) rfl (fun _ _ d _ _ h => by cases d <;> exact h) ?_ HS.out ?_; rotate_left; (· intro V hV; obtain ⟨p0, p1, p2⟩ := HFX.out V hV; clear hV; go_simp; rfl); (intro K' hK'; go_simp; refine hK' _ ?_; clear hK' K')
  refine LeftL.run (v := ?_) 6 rfl (by kernel_rfl) rfl (fun _ _ d _ _ h => by cases d <;> exact h) ?_ HS.out ?_; rotate_left; (· intro V hV; obtain ⟨p0, p1, p2⟩ := HFX.out V hV; clear hV; go_simp; rfl); (intro K' hK'; go_simp; refine hK' _ ?_; clear hK' K')
  refine LeftL.run (v := ?_) 7 rfl (by kernel_rfl) rfl (fun _ _ d _ _ h => by cases d <;> exact h) ?_ HS.out ?_; rotate_left; (· intro V hV; obtain ⟨p0, p1, p2⟩ := HFX.out V hV; clear hV; go_simp; rfl); (intro K' hK'; go_simp; refine hK' _ ?_; clear hK' K')
  refine LeftL.run (v := ?_) 8 rfl (by kernel_rfl) rfl (fun _ _ d _ _ h => by cases d <;> exact h) ?_ HS.out ?_; rotate_left; (· intro V hV; obtain ⟨p0, p1, p2⟩ := HFX.out V hV; clear hV; go_simp; rfl); (intro K' hK'; go_simp; refine hK' _ ?_; clear hK' K')
  refine LeftL.run (v := ?_) 9 rfl (by kernel_rfl) rfl (fun _ _ d _ _ h => by cases d <;> exact h) ?_ HS.out ?_; rotate_left; (· intro V hV; obtain ⟨p0, p1, p2⟩ := HFX.out V hV; clear hV; go_simp; rfl); (intro K' hK'; go_simp; refine hK' _ ?_; clear hK' K')
  refine LeftL.run (v := ?_) 10 rfl (by kernel_rfl) rfl (fun _ _ d _ _ h => by cases d <;> exact h) ?_ HS.out ?_; rotate_left; (· intro V hV; obtain ⟨p0, p1, p2⟩ := HFX.out V hV; clear hV; go_simp; rfl); (intro K' hK'; go_simp; refine hK' _ ?_; clear hK' K')
  refine LeftL.run (v := ?_) 11 rfl (by kernel_rfl) rfl (fun _ _ d _ _ h => by cases d <;> exact h) ?_ HS.out ?_; rotate_left; (· intro V hV; obtain ⟨p0, p1, p2⟩ := HFX.out V hV; clear hV; go_simp; rfl); (intro K' hK'; go_simp; refine hK' _ ?_; clear hK' K')
  refine LeftL.run (v := ?_) 12 rfl (by kernel_rfl) rfl (fun _ _ d _ _ h => by cases d <;> exact h) ?_ HS.out ?_; rotate_left; (· intro V hV; obtain ⟨p0, p1, p2⟩ := HFX.out V hV; clear hV; go_simp; rfl); (intro K' hK'; go_simp; refine hK' _ ?_; clear hK' K')
  refine LeftL.run (v := ?_) 13 rfl (by kernel_rfl) rfl (fun _ _ d _ _ h => by cases d <;> exact h) ?_ HS.out ?_; rotate_left; (· intro V hV; obtain ⟨p0, p1, p2⟩ := HFX.out V hV; clear hV; go_simp; rfl); (intro K' hK'; go_simp; refine hK' _ ?_; clear hK' K')
  refine LeftL.run (v := ?_) 14 rfl (by kernel_rfl) rfl (fun _ _ d _ _ h => by cases d <;> exact h) ?_ HS.out ?_; rotate_left; (· intro V hV; obtain ⟨p0, p1, p2⟩ := HFX.out V hV; clear hV; go_simp; rfl); (intro K' hK'; go_simp; refine hK' _ ?_; clear hK' K')
  clear r0 r1 r2 w0 w1 w2 v0 v1 v2
  refine LeftL.one 15 rfl (by kernel_rfl) ?_
  go_wp2_with fail
  first | refine ⟨fun _ => HS.out, ?_⟩ | refine ⟨HS.out, ?_⟩
  refine LeftL.one 16 rfl (by kernel_rfl) ?_
  go_wp2_with fail
  first | refine ⟨fun _ => HS.out, ?_⟩ | refine ⟨HS.out, ?_⟩
  refine LeftL.one 17 rfl (by kernel_rfl) ?_
  go_wp2_with fail
  first | refine ⟨fun _ => HS.out, ?_⟩ | refine ⟨HS.out, ?_⟩
  refine LeftL.done (by kernel_rfl) ?_
  clear u0 u1 u2 HA0 HA1 HA2
  go_wp2_with fail
  have hr : (inB t 1 100000 && inB s 0 1000) = true := by
    have := HT.out; have := HSS.out
    rw [inB_iff.2 (by omega), inB_iff.2 (by omega)]; rfl
  refine (newCentre_ok n t s _ hr (inB_iff.2 (by have := HN.out; omega))).mono ?_; rintro e W2 ⟨rfl, hc2, hf2⟩
  have hsz : W.heap.size = W.drew.heap.size := rfl
  rw [← hsz] at hc2 hf2
  have hb2 : w.heap.size ≤ W.heap.size := HF.out.size
  have s1 : Syst w W2 [] (W.heap.size + 1) W.heap.size (W.heap.size + 2) ⟨0, 0, 0, 0, waitN t s, 0, List.replicate (n + 1) 0⟩ [] := Syst.fresh hc2 (HF.out.drew.call hf2 HF.out.size (by simp)) (by omega)
  have hz2 : Blk W2 (w.heap.size + 1) 75 zero75 := hf2.blk HZ.out.drew HZ.out.lt (by simp)
  have s2 : Syst w W2 [(w.heap.size + 1, .cells zero75.toArray 75 (0, 0))] (W.heap.size + 1) W.heap.size (W.heap.size + 2) ⟨0, 0, 0, 0, waitN t s, 0, List.replicate (n + 1) 0⟩ [] :=
    { s1 with ext := fun x hx => (by simp only [List.mem_singleton] at hx; subst hx; exact hz2), xc := fun x hx => (by simp only [List.mem_singleton] at hx; subst hx; have := HZ.out.lt; simp; omega), xn := fun x hx p hp => (by cases hp), bigX := fun x hx => (by simp only [List.mem_singleton] at hx; subst hx; simp) }
  have hmk := fun V => run_make_ints n (by have := HN.out; omega) V
  clear HS hc2 hf2 hsz
  have S2 := Lib.hid s2
  have HZ2 := Lib.hid hz2
  have HMK := Lib.hid hmk
  have HR := Lib.hid hr
  have HB2 := Lib.hid hb2
  clear hb2 hr hmk hz2 s2
  go_wp2_with fail
  rename_i Kq aq
  apply via (K := Kq) (fun gG gE bx w4 => Laid W2 (W.heap.size + 1) n s gG gE bx w4)
  · intro hvia
    have HVIA := Lib.hid hvia
    clear hvia
    refine wp_region_leftL (fun _ => True) 100 (by kernel_rfl) ?_
    (refine LeftL.run (v := ?_) 0 rfl (by kernel_rfl) rfl (fun _ _ d _ _ h => by cases d <;> exact h) ?_ trivial ?_; rotate_left; (· intro V _; go_simp; rfl); (intro K' hK'; go_simp; refine hK' _ ?_; clear hK' K'))
    (refine LeftL.run (v := ?_) 1 rfl (by kernel_rfl) rfl (fun _ _ d _ _ h => by cases d <;> exact h) ?_ trivial ?_; rotate_left; (· intro V _; go_simp; rfl); (intro K' hK'; go_simp; refine hK' _ ?_; clear hK' K'))
    (refine LeftL.run (v := ?_) 3 rfl (by kernel_rfl) rfl (fun _ _ d _ _ h => by cases d <;> exact h) ?_ trivial ?_; rotate_left; (· intro V _; go_simp; rfl); (intro K' hK'; go_simp; refine hK' _ ?_; clear hK' K'))
    (refine LeftL.run (v := ?_) 5 rfl (by kernel_rfl) rfl (fun _ _ d _ _ h => by cases d <;> exact h) ?_ trivial ?_; rotate_left; (· intro V _; go_simp; rfl); (intro K' hK'; go_simp; refine hK' _ ?_; clear hK' K'))
    have hmk := HMK.out
    refine LeftL.three 2 4 7 rfl rfl rfl (by kernel_rfl) ?_ ?_ ?_
    · go_wp2_with fail
      try refine ⟨fun _ => trivial, ?_⟩
      refine LeftL.two 4 7 rfl rfl (by kernel_rfl) ?_ ?_
      · go_wp2_with fail
        try refine ⟨fun _ => trivial, ?_⟩
        (refine LeftL.run (v := ?_) 6 rfl (by kernel_rfl) rfl (fun _ _ d _ _ h => by cases d <;> exact h) ?_ trivial ?_; rotate_left; (· intro V _; go_simp; rfl); (intro K' hK'; go_simp; refine hK' _ ?_; clear hK' K'))
        refine LeftL.one 7 rfl (by kernel_rfl) ?_
        go_wp2_with fail
        try refine ⟨fun _ => trivial, ?_⟩
        refine namedLL ?_; intro w3 hw3
        have hG : Blk w3 (W2.heap.size) 3 (ints (List.replicate n 0)) := by rw [hw3]; try refine Blk.drew ?_; refine Blk.alloc' ?_; refine Blk.alloc' ?_; exact Blk.new' _ 3 (ints (List.replicate n 0)) (by simp)
        have hE : Blk w3 (W2.heap.size + 1) 3 (ints (List.replicate n 0)) := by rw [hw3]; try refine Blk.drew ?_; refine Blk.alloc' ?_; exact Blk.new' _ 3 (ints (List.replicate n 0)) (by simp)
        have hB : Blk w3 (W2.heap.size + 1 + 1) 75 zero75 := by rw [hw3]; try refine Blk.drew ?_; exact Blk.new' _ 75 zero75 (by simp)
        have hF : Frm W2.heap.size [] W2 w3 := by rw [hw3]; repeat (first | with_reducible exact Frm.refl _ _ _ | with_reducible refine Frm.drewN ?_ | with_reducible refine Frm.drew ?_ | ((with_reducible refine Frm.setCell' ?_ ?_); · first | (left; simp; done) | (right; simp; done) | (right; simp; omega)) | ((with_reducible refine Frm.alloc' ?_ ?_); · first | exact Nat.le_refl _ | (simp; done) | (simp; omega)))
        clear hw3
        obtain ⟨c2, hc2⟩ : ∃ c, c = W2.heap.size + 1 + 1 := ⟨_, rfl⟩
        obtain ⟨c1, hc1⟩ : ∃ c, c = W2.heap.size + 1 := ⟨_, rfl⟩
        obtain ⟨c0, hc0⟩ : ∃ c, c = W2.heap.size := ⟨_, rfl⟩
        simp only [← hc2] at hG hE hB ⊢
        simp only [← hc1] at hG hE hB ⊢
        simp only [← hc0] at hG hE hB ⊢
        obtain ⟨hc0', hc1', hc2'⟩ : W2.heap.size ≤ c0 ∧ c0 < c1 ∧ c1 < c2 := ⟨by omega, by omega, by omega⟩
        clear hc0 hc1 hc2
        refine LeftL.one 8 rfl (by kernel_rfl) ?_
        refine wpList_storeB (P := Try.prog) (ty := 75) (cs := worldC (W.heap.size + 1) (.slice none 0 0) (.slice none 0 0) (.slice (some ⟨c0, 0, none⟩) n n) (.slice (some ⟨c1, 0, none⟩) n n) s) rfl rfl hB rfl rfl rfl (worldC_info _ _ _ _ _ _) (by simp [worldC, Value.oneCell']) ?_
        have hL : Laid W2 (W.heap.size + 1) n s c0 c1 c2 (w3.setRow c2 (worldC (W.heap.size + 1) (.slice none 0 0) (.slice none 0 0) (.slice (some ⟨c0, 0, none⟩) n n) (.slice (some ⟨c1, 0, none⟩) n n) s).toArray) := ⟨hF.setRow (.inr (by omega)) _, by omega, by omega, by omega, by omega, by omega, by omega, hG.row_other _ (by omega), hE.row_other _ (by omega), hB.row _⟩
        generalize w3.setRow c2 (worldC (W.heap.size + 1) (.slice none 0 0) (.slice none 0 0) (.slice (some ⟨c0, 0, none⟩) n n) (.slice (some ⟨c1, 0, none⟩) n n) s).toArray = w4 at hL ⊢
        refine wpList_nil ?_
        refine ⟨fun _ => trivial, ?_⟩
        refine LeftL.done (by kernel_rfl) ?_
        go_simp
        exact HVIA.out c0 c1 c2 w4 hL
      · go_wp2_with fail
        try refine ⟨fun _ => trivial, ?_⟩
        refine LeftL.one 4 rfl (by kernel_rfl) ?_
        go_wp2_with fail
        try refine ⟨fun _ => trivial, ?_⟩
        (refine LeftL.run (v := ?_) 6 rfl (by kernel_rfl) rfl (fun _ _ d _ _ h => by cases d <;> exact h) ?_ trivial ?_; rotate_left; (· intro V _; go_simp; rfl); (intro K' hK'; go_simp; refine hK' _ ?_; clear hK' K'))
        refine namedLL ?_; intro w3 hw3
        have hG : Blk w3 (W2.heap.size) 3 (ints (List.replicate n 0)) := by rw [hw3]; try refine Blk.drew ?_; refine Blk.alloc' ?_; refine Blk.alloc' ?_; exact Blk.new' _ 3 (ints (List.replicate n 0)) (by simp)
        have hE : Blk w3 (W2.heap.size + 1 + 1) 3 (ints (List.replicate n 0)) := by rw [hw3]; try refine Blk.drew ?_; exact Blk.new' _ 3 (ints (List.replicate n 0)) (by simp)
        have hB : Blk w3 (W2.heap.size + 1) 75 zero75 := by rw [hw3]; try refine Blk.drew ?_; refine Blk.alloc' ?_; exact Blk.new' _ 75 zero75 (by simp)
        have hF : Frm W2.heap.size [] W2 w3 := by rw [hw3]; repeat (first | with_reducible exact Frm.refl _ _ _ | with_reducible refine Frm.drewN ?_ | with_reducible refine Frm.drew ?_ | ((with_reducible refine Frm.setCell' ?_ ?_); · first | (left; simp; done) | (right; simp; done) | (right; simp; omega)) | ((with_reducible refine Frm.alloc' ?_ ?_); · first | exact Nat.le_refl _ | (simp; done) | (simp; omega)))
        clear hw3
        obtain ⟨c2, hc2⟩ : ∃ c, c = W2.heap.size + 1 + 1 := ⟨_, rfl⟩
        obtain ⟨c1, hc1⟩ : ∃ c, c = W2.heap.size + 1 := ⟨_, rfl⟩
        obtain ⟨c0, hc0⟩ : ∃ c, c = W2.heap.size := ⟨_, rfl⟩
        simp only [← hc2] at hG hE hB ⊢
        simp only [← hc1] at hG hE hB ⊢
        simp only [← hc0] at hG hE hB ⊢
        obtain ⟨hc0', hc1', hc2'⟩ : W2.heap.size ≤ c0 ∧ c0 < c1 ∧ c1 < c2 := ⟨by omega, by omega, by omega⟩
        clear hc0 hc1 hc2
        refine LeftL.one 8 rfl (by kernel_rfl) ?_
        refine wpList_storeB (P := Try.prog) (ty := 75) (cs := worldC (W.heap.size + 1) (.slice none 0 0) (.slice none 0 0) (.slice (some ⟨c0, 0, none⟩) n n) (.slice (some ⟨c2, 0, none⟩) n n) s) rfl rfl hB rfl rfl rfl (worldC_info _ _ _ _ _ _) (by simp [worldC, Value.oneCell']) ?_
        have hL : Laid W2 (W.heap.size + 1) n s c0 c2 c1 (w3.setRow c1 (worldC (W.heap.size + 1) (.slice none 0 0) (.slice none 0 0) (.slice (some ⟨c0, 0, none⟩) n n) (.slice (some ⟨c2, 0, none⟩) n n) s).toArray) := ⟨hF.setRow (.inr (by omega)) _, by omega, by omega, by omega, by omega, by omega, by omega, hG.row_other _ (by omega), hE.row_other _ (by omega), hB.row _⟩
        generalize w3.setRow c1 (worldC (W.heap.size + 1) (.slice none 0 0) (.slice none 0 0) (.slice (some ⟨c0, 0, none⟩) n n) (.slice (some ⟨c2, 0, none⟩) n n) s).toArray = w4 at hL ⊢
        refine wpList_nil ?_
        refine ⟨fun _ => trivial, ?_⟩
        refine LeftL.done (by kernel_rfl) ?_
        go_simp
        exact HVIA.out c0 c2 c1 w4 hL
    · go_wp2_with fail
      try refine ⟨fun _ => trivial, ?_⟩
      refine LeftL.two 2 7 rfl rfl (by kernel_rfl) ?_ ?_
      · go_wp2_with fail
        try refine ⟨fun _ => trivial, ?_⟩
        (refine LeftL.run (v := ?_) 6 rfl (by kernel_rfl) rfl (fun _ _ d _ _ h => by cases d <;> exact h) ?_ trivial ?_; rotate_left; (· intro V _; go_simp; rfl); (intro K' hK'; go_simp; refine hK' _ ?_; clear hK' K'))
        refine LeftL.one 7 rfl (by kernel_rfl) ?_
        go_wp2_with fail
        try refine ⟨fun _ => trivial, ?_⟩
        refine namedLL ?_; intro w3 hw3
        have hG : Blk w3 (W2.heap.size + 1) 3 (ints (List.replicate n 0)) := by rw [hw3]; try refine Blk.drew ?_; refine Blk.alloc' ?_; exact Blk.new' _ 3 (ints (List.replicate n 0)) (by simp)
        have hE : Blk w3 (W2.heap.size) 3 (ints (List.replicate n 0)) := by rw [hw3]; try refine Blk.drew ?_; refine Blk.alloc' ?_; refine Blk.alloc' ?_; exact Blk.new' _ 3 (ints (List.replicate n 0)) (by simp)
        have hB : Blk w3 (W2.heap.size + 1 + 1) 75 zero75 := by rw [hw3]; try refine Blk.drew ?_; exact Blk.new' _ 75 zero75 (by simp)
        have hF : Frm W2.heap.size [] W2 w3 := by rw [hw3]; repeat (first | with_reducible exact Frm.refl _ _ _ | with_reducible refine Frm.drewN ?_ | with_reducible refine Frm.drew ?_ | ((with_reducible refine Frm.setCell' ?_ ?_); · first | (left; simp; done) | (right; simp; done) | (right; simp; omega)) | ((with_reducible refine Frm.alloc' ?_ ?_); · first | exact Nat.le_refl _ | (simp; done) | (simp; omega)))
        clear hw3
        obtain ⟨c2, hc2⟩ : ∃ c, c = W2.heap.size + 1 + 1 := ⟨_, rfl⟩
        obtain ⟨c1, hc1⟩ : ∃ c, c = W2.heap.size + 1 := ⟨_, rfl⟩
        obtain ⟨c0, hc0⟩ : ∃ c, c = W2.heap.size := ⟨_, rfl⟩
        simp only [← hc2] at hG hE hB ⊢
        simp only [← hc1] at hG hE hB ⊢
        simp only [← hc0] at hG hE hB ⊢
        obtain ⟨hc0', hc1', hc2'⟩ : W2.heap.size ≤ c0 ∧ c0 < c1 ∧ c1 < c2 := ⟨by omega, by omega, by omega⟩
        clear hc0 hc1 hc2
        refine LeftL.one 8 rfl (by kernel_rfl) ?_
        refine wpList_storeB (P := Try.prog) (ty := 75) (cs := worldC (W.heap.size + 1) (.slice none 0 0) (.slice none 0 0) (.slice (some ⟨c1, 0, none⟩) n n) (.slice (some ⟨c0, 0, none⟩) n n) s) rfl rfl hB rfl rfl rfl (worldC_info _ _ _ _ _ _) (by simp [worldC, Value.oneCell']) ?_
        have hL : Laid W2 (W.heap.size + 1) n s c1 c0 c2 (w3.setRow c2 (worldC (W.heap.size + 1) (.slice none 0 0) (.slice none 0 0) (.slice (some ⟨c1, 0, none⟩) n n) (.slice (some ⟨c0, 0, none⟩) n n) s).toArray) := ⟨hF.setRow (.inr (by omega)) _, by omega, by omega, by omega, by omega, by omega, by omega, hG.row_other _ (by omega), hE.row_other _ (by omega), hB.row _⟩
        generalize w3.setRow c2 (worldC (W.heap.size + 1) (.slice none 0 0) (.slice none 0 0) (.slice (some ⟨c1, 0, none⟩) n n) (.slice (some ⟨c0, 0, none⟩) n n) s).toArray = w4 at hL ⊢
        refine wpList_nil ?_
        refine ⟨fun _ => trivial, ?_⟩
        refine LeftL.done (by kernel_rfl) ?_
        go_simp
        exact HVIA.out c1 c0 c2 w4 hL
      · go_wp2_with fail
        try refine ⟨fun _ => trivial, ?_⟩
        refine LeftL.one 2 rfl (by kernel_rfl) ?_
        go_wp2_with fail
        try refine ⟨fun _ => trivial, ?_⟩
        (refine LeftL.run (v := ?_) 6 rfl (by kernel_rfl) rfl (fun _ _ d _ _ h => by cases d <;> exact h) ?_ trivial ?_; rotate_left; (· intro V _; go_simp; rfl); (intro K' hK'; go_simp; refine hK' _ ?_; clear hK' K'))
        refine namedLL ?_; intro w3 hw3
        have hG : Blk w3 (W2.heap.size + 1 + 1) 3 (ints (List.replicate n 0)) := by rw [hw3]; try refine Blk.drew ?_; exact Blk.new' _ 3 (ints (List.replicate n 0)) (by simp)
        have hE : Blk w3 (W2.heap.size) 3 (ints (List.replicate n 0)) := by rw [hw3]; try refine Blk.drew ?_; refine Blk.alloc' ?_; refine Blk.alloc' ?_; exact Blk.new' _ 3 (ints (List.replicate n 0)) (by simp)
        have hB : Blk w3 (W2.heap.size + 1) 75 zero75 := by rw [hw3]; try refine Blk.drew ?_; refine Blk.alloc' ?_; exact Blk.new' _ 75 zero75 (by simp)
        have hF : Frm W2.heap.size [] W2 w3 := by rw [hw3]; repeat (first | with_reducible exact Frm.refl _ _ _ | with_reducible refine Frm.drewN ?_ | with_reducible refine Frm.drew ?_ | ((with_reducible refine Frm.setCell' ?_ ?_); · first | (left; simp; done) | (right; simp; done) | (right; simp; omega)) | ((with_reducible refine Frm.alloc' ?_ ?_); · first | exact Nat.le_refl _ | (simp; done) | (simp; omega)))
        clear hw3
        obtain ⟨c2, hc2⟩ : ∃ c, c = W2.heap.size + 1 + 1 := ⟨_, rfl⟩
        obtain ⟨c1, hc1⟩ : ∃ c, c = W2.heap.size + 1 := ⟨_, rfl⟩
        obtain ⟨c0, hc0⟩ : ∃ c, c = W2.heap.size := ⟨_, rfl⟩
        simp only [← hc2] at hG hE hB ⊢
        simp only [← hc1] at hG hE hB ⊢
        simp only [← hc0] at hG hE hB ⊢
        obtain ⟨hc0', hc1', hc2'⟩ : W2.heap.size ≤ c0 ∧ c0 < c1 ∧ c1 < c2 := ⟨by omega, by omega, by omega⟩
        clear hc0 hc1 hc2
        refine LeftL.one 8 rfl (by kernel_rfl) ?_
        refine wpList_storeB (P := Try.prog) (ty := 75) (cs := worldC (W.heap.size + 1) (.slice none 0 0) (.slice none 0 0) (.slice (some ⟨c2, 0, none⟩) n n) (.slice (some ⟨c0, 0, none⟩) n n) s) rfl rfl hB rfl rfl rfl (worldC_info _ _ _ _ _ _) (by simp [worldC, Value.oneCell']) ?_
        have hL : Laid W2 (W.heap.size + 1) n s c2 c0 c1 (w3.setRow c1 (worldC (W.heap.size + 1) (.slice none 0 0) (.slice none 0 0) (.slice (some ⟨c2, 0, none⟩) n n) (.slice (some ⟨c0, 0, none⟩) n n) s).toArray) := ⟨hF.setRow (.inr (by omega)) _, by omega, by omega, by omega, by omega, by omega, by omega, hG.row_other _ (by omega), hE.row_other _ (by omega), hB.row _⟩
        generalize w3.setRow c1 (worldC (W.heap.size + 1) (.slice none 0 0) (.slice none 0 0) (.slice (some ⟨c2, 0, none⟩) n n) (.slice (some ⟨c0, 0, none⟩) n n) s).toArray = w4 at hL ⊢
        refine wpList_nil ?_
        refine ⟨fun _ => trivial, ?_⟩
        refine LeftL.done (by kernel_rfl) ?_
        go_simp
        exact HVIA.out c2 c0 c1 w4 hL
    · go_wp2_with fail
      try refine ⟨fun _ => trivial, ?_⟩
      refine LeftL.two 2 4 rfl rfl (by kernel_rfl) ?_ ?_
      · go_wp2_with fail
        try refine ⟨fun _ => trivial, ?_⟩
        refine LeftL.one 4 rfl (by kernel_rfl) ?_
        go_wp2_with fail
        try refine ⟨fun _ => trivial, ?_⟩
        (refine LeftL.run (v := ?_) 6 rfl (by kernel_rfl) rfl (fun _ _ d _ _ h => by cases d <;> exact h) ?_ trivial ?_; rotate_left; (· intro V _; go_simp; rfl); (intro K' hK'; go_simp; refine hK' _ ?_; clear hK' K'))
        refine namedLL ?_; intro w3 hw3
        have hG : Blk w3 (W2.heap.size + 1) 3 (ints (List.replicate n 0)) := by rw [hw3]; try refine Blk.drew ?_; refine Blk.alloc' ?_; exact Blk.new' _ 3 (ints (List.replicate n 0)) (by simp)
        have hE : Blk w3 (W2.heap.size + 1 + 1) 3 (ints (List.replicate n 0)) := by rw [hw3]; try refine Blk.drew ?_; exact Blk.new' _ 3 (ints (List.replicate n 0)) (by simp)
        have hB : Blk w3 (W2.heap.size) 75 zero75 := by rw [hw3]; try refine Blk.drew ?_; refine Blk.alloc' ?_; refine Blk.alloc' ?_; exact Blk.new' _ 75 zero75 (by simp)
        have hF : Frm W2.heap.size [] W2 w3 := by rw [hw3]; repeat (first | with_reducible exact Frm.refl _ _ _ | with_reducible refine Frm.drewN ?_ | with_reducible refine Frm.drew ?_ | ((with_reducible refine Frm.setCell' ?_ ?_); · first | (left; simp; done) | (right; simp; done) | (right; simp; omega)) | ((with_reducible refine Frm.alloc' ?_ ?_); · first | exact Nat.le_refl _ | (simp; done) | (simp; omega)))
        clear hw3
        obtain ⟨c2, hc2⟩ : ∃ c, c = W2.heap.size + 1 + 1 := ⟨_, rfl⟩
        obtain ⟨c1, hc1⟩ : ∃ c, c = W2.heap.size + 1 := ⟨_, rfl⟩
        obtain ⟨c0, hc0⟩ : ∃ c, c = W2.heap.size := ⟨_, rfl⟩
        simp only [← hc2] at hG hE hB ⊢
        simp only [← hc1] at hG hE hB ⊢
        simp only [← hc0] at hG hE hB ⊢
        obtain ⟨hc0', hc1', hc2'⟩ : W2.heap.size ≤ c0 ∧ c0 < c1 ∧ c1 < c2 := ⟨by omega, by omega, by omega⟩
        clear hc0 hc1 hc2
        refine LeftL.one 8 rfl (by kernel_rfl) ?_
        refine wpList_storeB (P := Try.prog) (ty := 75) (cs := worldC (W.heap.size + 1) (.slice none 0 0) (.slice none 0 0) (.slice (some ⟨c1, 0, none⟩) n n) (.slice (some ⟨c2, 0, none⟩) n n) s) rfl rfl hB rfl rfl rfl (worldC_info _ _ _ _ _ _) (by simp [worldC, Value.oneCell']) ?_
        have hL : Laid W2 (W.heap.size + 1) n s c1 c2 c0 (w3.setRow c0 (worldC (W.heap.size + 1) (.slice none 0 0) (.slice none 0 0) (.slice (some ⟨c1, 0, none⟩) n n) (.slice (some ⟨c2, 0, none⟩) n n) s).toArray) := ⟨hF.setRow (.inr (by omega)) _, by omega, by omega, by omega, by omega, by omega, by omega, hG.row_other _ (by omega), hE.row_other _ (by omega), hB.row _⟩
        generalize w3.setRow c0 (worldC (W.heap.size + 1) (.slice none 0 0) (.slice none 0 0) (.slice (some ⟨c1, 0, none⟩) n n) (.slice (some ⟨c2, 0, none⟩) n n) s).toArray = w4 at hL ⊢
        refine wpList_nil ?_
        refine ⟨fun _ => trivial, ?_⟩
        refine LeftL.done (by kernel_rfl) ?_
        go_simp
        exact HVIA.out c1 c2 c0 w4 hL
      · go_wp2_with fail
        try refine ⟨fun _ => trivial, ?_⟩
        refine LeftL.one 2 rfl (by kernel_rfl) ?_
        go_wp2_with fail
        try refine ⟨fun _ => trivial, ?_⟩
        (refine LeftL.run (v := ?_) 6 rfl (by kernel_rfl) rfl (fun _ _ d _ _ h => by cases d <;> exact h) ?_ trivial ?_; rotate_left; (· intro V _; go_simp; rfl); (intro K' hK'; go_simp; refine hK' _ ?_; clear hK' K'))
        refine namedLL ?_; intro w3 hw3
        have hG : Blk w3 (W2.heap.size + 1 + 1) 3 (ints (List.replicate n 0)) := by rw [hw3]; try refine Blk.drew ?_; exact Blk.new' _ 3 (ints (List.replicate n 0)) (by simp)
        have hE : Blk w3 (W2.heap.size + 1) 3 (ints (List.replicate n 0)) := by rw [hw3]; try refine Blk.drew ?_; refine Blk.alloc' ?_; exact Blk.new' _ 3 (ints (List.replicate n 0)) (by simp)
        have hB : Blk w3 (W2.heap.size) 75 zero75 := by rw [hw3]; try refine Blk.drew ?_; refine Blk.alloc' ?_; refine Blk.alloc' ?_; exact Blk.new' _ 75 zero75 (by simp)
        have hF : Frm W2.heap.size [] W2 w3 := by rw [hw3]; repeat (first | with_reducible exact Frm.refl _ _ _ | with_reducible refine Frm.drewN ?_ | with_reducible refine Frm.drew ?_ | ((with_reducible refine Frm.setCell' ?_ ?_); · first | (left; simp; done) | (right; simp; done) | (right; simp; omega)) | ((with_reducible refine Frm.alloc' ?_ ?_); · first | exact Nat.le_refl _ | (simp; done) | (simp; omega)))
        clear hw3
        obtain ⟨c2, hc2⟩ : ∃ c, c = W2.heap.size + 1 + 1 := ⟨_, rfl⟩
        obtain ⟨c1, hc1⟩ : ∃ c, c = W2.heap.size + 1 := ⟨_, rfl⟩
        obtain ⟨c0, hc0⟩ : ∃ c, c = W2.heap.size := ⟨_, rfl⟩
        simp only [← hc2] at hG hE hB ⊢
        simp only [← hc1] at hG hE hB ⊢
        simp only [← hc0] at hG hE hB ⊢
        obtain ⟨hc0', hc1', hc2'⟩ : W2.heap.size ≤ c0 ∧ c0 < c1 ∧ c1 < c2 := ⟨by omega, by omega, by omega⟩
        clear hc0 hc1 hc2
        refine LeftL.one 8 rfl (by kernel_rfl) ?_
        refine wpList_storeB (P := Try.prog) (ty := 75) (cs := worldC (W.heap.size + 1) (.slice none 0 0) (.slice none 0 0) (.slice (some ⟨c2, 0, none⟩) n n) (.slice (some ⟨c1, 0, none⟩) n n) s) rfl rfl hB rfl rfl rfl (worldC_info _ _ _ _ _ _) (by simp [worldC, Value.oneCell']) ?_
        have hL : Laid W2 (W.heap.size + 1) n s c2 c1 c0 (w3.setRow c0 (worldC (W.heap.size + 1) (.slice none 0 0) (.slice none 0 0) (.slice (some ⟨c2, 0, none⟩) n n) (.slice (some ⟨c1, 0, none⟩) n n) s).toArray) := ⟨hF.setRow (.inr (by omega)) _, by omega, by omega, by omega, by omega, by omega, by omega, hG.row_other _ (by omega), hE.row_other _ (by omega), hB.row _⟩
        generalize w3.setRow c0 (worldC (W.heap.size + 1) (.slice none 0 0) (.slice none 0 0) (.slice (some ⟨c2, 0, none⟩) n n) (.slice (some ⟨c1, 0, none⟩) n n) s).toArray = w4 at hL ⊢
        refine wpList_nil ?_
        refine ⟨fun _ => trivial, ?_⟩
        refine LeftL.done (by kernel_rfl) ?_
        go_simp
        exact HVIA.out c2 c1 c0 w4 hL
  · intro gG gE bx w4 hL
    obtain ⟨hF, g1, g2, g3, n1, n2, n3, hG, hE, hB⟩ := hL
    have hG0 : Grow w w4 bx (w.heap.size + 1) gG gE (W.heap.size + 1) W.heap.size (W.heap.size + 2) ⟨0, 0, 0, 0, waitN t s, 0, List.replicate (n + 1) 0⟩ n 0 t s := by
      refine ⟨[], _, none, [], ((S2.out.blocks hF [(gG, .cells (ints (List.replicate n 0)).toArray 3 (0, 0)), (gE, .cells (ints (List.replicate n 0)).toArray 3 (0, 0)), (bx, .cells (worldC (W.heap.size + 1) (.slice none 0 0) (.slice none 0 0) (.slice (some ⟨gG, 0, none⟩) n n) (.slice (some ⟨gE, 0, none⟩) n n) s).toArray 75 (0, 0))] ?_)), rfl, Sl.nil _ _ _, fun g hg => (by cases hg), fun x hx => (by cases hx)⟩
      intro x hx
      simp only [List.mem_cons, List.not_mem_nil, or_false] at hx
      rcases hx with rfl | rfl | rfl
      · exact ⟨g1, hG⟩
      · exact ⟨g2, hE⟩
      · exact ⟨g3, hB⟩
    have nz : bx ≠ w.heap.size + 1 ∧ gG ≠ w.heap.size + 1 ∧ gE ≠ w.heap.size + 1 := by have := HZ2.out.lt; omega
    have hz4 := hF.blk HZ2.out HZ2.out.lt (by simp)
    have hw4 : w.heap.size ≤ w4.heap.size := hG0.ex.choose_spec.choose_spec.choose_spec.choose_spec.1.root.size
    obtain ⟨i0, hi, hz0, hz1, hz2⟩ := info_parts3 info30s
    have HG0 := Lib.hid hG0
    have N1 := Lib.hid n1
    have N2 := Lib.hid n2
    have N3 := Lib.hid n3
    have NZ := Lib.hid nz
    have HI := Lib.hid hi
    have HI0 := Lib.hid hz0
    have HI1 := Lib.hid hz1
    have HI2 := Lib.hid hz2
    clear hz2 hz1 hz0 hi nz n3 n2 n1 hG0
    clear hF g1 g2 g3 hG hE hB hz4 hw4
    go_wp2_with fail
    have hn3 : n ≤ 3 := by have := HN.out; omega
    go_loopw [10, 11, 12] (fun i _ _ wr => ∃ j : Nat, i = .int .i64 j ∧ j ≤ n ∧ Grow w wr bx (w.heap.size + 1) gG gE (W.heap.size + 1) W.heap.size (W.heap.size + 2) ⟨0, 0, 0, 0, waitN t s, 0, List.replicate (n + 1) 0⟩ n j t s) (fun i _ _ _ => n - (intOf i).toNat)
    case atStart => exact ⟨0, rfl, Nat.zero_le _, HG0.out⟩
    case round =>
      obtain ⟨j, rfl, hj, ⟨ps, vN, ownN, KN, hs, hps, hsl, hk, hKN⟩⟩ := hrel
      have hpl : ps.length = j := by have := congrArg List.length hps; simpa using this
      by_cases hjl : j < n
      · have hjl' : (j : Int) < (n : Int) := by omega
        have e1 : IntKind.i64.wrap ((j : Int) + 1) = (j : Int) + 1 := IntWalk.i64_in _ (by omega)
        have hin : inB ((j : Int) + 1) 1 8 = true := inB_iff.2 (by omega)
        have hit : inB (t : Int) 1 100000 = true := by have := HR.out; exact (Bool.and_eq_true_iff.1 this).1
        have HS := Lib.hid hs
        have HPS := Lib.hid hps
        have HSL := Lib.hid hsl
        have HK := Lib.hid hk
        have HKN := Lib.hid hKN
        have HPL := Lib.hid hpl
        have HJL := Lib.hid hjl
        have HIN := Lib.hid hin
        have HIT := Lib.hid hit
        clear hit hin hjl hpl hKN hk hsl hps hs
        go_wp2_with fail
        refine (newNode_ok ((j : Int) + 1) t wr HIN.out HIT.out).mono ?_; rintro e wA ⟨rfl, hbn, hfn⟩
        have hA := HS.out.made hbn hfn
        have slA : Sl wA 30 1 vN j (ptrs ps) ownN := HSL.out.frm hfn HSL.out.lt (by simp)
        have hbx : Blk wA bx 75 (worldC (W.heap.size + 1) vN (.slice none 0 0) (.slice (some ⟨gG, 0, none⟩) n n) (.slice (some ⟨gE, 0, none⟩) n n) s) := hA.ext (bx, .cells (worldC (W.heap.size + 1) vN (.slice none 0 0) (.slice (some ⟨gG, 0, none⟩) n n) (.slice (some ⟨gE, 0, none⟩) n n) s).toArray 75 (0, 0)) (by simp)
        have c1 : wA.cell? ⟨bx, 1, none⟩ = some vN := hbx.cell 1
        clear hbn hfn
        have HA := Lib.hid hA
        have SLA := Lib.hid slA
        have HBX := Lib.hid hbx
        clear hbx slA hA
        go_wp2_with (at_builtin; refine hold ?_; intro qG hG)
        refine hG.1 ?_; clear hG qG
        refine namedL ?_; intro wB hwB
        have hfB : Frm wA.heap.size [] wA wB := by rw [hwB]; repeat (first | with_reducible exact Frm.refl _ _ _ | with_reducible refine Frm.drewN ?_ | with_reducible refine Frm.drew ?_ | ((with_reducible refine Frm.setCell' ?_ ?_); · first | (left; simp; done) | (right; simp; done) | (right; simp; omega)) | ((with_reducible refine Frm.alloc' ?_ ?_); · first | exact Nat.le_refl _ | (simp; done) | (simp; omega)))
        have hbB : Blk wB wA.heap.size 30 [.pointer (some ⟨wr.heap.size, 0, none⟩)] := by rw [hwB]; exact Blk.new' wA 30 [.pointer (some ⟨wr.heap.size, 0, none⟩)] rfl
        have slB := SLA.out.frm hfB SLA.out.lt (by simp)
        have slP : Sl wB 30 1 (.slice (some ⟨wA.heap.size, 0, none⟩) 1 1) 1 [.pointer (some ⟨wr.heap.size, 0, none⟩)] (some wA.heap.size) := ⟨rfl, .inr ⟨wA.heap.size, 0, 1, _, rfl, rfl, hbB, Nat.le_refl _, by decide, by simp, by simp⟩⟩
        clear hwB
        refine wpList_append_both rfl (.tmp 62) (.tmp 64) 71 rfl 30 i0 _ 1 8 Try.underlying71 HI.out HI0.out HI1.out HI2.out rfl vN j (ptrs ps) ownN rfl slB _ 1 [.pointer (some ⟨wr.heap.size, 0, none⟩)] (some wA.heap.size) rfl slP (by simp [Value.oneCell']) (by unfold maxLen; omega) (by omega) ?_
        intro v6 wC own6 hs6 hf6 ho6
        obtain ⟨ad6, cp6, rfl⟩ := hs6.form
        have hst := Grow.step (c := ⟨0, 0, 0, 0, waitN t s, 0, List.replicate (n + 1) 0⟩) (n := n) (z := w.heap.size + 1) (j := j) (t := t) (s := s) HA.out HPS.out rfl HK.out HKN.out N1.out N2.out N3.out NZ.out hfB hf6 hs6 ho6
        have hbC : Blk wC bx 75 (worldC (W.heap.size + 1) vN (.slice none 0 0) (.slice (some ⟨gG, 0, none⟩) n n) (.slice (some ⟨gE, 0, none⟩) n n) s) := by
          refine hf6.blk (hfB.blk HBX.out HBX.out.lt (by simp)) (Nat.lt_of_lt_of_le HBX.out.lt hfB.size) ?_
          intro hm
          obtain ⟨u, hu⟩ := HK.out bx (by simpa [Option.mem_toList] using hm)
          exact (HKN.out _ hu).2.2.1 rfl
        have c1 : wC.cell? ⟨bx, 1, none⟩ = some vN := hbC.cell 1
        have f1 : wC.frozen? ⟨bx, 1, none⟩ = false := hbC.free 1
        clear hbB slB slP hfB hf6 hs6 ho6 hbC
        have HST := Lib.hid hst
        clear hst
        go_wp2_with fail
        exact ⟨⟨j + 1, by simp, HJL.out, HST.out⟩, by have := HJL.out; simp [intOf]; omega⟩
      · obtain rfl : j = n := by omega
        obtain ⟨m, hm⟩ := Grow.final (wt := waitN t s) ⟨ps, vN, ownN, KN, hs, hps, hsl, hk, hKN⟩ N1.out N2.out N3.out NZ.out
        have hb : Blk wr bx 75 (m.cells (WS.start j t s (waitN t s))) := hm.sys.ext (bx, .cells (m.cells (WS.start j t s (waitN t s))).toArray 75 (0, 0)) (by simp)
        have hz : Blk wr (w.heap.size + 1) 75 zero75 := hm.sys.ext (w.heap.size + 1, .cells zero75.toArray 75 (0, 0)) (by simp)
        clear hs hps hsl hk hKN hpl
        have hn1 : 1 ≤ j := by have := HN.out; omega
        have HM := Lib.hid hm
        have HBW := Lib.hid hb
        have HZW := Lib.hid hz
        clear hz hb hm
        go_wp2_with (first | (with_reducible refine atLoad 75 rfl ?_; refine wpList_loadB (P := Try.prog) (ty := 75) (b := bx) (T := 75) (cs := m.cells (WS.start j t s (waitN t s))) rfl rfl HBW.out rfl Try.underlying75 rfl (m.cells_info _) ?_) | (with_reducible refine atStore 75 rfl ?_; refine hold ?_; intro qG hG))
        refine hG.1 ?_; clear hG qG
        refine wpList_storeB (P := Try.prog) (cs := m.cells (WS.start j t s (waitN t s))) rfl rfl HZW.out rfl rfl rfl (m.cells_info _) HM.out.cells_one ?_
        have h8 := HM.out.turnY (b := w.heap.size + 1) (u := .cells zero75.toArray 75 (0, 0)) (by simp) ((Frm.refl _ _ wr).setRow (g := w.heap.size + 1) (.inl (by simp)) (m.cells (WS.start j t s (waitN t s))).toArray) (Y' := []) (fun y hy => (by cases hy))
        have hb8 := HZW.out.row (m.cells (WS.start j t s (waitN t s)))
        generalize wr.setRow (w.heap.size + 1) (m.cells (WS.start j t s (waitN t s))).toArray = w8 at h8 hb8 ⊢
        have H8 := Lib.hid h8
        have HB8 := Lib.hid hb8
        clear hb8 h8
        go_wp2_with fail
        refine bodyPost_ret (results_ct Try.results40 HB8.out rfl Try.underlying75 rfl (m.cells_info _)) rfl ?_
        exact ⟨m, rfl, H8.out⟩
end Go.Proofs.Ythmladcepkdheaa
