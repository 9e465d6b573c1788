/-
  Events 3 and 4: a node breaks down, the centre breaks down.
-/
import Derived.Test.YthmladcepkdheaaWorld3
namespace Go.Proofs.Ythmladcepkdheaa
open Go.RowKit

set_option maxRecDepth 100000 in
set_option maxHeartbeats 8000000 in
theorem happen3 {o w : World} {Y : List (Nat × Obj)} {m : WM} {ws : WS} (h : WAt o w Y m ws) (n k : Nat) (hk : k = n % ws.ns.length) (hn : n < 256) (hpos : 1 ≤ ws.ns.length) (hlen : ws.ns.length ≤ 1000) :
    Calls Try.prog 41 #[.agg (m.cells ws).toArray, .agg #[.int .u8 3, .int .u8 n]] w (Hap o Y m (ws.put k (ws.node k).fall, true)) := by
  have hpl : m.ps.length = ws.ns.length := by rw [← h.ns]; simp
  obtain ⟨g, off, cap, hvN, hownN, hcl, hcm⟩ := h.rowN.pos (by omega)
  have hkl : k < ws.ns.length := by rw [hk]; exact Nat.mod_lt _ (by omega)
  obtain ⟨p, hp, hps⟩ := h.node hkl
  go_enter Try.func41, Try.ntmps41
  iterate 16 go_step
  refine named ?_; intro W hW
  have hb : Blk W w.heap.size 75 (m.cells ws) := by rw [hW]; repeat (first | exact Blk.new w 75 (m.cells ws) | refine Blk.alloc' ?_)
  have hx : Blk W (w.heap.size + 1) 80 [.int .u8 3, .int .u8 n] := by rw [hW]; repeat (first | exact Blk.new' _ 80 [.int .u8 3, .int .u8 n] (by simp) | refine Blk.alloc' ?_)
  have hz : Blk W (w.heap.size + 2) 75 zero75 := by rw [hW]; repeat (first | exact Blk.new' _ 75 zero75 (by simp) | refine Blk.alloc' ?_)
  have hf : Frm w.heap.size [] w W := by rw [hW]; repeat (first | with_reducible exact Frm.refl _ _ _ | with_reducible refine Frm.drewN ?_ | with_reducible refine Frm.drew ?_ | ((with_reducible refine Frm.setCell' ?_ ?_); · first | (left; simp; done) | (right; simp; done) | (right; simp; omega)) | ((with_reducible refine Frm.alloc' ?_ ?_); · first | exact Nat.le_refl _ | (simp; done) | (simp; omega)))
  clear hW
  have h1 : WAt o W ((w.heap.size, .cells (m.cells ws).toArray 75 (0, 0)) :: (w.heap.size + 2, .cells zero75.toArray 75 (0, 0)) :: (w.heap.size + 1, .cells [Value.int .u8 3, Value.int .u8 n].toArray 80 (0, 0)) :: Y) m ws := h.blocks hf [(w.heap.size, .cells (m.cells ws).toArray 75 (0, 0)), (w.heap.size + 2, .cells zero75.toArray 75 (0, 0)), (w.heap.size + 1, .cells [Value.int .u8 3, Value.int .u8 n].toArray 80 (0, 0))] (by
    intro x hx
    simp only [List.mem_cons, List.not_mem_nil, or_false] at hx
    rcases hx with rfl | rfl | rfl
    · exact ⟨Nat.le_refl _, hb⟩
    · exact ⟨by simp, hz⟩
    · exact ⟨by simp, hx⟩)
  have hY : ∀ z ∈ Y, z.1 ≠ w.heap.size ∧ z.1 ≠ w.heap.size + 2 := fun z hz => by have := h.sys.ltX z (by simp [hz]); omega
  have x0 : W.cell? ⟨w.heap.size + 1, 0, none⟩ = some (.int .u8 3) := hx.cell 0
  have x1 : W.cell? ⟨w.heap.size + 1, 1, none⟩ = some (.int .u8 n) := hx.cell 1
  have c1 : W.cell? ⟨w.heap.size, 1, none⟩ = some (.slice (some ⟨g, off, none⟩) m.ps.length cap) := by rw [← hvN]; exact hb.cell 1
  have z : W.cell? ⟨g, off + k, none⟩ = some (.pointer (some ⟨p.b, 0, none⟩)) := h1.ptrCell hvN hp
  rw [hpl] at c1
  have hk' : (n : Int) % (ws.ns.length : Int) = (k : Int) := by rw [hk]; omega
  have hkl' : (k : Int) < (ws.ns.length : Int) := by omega
  have HB := Lib.hid hb
  have HX := Lib.hid hx
  have HZ := Lib.hid hz
  have HF := Lib.hid hf
  have H1 := Lib.hid h1
  have HP := Lib.hid hp
  have HPS := Lib.hid hps
  have HPL := Lib.hid hpl
  have HVN := Lib.hid hvN
  have HWA := Lib.hid h
  have HK := Lib.hid hk
  have HK2 := Lib.hid hk'
  have HKL := Lib.hid hkl
  have HY := Lib.hid hY
  clear hY hkl hk' hk h hvN hpl hps hp h1 hf hz hx hb
  go_wp2_with fail
  rw [HK2.out]
  refine wp_region_leftL (fun V => Blk V w.heap.size 75 (m.cells ws) ∧ V.cell? ⟨g, off + k, none⟩ = some (.pointer (some ⟨p.b, 0, none⟩))) 100 (by kernel_rfl) ?_
  have hS : Blk W.drew w.heap.size 75 (m.cells ws) ∧ W.drew.cell? ⟨g, off + k, none⟩ = some (.pointer (some ⟨p.b, 0, none⟩)) := ⟨HB.out.drew, z⟩
  have HS := Lib.hid hS
  clear hS
  clear x0 x1 c1 z
  refine LeftL.take 0 rfl (by kernel_rfl) (fun _ _ d _ _ h => by cases d <;> exact h) (yields_loadB (ty := 75) rfl rfl (fun V hV => hV.1) rfl Try.underlying75 rfl (m.cells_info ws)) HS.out ?_; (intro K' hK'; go_simp; refine hK' _ ?_; clear hK' K')
  refine LeftL.run (v := ?_) 1 rfl (by kernel_rfl) rfl (fun _ _ d _ _ h => by cases d <;> exact h) ?_ HS.out ?_; rotate_left; (· intro V hV; have z := hV.2; have y0 := hV.1.cell 0; have y1 := hV.1.cell 1; have y2 := hV.1.cell 2; have y3 := hV.1.cell 3; have y4 := hV.1.cell 4; have y5 := hV.1.cell 5; simp only [WM.cells, worldC, HVN.out, HPL.out, List.getElem?_cons_succ, List.getElem?_cons_zero] at y0 y1 y2 y3 y4 y5; clear hV; go_simp; rfl); (intro K' hK'; go_simp; refine hK' _ ?_; clear hK' K')
  refine LeftL.run (v := ?_) 2 rfl (by kernel_rfl) rfl (fun _ _ d _ _ h => by cases d <;> exact h) ?_ HS.out ?_; rotate_left; (· intro V hV; have z := hV.2; have y0 := hV.1.cell 0; have y1 := hV.1.cell 1; have y2 := hV.1.cell 2; have y3 := hV.1.cell 3; have y4 := hV.1.cell 4; have y5 := hV.1.cell 5; simp only [WM.cells, worldC, HVN.out, HPL.out, List.getElem?_cons_succ, List.getElem?_cons_zero] at y0 y1 y2 y3 y4 y5; clear hV; go_simp; rfl); (intro K' hK'; go_simp; refine hK' _ ?_; clear hK' K')
  refine LeftL.run (v := ?_) 3 rfl (by kernel_rfl) rfl (fun _ _ d _ _ h => by cases d <;> exact h) ?_ HS.out ?_; rotate_left; (· intro V hV; have z := hV.2; have y0 := hV.1.cell 0; have y1 := hV.1.cell 1; have y2 := hV.1.cell 2; have y3 := hV.1.cell 3; have y4 := hV.1.cell 4; have y5 := hV.1.cell 5; simp only [WM.cells, worldC, HVN.out, HPL.out, List.getElem?_cons_succ, List.getElem?_cons_zero] at y0 y1 y2 y3 y4 y5; clear hV; go_simp; rfl); (intro K' hK'; go_simp; refine hK' _ ?_; clear hK' K')
  refine LeftL.run (v := ?_) 4 rfl (by kernel_rfl) rfl (fun _ _ d _ _ h => by cases d <;> exact h) ?_ HS.out ?_; rotate_left; (· intro V hV; have z := hV.2; have y0 := hV.1.cell 0; have y1 := hV.1.cell 1; have y2 := hV.1.cell 2; have y3 := hV.1.cell 3; have y4 := hV.1.cell 4; have y5 := hV.1.cell 5; simp only [WM.cells, worldC, HVN.out, HPL.out, List.getElem?_cons_succ, List.getElem?_cons_zero] at y0 y1 y2 y3 y4 y5; clear hV; go_simp; rfl); (intro K' hK'; go_simp; refine hK' _ ?_; clear hK' K')
  refine LeftL.run (v := ?_) 5 rfl (by kernel_rfl) rfl (fun _ _ d _ _ h => by cases d <;> exact h) ?_ HS.out ?_; rotate_left; (· intro V hV; have z := hV.2; have y0 := hV.1.cell 0; have y1 := hV.1.cell 1; have y2 := hV.1.cell 2; have y3 := hV.1.cell 3; have y4 := hV.1.cell 4; have y5 := hV.1.cell 5; simp only [WM.cells, worldC, HVN.out, HPL.out, List.getElem?_cons_succ, List.getElem?_cons_zero] at y0 y1 y2 y3 y4 y5; clear hV; go_simp; rfl); (intro K' hK'; go_simp; refine hK' _ ?_; clear hK' K')
  refine LeftL.one 6 rfl (by kernel_rfl) ?_
  go_wp2_with fail
  refine (sysBreakN (H1.out.quiet (Frm.refl _ _ W).drew).sys HP.out).mono ?_; rintro e w2 ⟨rfl, own', h2⟩
  have h3 := (H1.out.quiet (Frm.refl _ _ W).drew).nodeNext HP.out h2
  clear h2
  rw [HPS.out] at h3
  have hS2 : Blk w2 w.heap.size 75 (m.cells ws) ∧ w2.cell? ⟨g, off + k, none⟩ = some (.pointer (some ⟨p.b, 0, none⟩)) := ⟨h3.sys.ext (w.heap.size, .cells (m.cells ws).toArray 75 (0, 0)) (by simp), h3.ptrCell (p := ⟨p.b, own', (ws.node k).fall⟩) HVN.out (get_set_eq HP.out)⟩
  have H3 := Lib.hid h3
  clear h3
  clear HS
  have HS := Lib.hid hS2
  clear hS2
  go_wp2_with fail
  refine ⟨fun _ => HS.out, ?_⟩
  refine LeftL.run (v := ?_) 7 rfl (by kernel_rfl) rfl (fun _ _ d _ _ h => by cases d <;> exact h) ?_ HS.out ?_; rotate_left; (· intro V hV; have z := hV.2; have y0 := hV.1.cell 0; have y1 := hV.1.cell 1; have y2 := hV.1.cell 2; have y3 := hV.1.cell 3; have y4 := hV.1.cell 4; have y5 := hV.1.cell 5; simp only [WM.cells, worldC, HVN.out, HPL.out, List.getElem?_cons_succ, List.getElem?_cons_zero] at y0 y1 y2 y3 y4 y5; clear hV; go_simp; rfl); (intro K' hK'; go_simp; refine hK' _ ?_; clear hK' K')
  refine LeftL.one 8 rfl (by kernel_rfl) ?_
  have hz2 : Blk w2 (w.heap.size + 2) 75 zero75 := H3.out.sys.ext (w.heap.size + 2, .cells zero75.toArray 75 (0, 0)) (by simp)
  refine wpList_storeB (P := Try.prog) (cs := m.cells ws) rfl rfl hz2 rfl rfl rfl (m.cells_info ws) H1.out.cells_one ?_
  have h4 := H3.out.result (fun z hz => (HY.out z hz).2) (m.cells ws).toArray
  have hb4 := hz2.row (m.cells ws)
  have hS4 := And.intro (HS.out.1.row_other (g := w.heap.size + 2) (m.cells ws).toArray (by omega)) (h4.ptrCell (p := ⟨p.b, own', (ws.node k).fall⟩) HVN.out (get_set_eq HP.out))
  generalize w2.setRow (w.heap.size + 2) (m.cells ws).toArray = W4 at h4 hb4 hS4 ⊢
  clear HS hz2
  have HS := Lib.hid hS4
  have HB4 := Lib.hid hb4
  have H4 := Lib.hid h4
  clear hS4 hb4 h4
  refine wpList_nil ?_
  refine ⟨fun _ => HS.out, ?_⟩
  refine LeftL.one 9 rfl (by kernel_rfl) ?_
  go_wp2_with fail
  first | refine ⟨fun _ => HS.out, ?_⟩ | refine ⟨HS.out, ?_⟩
  refine LeftL.done (by kernel_rfl) ?_
  go_wp2_with fail
  refine bodyPost_ret (results_ct Try.results41 HB4.out rfl Try.underlying75 rfl (m.cells_info ws)) rfl ?_
  exact ⟨{ m with ps := m.ps.set k ⟨p.b, own', (ws.node k).fall⟩ }, rfl, ptrs_set (p' := ⟨p.b, own', (ws.node k).fall⟩) HP.out rfl, H4.out⟩

set_option maxRecDepth 100000 in
set_option maxHeartbeats 8000000 in
theorem happen4 {o w : World} {Y : List (Nat × Obj)} {m : WM} {ws : WS} (h : WAt o w Y m ws) (n k : Nat) (hk : k = n % ws.ns.length) (hn : n < 256) (hpos : 1 ≤ ws.ns.length) (hlen : ws.ns.length ≤ 1000) :
    Calls Try.prog 41 #[.agg (m.cells ws).toArray, .agg #[.int .u8 4, .int .u8 n]] w (Hap o Y m ({ ws with c := ws.c.brk }, true)) := by
  have hpl : m.ps.length = ws.ns.length := by rw [← h.ns]; simp
  obtain ⟨g, off, cap, hvN, hownN, hcl, hcm⟩ := h.rowN.pos (by omega)
  have hkl : k < ws.ns.length := by rw [hk]; exact Nat.mod_lt _ (by omega)
  obtain ⟨p, hp, hps⟩ := h.node hkl
  go_enter Try.func41, Try.ntmps41
  iterate 16 go_step
  refine named ?_; intro W hW
  have hb : Blk W w.heap.size 75 (m.cells ws) := by rw [hW]; repeat (first | exact Blk.new w 75 (m.cells ws) | refine Blk.alloc' ?_)
  have hx : Blk W (w.heap.size + 1) 80 [.int .u8 4, .int .u8 n] := by rw [hW]; repeat (first | exact Blk.new' _ 80 [.int .u8 4, .int .u8 n] (by simp) | refine Blk.alloc' ?_)
  have hz : Blk W (w.heap.size + 2) 75 zero75 := by rw [hW]; repeat (first | exact Blk.new' _ 75 zero75 (by simp) | refine Blk.alloc' ?_)
  have hf : Frm w.heap.size [] w W := by rw [hW]; repeat (first | with_reducible exact Frm.refl _ _ _ | with_reducible refine Frm.drewN ?_ | with_reducible refine Frm.drew ?_ | ((with_reducible refine Frm.setCell' ?_ ?_); · first | (left; simp; done) | (right; simp; done) | (right; simp; omega)) | ((with_reducible refine Frm.alloc' ?_ ?_); · first | exact Nat.le_refl _ | (simp; done) | (simp; omega)))
  clear hW
  have h1 : WAt o W ((w.heap.size, .cells (m.cells ws).toArray 75 (0, 0)) :: (w.heap.size + 2, .cells zero75.toArray 75 (0, 0)) :: (w.heap.size + 1, .cells [Value.int .u8 4, Value.int .u8 n].toArray 80 (0, 0)) :: Y) m ws := h.blocks hf [(w.heap.size, .cells (m.cells ws).toArray 75 (0, 0)), (w.heap.size + 2, .cells zero75.toArray 75 (0, 0)), (w.heap.size + 1, .cells [Value.int .u8 4, Value.int .u8 n].toArray 80 (0, 0))] (by
    intro x hx
    simp only [List.mem_cons, List.not_mem_nil, or_false] at hx
    rcases hx with rfl | rfl | rfl
    · exact ⟨Nat.le_refl _, hb⟩
    · exact ⟨by simp, hz⟩
    · exact ⟨by simp, hx⟩)
  have hY : ∀ z ∈ Y, z.1 ≠ w.heap.size ∧ z.1 ≠ w.heap.size + 2 := fun z hz => by have := h.sys.ltX z (by simp [hz]); omega
  have x0 : W.cell? ⟨w.heap.size + 1, 0, none⟩ = some (.int .u8 4) := hx.cell 0
  have x1 : W.cell? ⟨w.heap.size + 1, 1, none⟩ = some (.int .u8 n) := hx.cell 1
  have c1 : W.cell? ⟨w.heap.size, 1, none⟩ = some (.slice (some ⟨g, off, none⟩) m.ps.length cap) := by rw [← hvN]; exact hb.cell 1
  have z : W.cell? ⟨g, off + k, none⟩ = some (.pointer (some ⟨p.b, 0, none⟩)) := h1.ptrCell hvN hp
  rw [hpl] at c1
  have hk' : (n : Int) % (ws.ns.length : Int) = (k : Int) := by rw [hk]; omega
  have hkl' : (k : Int) < (ws.ns.length : Int) := by omega
  have HB := Lib.hid hb
  have HX := Lib.hid hx
  have HZ := Lib.hid hz
  have HF := Lib.hid hf
  have H1 := Lib.hid h1
  have HP := Lib.hid hp
  have HPS := Lib.hid hps
  have HPL := Lib.hid hpl
  have HVN := Lib.hid hvN
  have HWA := Lib.hid h
  have HK := Lib.hid hk
  have HK2 := Lib.hid hk'
  have HKL := Lib.hid hkl
  have HY := Lib.hid hY
  clear hY hkl hk' hk h hvN hpl hps hp h1 hf hz hx hb
  go_wp2_with fail
  rw [HK2.out]
  refine wp_region_leftL (fun V => Blk V w.heap.size 75 (m.cells ws) ∧ True) 100 (by kernel_rfl) ?_
  have hS : Blk W.drew w.heap.size 75 (m.cells ws) ∧ True := ⟨HB.out.drew, trivial⟩
  have HS := Lib.hid hS
  clear hS
  clear x0 x1 c1 z
  refine LeftL.take 0 rfl (by kernel_rfl) (fun _ _ d _ _ h => by cases d <;> exact h) (yields_loadB (ty := 75) rfl rfl (fun V hV => hV.1) rfl Try.underlying75 rfl (m.cells_info ws)) HS.out ?_; (intro K' hK'; go_simp; refine hK' _ ?_; clear hK' K')
  refine LeftL.run (v := ?_) 1 rfl (by kernel_rfl) rfl (fun _ _ d _ _ h => by cases d <;> exact h) ?_ HS.out ?_; rotate_left; (· intro V hV; have z := hV.2; have y0 := hV.1.cell 0; have y1 := hV.1.cell 1; have y2 := hV.1.cell 2; have y3 := hV.1.cell 3; have y4 := hV.1.cell 4; have y5 := hV.1.cell 5; simp only [WM.cells, worldC, HVN.out, HPL.out, List.getElem?_cons_succ, List.getElem?_cons_zero] at y0 y1 y2 y3 y4 y5; clear hV; go_simp; rfl); (intro K' hK'; go_simp; refine hK' _ ?_; clear hK' K')
  refine LeftL.run (v := ?_) 2 rfl (by kernel_rfl) rfl (fun _ _ d _ _ h => by cases d <;> exact h) ?_ HS.out ?_; rotate_left; (· intro V hV; have z := hV.2; have y0 := hV.1.cell 0; have y1 := hV.1.cell 1; have y2 := hV.1.cell 2; have y3 := hV.1.cell 3; have y4 := hV.1.cell 4; have y5 := hV.1.cell 5; simp only [WM.cells, worldC, HVN.out, HPL.out, List.getElem?_cons_succ, List.getElem?_cons_zero] at y0 y1 y2 y3 y4 y5; clear hV; go_simp; rfl); (intro K' hK'; go_simp; refine hK' _ ?_; clear hK' K')
  refine LeftL.one 3 rfl (by kernel_rfl) ?_
  go_wp2_with fail
  refine (sysBreakC (H1.out.quiet (Frm.refl _ _ W).drew).sys).mono ?_; rintro e w2 ⟨rfl, h2⟩
  have h3 := (H1.out.quiet (Frm.refl _ _ W).drew).centreNext h2
  clear h2
  have hS2 : Blk w2 w.heap.size 75 (m.cells ws) ∧ True := ⟨h3.sys.ext (w.heap.size, .cells (m.cells ws).toArray 75 (0, 0)) (by simp), trivial⟩
  have H3 := Lib.hid h3
  clear h3
  clear HS
  have HS := Lib.hid hS2
  clear hS2
  go_wp2_with fail
  refine ⟨fun _ => HS.out, ?_⟩
  refine LeftL.run (v := ?_) 4 rfl (by kernel_rfl) rfl (fun _ _ d _ _ h => by cases d <;> exact h) ?_ HS.out ?_; rotate_left; (· intro V hV; have z := hV.2; have y0 := hV.1.cell 0; have y1 := hV.1.cell 1; have y2 := hV.1.cell 2; have y3 := hV.1.cell 3; have y4 := hV.1.cell 4; have y5 := hV.1.cell 5; simp only [WM.cells, worldC, HVN.out, HPL.out, List.getElem?_cons_succ, List.getElem?_cons_zero] at y0 y1 y2 y3 y4 y5; clear hV; go_simp; rfl); (intro K' hK'; go_simp; refine hK' _ ?_; clear hK' K')
  refine LeftL.one 5 rfl (by kernel_rfl) ?_
  have hz2 : Blk w2 (w.heap.size + 2) 75 zero75 := H3.out.sys.ext (w.heap.size + 2, .cells zero75.toArray 75 (0, 0)) (by simp)
  refine wpList_storeB (P := Try.prog) (cs := m.cells ws) rfl rfl hz2 rfl rfl rfl (m.cells_info ws) H1.out.cells_one ?_
  have h4 := H3.out.result (fun z hz => (HY.out z hz).2) (m.cells ws).toArray
  have hb4 := hz2.row (m.cells ws)
  have hS4 := And.intro (HS.out.1.row_other (g := w.heap.size + 2) (m.cells ws).toArray (by omega)) (trivial)
  generalize w2.setRow (w.heap.size + 2) (m.cells ws).toArray = W4 at h4 hb4 hS4 ⊢
  clear HS hz2
  have HS := Lib.hid hS4
  have HB4 := Lib.hid hb4
  have H4 := Lib.hid h4
  clear hS4 hb4 h4
  refine wpList_nil ?_
  refine ⟨fun _ => HS.out, ?_⟩
  refine LeftL.one 6 rfl (by kernel_rfl) ?_
  go_wp2_with fail
  first | refine ⟨fun _ => HS.out, ?_⟩ | refine ⟨HS.out, ?_⟩
  refine LeftL.done (by kernel_rfl) ?_
  go_wp2_with fail
  refine bodyPost_ret (results_ct Try.results41 HB4.out rfl Try.underlying75 rfl (m.cells_info ws)) rfl ?_
  exact ⟨m, rfl, rfl, H4.out⟩

set_option maxRecDepth 100000 in
set_option maxHeartbeats 8000000 in
theorem happen5 {o w : World} {Y : List (Nat × Obj)} {m : WM} {ws : WS} (h : WAt o w Y m ws) (n k : Nat) (hk : k = n % ws.ns.length) (hn : n < 256) (hpos : 1 ≤ ws.ns.length) (hlen : ws.ns.length ≤ 1000) (hg : ws.c.g.length = ws.ns.length + 1) :
    Calls Try.prog 41 #[.agg (m.cells ws).toArray, .agg #[.int .u8 5, .int .u8 n]] w (Hap o Y m ({ ws with c := { ws.c with wanted := ((n % (ws.ns.length + 1) : Nat) : Int) } }, true)) := by
  have hpl : m.ps.length = ws.ns.length := by rw [← h.ns]; simp
  obtain ⟨g, off, cap, hvN, hownN, hcl, hcm⟩ := h.rowN.pos (by omega)
  have hkl : k < ws.ns.length := by rw [hk]; exact Nat.mod_lt _ (by omega)
  obtain ⟨p, hp, hps⟩ := h.node hkl
  go_enter Try.func41, Try.ntmps41
  iterate 16 go_step
  refine named ?_; intro W hW
  have hb : Blk W w.heap.size 75 (m.cells ws) := by rw [hW]; repeat (first | exact Blk.new w 75 (m.cells ws) | refine Blk.alloc' ?_)
  have hx : Blk W (w.heap.size + 1) 80 [.int .u8 5, .int .u8 n] := by rw [hW]; repeat (first | exact Blk.new' _ 80 [.int .u8 5, .int .u8 n] (by simp) | refine Blk.alloc' ?_)
  have hz : Blk W (w.heap.size + 2) 75 zero75 := by rw [hW]; repeat (first | exact Blk.new' _ 75 zero75 (by simp) | refine Blk.alloc' ?_)
  have hf : Frm w.heap.size [] w W := by rw [hW]; repeat (first | with_reducible exact Frm.refl _ _ _ | with_reducible refine Frm.drewN ?_ | with_reducible refine Frm.drew ?_ | ((with_reducible refine Frm.setCell' ?_ ?_); · first | (left; simp; done) | (right; simp; done) | (right; simp; omega)) | ((with_reducible refine Frm.alloc' ?_ ?_); · first | exact Nat.le_refl _ | (simp; done) | (simp; omega)))
  clear hW
  have h1 : WAt o W ((w.heap.size, .cells (m.cells ws).toArray 75 (0, 0)) :: (w.heap.size + 2, .cells zero75.toArray 75 (0, 0)) :: (w.heap.size + 1, .cells [Value.int .u8 5, Value.int .u8 n].toArray 80 (0, 0)) :: Y) m ws := h.blocks hf [(w.heap.size, .cells (m.cells ws).toArray 75 (0, 0)), (w.heap.size + 2, .cells zero75.toArray 75 (0, 0)), (w.heap.size + 1, .cells [Value.int .u8 5, Value.int .u8 n].toArray 80 (0, 0))] (by
    intro x hx
    simp only [List.mem_cons, List.not_mem_nil, or_false] at hx
    rcases hx with rfl | rfl | rfl
    · exact ⟨Nat.le_refl _, hb⟩
    · exact ⟨by simp, hz⟩
    · exact ⟨by simp, hx⟩)
  have hY : ∀ z ∈ Y, z.1 ≠ w.heap.size ∧ z.1 ≠ w.heap.size + 2 := fun z hz => by have := h.sys.ltX z (by simp [hz]); omega
  have x0 : W.cell? ⟨w.heap.size + 1, 0, none⟩ = some (.int .u8 5) := hx.cell 0
  have x1 : W.cell? ⟨w.heap.size + 1, 1, none⟩ = some (.int .u8 n) := hx.cell 1
  have c1 : W.cell? ⟨w.heap.size, 1, none⟩ = some (.slice (some ⟨g, off, none⟩) m.ps.length cap) := by rw [← hvN]; exact hb.cell 1
  have z : W.cell? ⟨g, off + k, none⟩ = some (.pointer (some ⟨p.b, 0, none⟩)) := h1.ptrCell hvN hp
  rw [hpl] at c1
  have hk' : (n : Int) % (ws.ns.length : Int) = (k : Int) := by rw [hk]; omega
  have hkl' : (k : Int) < (ws.ns.length : Int) := by omega
  have HB := Lib.hid hb
  have HX := Lib.hid hx
  have HZ := Lib.hid hz
  have HF := Lib.hid hf
  have H1 := Lib.hid h1
  have HP := Lib.hid hp
  have HPS := Lib.hid hps
  have HPL := Lib.hid hpl
  have HVN := Lib.hid hvN
  have HWA := Lib.hid h
  have HK := Lib.hid hk
  have HK2 := Lib.hid hk'
  have HKL := Lib.hid hkl
  have HY := Lib.hid hY
  clear hY hkl hk' hk h hvN hpl hps hp h1 hf hz hx hb
  go_wp2_with fail
  rw [HK2.out]
  refine wp_region_leftL (fun V => Blk V w.heap.size 75 (m.cells ws) ∧ V.cell? ⟨w.heap.size + 1, 1, none⟩ = some (.int .u8 n)) 100 (by kernel_rfl) ?_
  have hS : Blk W.drew w.heap.size 75 (m.cells ws) ∧ W.drew.cell? ⟨w.heap.size + 1, 1, none⟩ = some (.int .u8 n) := ⟨HB.out.drew, x1⟩
  have HS := Lib.hid hS
  clear hS
  obtain ⟨j, hj⟩ : ∃ j : Nat, j = n % (ws.ns.length + 1) := ⟨_, rfl⟩
  have hj2 : (n : Int) % ((ws.ns.length : Int) + 1) = (j : Int) := by rw [hj]; simp [Int.natCast_emod]
  have hjl : j < ws.ns.length + 1 := by rw [hj]; exact Nat.mod_lt _ (by omega)
  rw [← hj]
  have e1 : IntKind.i64.wrap ((ws.ns.length : Int) + 1) = (ws.ns.length : Int) + 1 := IntWalk.i64_in _ (by omega)
  have e2 : IntKind.i64.wrap (n : Int) = (n : Int) := IntWalk.i64_in _ (by omega)
  have e3 : (n : Int).tmod ((ws.ns.length : Int) + 1) = (j : Int) := by rw [← hj2]; exact Int.tmod_eq_emod_of_nonneg (by omega)
  have e4 : ¬ (ws.ns.length : Int) + 1 = 0 := by omega
  have e5 : IntKind.i64.wrap (j : Int) = (j : Int) := IntWalk.i64_in _ (by omega)
  have HJ := Lib.hid hj
  have HJ2 := Lib.hid hj2
  have E1 := Lib.hid e1
  have E2 := Lib.hid e2
  have E3 := Lib.hid e3
  have E4 := Lib.hid e4
  have E5 := Lib.hid e5
  clear e5 e4 e3 e2 e1 hj2 hj
  clear x0 x1 c1 z
  refine LeftL.take 0 rfl (by kernel_rfl) (fun _ _ d _ _ h => by cases d <;> exact h) (yields_loadB (ty := 75) rfl rfl (fun V hV => hV.1) rfl Try.underlying75 rfl (m.cells_info ws)) HS.out ?_; (intro K' hK'; go_simp; refine hK' _ ?_; clear hK' K')
  refine LeftL.run (v := ?_) 1 rfl (by kernel_rfl) rfl (fun _ _ d _ _ h => by cases d <;> exact h) ?_ HS.out ?_; rotate_left; (· intro V hV; have z := hV.2; have y0 := hV.1.cell 0; have y1 := hV.1.cell 1; have y2 := hV.1.cell 2; have y3 := hV.1.cell 3; have y4 := hV.1.cell 4; have y5 := hV.1.cell 5; simp only [WM.cells, worldC, HVN.out, HPL.out, List.getElem?_cons_succ, List.getElem?_cons_zero] at y0 y1 y2 y3 y4 y5; clear hV; go_simp; rfl); (intro K' hK'; go_simp; refine hK' _ ?_; clear hK' K')
  refine LeftL.run (v := ?_) 2 rfl (by kernel_rfl) rfl (fun _ _ d _ _ h => by cases d <;> exact h) ?_ HS.out ?_; rotate_left; (· intro V hV; have z := hV.2; have y0 := hV.1.cell 0; have y1 := hV.1.cell 1; have y2 := hV.1.cell 2; have y3 := hV.1.cell 3; have y4 := hV.1.cell 4; have y5 := hV.1.cell 5; simp only [WM.cells, worldC, HVN.out, HPL.out, List.getElem?_cons_succ, List.getElem?_cons_zero] at y0 y1 y2 y3 y4 y5; clear hV; go_simp; rfl); (intro K' hK'; go_simp; refine hK' _ ?_; clear hK' K')
  refine LeftL.run (v := ?_) 3 rfl (by kernel_rfl) rfl (fun _ _ d _ _ h => by cases d <;> exact h) ?_ HS.out ?_; rotate_left; (· intro V hV; have z := hV.2; have y0 := hV.1.cell 0; have y1 := hV.1.cell 1; have y2 := hV.1.cell 2; have y3 := hV.1.cell 3; have y4 := hV.1.cell 4; have y5 := hV.1.cell 5; simp only [WM.cells, worldC, HVN.out, HPL.out, List.getElem?_cons_succ, List.getElem?_cons_zero] at y0 y1 y2 y3 y4 y5; clear hV; go_simp; rfl); (intro K' hK'; go_simp; refine hK' _ ?_; clear hK' K')
  refine LeftL.run (v := ?_) 4 rfl (by kernel_rfl) rfl (fun _ _ d _ _ h => by cases d <;> exact h) ?_ HS.out ?_; rotate_left; (· intro V hV; have z := hV.2; have y0 := hV.1.cell 0; have y1 := hV.1.cell 1; have y2 := hV.1.cell 2; have y3 := hV.1.cell 3; have y4 := hV.1.cell 4; have y5 := hV.1.cell 5; simp only [WM.cells, worldC, HVN.out, HPL.out, List.getElem?_cons_succ, List.getElem?_cons_zero] at y0 y1 y2 y3 y4 y5; clear hV; go_simp; rfl); (intro K' hK'; go_simp; refine hK' _ ?_; clear hK' K')
  refine LeftL.run (v := ?_) 5 rfl (by kernel_rfl) rfl (fun _ _ d _ _ h => by cases d <;> exact h) ?_ HS.out ?_; rotate_left; (· intro V hV; have z := hV.2; have y0 := hV.1.cell 0; have y1 := hV.1.cell 1; have y2 := hV.1.cell 2; have y3 := hV.1.cell 3; have y4 := hV.1.cell 4; have y5 := hV.1.cell 5; simp only [WM.cells, worldC, HVN.out, HPL.out, List.getElem?_cons_succ, List.getElem?_cons_zero] at y0 y1 y2 y3 y4 y5; clear hV; go_simp; rfl); (intro K' hK'; go_simp; refine hK' _ ?_; clear hK' K')
  refine LeftL.run (v := ?_) 6 rfl (by kernel_rfl) rfl (fun _ _ d _ _ h => by cases d <;> exact h) ?_ HS.out ?_; rotate_left; (· intro V hV; have z := hV.2; have y0 := hV.1.cell 0; have y1 := hV.1.cell 1; have y2 := hV.1.cell 2; have y3 := hV.1.cell 3; have y4 := hV.1.cell 4; have y5 := hV.1.cell 5; simp only [WM.cells, worldC, HVN.out, HPL.out, List.getElem?_cons_succ, List.getElem?_cons_zero] at y0 y1 y2 y3 y4 y5; clear hV; go_simp; rfl); (intro K' hK'; go_simp; refine hK' _ ?_; clear hK' K')
  refine LeftL.run (v := ?_) 7 rfl (by kernel_rfl) rfl (fun _ _ d _ _ h => by cases d <;> exact h) ?_ HS.out ?_; rotate_left; (· intro V hV; have z := hV.2; have y0 := hV.1.cell 0; have y1 := hV.1.cell 1; have y2 := hV.1.cell 2; have y3 := hV.1.cell 3; have y4 := hV.1.cell 4; have y5 := hV.1.cell 5; simp only [WM.cells, worldC, HVN.out, HPL.out, List.getElem?_cons_succ, List.getElem?_cons_zero] at y0 y1 y2 y3 y4 y5; clear hV; go_simp; rfl); (intro K' hK'; go_simp; refine hK' _ ?_; clear hK' K')
  refine LeftL.run (v := ?_) 8 rfl (by kernel_rfl) rfl (fun _ _ d _ _ h => by cases d <;> exact h) ?_ HS.out ?_; rotate_left; (· intro V hV; have z := hV.2; have y0 := hV.1.cell 0; have y1 := hV.1.cell 1; have y2 := hV.1.cell 2; have y3 := hV.1.cell 3; have y4 := hV.1.cell 4; have y5 := hV.1.cell 5; simp only [WM.cells, worldC, HVN.out, HPL.out, List.getElem?_cons_succ, List.getElem?_cons_zero] at y0 y1 y2 y3 y4 y5; clear hV; go_simp; rfl); (intro K' hK'; go_simp; refine hK' _ ?_; clear hK' K')
  have e1 := E1.out
  refine LeftL.run (v := ?_) 9 rfl (by kernel_rfl) rfl (fun _ _ d _ _ h => by cases d <;> exact h) ?_ HS.out ?_; rotate_left; (· intro V hV; have z := hV.2; have y0 := hV.1.cell 0; have y1 := hV.1.cell 1; have y2 := hV.1.cell 2; have y3 := hV.1.cell 3; have y4 := hV.1.cell 4; have y5 := hV.1.cell 5; simp only [WM.cells, worldC, HVN.out, HPL.out, List.getElem?_cons_succ, List.getElem?_cons_zero] at y0 y1 y2 y3 y4 y5; clear hV; go_simp; rfl); (intro K' hK'; go_simp; refine hK' _ ?_; clear hK' K')
  clear e1
  have e2 := E2.out
  have e3 := E3.out
  have e4 := E4.out
  have e5 := E5.out
  have e1 := E1.out
  refine LeftL.run (v := ?_) 10 rfl (by kernel_rfl) rfl (fun _ _ d _ _ h => by cases d <;> exact h) ?_ HS.out ?_; rotate_left; (· intro V hV; have z := hV.2; have y0 := hV.1.cell 0; have y1 := hV.1.cell 1; have y2 := hV.1.cell 2; have y3 := hV.1.cell 3; have y4 := hV.1.cell 4; have y5 := hV.1.cell 5; simp only [WM.cells, worldC, HVN.out, HPL.out, List.getElem?_cons_succ, List.getElem?_cons_zero] at y0 y1 y2 y3 y4 y5; clear hV; go_simp; rfl); (intro K' hK'; go_simp; refine hK' _ ?_; clear hK' K')
  clear e1 e2 e3 e4 e5
  refine LeftL.one 11 rfl (by kernel_rfl) ?_
  go_wp2_with fail
  refine (sysWant (H1.out.quiet (Frm.refl _ _ W).drew).sys (j : Int) (by omega) (inB_iff.2 ⟨by omega, by omega⟩)).mono ?_; rintro e w2 ⟨rfl, h2⟩
  have h3 := (H1.out.quiet (Frm.refl _ _ W).drew).centreNext h2
  clear h2
  have hS2 : Blk w2 w.heap.size 75 (m.cells ws) ∧ w2.cell? ⟨w.heap.size + 1, 1, none⟩ = some (.int .u8 n) := ⟨h3.sys.ext (w.heap.size, .cells (m.cells ws).toArray 75 (0, 0)) (by simp), Blk.cell (b := w.heap.size + 1) (T := 80) (h3.sys.ext (w.heap.size + 1, .cells [Value.int .u8 5, Value.int .u8 n].toArray 80 (0, 0)) (by simp)) 1⟩
  have hx2 : Blk w2 (w.heap.size + 1) 80 [.int .u8 5, .int .u8 n] := h3.sys.ext (w.heap.size + 1, .cells [Value.int .u8 5, Value.int .u8 n].toArray 80 (0, 0)) (by simp)
  have H3 := Lib.hid h3
  have HX2 := Lib.hid hx2
  clear hx2 h3
  clear HS
  have HS := Lib.hid hS2
  clear hS2
  go_wp2_with fail
  refine ⟨fun _ => HS.out, ?_⟩
  refine LeftL.run (v := ?_) 12 rfl (by kernel_rfl) rfl (fun _ _ d _ _ h => by cases d <;> exact h) ?_ HS.out ?_; rotate_left; (· intro V hV; have z := hV.2; have y0 := hV.1.cell 0; have y1 := hV.1.cell 1; have y2 := hV.1.cell 2; have y3 := hV.1.cell 3; have y4 := hV.1.cell 4; have y5 := hV.1.cell 5; simp only [WM.cells, worldC, HVN.out, HPL.out, List.getElem?_cons_succ, List.getElem?_cons_zero] at y0 y1 y2 y3 y4 y5; clear hV; go_simp; rfl); (intro K' hK'; go_simp; refine hK' _ ?_; clear hK' K')
  refine LeftL.one 13 rfl (by kernel_rfl) ?_
  have hz2 : Blk w2 (w.heap.size + 2) 75 zero75 := H3.out.sys.ext (w.heap.size + 2, .cells zero75.toArray 75 (0, 0)) (by simp)
  refine wpList_storeB (P := Try.prog) (cs := m.cells ws) rfl rfl hz2 rfl rfl rfl (m.cells_info ws) H1.out.cells_one ?_
  have h4 := H3.out.result (fun z hz => (HY.out z hz).2) (m.cells ws).toArray
  have hb4 := hz2.row (m.cells ws)
  have hS4 := And.intro (HS.out.1.row_other (g := w.heap.size + 2) (m.cells ws).toArray (by omega)) ((HX2.out.row_other (g := w.heap.size + 2) (m.cells ws).toArray (by omega)).cell 1)
  generalize w2.setRow (w.heap.size + 2) (m.cells ws).toArray = W4 at h4 hb4 hS4 ⊢
  clear HS hz2
  have HS := Lib.hid hS4
  have HB4 := Lib.hid hb4
  have H4 := Lib.hid h4
  clear hS4 hb4 h4
  refine wpList_nil ?_
  refine ⟨fun _ => HS.out, ?_⟩
  refine LeftL.one 14 rfl (by kernel_rfl) ?_
  go_wp2_with fail
  first | refine ⟨fun _ => HS.out, ?_⟩ | refine ⟨HS.out, ?_⟩
  refine LeftL.done (by kernel_rfl) ?_
  go_wp2_with fail
  refine bodyPost_ret (results_ct Try.results41 HB4.out rfl Try.underlying75 rfl (m.cells_info ws)) rfl ?_
  exact ⟨m, rfl, rfl, HJ.out ▸ H4.out⟩
end Go.Proofs.Ythmladcepkdheaa
