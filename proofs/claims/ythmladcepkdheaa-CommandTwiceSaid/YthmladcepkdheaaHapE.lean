/-
  All other events: the clock of a node ticks.
-/
import Derived.Test.YthmladcepkdheaaWorld3
namespace Go.Proofs.Ythmladcepkdheaa
open Go.RowKit

set_option maxRecDepth 100000 in
set_option maxHeartbeats 8000000 in
theorem happenE {o w : World} {Y : List (Nat × Obj)} {m : WM} {ws : WS} {N : Nat} (h : WAt o w Y m ws) (x n k : Nat) (hk : k = n % ws.ns.length) (hn : n < 256) (hpos : 1 ≤ ws.ns.length) (hlen : ws.ns.length ≤ 1000)
    (bG : ∀ (i : Nat) (g : Int), ws.gap[i]? = some g → -10000000 ≤ g ∧ g ≤ 10000000) (bE : ∀ (i : Nat) (g : Int), ws.edge[i]? = some g → -10000000 ≤ g ∧ g ≤ 10000000) (s0 : 0 ≤ ws.slow) (s1 : ws.slow ≤ 1000)
    (hfit : ∀ (i : Nat) (s : NS), ws.ns[i]? = some s → s.Fits N) (hN : N ≤ 100000)
    (q1 : ¬ (x : Int) = 1) (q2 : ¬ (x : Int) = 2) (q3 : ¬ (x : Int) = 3) (q4 : ¬ (x : Int) = 4) (q5 : ¬ (x : Int) = 5) (q6 : ¬ (x : Int) = 6) (q7 : ¬ (x : Int) = 7)
    (res : WS) (hres : res = { ws with ns := ws.ns.set k (ws.node k).tick, gap := ws.gap.set k (ws.gap.getD k 0 - 1000 - ws.slow), edge := ws.edge.set k (min (ws.edge.getD k 0) (ws.gap.getD k 0 - 1000 - ws.slow)) }) :
    Calls Try.prog 41 #[.agg (m.cells ws).toArray, .agg #[.int .u8 x, .int .u8 n]] w (Hap o Y m (res, true)) := by
  have hgl := h.lenN
  have hel := h.lenE
  have HRES := Lib.hid hres
  have BG := Lib.hid bG
  have BE := Lib.hid bE
  have HGL := Lib.hid hgl
  have HEL := Lib.hid hel
  clear hel hgl bE bG hres
  have hpl : m.ps.length = ws.ns.length := by rw [← h.ns]; simp
  obtain ⟨g, off, cap, hvN, hownN, hcl, hcm⟩ := h.rowN.pos (by omega)
  have hkl : k < ws.ns.length := by rw [hk]; exact Nat.mod_lt _ (by omega)
  obtain ⟨p, hp, hps⟩ := h.node hkl
  go_enter Try.func41, Try.ntmps41
  iterate 16 go_step
  refine named ?_; intro W hW
  have hb : Blk W w.heap.size 75 (m.cells ws) := by rw [hW]; repeat (first | exact Blk.new w 75 (m.cells ws) | refine Blk.alloc' ?_)
  have hx : Blk W (w.heap.size + 1) 80 [.int .u8 x, .int .u8 n] := by rw [hW]; repeat (first | exact Blk.new' _ 80 [.int .u8 x, .int .u8 n] (by simp) | refine Blk.alloc' ?_)
  have hz : Blk W (w.heap.size + 2) 75 zero75 := by rw [hW]; repeat (first | exact Blk.new' _ 75 zero75 (by simp) | refine Blk.alloc' ?_)
  have hf : Frm w.heap.size [] w W := by rw [hW]; repeat (first | with_reducible exact Frm.refl _ _ _ | with_reducible refine Frm.drewN ?_ | with_reducible refine Frm.drew ?_ | ((with_reducible refine Frm.setCell' ?_ ?_); · first | (left; simp; done) | (right; simp; done) | (right; simp; omega)) | ((with_reducible refine Frm.alloc' ?_ ?_); · first | exact Nat.le_refl _ | (simp; done) | (simp; omega)))
  clear hW
  have h1 : WAt o W ((w.heap.size, .cells (m.cells ws).toArray 75 (0, 0)) :: (w.heap.size + 2, .cells zero75.toArray 75 (0, 0)) :: (w.heap.size + 1, .cells [Value.int .u8 x, Value.int .u8 n].toArray 80 (0, 0)) :: Y) m ws := h.blocks hf [(w.heap.size, .cells (m.cells ws).toArray 75 (0, 0)), (w.heap.size + 2, .cells zero75.toArray 75 (0, 0)), (w.heap.size + 1, .cells [Value.int .u8 x, Value.int .u8 n].toArray 80 (0, 0))] (by
    intro x hx
    simp only [List.mem_cons, List.not_mem_nil, or_false] at hx
    rcases hx with rfl | rfl | rfl
    · exact ⟨Nat.le_refl _, hb⟩
    · exact ⟨by simp, hz⟩
    · exact ⟨by simp, hx⟩)
  have hY : ∀ z ∈ Y, z.1 ≠ w.heap.size ∧ z.1 ≠ w.heap.size + 2 := fun z hz => by have := h.sys.ltX z (by simp [hz]); omega
  have x0 : W.cell? ⟨w.heap.size + 1, 0, none⟩ = some (.int .u8 x) := hx.cell 0
  have x1 : W.cell? ⟨w.heap.size + 1, 1, none⟩ = some (.int .u8 n) := hx.cell 1
  have c1 : W.cell? ⟨w.heap.size, 1, none⟩ = some (.slice (some ⟨g, off, none⟩) m.ps.length cap) := by rw [← hvN]; exact hb.cell 1
  have z : W.cell? ⟨g, off + k, none⟩ = some (.pointer (some ⟨p.b, 0, none⟩)) := h1.ptrCell hvN hp
  rw [hpl] at c1
  have hk' : (n : Int) % (ws.ns.length : Int) = (k : Int) := by rw [hk]; omega
  have hkl' : (k : Int) < (ws.ns.length : Int) := by omega
  have HB := Lib.hid hb
  have HX := Lib.hid hx
  have HZ := Lib.hid hz
  have HF := Lib.hid hf
  have H1 := Lib.hid h1
  have HP := Lib.hid hp
  have HPS := Lib.hid hps
  have HPL := Lib.hid hpl
  have HVN := Lib.hid hvN
  have HWA := Lib.hid h
  have HK := Lib.hid hk
  have HK2 := Lib.hid hk'
  have HKL := Lib.hid hkl
  have HY := Lib.hid hY
  clear hY hkl hk' hk h hvN hpl hps hp h1 hf hz hx hb
  have hfp : p.s.Fits N := by rw [HPS.out]; exact hfit k _ (ws.node_at HKL.out)
  have hb := HB.out
  have hkg : k < ws.gap.length := by have := HGL.out; have := HPL.out; have := HKL.out; omega
  have hke : k < ws.edge.length := by have := HEL.out; omega
  have c3 : W.cell? ⟨w.heap.size, 3, none⟩ = some (.slice (some ⟨m.gG, 0, none⟩) ws.gap.length ws.gap.length) := hb.cell 3
  have c5 : W.cell? ⟨w.heap.size, 5, none⟩ = some (.int .i64 ws.slow) := hb.cell 5
  have z1 : W.cell? ⟨m.gG, k, none⟩ = some (.int .i64 ws.gap[k]) := (H1.out.blkG.cell k).trans (ints_get hkg)
  have f1 : W.frozen? ⟨m.gG, k, none⟩ = false := H1.out.blkG.free k
  obtain ⟨p1, p2⟩ := BG.out k ws.gap[k] (List.getElem?_eq_getElem hkg)
  obtain ⟨r1, r2⟩ := BE.out k ws.edge[k] (List.getElem?_eq_getElem hke)
  have hgd : ws.gap.getD k 0 = ws.gap[k] := by simp [List.getD, List.getElem?_eq_getElem hkg]
  have hed : ws.edge.getD k 0 = ws.edge[k] := by simp [List.getD, List.getElem?_eq_getElem hke]
  have z2e : (ints ws.edge)[k]? = some (.int .i64 ws.edge[k]) := ints_get hke
  obtain ⟨ge, hge⟩ : ∃ y, y = ws.gap[k] := ⟨_, rfl⟩
  obtain ⟨ee, hee⟩ : ∃ y, y = ws.edge[k] := ⟨_, rfl⟩
  rw [← hge] at z1 p1 p2 hgd
  rw [← hee] at r1 r2 hed z2e
  clear hge hee
  have hkg' : (k : Int) < (ws.gap.length : Int) := by omega
  have hke' : (k : Int) < (ws.edge.length : Int) := by omega
  have hk' := HK2.out
  have hg1000 : ws.gap.length ≤ 1000 := by have := HGL.out; have := HPL.out; omega
  have HBX := Lib.hid hb
  have HFP := Lib.hid hfp
  have HGD := Lib.hid hgd
  have HED := Lib.hid hed
  have Z2E := Lib.hid z2e
  have HKG := Lib.hid hkg
  have HKE := Lib.hid hke
  have R1 := Lib.hid r1
  have R2 := Lib.hid r2
  clear r2 r1 hke hkg z2e hed hgd hfp hb
  clear z
  go_wp2_with fail
  clear c1 x1 x0
  refine wp_region_left (by kernel_rfl) ?_
  refine Left.headD 13 (by kernel_rfl) ?_
  simp only [List.take_succ_cons, List.take_zero, List.drop_succ_cons, List.drop_zero, Nat.reduceSub]
  repeat (quiet_step (fail))
  refine wpQuiet_nil ?_
  rintro _ ⟨nq, rfl⟩
  refine Left.tail (by kernel_rfl) ?_
  simp only [List.drop_succ_cons, List.drop_zero]
  go_wp2_with fail
  refine namedC ?_; intro w3 hw3
  have h3 : WAt o w3 ((w.heap.size, .cells (m.cells ws).toArray 75 (0, 0)) :: (w.heap.size + 2, .cells zero75.toArray 75 (0, 0)) :: (w.heap.size + 1, .cells [Value.int .u8 x, Value.int .u8 n].toArray 80 (0, 0)) :: Y) m { ws with gap := ws.gap.set k (ge - 1000 - ws.slow) } := by
    rw [hw3]
    exact (H1.out.quiet ((Frm.refl _ _ W).drewN (n := 1 + nq))).setGap k (ge - 1000 - ws.slow)
  clear hw3 c3 c5 z1 f1
  have hb : Blk w3 w.heap.size 75 (m.cells ws) := h3.sys.ext (w.heap.size, .cells (m.cells ws).toArray 75 (0, 0)) (by simp)
  have c3 : w3.cell? ⟨w.heap.size, 3, none⟩ = some (.slice (some ⟨m.gG, 0, none⟩) ws.gap.length ws.gap.length) := hb.cell 3
  have c4 : w3.cell? ⟨w.heap.size, 4, none⟩ = some (.slice (some ⟨m.gE, 0, none⟩) ws.gap.length ws.gap.length) := hb.cell 4
  have z1 : w3.cell? ⟨m.gG, k, none⟩ = some (.int .i64 (ge - 1000 - ws.slow)) := by
    rw [h3.blkG.cell k]
    simp [ints, HKG.out]
  have z2 : w3.cell? ⟨m.gE, k, none⟩ = some (.int .i64 ee) := (h3.blkE.cell k).trans Z2E.out
  have f2 : w3.frozen? ⟨m.gE, k, none⟩ = false := h3.blkE.free k
  have HB3 := Lib.hid hb
  have H3 := Lib.hid h3
  clear h3 hb
  refine wp_region_left (by kernel_rfl) ?_
  refine Left.headD 15 (by kernel_rfl) ?_
  simp only [List.take_succ_cons, List.take_zero, List.drop_succ_cons, List.drop_zero, Nat.reduceSub]
  repeat (quiet_step (fail))
  refine wpQuiet_nil ?_
  rintro _ ⟨nq, rfl⟩
  refine Left.tail (by kernel_rfl) ?_
  simp only [List.drop_succ_cons, List.drop_zero]
  go_wp2_with fail
  all_goals
    refine namedC ?_; intro w4 hw4
    have h4 : WAt o w4 ((w.heap.size, .cells (m.cells ws).toArray 75 (0, 0)) :: (w.heap.size + 2, .cells zero75.toArray 75 (0, 0)) :: (w.heap.size + 1, .cells [Value.int .u8 x, Value.int .u8 n].toArray 80 (0, 0)) :: Y) m { ws with gap := ws.gap.set k (ge - 1000 - ws.slow), edge := ws.edge.set k (min ee (ge - 1000 - ws.slow)) } := by
      rw [hw4]
      first
        | (rw [show min ee (ge - 1000 - ws.slow) = ee by omega]; exact (H3.out.quiet ((Frm.refl _ _ w3).drewN (n := 1 + nq))).setEdge k ee)
        | (rw [show min ee (ge - 1000 - ws.slow) = ge - 1000 - ws.slow by omega]; exact (H3.out.quiet ((Frm.refl _ _ w3).drewN (n := 1 + nq))).setEdge k (ge - 1000 - ws.slow))
    clear hw4 c3 c4 z1 z2 f2
    have hb : Blk w4 w.heap.size 75 (m.cells ws) := h4.sys.ext (w.heap.size, .cells (m.cells ws).toArray 75 (0, 0)) (by simp)
    have z := h4.ptrCell HVN.out HP.out
    have HB4 := Lib.hid hb
    have H4 := Lib.hid h4
    clear h4 hb
    refine wp_region_leftL (fun V => Blk V w.heap.size 75 (m.cells ws) ∧ V.cell? ⟨g, off + k, none⟩ = some (.pointer (some ⟨p.b, 0, none⟩))) 100 (by kernel_rfl) ?_
    have hS : Blk w4.drew w.heap.size 75 (m.cells ws) ∧ w4.drew.cell? ⟨g, off + k, none⟩ = some (.pointer (some ⟨p.b, 0, none⟩)) := ⟨HB4.out.drew, z⟩
    have HS := Lib.hid hS
    clear hS
    clear z
    refine LeftL.take 0 rfl (by kernel_rfl) (fun _ _ d _ _ h => by cases d <;> exact h) (yields_loadB (ty := 75) rfl rfl (fun V hV => hV.1) rfl Try.underlying75 rfl (m.cells_info ws)) HS.out ?_; (intro K' hK'; go_simp; refine hK' _ ?_; clear hK' K')
    refine LeftL.run (v := ?_) 1 rfl (by kernel_rfl) rfl (fun _ _ d _ _ h => by cases d <;> exact h) ?_ HS.out ?_; rotate_left; (· intro V hV; have z := hV.2; have y0 := hV.1.cell 0; have y1 := hV.1.cell 1; have y2 := hV.1.cell 2; have y3 := hV.1.cell 3; have y4 := hV.1.cell 4; have y5 := hV.1.cell 5; simp only [WM.cells, worldC, HVN.out, HPL.out, List.getElem?_cons_succ, List.getElem?_cons_zero] at y0 y1 y2 y3 y4 y5; clear hV; go_simp; rfl); (intro K' hK'; go_simp; refine hK' _ ?_; clear hK' K')
    refine LeftL.run (v := ?_) 2 rfl (by kernel_rfl) rfl (fun _ _ d _ _ h => by cases d <;> exact h) ?_ HS.out ?_; rotate_left; (· intro V hV; have z := hV.2; have y0 := hV.1.cell 0; have y1 := hV.1.cell 1; have y2 := hV.1.cell 2; have y3 := hV.1.cell 3; have y4 := hV.1.cell 4; have y5 := hV.1.cell 5; simp only [WM.cells, worldC, HVN.out, HPL.out, List.getElem?_cons_succ, List.getElem?_cons_zero] at y0 y1 y2 y3 y4 y5; clear hV; go_simp; rfl); (intro K' hK'; go_simp; refine hK' _ ?_; clear hK' K')
    refine LeftL.run (v := ?_) 3 rfl (by kernel_rfl) rfl (fun _ _ d _ _ h => by cases d <;> exact h) ?_ HS.out ?_; rotate_left; (· intro V hV; have z := hV.2; have y0 := hV.1.cell 0; have y1 := hV.1.cell 1; have y2 := hV.1.cell 2; have y3 := hV.1.cell 3; have y4 := hV.1.cell 4; have y5 := hV.1.cell 5; simp only [WM.cells, worldC, HVN.out, HPL.out, List.getElem?_cons_succ, List.getElem?_cons_zero] at y0 y1 y2 y3 y4 y5; clear hV; go_simp; rfl); (intro K' hK'; go_simp; refine hK' _ ?_; clear hK' K')
    refine LeftL.run (v := ?_) 4 rfl (by kernel_rfl) rfl (fun _ _ d _ _ h => by cases d <;> exact h) ?_ HS.out ?_; rotate_left; (· intro V hV; have z := hV.2; have y0 := hV.1.cell 0; have y1 := hV.1.cell 1; have y2 := hV.1.cell 2; have y3 := hV.1.cell 3; have y4 := hV.1.cell 4; have y5 := hV.1.cell 5; simp only [WM.cells, worldC, HVN.out, HPL.out, List.getElem?_cons_succ, List.getElem?_cons_zero] at y0 y1 y2 y3 y4 y5; clear hV; go_simp; rfl); (intro K' hK'; go_simp; refine hK' _ ?_; clear hK' K')
    refine LeftL.run (v := ?_) 5 rfl (by kernel_rfl) rfl (fun _ _ d _ _ h => by cases d <;> exact h) ?_ HS.out ?_; rotate_left; (· intro V hV; have z := hV.2; have y0 := hV.1.cell 0; have y1 := hV.1.cell 1; have y2 := hV.1.cell 2; have y3 := hV.1.cell 3; have y4 := hV.1.cell 4; have y5 := hV.1.cell 5; simp only [WM.cells, worldC, HVN.out, HPL.out, List.getElem?_cons_succ, List.getElem?_cons_zero] at y0 y1 y2 y3 y4 y5; clear hV; go_simp; rfl); (intro K' hK'; go_simp; refine hK' _ ?_; clear hK' K')
    refine LeftL.one 6 rfl (by kernel_rfl) ?_
    go_wp2_with fail
    refine (sysTickN (H4.out.quiet (Frm.refl _ _ w4).drew).sys HP.out HFP.out hN).mono ?_; rintro e w5 ⟨rfl, own', h5⟩
    have h5 := (H4.out.quiet (Frm.refl _ _ w4).drew).nodeNext HP.out h5
    rw [HPS.out] at h5
    have hS2 : Blk w5 w.heap.size 75 (m.cells ws) ∧ w5.cell? ⟨g, off + k, none⟩ = some (.pointer (some ⟨p.b, 0, none⟩)) := ⟨h5.sys.ext (w.heap.size, .cells (m.cells ws).toArray 75 (0, 0)) (by simp), h5.ptrCell (p := ⟨p.b, own', (ws.node k).tick⟩) HVN.out (get_set_eq HP.out)⟩
    have H5 := Lib.hid h5
    clear h5
    clear HS
    have HS := Lib.hid hS2
    clear hS2
    go_wp2_with fail
    refine ⟨fun _ => HS.out, ?_⟩
    refine LeftL.run (v := ?_) 7 rfl (by kernel_rfl) rfl (fun _ _ d _ _ h => by cases d <;> exact h) ?_ HS.out ?_; rotate_left; (· intro V hV; have z := hV.2; have y0 := hV.1.cell 0; have y1 := hV.1.cell 1; have y2 := hV.1.cell 2; have y3 := hV.1.cell 3; have y4 := hV.1.cell 4; have y5 := hV.1.cell 5; simp only [WM.cells, worldC, HVN.out, HPL.out, List.getElem?_cons_succ, List.getElem?_cons_zero] at y0 y1 y2 y3 y4 y5; clear hV; go_simp; rfl); (intro K' hK'; go_simp; refine hK' _ ?_; clear hK' K')
    refine LeftL.one 8 rfl (by kernel_rfl) ?_
    have hz2 : Blk w5 (w.heap.size + 2) 75 zero75 := H5.out.sys.ext (w.heap.size + 2, .cells zero75.toArray 75 (0, 0)) (by simp)
    refine wpList_storeB (P := Try.prog) (cs := m.cells ws) rfl rfl hz2 rfl rfl rfl (m.cells_info ws) H1.out.cells_one ?_
    have h4 := H5.out.result (fun z hz => (HY.out z hz).2) (m.cells ws).toArray
    have hb4 := hz2.row (m.cells ws)
    have hS4 := And.intro (HS.out.1.row_other (g := w.heap.size + 2) (m.cells ws).toArray (by omega)) (h4.ptrCell (p := ⟨p.b, own', (ws.node k).tick⟩) HVN.out (get_set_eq HP.out))
    generalize w5.setRow (w.heap.size + 2) (m.cells ws).toArray = W4 at h4 hb4 hS4 ⊢
    clear HS hz2
    have HS := Lib.hid hS4
    have HB4 := Lib.hid hb4
    have H4 := Lib.hid h4
    clear hS4 hb4 h4
    refine wpList_nil ?_
    refine ⟨fun _ => HS.out, ?_⟩
    refine LeftL.one 9 rfl (by kernel_rfl) ?_
    go_wp2_with fail
    first | refine ⟨fun _ => HS.out, ?_⟩ | refine ⟨HS.out, ?_⟩
    refine LeftL.done (by kernel_rfl) ?_
    go_wp2_with fail
    refine bodyPost_ret (results_ct Try.results41 HB4.out rfl Try.underlying75 rfl (m.cells_info ws)) rfl ?_
    have e : res = { ws with ns := ws.ns.set k (ws.node k).tick, gap := ws.gap.set k (ge - 1000 - ws.slow), edge := ws.edge.set k (min ee (ge - 1000 - ws.slow)) } := by rw [HRES.out, HGD.out, HED.out]
    have h8 := H4.out
    rw [e]
    exact ⟨{ m with ps := m.ps.set k ⟨p.b, own', (ws.node k).tick⟩ }, by simp [WM.cells], ptrs_set (p' := ⟨p.b, own', (ws.node k).tick⟩) HP.out rfl, h8⟩
end Go.Proofs.Ythmladcepkdheaa
