/-
  Event 6: the centre hears a word that was sent.
-/
import Derived.Test.YthmladcepkdheaaHapD
namespace Go.Proofs.Ythmladcepkdheaa
open Go.RowKit

set_option maxRecDepth 100000 in
set_option maxHeartbeats 8000000 in
theorem happen6c {o w : World} {Y : List (Nat × Obj)} {m : WM} {ws : WS} (h : WAt o w Y m ws) (n k : Nat) (hk : k = n % ws.ns.length) (hn : n < 256) (hpos : 1 ≤ ws.ns.length) (hlen : ws.ns.length ≤ 1000) (hs0 : 0 < ws.sent.length) (hsent : ws.sent.length ≤ 100000)
    (j : Nat) (hj : j = n % ws.sent.length) (kk : Int) (nn : Nat) (q : Int) (hx : ws.sent[j]? = some (kk, (nn : Int), q)) (hk2 : ¬ kk = 2) (hg : ws.c.g.length ≤ 100000) (hv : wordB kk nn q = true) (hnn : nn < ws.c.g.length)
    (c' : CS) (hc : ws.c.hear kk nn q = (c', (0, 0, 0))) :
    Calls Try.prog 41 #[.agg (m.cells ws).toArray, .agg #[.int .u8 6, .int .u8 n]] w (Hap o Y m ({ ws with c := c' }, true)) := by
  obtain ⟨gS, offS, capS, hvS, hownS, hcS, hcmS⟩ := h.rowS.pos hs0
  obtain ⟨x, hxx⟩ : ∃ x : Int × Int × Int, x = (kk, (nn : Int), q) := ⟨_, rfl⟩
  rw [← hxx] at hx
  obtain ⟨i0, hi, hz0, hz1, hz2⟩ := info_parts3 info41s
  have HVS := Lib.hid hvS
  have HXX := Lib.hid hxx
  have HCC := Lib.hid hc
  have HVV := Lib.hid hv
  have HI := Lib.hid hi
  have HZ0 := Lib.hid hz0
  have HZ1 := Lib.hid hz1
  have HZ2 := Lib.hid hz2
  clear hz2 hz1 hz0 hi hv hc hxx hvS
  have hpl : m.ps.length = ws.ns.length := by rw [← h.ns]; simp
  obtain ⟨g, off, cap, hvN, hownN, hcl, hcm⟩ := h.rowN.pos (by omega)
  have hkl : k < ws.ns.length := by rw [hk]; exact Nat.mod_lt _ (by omega)
  obtain ⟨p, hp, hps⟩ := h.node hkl
  go_enter Try.func41, Try.ntmps41
  iterate 16 go_step
  refine named ?_; intro W hW
  have hb : Blk W w.heap.size 75 (m.cells ws) := by rw [hW]; repeat (first | exact Blk.new w 75 (m.cells ws) | refine Blk.alloc' ?_)
  have hx : Blk W (w.heap.size + 1) 80 [.int .u8 6, .int .u8 n] := by rw [hW]; repeat (first | exact Blk.new' _ 80 [.int .u8 6, .int .u8 n] (by simp) | refine Blk.alloc' ?_)
  have hz : Blk W (w.heap.size + 2) 75 zero75 := by rw [hW]; repeat (first | exact Blk.new' _ 75 zero75 (by simp) | refine Blk.alloc' ?_)
  have hf : Frm w.heap.size [] w W := by rw [hW]; repeat (first | with_reducible exact Frm.refl _ _ _ | with_reducible refine Frm.drewN ?_ | with_reducible refine Frm.drew ?_ | ((with_reducible refine Frm.setCell' ?_ ?_); · first | (left; simp; done) | (right; simp; done) | (right; simp; omega)) | ((with_reducible refine Frm.alloc' ?_ ?_); · first | exact Nat.le_refl _ | (simp; done) | (simp; omega)))
  clear hW
  have h1 : WAt o W ((w.heap.size, .cells (m.cells ws).toArray 75 (0, 0)) :: (w.heap.size + 2, .cells zero75.toArray 75 (0, 0)) :: (w.heap.size + 1, .cells [Value.int .u8 6, Value.int .u8 n].toArray 80 (0, 0)) :: Y) m ws := h.blocks hf [(w.heap.size, .cells (m.cells ws).toArray 75 (0, 0)), (w.heap.size + 2, .cells zero75.toArray 75 (0, 0)), (w.heap.size + 1, .cells [Value.int .u8 6, Value.int .u8 n].toArray 80 (0, 0))] (by
    intro x hx
    simp only [List.mem_cons, List.not_mem_nil, or_false] at hx
    rcases hx with rfl | rfl | rfl
    · exact ⟨Nat.le_refl _, hb⟩
    · exact ⟨by simp, hz⟩
    · exact ⟨by simp, hx⟩)
  have hY : ∀ z ∈ Y, z.1 ≠ w.heap.size ∧ z.1 ≠ w.heap.size + 2 := fun z hz => by have := h.sys.ltX z (by simp [hz]); omega
  have x0 : W.cell? ⟨w.heap.size + 1, 0, none⟩ = some (.int .u8 6) := hx.cell 0
  have x1 : W.cell? ⟨w.heap.size + 1, 1, none⟩ = some (.int .u8 n) := hx.cell 1
  have c1 : W.cell? ⟨w.heap.size, 1, none⟩ = some (.slice (some ⟨g, off, none⟩) m.ps.length cap) := by rw [← hvN]; exact hb.cell 1
  have z : W.cell? ⟨g, off + k, none⟩ = some (.pointer (some ⟨p.b, 0, none⟩)) := h1.ptrCell hvN hp
  rw [hpl] at c1
  have hk' : (n : Int) % (ws.ns.length : Int) = (k : Int) := by rw [hk]; omega
  have hkl' : (k : Int) < (ws.ns.length : Int) := by omega
  have HB := Lib.hid hb
  have HX := Lib.hid hx
  have HZ := Lib.hid hz
  have HF := Lib.hid hf
  have H1 := Lib.hid h1
  have HP := Lib.hid hp
  have HPS := Lib.hid hps
  have HPL := Lib.hid hpl
  have HVN := Lib.hid hvN
  have HWA := Lib.hid h
  have HK := Lib.hid hk
  have HK2 := Lib.hid hk'
  have HKL := Lib.hid hkl
  have HY := Lib.hid hY
  clear hY hkl hk' hk h hvN hpl hps hp h1 hf hz hx hb
  have hk' := HK2.out
  have hjl : j < ws.sent.length := by rw [hj]; exact Nat.mod_lt _ hs0
  have hj2 : (n : Int) % (ws.sent.length : Int) = (j : Int) := by rw [hj]; omega
  have hj3 : (j : Int) < (ws.sent.length : Int) := by omega
  have c2 : W.cell? ⟨w.heap.size, 2, none⟩ = some (.slice (some ⟨gS, offS, none⟩) ws.sent.length capS) := by rw [← HVS.out]; exact HB.out.cell 2
  have hs0' : ¬ (ws.sent.length : Int) = 0 := by omega
  have HJ := Lib.hid hj
  have HX1 := Lib.hid hx
  clear hx hj
  go_wp2_with fail
  clear c1 z c2
  have hfx : ∀ V, Frm W.heap.size [] W V → V.cell? ⟨w.heap.size, 2, none⟩ = some (.slice (some ⟨gS, offS, none⟩) ws.sent.length capS) ∧ V.cell? ⟨w.heap.size + 1, 1, none⟩ = some (.int .u8 n) ∧
      V.cell? ⟨gS, offS + j * 3, none⟩ = some (.int .i64 x.1) ∧ V.cell? ⟨gS, offS + j * 3 + 1, none⟩ = some (.int .i64 x.2.1) ∧ V.cell? ⟨gS, offS + j * 3 + 2, none⟩ = some (.int .i64 x.2.2) := fun V hV => by
    have h2 := H1.out.quiet hV
    have hb : Blk V w.heap.size 75 (m.cells ws) := h2.sys.ext (w.heap.size, .cells (m.cells ws).toArray 75 (0, 0)) (by simp)
    have hx : Blk V (w.heap.size + 1) 80 [.int .u8 6, .int .u8 n] := h2.sys.ext (w.heap.size + 1, .cells [Value.int .u8 6, Value.int .u8 n].toArray 80 (0, 0)) (by simp)
    have hr := h2.rowS
    rw [HVS.out] at hr
    have hw := wordsL_get HX1.out
    have hlen : j * 3 + 2 < (wordsL ws.sent).length := (List.getElem?_eq_some_iff.1 (hw 2 _ rfl)).1
    refine ⟨by rw [← HVS.out]; exact hb.cell 2, hx.cell 1, ?_, ?_, ?_⟩
    · exact (hr.cell (j * 3) (by omega)).trans (hw 0 _ rfl)
    · exact (hr.cell (j * 3 + 1) (by omega)).trans (hw 1 _ rfl)
    · exact (hr.cell (j * 3 + 2) (by omega)).trans (hw 2 _ rfl)
  refine wp_region_leftL (fun V => Frm W.heap.size [] W V) 100 (by kernel_rfl) ?_
  have hS : Frm W.heap.size [] W W.drew := (Frm.refl _ _ W).drew
  have HFX := Lib.hid hfx
  have HS := Lib.hid hS
  clear hS hfx
  refine LeftL.run (v := ?_) 0 rfl (by kernel_rfl) rfl (fun _ _ d _ _ h => by cases d <;> exact h) ?_ HS.out ?_; rotate_left; (· intro V hV; obtain ⟨y2, x1, z0, z1, z2⟩ := HFX.out V hV; clear hV; go_simp; rfl); (intro K' hK'; go_simp; refine hK' _ ?_; clear hK' K')
  refine LeftL.run (v := ?_) 1 rfl (by kernel_rfl) rfl (fun _ _ d _ _ h => by cases d <;> exact h) ?_ HS.out ?_; rotate_left; (· intro V hV; obtain ⟨y2, x1, z0, z1, z2⟩ := HFX.out V hV; clear hV; go_simp; rfl); (intro K' hK'; go_simp; refine hK' _ ?_; clear hK' K')
  refine LeftL.run (v := ?_) 2 rfl (by kernel_rfl) rfl (fun _ _ d _ _ h => by cases d <;> exact h) ?_ HS.out ?_; rotate_left; (· intro V hV; obtain ⟨y2, x1, z0, z1, z2⟩ := HFX.out V hV; clear hV; go_simp; rfl); (intro K' hK'; go_simp; refine hK' _ ?_; clear hK' K')
  refine LeftL.run (v := ?_) 3 rfl (by kernel_rfl) rfl (fun _ _ d _ _ h => by cases d <;> exact h) ?_ HS.out ?_; rotate_left; (· intro V hV; obtain ⟨y2, x1, z0, z1, z2⟩ := HFX.out V hV; clear hV; go_simp; rfl); (intro K' hK'; go_simp; refine hK' _ ?_; clear hK' K')
  refine LeftL.run (v := ?_) 4 rfl (by kernel_rfl) rfl (fun _ _ d _ _ h => by cases d <;> exact h) ?_ HS.out ?_; rotate_left; (· intro V hV; obtain ⟨y2, x1, z0, z1, z2⟩ := HFX.out V hV; clear hV; go_simp; rfl); (intro K' hK'; go_simp; refine hK' _ ?_; clear hK' K')
  refine LeftL.run (v := ?_) 5 rfl (by kernel_rfl) rfl (fun _ _ d _ _ h => by cases d <;> exact h) ?_ HS.out ?_; rotate_left; (· intro V hV; obtain ⟨y2, x1, z0, z1, z2⟩ := HFX.out V hV; clear hV; go_simp; rfl); (intro K' hK'; go_simp; refine hK' _ ?_; clear hK' K')
  refine LeftL.run (v := ?_) 6 rfl (by kernel_rfl) rfl (fun _ _ d _ _ h => by cases d <;> exact h) ?_ HS.out ?_; rotate_left; (· intro V hV; obtain ⟨y2, x1, z0, z1, z2⟩ := HFX.out V hV; clear hV; go_simp; rfl); (intro K' hK'; go_simp; refine hK' _ ?_; clear hK' K')
  refine LeftL.run (v := ?_) 7 rfl (by kernel_rfl) rfl (fun _ _ d _ _ h => by cases d <;> exact h) ?_ HS.out ?_; rotate_left; (· intro V hV; obtain ⟨y2, x1, z0, z1, z2⟩ := HFX.out V hV; clear hV; go_simp; rfl); (intro K' hK'; go_simp; refine hK' _ ?_; clear hK' K')
  have hne : ¬ ws.sent = [] := fun e => by rw [e] at hs0; simp at hs0
  have e2 : IntKind.i64.wrap (n : Int) = (n : Int) := IntWalk.i64_in _ (by omega)
  have e3 : (n : Int).tmod (ws.sent.length : Int) = (j : Int) := by rw [← hj2]; exact Int.tmod_eq_emod_of_nonneg (by omega)
  have e5 : IntKind.i64.wrap (j : Int) = (j : Int) := IntWalk.i64_in _ (by omega)
  refine LeftL.run (v := ?_) 8 rfl (by kernel_rfl) rfl (fun _ _ d _ _ h => by cases d <;> exact h) ?_ HS.out ?_; rotate_left; (· intro V hV; obtain ⟨y2, x1, z0, z1, z2⟩ := HFX.out V hV; clear hV; go_simp; rfl); (intro K' hK'; go_simp; refine hK' _ ?_; clear hK' K')
  clear hne e2 e3 e5
  refine LeftL.run (v := ?_) 9 rfl (by kernel_rfl) rfl (fun _ _ d _ _ h => by cases d <;> exact h) ?_ HS.out ?_; rotate_left; (· intro V hV; obtain ⟨y2, x1, z0, z1, z2⟩ := HFX.out V hV; clear hV; go_simp; rfl); (intro K' hK'; go_simp; refine hK' _ ?_; clear hK' K')
  refine LeftL.run (v := ?_) 10 rfl (by kernel_rfl) rfl (fun _ _ d _ _ h => by cases d <;> exact h) ?_ HS.out ?_; rotate_left; (· intro V hV; obtain ⟨y2, x1, z0, z1, z2⟩ := HFX.out V hV; clear hV; go_simp; rfl); (intro K' hK'; go_simp; refine hK' _ ?_; clear hK' K')
  refine LeftL.one 11 rfl (by kernel_rfl) ?_
  go_wp2_with fail
  generalize hw3 : (W.alloc (Obj.cells #[Value.int .i64 0, Value.int .i64 0, Value.int .i64 0] 41 (0, 0))).drew = w3
  have hb3 : Blk w3 W.heap.size 41 (wordL (0, 0, 0)) := by rw [← hw3]; exact (Blk.new' W 41 (wordL (0, 0, 0)) rfl).drew
  have hf3 : Frm W.heap.size [] W w3 := by rw [← hw3]; repeat (first | with_reducible exact Frm.refl _ _ _ | with_reducible refine Frm.drewN ?_ | with_reducible refine Frm.drew ?_ | ((with_reducible refine Frm.setCell' ?_ ?_); · first | (left; simp; done) | (right; simp; done) | (right; simp; omega)) | ((with_reducible refine Frm.alloc' ?_ ?_); · first | exact Nat.le_refl _ | (simp; done) | (simp; omega)))
  have h4 := H1.out.beside hf3 (Nat.le_refl _) hb3
  clear HS hw3
  refine ⟨fun _ => hf3, ?_⟩
  refine LeftL.one 12 rfl (by kernel_rfl) ?_
  refine wpList_storeB (P := Try.prog) (ty := 41) (cs := wordL x) rfl rfl hb3 rfl rfl rfl (wordL_info _) (wordL_one _) ?_
  have h5 := h4.turnHead (fun y hy => by have := H1.out.sys.ltX y (by simp only [List.mem_append]; exact .inr hy); omega) (wordL x).toArray
  have hf4 := hf3.setRow (g := W.heap.size) (.inr (Nat.le_refl _)) (wordL x).toArray
  generalize w3.setRow W.heap.size (wordL x).toArray = w4 at h5 hf4 ⊢
  clear h4 hb3 hf3 w3
  have H4 := Lib.hid h5
  clear h5
  refine wpList_nil ?_
  refine ⟨fun _ => hf4, ?_⟩
  clear hf4
  refine LeftL.done (by kernel_rfl) ?_
  have hw4 : Blk w4 W.heap.size 41 (wordL x) := H4.out.sys.ext (W.heap.size, .cells (wordL x).toArray 41 (0, 0)) (by simp)
  have hb4 : Blk w4 w.heap.size 75 (m.cells ws) := H4.out.sys.ext (w.heap.size, .cells (m.cells ws).toArray 75 (0, 0)) (by simp)
  have HW4 := Lib.hid hw4
  have HB4 := Lib.hid hb4
  clear hw4 hb4 HFX
  clear x0 x1
  have HSENT := Lib.hid hsent
  clear hsent hk' hs0' hj2 hj3 hjl
  have d0 : w4.cell? ⟨W.heap.size, 0, none⟩ = some (.int .i64 kk) := by have := HW4.out.cell 0; rw [HXX.out] at this; exact this
  have d1 : w4.cell? ⟨W.heap.size, 1, none⟩ = some (.int .i64 nn) := by have := HW4.out.cell 1; rw [HXX.out] at this; exact this
  have d2 : w4.cell? ⟨W.heap.size, 2, none⟩ = some (.int .i64 q) := by have := HW4.out.cell 2; rw [HXX.out] at this; exact this
  have c0 : w4.cell? ⟨w.heap.size, 0, none⟩ = some (.pointer (some ⟨m.bc, 0, none⟩)) := HB4.out.cell 0
  go_wp2_with fail
  refine (sysHearC (H4.out.quiet (Frm.refl _ _ w4)).sys kk nn q hg HVV.out hnn).mono ?_; rintro e w2 ⟨rfl, h2⟩
  have h3 := (H4.out.centreNext h2).less (fun y hy => List.mem_cons_of_mem _ hy)
  rw [HCC.out] at h3 ⊢
  dsimp only at h3 ⊢
  clear h2 d0 d1 d2 c0 HW4 HB4 H4 w4
  obtain ⟨x, hx⟩ : ∃ x : Int × Int × Int, x = (0, 0, 0) := ⟨_, rfl⟩
  obtain ⟨ws1, hws1⟩ : ∃ y, y = ({ ws with c := c' } : WS) := ⟨_, rfl⟩
  obtain ⟨m1, hm1⟩ : ∃ y, y = m := ⟨_, rfl⟩
  have hcs : m.cells ws = m1.cells ws1 := by rw [hws1, hm1]; rfl
  have hsl : ws1.sent.length = ws.sent.length := by rw [hws1]
  rw [hcs, ← hws1, ← hm1] at h3
  rw [← hx]
  have HM1 := Lib.hid hm1
  have HX3 := Lib.hid hx
  have HWS1 := Lib.hid hws1
  have H3 := Lib.hid h3
  have HCS := Lib.hid hcs
  have HSL := Lib.hid hsl
  clear hsl hcs h3 hws1 hx hm1
  go_wp2_with (with_reducible refine atStore 41 rfl ?_; refine hold ?_; intro qG hG)
  refine hG.1 ?_; clear hG qG
  refine namedL ?_; intro w3 hw3
  have hb3 : Blk w3 w2.heap.size 41 (wordL (0, 0, 0)) := by rw [hw3]; exact Blk.new' w2 41 (wordL (0, 0, 0)) rfl
  have hf3 : Frm w2.heap.size [] w2 w3 := by rw [hw3]; repeat (first | with_reducible exact Frm.refl _ _ _ | with_reducible refine Frm.drewN ?_ | with_reducible refine Frm.drew ?_ | ((with_reducible refine Frm.setCell' ?_ ?_); · first | (left; simp; done) | (right; simp; done) | (right; simp; omega)) | ((with_reducible refine Frm.alloc' ?_ ?_); · first | exact Nat.le_refl _ | (simp; done) | (simp; omega)))
  have h4 := H3.out.beside hf3 (Nat.le_refl _) hb3
  clear hw3
  refine wpList_storeB (P := Try.prog) (ty := 41) (cs := wordL x) rfl rfl hb3 rfl rfl rfl (wordL_info _) (wordL_one _) ?_
  have h5 := h4.turnHead (fun y hy => by have := H3.out.sys.ltX y (by simp only [List.mem_append]; exact .inr hy); omega) (wordL x).toArray
  generalize w3.setRow w2.heap.size (wordL x).toArray = w4 at h5 ⊢
  clear h4 hb3 hf3 w3
  have H4 := Lib.hid h5
  clear h5
  have d0 : w4.cell? ⟨w2.heap.size, 0, none⟩ = some (.int .i64 0) := by have := (show Blk w4 w2.heap.size 41 (wordL x) from H4.out.sys.ext (w2.heap.size, .cells (wordL x).toArray 41 (0, 0)) (by simp)).cell 0; rw [HX3.out] at this; exact this
  have d1 : w4.cell? ⟨w2.heap.size, 1, none⟩ = some (.int .i64 0) := by have := (show Blk w4 w2.heap.size 41 (wordL x) from H4.out.sys.ext (w2.heap.size, .cells (wordL x).toArray 41 (0, 0)) (by simp)).cell 1; rw [HX3.out] at this; exact this
  have d2 : w4.cell? ⟨w2.heap.size, 2, none⟩ = some (.int .i64 0) := by have := (show Blk w4 w2.heap.size 41 (wordL x) from H4.out.sys.ext (w2.heap.size, .cells (wordL x).toArray 41 (0, 0)) (by simp)).cell 2; rw [HX3.out] at this; exact this
  have hb4 : Blk w4 w.heap.size 75 (m1.cells ws1) := H4.out.sys.ext (w.heap.size, .cells (m1.cells ws1).toArray 75 (0, 0)) (by simp)
  have hz4 : Blk w4 (w.heap.size + 2) 75 zero75 := H4.out.sys.ext (w.heap.size + 2, .cells zero75.toArray 75 (0, 0)) (by simp)
  have HB4 := Lib.hid hb4
  have HZ4 := Lib.hid hz4
  clear hb4 hz4
  go_wp2_with (first | (with_reducible refine atLoad 75 rfl ?_; refine wpList_loadB (P := Try.prog) (ty := 75) (b := w.heap.size) (T := 75) (cs := m1.cells ws1) rfl rfl HB4.out rfl Try.underlying75 rfl (m1.cells_info ws1) ?_) | (with_reducible refine atStore 75 rfl ?_; refine hold ?_; intro qG hG))
  refine hG.1 ?_; clear hG qG
  refine wpList_storeB (P := Try.prog) (cs := m1.cells ws1) rfl rfl HZ4.out rfl rfl rfl (m1.cells_info ws1) H4.out.cells_one ?_
  have h8 := (H4.out.less (fun y hy => List.mem_cons_of_mem _ hy)).result (fun z hz => (HY.out z hz).2) (m1.cells ws1).toArray
  have hb8 := HZ4.out.row (m1.cells ws1)
  generalize w4.setRow (w.heap.size + 2) (m1.cells ws1).toArray = w8 at h8 hb8 ⊢
  have H8 := Lib.hid h8
  have HB8 := Lib.hid hb8
  clear h8 hb8 HZ4 HB4
  go_wp2_with fail
  refine bodyPost_ret (results_ct Try.results41 HB8.out rfl Try.underlying75 rfl (m1.cells_info ws1)) rfl ?_
  rw [← HWS1.out]
  exact ⟨m1, rfl, by rw [HM1.out], H8.out⟩

set_option maxRecDepth 100000 in
set_option maxHeartbeats 8000000 in
theorem happen6d {o w : World} {Y : List (Nat × Obj)} {m : WM} {ws : WS} (h : WAt o w Y m ws) (n k : Nat) (hk : k = n % ws.ns.length) (hn : n < 256) (hpos : 1 ≤ ws.ns.length) (hlen : ws.ns.length ≤ 1000) (hs0 : 0 < ws.sent.length) (hsent : ws.sent.length ≤ 100000)
    (j : Nat) (hj : j = n % ws.sent.length) (kk : Int) (nn : Nat) (q : Int) (hx : ws.sent[j]? = some (kk, (nn : Int), q)) (hk2 : ¬ kk = 2) (hg : ws.c.g.length ≤ 100000) (hv : wordB kk nn q = true) (hnn : nn < ws.c.g.length)
    (c' : CS) (hc : ws.c.hear kk nn q = (c', (2, (nn : Int), q))) :
    Calls Try.prog 41 #[.agg (m.cells ws).toArray, .agg #[.int .u8 6, .int .u8 n]] w (Hap o Y m (({ ws with c := c' } : WS).say (2, (nn : Int), q), true)) := by
  obtain ⟨gS, offS, capS, hvS, hownS, hcS, hcmS⟩ := h.rowS.pos hs0
  obtain ⟨x, hxx⟩ : ∃ x : Int × Int × Int, x = (kk, (nn : Int), q) := ⟨_, rfl⟩
  rw [← hxx] at hx
  obtain ⟨i0, hi, hz0, hz1, hz2⟩ := info_parts3 info41s
  have HVS := Lib.hid hvS
  have HXX := Lib.hid hxx
  have HCC := Lib.hid hc
  have HVV := Lib.hid hv
  have HI := Lib.hid hi
  have HZ0 := Lib.hid hz0
  have HZ1 := Lib.hid hz1
  have HZ2 := Lib.hid hz2
  clear hz2 hz1 hz0 hi hv hc hxx hvS
  have hpl : m.ps.length = ws.ns.length := by rw [← h.ns]; simp
  obtain ⟨g, off, cap, hvN, hownN, hcl, hcm⟩ := h.rowN.pos (by omega)
  have hkl : k < ws.ns.length := by rw [hk]; exact Nat.mod_lt _ (by omega)
  obtain ⟨p, hp, hps⟩ := h.node hkl
  go_enter Try.func41, Try.ntmps41
  iterate 16 go_step
  refine named ?_; intro W hW
  have hb : Blk W w.heap.size 75 (m.cells ws) := by rw [hW]; repeat (first | exact Blk.new w 75 (m.cells ws) | refine Blk.alloc' ?_)
  have hx : Blk W (w.heap.size + 1) 80 [.int .u8 6, .int .u8 n] := by rw [hW]; repeat (first | exact Blk.new' _ 80 [.int .u8 6, .int .u8 n] (by simp) | refine Blk.alloc' ?_)
  have hz : Blk W (w.heap.size + 2) 75 zero75 := by rw [hW]; repeat (first | exact Blk.new' _ 75 zero75 (by simp) | refine Blk.alloc' ?_)
  have hf : Frm w.heap.size [] w W := by rw [hW]; repeat (first | with_reducible exact Frm.refl _ _ _ | with_reducible refine Frm.drewN ?_ | with_reducible refine Frm.drew ?_ | ((with_reducible refine Frm.setCell' ?_ ?_); · first | (left; simp; done) | (right; simp; done) | (right; simp; omega)) | ((with_reducible refine Frm.alloc' ?_ ?_); · first | exact Nat.le_refl _ | (simp; done) | (simp; omega)))
  clear hW
  have h1 : WAt o W ((w.heap.size, .cells (m.cells ws).toArray 75 (0, 0)) :: (w.heap.size + 2, .cells zero75.toArray 75 (0, 0)) :: (w.heap.size + 1, .cells [Value.int .u8 6, Value.int .u8 n].toArray 80 (0, 0)) :: Y) m ws := h.blocks hf [(w.heap.size, .cells (m.cells ws).toArray 75 (0, 0)), (w.heap.size + 2, .cells zero75.toArray 75 (0, 0)), (w.heap.size + 1, .cells [Value.int .u8 6, Value.int .u8 n].toArray 80 (0, 0))] (by
    intro x hx
    simp only [List.mem_cons, List.not_mem_nil, or_false] at hx
    rcases hx with rfl | rfl | rfl
    · exact ⟨Nat.le_refl _, hb⟩
    · exact ⟨by simp, hz⟩
    · exact ⟨by simp, hx⟩)
  have hY : ∀ z ∈ Y, z.1 ≠ w.heap.size ∧ z.1 ≠ w.heap.size + 2 := fun z hz => by have := h.sys.ltX z (by simp [hz]); omega
  have x0 : W.cell? ⟨w.heap.size + 1, 0, none⟩ = some (.int .u8 6) := hx.cell 0
  have x1 : W.cell? ⟨w.heap.size + 1, 1, none⟩ = some (.int .u8 n) := hx.cell 1
  have c1 : W.cell? ⟨w.heap.size, 1, none⟩ = some (.slice (some ⟨g, off, none⟩) m.ps.length cap) := by rw [← hvN]; exact hb.cell 1
  have z : W.cell? ⟨g, off + k, none⟩ = some (.pointer (some ⟨p.b, 0, none⟩)) := h1.ptrCell hvN hp
  rw [hpl] at c1
  have hk' : (n : Int) % (ws.ns.length : Int) = (k : Int) := by rw [hk]; omega
  have hkl' : (k : Int) < (ws.ns.length : Int) := by omega
  have HB := Lib.hid hb
  have HX := Lib.hid hx
  have HZ := Lib.hid hz
  have HF := Lib.hid hf
  have H1 := Lib.hid h1
  have HP := Lib.hid hp
  have HPS := Lib.hid hps
  have HPL := Lib.hid hpl
  have HVN := Lib.hid hvN
  have HWA := Lib.hid h
  have HK := Lib.hid hk
  have HK2 := Lib.hid hk'
  have HKL := Lib.hid hkl
  have HY := Lib.hid hY
  clear hY hkl hk' hk h hvN hpl hps hp h1 hf hz hx hb
  have hk' := HK2.out
  have hjl : j < ws.sent.length := by rw [hj]; exact Nat.mod_lt _ hs0
  have hj2 : (n : Int) % (ws.sent.length : Int) = (j : Int) := by rw [hj]; omega
  have hj3 : (j : Int) < (ws.sent.length : Int) := by omega
  have c2 : W.cell? ⟨w.heap.size, 2, none⟩ = some (.slice (some ⟨gS, offS, none⟩) ws.sent.length capS) := by rw [← HVS.out]; exact HB.out.cell 2
  have hs0' : ¬ (ws.sent.length : Int) = 0 := by omega
  have HJ := Lib.hid hj
  have HX1 := Lib.hid hx
  clear hx hj
  go_wp2_with fail
  clear c1 z c2
  have hfx : ∀ V, Frm W.heap.size [] W V → V.cell? ⟨w.heap.size, 2, none⟩ = some (.slice (some ⟨gS, offS, none⟩) ws.sent.length capS) ∧ V.cell? ⟨w.heap.size + 1, 1, none⟩ = some (.int .u8 n) ∧
      V.cell? ⟨gS, offS + j * 3, none⟩ = some (.int .i64 x.1) ∧ V.cell? ⟨gS, offS + j * 3 + 1, none⟩ = some (.int .i64 x.2.1) ∧ V.cell? ⟨gS, offS + j * 3 + 2, none⟩ = some (.int .i64 x.2.2) := fun V hV => by
    have h2 := H1.out.quiet hV
    have hb : Blk V w.heap.size 75 (m.cells ws) := h2.sys.ext (w.heap.size, .cells (m.cells ws).toArray 75 (0, 0)) (by simp)
    have hx : Blk V (w.heap.size + 1) 80 [.int .u8 6, .int .u8 n] := h2.sys.ext (w.heap.size + 1, .cells [Value.int .u8 6, Value.int .u8 n].toArray 80 (0, 0)) (by simp)
    have hr := h2.rowS
    rw [HVS.out] at hr
    have hw := wordsL_get HX1.out
    have hlen : j * 3 + 2 < (wordsL ws.sent).length := (List.getElem?_eq_some_iff.1 (hw 2 _ rfl)).1
    refine ⟨by rw [← HVS.out]; exact hb.cell 2, hx.cell 1, ?_, ?_, ?_⟩
    · exact (hr.cell (j * 3) (by omega)).trans (hw 0 _ rfl)
    · exact (hr.cell (j * 3 + 1) (by omega)).trans (hw 1 _ rfl)
    · exact (hr.cell (j * 3 + 2) (by omega)).trans (hw 2 _ rfl)
  refine wp_region_leftL (fun V => Frm W.heap.size [] W V) 100 (by kernel_rfl) ?_
  have hS : Frm W.heap.size [] W W.drew := (Frm.refl _ _ W).drew
  have HFX := Lib.hid hfx
  have HS := Lib.hid hS
  clear hS hfx
  refine LeftL.run (v := ?_) 0 rfl (by kernel_rfl) rfl (fun _ _ d _ _ h => by cases d <;> exact h) ?_ HS.out ?_; rotate_left; (· intro V hV; obtain ⟨y2, x1, z0, z1, z2⟩ := HFX.out V hV; clear hV; go_simp; rfl); (intro K' hK'; go_simp; refine hK' _ ?_; clear hK' K')
  refine LeftL.run (v := ?_) 1 rfl (by kernel_rfl) rfl (fun _ _ d _ _ h => by cases d <;> exact h) ?_ HS.out ?_; rotate_left; (· intro V hV; obtain ⟨y2, x1, z0, z1, z2⟩ := HFX.out V hV; clear hV; go_simp; rfl); (intro K' hK'; go_simp; refine hK' _ ?_; clear hK' K')
  refine LeftL.run (v := ?_) 2 rfl (by kernel_rfl) rfl (fun _ _ d _ _ h => by cases d <;> exact h) ?_ HS.out ?_; rotate_left; (· intro V hV; obtain ⟨y2, x1, z0, z1, z2⟩ := HFX.out V hV; clear hV; go_simp; rfl); (intro K' hK'; go_simp; refine hK' _ ?_; clear hK' K')
  refine LeftL.run (v := ?_) 3 rfl (by kernel_rfl) rfl (fun _ _ d _ _ h => by cases d <;> exact h) ?_ HS.out ?_; rotate_left; (· intro V hV; obtain ⟨y2, x1, z0, z1, z2⟩ := HFX.out V hV; clear hV; go_simp; rfl); (intro K' hK'; go_simp; refine hK' _ ?_; clear hK' K')
  refine LeftL.run (v := ?_) 4 rfl (by kernel_rfl) rfl (fun _ _ d _ _ h => by cases d <;> exact h) ?_ HS.out ?_; rotate_left; (· intro V hV; obtain ⟨y2, x1, z0, z1, z2⟩ := HFX.out V hV; clear hV; go_simp; rfl); (intro K' hK'; go_simp; refine hK' _ ?_; clear hK' K')
  refine LeftL.run (v := ?_) 5 rfl (by kernel_rfl) rfl (fun _ _ d _ _ h => by cases d <;> exact h) ?_ HS.out ?_; rotate_left; (· intro V hV; obtain ⟨y2, x1, z0, z1, z2⟩ := HFX.out V hV; clear hV; go_simp; rfl); (intro K' hK'; go_simp; refine hK' _ ?_; clear hK' K')
  refine LeftL.run (v := ?_) 6 rfl (by kernel_rfl) rfl (fun _ _ d _ _ h => by cases d <;> exact h) ?_ HS.out ?_; rotate_left; (· intro V hV; obtain ⟨y2, x1, z0, z1, z2⟩ := HFX.out V hV; clear hV; go_simp; rfl); (intro K' hK'; go_simp; refine hK' _ ?_; clear hK' K')
  refine LeftL.run (v := ?_) 7 rfl (by kernel_rfl) rfl (fun _ _ d _ _ h => by cases d <;> exact h) ?_ HS.out ?_; rotate_left; (· intro V hV; obtain ⟨y2, x1, z0, z1, z2⟩ := HFX.out V hV; clear hV; go_simp; rfl); (intro K' hK'; go_simp; refine hK' _ ?_; clear hK' K')
  have hne : ¬ ws.sent = [] := fun e => by rw [e] at hs0; simp at hs0
  have e2 : IntKind.i64.wrap (n : Int) = (n : Int) := IntWalk.i64_in _ (by omega)
  have e3 : (n : Int).tmod (ws.sent.length : Int) = (j : Int) := by rw [← hj2]; exact Int.tmod_eq_emod_of_nonneg (by omega)
  have e5 : IntKind.i64.wrap (j : Int) = (j : Int) := IntWalk.i64_in _ (by omega)
  refine LeftL.run (v := ?_) 8 rfl (by kernel_rfl) rfl (fun _ _ d _ _ h => by cases d <;> exact h) ?_ HS.out ?_; rotate_left; (· intro V hV; obtain ⟨y2, x1, z0, z1, z2⟩ := HFX.out V hV; clear hV; go_simp; rfl); (intro K' hK'; go_simp; refine hK' _ ?_; clear hK' K')
  clear hne e2 e3 e5
  refine LeftL.run (v := ?_) 9 rfl (by kernel_rfl) rfl (fun _ _ d _ _ h => by cases d <;> exact h) ?_ HS.out ?_; rotate_left; (· intro V hV; obtain ⟨y2, x1, z0, z1, z2⟩ := HFX.out V hV; clear hV; go_simp; rfl); (intro K' hK'; go_simp; refine hK' _ ?_; clear hK' K')
  refine LeftL.run (v := ?_) 10 rfl (by kernel_rfl) rfl (fun _ _ d _ _ h => by cases d <;> exact h) ?_ HS.out ?_; rotate_left; (· intro V hV; obtain ⟨y2, x1, z0, z1, z2⟩ := HFX.out V hV; clear hV; go_simp; rfl); (intro K' hK'; go_simp; refine hK' _ ?_; clear hK' K')
  refine LeftL.one 11 rfl (by kernel_rfl) ?_
  go_wp2_with fail
  generalize hw3 : (W.alloc (Obj.cells #[Value.int .i64 0, Value.int .i64 0, Value.int .i64 0] 41 (0, 0))).drew = w3
  have hb3 : Blk w3 W.heap.size 41 (wordL (0, 0, 0)) := by rw [← hw3]; exact (Blk.new' W 41 (wordL (0, 0, 0)) rfl).drew
  have hf3 : Frm W.heap.size [] W w3 := by rw [← hw3]; repeat (first | with_reducible exact Frm.refl _ _ _ | with_reducible refine Frm.drewN ?_ | with_reducible refine Frm.drew ?_ | ((with_reducible refine Frm.setCell' ?_ ?_); · first | (left; simp; done) | (right; simp; done) | (right; simp; omega)) | ((with_reducible refine Frm.alloc' ?_ ?_); · first | exact Nat.le_refl _ | (simp; done) | (simp; omega)))
  have h4 := H1.out.beside hf3 (Nat.le_refl _) hb3
  clear HS hw3
  refine ⟨fun _ => hf3, ?_⟩
  refine LeftL.one 12 rfl (by kernel_rfl) ?_
  refine wpList_storeB (P := Try.prog) (ty := 41) (cs := wordL x) rfl rfl hb3 rfl rfl rfl (wordL_info _) (wordL_one _) ?_
  have h5 := h4.turnHead (fun y hy => by have := H1.out.sys.ltX y (by simp only [List.mem_append]; exact .inr hy); omega) (wordL x).toArray
  have hf4 := hf3.setRow (g := W.heap.size) (.inr (Nat.le_refl _)) (wordL x).toArray
  generalize w3.setRow W.heap.size (wordL x).toArray = w4 at h5 hf4 ⊢
  clear h4 hb3 hf3 w3
  have H4 := Lib.hid h5
  clear h5
  refine wpList_nil ?_
  refine ⟨fun _ => hf4, ?_⟩
  clear hf4
  refine LeftL.done (by kernel_rfl) ?_
  have hw4 : Blk w4 W.heap.size 41 (wordL x) := H4.out.sys.ext (W.heap.size, .cells (wordL x).toArray 41 (0, 0)) (by simp)
  have hb4 : Blk w4 w.heap.size 75 (m.cells ws) := H4.out.sys.ext (w.heap.size, .cells (m.cells ws).toArray 75 (0, 0)) (by simp)
  have HW4 := Lib.hid hw4
  have HB4 := Lib.hid hb4
  clear hw4 hb4 HFX
  clear x0 x1
  have HSENT := Lib.hid hsent
  clear hsent hk' hs0' hj2 hj3 hjl
  have d0 : w4.cell? ⟨W.heap.size, 0, none⟩ = some (.int .i64 kk) := by have := HW4.out.cell 0; rw [HXX.out] at this; exact this
  have d1 : w4.cell? ⟨W.heap.size, 1, none⟩ = some (.int .i64 nn) := by have := HW4.out.cell 1; rw [HXX.out] at this; exact this
  have d2 : w4.cell? ⟨W.heap.size, 2, none⟩ = some (.int .i64 q) := by have := HW4.out.cell 2; rw [HXX.out] at this; exact this
  have c0 : w4.cell? ⟨w.heap.size, 0, none⟩ = some (.pointer (some ⟨m.bc, 0, none⟩)) := HB4.out.cell 0
  go_wp2_with fail
  refine (sysHearC (H4.out.quiet (Frm.refl _ _ w4)).sys kk nn q hg HVV.out hnn).mono ?_; rintro e w2 ⟨rfl, h2⟩
  have h3 := (H4.out.centreNext h2).less (fun y hy => List.mem_cons_of_mem _ hy)
  rw [HCC.out] at h3 ⊢
  dsimp only at h3 ⊢
  clear h2 d0 d1 d2 c0 HW4 HB4 H4 w4
  obtain ⟨x, hx⟩ : ∃ x : Int × Int × Int, x = (2, (nn : Int), q) := ⟨_, rfl⟩
  obtain ⟨ws1, hws1⟩ : ∃ y, y = ({ ws with c := c' } : WS) := ⟨_, rfl⟩
  obtain ⟨m1, hm1⟩ : ∃ y, y = m := ⟨_, rfl⟩
  have hcs : m.cells ws = m1.cells ws1 := by rw [hws1, hm1]; rfl
  have hsl : ws1.sent.length = ws.sent.length := by rw [hws1]
  rw [hcs, ← hws1, ← hm1] at h3
  rw [← hx]
  have HM1 := Lib.hid hm1
  have HX3 := Lib.hid hx
  have HWS1 := Lib.hid hws1
  have H3 := Lib.hid h3
  have HCS := Lib.hid hcs
  have HSL := Lib.hid hsl
  clear hsl hcs h3 hws1 hx hm1
  go_wp2_with (with_reducible refine atStore 41 rfl ?_; refine hold ?_; intro qG hG)
  refine hG.1 ?_; clear hG qG
  refine namedL ?_; intro w3 hw3
  have hb3 : Blk w3 w2.heap.size 41 (wordL (0, 0, 0)) := by rw [hw3]; exact Blk.new' w2 41 (wordL (0, 0, 0)) rfl
  have hf3 : Frm w2.heap.size [] w2 w3 := by rw [hw3]; repeat (first | with_reducible exact Frm.refl _ _ _ | with_reducible refine Frm.drewN ?_ | with_reducible refine Frm.drew ?_ | ((with_reducible refine Frm.setCell' ?_ ?_); · first | (left; simp; done) | (right; simp; done) | (right; simp; omega)) | ((with_reducible refine Frm.alloc' ?_ ?_); · first | exact Nat.le_refl _ | (simp; done) | (simp; omega)))
  have h4 := H3.out.beside hf3 (Nat.le_refl _) hb3
  clear hw3
  refine wpList_storeB (P := Try.prog) (ty := 41) (cs := wordL x) rfl rfl hb3 rfl rfl rfl (wordL_info _) (wordL_one _) ?_
  have h5 := h4.turnHead (fun y hy => by have := H3.out.sys.ltX y (by simp only [List.mem_append]; exact .inr hy); omega) (wordL x).toArray
  generalize w3.setRow w2.heap.size (wordL x).toArray = w4 at h5 ⊢
  clear h4 hb3 hf3 w3
  have H4 := Lib.hid h5
  clear h5
  have d0 : w4.cell? ⟨w2.heap.size, 0, none⟩ = some (.int .i64 2) := by have := (show Blk w4 w2.heap.size 41 (wordL x) from H4.out.sys.ext (w2.heap.size, .cells (wordL x).toArray 41 (0, 0)) (by simp)).cell 0; rw [HX3.out] at this; exact this
  have d1 : w4.cell? ⟨w2.heap.size, 1, none⟩ = some (.int .i64 nn) := by have := (show Blk w4 w2.heap.size 41 (wordL x) from H4.out.sys.ext (w2.heap.size, .cells (wordL x).toArray 41 (0, 0)) (by simp)).cell 1; rw [HX3.out] at this; exact this
  have d2 : w4.cell? ⟨w2.heap.size, 2, none⟩ = some (.int .i64 q) := by have := (show Blk w4 w2.heap.size 41 (wordL x) from H4.out.sys.ext (w2.heap.size, .cells (wordL x).toArray 41 (0, 0)) (by simp)).cell 2; rw [HX3.out] at this; exact this
  have HBW := Lib.hid (show Blk w4 w2.heap.size 41 (wordL x) from H4.out.sys.ext (w2.heap.size, .cells (wordL x).toArray 41 (0, 0)) (by simp))
  have hb4 : Blk w4 w.heap.size 75 (m1.cells ws1) := H4.out.sys.ext (w.heap.size, .cells (m1.cells ws1).toArray 75 (0, 0)) (by simp)
  have c2 : w4.cell? ⟨w.heap.size, 2, none⟩ = some m1.vS := hb4.cell 2
  have HB4 := Lib.hid hb4
  clear hb4
  go_wp2_with (at_builtin; refine hold ?_; intro qG hG)
  refine hG.1 ?_; clear hG qG
  refine namedL ?_; intro w5 hw5
  have hb5 : Blk w5 w4.heap.size 41 (wordL x) := by rw [hw5, HX3.out]; exact Blk.new' w4 41 (wordL (2, (nn : Int), q)) rfl
  have hf5 : Frm w4.heap.size [] w4 w5 := by rw [hw5]; repeat (first | with_reducible exact Frm.refl _ _ _ | with_reducible refine Frm.drewN ?_ | with_reducible refine Frm.drew ?_ | ((with_reducible refine Frm.setCell' ?_ ?_); · first | (left; simp; done) | (right; simp; done) | (right; simp; omega)) | ((with_reducible refine Frm.alloc' ?_ ?_); · first | exact Nat.le_refl _ | (simp; done) | (simp; omega)))
  have h5 := H4.out.quiet hf5
  clear hw5 hf5 c2
  refine wpList_append_both rfl (.tmp 158) (.tmp 160) 72 rfl 41 i0 _ 3 24 Try.underlying72 HI.out HZ0.out HZ1.out HZ2.out rfl m1.vS ws1.sent.length (wordsL ws1.sent) m1.ownS rfl h5.rowS _ 1 (wordL x) (some w4.heap.size) rfl (wordSl _ x hb5) (wordL_one x) (by have := HSENT.out; have := HSL.out; unfold maxLen; omega) (by have := HSENT.out; have := HSL.out; omega) ?_
  intro v6 w6 own6 hs6 hf6 ho6
  obtain ⟨KS', h6⟩ := h5.sayNext x hf6 hs6 ho6
  obtain ⟨ad6, cp6, rfl⟩ := hs6.form
  have hb6 : Blk w6 w.heap.size 75 (m1.cells ws1) := h6.sys.ext (w.heap.size, .cells (m1.cells ws1).toArray 75 (0, 0)) (by simp)
  have c2 : w6.cell? ⟨w.heap.size, 2, none⟩ = some m1.vS := hb6.cell 2
  have f2 : w6.frozen? ⟨w.heap.size, 2, none⟩ = false := hb6.free 2
  have H6 := Lib.hid h6
  have HB6 := Lib.hid hb6
  clear hb6 h6 h5 hb5 hs6 hf6 ho6
  obtain ⟨ws2, hws2⟩ : ∃ y, y = ws1.say x := ⟨_, rfl⟩
  obtain ⟨m2, hm2⟩ : ∃ y, y = ({ m1 with vS := .slice ad6 (ws1.sent.length + 1) cp6, ownS := own6, KS := KS' } : WM) := ⟨_, rfl⟩
  have hcs6 : (m1.cells ws1).set 2 (.slice ad6 (ws1.sent.length + 1) cp6) = m2.cells ws2 := by rw [hm2, hws2]; rfl
  have hpt6 : ptrs m2.ps = ptrs m1.ps := by rw [hm2]
  have h6 := H6.out
  rw [← hws2, ← hm2] at h6
  clear H6
  have H6 := Lib.hid h6
  have HCS6 := Lib.hid hcs6
  have HPT6 := Lib.hid hpt6
  have HWS2 := Lib.hid hws2
  clear h6 hcs6 hpt6 hws2 hm2
  go_wp2_with (with_reducible refine atLoad 75 rfl ?_; refine hold ?_; intro qG hG)
  refine hG.1 ?_; clear hG qG c2 f2
  refine namedL ?_; intro w7 hw7
  have hb7 : Blk w7 w.heap.size 75 (m2.cells ws2) := by rw [hw7, ← HCS6.out]; exact HB6.out.set 2 _
  have hf7 : Frm w6.heap.size [w.heap.size] w6 w7 := by rw [hw7]; exact (Frm.refl _ _ w6).setCell (p := ⟨w.heap.size, 2, none⟩) (.inl (by simp)) _
  have h7 := H6.out.turnY (b := w.heap.size) (u := .cells (m1.cells ws1).toArray 75 (0, 0)) (by simp) hf7 (Y' := (w.heap.size, .cells (m2.cells ws2).toArray 75 (0, 0)) :: (w.heap.size + 2, .cells zero75.toArray 75 (0, 0)) :: (w.heap.size + 1, .cells [Value.int .u8 6, Value.int .u8 n].toArray 80 (0, 0)) :: Y) (fun y hy => by
    rcases List.mem_cons.1 hy with rfl | hy
    · exact .inr ⟨rfl, hb7⟩
    · refine .inl ⟨List.mem_cons_of_mem _ (List.mem_cons_of_mem _ hy), ?_⟩
      rcases List.mem_cons.1 hy with rfl | hy
      · simp
      · rcases List.mem_cons.1 hy with rfl | hy
        · simp
        · exact (HY.out y hy).1)
  have hz7 : Blk w7 (w.heap.size + 2) 75 zero75 := h7.sys.ext (w.heap.size + 2, .cells zero75.toArray 75 (0, 0)) (by simp)
  clear hw7 hf7
  have H7 := Lib.hid h7
  have HZ7 := Lib.hid hz7
  clear h7 hz7
  refine wpList_loadB (P := Try.prog) (ty := 75) (cs := m2.cells ws2) rfl rfl hb7 rfl Try.underlying75 rfl (m2.cells_info ws2) ?_
  clear hb7
  go_wp2_with (with_reducible refine atStore 75 rfl ?_; refine hold ?_; intro qG hG)
  refine hG.1 ?_; clear hG qG
  refine wpList_storeB (P := Try.prog) (cs := m2.cells ws2) rfl rfl HZ7.out rfl rfl rfl (m2.cells_info ws2) H7.out.cells_one ?_
  have h8 := H7.out.result (fun z hz => (HY.out z hz).2) (m2.cells ws2).toArray
  have hb8 := HZ7.out.row (m2.cells ws2)
  generalize w7.setRow (w.heap.size + 2) (m2.cells ws2).toArray = w8 at h8 hb8 ⊢
  have H8 := Lib.hid h8
  have HB8 := Lib.hid hb8
  clear h8 hb8 HZ7 H7
  go_wp2_with fail
  refine bodyPost_ret (results_ct Try.results41 HB8.out rfl Try.underlying75 rfl (m2.cells_info ws2)) rfl ?_
  rw [← HX3.out, ← HWS1.out, ← HWS2.out]
  exact ⟨m2, rfl, HPT6.out.trans (by rw [HM1.out]), H8.out⟩
end Go.Proofs.Ythmladcepkdheaa
