/-
  Events 1 and 2: a node asks, a node returns.
-/
import Derived.Test.YthmladcepkdheaaWorld3
namespace Go.Proofs.Ythmladcepkdheaa
open Go.RowKit

theorem info41s : (Try.prog.info? 41).map (fun i => (i.zero, i.size, i.bytes)) = some (some (.agg #[.int .i64 0, .int .i64 0, .int .i64 0]), 3, 24) := by kernel_rfl
theorem info_parts3 {i : TypeId} {z : Value} {s n : Nat} (h : (Try.prog.info? i).map (fun i => (i.zero, i.size, i.bytes)) = some (some z, s, n)) : ∃ i0, Try.prog.info? i = some i0 ∧ i0.zero = some z ∧ i0.size = s ∧ i0.bytes = n := by
  obtain ⟨i0, h0, h1⟩ := Option.map_eq_some_iff.1 h
  simp only [Prod.mk.injEq] at h1
  exact ⟨i0, h0, h1.1, h1.2.1, h1.2.2⟩
/-- A word in a row of its own. -/
theorem wordSl (W : World) {b : Nat} (x : Int × Int × Int) (h : Blk W b 41 (wordL x)) : Sl W 41 3 (.slice (some ⟨b, 0, none⟩) 1 1) 1 (wordL x) (some b) :=
  ⟨rfl, .inr ⟨b, 0, 1, _, rfl, rfl, h, Nat.le_refl _, by decide, by simp [wordL], by simp [wordL]⟩⟩

set_option maxRecDepth 100000 in
set_option maxHeartbeats 8000000 in
theorem happen1 {o w : World} {Y : List (Nat × Obj)} {m : WM} {ws : WS} {N : Nat} (h : WAt o w Y m ws) (n k : Nat) (hk : k = n % ws.ns.length) (hn : n < 256) (hpos : 1 ≤ ws.ns.length) (hlen : ws.ns.length ≤ 1000)
    (hfit : ∀ (i : Nat) (s : NS), ws.ns[i]? = some s → s.Fits N) (hN : N ≤ 100000) (hsent : ws.sent.length ≤ 100000) :
    Calls Try.prog 41 #[.agg (m.cells ws).toArray, .agg #[.int .u8 1, .int .u8 n]] w (Hap o Y m ((ws.put k (ws.node k).ask.1).say (ws.node k).ask.2, true)) := by
  have hpl : m.ps.length = ws.ns.length := by rw [← h.ns]; simp
  obtain ⟨g, off, cap, hvN, hownN, hcl, hcm⟩ := h.rowN.pos (by omega)
  have hkl : k < ws.ns.length := by rw [hk]; exact Nat.mod_lt _ (by omega)
  obtain ⟨p, hp, hps⟩ := h.node hkl
  go_enter Try.func41, Try.ntmps41
  iterate 16 go_step
  refine named ?_; intro W hW
  have hb : Blk W w.heap.size 75 (m.cells ws) := by rw [hW]; repeat (first | exact Blk.new w 75 (m.cells ws) | refine Blk.alloc' ?_)
  have hx : Blk W (w.heap.size + 1) 80 [.int .u8 1, .int .u8 n] := by rw [hW]; repeat (first | exact Blk.new' _ 80 [.int .u8 1, .int .u8 n] (by simp) | refine Blk.alloc' ?_)
  have hz : Blk W (w.heap.size + 2) 75 zero75 := by rw [hW]; repeat (first | exact Blk.new' _ 75 zero75 (by simp) | refine Blk.alloc' ?_)
  have hf : Frm w.heap.size [] w W := by rw [hW]; repeat (first | with_reducible exact Frm.refl _ _ _ | with_reducible refine Frm.drewN ?_ | with_reducible refine Frm.drew ?_ | ((with_reducible refine Frm.setCell' ?_ ?_); · first | (left; simp; done) | (right; simp; done) | (right; simp; omega)) | ((with_reducible refine Frm.alloc' ?_ ?_); · first | exact Nat.le_refl _ | (simp; done) | (simp; omega)))
  clear hW
  have h1 : WAt o W ((w.heap.size, .cells (m.cells ws).toArray 75 (0, 0)) :: (w.heap.size + 2, .cells zero75.toArray 75 (0, 0)) :: (w.heap.size + 1, .cells [Value.int .u8 1, Value.int .u8 n].toArray 80 (0, 0)) :: Y) m ws := h.blocks hf [(w.heap.size, .cells (m.cells ws).toArray 75 (0, 0)), (w.heap.size + 2, .cells zero75.toArray 75 (0, 0)), (w.heap.size + 1, .cells [Value.int .u8 1, Value.int .u8 n].toArray 80 (0, 0))] (by
    intro x hx
    simp only [List.mem_cons, List.not_mem_nil, or_false] at hx
    rcases hx with rfl | rfl | rfl
    · exact ⟨Nat.le_refl _, hb⟩
    · exact ⟨by simp, hz⟩
    · exact ⟨by simp, hx⟩)
  have hY : ∀ z ∈ Y, z.1 ≠ w.heap.size ∧ z.1 ≠ w.heap.size + 2 := fun z hz => by have := h.sys.ltX z (by simp [hz]); omega
  have x0 : W.cell? ⟨w.heap.size + 1, 0, none⟩ = some (.int .u8 1) := hx.cell 0
  have x1 : W.cell? ⟨w.heap.size + 1, 1, none⟩ = some (.int .u8 n) := hx.cell 1
  have c1 : W.cell? ⟨w.heap.size, 1, none⟩ = some (.slice (some ⟨g, off, none⟩) m.ps.length cap) := by rw [← hvN]; exact hb.cell 1
  have z : W.cell? ⟨g, off + k, none⟩ = some (.pointer (some ⟨p.b, 0, none⟩)) := h1.ptrCell hvN hp
  rw [hpl] at c1
  have hk' : (n : Int) % (ws.ns.length : Int) = (k : Int) := by rw [hk]; omega
  have hkl' : (k : Int) < (ws.ns.length : Int) := by omega
  have HB := Lib.hid hb
  have HX := Lib.hid hx
  have HZ := Lib.hid hz
  have HF := Lib.hid hf
  have H1 := Lib.hid h1
  have HP := Lib.hid hp
  have HPS := Lib.hid hps
  have HPL := Lib.hid hpl
  have HVN := Lib.hid hvN
  have HWA := Lib.hid h
  have HK := Lib.hid hk
  have HK2 := Lib.hid hk'
  have HKL := Lib.hid hkl
  have HY := Lib.hid hY
  clear hY hkl hk' hk h hvN hpl hps hp h1 hf hz hx hb
  have hfp : p.s.Fits N := by rw [HPS.out]; exact hfit k _ (ws.node_at HKL.out)
  obtain ⟨i0, hi, hz0, hz1, hz2⟩ := info_parts3 info41s
  have HFP := Lib.hid hfp
  have HI := Lib.hid hi
  have HZ0 := Lib.hid hz0
  have HZ1 := Lib.hid hz1
  have HZ2 := Lib.hid hz2
  have HSENT := Lib.hid hsent
  clear hsent hz2 hz1 hz0 hi hfp
  have hk' := HK2.out
  go_wp2_with fail
  refine (sysAsk H1.out.sys HP.out HFP.out hN).mono ?_; rintro e w2 ⟨rfl, own', h2⟩
  have h3 := H1.out.nodeNext HP.out h2
  rw [HPS.out] at h3 ⊢
  obtain ⟨x, hx⟩ : ∃ x, x = (ws.node k).ask.2 := ⟨_, rfl⟩
  obtain ⟨ws1, hws1⟩ : ∃ y, y = ws.put k (ws.node k).ask.1 := ⟨_, rfl⟩
  obtain ⟨m1, hm1⟩ : ∃ y, y = ({ m with ps := m.ps.set k ⟨p.b, own', (ws.node k).ask.1⟩ } : WM) := ⟨_, rfl⟩
  have hcs : m.cells ws = m1.cells ws1 := by rw [hws1, hm1]; rfl
  have hpt : ptrs m1.ps = ptrs m.ps := by rw [hm1]; exact ptrs_set (p' := ⟨p.b, own', (ws.node k).ask.1⟩) HP.out rfl
  have hsl : ws1.sent.length = ws.sent.length := by rw [hws1]; rfl
  rw [← hx, ← hws1]
  rw [← hws1, ← hm1, hcs] at h3
  clear h2 hk' x0 x1 c1 z hm1
  have HX1 := Lib.hid hx
  have HWS1 := Lib.hid hws1
  have H3 := Lib.hid h3
  have HCS := Lib.hid hcs
  have HPT := Lib.hid hpt
  have HSL := Lib.hid hsl
  clear hsl hpt hcs h3 hws1 hx
  go_wp2_with (with_reducible refine atStore 41 rfl ?_; refine hold ?_; intro qG hG)
  refine hG.1 ?_; clear hG qG
  refine namedL ?_; intro w3 hw3
  have hb3 : Blk w3 w2.heap.size 41 (wordL (0, 0, 0)) := by rw [hw3]; exact Blk.new' w2 41 (wordL (0, 0, 0)) rfl
  have hf3 : Frm w2.heap.size [] w2 w3 := by rw [hw3]; repeat (first | with_reducible exact Frm.refl _ _ _ | with_reducible refine Frm.drewN ?_ | with_reducible refine Frm.drew ?_ | ((with_reducible refine Frm.setCell' ?_ ?_); · first | (left; simp; done) | (right; simp; done) | (right; simp; omega)) | ((with_reducible refine Frm.alloc' ?_ ?_); · first | exact Nat.le_refl _ | (simp; done) | (simp; omega)))
  have h4 := H3.out.beside hf3 (Nat.le_refl _) hb3
  clear hw3
  refine wpList_storeB (P := Try.prog) (ty := 41) (cs := wordL x) rfl rfl hb3 rfl rfl rfl (wordL_info _) (wordL_one _) ?_
  have h5 := h4.turnHead (fun y hy => by have := H3.out.sys.ltX y (by simp only [List.mem_append]; exact .inr hy); omega) (wordL x).toArray
  generalize w3.setRow w2.heap.size (wordL x).toArray = w4 at h5 ⊢
  clear h4 hb3 hf3 w3
  have H4 := Lib.hid h5
  clear h5
  have HBW := Lib.hid (show Blk w4 w2.heap.size 41 (wordL x) from H4.out.sys.ext (w2.heap.size, .cells (wordL x).toArray 41 (0, 0)) (by simp))
  have hb4 : Blk w4 w.heap.size 75 (m1.cells ws1) := H4.out.sys.ext (w.heap.size, .cells (m1.cells ws1).toArray 75 (0, 0)) (by simp)
  have c2 : w4.cell? ⟨w.heap.size, 2, none⟩ = some m1.vS := hb4.cell 2
  have HB4 := Lib.hid hb4
  clear hb4
  go_wp2_with (first | (with_reducible refine atLoad 41 rfl ?_; refine wpList_loadB (ty := 41) (b := w2.heap.size) (T := 41) (cs := wordL x) rfl rfl HBW.out rfl Try.underlying41 rfl (wordL_info _) ?_) | (at_builtin; refine hold ?_; intro qG hG))
  refine hG.1 ?_; clear hG qG
  refine namedL ?_; intro w5 hw5
  have hb5 : Blk w5 w4.heap.size 41 (wordL x) := by rw [hw5]; exact Blk.new' w4 41 (wordL x) rfl
  have hf5 : Frm w4.heap.size [] w4 w5 := by rw [hw5]; repeat (first | with_reducible exact Frm.refl _ _ _ | with_reducible refine Frm.drewN ?_ | with_reducible refine Frm.drew ?_ | ((with_reducible refine Frm.setCell' ?_ ?_); · first | (left; simp; done) | (right; simp; done) | (right; simp; omega)) | ((with_reducible refine Frm.alloc' ?_ ?_); · first | exact Nat.le_refl _ | (simp; done) | (simp; omega)))
  have h5 := H4.out.quiet hf5
  clear hw5 hf5 c2
  refine wpList_append_both rfl (.tmp 36) (.tmp 38) 72 rfl 41 i0 _ 3 24 Try.underlying72 HI.out HZ0.out HZ1.out HZ2.out rfl m1.vS ws1.sent.length (wordsL ws1.sent) m1.ownS rfl h5.rowS _ 1 (wordL x) (some w4.heap.size) rfl (wordSl _ x hb5) (wordL_one x) (by have := HSENT.out; have := HSL.out; unfold maxLen; omega) (by have := HSENT.out; have := HSL.out; omega) ?_
  intro v6 w6 own6 hs6 hf6 ho6
  obtain ⟨KS', h6⟩ := h5.sayNext x hf6 hs6 ho6
  obtain ⟨ad6, cp6, rfl⟩ := hs6.form
  have hb6 : Blk w6 w.heap.size 75 (m1.cells ws1) := h6.sys.ext (w.heap.size, .cells (m1.cells ws1).toArray 75 (0, 0)) (by simp)
  have c2 : w6.cell? ⟨w.heap.size, 2, none⟩ = some m1.vS := hb6.cell 2
  have f2 : w6.frozen? ⟨w.heap.size, 2, none⟩ = false := hb6.free 2
  have H6 := Lib.hid h6
  have HB6 := Lib.hid hb6
  clear hb6 h6 h5 hb5 hs6 hf6 ho6
  obtain ⟨ws2, hws2⟩ : ∃ y, y = ws1.say x := ⟨_, rfl⟩
  obtain ⟨m2, hm2⟩ : ∃ y, y = ({ m1 with vS := .slice ad6 (ws1.sent.length + 1) cp6, ownS := own6, KS := KS' } : WM) := ⟨_, rfl⟩
  have hcs6 : (m1.cells ws1).set 2 (.slice ad6 (ws1.sent.length + 1) cp6) = m2.cells ws2 := by rw [hm2, hws2]; rfl
  have hpt6 : ptrs m2.ps = ptrs m1.ps := by rw [hm2]
  have h6 := H6.out
  rw [← hws2, ← hm2] at h6
  clear H6
  have H6 := Lib.hid h6
  have HCS6 := Lib.hid hcs6
  have HPT6 := Lib.hid hpt6
  have HWS2 := Lib.hid hws2
  clear h6 hcs6 hpt6 hws2 hm2
  go_wp2_with (with_reducible refine atLoad 75 rfl ?_; refine hold ?_; intro qG hG)
  refine hG.1 ?_; clear hG qG c2 f2
  refine namedL ?_; intro w7 hw7
  have hb7 : Blk w7 w.heap.size 75 (m2.cells ws2) := by rw [hw7, ← HCS6.out]; exact HB6.out.set 2 _
  have hf7 : Frm w6.heap.size [w.heap.size] w6 w7 := by rw [hw7]; exact (Frm.refl _ _ w6).setCell (p := ⟨w.heap.size, 2, none⟩) (.inl (by simp)) _
  have h7 := H6.out.turnY (b := w.heap.size) (u := .cells (m1.cells ws1).toArray 75 (0, 0)) (by simp) hf7 (Y' := (w.heap.size, .cells (m2.cells ws2).toArray 75 (0, 0)) :: (w.heap.size + 2, .cells zero75.toArray 75 (0, 0)) :: (w.heap.size + 1, .cells [Value.int .u8 1, Value.int .u8 n].toArray 80 (0, 0)) :: Y) (fun y hy => by
    rcases List.mem_cons.1 hy with rfl | hy
    · exact .inr ⟨rfl, hb7⟩
    · refine .inl ⟨List.mem_cons_of_mem _ (List.mem_cons_of_mem _ hy), ?_⟩
      rcases List.mem_cons.1 hy with rfl | hy
      · simp
      · rcases List.mem_cons.1 hy with rfl | hy
        · simp
        · exact (HY.out y hy).1)
  have hz7 : Blk w7 (w.heap.size + 2) 75 zero75 := h7.sys.ext (w.heap.size + 2, .cells zero75.toArray 75 (0, 0)) (by simp)
  clear hw7 hf7
  have H7 := Lib.hid h7
  have HZ7 := Lib.hid hz7
  clear h7 hz7
  refine wpList_loadB (P := Try.prog) (ty := 75) (cs := m2.cells ws2) rfl rfl hb7 rfl Try.underlying75 rfl (m2.cells_info ws2) ?_
  clear hb7
  go_wp2_with (with_reducible refine atStore 75 rfl ?_; refine hold ?_; intro qG hG)
  refine hG.1 ?_; clear hG qG
  refine wpList_storeB (P := Try.prog) (cs := m2.cells ws2) rfl rfl HZ7.out rfl rfl rfl (m2.cells_info ws2) H7.out.cells_one ?_
  have h8 := H7.out.result (fun z hz => (HY.out z hz).2) (m2.cells ws2).toArray
  have hb8 := HZ7.out.row (m2.cells ws2)
  generalize w7.setRow (w.heap.size + 2) (m2.cells ws2).toArray = w8 at h8 hb8 ⊢
  have H8 := Lib.hid h8
  have HB8 := Lib.hid hb8
  clear h8 hb8 HZ7 H7
  go_wp2_with fail
  refine bodyPost_ret (results_ct Try.results41 HB8.out rfl Try.underlying75 rfl (m2.cells_info ws2)) rfl ?_
  rw [← HX1.out, ← HWS1.out, ← HWS2.out]
  exact ⟨m2, rfl, HPT6.out.trans HPT.out, H8.out⟩

set_option maxRecDepth 100000 in
set_option maxHeartbeats 8000000 in
theorem happen2a {o w : World} {Y : List (Nat × Obj)} {m : WM} {ws : WS} {N : Nat} (h : WAt o w Y m ws) (n k : Nat) (hk : k = n % ws.ns.length) (hn : n < 256) (hpos : 1 ≤ ws.ns.length) (hlen : ws.ns.length ≤ 1000)
    (hfit : ∀ (i : Nat) (s : NS), ws.ns[i]? = some s → s.Fits N) (hN : N ≤ 100000) (hsent : ws.sent.length ≤ 100000) (hb : (ws.node k).back = (ws.node k, (0, 0, 0), 9)) :
    Calls Try.prog 41 #[.agg (m.cells ws).toArray, .agg #[.int .u8 2, .int .u8 n]] w (Hap o Y m (ws, true)) := by
  have HBK := Lib.hid hb
  clear hb
  have hpl : m.ps.length = ws.ns.length := by rw [← h.ns]; simp
  obtain ⟨g, off, cap, hvN, hownN, hcl, hcm⟩ := h.rowN.pos (by omega)
  have hkl : k < ws.ns.length := by rw [hk]; exact Nat.mod_lt _ (by omega)
  obtain ⟨p, hp, hps⟩ := h.node hkl
  go_enter Try.func41, Try.ntmps41
  iterate 16 go_step
  refine named ?_; intro W hW
  have hb : Blk W w.heap.size 75 (m.cells ws) := by rw [hW]; repeat (first | exact Blk.new w 75 (m.cells ws) | refine Blk.alloc' ?_)
  have hx : Blk W (w.heap.size + 1) 80 [.int .u8 2, .int .u8 n] := by rw [hW]; repeat (first | exact Blk.new' _ 80 [.int .u8 2, .int .u8 n] (by simp) | refine Blk.alloc' ?_)
  have hz : Blk W (w.heap.size + 2) 75 zero75 := by rw [hW]; repeat (first | exact Blk.new' _ 75 zero75 (by simp) | refine Blk.alloc' ?_)
  have hf : Frm w.heap.size [] w W := by rw [hW]; repeat (first | with_reducible exact Frm.refl _ _ _ | with_reducible refine Frm.drewN ?_ | with_reducible refine Frm.drew ?_ | ((with_reducible refine Frm.setCell' ?_ ?_); · first | (left; simp; done) | (right; simp; done) | (right; simp; omega)) | ((with_reducible refine Frm.alloc' ?_ ?_); · first | exact Nat.le_refl _ | (simp; done) | (simp; omega)))
  clear hW
  have h1 : WAt o W ((w.heap.size, .cells (m.cells ws).toArray 75 (0, 0)) :: (w.heap.size + 2, .cells zero75.toArray 75 (0, 0)) :: (w.heap.size + 1, .cells [Value.int .u8 2, Value.int .u8 n].toArray 80 (0, 0)) :: Y) m ws := h.blocks hf [(w.heap.size, .cells (m.cells ws).toArray 75 (0, 0)), (w.heap.size + 2, .cells zero75.toArray 75 (0, 0)), (w.heap.size + 1, .cells [Value.int .u8 2, Value.int .u8 n].toArray 80 (0, 0))] (by
    intro x hx
    simp only [List.mem_cons, List.not_mem_nil, or_false] at hx
    rcases hx with rfl | rfl | rfl
    · exact ⟨Nat.le_refl _, hb⟩
    · exact ⟨by simp, hz⟩
    · exact ⟨by simp, hx⟩)
  have hY : ∀ z ∈ Y, z.1 ≠ w.heap.size ∧ z.1 ≠ w.heap.size + 2 := fun z hz => by have := h.sys.ltX z (by simp [hz]); omega
  have x0 : W.cell? ⟨w.heap.size + 1, 0, none⟩ = some (.int .u8 2) := hx.cell 0
  have x1 : W.cell? ⟨w.heap.size + 1, 1, none⟩ = some (.int .u8 n) := hx.cell 1
  have c1 : W.cell? ⟨w.heap.size, 1, none⟩ = some (.slice (some ⟨g, off, none⟩) m.ps.length cap) := by rw [← hvN]; exact hb.cell 1
  have z : W.cell? ⟨g, off + k, none⟩ = some (.pointer (some ⟨p.b, 0, none⟩)) := h1.ptrCell hvN hp
  rw [hpl] at c1
  have hk' : (n : Int) % (ws.ns.length : Int) = (k : Int) := by rw [hk]; omega
  have hkl' : (k : Int) < (ws.ns.length : Int) := by omega
  have HB := Lib.hid hb
  have HX := Lib.hid hx
  have HZ := Lib.hid hz
  have HF := Lib.hid hf
  have H1 := Lib.hid h1
  have HP := Lib.hid hp
  have HPS := Lib.hid hps
  have HPL := Lib.hid hpl
  have HVN := Lib.hid hvN
  have HWA := Lib.hid h
  have HK := Lib.hid hk
  have HK2 := Lib.hid hk'
  have HKL := Lib.hid hkl
  have HY := Lib.hid hY
  clear hY hkl hk' hk h hvN hpl hps hp h1 hf hz hx hb
  have hfp : p.s.Fits N := by rw [HPS.out]; exact hfit k _ (ws.node_at HKL.out)
  obtain ⟨i0, hi, hz0, hz1, hz2⟩ := info_parts3 info41s
  have HFP := Lib.hid hfp
  have HI := Lib.hid hi
  have HZ0 := Lib.hid hz0
  have HZ1 := Lib.hid hz1
  have HZ2 := Lib.hid hz2
  have HSENT := Lib.hid hsent
  clear hsent hz2 hz1 hz0 hi hfp
  have hk' := HK2.out
  go_wp2_with fail
  refine (sysReturn H1.out.sys HP.out HFP.out).mono ?_; rintro e w2 ⟨rfl, own', h2⟩
  have h3 := H1.out.nodeNext HP.out h2
  rw [HPS.out, HBK.out] at h3 ⊢
  clear h2 hk' x0 x1 c1 z
  obtain ⟨x, hx⟩ : ∃ x : Int × Int × Int, x = (0, 0, 0) := ⟨_, rfl⟩
  obtain ⟨ws1, hws1⟩ : ∃ y, y = ws.put k (ws.node k) := ⟨_, rfl⟩
  obtain ⟨m1, hm1⟩ : ∃ y, y = ({ m with ps := m.ps.set k ⟨p.b, own', ws.node k⟩ } : WM) := ⟨_, rfl⟩
  have hcs : m.cells ws = m1.cells ws1 := by rw [hws1, hm1]; rfl
  have hpt : ptrs m1.ps = ptrs m.ps := by rw [hm1]; exact ptrs_set (p' := ⟨p.b, own', ws.node k⟩) HP.out rfl
  have hsl : ws1.sent.length = ws.sent.length := by rw [hws1]; rfl
  simp only [] at h3
  rw [← hws1, ← hm1, hcs] at h3
  rw [← hx]
  clear hm1
  have HX1 := Lib.hid hx
  have HWS1 := Lib.hid hws1
  have H3 := Lib.hid h3
  have HCS := Lib.hid hcs
  have HPT := Lib.hid hpt
  have HSL := Lib.hid hsl
  clear hsl hpt hcs h3 hws1 hx
  go_wp2_with (with_reducible refine atStore 41 rfl ?_; refine hold ?_; intro qG hG)
  refine hG.1 ?_; clear hG qG
  refine namedL ?_; intro w3 hw3
  have hb3 : Blk w3 w2.heap.size 41 (wordL (0, 0, 0)) := by rw [hw3]; exact Blk.new' w2 41 (wordL (0, 0, 0)) rfl
  have hf3 : Frm w2.heap.size [] w2 w3 := by rw [hw3]; repeat (first | with_reducible exact Frm.refl _ _ _ | with_reducible refine Frm.drewN ?_ | with_reducible refine Frm.drew ?_ | ((with_reducible refine Frm.setCell' ?_ ?_); · first | (left; simp; done) | (right; simp; done) | (right; simp; omega)) | ((with_reducible refine Frm.alloc' ?_ ?_); · first | exact Nat.le_refl _ | (simp; done) | (simp; omega)))
  have h4 := H3.out.beside hf3 (Nat.le_refl _) hb3
  clear hw3
  refine wpList_storeB (P := Try.prog) (ty := 41) (cs := wordL x) rfl rfl hb3 rfl rfl rfl (wordL_info _) (wordL_one _) ?_
  have h5 := h4.turnHead (fun y hy => by have := H3.out.sys.ltX y (by simp only [List.mem_append]; exact .inr hy); omega) (wordL x).toArray
  generalize w3.setRow w2.heap.size (wordL x).toArray = w4 at h5 ⊢
  clear h4 hb3 hf3 w3
  have H4 := Lib.hid h5
  clear h5
  have hb4 : Blk w4 w.heap.size 75 (m1.cells ws1) := H4.out.sys.ext (w.heap.size, .cells (m1.cells ws1).toArray 75 (0, 0)) (by simp)
  have hz4 : Blk w4 (w.heap.size + 2) 75 zero75 := H4.out.sys.ext (w.heap.size + 2, .cells zero75.toArray 75 (0, 0)) (by simp)
  have HB4 := Lib.hid hb4
  have HZ4 := Lib.hid hz4
  clear hb4 hz4
  go_wp2_with (first | (with_reducible refine atLoad 75 rfl ?_; refine wpList_loadB (P := Try.prog) (ty := 75) (b := w.heap.size) (T := 75) (cs := m1.cells ws1) rfl rfl HB4.out rfl Try.underlying75 rfl (m1.cells_info ws1) ?_) | (with_reducible refine atStore 75 rfl ?_; refine hold ?_; intro qG hG))
  refine hG.1 ?_; clear hG qG
  refine wpList_storeB (P := Try.prog) (cs := m1.cells ws1) rfl rfl HZ4.out rfl rfl rfl (m1.cells_info ws1) H4.out.cells_one ?_
  have h8 := (H4.out.less (fun y hy => List.mem_cons_of_mem _ hy)).result (fun z hz => (HY.out z hz).2) (m1.cells ws1).toArray
  have hb8 := HZ4.out.row (m1.cells ws1)
  generalize w4.setRow (w.heap.size + 2) (m1.cells ws1).toArray = w8 at h8 hb8 ⊢
  have H8 := Lib.hid h8
  have HB8 := Lib.hid hb8
  clear h8 hb8 HZ4 HB4
  go_wp2_with fail
  refine bodyPost_ret (results_ct Try.results41 HB8.out rfl Try.underlying75 rfl (m1.cells_info ws1)) rfl ?_
  have hself : ws.put k (ws.node k) = ws := by
    unfold WS.put
    have := ws.node_at HKL.out
    obtain ⟨q1, q2⟩ := List.getElem?_eq_some_iff.1 this
    rw [← q2, List.set_getElem_self]
  have e := HWS1.out.trans hself
  have h8 := H8.out
  rw [e] at h8
  exact ⟨m1, by rw [e]; rfl, HPT.out, h8⟩

set_option maxRecDepth 100000 in
set_option maxHeartbeats 8000000 in
theorem happen2b {o w : World} {Y : List (Nat × Obj)} {m : WM} {ws : WS} {N : Nat} (h : WAt o w Y m ws) (n k : Nat) (hk : k = n % ws.ns.length) (hn : n < 256) (hpos : 1 ≤ ws.ns.length) (hlen : ws.ns.length ≤ 1000)
    (hfit : ∀ (i : Nat) (s : NS), ws.ns[i]? = some s → s.Fits N) (hN : N ≤ 100000) (hsent : ws.sent.length ≤ 100000) (hb : (ws.node k).back = ((ws.node k).fall, (3, (ws.node k).number, (ws.node k).last), 0)) :
    Calls Try.prog 41 #[.agg (m.cells ws).toArray, .agg #[.int .u8 2, .int .u8 n]] w (Hap o Y m ((ws.put k (ws.node k).fall).say (3, (ws.node k).number, (ws.node k).last), true)) := by
  have HBK := Lib.hid hb
  clear hb
  have hpl : m.ps.length = ws.ns.length := by rw [← h.ns]; simp
  obtain ⟨g, off, cap, hvN, hownN, hcl, hcm⟩ := h.rowN.pos (by omega)
  have hkl : k < ws.ns.length := by rw [hk]; exact Nat.mod_lt _ (by omega)
  obtain ⟨p, hp, hps⟩ := h.node hkl
  go_enter Try.func41, Try.ntmps41
  iterate 16 go_step
  refine named ?_; intro W hW
  have hb : Blk W w.heap.size 75 (m.cells ws) := by rw [hW]; repeat (first | exact Blk.new w 75 (m.cells ws) | refine Blk.alloc' ?_)
  have hx : Blk W (w.heap.size + 1) 80 [.int .u8 2, .int .u8 n] := by rw [hW]; repeat (first | exact Blk.new' _ 80 [.int .u8 2, .int .u8 n] (by simp) | refine Blk.alloc' ?_)
  have hz : Blk W (w.heap.size + 2) 75 zero75 := by rw [hW]; repeat (first | exact Blk.new' _ 75 zero75 (by simp) | refine Blk.alloc' ?_)
  have hf : Frm w.heap.size [] w W := by rw [hW]; repeat (first | with_reducible exact Frm.refl _ _ _ | with_reducible refine Frm.drewN ?_ | with_reducible refine Frm.drew ?_ | ((with_reducible refine Frm.setCell' ?_ ?_); · first | (left; simp; done) | (right; simp; done) | (right; simp; omega)) | ((with_reducible refine Frm.alloc' ?_ ?_); · first | exact Nat.le_refl _ | (simp; done) | (simp; omega)))
  clear hW
  have h1 : WAt o W ((w.heap.size, .cells (m.cells ws).toArray 75 (0, 0)) :: (w.heap.size + 2, .cells zero75.toArray 75 (0, 0)) :: (w.heap.size + 1, .cells [Value.int .u8 2, Value.int .u8 n].toArray 80 (0, 0)) :: Y) m ws := h.blocks hf [(w.heap.size, .cells (m.cells ws).toArray 75 (0, 0)), (w.heap.size + 2, .cells zero75.toArray 75 (0, 0)), (w.heap.size + 1, .cells [Value.int .u8 2, Value.int .u8 n].toArray 80 (0, 0))] (by
    intro x hx
    simp only [List.mem_cons, List.not_mem_nil, or_false] at hx
    rcases hx with rfl | rfl | rfl
    · exact ⟨Nat.le_refl _, hb⟩
    · exact ⟨by simp, hz⟩
    · exact ⟨by simp, hx⟩)
  have hY : ∀ z ∈ Y, z.1 ≠ w.heap.size ∧ z.1 ≠ w.heap.size + 2 := fun z hz => by have := h.sys.ltX z (by simp [hz]); omega
  have x0 : W.cell? ⟨w.heap.size + 1, 0, none⟩ = some (.int .u8 2) := hx.cell 0
  have x1 : W.cell? ⟨w.heap.size + 1, 1, none⟩ = some (.int .u8 n) := hx.cell 1
  have c1 : W.cell? ⟨w.heap.size, 1, none⟩ = some (.slice (some ⟨g, off, none⟩) m.ps.length cap) := by rw [← hvN]; exact hb.cell 1
  have z : W.cell? ⟨g, off + k, none⟩ = some (.pointer (some ⟨p.b, 0, none⟩)) := h1.ptrCell hvN hp
  rw [hpl] at c1
  have hk' : (n : Int) % (ws.ns.length : Int) = (k : Int) := by rw [hk]; omega
  have hkl' : (k : Int) < (ws.ns.length : Int) := by omega
  have HB := Lib.hid hb
  have HX := Lib.hid hx
  have HZ := Lib.hid hz
  have HF := Lib.hid hf
  have H1 := Lib.hid h1
  have HP := Lib.hid hp
  have HPS := Lib.hid hps
  have HPL := Lib.hid hpl
  have HVN := Lib.hid hvN
  have HWA := Lib.hid h
  have HK := Lib.hid hk
  have HK2 := Lib.hid hk'
  have HKL := Lib.hid hkl
  have HY := Lib.hid hY
  clear hY hkl hk' hk h hvN hpl hps hp h1 hf hz hx hb
  have hfp : p.s.Fits N := by rw [HPS.out]; exact hfit k _ (ws.node_at HKL.out)
  obtain ⟨i0, hi, hz0, hz1, hz2⟩ := info_parts3 info41s
  have HFP := Lib.hid hfp
  have HI := Lib.hid hi
  have HZ0 := Lib.hid hz0
  have HZ1 := Lib.hid hz1
  have HZ2 := Lib.hid hz2
  have HSENT := Lib.hid hsent
  clear hsent hz2 hz1 hz0 hi hfp
  have hk' := HK2.out
  go_wp2_with fail
  refine (sysReturn H1.out.sys HP.out HFP.out).mono ?_; rintro e w2 ⟨rfl, own', h2⟩
  have h3 := H1.out.nodeNext HP.out h2
  rw [HPS.out, HBK.out] at h3 ⊢
  clear h2 hk' x0 x1 c1 z
  obtain ⟨x, hx⟩ : ∃ x : Int × Int × Int, x = (3, (ws.node k).number, (ws.node k).last) := ⟨_, rfl⟩
  obtain ⟨ws1, hws1⟩ : ∃ y, y = ws.put k ((ws.node k).fall) := ⟨_, rfl⟩
  obtain ⟨m1, hm1⟩ : ∃ y, y = ({ m with ps := m.ps.set k ⟨p.b, own', (ws.node k).fall⟩ } : WM) := ⟨_, rfl⟩
  have hcs : m.cells ws = m1.cells ws1 := by rw [hws1, hm1]; rfl
  have hpt : ptrs m1.ps = ptrs m.ps := by rw [hm1]; exact ptrs_set (p' := ⟨p.b, own', (ws.node k).fall⟩) HP.out rfl
  have hsl : ws1.sent.length = ws.sent.length := by rw [hws1]; rfl
  simp only [] at h3
  rw [← hws1, ← hm1, hcs] at h3
  rw [← hx]
  clear hm1
  have HX1 := Lib.hid hx
  have HWS1 := Lib.hid hws1
  have H3 := Lib.hid h3
  have HCS := Lib.hid hcs
  have HPT := Lib.hid hpt
  have HSL := Lib.hid hsl
  clear hsl hpt hcs h3 hws1 hx
  go_wp2_with (with_reducible refine atStore 41 rfl ?_; refine hold ?_; intro qG hG)
  refine hG.1 ?_; clear hG qG
  refine namedL ?_; intro w3 hw3
  have hb3 : Blk w3 w2.heap.size 41 (wordL (0, 0, 0)) := by rw [hw3]; exact Blk.new' w2 41 (wordL (0, 0, 0)) rfl
  have hf3 : Frm w2.heap.size [] w2 w3 := by rw [hw3]; repeat (first | with_reducible exact Frm.refl _ _ _ | with_reducible refine Frm.drewN ?_ | with_reducible refine Frm.drew ?_ | ((with_reducible refine Frm.setCell' ?_ ?_); · first | (left; simp; done) | (right; simp; done) | (right; simp; omega)) | ((with_reducible refine Frm.alloc' ?_ ?_); · first | exact Nat.le_refl _ | (simp; done) | (simp; omega)))
  have h4 := H3.out.beside hf3 (Nat.le_refl _) hb3
  clear hw3
  refine wpList_storeB (P := Try.prog) (ty := 41) (cs := wordL x) rfl rfl hb3 rfl rfl rfl (wordL_info _) (wordL_one _) ?_
  have h5 := h4.turnHead (fun y hy => by have := H3.out.sys.ltX y (by simp only [List.mem_append]; exact .inr hy); omega) (wordL x).toArray
  generalize w3.setRow w2.heap.size (wordL x).toArray = w4 at h5 ⊢
  clear h4 hb3 hf3 w3
  have H4 := Lib.hid h5
  clear h5
  have HBW := Lib.hid (show Blk w4 w2.heap.size 41 (wordL x) from H4.out.sys.ext (w2.heap.size, .cells (wordL x).toArray 41 (0, 0)) (by simp))
  have hb4 : Blk w4 w.heap.size 75 (m1.cells ws1) := H4.out.sys.ext (w.heap.size, .cells (m1.cells ws1).toArray 75 (0, 0)) (by simp)
  have c2 : w4.cell? ⟨w.heap.size, 2, none⟩ = some m1.vS := hb4.cell 2
  have HB4 := Lib.hid hb4
  clear hb4
  go_wp2_with (first | (with_reducible refine atLoad 41 rfl ?_; refine wpList_loadB (ty := 41) (b := w2.heap.size) (T := 41) (cs := wordL x) rfl rfl HBW.out rfl Try.underlying41 rfl (wordL_info _) ?_) | (at_builtin; refine hold ?_; intro qG hG))
  refine hG.1 ?_; clear hG qG
  refine namedL ?_; intro w5 hw5
  have hb5 : Blk w5 w4.heap.size 41 (wordL x) := by rw [hw5]; exact Blk.new' w4 41 (wordL x) rfl
  have hf5 : Frm w4.heap.size [] w4 w5 := by rw [hw5]; repeat (first | with_reducible exact Frm.refl _ _ _ | with_reducible refine Frm.drewN ?_ | with_reducible refine Frm.drew ?_ | ((with_reducible refine Frm.setCell' ?_ ?_); · first | (left; simp; done) | (right; simp; done) | (right; simp; omega)) | ((with_reducible refine Frm.alloc' ?_ ?_); · first | exact Nat.le_refl _ | (simp; done) | (simp; omega)))
  have h5 := H4.out.quiet hf5
  clear hw5 hf5 c2
  refine wpList_append_both rfl (.tmp 58) (.tmp 60) 72 rfl 41 i0 _ 3 24 Try.underlying72 HI.out HZ0.out HZ1.out HZ2.out rfl m1.vS ws1.sent.length (wordsL ws1.sent) m1.ownS rfl h5.rowS _ 1 (wordL x) (some w4.heap.size) rfl (wordSl _ x hb5) (wordL_one x) (by have := HSENT.out; have := HSL.out; unfold maxLen; omega) (by have := HSENT.out; have := HSL.out; omega) ?_
  intro v6 w6 own6 hs6 hf6 ho6
  obtain ⟨KS', h6⟩ := h5.sayNext x hf6 hs6 ho6
  obtain ⟨ad6, cp6, rfl⟩ := hs6.form
  have hb6 : Blk w6 w.heap.size 75 (m1.cells ws1) := h6.sys.ext (w.heap.size, .cells (m1.cells ws1).toArray 75 (0, 0)) (by simp)
  have c2 : w6.cell? ⟨w.heap.size, 2, none⟩ = some m1.vS := hb6.cell 2
  have f2 : w6.frozen? ⟨w.heap.size, 2, none⟩ = false := hb6.free 2
  have H6 := Lib.hid h6
  have HB6 := Lib.hid hb6
  clear hb6 h6 h5 hb5 hs6 hf6 ho6
  obtain ⟨ws2, hws2⟩ : ∃ y, y = ws1.say x := ⟨_, rfl⟩
  obtain ⟨m2, hm2⟩ : ∃ y, y = ({ m1 with vS := .slice ad6 (ws1.sent.length + 1) cp6, ownS := own6, KS := KS' } : WM) := ⟨_, rfl⟩
  have hcs6 : (m1.cells ws1).set 2 (.slice ad6 (ws1.sent.length + 1) cp6) = m2.cells ws2 := by rw [hm2, hws2]; rfl
  have hpt6 : ptrs m2.ps = ptrs m1.ps := by rw [hm2]
  have h6 := H6.out
  rw [← hws2, ← hm2] at h6
  clear H6
  have H6 := Lib.hid h6
  have HCS6 := Lib.hid hcs6
  have HPT6 := Lib.hid hpt6
  have HWS2 := Lib.hid hws2
  clear h6 hcs6 hpt6 hws2 hm2
  go_wp2_with (with_reducible refine atLoad 75 rfl ?_; refine hold ?_; intro qG hG)
  refine hG.1 ?_; clear hG qG c2 f2
  refine namedL ?_; intro w7 hw7
  have hb7 : Blk w7 w.heap.size 75 (m2.cells ws2) := by rw [hw7, ← HCS6.out]; exact HB6.out.set 2 _
  have hf7 : Frm w6.heap.size [w.heap.size] w6 w7 := by rw [hw7]; exact (Frm.refl _ _ w6).setCell (p := ⟨w.heap.size, 2, none⟩) (.inl (by simp)) _
  have h7 := H6.out.turnY (b := w.heap.size) (u := .cells (m1.cells ws1).toArray 75 (0, 0)) (by simp) hf7 (Y' := (w.heap.size, .cells (m2.cells ws2).toArray 75 (0, 0)) :: (w.heap.size + 2, .cells zero75.toArray 75 (0, 0)) :: (w.heap.size + 1, .cells [Value.int .u8 2, Value.int .u8 n].toArray 80 (0, 0)) :: Y) (fun y hy => by
    rcases List.mem_cons.1 hy with rfl | hy
    · exact .inr ⟨rfl, hb7⟩
    · refine .inl ⟨List.mem_cons_of_mem _ (List.mem_cons_of_mem _ hy), ?_⟩
      rcases List.mem_cons.1 hy with rfl | hy
      · simp
      · rcases List.mem_cons.1 hy with rfl | hy
        · simp
        · exact (HY.out y hy).1)
  have hz7 : Blk w7 (w.heap.size + 2) 75 zero75 := h7.sys.ext (w.heap.size + 2, .cells zero75.toArray 75 (0, 0)) (by simp)
  clear hw7 hf7
  have H7 := Lib.hid h7
  have HZ7 := Lib.hid hz7
  clear h7 hz7
  refine wpList_loadB (P := Try.prog) (ty := 75) (cs := m2.cells ws2) rfl rfl hb7 rfl Try.underlying75 rfl (m2.cells_info ws2) ?_
  clear hb7
  go_wp2_with (with_reducible refine atStore 75 rfl ?_; refine hold ?_; intro qG hG)
  refine hG.1 ?_; clear hG qG
  refine wpList_storeB (P := Try.prog) (cs := m2.cells ws2) rfl rfl HZ7.out rfl rfl rfl (m2.cells_info ws2) H7.out.cells_one ?_
  have h8 := H7.out.result (fun z hz => (HY.out z hz).2) (m2.cells ws2).toArray
  have hb8 := HZ7.out.row (m2.cells ws2)
  generalize w7.setRow (w.heap.size + 2) (m2.cells ws2).toArray = w8 at h8 hb8 ⊢
  have H8 := Lib.hid h8
  have HB8 := Lib.hid hb8
  clear h8 hb8 HZ7 H7
  go_wp2_with fail
  refine bodyPost_ret (results_ct Try.results41 HB8.out rfl Try.underlying75 rfl (m2.cells_info ws2)) rfl ?_
  rw [← HX1.out, ← HWS1.out, ← HWS2.out]
  exact ⟨m2, rfl, HPT6.out.trans HPT.out, H8.out⟩
end Go.Proofs.Ythmladcepkdheaa
