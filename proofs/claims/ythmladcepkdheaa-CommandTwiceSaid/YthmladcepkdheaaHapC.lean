/-
  Event 7 and all others: the clock of the centre ticks, where it may; the clock of a node ticks.
-/
import Derived.Test.YthmladcepkdheaaWorld3
namespace Go.Proofs.Ythmladcepkdheaa
open Go.RowKit

/-- The first j gaps have grown. -/
def bump (j : Nat) (l : List Int) : List Int := (l.take j).map (· + 1000) ++ l.drop j
theorem bump_len (j : Nat) (l : List Int) : (bump j l).length = l.length := by simp [bump]; omega
theorem bump_zero (l : List Int) : bump 0 l = l := by simp [bump]
theorem bump_all (l : List Int) : bump l.length l = l.map (· + 1000) := by simp [bump]
theorem bump_get {j : Nat} {l : List Int} (h : j < l.length) : (bump j l)[j]? = some l[j] := by
  unfold bump
  rw [List.getElem?_append_right (by simp; omega)]
  simp [Nat.min_eq_left (Nat.le_of_lt h), h]
theorem bump_succ {j : Nat} {l : List Int} (h : j < l.length) : (bump j l).set j (l[j] + 1000) = bump (j + 1) l := by
  unfold bump
  rw [List.set_append_right _ _ (by simp; omega)]
  have e : ((l.take j).map (· + 1000)).length = j := by simp; omega
  rw [e, Nat.sub_self, List.take_succ_eq_append_getElem h, List.map_append, List.append_assoc]
  congr 1
  rw [List.drop_eq_getElem_cons h]
  rfl

set_option maxRecDepth 100000 in
set_option maxHeartbeats 8000000 in
theorem happen7a {o w : World} {Y : List (Nat × Obj)} {m : WM} {ws : WS} (h : WAt o w Y m ws) (n k : Nat) (hk : k = n % ws.ns.length) (hn : n < 256) (hpos : 1 ≤ ws.ns.length) (hlen : ws.ns.length ≤ 1000)
    (bG : ∀ (i : Nat) (g : Int), ws.gap[i]? = some g → -10000000 ≤ g ∧ g ≤ 10000000) (bE : ∀ (i : Nat) (g : Int), ws.edge[i]? = some g → -10000000 ≤ g ∧ g ≤ 10000000) (hc : ¬ closedB ws.gap ws.edge ws.gap.length) :
    Calls Try.prog 41 #[.agg (m.cells ws).toArray, .agg #[.int .u8 7, .int .u8 n]] w (Hap o Y m (ws, true)) := by
  have hgl := h.lenN
  have hel := h.lenE
  have BG := Lib.hid bG
  have BE := Lib.hid bE
  have HC := Lib.hid hc
  have HGL := Lib.hid hgl
  have HEL := Lib.hid hel
  clear hel hgl hc bE bG
  have hpl : m.ps.length = ws.ns.length := by rw [← h.ns]; simp
  obtain ⟨g, off, cap, hvN, hownN, hcl, hcm⟩ := h.rowN.pos (by omega)
  have hkl : k < ws.ns.length := by rw [hk]; exact Nat.mod_lt _ (by omega)
  obtain ⟨p, hp, hps⟩ := h.node hkl
  go_enter Try.func41, Try.ntmps41
  iterate 16 go_step
  refine named ?_; intro W hW
  have hb : Blk W w.heap.size 75 (m.cells ws) := by rw [hW]; repeat (first | exact Blk.new w 75 (m.cells ws) | refine Blk.alloc' ?_)
  have hx : Blk W (w.heap.size + 1) 80 [.int .u8 7, .int .u8 n] := by rw [hW]; repeat (first | exact Blk.new' _ 80 [.int .u8 7, .int .u8 n] (by simp) | refine Blk.alloc' ?_)
  have hz : Blk W (w.heap.size + 2) 75 zero75 := by rw [hW]; repeat (first | exact Blk.new' _ 75 zero75 (by simp) | refine Blk.alloc' ?_)
  have hf : Frm w.heap.size [] w W := by rw [hW]; repeat (first | with_reducible exact Frm.refl _ _ _ | with_reducible refine Frm.drewN ?_ | with_reducible refine Frm.drew ?_ | ((with_reducible refine Frm.setCell' ?_ ?_); · first | (left; simp; done) | (right; simp; done) | (right; simp; omega)) | ((with_reducible refine Frm.alloc' ?_ ?_); · first | exact Nat.le_refl _ | (simp; done) | (simp; omega)))
  clear hW
  have h1 : WAt o W ((w.heap.size, .cells (m.cells ws).toArray 75 (0, 0)) :: (w.heap.size + 2, .cells zero75.toArray 75 (0, 0)) :: (w.heap.size + 1, .cells [Value.int .u8 7, Value.int .u8 n].toArray 80 (0, 0)) :: Y) m ws := h.blocks hf [(w.heap.size, .cells (m.cells ws).toArray 75 (0, 0)), (w.heap.size + 2, .cells zero75.toArray 75 (0, 0)), (w.heap.size + 1, .cells [Value.int .u8 7, Value.int .u8 n].toArray 80 (0, 0))] (by
    intro x hx
    simp only [List.mem_cons, List.not_mem_nil, or_false] at hx
    rcases hx with rfl | rfl | rfl
    · exact ⟨Nat.le_refl _, hb⟩
    · exact ⟨by simp, hz⟩
    · exact ⟨by simp, hx⟩)
  have hY : ∀ z ∈ Y, z.1 ≠ w.heap.size ∧ z.1 ≠ w.heap.size + 2 := fun z hz => by have := h.sys.ltX z (by simp [hz]); omega
  have x0 : W.cell? ⟨w.heap.size + 1, 0, none⟩ = some (.int .u8 7) := hx.cell 0
  have x1 : W.cell? ⟨w.heap.size + 1, 1, none⟩ = some (.int .u8 n) := hx.cell 1
  have c1 : W.cell? ⟨w.heap.size, 1, none⟩ = some (.slice (some ⟨g, off, none⟩) m.ps.length cap) := by rw [← hvN]; exact hb.cell 1
  have z : W.cell? ⟨g, off + k, none⟩ = some (.pointer (some ⟨p.b, 0, none⟩)) := h1.ptrCell hvN hp
  rw [hpl] at c1
  have hk' : (n : Int) % (ws.ns.length : Int) = (k : Int) := by rw [hk]; omega
  have hkl' : (k : Int) < (ws.ns.length : Int) := by omega
  have HB := Lib.hid hb
  have HX := Lib.hid hx
  have HZ := Lib.hid hz
  have HF := Lib.hid hf
  have H1 := Lib.hid h1
  have HP := Lib.hid hp
  have HPS := Lib.hid hps
  have HPL := Lib.hid hpl
  have HVN := Lib.hid hvN
  have HWA := Lib.hid h
  have HK := Lib.hid hk
  have HK2 := Lib.hid hk'
  have HKL := Lib.hid hkl
  have HY := Lib.hid hY
  clear hY hkl hk' hk h hvN hpl hps hp h1 hf hz hx hb
  have hk' := HK2.out
  go_wp2_with (with_reducible refine atLoad 75 rfl ?_; refine wpList_loadB (P := Try.prog) (ty := 75) (b := w.heap.size) (T := 75) (cs := m.cells ws) rfl rfl HB.out rfl Try.underlying75 rfl (m.cells_info ws) ?_)
  refine (may_any m.bc m.vN m.vS ws.slow m.gG m.gE ws.gap ws.edge _ H1.out.blkG H1.out.blkE HEL.out (by have := HGL.out; have := HPL.out; omega) BG.out BE.out).mono ?_; rintro e w2 ⟨⟨r, rfl, hr⟩, hf2⟩
  have hr0 : r = false := by
    cases r
    · rfl
    · exact absurd (hr.1 rfl) HC.out
  subst hr0
  have h2 := H1.out.quiet hf2
  have hb2 : Blk w2 w.heap.size 75 (m.cells ws) := h2.sys.ext (w.heap.size, .cells (m.cells ws).toArray 75 (0, 0)) (by simp)
  have hz2 : Blk w2 (w.heap.size + 2) 75 zero75 := h2.sys.ext (w.heap.size + 2, .cells zero75.toArray 75 (0, 0)) (by simp)
  clear hf2 hr x0 x1 c1 z hk'
  have H2 := Lib.hid h2
  have HB2 := Lib.hid hb2
  have HZ2 := Lib.hid hz2
  clear hz2 hb2 h2
  go_wp2_with (first | (with_reducible refine atLoad 75 rfl ?_; refine wpList_loadB (P := Try.prog) (ty := 75) (b := w.heap.size) (T := 75) (cs := m.cells ws) rfl rfl HB2.out rfl Try.underlying75 rfl (m.cells_info ws) ?_) | (with_reducible refine atStore 75 rfl ?_; refine hold ?_; intro qG hG))
  refine hG.1 ?_; clear hG qG
  refine wpList_storeB (P := Try.prog) (cs := m.cells ws) rfl rfl HZ2.out rfl rfl rfl (m.cells_info ws) H2.out.cells_one ?_
  have h8 := H2.out.result (fun z hz => (HY.out z hz).2) (m.cells ws).toArray
  have hb8 := HZ2.out.row (m.cells ws)
  generalize w2.setRow (w.heap.size + 2) (m.cells ws).toArray = w8 at h8 hb8 ⊢
  have H8 := Lib.hid h8
  have HB8 := Lib.hid hb8
  clear hb8 h8
  go_wp2_with fail
  refine bodyPost_ret (results_ct Try.results41 HB8.out rfl Try.underlying75 rfl (m.cells_info ws)) rfl ?_
  exact ⟨m, rfl, rfl, H8.out⟩

set_option maxRecDepth 100000 in
set_option maxHeartbeats 8000000 in
theorem happen7b {o w : World} {Y : List (Nat × Obj)} {m : WM} {ws : WS} (h : WAt o w Y m ws) (n k : Nat) (hk : k = n % ws.ns.length) (hn : n < 256) (hpos : 1 ≤ ws.ns.length) (hlen : ws.ns.length ≤ 1000)
    (bG : ∀ (i : Nat) (g : Int), ws.gap[i]? = some g → -10000000 ≤ g ∧ g ≤ 10000000) (bE : ∀ (i : Nat) (g : Int), ws.edge[i]? = some g → -10000000 ≤ g ∧ g ≤ 10000000) (hc : closedB ws.gap ws.edge ws.gap.length)
    (n0 : 0 ≤ ws.c.now) (n1 : ws.c.now ≤ 1000000) (n2 : 0 ≤ ws.c.since) (n3 : ws.c.since ≤ 1000000) (n4 : 0 ≤ ws.c.wait) (n5 : ws.c.wait ≤ 1000000) :
    Calls Try.prog 41 #[.agg (m.cells ws).toArray, .agg #[.int .u8 7, .int .u8 n]] w (Hap o Y m ({ ws with c := ws.c.tick, gap := ws.gap.map (· + 1000) }, true)) := by
  have hgl := h.lenN
  have hel := h.lenE
  have htick := fun (o : World) (w' : World) (X : List (Nat × Obj)) (bc' bG' bM' : Nat) (ps' : List NP) (hsy : Syst o w' X bc' bG' bM' ws.c ps') => sysTickC hsy n0 n1 n2 n3 n4 n5
  have BG := Lib.hid bG
  have BE := Lib.hid bE
  have HC := Lib.hid hc
  have HGL := Lib.hid hgl
  have HEL := Lib.hid hel
  have HT := Lib.hid htick
  clear htick hel hgl hc bE bG
  clear n0 n1 n2 n3 n4 n5
  have hpl : m.ps.length = ws.ns.length := by rw [← h.ns]; simp
  obtain ⟨g, off, cap, hvN, hownN, hcl, hcm⟩ := h.rowN.pos (by omega)
  have hkl : k < ws.ns.length := by rw [hk]; exact Nat.mod_lt _ (by omega)
  obtain ⟨p, hp, hps⟩ := h.node hkl
  go_enter Try.func41, Try.ntmps41
  iterate 16 go_step
  refine named ?_; intro W hW
  have hb : Blk W w.heap.size 75 (m.cells ws) := by rw [hW]; repeat (first | exact Blk.new w 75 (m.cells ws) | refine Blk.alloc' ?_)
  have hx : Blk W (w.heap.size + 1) 80 [.int .u8 7, .int .u8 n] := by rw [hW]; repeat (first | exact Blk.new' _ 80 [.int .u8 7, .int .u8 n] (by simp) | refine Blk.alloc' ?_)
  have hz : Blk W (w.heap.size + 2) 75 zero75 := by rw [hW]; repeat (first | exact Blk.new' _ 75 zero75 (by simp) | refine Blk.alloc' ?_)
  have hf : Frm w.heap.size [] w W := by rw [hW]; repeat (first | with_reducible exact Frm.refl _ _ _ | with_reducible refine Frm.drewN ?_ | with_reducible refine Frm.drew ?_ | ((with_reducible refine Frm.setCell' ?_ ?_); · first | (left; simp; done) | (right; simp; done) | (right; simp; omega)) | ((with_reducible refine Frm.alloc' ?_ ?_); · first | exact Nat.le_refl _ | (simp; done) | (simp; omega)))
  clear hW
  have h1 : WAt o W ((w.heap.size, .cells (m.cells ws).toArray 75 (0, 0)) :: (w.heap.size + 2, .cells zero75.toArray 75 (0, 0)) :: (w.heap.size + 1, .cells [Value.int .u8 7, Value.int .u8 n].toArray 80 (0, 0)) :: Y) m ws := h.blocks hf [(w.heap.size, .cells (m.cells ws).toArray 75 (0, 0)), (w.heap.size + 2, .cells zero75.toArray 75 (0, 0)), (w.heap.size + 1, .cells [Value.int .u8 7, Value.int .u8 n].toArray 80 (0, 0))] (by
    intro x hx
    simp only [List.mem_cons, List.not_mem_nil, or_false] at hx
    rcases hx with rfl | rfl | rfl
    · exact ⟨Nat.le_refl _, hb⟩
    · exact ⟨by simp, hz⟩
    · exact ⟨by simp, hx⟩)
  have hY : ∀ z ∈ Y, z.1 ≠ w.heap.size ∧ z.1 ≠ w.heap.size + 2 := fun z hz => by have := h.sys.ltX z (by simp [hz]); omega
  have x0 : W.cell? ⟨w.heap.size + 1, 0, none⟩ = some (.int .u8 7) := hx.cell 0
  have x1 : W.cell? ⟨w.heap.size + 1, 1, none⟩ = some (.int .u8 n) := hx.cell 1
  have c1 : W.cell? ⟨w.heap.size, 1, none⟩ = some (.slice (some ⟨g, off, none⟩) m.ps.length cap) := by rw [← hvN]; exact hb.cell 1
  have z : W.cell? ⟨g, off + k, none⟩ = some (.pointer (some ⟨p.b, 0, none⟩)) := h1.ptrCell hvN hp
  rw [hpl] at c1
  have hk' : (n : Int) % (ws.ns.length : Int) = (k : Int) := by rw [hk]; omega
  have hkl' : (k : Int) < (ws.ns.length : Int) := by omega
  have HB := Lib.hid hb
  have HX := Lib.hid hx
  have HZ := Lib.hid hz
  have HF := Lib.hid hf
  have H1 := Lib.hid h1
  have HP := Lib.hid hp
  have HPS := Lib.hid hps
  have HPL := Lib.hid hpl
  have HVN := Lib.hid hvN
  have HWA := Lib.hid h
  have HK := Lib.hid hk
  have HK2 := Lib.hid hk'
  have HKL := Lib.hid hkl
  have HY := Lib.hid hY
  clear hY hkl hk' hk h hvN hpl hps hp h1 hf hz hx hb
  have hk' := HK2.out
  go_wp2_with (with_reducible refine atLoad 75 rfl ?_; refine wpList_loadB (P := Try.prog) (ty := 75) (b := w.heap.size) (T := 75) (cs := m.cells ws) rfl rfl HB.out rfl Try.underlying75 rfl (m.cells_info ws) ?_)
  refine (may_any m.bc m.vN m.vS ws.slow m.gG m.gE ws.gap ws.edge _ H1.out.blkG H1.out.blkE HEL.out (by have := HGL.out; have := HPL.out; omega) BG.out BE.out).mono ?_; rintro e w2 ⟨⟨r, rfl, hr⟩, hf2⟩
  have hr0 : r = true := hr.2 HC.out
  subst hr0
  have h2 := H1.out.quiet hf2
  clear hf2 hr x0 x1 c1 z hk'
  have H2 := Lib.hid h2
  clear h2
  go_wp2_with fail
  go_loopw [14] (fun i wr => ∃ j : Nat, i = .int .i64 j ∧ j ≤ ws.gap.length ∧ WAt o wr ((w.heap.size, .cells (m.cells ws).toArray 75 (0, 0)) :: (w.heap.size + 2, .cells zero75.toArray 75 (0, 0)) :: (w.heap.size + 1, .cells [Value.int .u8 7, Value.int .u8 n].toArray 80 (0, 0)) :: Y) m { ws with gap := bump j ws.gap }) (fun i _ => ws.gap.length - (intOf i).toNat)
  case atStart => exact ⟨0, rfl, Nat.zero_le _, by rw [bump_zero]; exact H2.out⟩
  case round =>
    obtain ⟨j, rfl, hj, hwa⟩ := hrel
    have hb : Blk wr w.heap.size 75 (m.cells ws) := hwa.sys.ext (w.heap.size, .cells (m.cells ws).toArray 75 (0, 0)) (by simp)
    have c3 : wr.cell? ⟨w.heap.size, 3, none⟩ = some (.slice (some ⟨m.gG, 0, none⟩) ws.gap.length ws.gap.length) := hb.cell 3
    have hg1000 : ws.gap.length ≤ 1000 := by have := HGL.out; have := HPL.out; omega
    by_cases hjl : j < ws.gap.length
    · have z1 : wr.cell? ⟨m.gG, j, none⟩ = some (.int .i64 ws.gap[j]) := by
        rw [hwa.blkG.cell j]
        simp only [ints, List.getElem?_map]
        rw [bump_get hjl]
        rfl
      have f1 : wr.frozen? ⟨m.gG, j, none⟩ = false := hwa.blkG.free j
      obtain ⟨p1, p2⟩ := BG.out j ws.gap[j] (List.getElem?_eq_getElem hjl)
      have hsucc := bump_succ hjl
      obtain ⟨g', hg'⟩ : ∃ x, x = ws.gap[j] := ⟨_, rfl⟩
      rw [← hg'] at z1 p1 p2 hsucc
      clear hg'
      have hjl' : (j : Int) < (ws.gap.length : Int) := by omega
      have HWR := Lib.hid hwa
      have HBR := Lib.hid hb
      have HSUC := Lib.hid hsucc
      have HJL := Lib.hid hjl
      clear hjl hsucc hb hwa
      go_wp2_with fail
      refine wp_region_left (by kernel_rfl) ?_
      refine Left.headD 10 (by kernel_rfl) ?_
      simp only [List.take_succ_cons, List.take_zero, List.drop_succ_cons, List.drop_zero, Nat.reduceSub]
      repeat (quiet_step (fail))
      refine wpQuiet_nil ?_
      rintro _ ⟨nq, rfl⟩
      refine Left.tail (by kernel_rfl) ?_
      simp only [List.drop_succ_cons, List.drop_zero]
      go_wp2_with fail
      refine ⟨⟨j + 1, by simp, HJL.out, ?_⟩, by have := HJL.out; simp [intOf]; omega⟩
      have h5 := (HWR.out.quiet ((Frm.refl _ _ wr).drewN (n := 1 + nq))).setGap j (g' + 1000)
      rw [show ({ ws with gap := bump j ws.gap } : WS).gap.set j (g' + 1000) = bump (j + 1) ws.gap from HSUC.out] at h5
      exact h5
    · obtain rfl : j = ws.gap.length := by omega
      rw [bump_all] at hwa
      have HWR := Lib.hid hwa
      have HBR := Lib.hid hb
      clear hb hwa
      go_wp2_with fail
      clear c3
      refine wp_region_leftL (fun V => Blk V w.heap.size 75 (m.cells ws) ∧ True) 100 (by kernel_rfl) ?_
      obtain ⟨wr1, hwr1⟩ : ∃ x, x = wr.drew := ⟨_, rfl⟩
      rw [← hwr1]
      have hwr2 := HWR.out.quiet (W' := wr1) (by rw [hwr1]; exact (Frm.refl _ _ wr).drew)
      have hS : Blk wr1 w.heap.size 75 (m.cells ws) ∧ True := ⟨by rw [hwr1]; exact HBR.out.drew, trivial⟩
      have HS := Lib.hid hS
      have HWR2 := Lib.hid hwr2
      clear hwr2 hS
      clear hwr1
      refine LeftL.take 0 rfl (by kernel_rfl) (fun _ _ d _ _ h => by cases d <;> exact h) (yields_loadB (ty := 75) rfl rfl (fun V hV => hV.1) rfl Try.underlying75 rfl (m.cells_info ws)) HS.out ?_; (intro K' hK'; go_simp; refine hK' _ ?_; clear hK' K')
      refine LeftL.run (v := ?_) 1 rfl (by kernel_rfl) rfl (fun _ _ d _ _ h => by cases d <;> exact h) ?_ HS.out ?_; rotate_left; (· intro V hV; have z := hV.2; have y0 := hV.1.cell 0; have y1 := hV.1.cell 1; have y2 := hV.1.cell 2; have y3 := hV.1.cell 3; have y4 := hV.1.cell 4; have y5 := hV.1.cell 5; simp only [WM.cells, worldC, HVN.out, HPL.out, List.getElem?_cons_succ, List.getElem?_cons_zero] at y0 y1 y2 y3 y4 y5; clear hV; go_simp; rfl); (intro K' hK'; go_simp; refine hK' _ ?_; clear hK' K')
      refine LeftL.run (v := ?_) 2 rfl (by kernel_rfl) rfl (fun _ _ d _ _ h => by cases d <;> exact h) ?_ HS.out ?_; rotate_left; (· intro V hV; have z := hV.2; have y0 := hV.1.cell 0; have y1 := hV.1.cell 1; have y2 := hV.1.cell 2; have y3 := hV.1.cell 3; have y4 := hV.1.cell 4; have y5 := hV.1.cell 5; simp only [WM.cells, worldC, HVN.out, HPL.out, List.getElem?_cons_succ, List.getElem?_cons_zero] at y0 y1 y2 y3 y4 y5; clear hV; go_simp; rfl); (intro K' hK'; go_simp; refine hK' _ ?_; clear hK' K')
      refine LeftL.one 3 rfl (by kernel_rfl) ?_
      go_wp2_with fail
      refine (HT.out _ _ _ _ _ _ _ HWR2.out.sys).mono ?_; rintro e w3 ⟨rfl, h3⟩
      have h3 := HWR2.out.centreNext h3
      have hS2 : Blk w3 w.heap.size 75 (m.cells ws) ∧ True := ⟨h3.sys.ext (w.heap.size, .cells (m.cells ws).toArray 75 (0, 0)) (by simp), trivial⟩
      have H3 := Lib.hid h3
      clear h3
      clear HS
      have HS := Lib.hid hS2
      clear hS2
      go_wp2_with fail
      refine ⟨fun _ => HS.out, ?_⟩
      refine LeftL.run (v := ?_) 4 rfl (by kernel_rfl) rfl (fun _ _ d _ _ h => by cases d <;> exact h) ?_ HS.out ?_; rotate_left; (· intro V hV; have z := hV.2; have y0 := hV.1.cell 0; have y1 := hV.1.cell 1; have y2 := hV.1.cell 2; have y3 := hV.1.cell 3; have y4 := hV.1.cell 4; have y5 := hV.1.cell 5; simp only [WM.cells, worldC, HVN.out, HPL.out, List.getElem?_cons_succ, List.getElem?_cons_zero] at y0 y1 y2 y3 y4 y5; clear hV; go_simp; rfl); (intro K' hK'; go_simp; refine hK' _ ?_; clear hK' K')
      refine LeftL.one 5 rfl (by kernel_rfl) ?_
      have hz2 : Blk w3 (w.heap.size + 2) 75 zero75 := H3.out.sys.ext (w.heap.size + 2, .cells zero75.toArray 75 (0, 0)) (by simp)
      refine wpList_storeB (P := Try.prog) (cs := m.cells ws) rfl rfl hz2 rfl rfl rfl (m.cells_info ws) H1.out.cells_one ?_
      have h4 := H3.out.result (fun z hz => (HY.out z hz).2) (m.cells ws).toArray
      have hb4 := hz2.row (m.cells ws)
      have hS4 := And.intro (HS.out.1.row_other (g := w.heap.size + 2) (m.cells ws).toArray (by omega)) (trivial)
      generalize w3.setRow (w.heap.size + 2) (m.cells ws).toArray = W4 at h4 hb4 hS4 ⊢
      clear HS hz2
      have HS := Lib.hid hS4
      have HB4 := Lib.hid hb4
      have H4 := Lib.hid h4
      clear hS4 hb4 h4
      refine wpList_nil ?_
      refine ⟨fun _ => HS.out, ?_⟩
      refine LeftL.one 6 rfl (by kernel_rfl) ?_
      go_wp2_with fail
      first | refine ⟨fun _ => HS.out, ?_⟩ | refine ⟨HS.out, ?_⟩
      refine LeftL.done (by kernel_rfl) ?_
      go_wp2_with fail
      refine bodyPost_ret (results_ct Try.results41 HB4.out rfl Try.underlying75 rfl (m.cells_info ws)) rfl ?_
      exact ⟨m, by simp [WM.cells], rfl, H4.out⟩
end Go.Proofs.Ythmladcepkdheaa
