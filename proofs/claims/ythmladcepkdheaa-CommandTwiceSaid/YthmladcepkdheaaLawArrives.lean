/-
  A node that asks while it is wanted gets the authority for its term.
-/
import Derived.Test.YthmladcepkdheaaLawBack
import Derived.Test.YthmladcepkdheaaPure6
namespace Go.Proofs.Ythmladcepkdheaa
open Go.ChangeShapes Go.WideShapes Go.ChangeAt Go.RowKit

/-- A node of which the state is known, in a world that has one box beside it. -/
structure Got (o w : World) (bw : Nat) (u : Obj) (bc pb k : Nat) (c : CS) (s : NS) : Prop where
  ex : ∃ mm wss own, WAt o w [(bw, u)] mm wss ∧ mm.ps[k]? = some ⟨pb, own, s⟩ ∧ wss.c = c ∧ mm.bc = bc

set_option maxRecDepth 100000 in
set_option maxHeartbeats 8000000 in
theorem arrives_walk (x0 x1 x2 nd : Nat) (h0 : x0 < 256) (h1 : x1 < 256) (h2 : x2 < 256) (hnd : nd < 256) (ad : Option Addr) (len cap b off : Nat) (f : Nat → Nat × Nat) (w : World) (hl : len ≤ maxLen) (ha : Evs w ad len b off f) :
    Calls Try.prog 8 #[.agg #[.int .u8 x0, .int .u8 x1, .int .u8 x2], .slice ad len cap, .int .u8 nd] w fun e w' => e = .returned (.bool true) ∧ Frm w.heap.size [] w w' := by
  by_cases h400 : 400 < (len : Int)
  · have HA := Lib.hid ha
    clear ha
    go_enter Try.func8, Try.ntmps8
    go_wp2_with (go_at_call 16; refine (awake_any _).mono ?_; rintro e w3 ⟨rfl, hf3⟩)
    go_ret
    exact ⟨rfl, ((Frm.refl _ _ w).alloc (Nat.le_refl _) _).call hf3 (by simp) (by simp)⟩
  · obtain ⟨n, hn⟩ : ∃ n, n = 1 + x0 % 3 := ⟨_, rfl⟩
    obtain ⟨t, ht⟩ : ∃ t, t = 1 + x1 % 12 := ⟨_, rfl⟩
    obtain ⟨s, hs⟩ : ∃ s, s = 50 * (x2 % 21) := ⟨_, rfl⟩
    have hfine : Fine t 0 (WS.start n t s (waitN t s)) := by
      have := wait_le t s (by omega) (by omega)
      exact Fine.start n t s _ (by omega) (by omega) (by omega) (by omega) (by omega) (by omega) this.1 this.2.1 this.2.2
    have hj4 : len ≤ 400 := by omega
    have HA := Lib.hid ha
    have HFINE := Lib.hid hfine
    have HN := Lib.hid hn
    have HT := Lib.hid ht
    have HSS := Lib.hid hs
    clear hs ht hn hfine ha
    go_enter Try.func8, Try.ntmps8
    go_wp2_with fail
    obtain ⟨w0, hw0⟩ : ∃ w0, w0 = w.alloc (.cells #[Value.int .u8 x0, Value.int .u8 x1, Value.int .u8 x2] 69 (0, 0)) := ⟨_, rfl⟩
    rw [← hw0]
    have hf0 : Frm w.heap.size [] w w0 := by rw [hw0]; repeat (first | with_reducible exact Frm.refl _ _ _ | with_reducible refine Frm.drewN ?_ | with_reducible refine Frm.drew ?_ | ((with_reducible refine Frm.setCell' ?_ ?_); · first | (left; simp; done) | (right; simp; done) | (right; simp; omega)) | ((with_reducible refine Frm.alloc' ?_ ?_); · first | exact Nat.le_refl _ | (simp; done) | (simp; omega)))
    have ha0 := HA.out.frm hf0
    have hx0 : Blk w0 w.heap.size 69 [.int .u8 x0, .int .u8 x1, .int .u8 x2] := by rw [hw0]; exact Blk.new w 69 [.int .u8 x0, .int .u8 x1, .int .u8 x2]
    clear HA hw0
    obtain ⟨ws, hws⟩ : ∃ y, y = WS.start n t s (waitN t s) := ⟨_, rfl⟩
    refine (lay_any _ x0 x1 x2 h0 h1 h2 n HN.out t HT.out s HSS.out).mono ?_; rintro e w1 ⟨m, rfl, hwa⟩
    rw [← hws] at hwa ⊢
    have hfine := HFINE.out
    rw [← hws] at hfine
    have hslow : ws.slow = s ∧ ws.c.wait = waitN t s := by rw [hws]; exact ⟨rfl, rfl⟩
    clear HFINE
    have HX0 := Lib.hid hx0
    have HF0 := Lib.hid hf0
    have HA := Lib.hid ha0
    have HFINE := Lib.hid hfine
    have HWS := Lib.hid hws
    have HSL := Lib.hid hslow
    clear hslow hws hfine ha0 hf0 hx0
    go_wp2_with (with_reducible refine atStore 75 rfl ?_; refine hold ?_; intro qG hG)
    refine hG.1 ?_; clear hG qG
    refine namedL ?_; intro w2 hw2
    have hz2 : Blk w2 w1.heap.size 75 zero75 := by rw [hw2]; exact Blk.new' w1 75 zero75 rfl
    have hf2 : Frm w1.heap.size [] w1 w2 := by rw [hw2]; repeat (first | with_reducible exact Frm.refl _ _ _ | with_reducible refine Frm.drewN ?_ | with_reducible refine Frm.drew ?_ | ((with_reducible refine Frm.setCell' ?_ ?_); · first | (left; simp; done) | (right; simp; done) | (right; simp; omega)) | ((with_reducible refine Frm.alloc' ?_ ?_); · first | exact Nat.le_refl _ | (simp; done) | (simp; omega)))
    have h2 := hwa.beside hf2 (Nat.le_refl _) hz2
    clear hw2 hf2
    refine wpList_storeB (P := Try.prog) (cs := m.cells ws) rfl rfl hz2 rfl rfl rfl (m.cells_info ws) hwa.cells_one ?_
    have h3 := h2.turnHead (fun y hy => (by cases hy)) (m.cells ws).toArray
    generalize w2.setRow w1.heap.size (m.cells ws).toArray = w3 at h3 ⊢
    clear h2 hz2
    obtain ⟨bw, hbw⟩ : ∃ b, b = w1.heap.size := ⟨_, rfl⟩
    rw [← hbw] at h3
    simp only [← hbw]
    have hbo : w0.heap.size ≤ bw := by rw [hbw]; exact hwa.sys.root.size
    clear hbw hwa w1
    have H3 := Lib.hid h3
    have HBO := Lib.hid hbo
    clear hbo h3
    go_wp2_with fail
    have HJ4 := Lib.hid hj4
    go_loopw [8, 9] (fun r i wr => ∃ j : Nat, r = .bool true ∧ i = .int .i64 j ∧ j ≤ len ∧ EvSt2 w0 wr bw t s j) (fun _ i _ => len - (intOf i).toNat)
    case atStart => exact ⟨0, rfl, rfl, Nat.zero_le _, ⟨m, ws, H3.out, HFINE.out, HSL.out.1, HSL.out.2⟩⟩
    case round =>
      clear H3 HFINE HSL HWS
      obtain ⟨j, rfl, rfl, hj, ⟨m, ws, hwa, hfi, hsl1, hsl2⟩⟩ := hrel
      have hroot := hwa.sys.root
      by_cases hjl : j < len
      · obtain ⟨had, hbl⟩ := HA.out.at_ (by omega)
        subst had
        have hjl' : (j : Int) < (len : Int) := by omega
        have HSL1 := Lib.hid hsl1
        have HSL2 := Lib.hid hsl2
        clear hsl2 hsl1
        obtain ⟨z0, z1⟩ := (HA.out.frm hroot).cell j hjl
        obtain ⟨k0, k1⟩ := HA.out.small j hjl
        obtain ⟨wh, nn, hq⟩ : ∃ wh nn, f j = (wh, nn) := ⟨_, _, rfl⟩
        rw [hq] at z0 z1 k0 k1
        simp only at z0 z1 k0 k1
        have hbR : Blk wr bw 75 (m.cells ws) := hwa.sys.ext (bw, .cells (m.cells ws).toArray 75 (0, 0)) (by simp)
        have hS : wr.drew.cell? ⟨b, off + j * 2, none⟩ = some (.int .u8 wh) ∧ wr.drew.cell? ⟨b, off + j * 2 + 1, none⟩ = some (.int .u8 nn) := ⟨z0, z1⟩
        have HS := Lib.hid hS
        have HBR := Lib.hid hbR
        have HW := Lib.hid hwa
        have HFI := Lib.hid hfi
        have HR := Lib.hid hroot
        have HJL := Lib.hid hjl
        have HQ := Lib.hid hq
        have HK0 := Lib.hid k0
        have HK1 := Lib.hid k1
        clear hS hbR hwa hfi hroot hjl hq k0 k1 z0 z1
        go_wp2_with fail
        refine wp_region_leftL (fun V => V.cell? ⟨b, off + j * 2, none⟩ = some (.int .u8 wh) ∧ V.cell? ⟨b, off + j * 2 + 1, none⟩ = some (.int .u8 nn)) 100 (by kernel_rfl) ?_
        refine LeftL.run (v := ?_) 1 rfl (by kernel_rfl) rfl (fun _ _ d _ _ h => by cases d <;> exact h) ?_ HS.out ?_; rotate_left; (· intro V hV; obtain ⟨p0, p1⟩ := hV; go_simp; rfl); (intro K' hK'; go_simp; refine hK' _ ?_; clear hK' K')
        refine LeftL.run (v := ?_) 2 rfl (by kernel_rfl) rfl (fun _ _ d _ _ h => by cases d <;> exact h) ?_ HS.out ?_; rotate_left; (· intro V hV; obtain ⟨p0, p1⟩ := hV; go_simp; rfl); (intro K' hK'; go_simp; refine hK' _ ?_; clear hK' K')
        refine LeftL.run (v := ?_) 3 rfl (by kernel_rfl) rfl (fun _ _ d _ _ h => by cases d <;> exact h) ?_ HS.out ?_; rotate_left; (· intro V hV; obtain ⟨p0, p1⟩ := hV; go_simp; rfl); (intro K' hK'; go_simp; refine hK' _ ?_; clear hK' K')
        refine LeftL.run (v := ?_) 4 rfl (by kernel_rfl) rfl (fun _ _ d _ _ h => by cases d <;> exact h) ?_ HS.out ?_; rotate_left; (· intro V hV; obtain ⟨p0, p1⟩ := hV; go_simp; rfl); (intro K' hK'; go_simp; refine hK' _ ?_; clear hK' K')
        refine LeftL.one 0 rfl (by kernel_rfl) ?_
        refine wpList_loadB (P := Try.prog) (ty := 75) (b := bw) (T := 75) (cs := m.cells ws) rfl rfl HBR.out.drew rfl Try.underlying75 rfl (m.cells_info ws) ?_
        refine wpList_nil ?_
        refine ⟨fun _ => HS.out, ?_⟩
        refine LeftL.one 5 rfl (by kernel_rfl) ?_
        go_wp2_with fail
        refine (happen_any (HW.out.quiet (Frm.refl _ _ wr).drew) HFI.out (by have := HJ4.out; have := HJL.out; omega) wh nn HK1.out).mono ?_
        rintro e w5 ⟨m5, rfl, hpt5, h5⟩
        have hfi5 := (HFI.out.happen (by have := HJ4.out; have := HJL.out; omega) wh nn)
        rw [hfi5.1]
        have hfi6 := hfi5.2
        clear hfi5
        obtain ⟨ws5, hws5⟩ : ∃ y, y = (ws.happen wh nn).1 := ⟨_, rfl⟩
        rw [← hws5] at h5 hfi6 ⊢
        have hr5 := h5.sys.root
        obtain ⟨z0, z1⟩ := (HA.out.frm hr5).cell j HJL.out
        rw [HQ.out] at z0 z1
        simp only at z0 z1
        have hb5 : Blk w5 bw 75 (m.cells ws) := h5.sys.ext (bw, .cells (m.cells ws).toArray 75 (0, 0)) (by simp)
        have hS5 : w5.cell? ⟨b, off + j * 2, none⟩ = some (.int .u8 wh) ∧ w5.cell? ⟨b, off + j * 2 + 1, none⟩ = some (.int .u8 nn) := ⟨z0, z1⟩
        have HB5 := Lib.hid hb5
        clear hb5
        clear HS z0 z1
        have HS := Lib.hid hS5
        have H5 := Lib.hid h5
        have HFI6 := Lib.hid hfi6
        have HPT5 := Lib.hid hpt5
        have HWS5 := Lib.hid hws5
        clear hS5 h5 hfi6 hpt5 hws5 hr5
        go_wp2_with fail
        first | refine ⟨fun _ => HS.out, ?_⟩ | refine ⟨HS.out, ?_⟩
        refine LeftL.run (v := ?_) 6 rfl (by kernel_rfl) rfl (fun _ _ d _ _ h => by cases d <;> exact h) ?_ HS.out ?_; rotate_left; (· intro V hV; obtain ⟨p0, p1⟩ := hV; go_simp; rfl); (intro K' hK'; go_simp; refine hK' _ ?_; clear hK' K')
        refine LeftL.run (v := ?_) 7 rfl (by kernel_rfl) rfl (fun _ _ d _ _ h => by cases d <;> exact h) ?_ HS.out ?_; rotate_left; (· intro V hV; obtain ⟨p0, p1⟩ := hV; go_simp; rfl); (intro K' hK'; go_simp; refine hK' _ ?_; clear hK' K')
        refine LeftL.run (v := ?_) 8 rfl (by kernel_rfl) rfl (fun _ _ d _ _ h => by cases d <;> exact h) ?_ HS.out ?_; rotate_left; (· intro V hV; obtain ⟨p0, p1⟩ := hV; go_simp; rfl); (intro K' hK'; go_simp; refine hK' _ ?_; clear hK' K')
        refine LeftL.one 9 rfl (by kernel_rfl) ?_
        refine wpList_storeB (P := Try.prog) (ty := 75) (cs := m5.cells ws5) rfl rfl HB5.out rfl rfl rfl (m5.cells_info ws5) H5.out.cells_one ?_
        have h6 := H5.out.turnHead (fun y hy => (by cases hy)) (m5.cells ws5).toArray
        refine wpList_nil ?_
        generalize w5.setRow bw (m5.cells ws5).toArray = w6 at h6 ⊢
        clear HS
        have hr6 := h6.sys.root
        have H6 := Lib.hid h6
        clear h6
        obtain ⟨z0, z1⟩ := (HA.out.frm hr6).cell j HJL.out
        rw [HQ.out] at z0 z1
        simp only at z0 z1
        refine ⟨fun _ => ⟨z0, z1⟩, ?_⟩
        refine LeftL.one 10 rfl (by kernel_rfl) ?_
        go_wp2_with fail
        first | refine ⟨fun _ => ⟨z0, z1⟩, ?_⟩ | refine ⟨⟨z0, z1⟩, ?_⟩
        refine LeftL.done (by kernel_rfl) ?_
        clear z0 z1
        go_wp2_with fail
        have hsame := ws.happen_same wh nn
        rw [← HWS5.out] at hsame
        exact ⟨⟨j + 1, rfl, by simp, HJL.out, ⟨m5, ws5, H6.out, HFI6.out, hsame.1.trans HSL1.out, hsame.2.1.trans HSL2.out⟩⟩, by have := HJL.out; simp [intOf]; omega⟩
      · have hjl' : ¬ (j : Int) < (len : Int) := by omega
        have hx : Blk wr w.heap.size 69 [.int .u8 x0, .int .u8 x1, .int .u8 x2] := hroot.blk HX0.out HX0.out.lt (by simp)
        have hb : Blk wr bw 75 (m.cells ws) := hwa.sys.ext (bw, .cells (m.cells ws).toArray 75 (0, 0)) (by simp)
        have c0 : wr.cell? ⟨bw, 0, none⟩ = some (.pointer (some ⟨m.bc, 0, none⟩)) := hb.cell 0
        by_cases hn0 : ws.c.node = 0
        · obtain ⟨k, hk⟩ : ∃ k, k = nd % ws.ns.length := ⟨_, rfl⟩
          have hsome := hfi.2.some_
          have hfew := hfi.2.few
          have hkl : k < ws.ns.length := by rw [hk]; exact Nat.mod_lt _ (by omega)
          have hpl : m.ps.length = ws.ns.length := by rw [← hwa.ns]; simp
          obtain ⟨p, hp, hps⟩ := hwa.node hkl
          obtain ⟨gN, oN, cN, hvN, _, hcl, hcm⟩ := hwa.rowN.pos (by omega)
          have c1 : wr.cell? ⟨bw, 1, none⟩ = some (.slice (some ⟨gN, oN, none⟩) ws.ns.length cN) := by rw [← hpl, ← hvN]; exact hb.cell 1
          have z : wr.cell? ⟨gN, oN + k, none⟩ = some (.pointer (some ⟨p.b, 0, none⟩)) := hwa.ptrCell hvN hp
          have d1 : wr.cell? ⟨w.heap.size, 1, none⟩ = some (.int .u8 x1) := hx.cell 1
          have r1 : (x1 : Int) % 12 = ((t : Int) - 1) := by rw [HT.out]; omega
          have u1 : (1 : Int) + ((t : Int) - 1) = t := by omega
          have hk' : (nd : Int) % (ws.ns.length : Int) = (k : Int) := by rw [hk]; omega
          have hkl' : (k : Int) < (ws.ns.length : Int) := by omega
          have HW := Lib.hid hwa
          have HFI := Lib.hid hfi
          have HR := Lib.hid hroot
          have HSL1 := Lib.hid hsl1
          have HSL2 := Lib.hid hsl2
          have HX := Lib.hid hx
          have HB := Lib.hid hb
          have HK := Lib.hid hk
          have HKL := Lib.hid hkl
          have HPL := Lib.hid hpl
          have HP := Lib.hid hp
          have HPS := Lib.hid hps
          have HVN := Lib.hid hvN
          have HCL := Lib.hid hcl
          have HCM := Lib.hid hcm
          have HN0 := Lib.hid hn0
          clear hn0 hcm hcl hvN hps hp hpl hkl hk hb hx hsl2 hsl1 hroot hfi hwa
          go_wp2_with (go_at_call 37; refine (centLease _ _ HW.out.sys.cent.blk).mono ?_; rintro e w' ⟨rfl, nq, rfl⟩; rw [HN0.out])
          have hk3 : (k : Int) ≤ 2 := by have := HKL.out; omega
          have hne : ¬ ws.ns = [] := fun e => by rw [e] at hsome; simp at hsome
          have e2 : IntKind.i64.wrap (nd : Int) = (nd : Int) := IntWalk.i64_in _ (by omega)
          have e3 : (nd : Int).tmod (ws.ns.length : Int) = (k : Int) := by rw [← hk']; exact Int.tmod_eq_emod_of_nonneg (by omega)
          have e5 : IntKind.i64.wrap (k : Int) = (k : Int) := IntWalk.i64_in _ (by omega)
          have e6 : IntKind.i64.wrap (1 + (k : Int)) = 1 + (k : Int) := IntWalk.i64_in _ (by omega)
          refine wp_region_left (by kernel_rfl) ?_
          refine Left.headD 10 (by kernel_rfl) ?_
          simp only [List.take_succ_cons, List.take_zero, List.drop_succ_cons, List.drop_zero, Nat.reduceSub]
          repeat (quiet_step (fail))
          refine wpQuiet_nil ?_
          rintro _ ⟨nq, rfl⟩
          refine Left.tail (by kernel_rfl) ?_
          simp only [List.drop_succ_cons, List.drop_zero]
          go_wp2_with fail
          refine wp_region_left (by kernel_rfl) ?_
          refine Left.headD 9 (by kernel_rfl) ?_
          simp only [List.take_succ_cons, List.take_zero, List.drop_succ_cons, List.drop_zero, Nat.reduceSub]
          repeat (quiet_step (fail))
          refine wpQuiet_nil ?_
          rintro _ ⟨nq, rfl⟩
          refine Left.tail (by kernel_rfl) ?_
          simp only [List.drop_succ_cons, List.drop_zero]
          go_wp2_with fail
          clear e2 e3 e5 e6 hne d1 r1 u1 c1 z c0
          obtain ⟨g1, g2, g3, g4, g5, g6, g7, g8, g9, g10⟩ := HFI.out.got (by have := HJ4.out; omega) HKL.out HN0.out
          obtain ⟨q, hq⟩ : ∃ q, q = (ws.node k).last + 1 := ⟨_, rfl⟩
          rw [← hq] at g1 g2 g3 g6 g7
          have e7 : (1 : Int) + (k : Int) = ((k + 1 : Nat) : Int) := by omega
          rw [e7]
          refine (sysWant (HW.out.quiet ((Frm.refl _ _ wr).drewN)).sys ((k + 1 : Nat) : Int) g5 (inB_iff.2 ⟨by omega, by omega⟩)).mono ?_; rintro e wA ⟨rfl, hA⟩
          have hA1 := HW.out.centreNext hA
          clear hA e7
          have HA1 := Lib.hid hA1
          have G1 := Lib.hid g1
          have G2 := Lib.hid g2
          have G3 := Lib.hid g3
          have G4 := Lib.hid g4
          have G5 := Lib.hid g5
          have G6 := Lib.hid g6
          have G7 := Lib.hid g7
          have G8 := Lib.hid g8
          have G9 := Lib.hid g9
          have G10 := Lib.hid g10
          have HQ := Lib.hid hq
          clear hq g10 g9 g8 g7 g6 g5 g4 g3 g2 g1 hA1
          go_wp2_with fail
          refine (sysAsk HA1.out.sys HP.out (by rw [HPS.out]; exact HFI.out.2.fits k _ (ws.node_at HKL.out)) (by have := HJ4.out; omega)).mono ?_; rintro e w2 ⟨rfl, own1, h2⟩
          have h3 := HA1.out.nodeNext HP.out h2
          rw [HPS.out] at h3 ⊢
          rw [G6.out]
          obtain ⟨x, hx1⟩ : ∃ x : Int × Int × Int, x = (1, ((k + 1 : Nat) : Int), q) := ⟨_, rfl⟩
          rw [← hx1]
          clear h2
          have hp1 : (m.ps.set k ⟨p.b, own1, (ws.node k).ask.1⟩)[k]? = some ⟨p.b, own1, (ws.node k).ask.1⟩ := get_set_eq HP.out
          have H3 := Lib.hid h3
          have HX1 := Lib.hid hx1
          have HP1 := Lib.hid hp1
          clear hp1 hx1 h3
          go_wp2_with (with_reducible refine atStore 41 rfl ?_; refine hold ?_; intro qG hG)
          refine hG.1 ?_; clear hG qG
          refine namedL ?_; intro w3 hw3
          have hb3 : Blk w3 w2.heap.size 41 (wordL (0, 0, 0)) := by rw [hw3]; exact Blk.new' w2 41 (wordL (0, 0, 0)) rfl
          have hf3 : Frm w2.heap.size [] w2 w3 := by rw [hw3]; repeat (first | with_reducible exact Frm.refl _ _ _ | with_reducible refine Frm.drewN ?_ | with_reducible refine Frm.drew ?_ | ((with_reducible refine Frm.setCell' ?_ ?_); · first | (left; simp; done) | (right; simp; done) | (right; simp; omega)) | ((with_reducible refine Frm.alloc' ?_ ?_); · first | exact Nat.le_refl _ | (simp; done) | (simp; omega)))
          have h4 := H3.out.beside hf3 (Nat.le_refl _) hb3
          clear hw3
          refine wpList_storeB (P := Try.prog) (ty := 41) (cs := wordL x) rfl rfl hb3 rfl rfl rfl (wordL_info _) (wordL_one _) ?_
          have h5 := h4.turnHead (fun y hy => by have := H3.out.sys.ltX y (by simp only [List.mem_append]; exact .inr hy); omega) (wordL x).toArray
          generalize w3.setRow w2.heap.size (wordL x).toArray = w4 at h5 ⊢
          clear h4 hb3 hf3 w3
          have H4 := Lib.hid h5
          clear h5
          obtain ⟨b14, hb14⟩ : ∃ b14, b14 = w2.heap.size := ⟨_, rfl⟩
          have h4 := H4.out
          rw [← hb14] at h4
          simp only [← hb14]
          have hw14 : Blk w4 b14 41 (wordL x) := h4.sys.ext (b14, .cells (wordL x).toArray 41 (0, 0)) (by simp)
          have hbx : Blk w4 bw 75 (m.cells ws) := h4.sys.ext (bw, .cells (m.cells ws).toArray 75 (0, 0)) (by simp)
          rw [HX1.out] at hw14
          have d0 : w4.cell? ⟨b14, 0, none⟩ = some (.int .i64 1) := hw14.cell 0
          have d1 : w4.cell? ⟨b14, 1, none⟩ = some (.int .i64 ((k + 1 : Nat) : Int)) := hw14.cell 1
          have d2 : w4.cell? ⟨b14, 2, none⟩ = some (.int .i64 q) := hw14.cell 2
          have c0 : w4.cell? ⟨bw, 0, none⟩ = some (.pointer (some ⟨m.bc, 0, none⟩)) := hbx.cell 0
          clear H4 H3 hb14 hw14 hbx w2
          have H4 := Lib.hid h4
          clear h4
          go_wp2_with fail
          have hh := sysHearC (c := { ws.c with wanted := ((k + 1 : Nat) : Int) }) H4.out.sys 1 (k + 1) q G5.out G2.out G4.out
          rw [G1.out] at hh
          refine hh.mono ?_; rintro e w2 ⟨rfl, h2⟩
          clear hh
          have h3 := H4.out.centreNext h2
          dsimp only
          obtain ⟨x, hx2⟩ : ∃ x : Int × Int × Int, x = (2, ((k + 1 : Nat) : Int), q) := ⟨_, rfl⟩
          rw [← hx2]
          clear h2 d0 d1 d2 c0
          have H3 := Lib.hid h3
          have HX2 := Lib.hid hx2
          clear hx2 h3
          go_wp2_with (with_reducible refine atStore 41 rfl ?_; refine hold ?_; intro qG hG)
          refine hG.1 ?_; clear hG qG
          refine namedL ?_; intro w3 hw3
          have hb3 : Blk w3 w2.heap.size 41 (wordL (0, 0, 0)) := by rw [hw3]; exact Blk.new' w2 41 (wordL (0, 0, 0)) rfl
          have hf3 : Frm w2.heap.size [] w2 w3 := by rw [hw3]; repeat (first | with_reducible exact Frm.refl _ _ _ | with_reducible refine Frm.drewN ?_ | with_reducible refine Frm.drew ?_ | ((with_reducible refine Frm.setCell' ?_ ?_); · first | (left; simp; done) | (right; simp; done) | (right; simp; omega)) | ((with_reducible refine Frm.alloc' ?_ ?_); · first | exact Nat.le_refl _ | (simp; done) | (simp; omega)))
          have h4 := H3.out.beside hf3 (Nat.le_refl _) hb3
          clear hw3
          refine wpList_storeB (P := Try.prog) (ty := 41) (cs := wordL x) rfl rfl hb3 rfl rfl rfl (wordL_info _) (wordL_one _) ?_
          have h5 := h4.turnHead (fun y hy => by have := H3.out.sys.ltX y (by simp only [List.mem_append]; exact .inr hy); omega) (wordL x).toArray
          generalize w3.setRow w2.heap.size (wordL x).toArray = w4 at h5 ⊢
          clear h4 hb3 hf3 w3
          have H4 := Lib.hid h5
          clear h5
          obtain ⟨b16, hb16⟩ : ∃ b16, b16 = w2.heap.size := ⟨_, rfl⟩
          have h4 := H4.out
          rw [← hb16] at h4
          simp only [← hb16]
          have hw16 : Blk w4 b16 41 (wordL x) := h4.sys.ext (b16, .cells (wordL x).toArray 41 (0, 0)) (by simp)
          rw [HX2.out] at hw16
          have d0 : w4.cell? ⟨b16, 0, none⟩ = some (.int .i64 2) := hw16.cell 0
          have d1 : w4.cell? ⟨b16, 1, none⟩ = some (.int .i64 ((k + 1 : Nat) : Int)) := hw16.cell 1
          have d2 : w4.cell? ⟨b16, 2, none⟩ = some (.int .i64 q) := hw16.cell 2
          clear H4 H3 hb16 hw16 w2
          have H4 := Lib.hid h4
          clear h4
          go_wp2_with fail
          have hh := sysHearN (p := ⟨p.b, own1, (ws.node k).ask.1⟩) (N := 100000) H4.out.sys HP1.out (G9.out.mono (by have := HJ4.out; omega)) (by omega) (2, ((k + 1 : Nat) : Int), q)
          dsimp only at hh
          rw [G7.out] at hh
          refine hh.mono ?_; rintro e w5 ⟨rfl, own5, h5⟩
          clear hh
          have h5 := H4.out.nodeNext HP1.out h5
          have hp5 : (({ m with ps := m.ps.set k ⟨p.b, own1, (ws.node k).ask.1⟩ } : WM).ps.set k ⟨p.b, own5, gotS (ws.node k) t 0⟩)[k]? = some ⟨p.b, own5, gotS (ws.node k) t 0⟩ := get_set_eq HP1.out
          dsimp only
          have hG5 : Got w0 w5 bw (.cells (m.cells ws).toArray 75 (0, 0)) m.bc p.b k (granted ws.c k q) (gotS (ws.node k) t 0) := ⟨_, _, own5, h5.less (fun y hy => by simp only [List.mem_cons, List.not_mem_nil, or_false] at hy ⊢; exact .inr (.inr hy)), hp5, rfl, rfl⟩
          obtain ⟨u, hu⟩ : ∃ u : Obj, u = .cells (m.cells ws).toArray 75 (0, 0) := ⟨_, rfl⟩
          have hu0 : ∀ W : World, W.heap[bw]? = some u → W.cell? ⟨bw, 0, none⟩ = some (.pointer (some ⟨m.bc, 0, none⟩)) := fun W hW => by
            rw [hu] at hW
            exact (show Blk W bw 75 (m.cells ws) from hW).cell 0
          rw [← hu] at hG5
          have hgn : ((granted ws.c k q).node == 0) = false := by simp only [granted, beq_eq_false_iff_ne]; omega
          have gb : ∀ i : Nat, (gotS (ws.node k) t i).back = ((gotS (ws.node k) t i).fall, (3, ((k + 1 : Nat) : Int), q), 0) := fun i => by
            have := G10.out i
            have e : (gotS (ws.node k) t i).last = q := by rw [HQ.out]; rfl
            have e2 : (gotS (ws.node k) t i).number = ((k + 1 : Nat) : Int) := G8.out
            have hl := HFI.out.2.fits k _ (ws.node_at HKL.out)
            have := hl.last0
            have := HQ.out
            unfold NS.back
            rw [if_neg (by rw [e]; omega), e, e2]
          have hgl : (granted ws.c k q).g.length = ws.c.g.length := by simp [granted]
          have c0 := hu0 w5 (by rw [hu]; exact h5.sys.ext (bw, .cells (m.cells ws).toArray 75 (0, 0)) (by simp))
          have h39 : Calls Try.prog 39 #[.pointer (some ⟨m.bc, 0, none⟩)] w5 fun e w' => e = .returned (.bool false) ∧ w5 = w' := by
            have := sysHoldsC (c := granted ws.c k q) h5.sys
            rwa [hgn] at this
          clear d0 d1 d2 H4 hp5 h5 hu
          have HG5 := Lib.hid hG5
          have HU0 := Lib.hid hu0
          have HGN := Lib.hid hgn
          have GB := Lib.hid gb
          have HGL := Lib.hid hgl
          have H39 := Lib.hid h39
          clear h39 hgl gb hgn hu0 hG5
          go_wp2_with (go_at_call 39; refine H39.out.mono ?_; rintro e w' ⟨rfl, rfl⟩)
          clear c0 H39
          have hth : (t : Int).tdiv 2 = ((t / 2 : Nat) : Int) := by rw [Int.tdiv_eq_ediv_of_nonneg (by omega)]; omega
          have hth2 : (t : Int) / 2 = ((t / 2 : Nat) : Int) := by omega
          obtain ⟨hf, hhf⟩ : ∃ hf, hf = t / 2 := ⟨_, rfl⟩
          rw [← hhf] at hth hth2
          have ht12 : t ≤ 12 := by have := HT.out; omega
          have wth : IntKind.i64.wrap (hf : Int) = (hf : Int) := IntWalk.i64_in _ (by omega)
          go_loopw [19] (fun i wr => ∃ jj : Nat, i = .int .i64 jj ∧ jj ≤ t ∧ Got w0 wr bw u m.bc p.b k (granted ws.c k q) (gotS (ws.node k) t jj)) (fun i _ => t - (intOf i).toNat)
          case atStart => exact ⟨0, rfl, Nat.zero_le _, HG5.out⟩
          case round =>
            clear HG5 HW HB HX HR
            obtain ⟨jj, rfl, hjj, ⟨mm, wss, own, hwa, hpk, hcc, hbc⟩⟩ := hrel
            have hroot := hwa.sys.root
            by_cases hjt : jj < t
            · have hjt' : (jj : Int) < (t : Int) := by omega
              have hh := holdsN hwa.sys hpk
              dsimp only at hh
              rw [gotS_holds, decide_eq_true hjt'] at hh
              have hub : wr.heap[bw]? = some u := hwa.sys.ext (bw, u) (by simp)
              have c0 := HU0.out wr hub
              by_cases hr : jj = hf ∧ 128 ≤ nd
              · obtain ⟨hr1, hr2⟩ := hr
                subst hr1
                have hr2' : (128 : Int) ≤ (nd : Int) := by omega
                have HH := Lib.hid hh
                have HW := Lib.hid hwa
                have HPK := Lib.hid hpk
                have HCC := Lib.hid hcc
                have HBC := Lib.hid hbc
                have HR := Lib.hid hroot
                have HUB := Lib.hid hub
                have HR2 := Lib.hid hr2
                have HJT := Lib.hid hjt
                have HHF := Lib.hid hhf
                clear hhf hjt hr2 hub hroot hbc hcc hpk hwa hh
                go_wp2_with (go_at_call 27; refine HH.out.mono ?_; rintro e w' ⟨rfl, hf6⟩)
                have h7 := HW.out.quiet hf6
                have hh2 := sysReturn h7.sys HPK.out (G10.out jj (by have := HJT.out; omega))
                dsimp only at hh2
                rw [GB.out jj] at hh2
                refine hh2.mono ?_; rintro e w2 ⟨rfl, own7, h2⟩
                clear hh2
                have h3 := h7.nodeNext HPK.out h2
                dsimp only
                obtain ⟨x, hx3⟩ : ∃ x : Int × Int × Int, x = (3, ((k + 1 : Nat) : Int), q) := ⟨_, rfl⟩
                rw [← hx3]
                clear h2 h7 hf6 c0
                have hp7 : (mm.ps.set k ⟨p.b, own7, (gotS (ws.node k) t jj).fall⟩)[k]? = some ⟨p.b, own7, (gotS (ws.node k) t jj).fall⟩ := get_set_eq HPK.out
                have H3 := Lib.hid h3
                have HX3 := Lib.hid hx3
                have HP7 := Lib.hid hp7
                clear hp7 hx3 h3
                go_wp2_with (with_reducible refine atStore 41 rfl ?_; refine hold ?_; intro qG hG)
                refine hG.1 ?_; clear hG qG
                refine namedL ?_; intro w3 hw3
                have hb3 : Blk w3 w2.heap.size 41 (wordL (0, 0, 0)) := by rw [hw3]; exact Blk.new' w2 41 (wordL (0, 0, 0)) rfl
                have hf3 : Frm w2.heap.size [] w2 w3 := by rw [hw3]; repeat (first | with_reducible exact Frm.refl _ _ _ | with_reducible refine Frm.drewN ?_ | with_reducible refine Frm.drew ?_ | ((with_reducible refine Frm.setCell' ?_ ?_); · first | (left; simp; done) | (right; simp; done) | (right; simp; omega)) | ((with_reducible refine Frm.alloc' ?_ ?_); · first | exact Nat.le_refl _ | (simp; done) | (simp; omega)))
                have h4 := H3.out.beside hf3 (Nat.le_refl _) hb3
                clear hw3
                refine wpList_storeB (P := Try.prog) (ty := 41) (cs := wordL x) rfl rfl hb3 rfl rfl rfl (wordL_info _) (wordL_one _) ?_
                have h5 := h4.turnHead (fun y hy => by have := H3.out.sys.ltX y (by simp only [List.mem_append]; exact .inr hy); omega) (wordL x).toArray
                generalize w3.setRow w2.heap.size (wordL x).toArray = w4 at h5 ⊢
                clear h4 hb3 hf3 w3
                have H4 := Lib.hid h5
                clear h5
                obtain ⟨b20, hb20⟩ : ∃ b20, b20 = w2.heap.size := ⟨_, rfl⟩
                have h4 := H4.out
                rw [← hb20] at h4
                simp only [← hb20]
                have hw20 : Blk w4 b20 41 (wordL x) := h4.sys.ext (b20, .cells (wordL x).toArray 41 (0, 0)) (by simp)
                rw [HX3.out] at hw20
                have d0 : w4.cell? ⟨b20, 0, none⟩ = some (.int .i64 3) := hw20.cell 0
                have d1 : w4.cell? ⟨b20, 1, none⟩ = some (.int .i64 ((k + 1 : Nat) : Int)) := hw20.cell 1
                have d2 : w4.cell? ⟨b20, 2, none⟩ = some (.int .i64 q) := hw20.cell 2
                have c0 := HU0.out w4 (h4.sys.ext (bw, u) (by simp))
                clear H4 H3 hb20 hw20 w2
                have H4 := Lib.hid h4
                clear h4
                go_wp2_with fail
                have hgb := granted_back ws.c k q
                have hh3 := sysHearC (c := wss.c) H4.out.sys 3 (k + 1) q (by rw [HCC.out, HGL.out]; exact G5.out) G3.out (by rw [HCC.out, HGL.out]; exact G4.out)
                rw [HCC.out, hgb.2] at hh3
                rw [← HBC.out]
                refine hh3.mono ?_; rintro e w2 ⟨rfl, h2⟩
                clear hh3
                have h3 := H4.out.centreNext h2
                obtain ⟨x, hx4⟩ : ∃ x : Int × Int × Int, x = (0, 0, 0) := ⟨_, rfl⟩
                rw [← hx4]
                clear h2 d0 d1 d2 c0
                have hc1 := hgb.1
                clear hgb
                have H3 := Lib.hid h3
                have HX4 := Lib.hid hx4
                have HC1 := Lib.hid hc1
                clear hc1 hx4 h3
                go_wp2_with (with_reducible refine atStore 41 rfl ?_; refine hold ?_; intro qG hG)
                refine hG.1 ?_; clear hG qG
                refine namedL ?_; intro w3 hw3
                have hb3 : Blk w3 w2.heap.size 41 (wordL (0, 0, 0)) := by rw [hw3]; exact Blk.new' w2 41 (wordL (0, 0, 0)) rfl
                have hf3 : Frm w2.heap.size [] w2 w3 := by rw [hw3]; repeat (first | with_reducible exact Frm.refl _ _ _ | with_reducible refine Frm.drewN ?_ | with_reducible refine Frm.drew ?_ | ((with_reducible refine Frm.setCell' ?_ ?_); · first | (left; simp; done) | (right; simp; done) | (right; simp; omega)) | ((with_reducible refine Frm.alloc' ?_ ?_); · first | exact Nat.le_refl _ | (simp; done) | (simp; omega)))
                have h4 := H3.out.beside hf3 (Nat.le_refl _) hb3
                clear hw3
                refine wpList_storeB (P := Try.prog) (ty := 41) (cs := wordL x) rfl rfl hb3 rfl rfl rfl (wordL_info _) (wordL_one _) ?_
                have h5 := h4.turnHead (fun y hy => by have := H3.out.sys.ltX y (by simp only [List.mem_append]; exact .inr hy); omega) (wordL x).toArray
                generalize w3.setRow w2.heap.size (wordL x).toArray = w4 at h5 ⊢
                clear h4 hb3 hf3 w3
                have H4 := Lib.hid h5
                clear h5
                have h4 := H4.out
                have e29 : decide ((gotS (ws.node k) (t : Int) jj).fall.now < (gotS (ws.node k) (t : Int) jj).fall.end_) = false := by simp [NS.fall]
                have hh := holdsN h4.sys HP7.out
                dsimp only at hh
                rw [e29] at hh
                have c0 : w4.cell? ⟨bw, 0, none⟩ = some (.pointer (some ⟨mm.bc, 0, none⟩)) := by rw [HBC.out]; exact HU0.out w4 (h4.sys.ext (bw, u) (by simp))
                have hroot4 := h4.sys.root
                have hfin : Frm w.heap.size [] w w4 := HF0.out.call hroot4 HF0.out.size (by simp)
                clear h4 HH
                have HH := Lib.hid hh
                have HFIN := Lib.hid hfin
                clear hfin hh
                go_wp2_with fail
                refine HH.out.mono ?_; rintro e w6 ⟨rfl, hf6⟩
                have h6 := H4.out.quiet hf6
                clear c0
                have c0 : w6.cell? ⟨bw, 0, none⟩ = some (.pointer (some ⟨mm.bc, 0, none⟩)) := by rw [HBC.out]; exact HU0.out w6 (h6.sys.ext (bw, u) (by simp))
                have h39 := sysHoldsC h6.sys
                dsimp only at h39
                rw [HC1.out] at h39
                have H39 := Lib.hid h39
                have HF6 := Lib.hid hf6
                clear hf6 h39
                clear h6
                go_wp2_with (first | (go_at_call 39; refine H39.out.mono ?_; rintro e w' ⟨rfl, rfl⟩) | (go_at_call 16; refine (awake_any _).mono ?_; rintro e w8 ⟨rfl, hf8⟩))
                go_ret
                exact ⟨rfl, (HFIN.out.call HF6.out HFIN.out.size (by simp)).call hf8 (Nat.le_trans HFIN.out.size HF6.out.size) (by simp)⟩
              · have hcond : ((jj : Int) == (hf : Int) && decide ((128 : Int) ≤ nd)) = false := by
                  cases h1 : ((jj : Int) == (hf : Int) && decide ((128 : Int) ≤ nd))
                  · rfl
                  · have := Bool.and_eq_true_iff.1 h1
                    have h2 := beq_iff_eq.1 this.1
                    have h3 := of_decide_eq_true this.2
                    exact absurd ⟨by omega, by omega⟩ hr
                by_cases hr1 : jj = hf
                · have hr2 : ¬ (128 : Int) ≤ (nd : Int) := by omega
                  subst hr1
                  have HH := Lib.hid hh
                  have HW := Lib.hid hwa
                  have HPK := Lib.hid hpk
                  have HCC := Lib.hid hcc
                  have HBC := Lib.hid hbc
                  have HR := Lib.hid hroot
                  have HUB := Lib.hid hub
                  have HRR := Lib.hid hr
                  have HCO := Lib.hid hcond
                  have HJT := Lib.hid hjt
                  have HHF := Lib.hid hhf
                  clear hhf hjt hcond hr hub hroot hbc hcc hpk hwa hh
                  go_wp2_with (go_at_call 27; refine HH.out.mono ?_; rintro e w' ⟨rfl, hf6⟩)
                  have h7 := HW.out.quiet hf6
                  refine (sysTickN h7.sys HPK.out (G10.out jj (by have := HJT.out; omega)) (by omega)).mono ?_; rintro e w7 ⟨rfl, own7, h8⟩
                  have h8 := h7.nodeNext HPK.out h8
                  dsimp only at h8
                  rw [gotS_tick] at h8
                  go_wp2_with fail
                  exact ⟨⟨jj + 1, by simp, HJT.out, ⟨_, _, own7, h8, get_set_eq HPK.out, HCC.out, HBC.out⟩⟩, by have := HJT.out; simp [intOf]; omega⟩
                · have hr3 : ¬ (jj : Int) = (hf : Int) := by omega
                  have HH := Lib.hid hh
                  have HW := Lib.hid hwa
                  have HPK := Lib.hid hpk
                  have HCC := Lib.hid hcc
                  have HBC := Lib.hid hbc
                  have HR := Lib.hid hroot
                  have HUB := Lib.hid hub
                  have HRR := Lib.hid hr
                  have HCO := Lib.hid hcond
                  have HJT := Lib.hid hjt
                  have HHF := Lib.hid hhf
                  clear hhf hjt hcond hr hub hroot hbc hcc hpk hwa hh
                  go_wp2_with (go_at_call 27; refine HH.out.mono ?_; rintro e w' ⟨rfl, hf6⟩)
                  have h7 := HW.out.quiet hf6
                  refine (sysTickN h7.sys HPK.out (G10.out jj (by have := HJT.out; omega)) (by omega)).mono ?_; rintro e w7 ⟨rfl, own7, h8⟩
                  have h8 := h7.nodeNext HPK.out h8
                  dsimp only at h8
                  rw [gotS_tick] at h8
                  go_wp2_with fail
                  exact ⟨⟨jj + 1, by simp, HJT.out, ⟨_, _, own7, h8, get_set_eq HPK.out, HCC.out, HBC.out⟩⟩, by have := HJT.out; simp [intOf]; omega⟩
            · have hjt' : ¬ (jj : Int) < (t : Int) := by omega
              have hh := holdsN hwa.sys hpk
              dsimp only at hh
              rw [gotS_holds, decide_eq_false hjt'] at hh
              have hfin : Frm w.heap.size [] w wr := HF0.out.call hroot HF0.out.size (by simp)
              have HH := Lib.hid hh
              have HFIN := Lib.hid hfin
              have HW := Lib.hid hwa
              have HPK := Lib.hid hpk
              clear hpk hwa hfin hh
              go_wp2_with (first | (go_at_call 27; refine HH.out.mono ?_; rintro e w' ⟨rfl, hf6⟩) | (go_at_call 16; refine (awake_any _).mono ?_; rintro e w8 ⟨rfl, hf8⟩))
              go_ret
              exact ⟨rfl, (HFIN.out.call hf6 HFIN.out.size (by simp)).call hf8 (Nat.le_trans HFIN.out.size hf6.size) (by simp)⟩
        · have hfin : Frm w.heap.size [] w wr := HF0.out.call hroot HF0.out.size (by simp)
          have HW := Lib.hid hwa
          have HFI := Lib.hid hfi
          have HR := Lib.hid hroot
          have HSL1 := Lib.hid hsl1
          have HSL2 := Lib.hid hsl2
          have HX := Lib.hid hx
          have HB := Lib.hid hb
          have HFIN := Lib.hid hfin
          clear hfin hb hx hsl2 hsl1 hroot hfi hwa
          go_wp2_with (first | (go_at_call 37; refine (centLease _ _ HW.out.sys.cent.blk).mono ?_; rintro e w' ⟨rfl, nq, rfl⟩) | (go_at_call 16; refine (awake_any _).mono ?_; rintro e w8 ⟨rfl, hf8⟩))
          go_ret
          exact ⟨rfl, (HFIN.out.drewN).call hf8 HFIN.out.size (by simp)⟩

set_option maxRecDepth 100000 in
theorem commandArrives_lifted (os : Os) (started : os.Started) (H : Type) (enc : TypeId × Value → H) :
    ReturnsInHanded {} Try.checked os 8 .any (Rows.commandArrivesSpec.pre6 enc Try.prog Try.f8 Rows.commandArrivesRow.domain false) (Rows.commandArrivesSpec.post enc Try.prog Try.f8 false true false false) := by
  refine law_lift (fn := Try.f8) (s := Rows.commandArrivesSpec) (conds := Rows.commandArrivesRow.domain) started 3 (by kernel_rfl) Try.func8
      (ChangeSpec.witness6 (enc := enc) (C := Try.checked) false ⟨#[], #[.agg #[.int .u8 0, .int .u8 0, .int .u8 0], .slice none 0 0, .int .u8 0], []⟩ 8 (by kernel_rfl) (by kernel_rfl) (by kernel_rfl) (by kernel_rfl))
      (by rw [Try.params8]; decide +kernel) (by rw [Try.params8]; rfl) (by kernel_rfl) rfl (fun ds h => by match ds, h with | [d1, d2, d3], _ => rfl) ?_
  intro W base args ds ps hval hA
  rw [Try.params8] at hA hval
  obtain ⟨v0, vs0, d0, ds0, p0, q0, hargs, rfl, rfl, h0, r0⟩ := trodAll_cons hA
  obtain ⟨v1, vs1, d1, ds1, p1, q1, rfl, rfl, rfl, h1, r1⟩ := trodAll_cons r0
  obtain ⟨v2, vs2, d2, ds2, p2, q2, rfl, rfl, rfl, h2, r2⟩ := trodAll_cons r1
  obtain ⟨rfl, rfl, rfl⟩ := trodAll_nil r2
  obtain rfl : args = #[v0, v1, v2] := by cases args; simp_all
  obtain ⟨a0, a1, a2, rfl, b0, b1, b2⟩ := open_bytes3 (hval 0 69 v0 rfl rfl) h0
  obtain ⟨ad, len, cap, b, off, f, rfl, hl, ha⟩ := open_evs (hval 1 70 v1 rfl rfl) h1
  obtain ⟨nd, rfl, hnd⟩ := open_u8 (hval 2 5 v2 rfl rfl) h2
  exact arrives_walk a0 a1 a2 nd b0 b1 b2 hnd ad len cap b off f W hl ha

theorem commandArrives_over : Rows.commandArrivesRow.holds Try.pinned (OpenSpec.ofChange Rows.commandArrivesSpec) :=
  OpenClaim.holds_of_wide 8 Try.f8 rfl rfl rfl rfl rfl rfl rfl ⟨rfl, rfl, rfl, rfl, rfl⟩ rfl rfl rfl rfl rfl (by kernel_rfl) Try.func8 (by kernel_rfl)
    (of_decide_eq_true (by kernel_rfl)) (by unfold Func.isWrapper; first | (rw [if_pos (by decide +kernel)]; kernel_rfl) | (rw [if_neg (by decide +kernel)]; exact ⟨rfl, rfl⟩))
    (fun os started H enc _ => commandArrives_lifted os started H enc)

/-- The statement. -/
theorem commandArrives_proved : Rows.CommandArrivesSaid := commandArrives_over
end Go.Proofs.Ythmladcepkdheaa
