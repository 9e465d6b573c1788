/-
  The centre holds the authority again behind the wait.
-/
import Derived.Test.YthmladcepkdheaaLawOne
import Derived.Test.YthmladcepkdheaaPure5
namespace Go.Proofs.Ythmladcepkdheaa
open Go.ChangeShapes Go.WideShapes Go.ChangeAt Go.RowKit

/-- What stands at the start of each round. -/
structure EvSt2 (o w : World) (bw : Nat) (t s : Nat) (j : Nat) : Prop where
  ex : ∃ m ws, WAt o w [(bw, .cells (m.cells ws).toArray 75 (0, 0))] m ws ∧ Fine t j ws ∧ ws.slow = s ∧ ws.c.wait = waitN t s

set_option maxRecDepth 100000 in
set_option maxHeartbeats 8000000 in
theorem back_walk (x0 x1 x2 : Nat) (h0 : x0 < 256) (h1 : x1 < 256) (h2 : x2 < 256) (ad : Option Addr) (len cap b off : Nat) (f : Nat → Nat × Nat) (w : World) (hl : len ≤ maxLen) (ha : Evs w ad len b off f) :
    Calls Try.prog 7 #[.agg #[.int .u8 x0, .int .u8 x1, .int .u8 x2], .slice ad len cap] w fun e w' => e = .returned (.bool true) ∧ Frm w.heap.size [] w w' := by
  by_cases h400 : 400 < (len : Int)
  · have HA := Lib.hid ha
    clear ha
    go_enter Try.func7, Try.ntmps7
    go_wp2_with (go_at_call 16; refine (awake_any _).mono ?_; rintro e w3 ⟨rfl, hf3⟩)
    go_ret
    exact ⟨rfl, ((Frm.refl _ _ w).alloc (Nat.le_refl _) _).call hf3 (by simp) (by simp)⟩
  · obtain ⟨n, hn⟩ : ∃ n, n = 1 + x0 % 3 := ⟨_, rfl⟩
    obtain ⟨t, ht⟩ : ∃ t, t = 1 + x1 % 12 := ⟨_, rfl⟩
    obtain ⟨s, hs⟩ : ∃ s, s = 50 * (x2 % 21) := ⟨_, rfl⟩
    have hfine : Fine t 0 (WS.start n t s (waitN t s)) := by
      have := wait_le t s (by omega) (by omega)
      exact Fine.start n t s _ (by omega) (by omega) (by omega) (by omega) (by omega) (by omega) this.1 this.2.1 this.2.2
    have hj4 : len ≤ 400 := by omega
    have HA := Lib.hid ha
    have HFINE := Lib.hid hfine
    have HN := Lib.hid hn
    have HT := Lib.hid ht
    have HSS := Lib.hid hs
    clear hs ht hn hfine ha
    go_enter Try.func7, Try.ntmps7
    go_wp2_with fail
    obtain ⟨w0, hw0⟩ : ∃ w0, w0 = w.alloc (.cells #[Value.int .u8 x0, Value.int .u8 x1, Value.int .u8 x2] 69 (0, 0)) := ⟨_, rfl⟩
    rw [← hw0]
    have hf0 : Frm w.heap.size [] w w0 := by rw [hw0]; repeat (first | with_reducible exact Frm.refl _ _ _ | with_reducible refine Frm.drewN ?_ | with_reducible refine Frm.drew ?_ | ((with_reducible refine Frm.setCell' ?_ ?_); · first | (left; simp; done) | (right; simp; done) | (right; simp; omega)) | ((with_reducible refine Frm.alloc' ?_ ?_); · first | exact Nat.le_refl _ | (simp; done) | (simp; omega)))
    have ha0 := HA.out.frm hf0
    have hx0 : Blk w0 w.heap.size 69 [.int .u8 x0, .int .u8 x1, .int .u8 x2] := by rw [hw0]; exact Blk.new w 69 [.int .u8 x0, .int .u8 x1, .int .u8 x2]
    clear HA hw0
    obtain ⟨ws, hws⟩ : ∃ y, y = WS.start n t s (waitN t s) := ⟨_, rfl⟩
    refine (lay_any _ x0 x1 x2 h0 h1 h2 n HN.out t HT.out s HSS.out).mono ?_; rintro e w1 ⟨m, rfl, hwa⟩
    rw [← hws] at hwa ⊢
    have hfine := HFINE.out
    rw [← hws] at hfine
    have hslow : ws.slow = s ∧ ws.c.wait = waitN t s := by rw [hws]; exact ⟨rfl, rfl⟩
    clear HFINE
    have HX0 := Lib.hid hx0
    have HF0 := Lib.hid hf0
    have HA := Lib.hid ha0
    have HFINE := Lib.hid hfine
    have HWS := Lib.hid hws
    have HSL := Lib.hid hslow
    clear hslow hws hfine ha0 hf0 hx0
    go_wp2_with (with_reducible refine atStore 75 rfl ?_; refine hold ?_; intro qG hG)
    refine hG.1 ?_; clear hG qG
    refine namedL ?_; intro w2 hw2
    have hz2 : Blk w2 w1.heap.size 75 zero75 := by rw [hw2]; exact Blk.new' w1 75 zero75 rfl
    have hf2 : Frm w1.heap.size [] w1 w2 := by rw [hw2]; repeat (first | with_reducible exact Frm.refl _ _ _ | with_reducible refine Frm.drewN ?_ | with_reducible refine Frm.drew ?_ | ((with_reducible refine Frm.setCell' ?_ ?_); · first | (left; simp; done) | (right; simp; done) | (right; simp; omega)) | ((with_reducible refine Frm.alloc' ?_ ?_); · first | exact Nat.le_refl _ | (simp; done) | (simp; omega)))
    have h2 := hwa.beside hf2 (Nat.le_refl _) hz2
    clear hw2 hf2
    refine wpList_storeB (P := Try.prog) (cs := m.cells ws) rfl rfl hz2 rfl rfl rfl (m.cells_info ws) hwa.cells_one ?_
    have h3 := h2.turnHead (fun y hy => (by cases hy)) (m.cells ws).toArray
    generalize w2.setRow w1.heap.size (m.cells ws).toArray = w3 at h3 ⊢
    clear h2 hz2
    obtain ⟨bw, hbw⟩ : ∃ b, b = w1.heap.size := ⟨_, rfl⟩
    rw [← hbw] at h3
    simp only [← hbw]
    have hbo : w0.heap.size ≤ bw := by rw [hbw]; exact hwa.sys.root.size
    clear hbw hwa w1
    have H3 := Lib.hid h3
    have HBO := Lib.hid hbo
    clear hbo h3
    go_wp2_with fail
    have HJ4 := Lib.hid hj4
    go_loopw [6, 7] (fun r i wr => ∃ j : Nat, r = .bool true ∧ i = .int .i64 j ∧ j ≤ len ∧ EvSt2 w0 wr bw t s j) (fun _ i _ => len - (intOf i).toNat)
    case atStart => exact ⟨0, rfl, rfl, Nat.zero_le _, ⟨m, ws, H3.out, HFINE.out, HSL.out.1, HSL.out.2⟩⟩
    case round =>
      clear H3 HFINE HSL HWS
      obtain ⟨j, rfl, rfl, hj, ⟨m, ws, hwa, hfi, hsl1, hsl2⟩⟩ := hrel
      have hroot := hwa.sys.root
      by_cases hjl : j < len
      · obtain ⟨had, hbl⟩ := HA.out.at_ (by omega)
        subst had
        have hjl' : (j : Int) < (len : Int) := by omega
        have HSL1 := Lib.hid hsl1
        have HSL2 := Lib.hid hsl2
        clear hsl2 hsl1
        obtain ⟨z0, z1⟩ := (HA.out.frm hroot).cell j hjl
        obtain ⟨k0, k1⟩ := HA.out.small j hjl
        obtain ⟨wh, nn, hq⟩ : ∃ wh nn, f j = (wh, nn) := ⟨_, _, rfl⟩
        rw [hq] at z0 z1 k0 k1
        simp only at z0 z1 k0 k1
        have hbR : Blk wr bw 75 (m.cells ws) := hwa.sys.ext (bw, .cells (m.cells ws).toArray 75 (0, 0)) (by simp)
        have hS : wr.drew.cell? ⟨b, off + j * 2, none⟩ = some (.int .u8 wh) ∧ wr.drew.cell? ⟨b, off + j * 2 + 1, none⟩ = some (.int .u8 nn) := ⟨z0, z1⟩
        have HS := Lib.hid hS
        have HBR := Lib.hid hbR
        have HW := Lib.hid hwa
        have HFI := Lib.hid hfi
        have HR := Lib.hid hroot
        have HJL := Lib.hid hjl
        have HQ := Lib.hid hq
        have HK0 := Lib.hid k0
        have HK1 := Lib.hid k1
        clear hS hbR hwa hfi hroot hjl hq k0 k1 z0 z1
        go_wp2_with fail
        refine wp_region_leftL (fun V => V.cell? ⟨b, off + j * 2, none⟩ = some (.int .u8 wh) ∧ V.cell? ⟨b, off + j * 2 + 1, none⟩ = some (.int .u8 nn)) 100 (by kernel_rfl) ?_
        refine LeftL.run (v := ?_) 1 rfl (by kernel_rfl) rfl (fun _ _ d _ _ h => by cases d <;> exact h) ?_ HS.out ?_; rotate_left; (· intro V hV; obtain ⟨p0, p1⟩ := hV; go_simp; rfl); (intro K' hK'; go_simp; refine hK' _ ?_; clear hK' K')
        refine LeftL.run (v := ?_) 2 rfl (by kernel_rfl) rfl (fun _ _ d _ _ h => by cases d <;> exact h) ?_ HS.out ?_; rotate_left; (· intro V hV; obtain ⟨p0, p1⟩ := hV; go_simp; rfl); (intro K' hK'; go_simp; refine hK' _ ?_; clear hK' K')
        refine LeftL.run (v := ?_) 3 rfl (by kernel_rfl) rfl (fun _ _ d _ _ h => by cases d <;> exact h) ?_ HS.out ?_; rotate_left; (· intro V hV; obtain ⟨p0, p1⟩ := hV; go_simp; rfl); (intro K' hK'; go_simp; refine hK' _ ?_; clear hK' K')
        refine LeftL.run (v := ?_) 4 rfl (by kernel_rfl) rfl (fun _ _ d _ _ h => by cases d <;> exact h) ?_ HS.out ?_; rotate_left; (· intro V hV; obtain ⟨p0, p1⟩ := hV; go_simp; rfl); (intro K' hK'; go_simp; refine hK' _ ?_; clear hK' K')
        refine LeftL.one 0 rfl (by kernel_rfl) ?_
        refine wpList_loadB (P := Try.prog) (ty := 75) (b := bw) (T := 75) (cs := m.cells ws) rfl rfl HBR.out.drew rfl Try.underlying75 rfl (m.cells_info ws) ?_
        refine wpList_nil ?_
        refine ⟨fun _ => HS.out, ?_⟩
        refine LeftL.one 5 rfl (by kernel_rfl) ?_
        go_wp2_with fail
        refine (happen_any (HW.out.quiet (Frm.refl _ _ wr).drew) HFI.out (by have := HJ4.out; have := HJL.out; omega) wh nn HK1.out).mono ?_
        rintro e w5 ⟨m5, rfl, hpt5, h5⟩
        have hfi5 := (HFI.out.happen (by have := HJ4.out; have := HJL.out; omega) wh nn)
        rw [hfi5.1]
        have hfi6 := hfi5.2
        clear hfi5
        obtain ⟨ws5, hws5⟩ : ∃ y, y = (ws.happen wh nn).1 := ⟨_, rfl⟩
        rw [← hws5] at h5 hfi6 ⊢
        have hr5 := h5.sys.root
        obtain ⟨z0, z1⟩ := (HA.out.frm hr5).cell j HJL.out
        rw [HQ.out] at z0 z1
        simp only at z0 z1
        have hb5 : Blk w5 bw 75 (m.cells ws) := h5.sys.ext (bw, .cells (m.cells ws).toArray 75 (0, 0)) (by simp)
        have hS5 : w5.cell? ⟨b, off + j * 2, none⟩ = some (.int .u8 wh) ∧ w5.cell? ⟨b, off + j * 2 + 1, none⟩ = some (.int .u8 nn) := ⟨z0, z1⟩
        have HB5 := Lib.hid hb5
        clear hb5
        clear HS z0 z1
        have HS := Lib.hid hS5
        have H5 := Lib.hid h5
        have HFI6 := Lib.hid hfi6
        have HPT5 := Lib.hid hpt5
        have HWS5 := Lib.hid hws5
        clear hS5 h5 hfi6 hpt5 hws5 hr5
        go_wp2_with fail
        first | refine ⟨fun _ => HS.out, ?_⟩ | refine ⟨HS.out, ?_⟩
        refine LeftL.run (v := ?_) 6 rfl (by kernel_rfl) rfl (fun _ _ d _ _ h => by cases d <;> exact h) ?_ HS.out ?_; rotate_left; (· intro V hV; obtain ⟨p0, p1⟩ := hV; go_simp; rfl); (intro K' hK'; go_simp; refine hK' _ ?_; clear hK' K')
        refine LeftL.run (v := ?_) 7 rfl (by kernel_rfl) rfl (fun _ _ d _ _ h => by cases d <;> exact h) ?_ HS.out ?_; rotate_left; (· intro V hV; obtain ⟨p0, p1⟩ := hV; go_simp; rfl); (intro K' hK'; go_simp; refine hK' _ ?_; clear hK' K')
        refine LeftL.run (v := ?_) 8 rfl (by kernel_rfl) rfl (fun _ _ d _ _ h => by cases d <;> exact h) ?_ HS.out ?_; rotate_left; (· intro V hV; obtain ⟨p0, p1⟩ := hV; go_simp; rfl); (intro K' hK'; go_simp; refine hK' _ ?_; clear hK' K')
        refine LeftL.one 9 rfl (by kernel_rfl) ?_
        refine wpList_storeB (P := Try.prog) (ty := 75) (cs := m5.cells ws5) rfl rfl HB5.out rfl rfl rfl (m5.cells_info ws5) H5.out.cells_one ?_
        have h6 := H5.out.turnHead (fun y hy => (by cases hy)) (m5.cells ws5).toArray
        refine wpList_nil ?_
        generalize w5.setRow bw (m5.cells ws5).toArray = w6 at h6 ⊢
        clear HS
        have hr6 := h6.sys.root
        have H6 := Lib.hid h6
        clear h6
        obtain ⟨z0, z1⟩ := (HA.out.frm hr6).cell j HJL.out
        rw [HQ.out] at z0 z1
        simp only at z0 z1
        refine ⟨fun _ => ⟨z0, z1⟩, ?_⟩
        refine LeftL.one 10 rfl (by kernel_rfl) ?_
        go_wp2_with fail
        first | refine ⟨fun _ => ⟨z0, z1⟩, ?_⟩ | refine ⟨⟨z0, z1⟩, ?_⟩
        refine LeftL.done (by kernel_rfl) ?_
        clear z0 z1
        go_wp2_with fail
        have hsame := ws.happen_same wh nn
        rw [← HWS5.out] at hsame
        exact ⟨⟨j + 1, rfl, by simp, HJL.out, ⟨m5, ws5, H6.out, HFI6.out, hsame.1.trans HSL1.out, hsame.2.1.trans HSL2.out⟩⟩, by have := HJL.out; simp [intOf]; omega⟩
      · have hjl' : ¬ (j : Int) < (len : Int) := by omega
        have hx : Blk wr w.heap.size 69 [.int .u8 x0, .int .u8 x1, .int .u8 x2] := hroot.blk HX0.out HX0.out.lt (by simp)
        have hb : Blk wr bw 75 (m.cells ws) := hwa.sys.ext (bw, .cells (m.cells ws).toArray 75 (0, 0)) (by simp)
        have d1 : wr.cell? ⟨w.heap.size, 1, none⟩ = some (.int .u8 x1) := hx.cell 1
        have c5 : wr.cell? ⟨bw, 5, none⟩ = some (.int .i64 s) := by rw [← hsl1]; exact hb.cell 5
        have r1 : (x1 : Int) % 12 = ((t : Int) - 1) := by rw [HT.out]; omega
        have u1 : (1 : Int) + ((t : Int) - 1) = t := by omega
        obtain ⟨wt, hwt⟩ : ∃ wt : Nat, (waitR (t : Int) s) = ((wt : Int), 0) ∧ waitN (t : Int) s = wt ∧ 1 ≤ wt ∧ wt ≤ 1000 := by
          have h1 := HT.out
          have h2 := HSS.out
          have h3 := wait_le t s (by omega) (by omega)
          have p1 : (0 : Int) ≤ (t : Int) * (1000 + s) := Int.mul_nonneg (by omega) (by omega)
          have p2 : (t : Int) * (1000 + s) ≤ 12 * 2000 := Int.mul_le_mul (by omega) (by omega) (by omega) (by omega)
          refine ⟨(waitN (t : Int) s).toNat, ?_, by omega, ?_, by unfold waitN; omega⟩
          · unfold waitR
            rw [inB_iff.2 (by omega), inB_iff.2 (by omega)]
            simp only [Bool.and_self, if_true]
            rw [Int.toNat_of_nonneg h3.2.1]
          · unfold waitN at *
            omega
        obtain ⟨hwt1, hwt2, hwt3, hwt4⟩ := hwt
        have hnow : 0 ≤ ws.c.since ∧ ws.c.since ≤ ws.c.now ∧ ws.c.now ≤ 400 := by
          have := hfi.2.since0; have := hfi.2.since1; have := hfi.2.now1; have := HJ4.out; omega
        rw [hwt2] at hsl2
        have HWT1 := Lib.hid hwt1
        have HWT2 := Lib.hid hwt2
        have HX := Lib.hid hx
        have HBX := Lib.hid hb
        have HW := Lib.hid hwa
        have HFI := Lib.hid hfi
        have HR := Lib.hid hroot
        have HSL1 := Lib.hid hsl1
        have HSL2 := Lib.hid hsl2
        have HNOW := Lib.hid hnow
        clear hnow hsl2 hsl1 hroot hfi hwa hb hx hwt2 hwt1
        go_wp2_with (go_at_call 12; refine (refWait_any _ _ _).mono ?_; rintro e w' ⟨rfl, rfl⟩; rw [HWT1.out])
        clear d1 c5 r1 u1 hjl' hjl
        go_loopw [10] (fun i wr2 => ∃ (jj : Nat) (c : CS), i = .int .i64 jj ∧ jj ≤ wt ∧ WAt w0 wr2 [(bw, .cells (m.cells ws).toArray 75 (0, 0))] m { ws with c := c } ∧ Waited jj c ∧ c.wait = wt ∧ 0 ≤ c.since ∧ c.since ≤ c.now ∧ c.now ≤ 400 + jj) (fun i _ => wt - (intOf i).toNat)
        case atStart => exact ⟨0, ws.c, rfl, Nat.zero_le _, HW.out, Waited.start HNOW.out.2.1, HSL2.out, HNOW.out.1, HNOW.out.2.1, by have := HNOW.out.2.2; omega⟩
        case round =>
          obtain ⟨jj, c, rfl, hjj, hwa2, hwd, hcw, q1, q2, q3⟩ := hrel
          clear HW
          have hb2 : Blk wr bw 75 (m.cells ws) := hwa2.sys.ext (bw, .cells (m.cells ws).toArray 75 (0, 0)) (by simp)
          have c0 : wr.cell? ⟨bw, 0, none⟩ = some (.pointer (some ⟨m.bc, 0, none⟩)) := hb2.cell 0
          clear hb2
          by_cases hjw : jj < wt
          · have hjw' : (jj : Int) < (wt : Int) := by omega
            by_cases hn0 : c.node = 0
            · have hfin : Frm w.heap.size [] w wr := HF0.out.call hwa2.sys.root HF0.out.size (by simp)
              have HFIN := Lib.hid hfin
              have HW2 := Lib.hid hwa2
              have HWD := Lib.hid hwd
              have HCW := Lib.hid hcw
              have HN0 := Lib.hid hn0
              clear hn0 hcw hwd hwa2 hfin
              go_wp2_with (first | (go_at_call 39; refine (sysHoldsC HW2.out.sys).mono ?_; rintro e w' ⟨rfl, rfl⟩; dsimp only; rw [HN0.out]) | (go_at_call 16; refine (awake_any _).mono ?_; rintro e w8 ⟨rfl, hf8⟩))
              go_ret
              exact ⟨rfl, HFIN.out.call hf8 HFIN.out.size (by simp)⟩
            · have hn1 : (c.node == 0) = false := by simpa using hn0
              have htk := sysTickC (c := c) hwa2.sys (by omega) (by omega) q1 (by omega) (by omega) (by omega)
              have hnx := tick_now c
              have hsx := tick_since c q1 q2
              have HTK := Lib.hid htk
              have HW2 := Lib.hid hwa2
              have HWD := Lib.hid hwd
              have HCW := Lib.hid hcw
              have HN0 := Lib.hid hn0
              have HN1 := Lib.hid hn1
              have HJW := Lib.hid hjw
              have Q1 := Lib.hid q1
              have Q2 := Lib.hid q2
              have Q3 := Lib.hid q3
              have HNX := Lib.hid hnx
              have HSX := Lib.hid hsx
              clear hsx hnx q3 q2 q1 hjw hn1 hn0 hcw hwd hwa2 htk
              go_wp2_with (first | (go_at_call 39; refine (sysHoldsC HW2.out.sys).mono ?_; rintro e w' ⟨rfl, rfl⟩; dsimp only; rw [HN1.out]) | (go_at_call 35; refine HTK.out.mono ?_; rintro e w' ⟨rfl, h7⟩))
              have h8 := HW2.out.centreNext h7
              exact ⟨⟨jj + 1, c.tick, by simp, HJW.out, h8, HWD.out.tick HN0.out, (tick_wait c).trans HCW.out, HSX.out.1, HSX.out.2, by have := HNX.out; have := Q3.out; omega⟩, by have := HJW.out; simp [intOf]; omega⟩
          · have hjw' : ¬ (jj : Int) < (wt : Int) := by omega
            have hn0 : c.node = 0 := hwd.over (by omega) (by rw [hcw]; omega)
            have hfin : Frm w.heap.size [] w wr := HF0.out.call hwa2.sys.root HF0.out.size (by simp)
            have HFIN := Lib.hid hfin
            have HW2 := Lib.hid hwa2
            have HWD := Lib.hid hwd
            have HCW := Lib.hid hcw
            have HN0 := Lib.hid hn0
            clear hn0 hcw hwd hwa2 hfin
            go_wp2_with (first | (go_at_call 39; refine (sysHoldsC HW2.out.sys).mono ?_; rintro e w' ⟨rfl, rfl⟩; dsimp only; rw [HN0.out]) | (go_at_call 16; refine (awake_any _).mono ?_; rintro e w8 ⟨rfl, hf8⟩))
            go_ret
            exact ⟨rfl, HFIN.out.call hf8 HFIN.out.size (by simp)⟩

set_option maxRecDepth 100000 in
theorem commandBack_lifted (os : Os) (started : os.Started) (H : Type) (enc : TypeId × Value → H) :
    ReturnsInHanded {} Try.checked os 7 .any (Rows.commandBackSpec.pre6 enc Try.prog Try.f7 Rows.commandBackRow.domain false) (Rows.commandBackSpec.post enc Try.prog Try.f7 false true false false) := by
  refine law_lift (fn := Try.f7) (s := Rows.commandBackSpec) (conds := Rows.commandBackRow.domain) started 2 (by kernel_rfl) Try.func7
      (ChangeSpec.witness6 (enc := enc) (C := Try.checked) false ⟨#[], #[.agg #[.int .u8 0, .int .u8 0, .int .u8 0], .slice none 0 0], []⟩ 8 (by kernel_rfl) (by kernel_rfl) (by kernel_rfl) (by kernel_rfl))
      (by rw [Try.params7]; decide +kernel) (by rw [Try.params7]; rfl) (by kernel_rfl) rfl (fun ds h => by match ds, h with | [d1, d2], _ => rfl) ?_
  intro W base args ds ps hval hA
  rw [Try.params7] at hA hval
  obtain ⟨v0, vs0, d0, ds0, p0, q0, hargs, rfl, rfl, h0, r0⟩ := trodAll_cons hA
  obtain ⟨v1, vs1, d1, ds1, p1, q1, rfl, rfl, rfl, h1, r1⟩ := trodAll_cons r0
  obtain ⟨rfl, rfl, rfl⟩ := trodAll_nil r1
  obtain rfl : args = #[v0, v1] := by cases args; simp_all
  obtain ⟨a0, a1, a2, rfl, b0, b1, b2⟩ := open_bytes3 (hval 0 69 v0 rfl rfl) h0
  obtain ⟨ad, len, cap, b, off, f, rfl, hl, ha⟩ := open_evs (hval 1 70 v1 rfl rfl) h1
  exact back_walk a0 a1 a2 b0 b1 b2 ad len cap b off f W hl ha

theorem commandBack_over : Rows.commandBackRow.holds Try.pinned (OpenSpec.ofChange Rows.commandBackSpec) :=
  OpenClaim.holds_of_wide 7 Try.f7 rfl rfl rfl rfl rfl rfl rfl ⟨rfl, rfl, rfl, rfl, rfl⟩ rfl rfl rfl rfl rfl (by kernel_rfl) Try.func7 (by kernel_rfl)
    (of_decide_eq_true (by kernel_rfl)) (by unfold Func.isWrapper; first | (rw [if_pos (by decide +kernel)]; kernel_rfl) | (rw [if_neg (by decide +kernel)]; exact ⟨rfl, rfl⟩))
    (fun os started H enc _ => commandBack_lifted os started H enc)

/-- The statement. -/
theorem commandBack_proved : Rows.CommandBackSaid := commandBack_over
end Go.Proofs.Ythmladcepkdheaa
