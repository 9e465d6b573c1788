/-
  A word that is heard a second time changes nothing; a node's end is never more than its term ahead, and falls by Return and Break alone.
-/
import Derived.Test.YthmladcepkdheaaLawArrives
import Derived.Test.YthmladcepkdheaaTwice
namespace Go.Proofs.Ythmladcepkdheaa
open Go.ChangeShapes Go.WideShapes Go.ChangeAt Go.RowKit

/-- What stands at the start of each round. -/
structure EvSt3 (o w : World) (bw : Nat) (t : Nat) (j : Nat) : Prop where
  ex : ∃ m ws, WAt o w [(bw, .cells (m.cells ws).toArray 75 (0, 0))] m ws ∧ Fine t j ws ∧ ws.Rise

set_option maxRecDepth 100000 in
set_option maxHeartbeats 8000000 in
theorem twice_walk (x0 x1 x2 nd : Nat) (h0 : x0 < 256) (h1 : x1 < 256) (h2 : x2 < 256) (hnd : nd < 256) (ad : Option Addr) (len cap b off : Nat) (f : Nat → Nat × Nat) (w : World) (hl : len ≤ maxLen) (ha : Evs w ad len b off f) :
    Calls Try.prog 9 #[.agg #[.int .u8 x0, .int .u8 x1, .int .u8 x2], .slice ad len cap, .int .u8 nd] w fun e w' => e = .returned (.bool true) ∧ Frm w.heap.size [] w w' := by
  by_cases h400 : 400 < (len : Int)
  · have HA := Lib.hid ha
    clear ha
    go_enter Try.func9, Try.ntmps9
    go_wp2_with (go_at_call 16; refine (awake_any _).mono ?_; rintro e w3 ⟨rfl, hf3⟩)
    go_ret
    exact ⟨rfl, ((Frm.refl _ _ w).alloc (Nat.le_refl _) _).call hf3 (by simp) (by simp)⟩
  · obtain ⟨n, hn⟩ : ∃ n, n = 1 + x0 % 3 := ⟨_, rfl⟩
    obtain ⟨t, ht⟩ : ∃ t, t = 1 + x1 % 12 := ⟨_, rfl⟩
    obtain ⟨s, hs⟩ : ∃ s, s = 50 * (x2 % 21) := ⟨_, rfl⟩
    have hfine : Fine t 0 (WS.start n t s (waitN t s)) := by
      have := wait_le t s (by omega) (by omega)
      exact Fine.start n t s _ (by omega) (by omega) (by omega) (by omega) (by omega) (by omega) this.1 this.2.1 this.2.2
    have hj4 : len ≤ 400 := by omega
    have HA := Lib.hid ha
    have HFINE := Lib.hid hfine
    have HN := Lib.hid hn
    have HT := Lib.hid ht
    have HSS := Lib.hid hs
    clear hs ht hn hfine ha
    go_enter Try.func9, Try.ntmps9
    go_wp2_with fail
    obtain ⟨w0, hw0⟩ : ∃ w0, w0 = w.alloc (.cells #[Value.int .u8 x0, Value.int .u8 x1, Value.int .u8 x2] 69 (0, 0)) := ⟨_, rfl⟩
    rw [← hw0]
    have hf0 : Frm w.heap.size [] w w0 := by rw [hw0]; repeat (first | with_reducible exact Frm.refl _ _ _ | with_reducible refine Frm.drewN ?_ | with_reducible refine Frm.drew ?_ | ((with_reducible refine Frm.setCell' ?_ ?_); · first | (left; simp; done) | (right; simp; done) | (right; simp; omega)) | ((with_reducible refine Frm.alloc' ?_ ?_); · first | exact Nat.le_refl _ | (simp; done) | (simp; omega)))
    have ha0 := HA.out.frm hf0
    have hx0 : Blk w0 w.heap.size 69 [.int .u8 x0, .int .u8 x1, .int .u8 x2] := by rw [hw0]; exact Blk.new w 69 [.int .u8 x0, .int .u8 x1, .int .u8 x2]
    clear HA hw0
    obtain ⟨ws, hws⟩ : ∃ y, y = WS.start n t s (waitN t s) := ⟨_, rfl⟩
    refine (lay_any _ x0 x1 x2 h0 h1 h2 n HN.out t HT.out s HSS.out).mono ?_; rintro e w1 ⟨m, rfl, hwa⟩
    rw [← hws] at hwa ⊢
    have hfine := HFINE.out
    rw [← hws] at hfine
    have hrise : ws.Rise := by rw [hws]; exact start_rise _ _ _ _
    clear HFINE
    have HX0 := Lib.hid hx0
    have HF0 := Lib.hid hf0
    have HA := Lib.hid ha0
    have HFINE := Lib.hid hfine
    have HWS := Lib.hid hws
    have HRISE := Lib.hid hrise
    clear hrise hws hfine ha0 hf0 hx0
    go_wp2_with (with_reducible refine atStore 75 rfl ?_; refine hold ?_; intro qG hG)
    refine hG.1 ?_; clear hG qG
    refine namedL ?_; intro w2 hw2
    have hz2 : Blk w2 w1.heap.size 75 zero75 := by rw [hw2]; exact Blk.new' w1 75 zero75 rfl
    have hf2 : Frm w1.heap.size [] w1 w2 := by rw [hw2]; repeat (first | with_reducible exact Frm.refl _ _ _ | with_reducible refine Frm.drewN ?_ | with_reducible refine Frm.drew ?_ | ((with_reducible refine Frm.setCell' ?_ ?_); · first | (left; simp; done) | (right; simp; done) | (right; simp; omega)) | ((with_reducible refine Frm.alloc' ?_ ?_); · first | exact Nat.le_refl _ | (simp; done) | (simp; omega)))
    have h2 := hwa.beside hf2 (Nat.le_refl _) hz2
    clear hw2 hf2
    refine wpList_storeB (P := Try.prog) (cs := m.cells ws) rfl rfl hz2 rfl rfl rfl (m.cells_info ws) hwa.cells_one ?_
    have h3 := h2.turnHead (fun y hy => (by cases hy)) (m.cells ws).toArray
    generalize w2.setRow w1.heap.size (m.cells ws).toArray = w3 at h3 ⊢
    clear h2 hz2
    obtain ⟨bw, hbw⟩ : ∃ b, b = w1.heap.size := ⟨_, rfl⟩
    rw [← hbw] at h3
    simp only [← hbw]
    have hbo : w0.heap.size ≤ bw := by rw [hbw]; exact hwa.sys.root.size
    clear hbw hwa w1
    have d1 : w3.cell? ⟨w.heap.size, 1, none⟩ = some (.int .u8 x1) := (h3.sys.root.blk HX0.out HX0.out.lt (by simp)).cell 1
    have r1 : (x1 : Int) % 12 = ((t : Int) - 1) := by rw [HT.out]; omega
    have u1 : (1 : Int) + ((t : Int) - 1) = t := by omega
    have H3 := Lib.hid h3
    have HBO := Lib.hid hbo
    clear hbo h3
    go_wp2_with fail
    clear d1 r1 u1
    have HJ4 := Lib.hid hj4
    go_loopw [8, 10] (fun r i wr => ∃ j : Nat, r = .bool true ∧ i = .int .i64 j ∧ j ≤ len ∧ EvSt3 w0 wr bw t j) (fun _ i _ => len - (intOf i).toNat)
    case atStart => exact ⟨0, rfl, rfl, Nat.zero_le _, ⟨m, ws, H3.out, HFINE.out, HRISE.out⟩⟩
    case round =>
      clear H3 HFINE HRISE HWS
      obtain ⟨j, rfl, rfl, hj, ⟨m, ws, hwa, hfi, hri⟩⟩ := hrel
      have hroot := hwa.sys.root
      by_cases hjl : j < len
      · obtain ⟨had, hbl⟩ := HA.out.at_ (by omega)
        subst had
        have hjl' : (j : Int) < (len : Int) := by omega
        have hb : Blk wr bw 75 (m.cells ws) := hwa.sys.ext (bw, .cells (m.cells ws).toArray 75 (0, 0)) (by simp)
        obtain ⟨zz0, zz1⟩ := (HA.out.frm hroot).cell j hjl
        obtain ⟨kk0, kk1⟩ := HA.out.small j hjl
        obtain ⟨k, hk⟩ : ∃ k, k = (f j).2 % ws.ns.length := ⟨_, rfl⟩
        obtain ⟨nd, hndq⟩ : ∃ nd, nd = (f j).2 := ⟨_, rfl⟩
        rw [← hndq] at zz1 hk kk1
        have hsome := hfi.2.some_
        have hfew := hfi.2.few
        have hkl : k < ws.ns.length := by rw [hk]; exact Nat.mod_lt _ (by omega)
        have hpl : m.ps.length = ws.ns.length := by rw [← hwa.ns]; simp
        obtain ⟨p, hp, hps⟩ := hwa.node hkl
        obtain ⟨gN, oN, cN, hvN, _, hcl, hcm⟩ := hwa.rowN.pos (by omega)
        have c1 : wr.cell? ⟨bw, 1, none⟩ = some (.slice (some ⟨gN, oN, none⟩) ws.ns.length cN) := by rw [← hpl, ← hvN]; exact hb.cell 1
        have z : wr.cell? ⟨gN, oN + k, none⟩ = some (.pointer (some ⟨p.b, 0, none⟩)) := hwa.ptrCell hvN hp
        have hk' : (nd : Int) % (ws.ns.length : Int) = (k : Int) := by rw [hk]; omega
        have hkl' : (k : Int) < (ws.ns.length : Int) := by omega
        have hne : ¬ ws.ns = [] := fun e => by rw [e] at hsome; simp at hsome
        have e2 : IntKind.i64.wrap (nd : Int) = (nd : Int) := IntWalk.i64_in _ (by omega)
        have e3 : (nd : Int).tmod (ws.ns.length : Int) = (k : Int) := by rw [← hk']; exact Int.tmod_eq_emod_of_nonneg (by omega)
        have e5 : IntKind.i64.wrap (k : Int) = (k : Int) := IntWalk.i64_in _ (by omega)
        have HW0 := Lib.hid hwa
        have HFI0 := Lib.hid hfi
        have HRI := Lib.hid hri
        have HR0 := Lib.hid hroot
        have HB0 := Lib.hid hb
        have HK := Lib.hid hk
        have HKL := Lib.hid hkl
        have HPL := Lib.hid hpl
        have HP := Lib.hid hp
        have HPS := Lib.hid hps
        have HVN := Lib.hid hvN
        have HCL := Lib.hid hcl
        have HCM := Lib.hid hcm
        have HJL0 := Lib.hid hjl
        have HKK0 := Lib.hid kk0
        have HKK1 := Lib.hid kk1
        have HNDQ := Lib.hid hndq
        have HSOME := Lib.hid hsome
        have HFEW := Lib.hid hfew
        clear hfew hsome hndq kk1 kk0 hjl hcm hcl hvN hps hp hpl hkl hk hb hroot hri hfi hwa
        go_wp2_with fail
        refine wp_region_left (by kernel_rfl) ?_
        refine Left.headD 14 (by kernel_rfl) ?_
        simp only [List.take_succ_cons, List.take_zero, List.drop_succ_cons, List.drop_zero, Nat.reduceSub]
        repeat (quiet_step (fail))
        refine wpQuiet_nil ?_
        rintro _ ⟨nq, rfl⟩
        refine Left.tail (by kernel_rfl) ?_
        simp only [List.drop_succ_cons, List.drop_zero]
        go_wp2_with (go_at_call 26; refine (endsN (HW0.out.quiet ((Frm.refl _ _ _).drewN)).sys HP.out).mono ?_; rintro e wr ⟨rfl, hfq⟩)
        have hwa := (HW0.out.quiet ((Frm.refl _ _ _).drewN)).quiet hfq
        have hroot := hwa.sys.root
        have hfi := HFI0.out
        have hjl := HJL0.out
        clear HW0 HFI0 HJL0 HR0 HB0 c1 z zz0 zz1 e2 e3 e5 hne hfq
        obtain ⟨z0, z1⟩ := (HA.out.frm hroot).cell j hjl
        obtain ⟨k0, k1⟩ := HA.out.small j hjl
        obtain ⟨wh, nn, hq⟩ : ∃ wh nn, f j = (wh, nn) := ⟨_, _, rfl⟩
        rw [hq] at z0 z1 k0 k1
        simp only at z0 z1 k0 k1
        have hbR : Blk wr bw 75 (m.cells ws) := hwa.sys.ext (bw, .cells (m.cells ws).toArray 75 (0, 0)) (by simp)
        have hS : wr.drew.cell? ⟨b, off + j * 2, none⟩ = some (.int .u8 wh) ∧ wr.drew.cell? ⟨b, off + j * 2 + 1, none⟩ = some (.int .u8 nn) := ⟨z0, z1⟩
        have HS := Lib.hid hS
        have HBR := Lib.hid hbR
        have HW := Lib.hid hwa
        have HFI := Lib.hid hfi
        have HR := Lib.hid hroot
        have HJL := Lib.hid hjl
        have HQ := Lib.hid hq
        have HK0 := Lib.hid k0
        have HK1 := Lib.hid k1
        clear hS hbR hwa hfi hroot hjl hq k0 k1 z0 z1
        skip
        refine wp_region_leftL (fun V => V.cell? ⟨b, off + j * 2, none⟩ = some (.int .u8 wh) ∧ V.cell? ⟨b, off + j * 2 + 1, none⟩ = some (.int .u8 nn)) 100 (by kernel_rfl) ?_
        refine LeftL.run (v := ?_) 1 rfl (by kernel_rfl) rfl (fun _ _ d _ _ h => by cases d <;> exact h) ?_ HS.out ?_; rotate_left; (· intro V hV; obtain ⟨p0, p1⟩ := hV; go_simp; rfl); (intro K' hK'; go_simp; refine hK' _ ?_; clear hK' K')
        refine LeftL.run (v := ?_) 2 rfl (by kernel_rfl) rfl (fun _ _ d _ _ h => by cases d <;> exact h) ?_ HS.out ?_; rotate_left; (· intro V hV; obtain ⟨p0, p1⟩ := hV; go_simp; rfl); (intro K' hK'; go_simp; refine hK' _ ?_; clear hK' K')
        refine LeftL.run (v := ?_) 3 rfl (by kernel_rfl) rfl (fun _ _ d _ _ h => by cases d <;> exact h) ?_ HS.out ?_; rotate_left; (· intro V hV; obtain ⟨p0, p1⟩ := hV; go_simp; rfl); (intro K' hK'; go_simp; refine hK' _ ?_; clear hK' K')
        refine LeftL.run (v := ?_) 4 rfl (by kernel_rfl) rfl (fun _ _ d _ _ h => by cases d <;> exact h) ?_ HS.out ?_; rotate_left; (· intro V hV; obtain ⟨p0, p1⟩ := hV; go_simp; rfl); (intro K' hK'; go_simp; refine hK' _ ?_; clear hK' K')
        refine LeftL.one 0 rfl (by kernel_rfl) ?_
        refine wpList_loadB (P := Try.prog) (ty := 75) (b := bw) (T := 75) (cs := m.cells ws) rfl rfl HBR.out.drew rfl Try.underlying75 rfl (m.cells_info ws) ?_
        refine wpList_nil ?_
        refine ⟨fun _ => HS.out, ?_⟩
        refine LeftL.one 5 rfl (by kernel_rfl) ?_
        go_wp2_with fail
        refine (happen_any (HW.out.quiet (Frm.refl _ _ wr).drew) HFI.out (by have := HJ4.out; have := HJL.out; omega) wh nn HK1.out).mono ?_
        rintro e w5 ⟨m5, rfl, hpt5, h5⟩
        have hfi5 := (HFI.out.happen (by have := HJ4.out; have := HJL.out; omega) wh nn)
        rw [hfi5.1]
        have hfi6 := hfi5.2
        clear hfi5
        obtain ⟨ws5, hws5⟩ : ∃ y, y = (ws.happen wh nn).1 := ⟨_, rfl⟩
        rw [← hws5] at h5 hfi6 ⊢
        have hr5 := h5.sys.root
        obtain ⟨z0, z1⟩ := (HA.out.frm hr5).cell j HJL.out
        rw [HQ.out] at z0 z1
        simp only at z0 z1
        have hb5 : Blk w5 bw 75 (m.cells ws) := h5.sys.ext (bw, .cells (m.cells ws).toArray 75 (0, 0)) (by simp)
        have hS5 : w5.cell? ⟨b, off + j * 2, none⟩ = some (.int .u8 wh) ∧ w5.cell? ⟨b, off + j * 2 + 1, none⟩ = some (.int .u8 nn) := ⟨z0, z1⟩
        have HB5 := Lib.hid hb5
        clear hb5
        clear HS z0 z1
        have HS := Lib.hid hS5
        have H5 := Lib.hid h5
        have HFI6 := Lib.hid hfi6
        have HPT5 := Lib.hid hpt5
        have HWS5 := Lib.hid hws5
        clear hS5 h5 hfi6 hpt5 hws5 hr5
        go_wp2_with fail
        first | refine ⟨fun _ => HS.out, ?_⟩ | refine ⟨HS.out, ?_⟩
        refine LeftL.run (v := ?_) 6 rfl (by kernel_rfl) rfl (fun _ _ d _ _ h => by cases d <;> exact h) ?_ HS.out ?_; rotate_left; (· intro V hV; obtain ⟨p0, p1⟩ := hV; go_simp; rfl); (intro K' hK'; go_simp; refine hK' _ ?_; clear hK' K')
        refine LeftL.run (v := ?_) 7 rfl (by kernel_rfl) rfl (fun _ _ d _ _ h => by cases d <;> exact h) ?_ HS.out ?_; rotate_left; (· intro V hV; obtain ⟨p0, p1⟩ := hV; go_simp; rfl); (intro K' hK'; go_simp; refine hK' _ ?_; clear hK' K')
        refine LeftL.run (v := ?_) 8 rfl (by kernel_rfl) rfl (fun _ _ d _ _ h => by cases d <;> exact h) ?_ HS.out ?_; rotate_left; (· intro V hV; obtain ⟨p0, p1⟩ := hV; go_simp; rfl); (intro K' hK'; go_simp; refine hK' _ ?_; clear hK' K')
        refine LeftL.one 9 rfl (by kernel_rfl) ?_
        refine wpList_storeB (P := Try.prog) (ty := 75) (cs := m5.cells ws5) rfl rfl HB5.out rfl rfl rfl (m5.cells_info ws5) H5.out.cells_one ?_
        have h6 := H5.out.turnHead (fun y hy => (by cases hy)) (m5.cells ws5).toArray
        refine wpList_nil ?_
        generalize w5.setRow bw (m5.cells ws5).toArray = w6 at h6 ⊢
        clear HS
        have hr6 := h6.sys.root
        have H6 := Lib.hid h6
        clear h6
        obtain ⟨z0, z1⟩ := (HA.out.frm hr6).cell j HJL.out
        rw [HQ.out] at z0 z1
        simp only at z0 z1
        refine ⟨fun _ => ⟨z0, z1⟩, ?_⟩
        refine LeftL.one 10 rfl (by kernel_rfl) ?_
        go_wp2_with fail
        first | refine ⟨fun _ => ⟨z0, z1⟩, ?_⟩ | refine ⟨⟨z0, z1⟩, ?_⟩
        refine LeftL.done (by kernel_rfl) ?_
        clear z0 z1
        have hnn : nd = nn := by rw [HNDQ.out, HQ.out]
        have hsame := ws.happen_same wh nn
        rw [← HWS5.out] at hsame
        have hkl5 : k < ws5.ns.length := by rw [hsame.2.2]; exact HKL.out
        obtain ⟨p5, hp5, hps5⟩ := H6.out.node hkl5
        have hpb : p5.b = p.b := ptrs_at HPT5.out hp5 HP.out
        have hri5 := HFI.out.rise HRI.out wh nn
        rw [← HWS5.out] at hri5
        have s5f := HFI6.out.2.fits k _ (ws5.node_at hkl5)
        have hah := HFI6.out.2.ahead k _ (ws5.node_at hkl5)
        have hterm : (ws5.node k).term = (t : Int) := by
          obtain ⟨⟨T0, C0, fal, hg⟩, _⟩ := HFI6.out
          exact (hg.number k _ (ws5.node_at hkl5)).2.1
        have hend := ws.happen_end wh nn
        rw [← HWS5.out] at hend
        have hends := endsN H6.out.sys hp5
        rw [hpb, hps5] at hends
        rw [HPS.out]
        obtain ⟨e0, he0⟩ : ∃ x, x = (ws.node k).end_ := ⟨_, rfl⟩
        obtain ⟨n5, hn5⟩ : ∃ x, x = (ws5.node k).now := ⟨_, rfl⟩
        obtain ⟨e5, he5⟩ : ∃ x, x = (ws5.node k).end_ := ⟨_, rfl⟩
        rw [← he0]
        rw [← hn5, ← he5] at hends
        have b1 : ¬ n5 + (t : Int) < e5 := by rw [hn5, he5, ← hterm]; omega
        have b2 : 0 ≤ n5 := by rw [hn5]; exact s5f.now0
        have b3 : n5 ≤ 1000 := by rw [hn5]; have := s5f.now1; have := HJ4.out; have := HJL.out; omega
        have b4 : (t : Int) ≤ 12 := by have := HT.out; omega
        have b5 : wh ≠ 2 → wh ≠ 3 → e0 ≤ e5 := fun h2 h3 => by rw [he0, he5]; exact hend h2 h3 k HKL.out
        clear hnn hsame hp5 hps5 hpb s5f hah hterm hend he0 hn5 he5 hkl5
        have HRI5 := Lib.hid hri5
        have HENDS := Lib.hid hends
        have B5 := Lib.hid b5
        clear b5 hends hri5
        go_wp2_with fail
        refine HENDS.out.mono ?_; rintro e w7 ⟨rfl, hf7⟩
        have h7 := H6.out.quiet hf7
        have hr7 := h7.sys.root
        obtain ⟨z0, z1⟩ := (HA.out.frm hr7).cell j HJL.out
        rw [HQ.out] at z0 z1
        simp only at z0 z1
        have H7 := Lib.hid h7
        have HR7 := Lib.hid hr7
        clear hr7 h7
        clear hf7 z1
        by_cases hlt : e5 < e0
        · by_cases hw2 : wh = 2
          · subst hw2
            go_wp2_with fail
            exact ⟨⟨j + 1, rfl, by simp, HJL.out, ⟨m5, ws5, H7.out, HFI6.out, HRI5.out⟩⟩, by have := HJL.out; simp [intOf]; omega⟩
          · by_cases hw3 : wh = 3
            · subst hw3
              have hw3' : ¬ ((3 : Nat) : Int) = 2 := by omega
              go_wp2_with fail
              exact ⟨⟨j + 1, rfl, by simp, HJL.out, ⟨m5, ws5, H7.out, HFI6.out, HRI5.out⟩⟩, by have := HJL.out; simp [intOf]; omega⟩
            · exact absurd (B5.out hw2 hw3) (by omega)
        · go_wp2_with fail
          exact ⟨⟨j + 1, rfl, by simp, HJL.out, ⟨m5, ws5, H7.out, HFI6.out, HRI5.out⟩⟩, by have := HJL.out; simp [intOf]; omega⟩
      · have hjl' : ¬ (j : Int) < (len : Int) := by omega
        have hb : Blk wr bw 75 (m.cells ws) := hwa.sys.ext (bw, .cells (m.cells ws).toArray 75 (0, 0)) (by simp)
        have hfin : Frm w.heap.size [] w wr := HF0.out.call hroot HF0.out.size (by simp)
        have c2 : wr.cell? ⟨bw, 2, none⟩ = some m.vS := hb.cell 2
        by_cases hs0 : ws.sent.length = 0
        · obtain ⟨adS, capS, hvS⟩ := hwa.rowS.form
          rw [hvS, hs0] at c2
          have HW := Lib.hid hwa
          have HFI := Lib.hid hfi
          have HRI := Lib.hid hri
          have HR := Lib.hid hroot
          have HB := Lib.hid hb
          have HFIN := Lib.hid hfin
          have HVS := Lib.hid hvS
          have HS0 := Lib.hid hs0
          clear hs0 hvS hfin hb hroot hri hfi hwa
          go_wp2_with (go_at_call 16; refine (awake_any _).mono ?_; rintro e w8 ⟨rfl, hf8⟩)
          go_ret
          exact ⟨rfl, HFIN.out.call hf8 HFIN.out.size (by simp)⟩
        · have hn1000 : len ≤ 1000 := by have := HJ4.out; omega
          obtain ⟨i, kk, q, hge, hil, hv, hkk, hig, hkn⟩ := hfi.lastWord (by omega) hri (by omega)
          obtain ⟨nn, hnn⟩ : ∃ nn, nn = i + 1 := ⟨_, rfl⟩
          rw [← hnn] at hge hv hig hkn
          have hnn1 : (nn : Int) - 1 = (i : Int) := by omega
          have hnn2 : (1 : Int) ≤ (nn : Int) := by omega
          have hnn3 : (nn : Int) ≤ (ws.ns.length : Int) := by omega
          have hnn4 : (i : Int) < (ws.ns.length : Int) := by omega
          have hnn5 : nn ≤ 3 := by have := hfi.2.few; omega
          obtain ⟨gS, oS, cS, hvS, _, _, _⟩ := hwa.rowS.pos (by omega)
          have hl4 : ¬ (ws.sent.length : Int) = 0 := by omega
          have hl5 : ¬ ws.sent = [] := fun e => by rw [e] at hs0; exact hs0 rfl
          have hsl : ws.sent.length ≤ 1000 := by have := hfi.2.sent; omega
          rw [hvS] at c2
          have hrS := hwa.rowS
          rw [hvS] at hrS
          have hwl := wordsL_get hge
          have hlen3 : (ws.sent.length - 1) * 3 + 2 < (wordsL ws.sent).length := (List.getElem?_eq_some_iff.1 (hwl 2 _ rfl)).1
          have z0 : wr.cell? ⟨gS, oS + (ws.sent.length - 1) * 3, none⟩ = some (.int .i64 kk) := (hrS.cell ((ws.sent.length - 1) * 3) (by omega)).trans (hwl 0 _ rfl)
          have z1 : wr.cell? ⟨gS, oS + (ws.sent.length - 1) * 3 + 1, none⟩ = some (.int .i64 (nn : Int)) := (hrS.cell ((ws.sent.length - 1) * 3 + 1) (by omega)).trans (hwl 1 _ rfl)
          have z2 : wr.cell? ⟨gS, oS + (ws.sent.length - 1) * 3 + 2, none⟩ = some (.int .i64 q) := (hrS.cell ((ws.sent.length - 1) * 3 + 2) (by omega)).trans (hwl 2 _ rfl)
          have hpl : m.ps.length = ws.ns.length := by rw [← hwa.ns]; simp
          obtain ⟨p, hp, hps⟩ := hwa.node hil
          obtain ⟨gN, oN, cN, hvN, _, hcl, hcm⟩ := hwa.rowN.pos (by have := hfi.2.some_; omega)
          obtain ⟨x, hx⟩ : ∃ x : Int × Int × Int, x = (kk, (nn : Int), q) := ⟨_, rfl⟩
          obtain ⟨w2, rfl⟩ : ∃ x, x = wr := ⟨wr, rfl⟩
          have H3 := Lib.hid hwa
          have HFI := Lib.hid hfi
          have HRI := Lib.hid hri
          have HR := Lib.hid hroot
          have HB := Lib.hid hb
          have HFIN := Lib.hid hfin
          have HVS := Lib.hid hvS
          have HGE := Lib.hid hge
          have HV := Lib.hid hv
          have HKN := Lib.hid hkn
          have HRS := Lib.hid hrS
          have HWL := Lib.hid hwl
          have HLEN3 := Lib.hid hlen3
          have HPL := Lib.hid hpl
          have HP := Lib.hid hp
          have HPS := Lib.hid hps
          have HVN := Lib.hid hvN
          have HCL := Lib.hid hcl
          have HCM := Lib.hid hcm
          have HX1 := Lib.hid hx
          have HKK := Lib.hid hkk
          have HIG := Lib.hid hig
          have HNN := Lib.hid hnn
          clear hnn hig hkk hx hcm hcl hvN hps hp hpl hlen3 hwl hrS hkn hv hge hvS hfin hb hroot hri hfi hwa
          go_wp2_with (with_reducible refine atStore 41 rfl ?_; refine hold ?_; intro qG hG)
          refine hG.1 ?_; clear hG qG
          refine namedL ?_; intro w3 hw3
          have hb3 : Blk w3 w2.heap.size 41 (wordL (0, 0, 0)) := by rw [hw3]; exact Blk.new' w2 41 (wordL (0, 0, 0)) rfl
          have hf3 : Frm w2.heap.size [] w2 w3 := by rw [hw3]; repeat (first | with_reducible exact Frm.refl _ _ _ | with_reducible refine Frm.drewN ?_ | with_reducible refine Frm.drew ?_ | ((with_reducible refine Frm.setCell' ?_ ?_); · first | (left; simp; done) | (right; simp; done) | (right; simp; omega)) | ((with_reducible refine Frm.alloc' ?_ ?_); · first | exact Nat.le_refl _ | (simp; done) | (simp; omega)))
          have h4 := H3.out.beside hf3 (Nat.le_refl _) hb3
          clear hw3
          refine wpList_storeB (P := Try.prog) (ty := 41) (cs := wordL x) rfl rfl hb3 rfl (by rw [HX1.out]; rfl) rfl (wordL_info _) (wordL_one _) ?_
          have h5 := h4.turnHead (fun y hy => by have := H3.out.sys.ltX y (by simp only [List.mem_append]; exact .inr hy); omega) (wordL x).toArray
          generalize w3.setRow w2.heap.size (wordL x).toArray = w4 at h5 ⊢
          clear h4 hb3 hf3 w3
          have H4 := Lib.hid h5
          clear h5
          obtain ⟨b16, hb16⟩ : ∃ b16, b16 = w2.heap.size := ⟨_, rfl⟩
          have h4 := H4.out
          rw [← hb16, HX1.out] at h4
          simp only [← hb16]
          have hw16 : Blk w4 b16 41 (wordL (kk, (nn : Int), q)) := h4.sys.ext (b16, .cells (wordL (kk, (nn : Int), q)).toArray 41 (0, 0)) (by simp)
          have hbx : Blk w4 bw 75 (m.cells ws) := h4.sys.ext (bw, .cells (m.cells ws).toArray 75 (0, 0)) (by simp)
          have d0 : w4.cell? ⟨b16, 0, none⟩ = some (.int .i64 kk) := hw16.cell 0
          have d1 : w4.cell? ⟨b16, 1, none⟩ = some (.int .i64 nn) := hw16.cell 1
          have d2 : w4.cell? ⟨b16, 2, none⟩ = some (.int .i64 q) := hw16.cell 2
          have c1 : w4.cell? ⟨bw, 1, none⟩ = some (.slice (some ⟨gN, oN, none⟩) ws.ns.length cN) := by rw [← HPL.out, ← HVN.out]; exact hbx.cell 1
          have z : w4.cell? ⟨gN, oN + i, none⟩ = some (.pointer (some ⟨p.b, 0, none⟩)) := h4.ptrCell HVN.out HP.out
          clear H4 H3 hb16 hw16 z0 z1 z2 c2
          have H4 := Lib.hid h4
          have HBX := Lib.hid hbx
          clear hbx h4
          go_wp2_with fail
          obtain ⟨u, hu⟩ : ∃ u : Obj, u = .cells (m.cells ws).toArray 75 (0, 0) := ⟨_, rfl⟩
          have hu0 : ∀ W : World, W.heap[bw]? = some u → W.cell? ⟨bw, 0, none⟩ = some (.pointer (some ⟨m.bc, 0, none⟩)) := fun W hW => by
            rw [hu] at hW
            exact (show Blk W bw 75 (m.cells ws) from hW).cell 0
          have hT0 : Tw w0 (w4.alloc (Obj.cells #[Value.pointer (some ⟨p.b, 0, none⟩)] 30 (0, 0))) b16 w4.heap.size bw (kk, (nn : Int), q) u m.bc p.b i ws.c (ws.node i) := by
            have h5 := H4.out.beside (W' := w4.alloc (Obj.cells #[Value.pointer (some ⟨p.b, 0, none⟩)] 30 (0, 0))) (b := w4.heap.size) (u := Obj.cells #[Value.pointer (some ⟨p.b, 0, none⟩)] 30 (0, 0)) ((Frm.refl _ _ w4).alloc (Nat.le_refl _) _) (Nat.le_refl _) (heap_alloc_new w4 _)
            refine ⟨m, ws, p.own, h5.less (fun y hy => ?_), by rw [← HPS.out]; exact HP.out, rfl, rfl⟩
            rw [hu] at hy
            simp only [List.mem_cons, List.not_mem_nil, or_false] at hy ⊢
            rcases hy with hy | hy | hy <;> simp [hy]
          obtain ⟨b17, hb17⟩ : ∃ b, b = w4.heap.size := ⟨_, rfl⟩
          rw [← hb17] at hT0
          simp only [← hb17]
          generalize w4.alloc (Obj.cells #[Value.pointer (some ⟨p.b, 0, none⟩)] 30 (0, 0)) = w5 at hT0 ⊢
          have hnum := HFI.out.2
          have hcb : Cb ws.c.g.length 1000 ws.c := ⟨hnum.now0, by have := hnum.now1; omega, hnum.since0, hnum.since1, hnum.wait0, hnum.wait1, rfl⟩
          have hgL : ws.c.g.length ≤ 100000 := by obtain ⟨⟨T0, C0, fal, hg⟩, hn⟩ := HFI.out; have := hn.few; rw [hg.lenC]; omega
          have hfs : (ws.node i).Fits 1000 := (hnum.fits i _ (ws.node_at hil)).mono (by omega)
          have hcl1 := closure_any kk nn q hT0 hu0 hgL HV.out HIG.out hfs (by omega)
          have hcb1 : Cb ws.c.g.length 1000 (if kk = 2 then ws.c else (ws.c.hear kk nn q).1) := by
            split
            · exact hcb
            · exact hcb.hear kk nn q
          have hfs1 : (if kk = 2 then ((ws.node i).hear kk (nn : Int) q).1 else ws.node i).Fits 1000 := by
            split
            · exact hfs.hear _ _ _
            · exact hfs
          have hkn := HKN.out
          generalize (if kk = 2 then ws.c else (ws.c.hear kk nn q).1) = c1' at hcl1 hcb1 hkn
          generalize (if kk = 2 then ((ws.node i).hear kk (nn : Int) q).1 else ws.node i) = s1' at hcl1 hfs1 hkn
          refine hcl1.mono ?_; rintro e w6 ⟨rfl, hT⟩
          clear hcl1 hT0 hu hb17 d0 d1 d2 c1 z H4 HBX hfs hcb hnum HKN
          obtain ⟨nt, hnt⟩ : ∃ nt, nt = nd % 5 := ⟨_, rfl⟩
          have r5 : (nd : Int) % 5 = (nt : Int) := by omega
          have hnt5 : nt ≤ 4 := by omega
          have HTW := Lib.hid hT
          have HU0 := Lib.hid hu0
          have HGL := Lib.hid hgL
          have HCB := Lib.hid hcb1
          have HFS := Lib.hid hfs1
          have HKN := Lib.hid hkn
          have HNT := Lib.hid hnt
          clear hnt hkn hfs1 hcb1 hgL hu0 hT
          go_wp2_with fail
          go_loopw [19] (fun i19 wr => ∃ (jj : Nat) (c : CS) (s : NS), i19 = .int .i64 jj ∧ jj ≤ nt ∧ Tw w0 wr b16 b17 bw (kk, (nn : Int), q) u m.bc p.b i c s ∧ Known kk nn q c s ∧ Cb ws.c.g.length (1000 + jj) c ∧ s.Fits (1000 + 2 * jj)) (fun i19 _ => nt - (intOf i19).toNat)
          case atStart => exact ⟨0, c1', s1', rfl, Nat.zero_le _, HTW.out, HKN.out, by simpa using HCB.out, by simpa using HFS.out⟩
          case round =>
            clear HTW HKN HCB HFS
            obtain ⟨jj, c, s, rfl, hjj, hT, hkn, hcb, hfs⟩ := hrel
            obtain ⟨_, c17, hbu⟩ := hT.cells
            have c0 := HU0.out wr hbu
            by_cases hjt : jj < nt
            · have hjt' : (jj : Int) < (nt : Int) := by omega
              have HTW := Lib.hid hT
              have HKN := Lib.hid hkn
              have HCB := Lib.hid hcb
              have HFS := Lib.hid hfs
              have HBU := Lib.hid hbu
              have HJT := Lib.hid hjt
              clear hjt hbu hfs hcb hkn hT
              go_wp2_with fail
              refine (HTW.out.tickN HFS.out (by have := HJT.out; omega)).mono ?_; rintro e wa ⟨rfl, hTa⟩
              clear c17 c0
              obtain ⟨_, c17, hbu⟩ := hTa.cells
              have c0 := HU0.out wa hbu
              clear hbu
              have HTA := Lib.hid hTa
              clear hTa
              go_wp2_with fail
              refine (HTA.out.tickC HCB.out (by have := HJT.out; omega)).mono ?_; rintro e wb ⟨rfl, hTb⟩
              clear c17 c0
              obtain ⟨_, c17, hbu⟩ := hTb.cells
              have c0 := HU0.out wb hbu
              clear hbu
              have HTB := Lib.hid hTb
              clear hTb
              go_wp2_with fail
              refine (HTB.out.ask HFS.out.tick (by have := HJT.out; omega)).mono ?_; rintro e wc ⟨rfl, hTc⟩
              clear c17 c0
              have HTC := Lib.hid hTc
              clear hTc
              go_wp2_with fail
              have h1n : 1 ≤ nn := by have := HNN.out; omega
              exact ⟨⟨jj + 1, _, _, by simp, HJT.out, HTC.out, ((HKN.out.ctick h1n).ntick).nask, by have := HCB.out.tick; rw [show (1000 : Int) + ((jj + 1 : Nat) : Int) = 1000 + (jj : Int) + 1 by omega]; exact this, by have := HFS.out.tick.ask; rw [show 1000 + 2 * (jj + 1) = 1000 + 2 * jj + 1 + 1 by omega]; exact this⟩, by have := HJT.out; simp [intOf]; omega⟩
            · have hjt' : ¬ (jj : Int) < (nt : Int) := by omega
              have hcl2 := fun (W : World) (h : Tw w0 W b16 b17 bw (kk, (nn : Int), q) u m.bc p.b i c s) => closure_any kk nn q h HU0.out (by rw [hcb.len]; exact HGL.out) HV.out (by rw [hcb.len]; exact HIG.out) hfs (by omega)
              have hL : (if kk = 2 then c else (c.hear kk nn q).1).node = c.node ∧ (if kk = 2 then c else (c.hear kk nn q).1).since = c.since := by
                split
                · exact ⟨rfl, rfl⟩
                · rename_i h2
                  exact known_again hkn (by have := HKK.out; omega)
              have hE : (if kk = 2 then (s.hear kk (nn : Int) q).1 else s) = s := by
                split
                · rename_i h2
                  subst h2
                  exact known_againN hkn
                · rfl
              rw [hE] at hcl2
              generalize (if kk = 2 then c else (c.hear kk nn q).1) = c2' at hcl2 hL
              obtain ⟨hL1, hL2⟩ := hL
              have HTW := Lib.hid hT
              have HKN := Lib.hid hkn
              have HCB := Lib.hid hcb
              have HFS := Lib.hid hfs
              have HBU := Lib.hid hbu
              have HCL2 := Lib.hid hcl2
              have HL1 := Lib.hid hL1
              have HL2 := Lib.hid hL2
              have HE := Lib.hid hE
              clear hE hL2 hL1 hcl2 hbu hfs hcb hkn hT
              go_wp2_with fail
              refine HTW.out.lease.mono ?_; rintro e w7 ⟨rfl, hf7⟩
              have hT7 := HTW.out.quiet hf7
              clear c17 c0 hf7
              obtain ⟨_, c17, hbu⟩ := hT7.cells
              have c0 := HU0.out w7 hbu
              clear hbu
              have HT7 := Lib.hid hT7
              clear hT7
              go_wp2_with fail
              refine HT7.out.ends.mono ?_; rintro e w8 ⟨rfl, hf8⟩
              have hT8 := HT7.out.quiet hf8
              clear c17 c0 hf8
              have HT8 := Lib.hid hT8
              clear hT8
              go_wp2_with fail
              refine (HCL2.out _ HT8.out).mono ?_; rintro e w9 ⟨rfl, hT9⟩
              obtain ⟨_, c17, hbu⟩ := hT9.cells
              have c0 := HU0.out w9 hbu
              clear hbu
              have HT9 := Lib.hid hT9
              clear hT9
              go_wp2_with fail
              refine HT9.out.lease.mono ?_; rintro e w10 ⟨rfl, hf10⟩
              rw [HL1.out, HL2.out]
              have hT10 := HT9.out.quiet hf10
              clear c17 c0 hf10
              obtain ⟨_, c17, hbu⟩ := hT10.cells
              clear hbu
              have HT10 := Lib.hid hT10
              clear hT10
              go_wp2_with fail
              refine HT10.out.ends.mono ?_; rintro e w11 ⟨rfl, hf11⟩
              have hfin2 : Frm w.heap.size [] w w11 := HF0.out.call (HT10.out.quiet hf11).root HF0.out.size (by simp)
              clear c17 hf11
              have HFIN2 := Lib.hid hfin2
              clear hfin2
              go_wp2_with (go_at_call 16; refine (awake_any _).mono ?_; rintro e w12 ⟨rfl, hf12⟩)
              go_ret
              exact ⟨rfl, HFIN2.out.call hf12 HFIN2.out.size (by simp)⟩

set_option maxRecDepth 100000 in
theorem commandTwice_lifted (os : Os) (started : os.Started) (H : Type) (enc : TypeId × Value → H) :
    ReturnsInHanded {} Try.checked os 9 .any (Rows.commandTwiceSpec.pre6 enc Try.prog Try.f9 Rows.commandTwiceRow.domain false) (Rows.commandTwiceSpec.post enc Try.prog Try.f9 false true false false) := by
  refine law_lift (fn := Try.f9) (s := Rows.commandTwiceSpec) (conds := Rows.commandTwiceRow.domain) started 3 (by kernel_rfl) Try.func9
      (ChangeSpec.witness6 (enc := enc) (C := Try.checked) false ⟨#[], #[.agg #[.int .u8 0, .int .u8 0, .int .u8 0], .slice none 0 0, .int .u8 0], []⟩ 8 (by kernel_rfl) (by kernel_rfl) (by kernel_rfl) (by kernel_rfl))
      (by rw [Try.params9]; decide +kernel) (by rw [Try.params9]; rfl) (by kernel_rfl) rfl (fun ds h => by match ds, h with | [d1, d2, d3], _ => rfl) ?_
  intro W base args ds ps hval hA
  rw [Try.params9] at hA hval
  obtain ⟨v0, vs0, d0, ds0, p0, q0, hargs, rfl, rfl, h0, r0⟩ := trodAll_cons hA
  obtain ⟨v1, vs1, d1, ds1, p1, q1, rfl, rfl, rfl, h1, r1⟩ := trodAll_cons r0
  obtain ⟨v2, vs2, d2, ds2, p2, q2, rfl, rfl, rfl, h2, r2⟩ := trodAll_cons r1
  obtain ⟨rfl, rfl, rfl⟩ := trodAll_nil r2
  obtain rfl : args = #[v0, v1, v2] := by cases args; simp_all
  obtain ⟨a0, a1, a2, rfl, b0, b1, b2⟩ := open_bytes3 (hval 0 69 v0 rfl rfl) h0
  obtain ⟨ad, len, cap, b, off, f, rfl, hl, ha⟩ := open_evs (hval 1 70 v1 rfl rfl) h1
  obtain ⟨nd, rfl, hnd⟩ := open_u8 (hval 2 5 v2 rfl rfl) h2
  exact twice_walk a0 a1 a2 nd b0 b1 b2 hnd ad len cap b off f W hl ha

theorem commandTwice_over : Rows.commandTwiceRow.holds Try.pinned (OpenSpec.ofChange Rows.commandTwiceSpec) :=
  OpenClaim.holds_of_wide 9 Try.f9 rfl rfl rfl rfl rfl rfl rfl ⟨rfl, rfl, rfl, rfl, rfl⟩ rfl rfl rfl rfl rfl (by kernel_rfl) Try.func9 (by kernel_rfl)
    (of_decide_eq_true (by kernel_rfl)) (by unfold Func.isWrapper; first | (rw [if_pos (by decide +kernel)]; kernel_rfl) | (rw [if_neg (by decide +kernel)]; exact ⟨rfl, rfl⟩))
    (fun os started H enc _ => commandTwice_lifted os started H enc)

/-- The statement. -/
theorem commandTwice_proved : Rows.CommandTwiceSaid := commandTwice_over
end Go.Proofs.Ythmladcepkdheaa
