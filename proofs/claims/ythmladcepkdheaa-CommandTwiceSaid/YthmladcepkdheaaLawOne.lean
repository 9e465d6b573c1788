/-
  At most one of the centre and the nodes holds the authority, whatever happens.
-/
import Derived.Test.YthmladcepkdheaaHapZ
import Derived.Test.YthmladcepkdheaaLay
import Derived.Test.YthmladcepkdheaaFrame
import Derived.Test.YthmladcepkdheaaEvts
namespace Go.Proofs.Ythmladcepkdheaa
open Go.ChangeShapes Go.WideShapes Go.ChangeAt Go.RowKit

theorem wpList_loadBG {P : Program} {ops : Array Oper} {rest : List Oper} {o : Oper} {a : Act} {w : World} {Q : Exit → Act → World → Prop} (hg : Region.wanted o (yielded ops a.tmps) = true) {ty : TypeId} {x : Operand} (ho : o.op = .load ty x)
    {b T : Nat} {cs : List Value} (hb : Blk w b T cs) (hx : a.eval x = .pointer (some ⟨b, 0, none⟩)) {d : TypeDesc} (hu : P.underlying ty = some d) (hd : rowB d = true) (hi : (P.info? ty).map (·.size) = some cs.length)
    (h : wpList P ops Q rest (a.put o.dst (.agg cs.toArray)) w) : wpList P ops Q (o :: rest) a w := by
  refine wpList_step fun K hK => ?_
  rw [if_pos hg]
  unfold Oper.wp
  rw [run_loadB (S := fun w => Blk w b T cs) ho (fun _ h => h) hx hu hd hi w hb]
  exact hK _ _ h

/-- What stands at the start of each round. -/
structure EvSt (o w : World) (bw : Nat) (t : Int) (j : Nat) : Prop where
  ex : ∃ m ws, WAt o w [(bw, .cells (m.cells ws).toArray 75 (0, 0))] m ws ∧ Fine t j ws

theorem wait_le (t s : Nat) (ht : t ≤ 12) (hs : s ≤ 1000) : (t : Int) * (1000 + s) ≤ 1000 * waitN t s - 1000 ∧ 0 ≤ waitN (t : Int) s ∧ waitN (t : Int) s ≤ 1000000 := by
  have p1 : (0 : Int) ≤ (t : Int) * (1000 + s) := Int.mul_nonneg (by omega) (by omega)
  have p2 : (t : Int) * (1000 + s) ≤ 12 * 2000 := Int.mul_le_mul (by omega) (by omega) (by omega) (by omega)
  unfold waitN
  omega

set_option maxRecDepth 100000 in
set_option maxHeartbeats 8000000 in
theorem one_walk (x0 x1 x2 : Nat) (h0 : x0 < 256) (h1 : x1 < 256) (h2 : x2 < 256) (ad : Option Addr) (len cap b off : Nat) (f : Nat → Nat × Nat) (w : World) (hl : len ≤ maxLen) (ha : Evs w ad len b off f) :
    Calls Try.prog 6 #[.agg #[.int .u8 x0, .int .u8 x1, .int .u8 x2], .slice ad len cap] w fun e w' => e = .returned (.bool true) ∧ Frm w.heap.size [] w w' := by
  by_cases h400 : 400 < (len : Int)
  · have HA := Lib.hid ha
    clear ha
    go_enter Try.func6, Try.ntmps6
    go_wp2_with (go_at_call 16; refine (awake_any _).mono ?_; rintro e w3 ⟨rfl, hf3⟩)
    go_ret
    exact ⟨rfl, ((Frm.refl _ _ w).alloc (Nat.le_refl _) _).call hf3 (by simp) (by simp)⟩
  · obtain ⟨n, hn⟩ : ∃ n, n = 1 + x0 % 3 := ⟨_, rfl⟩
    obtain ⟨t, ht⟩ : ∃ t, t = 1 + x1 % 12 := ⟨_, rfl⟩
    obtain ⟨s, hs⟩ : ∃ s, s = 50 * (x2 % 21) := ⟨_, rfl⟩
    have hfine : Fine t 0 (WS.start n t s (waitN t s)) := by
      have := wait_le t s (by omega) (by omega)
      exact Fine.start n t s _ (by omega) (by omega) (by omega) (by omega) (by omega) (by omega) this.1 this.2.1 this.2.2
    have hj4 : len ≤ 400 := by omega
    have HA := Lib.hid ha
    have HFINE := Lib.hid hfine
    have HN := Lib.hid hn
    have HT := Lib.hid ht
    have HSS := Lib.hid hs
    clear hs ht hn hfine ha
    go_enter Try.func6, Try.ntmps6
    go_wp2_with fail
    obtain ⟨w0, hw0⟩ : ∃ w0, w0 = w.alloc (.cells #[Value.int .u8 x0, Value.int .u8 x1, Value.int .u8 x2] 69 (0, 0)) := ⟨_, rfl⟩
    rw [← hw0]
    have hf0 : Frm w.heap.size [] w w0 := by rw [hw0]; repeat (first | with_reducible exact Frm.refl _ _ _ | with_reducible refine Frm.drewN ?_ | with_reducible refine Frm.drew ?_ | ((with_reducible refine Frm.setCell' ?_ ?_); · first | (left; simp; done) | (right; simp; done) | (right; simp; omega)) | ((with_reducible refine Frm.alloc' ?_ ?_); · first | exact Nat.le_refl _ | (simp; done) | (simp; omega)))
    have ha0 := HA.out.frm hf0
    clear HA hw0
    obtain ⟨ws, hws⟩ : ∃ y, y = WS.start n t s (waitN t s) := ⟨_, rfl⟩
    refine (lay_any _ x0 x1 x2 h0 h1 h2 n HN.out t HT.out s HSS.out).mono ?_; rintro e w1 ⟨m, rfl, hwa⟩
    rw [← hws] at hwa ⊢
    have hfine := HFINE.out
    rw [← hws] at hfine
    have hnode : ws.c.node = 0 := by rw [hws]; rfl
    clear HFINE
    have HF0 := Lib.hid hf0
    have HA := Lib.hid ha0
    have HFINE := Lib.hid hfine
    have HWS := Lib.hid hws
    have HND := Lib.hid hnode
    clear hnode hws hfine ha0 hf0
    go_wp2_with (with_reducible refine atStore 75 rfl ?_; refine hold ?_; intro qG hG)
    refine hG.1 ?_; clear hG qG
    refine namedL ?_; intro w2 hw2
    have hz2 : Blk w2 w1.heap.size 75 zero75 := by rw [hw2]; exact Blk.new' w1 75 zero75 rfl
    have hf2 : Frm w1.heap.size [] w1 w2 := by rw [hw2]; repeat (first | with_reducible exact Frm.refl _ _ _ | with_reducible refine Frm.drewN ?_ | with_reducible refine Frm.drew ?_ | ((with_reducible refine Frm.setCell' ?_ ?_); · first | (left; simp; done) | (right; simp; done) | (right; simp; omega)) | ((with_reducible refine Frm.alloc' ?_ ?_); · first | exact Nat.le_refl _ | (simp; done) | (simp; omega)))
    have h2 := hwa.beside hf2 (Nat.le_refl _) hz2
    clear hw2 hf2
    refine wpList_storeB (P := Try.prog) (cs := m.cells ws) rfl rfl hz2 rfl rfl rfl (m.cells_info ws) hwa.cells_one ?_
    have h3 := h2.turnHead (fun y hy => (by cases hy)) (m.cells ws).toArray
    generalize w2.setRow w1.heap.size (m.cells ws).toArray = w3 at h3 ⊢
    clear h2 hz2
    obtain ⟨bw, hbw⟩ : ∃ b, b = w1.heap.size := ⟨_, rfl⟩
    rw [← hbw] at h3
    simp only [← hbw]
    have hbo : w0.heap.size ≤ bw := by rw [hbw]; exact hwa.sys.root.size
    clear hbw hwa w1
    have c0 : w3.cell? ⟨bw, 0, none⟩ = some (.pointer (some ⟨m.bc, 0, none⟩)) := (show Blk w3 bw 75 (m.cells ws) from h3.sys.ext (bw, .cells (m.cells ws).toArray 75 (0, 0)) (by simp)).cell 0
    have H3 := Lib.hid h3
    have HBO := Lib.hid hbo
    clear hbo h3
    go_wp2_with (go_at_call 39; refine (sysHoldsC H3.out.sys).mono ?_; rintro e w' ⟨rfl, rfl⟩; rw [HND.out])
    clear c0
    have HJ4 := Lib.hid hj4
    go_loopw [7] (fun i wr => ∃ j : Nat, i = .int .i64 j ∧ j ≤ len ∧ EvSt w0 wr bw t j) (fun i _ => len - (intOf i).toNat)
    case atStart => exact ⟨0, rfl, Nat.zero_le _, ⟨m, ws, H3.out, HFINE.out⟩⟩
    case round =>
      clear H3 HFINE HND HWS
      obtain ⟨j, rfl, hj, ⟨m, ws, hwa, hfi⟩⟩ := hrel
      have hroot := hwa.sys.root
      by_cases hjl : j < len
      · obtain ⟨had, hbl⟩ := HA.out.at_ (by omega)
        subst had
        have hjl' : (j : Int) < (len : Int) := by omega
        obtain ⟨z0, z1⟩ := (HA.out.frm hroot).cell j hjl
        obtain ⟨k0, k1⟩ := HA.out.small j hjl
        obtain ⟨wh, nn, hq⟩ : ∃ wh nn, f j = (wh, nn) := ⟨_, _, rfl⟩
        rw [hq] at z0 z1 k0 k1
        simp only at z0 z1 k0 k1
        have hbR : Blk wr bw 75 (m.cells ws) := hwa.sys.ext (bw, .cells (m.cells ws).toArray 75 (0, 0)) (by simp)
        have hS : wr.drew.cell? ⟨b, off + j * 2, none⟩ = some (.int .u8 wh) ∧ wr.drew.cell? ⟨b, off + j * 2 + 1, none⟩ = some (.int .u8 nn) := ⟨z0, z1⟩
        have HS := Lib.hid hS
        have HBR := Lib.hid hbR
        have HW := Lib.hid hwa
        have HFI := Lib.hid hfi
        have HR := Lib.hid hroot
        have HJL := Lib.hid hjl
        have HQ := Lib.hid hq
        have HK0 := Lib.hid k0
        have HK1 := Lib.hid k1
        clear hS hbR hwa hfi hroot hjl hq k0 k1 z0 z1
        go_wp2_with fail
        refine wp_region_leftL (fun V => V.cell? ⟨b, off + j * 2, none⟩ = some (.int .u8 wh) ∧ V.cell? ⟨b, off + j * 2 + 1, none⟩ = some (.int .u8 nn)) 100 (by kernel_rfl) ?_
        refine LeftL.run (v := ?_) 1 rfl (by kernel_rfl) rfl (fun _ _ d _ _ h => by cases d <;> exact h) ?_ HS.out ?_; rotate_left; (· intro V hV; obtain ⟨p0, p1⟩ := hV; go_simp; rfl); (intro K' hK'; go_simp; refine hK' _ ?_; clear hK' K')
        refine LeftL.run (v := ?_) 2 rfl (by kernel_rfl) rfl (fun _ _ d _ _ h => by cases d <;> exact h) ?_ HS.out ?_; rotate_left; (· intro V hV; obtain ⟨p0, p1⟩ := hV; go_simp; rfl); (intro K' hK'; go_simp; refine hK' _ ?_; clear hK' K')
        refine LeftL.run (v := ?_) 3 rfl (by kernel_rfl) rfl (fun _ _ d _ _ h => by cases d <;> exact h) ?_ HS.out ?_; rotate_left; (· intro V hV; obtain ⟨p0, p1⟩ := hV; go_simp; rfl); (intro K' hK'; go_simp; refine hK' _ ?_; clear hK' K')
        refine LeftL.run (v := ?_) 4 rfl (by kernel_rfl) rfl (fun _ _ d _ _ h => by cases d <;> exact h) ?_ HS.out ?_; rotate_left; (· intro V hV; obtain ⟨p0, p1⟩ := hV; go_simp; rfl); (intro K' hK'; go_simp; refine hK' _ ?_; clear hK' K')
        refine LeftL.one 0 rfl (by kernel_rfl) ?_
        refine wpList_loadB (P := Try.prog) (ty := 75) (b := bw) (T := 75) (cs := m.cells ws) rfl rfl HBR.out.drew rfl Try.underlying75 rfl (m.cells_info ws) ?_
        refine wpList_nil ?_
        refine ⟨fun _ => HS.out, ?_⟩
        refine LeftL.one 5 rfl (by kernel_rfl) ?_
        go_wp2_with fail
        refine (happen_any (HW.out.quiet (Frm.refl _ _ wr).drew) HFI.out (by have := HJ4.out; have := HJL.out; omega) wh nn HK1.out).mono ?_
        rintro e w5 ⟨m5, rfl, hpt5, h5⟩
        have hfi5 := (HFI.out.happen (by have := HJ4.out; have := HJL.out; omega) wh nn)
        rw [hfi5.1]
        have hfi6 := hfi5.2
        clear hfi5
        obtain ⟨ws5, hws5⟩ : ∃ y, y = (ws.happen wh nn).1 := ⟨_, rfl⟩
        rw [← hws5] at h5 hfi6 ⊢
        have hr5 := h5.sys.root
        obtain ⟨z0, z1⟩ := (HA.out.frm hr5).cell j HJL.out
        rw [HQ.out] at z0 z1
        simp only at z0 z1
        have hb5 : Blk w5 bw 75 (m.cells ws) := h5.sys.ext (bw, .cells (m.cells ws).toArray 75 (0, 0)) (by simp)
        have hS5 : w5.cell? ⟨b, off + j * 2, none⟩ = some (.int .u8 wh) ∧ w5.cell? ⟨b, off + j * 2 + 1, none⟩ = some (.int .u8 nn) := ⟨z0, z1⟩
        have HB5 := Lib.hid hb5
        clear hb5
        clear HS z0 z1
        have HS := Lib.hid hS5
        have H5 := Lib.hid h5
        have HFI6 := Lib.hid hfi6
        have HPT5 := Lib.hid hpt5
        have HWS5 := Lib.hid hws5
        clear hS5 h5 hfi6 hpt5 hws5 hr5
        go_wp2_with fail
        first | refine ⟨fun _ => HS.out, ?_⟩ | refine ⟨HS.out, ?_⟩
        refine LeftL.run (v := ?_) 6 rfl (by kernel_rfl) rfl (fun _ _ d _ _ h => by cases d <;> exact h) ?_ HS.out ?_; rotate_left; (· intro V hV; obtain ⟨p0, p1⟩ := hV; go_simp; rfl); (intro K' hK'; go_simp; refine hK' _ ?_; clear hK' K')
        refine LeftL.run (v := ?_) 7 rfl (by kernel_rfl) rfl (fun _ _ d _ _ h => by cases d <;> exact h) ?_ HS.out ?_; rotate_left; (· intro V hV; obtain ⟨p0, p1⟩ := hV; go_simp; rfl); (intro K' hK'; go_simp; refine hK' _ ?_; clear hK' K')
        refine LeftL.run (v := ?_) 8 rfl (by kernel_rfl) rfl (fun _ _ d _ _ h => by cases d <;> exact h) ?_ HS.out ?_; rotate_left; (· intro V hV; obtain ⟨p0, p1⟩ := hV; go_simp; rfl); (intro K' hK'; go_simp; refine hK' _ ?_; clear hK' K')
        refine LeftL.one 9 rfl (by kernel_rfl) ?_
        refine wpList_storeB (P := Try.prog) (ty := 75) (cs := m5.cells ws5) rfl rfl HB5.out rfl rfl rfl (m5.cells_info ws5) H5.out.cells_one ?_
        have h6 := H5.out.turnHead (fun y hy => (by cases hy)) (m5.cells ws5).toArray
        refine wpList_nil ?_
        generalize w5.setRow bw (m5.cells ws5).toArray = w6 at h6 ⊢
        clear HS
        have hr6 := h6.sys.root
        have H6 := Lib.hid h6
        clear h6
        obtain ⟨z0, z1⟩ := (HA.out.frm hr6).cell j HJL.out
        rw [HQ.out] at z0 z1
        simp only at z0 z1
        refine ⟨fun _ => ⟨z0, z1⟩, ?_⟩
        refine LeftL.one 10 rfl (by kernel_rfl) ?_
        go_wp2_with fail
        first | refine ⟨fun _ => ⟨z0, z1⟩, ?_⟩ | refine ⟨⟨z0, z1⟩, ?_⟩
        refine LeftL.done (by kernel_rfl) ?_
        clear z0 z1
        have hb6 : Blk w6 bw 75 (m5.cells ws5) := H6.out.sys.ext (bw, .cells (m5.cells ws5).toArray 75 (0, 0)) (by simp)
        have hpos6 : 0 < m5.ps.length ∧ m5.ps.length ≤ 1000 := by
          have h1 := HFI6.out.2.some_
          have h2 := HFI6.out.2.few
          have h3 : m5.ps.length = ws5.ns.length := by rw [← H6.out.ns]; simp
          omega
        obtain ⟨hd, hhd⟩ : ∃ hd : Nat, hd = (if ws5.c.node = 0 then 1 else 0) + heldBy (m5.ps.map NP.s) := ⟨_, rfl⟩
        have hd1 : hd ≤ 1 := by
          have := HFI6.out.one
          rw [hhd, H6.out.ns]; exact this
        have hd2 : ¬ (1 : Int) < (hd : Int) := by omega
        have HB6 := Lib.hid hb6
        have HPOS6 := Lib.hid hpos6
        have HHD := Lib.hid hhd
        clear hhd hpos6 hb6
        go_wp2_with (first | (with_reducible refine atLoad 75 rfl ?_; refine wpList_loadBG (P := Try.prog) (ty := 75) (b := bw) (T := 75) (cs := m5.cells ws5) rfl rfl HB6.out rfl Try.underlying75 rfl (m5.cells_info ws5) ?_) | (go_at_call 42; refine (holders_any H6.out.sys m5.vN m5.vS (.slice (some ⟨m5.gG, 0, none⟩) ws5.gap.length ws5.gap.length) (.slice (some ⟨m5.gE, 0, none⟩) ws5.gap.length ws5.gap.length) ws5.slow m5.ownN H6.out.rowN HPOS6.out.1 HPOS6.out.2).mono ?_; rintro e w7 ⟨rfl, hf7⟩; rw [← HHD.out]))
        exact ⟨⟨j + 1, by simp, HJL.out, ⟨m5, ws5, H6.out.quiet hf7, HFI6.out⟩⟩, by have := HJL.out; simp [intOf]; omega⟩
      · have hjl' : ¬ (j : Int) < (len : Int) := by omega
        have hfin : Frm w.heap.size [] w wr := HF0.out.call hroot HF0.out.size (by simp)
        have HW := Lib.hid hwa
        have HFI := Lib.hid hfi
        have HR := Lib.hid hroot
        have HFIN := Lib.hid hfin
        clear hfin hroot hfi hwa
        go_wp2_with (go_at_call 16; refine (awake_any _).mono ?_; rintro e w8 ⟨rfl, hf8⟩)
        go_ret
        exact ⟨rfl, HFIN.out.call hf8 HFIN.out.size (by simp)⟩

set_option maxRecDepth 100000 in
theorem commandOne_lifted (os : Os) (started : os.Started) (H : Type) (enc : TypeId × Value → H) :
    ReturnsInHanded {} Try.checked os 6 .any (Rows.commandOneSpec.pre6 enc Try.prog Try.f6 Rows.commandOneRow.domain false) (Rows.commandOneSpec.post enc Try.prog Try.f6 false true false false) := by
  refine law_lift (fn := Try.f6) (s := Rows.commandOneSpec) (conds := Rows.commandOneRow.domain) started 2 (by kernel_rfl) Try.func6
      (ChangeSpec.witness6 (enc := enc) (C := Try.checked) false ⟨#[], #[.agg #[.int .u8 0, .int .u8 0, .int .u8 0], .slice none 0 0], []⟩ 8 (by kernel_rfl) (by kernel_rfl) (by kernel_rfl) (by kernel_rfl))
      (by rw [Try.params6]; decide +kernel) (by rw [Try.params6]; rfl) (by kernel_rfl) rfl (fun ds h => by match ds, h with | [d1, d2], _ => rfl) ?_
  intro W base args ds ps hval hA
  rw [Try.params6] at hA hval
  obtain ⟨v0, vs0, d0, ds0, p0, q0, hargs, rfl, rfl, h0, r0⟩ := trodAll_cons hA
  obtain ⟨v1, vs1, d1, ds1, p1, q1, rfl, rfl, rfl, h1, r1⟩ := trodAll_cons r0
  obtain ⟨rfl, rfl, rfl⟩ := trodAll_nil r1
  obtain rfl : args = #[v0, v1] := by cases args; simp_all
  obtain ⟨a0, a1, a2, rfl, b0, b1, b2⟩ := open_bytes3 (hval 0 69 v0 rfl rfl) h0
  obtain ⟨ad, len, cap, b, off, f, rfl, hl, ha⟩ := open_evs (hval 1 70 v1 rfl rfl) h1
  exact one_walk a0 a1 a2 b0 b1 b2 ad len cap b off f W hl ha

theorem commandOne_over : Rows.commandOneRow.holds Try.pinned (OpenSpec.ofChange Rows.commandOneSpec) :=
  OpenClaim.holds_of_wide 6 Try.f6 rfl rfl rfl rfl rfl rfl rfl ⟨rfl, rfl, rfl, rfl, rfl⟩ rfl rfl rfl rfl rfl (by kernel_rfl) Try.func6 (by kernel_rfl)
    (of_decide_eq_true (by kernel_rfl)) (by unfold Func.isWrapper; first | (rw [if_pos (by decide +kernel)]; kernel_rfl) | (rw [if_neg (by decide +kernel)]; exact ⟨rfl, rfl⟩))
    (fun os started H enc _ => commandOne_lifted os started H enc)

/-- The statement. -/
theorem commandOne_proved : Rows.CommandOneSaid := commandOne_over
end Go.Proofs.Ythmladcepkdheaa
