/-
  A unit that has a plan comes home: the walk.
-/
import Derived.Test.YtghkfopcjdkieaaDoorH3
namespace Go.Proofs.YtghkfopcjdkieaaDoor
set_option linter.all false
set_option linter.unusedSimpArgs false
set_option linter.unusedVariables false
open Go.ChangeShapes Go.WideShapes Go.ChangeAt Go.RowKit

set_option maxRecDepth 100000 in
set_option maxHeartbeats 16000000 in
theorem home_walk (u : UC) (s : ByteArray) (hnm : u.name = .string s) (start : Int) (ra : Option Addr) (rb roff rn rcap : Nat) (R : Nat → WC) (sa : Option Addr) (sb soff n cap : Nat) (S : Nat → FC) (w : World)
    (hrr : Rw w 3 ra rb roff rn fun i => (R i).cells) (hr : Rw w 8 sa sb soff n fun i => (S i).cells) (hgl : Glob w) :
    Calls Tryd.prog 6 #[.agg u.cells.toArray, .agg (taskC start ra rn rcap sa n cap).toArray] w fun e w' => e = .returned (.bool true) ∧ Frm w.heap.size [] w w' := by
  have hf0 := Tryd.func6
  have HR := Lib.hid hr
  have HRR := Lib.hid hrr
  have HGL := Lib.hid hgl
  have HNM := Lib.hid hnm
  clear hnm hgl hrr hr
  go_enter Tryd.func6, Tryd.ntmps6
  go_upto_region 1 with fail
  refine namedC ?_; intro W hW
  have hb : Blk W w.heap.size 25 u.cells := by rw [hW]; exact (Blk.new w 25 u.cells).alloc _
  have hb3 : Blk W (w.heap.size + 1) 37 (taskC start ra rn rcap sa n cap) := by rw [hW]; exact Blk.new' _ 37 _ (by simp)
  have hf : Frm w.heap.size [] w W := by rw [hW]; repeat (first | with_reducible exact Frm.refl _ _ _ | with_reducible refine Frm.drewN ?_ | with_reducible refine Frm.drew ?_ | ((with_reducible refine Frm.setCell' ?_ ?_); · first | (left; simp; done) | (right; simp; done) | (right; simp; omega)) | ((with_reducible refine Frm.alloc' ?_ ?_); · first | exact Nat.le_refl _ | (simp; done) | (simp; omega)))
  clear hW hf0
  have HX := Lib.hid (And.intro hb hf)
  clear hb hf
  have hsi := UC.info u
  have HSI := Lib.hid hsi
  have HB3 := Lib.hid hb3
  clear hb3 hsi
  by_cases hg : 100 < s.size
  · have hgd : decide (100 < s.size) = true := by simp [hg]
    have HGD := Lib.hid hgd
    clear hgd
    go_wp2_with (first | (with_reducible refine atLoad 25 rfl ?_; refine wpList_loadB (ty := 25) rfl rfl HX.out.1 rfl Tryd.underlying25 rfl HSI.out ?_) | (with_reducible refine atLoad 37 rfl ?_; refine wpList_loadGE rfl rfl rfl (load_task HB3.out) ?_) | (go_at_call 15; refine (great_any u s HNM.out _).mono ?_; rintro e w1 ⟨rfl, hf1⟩; rw [HGD.out]; replace HX := Lib.hid (boxNext HX.out hf1); replace HB3 := Lib.hid (hf1.blk HB3.out HB3.out.lt (by simp)); clear hf1) | (go_at_call 23; refine (large_any start ra rn rcap sa n cap _).mono ?_; rintro e w2 ⟨rfl, hf1⟩; rw [HLD.out]; replace HX := Lib.hid (boxNext HX.out hf1); replace HB3 := Lib.hid (hf1.blk HB3.out HB3.out.lt (by simp)); clear hf1) | (go_at_call 16; refine (awake_any _ (HGL.out.frm HX.out.2 (Nat.le_refl _))).mono ?_; rintro e w1 ⟨rfl, hf1⟩; replace HX := Lib.hid (boxNext HX.out hf1); clear hf1))
    go_ret
    exact ⟨rfl, HX.out.2⟩
  have hgd : decide (100 < s.size) = false := by simp [hg]
  have HGD := Lib.hid hgd
  clear hgd
  by_cases hl : (decide (40 < rn) || decide (110 < n)) = true
  · have hld := hl
    clear hl
    have HLD := Lib.hid hld
    clear hld
    go_wp2_with (first | (with_reducible refine atLoad 25 rfl ?_; refine wpList_loadB (ty := 25) rfl rfl HX.out.1 rfl Tryd.underlying25 rfl HSI.out ?_) | (with_reducible refine atLoad 37 rfl ?_; refine wpList_loadGE rfl rfl rfl (load_task HB3.out) ?_) | (go_at_call 15; refine (great_any u s HNM.out _).mono ?_; rintro e w1 ⟨rfl, hf1⟩; rw [HGD.out]; replace HX := Lib.hid (boxNext HX.out hf1); replace HB3 := Lib.hid (hf1.blk HB3.out HB3.out.lt (by simp)); clear hf1) | (go_at_call 23; refine (large_any start ra rn rcap sa n cap _).mono ?_; rintro e w2 ⟨rfl, hf1⟩; rw [HLD.out]; replace HX := Lib.hid (boxNext HX.out hf1); replace HB3 := Lib.hid (hf1.blk HB3.out HB3.out.lt (by simp)); clear hf1) | (go_at_call 16; refine (awake_any _ (HGL.out.frm HX.out.2 (Nat.le_refl _))).mono ?_; rintro e w1 ⟨rfl, hf1⟩; replace HX := Lib.hid (boxNext HX.out hf1); clear hf1))
    go_ret
    exact ⟨rfl, HX.out.2⟩
  have hld : (decide (40 < rn) || decide (110 < n)) = false := by simpa using hl
  clear hl
  have HLD := Lib.hid hld
  clear hld
  go_upto_region 3 with (first | (with_reducible refine atLoad 25 rfl ?_; refine wpList_loadB (ty := 25) rfl rfl HX.out.1 rfl Tryd.underlying25 rfl HSI.out ?_) | (with_reducible refine atLoad 37 rfl ?_; refine wpList_loadGE rfl rfl rfl (load_task HB3.out) ?_) | (go_at_call 15; refine (great_any u s HNM.out _).mono ?_; rintro e w1 ⟨rfl, hf1⟩; rw [HGD.out]; replace HX := Lib.hid (boxNext HX.out hf1); replace HB3 := Lib.hid (hf1.blk HB3.out HB3.out.lt (by simp)); clear hf1) | (go_at_call 23; refine (large_any start ra rn rcap sa n cap _).mono ?_; rintro e w2 ⟨rfl, hf1⟩; rw [HLD.out]; replace HX := Lib.hid (boxNext HX.out hf1); replace HB3 := Lib.hid (hf1.blk HB3.out HB3.out.lt (by simp)); clear hf1) | (go_at_call 16; refine (awake_any _ (HGL.out.frm HX.out.2 (Nat.le_refl _))).mono ?_; rintro e w1 ⟨rfl, hf1⟩; replace HX := Lib.hid (boxNext HX.out hf1); clear hf1))
  have a0 : w2.cell? ⟨w.heap.size + 1, 0, none⟩ = some (.int .i64 start) := HB3.out.cell 0
  have a1 : w2.cell? ⟨w.heap.size + 1, 1, none⟩ = some (.slice ra rn rcap) := HB3.out.cell 1
  have a2 : w2.cell? ⟨w.heap.size + 1, 2, none⟩ = some (.slice sa n cap) := HB3.out.cell 2
  go_wp2_with (with_reducible refine atLoad 25 rfl ?_; refine wpList_loadB (ty := 25) rfl rfl HX.out.1 rfl Tryd.underlying25 rfl HSI.out ?_)
  refine (Plan_any u s HNM.out start sa sb soff n cap S ra rb roff rn rcap R _ (HR.out.frm HX.out.2 (Nat.le_refl _)) (HRR.out.frm HX.out.2 (Nat.le_refl _)) (HGL.out.frm HX.out.2 (Nat.le_refl _))).mono ?_
  rintro e w3 ⟨hf3, hp1⟩
  clear a0 a1 a2
  replace HX := Lib.hid (boxNext HX.out hf3)
  replace HB3 := Lib.hid (hf3.blk HB3.out HB3.out.lt (by simp))
  clear hf3
  rcases hp1 with ⟨_, rfl⟩ | ⟨_, _, rfl⟩ | ⟨hin, hr30, hys, ov, own, rfl, hsl, hown⟩ | ⟨_, _, i, _, _, _, rfl⟩
  · go_wp2_with (go_at_call 16; refine (awake_any _ (HGL.out.frm HX.out.2 (Nat.le_refl _))).mono ?_; rintro e w6 ⟨rfl, hf1⟩; replace HX := Lib.hid (boxNext HX.out hf1); clear hf1)
    go_ret
    exact ⟨rfl, HX.out.2⟩
  · go_wp2_with (go_at_call 16; refine (awake_any _ (HGL.out.frm HX.out.2 (Nat.le_refl _))).mono ?_; rintro e w6 ⟨rfl, hf1⟩; replace HX := Lib.hid (boxNext HX.out hf1); clear hf1)
    go_ret
    exact ⟨rfl, HX.out.2⟩
  rotate_left
  · go_wp2_with (go_at_call 16; refine (awake_any _ (HGL.out.frm HX.out.2 (Nat.le_refl _))).mono ?_; rintro e w6 ⟨rfl, hf1⟩; replace HX := Lib.hid (boxNext HX.out hf1); clear hf1)
    go_ret
    exact ⟨rfl, HX.out.2⟩
  unfold planIn at hin
  simp only [Bool.and_eq_true] at hin
  obtain ⟨⟨⟨hin1, hin2⟩, hin3⟩, hin4⟩ := hin
  have hu : UOK u := uok_of hin1
  have hst : 0 ≤ start ∧ start ≤ 1073741824 := by unfold timeB at hin4; exact inB_iff.1 hin4
  have hg : GOK (startG u start) := ⟨hu.base, hst, by have := hu.fuel; show 0 ≤ u.fuel ∧ u.fuel ≤ _; omega⟩
  have hw : ∀ i, i < rn → wayB (R i) = true := fun i hi => route_at hin3 hi
  obtain ⟨g0, hg0⟩ : ∃ g, g = startG u start := ⟨_, rfl⟩
  rw [← hg0] at hys hsl hg
  rw [planL_cells] at hsl
  obtain ⟨oa, ob, oo, ocap, rfl, hrw⟩ := hsl.rw (fun i => rfl)
  have hHw := fun (i : Nat) (hi : i < rn) => home_way hu hg hw hys hi
  have hHl := home_last hu hg hw hys
  have hoa := hrw.ad (by omega)
  subst hoa
  obtain ⟨N, hN⟩ : ∃ N, N = rn + 1 := ⟨_, rfl⟩
  rw [← hN] at hrw ⊢
  obtain ⟨c, hc⟩ : ∃ c, c = w.heap.size := ⟨_, rfl⟩
  have henv : HomeEnv w3 c u start ra rb roff rn rcap R sa sb soff n cap S (some ⟨ob, oo, none⟩) ob oo N (planL u R g0 rn) := ⟨by rw [hc]; exact HX.out.1, by rw [hc]; exact HB3.out, hrw, HRR.out.frm HX.out.2 (Nat.le_refl _), HR.out.frm HX.out.2 (Nat.le_refl _)⟩
  have hfr := HX.out.2
  obtain ⟨lz, hlz⟩ : ∃ l, l = planL u R g0 rn rn := ⟨_, rfl⟩
  have hHl0 := hHl
  rw [← hlz] at hHl0
  have hlt : lz.tx = u.bx ∧ lz.ty = u.by_ := by rw [hHl0.1.eq]; exact ⟨rfl, rfl⟩
  have hle : 0 ≤ lz.leave ∧ lz.leave ≤ 1000000000000 := by
    have h1 := hHl0.1.gok.time
    have h2 := takesZ_in (speed := u.speed) hu.speed.1 hHl0.1.gok.place hu.base
    rw [hHl0.1.eq]
    dsimp only
    omega
  have hno : ¬ u.hours < lz.leave - start := by
    rcases Nat.eq_zero_or_pos rn with h0 | h0
    · have h1 := hHl0.1.eq
      subst h0
      have e1 : gsq u R g0 0 = startG u start := hg0
      rw [e1] at h1
      have e2 : lz.leave = start + takesZ u.speed u.bx u.by_ u.bx u.by_ + 0 := by rw [h1]; rfl
      rw [takes_zero hu.speed.1] at e2
      have := hu.hours
      omega
    · have := hHl0.2 h0
      omega
  obtain ⟨dl, hdl⟩ : ∃ d, d = lz.leave - start := ⟨_, rfl⟩
  have hw1 : IntKind.i64.wrap (lz.leave - start) = dl := by rw [hdl]; exact IntWalk.i64_in _ (by omega)
  rw [← hdl] at hno
  have hno2 : dl ≤ u.hours := by omega
  have hnob : decide (u.hours < dl) = false := by simp; omega
  have hNr : rn < N := by omega
  have hNi : (rn : Int) < (N : Int) := by omega
  have hN1 : IntKind.i64.wrap ((rn : Int) + 1) = (N : Int) := by rw [IntWalk.i64_in _ (by omega)]; omega
  have hN2 : IntKind.i64.wrap ((N : Int) - 1) = (rn : Int) := by rw [IntWalk.i64_in _ (by omega)]; omega
  have hN0 : N ≠ 0 := by omega
  have hfx : ∀ V, Frm w3.heap.size [] w3 V → V.cell? ⟨c + 1, 0, none⟩ = some (.int .i64 start) ∧ V.cell? ⟨c + 1, 1, none⟩ = some (.slice ra rn rcap) ∧ V.cell? ⟨c, 5, none⟩ = some (.int .i64 u.hours) ∧ V.cell? ⟨c, 8, none⟩ = some (.int .i64 u.bx) ∧ V.cell? ⟨c, 9, none⟩ = some (.int .i64 u.by_)
      ∧ V.cell? ⟨ob, oo + rn * 8 + 2, none⟩ = some (.int .i64 u.bx) ∧ V.cell? ⟨ob, oo + rn * 8 + 3, none⟩ = some (.int .i64 u.by_) ∧ V.cell? ⟨ob, oo + rn * 8 + 6, none⟩ = some (.int .i64 lz.leave) ∧ V.cell? ⟨c, 2, none⟩ = some (.int .i64 u.fuel) := fun V hV => by
    have e := henv.frm hV
    refine ⟨e.t.cell 0, e.t.cell 1, e.u.cell 5, e.u.cell 8, e.u.cell 9, ?_, ?_, ?_, e.u.cell 2⟩
    · rw [← hlt.1, hlz]; exact e.l.at_ rn hNr 2 _ rfl
    · rw [← hlt.2, hlz]; exact e.l.at_ rn hNr 3 _ rfl
    · rw [hlz]; exact e.l.at_ rn hNr 6 _ rfl
  have hcw : w.heap.size ≤ c := Nat.le_of_eq hc.symm
  clear hdl hsl hown HX HB3 hrw hle hlt hHl0 hlz hin1 hin2 hin3 hin4
  rw [← hc]
  have HU := Lib.hid hu
  have HST := Lib.hid hst
  have HG := Lib.hid hg
  have HW := Lib.hid hw
  have HG0 := Lib.hid hg0
  have HYS := Lib.hid hys
  have HHW := Lib.hid hHw
  have HHL := Lib.hid hHl
  have HN := Lib.hid hN
  have HC := Lib.hid hc
  have HENV := Lib.hid henv
  have HFR := Lib.hid hfr
  have HFX := Lib.hid hfx
  have HCW := Lib.hid hcw
  have HR30 := Lib.hid hr30
  have HN0 := Lib.hid hN0
  clear hN0 hr30 hcw hfx hfr henv hc hN hHl hHw hys hg0 hw hg hst hu
  go_upto_region 6 with fail
  refine wp_region_leftL (fun V => Frm w3.heap.size [] w3 V) 1000 (by kernel_rfl) ?_
  have hS : Frm w3.heap.size [] w3 w3.drew := (Frm.refl _ _ w3).drew
  have HS := Lib.hid hS
  clear hS
  refine LeftL.run (v := ?_) 0 rfl (by kernel_rfl) rfl (fun _ _ d _ _ h => by cases d <;> exact h) ?_ HS.out ?_; rotate_left; (· intro V hV; obtain ⟨q0, q1, q2, q3, q4, q5, q6, q7, q8⟩ := HFX.out V hV; clear hV; go_simp; rfl); (intro K' hK'; go_simp; refine hK' _ ?_; clear hK' K')
  refine LeftL.run (v := ?_) 1 rfl (by kernel_rfl) rfl (fun _ _ d _ _ h => by cases d <;> exact h) ?_ HS.out ?_; rotate_left; (· intro V hV; obtain ⟨q0, q1, q2, q3, q4, q5, q6, q7, q8⟩ := HFX.out V hV; clear hV; go_simp; rfl); (intro K' hK'; go_simp; refine hK' _ ?_; clear hK' K')
  refine LeftL.run (v := ?_) 2 rfl (by kernel_rfl) rfl (fun _ _ d _ _ h => by cases d <;> exact h) ?_ HS.out ?_; rotate_left; (· intro V hV; obtain ⟨q0, q1, q2, q3, q4, q5, q6, q7, q8⟩ := HFX.out V hV; clear hV; go_simp; rfl); (intro K' hK'; go_simp; refine hK' _ ?_; clear hK' K')
  refine LeftL.run (v := ?_) 3 rfl (by kernel_rfl) rfl (fun _ _ d _ _ h => by cases d <;> exact h) ?_ HS.out ?_; rotate_left; (· intro V hV; obtain ⟨q0, q1, q2, q3, q4, q5, q6, q7, q8⟩ := HFX.out V hV; clear hV; go_simp; rfl); (intro K' hK'; go_simp; refine hK' _ ?_; clear hK' K')
  refine LeftL.run (v := ?_) 4 rfl (by kernel_rfl) rfl (fun _ _ d _ _ h => by cases d <;> exact h) ?_ HS.out ?_; rotate_left; (· intro V hV; obtain ⟨q0, q1, q2, q3, q4, q5, q6, q7, q8⟩ := HFX.out V hV; clear hV; go_simp; rfl); (intro K' hK'; go_simp; refine hK' _ ?_; clear hK' K')
  refine LeftL.run (v := ?_) 5 rfl (by kernel_rfl) rfl (fun _ _ d _ _ h => by cases d <;> exact h) ?_ HS.out ?_; rotate_left; (· intro V hV; obtain ⟨q0, q1, q2, q3, q4, q5, q6, q7, q8⟩ := HFX.out V hV; clear hV; go_simp; rfl); (intro K' hK'; go_simp; refine hK' _ ?_; clear hK' K')
  refine LeftL.run (v := ?_) 6 rfl (by kernel_rfl) rfl (fun _ _ d _ _ h => by cases d <;> exact h) ?_ HS.out ?_; rotate_left; (· intro V hV; obtain ⟨q0, q1, q2, q3, q4, q5, q6, q7, q8⟩ := HFX.out V hV; clear hV; go_simp; rfl); (intro K' hK'; go_simp; refine hK' _ ?_; clear hK' K')
  refine LeftL.run (v := ?_) 7 rfl (by kernel_rfl) rfl (fun _ _ d _ _ h => by cases d <;> exact h) ?_ HS.out ?_; rotate_left; (· intro V hV; obtain ⟨q0, q1, q2, q3, q4, q5, q6, q7, q8⟩ := HFX.out V hV; clear hV; go_simp; rfl); (intro K' hK'; go_simp; refine hK' _ ?_; clear hK' K')
  refine LeftL.runG (v := ?_) 8 rfl (by kernel_rfl) rfl (fun _ _ d _ _ h => by cases d <;> exact h) ?_ HS.out ?_; rotate_left; (· intro V hV; obtain ⟨q0, q1, q2, q3, q4, q5, q6, q7, q8⟩ := HFX.out V hV; clear hV; go_simp; rfl); (intro K' hK'; go_simp; refine hK' _ ?_; clear hK' K')
  refine LeftL.runG (v := ?_) 9 rfl (by kernel_rfl) rfl (fun _ _ d _ _ h => by cases d <;> exact h) ?_ HS.out ?_; rotate_left; (· intro V hV; obtain ⟨q0, q1, q2, q3, q4, q5, q6, q7, q8⟩ := HFX.out V hV; clear hV; go_simp; rfl); (intro K' hK'; go_simp; refine hK' _ ?_; clear hK' K')
  refine LeftL.runG (v := ?_) 10 rfl (by kernel_rfl) rfl (fun _ _ d _ _ h => by cases d <;> exact h) ?_ HS.out ?_; rotate_left; (· intro V hV; obtain ⟨q0, q1, q2, q3, q4, q5, q6, q7, q8⟩ := HFX.out V hV; clear hV; go_simp; rfl); (intro K' hK'; go_simp; refine hK' _ ?_; clear hK' K')
  refine LeftL.runG (v := ?_) 11 rfl (by kernel_rfl) rfl (fun _ _ d _ _ h => by cases d <;> exact h) ?_ HS.out ?_; rotate_left; (· intro V hV; obtain ⟨q0, q1, q2, q3, q4, q5, q6, q7, q8⟩ := HFX.out V hV; clear hV; go_simp; rfl); (intro K' hK'; go_simp; refine hK' _ ?_; clear hK' K')
  refine LeftL.runG (v := ?_) 12 rfl (by kernel_rfl) rfl (fun _ _ d _ _ h => by cases d <;> exact h) ?_ HS.out ?_; rotate_left; (· intro V hV; obtain ⟨q0, q1, q2, q3, q4, q5, q6, q7, q8⟩ := HFX.out V hV; clear hV; go_simp; rfl); (intro K' hK'; go_simp; refine hK' _ ?_; clear hK' K')
  refine LeftL.runG (v := ?_) 13 rfl (by kernel_rfl) rfl (fun _ _ d _ _ h => by cases d <;> exact h) ?_ HS.out ?_; rotate_left; (· intro V hV; obtain ⟨q0, q1, q2, q3, q4, q5, q6, q7, q8⟩ := HFX.out V hV; clear hV; go_simp; rfl); (intro K' hK'; go_simp; refine hK' _ ?_; clear hK' K')
  refine LeftL.runG (v := ?_) 14 rfl (by kernel_rfl) rfl (fun _ _ d _ _ h => by cases d <;> exact h) ?_ HS.out ?_; rotate_left; (· intro V hV; obtain ⟨q0, q1, q2, q3, q4, q5, q6, q7, q8⟩ := HFX.out V hV; clear hV; go_simp; rfl); (intro K' hK'; go_simp; refine hK' _ ?_; clear hK' K')
  refine LeftL.runG (v := ?_) 15 rfl (by kernel_rfl) rfl (fun _ _ d _ _ h => by cases d <;> exact h) ?_ HS.out ?_; rotate_left; (· intro V hV; obtain ⟨q0, q1, q2, q3, q4, q5, q6, q7, q8⟩ := HFX.out V hV; clear hV; go_simp; rfl); (intro K' hK'; go_simp; refine hK' _ ?_; clear hK' K')
  refine LeftL.runG (v := ?_) 16 rfl (by kernel_rfl) rfl (fun _ _ d _ _ h => by cases d <;> exact h) ?_ HS.out ?_; rotate_left; (· intro V hV; obtain ⟨q0, q1, q2, q3, q4, q5, q6, q7, q8⟩ := HFX.out V hV; clear hV; go_simp; rfl); (intro K' hK'; go_simp; refine hK' _ ?_; clear hK' K')
  refine LeftL.runG (v := ?_) 17 rfl (by kernel_rfl) rfl (fun _ _ d _ _ h => by cases d <;> exact h) ?_ HS.out ?_; rotate_left; (· intro V hV; obtain ⟨q0, q1, q2, q3, q4, q5, q6, q7, q8⟩ := HFX.out V hV; clear hV; go_simp; rfl); (intro K' hK'; go_simp; refine hK' _ ?_; clear hK' K')
  refine LeftL.run (v := ?_) 18 rfl (by kernel_rfl) rfl (fun _ _ d _ _ h => by cases d <;> exact h) ?_ HS.out ?_; rotate_left; (· intro V hV; obtain ⟨q0, q1, q2, q3, q4, q5, q6, q7, q8⟩ := HFX.out V hV; clear hV; go_simp; rfl); (intro K' hK'; go_simp; refine hK' _ ?_; clear hK' K')
  refine LeftL.run (v := ?_) 19 rfl (by kernel_rfl) rfl (fun _ _ d _ _ h => by cases d <;> exact h) ?_ HS.out ?_; rotate_left; (· intro V hV; obtain ⟨q0, q1, q2, q3, q4, q5, q6, q7, q8⟩ := HFX.out V hV; clear hV; go_simp; rfl); (intro K' hK'; go_simp; refine hK' _ ?_; clear hK' K')
  refine LeftL.runG (v := ?_) 20 rfl (by kernel_rfl) rfl (fun _ _ d _ _ h => by cases d <;> exact h) ?_ HS.out ?_; rotate_left; (· intro V hV; obtain ⟨q0, q1, q2, q3, q4, q5, q6, q7, q8⟩ := HFX.out V hV; clear hV; go_simp; rfl); (intro K' hK'; go_simp; refine hK' _ ?_; clear hK' K')
  refine LeftL.runG (v := ?_) 21 rfl (by kernel_rfl) rfl (fun _ _ d _ _ h => by cases d <;> exact h) ?_ HS.out ?_; rotate_left; (· intro V hV; obtain ⟨q0, q1, q2, q3, q4, q5, q6, q7, q8⟩ := HFX.out V hV; clear hV; go_simp; rfl); (intro K' hK'; go_simp; refine hK' _ ?_; clear hK' K')
  refine LeftL.runG (v := ?_) 22 rfl (by kernel_rfl) rfl (fun _ _ d _ _ h => by cases d <;> exact h) ?_ HS.out ?_; rotate_left; (· intro V hV; obtain ⟨q0, q1, q2, q3, q4, q5, q6, q7, q8⟩ := HFX.out V hV; clear hV; go_simp; rfl); (intro K' hK'; go_simp; refine hK' _ ?_; clear hK' K')
  refine LeftL.runG (v := ?_) 23 rfl (by kernel_rfl) rfl (fun _ _ d _ _ h => by cases d <;> exact h) ?_ HS.out ?_; rotate_left; (· intro V hV; obtain ⟨q0, q1, q2, q3, q4, q5, q6, q7, q8⟩ := HFX.out V hV; clear hV; go_simp; rfl); (intro K' hK'; go_simp; refine hK' _ ?_; clear hK' K')
  refine LeftL.runG (v := ?_) 24 rfl (by kernel_rfl) rfl (fun _ _ d _ _ h => by cases d <;> exact h) ?_ HS.out ?_; rotate_left; (· intro V hV; obtain ⟨q0, q1, q2, q3, q4, q5, q6, q7, q8⟩ := HFX.out V hV; clear hV; go_simp; rfl); (intro K' hK'; go_simp; refine hK' _ ?_; clear hK' K')
  refine LeftL.runG (v := ?_) 25 rfl (by kernel_rfl) rfl (fun _ _ d _ _ h => by cases d <;> exact h) ?_ HS.out ?_; rotate_left; (· intro V hV; obtain ⟨q0, q1, q2, q3, q4, q5, q6, q7, q8⟩ := HFX.out V hV; clear hV; go_simp; rfl); (intro K' hK'; go_simp; refine hK' _ ?_; clear hK' K')
  refine LeftL.runG (v := ?_) 26 rfl (by kernel_rfl) rfl (fun _ _ d _ _ h => by cases d <;> exact h) ?_ HS.out ?_; rotate_left; (· intro V hV; obtain ⟨q0, q1, q2, q3, q4, q5, q6, q7, q8⟩ := HFX.out V hV; clear hV; go_simp; rfl); (intro K' hK'; go_simp; refine hK' _ ?_; clear hK' K')
  refine LeftL.runG (v := ?_) 27 rfl (by kernel_rfl) rfl (fun _ _ d _ _ h => by cases d <;> exact h) ?_ HS.out ?_; rotate_left; (· intro V hV; obtain ⟨q0, q1, q2, q3, q4, q5, q6, q7, q8⟩ := HFX.out V hV; clear hV; go_simp; rfl); (intro K' hK'; go_simp; refine hK' _ ?_; clear hK' K')
  refine LeftL.runG (v := ?_) 28 rfl (by kernel_rfl) rfl (fun _ _ d _ _ h => by cases d <;> exact h) ?_ HS.out ?_; rotate_left; (· intro V hV; obtain ⟨q0, q1, q2, q3, q4, q5, q6, q7, q8⟩ := HFX.out V hV; clear hV; go_simp; rfl); (intro K' hK'; go_simp; refine hK' _ ?_; clear hK' K')
  refine LeftL.runG (v := ?_) 29 rfl (by kernel_rfl) rfl (fun _ _ d _ _ h => by cases d <;> exact h) ?_ HS.out ?_; rotate_left; (· intro V hV; obtain ⟨q0, q1, q2, q3, q4, q5, q6, q7, q8⟩ := HFX.out V hV; clear hV; go_simp; rfl); (intro K' hK'; go_simp; refine hK' _ ?_; clear hK' K')
  refine LeftL.runG (v := ?_) 30 rfl (by kernel_rfl) rfl (fun _ _ d _ _ h => by cases d <;> exact h) ?_ HS.out ?_; rotate_left; (· intro V hV; obtain ⟨q0, q1, q2, q3, q4, q5, q6, q7, q8⟩ := HFX.out V hV; clear hV; go_simp; rfl); (intro K' hK'; go_simp; refine hK' _ ?_; clear hK' K')
  refine LeftL.runG (v := ?_) 31 rfl (by kernel_rfl) rfl (fun _ _ d _ _ h => by cases d <;> exact h) ?_ HS.out ?_; rotate_left; (· intro V hV; obtain ⟨q0, q1, q2, q3, q4, q5, q6, q7, q8⟩ := HFX.out V hV; clear hV; go_simp; rfl); (intro K' hK'; go_simp; refine hK' _ ?_; clear hK' K')
  refine LeftL.runG (v := ?_) 32 rfl (by kernel_rfl) rfl (fun _ _ d _ _ h => by cases d <;> exact h) ?_ HS.out ?_; rotate_left; (· intro V hV; obtain ⟨q0, q1, q2, q3, q4, q5, q6, q7, q8⟩ := HFX.out V hV; clear hV; go_simp; rfl); (intro K' hK'; go_simp; refine hK' _ ?_; clear hK' K')
  refine LeftL.runG (v := ?_) 33 rfl (by kernel_rfl) rfl (fun _ _ d _ _ h => by cases d <;> exact h) ?_ HS.out ?_; rotate_left; (· intro V hV; obtain ⟨q0, q1, q2, q3, q4, q5, q6, q7, q8⟩ := HFX.out V hV; clear hV; go_simp; rfl); (intro K' hK'; go_simp; refine hK' _ ?_; clear hK' K')
  refine LeftL.take (v := undef) 34 rfl (by kernel_rfl) (fun _ _ d _ _ h => by cases d <;> exact h) (.inr ⟨rfl, rfl⟩) HS.out ?_; (intro K' hK'; go_simp; refine hK' _ ?_; clear hK' K')
  refine LeftL.take (v := undef) 35 rfl (by kernel_rfl) (fun _ _ d _ _ h => by cases d <;> exact h) (.inr ⟨rfl, rfl⟩) HS.out ?_; (intro K' hK'; go_simp; refine hK' _ ?_; clear hK' K')
  refine LeftL.take (v := undef) 36 rfl (by kernel_rfl) (fun _ _ d _ _ h => by cases d <;> exact h) (.inr ⟨rfl, rfl⟩) HS.out ?_; (intro K' hK'; go_simp; refine hK' _ ?_; clear hK' K')
  refine LeftL.take (v := undef) 37 rfl (by kernel_rfl) (fun _ _ d _ _ h => by cases d <;> exact h) (.inr ⟨rfl, rfl⟩) HS.out ?_; (intro K' hK'; go_simp; refine hK' _ ?_; clear hK' K')
  refine LeftL.runG (v := ?_) 38 rfl (by kernel_rfl) rfl (fun _ _ d _ _ h => by cases d <;> exact h) ?_ HS.out ?_; rotate_left; (· intro V hV; obtain ⟨q0, q1, q2, q3, q4, q5, q6, q7, q8⟩ := HFX.out V hV; clear hV; go_simp; rfl); (intro K' hK'; go_simp; refine hK' _ ?_; clear hK' K')
  refine LeftL.one 39 rfl (by kernel_rfl) ?_
  go_wp2_with fail
  first | refine ⟨fun _ => HS.out, ?_⟩ | refine ⟨HS.out, ?_⟩
  refine LeftL.done (by kernel_rfl) ?_
  go_upto_region 8 with fail
  refine namedC ?_; intro W8 hW8
  have hs8 : Frm w3.heap.size [] w3 W8 := by rw [hW8]; exact HS.out
  have hi23 : (Tryd.prog.info? 23).map (fun i => i.size) = some 2 := by kernel_rfl
  clear HS hW8 hno hno2 hnob hw1 hN1 hN2
  have hfx : ∀ V, Frm W8.heap.size [] W8 V → V.cell? ⟨c + 1, 0, none⟩ = some (.int .i64 start) ∧ V.cell? ⟨c, 8, none⟩ = some (.int .i64 u.bx) ∧ V.cell? ⟨c, 9, none⟩ = some (.int .i64 u.by_) ∧ V.cell? ⟨c, 2, none⟩ = some (.int .i64 u.fuel) := fun V hV => by
    have e := HENV.out.frm (hs8.call hV hs8.size (by simp))
    exact ⟨e.t.cell 0, e.u.cell 8, e.u.cell 9, e.u.cell 2⟩
  obtain ⟨p9, hp9⟩ : ∃ p, p = W8.heap.size := ⟨_, rfl⟩
  have hp9w : w3.heap.size ≤ p9 := by rw [hp9]; exact hs8.size
  clear HFX
  have HS8 := Lib.hid hs8
  have HFX := Lib.hid hfx
  have I23 := Lib.hid hi23
  have HP9W := Lib.hid hp9w
  clear hp9w hi23 hfx hs8
  refine wp_region_leftL (fun V => Frm W8.heap.size [] W8 V) 1000 (by kernel_rfl) ?_
  have hS : Frm W8.heap.size [] W8 W8.drew := (Frm.refl _ _ W8).drew
  have HS := Lib.hid hS
  clear hS
  refine LeftL.run (v := ?_) 0 rfl (by kernel_rfl) rfl (fun _ _ d _ _ h => by cases d <;> exact h) ?_ HS.out ?_; rotate_left; (· intro V hV; obtain ⟨q0, q1, q2, q3⟩ := HFX.out V hV; clear hV; go_simp; rfl); (intro K' hK'; go_simp; refine hK' _ ?_; clear hK' K')
  refine LeftL.run (v := ?_) 1 rfl (by kernel_rfl) rfl (fun _ _ d _ _ h => by cases d <;> exact h) ?_ HS.out ?_; rotate_left; (· intro V hV; obtain ⟨q0, q1, q2, q3⟩ := HFX.out V hV; clear hV; go_simp; rfl); (intro K' hK'; go_simp; refine hK' _ ?_; clear hK' K')
  refine LeftL.run (v := ?_) 2 rfl (by kernel_rfl) rfl (fun _ _ d _ _ h => by cases d <;> exact h) ?_ HS.out ?_; rotate_left; (· intro V hV; obtain ⟨q0, q1, q2, q3⟩ := HFX.out V hV; clear hV; go_simp; rfl); (intro K' hK'; go_simp; refine hK' _ ?_; clear hK' K')
  refine LeftL.run (v := ?_) 3 rfl (by kernel_rfl) rfl (fun _ _ d _ _ h => by cases d <;> exact h) ?_ HS.out ?_; rotate_left; (· intro V hV; obtain ⟨q0, q1, q2, q3⟩ := HFX.out V hV; clear hV; go_simp; rfl); (intro K' hK'; go_simp; refine hK' _ ?_; clear hK' K')
  refine LeftL.run (v := ?_) 4 rfl (by kernel_rfl) rfl (fun _ _ d _ _ h => by cases d <;> exact h) ?_ HS.out ?_; rotate_left; (· intro V hV; obtain ⟨q0, q1, q2, q3⟩ := HFX.out V hV; clear hV; go_simp; rfl); (intro K' hK'; go_simp; refine hK' _ ?_; clear hK' K')
  refine LeftL.run (v := ?_) 5 rfl (by kernel_rfl) rfl (fun _ _ d _ _ h => by cases d <;> exact h) ?_ HS.out ?_; rotate_left; (· intro V hV; obtain ⟨q0, q1, q2, q3⟩ := HFX.out V hV; clear hV; go_simp; rfl); (intro K' hK'; go_simp; refine hK' _ ?_; clear hK' K')
  refine LeftL.one 6 rfl (by kernel_rfl) ?_
  go_wp2_with fail
  have hS2 := ((Frm.refl W8.heap.size [] W8).alloc (Nat.le_refl _) (.cells #[.int .i64 0, .int .i64 0] 23)).drew
  have hb9 : Blk (W8.alloc (.cells #[.int .i64 0, .int .i64 0] 23)).drew W8.heap.size 23 [.int .i64 0, .int .i64 0] := (Blk.new W8 23 [.int .i64 0, .int .i64 0]).drew
  rw [← hp9] at hb9 hS2 ⊢
  clear HS HFX
  have HS := Lib.hid hS2
  have HB9 := Lib.hid hb9
  have HP9 := Lib.hid hp9
  clear hp9 hb9 hS2
  first | refine ⟨fun _ => HS.out, ?_⟩ | refine ⟨HS.out, ?_⟩
  refine LeftL.one 7 rfl (by kernel_rfl) ?_
  refine wpList_storeB (P := Tryd.prog) (ty := 23) (cs := [.int .i64 u.bx, .int .i64 u.by_]) rfl rfl HB9.out rfl rfl rfl I23.out (by simp [Value.oneCell']) ?_
  refine wpList_nil ?_
  have hS3 := HS.out.setRow (g := p9) (.inr (Nat.le_refl _)) #[.int .i64 u.bx, .int .i64 u.by_]
  have hb9 := HB9.out.row [.int .i64 u.bx, .int .i64 u.by_]
  clear HS HB9
  have HS := Lib.hid hS3
  have HB9 := Lib.hid hb9
  clear hb9 hS3
  refine ⟨fun _ => HS.out, ?_⟩
  refine LeftL.one 8 rfl (by kernel_rfl) ?_
  go_wp2_with fail
  first | refine ⟨fun _ => HS.out, ?_⟩ | refine ⟨HS.out, ?_⟩
  refine LeftL.one 9 rfl (by kernel_rfl) ?_
  go_wp2_with fail
  first | refine ⟨fun _ => HS.out, ?_⟩ | refine ⟨HS.out, ?_⟩
  refine LeftL.done (by kernel_rfl) ?_
  go_upto_region 9 with fail
  refine namedC ?_; intro W9 hW9
  rw [← hW9] at HS HB9
  have hs9 := HS8.out.call HS.out (by rw [HP9.out]; exact HS8.out.size) (by simp)
  clear hW9 HS HP9
  have HS9 := Lib.hid hs9
  clear hs9
  go_wp2_with fail
  refine Code.wp_mono (fun e a w h => NoP.out e a w h) (leg_loop u start ra rb roff rn rcap R sa sb soff n cap S ob oo N ocap g0 start u.fuel (by rw [HG0.out]; rfl) (by rw [HG0.out]; rfl) c p9 w w3 _ HU.out HHW.out HHL.out.1 HN.out HR30.out HENV.out HR.out HRR.out HP9W.out (by rw [HG0.out]; exact HB9.out) HS9.out _ _ _ _ _ _ _ _ _ _ _ _ _ _ _ _ _ _ _ _ _ _ _ _ _ _ _ _ _ _ _ _ _ _ _ _ _ _ _ _ _ _ _ _ _ _ _ _ _ _ _ _ _ _ _ _ _ _ _ _ _ _ _ _ _ _ _ _ _ _ _ _ _ _ _ _ _ _ _ _ _ _ _ _ _ _ _ _ _ _ _ _ _ _ _ _ _ _ _ _ _ _ _ _ _ _ _ _ _ _ _ _ _ _ _ _ _ _ _ _ _ _ _ _ _ _ _ _ _ _ _ _ _ _ _ _ _ _ _ _ _ _ _ _ _ _ _ _ _ _ _ _ _ _ _ _ _ _ _ _ _ _ _ _ _ _ _ _ _ _ _ _ _ _ _ _ _ _ _ _ _ _ _ _ _ _ _ _ _ _ _ _ _ _ _ _ _ _ _ _ _ _ _ _ _ _ _ _ _ _ _ _ _ _ _ _ _ _ _ _ _ _ _ _ _ _ _ _ _ _ _ _ _ _ _ _ _ _ _ _ _ _ _ _ _ _ _ _ _ _ _ _ _ _ _ _ _ _ _ _ _ _ _ _ _ _ _ _ _ _ _ _ _ _ _ _ _ _ _ _ _ _ _ _ _ _ _ _ _ _ _ _ _ _ _ _ _ _ _ _ _ _ _ _ _ _ _ _ _ _ _ _ _ _ _ _ _ _ _ _ _ _ _ _ _ _ _ ?_)
  intro u4 u10 u11 u12 u13 u14 u15 u16 u17 u18 u19 u20 u21 u22 u23 u24 u25 u100 u101 u102 u103 u104 u105 u106 u107 u108 u109 u110 u111 u112 u113 u114 u115 u116 u117 u118 u119 u120 u121 u122 u123 u124 u125 u126 u127 u128 u129 u130 u131 u132 u133 u134 u135 u136 u137 u138 u139 u140 u141 u142 u143 u144 u145 u146 u147 u148 u149 u150 u151 u152 u153 u154 u155 u156 u157 u158 u159 u160 u161 u162 u163 u164 u165 u166 u167 u168 u169 u170 u171 u172 u173 u174 u175 u176 u177 u178 u179 u180 u181 u182 u183 u184 u185 u186 u187 u188 u189 u190 u191 u192 u193 u194 u195 u196 u197 u198 u199 u200 u201 u202 u203 u204 u205 u206 u207 u208 u209 u210 u211 u212 u213 u214 u215 u216 u217 u218 u219 u220 u221 u222 u223 u224 u225 u226 u227 u228 u229 u230 u231 u232 u233 u234 u235 u236 u237 u238 u239 u240 u241 u242 u243 u244 u245 u246 u247 u248 u249 u250 u251 u252 u253 u254 u255 u256 u257 u258 u259 u260 u261 u262 u263 u264 u265 u266 u267 u268 u269 u270 u271 u272 u273 u274 u275 u276 u277 u278 u279 u280 u281 u282 u283 u284 u285 u286 u287 u288 u289 u290 u291 u292 u293 u294 u295 u296 u297 u298 u299 u300 u301 u302 u303 u304 u305 u306 u307 u308 u309 u310 u311 u312 u313 u314 u315 u316 u317 u318 u319 u320 u321 u322 u323 u324 u325 u326 u327 u328 u329 u330 u331 w' hfr9
  have hfin := HFR.out.call hfr9 HFR.out.size (by simp)
  clear hfr9 HB9 HS9
  have HF := Lib.hid hfin
  clear hfin
  go_wp2_with (go_at_call 16; refine (awake_any _ (HGL.out.frm HF.out (Nat.le_refl _))).mono ?_; rintro e w6 ⟨rfl, hf1⟩; replace HF := Lib.hid (HF.out.call hf1 HF.out.size (by simp)); clear hf1)
  go_ret
  exact ⟨rfl, HF.out⟩
end Go.Proofs.YtghkfopcjdkieaaDoor
