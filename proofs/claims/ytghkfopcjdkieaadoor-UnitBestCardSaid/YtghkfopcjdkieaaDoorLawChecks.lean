/-
  Whether any unit and weather are valid, and any way, are the document's.
-/
import Derived.Test.YtghkfopcjdkieaaDoorOpens
namespace Go.Proofs.YtghkfopcjdkieaaDoor
set_option linter.all false
set_option linter.unusedSimpArgs false
set_option linter.unusedVariables false
open Go.ChangeShapes Go.WideShapes Go.ChangeAt Go.RowKit

set_option maxRecDepth 100000 in
set_option maxHeartbeats 4000000 in
theorem great_any (u : UC) (s : ByteArray) (hnm : u.name = .string s) (w : World) : Calls Tryd.prog 15 #[.agg u.cells.toArray] w fun e w' => e = .returned (.bool (decide (100 < s.size))) ∧ Frm w.heap.size [] w w' := by
  have hf0 := Tryd.func15
  go_enter Tryd.func15, Tryd.ntmps15
  go_upto_region 1 with fail
  refine namedC ?_; intro W hW
  have hb : Blk W w.heap.size 25 u.cells := by rw [hW]; exact Blk.new w 25 u.cells
  have hf : Frm w.heap.size [] w W := by rw [hW]; repeat (first | with_reducible exact Frm.refl _ _ _ | with_reducible refine Frm.drewN ?_ | with_reducible refine Frm.drew ?_ | ((with_reducible refine Frm.setCell' ?_ ?_); · first | (left; simp; done) | (right; simp; done) | (right; simp; omega)) | ((with_reducible refine Frm.alloc' ?_ ?_); · first | exact Nat.le_refl _ | (simp; done) | (simp; omega)))
  clear hW hf0
  have c0 : W.cell? ⟨w.heap.size, 0, none⟩ = some (.string s) := by rw [← hnm]; exact hb.cell 0
  clear hb
  have HF := Lib.hid hf
  clear hf
  by_cases h : 100 < s.size
  · have h' : (100 : Int) < (s.size : Int) := by omega
    go_wp2_with fail
    go_ret
    exact ⟨by simp [h], HF.out⟩
  · have h' : ¬ (100 : Int) < (s.size : Int) := by omega
    go_wp2_with fail
    go_ret
    exact ⟨by simp [h], HF.out⟩

set_option maxRecDepth 100000 in
set_option maxHeartbeats 4000000 in
theorem checks_walk (u : UC) (s : ByteArray) (hnm : u.name = .string s) (ad : Option Addr) (b off n cap : Nat) (S : Nat → FC) (x0 y0 x1 y1 : Int) (w : World) (hr : Rw w 8 ad b off n fun i => (S i).cells) (hgl : Glob w) :
    Calls Tryd.prog 3 #[.agg u.cells.toArray, .slice ad n cap, .agg #[.int .i64 x0, .int .i64 y0, .int .i64 x1, .int .i64 y1]] w fun e w' => e = .returned (.bool true) ∧ Frm w.heap.size [] w w' := by
  have hf0 := Tryd.func3
  have HR := Lib.hid hr
  have HGL := Lib.hid hgl
  have HNM := Lib.hid hnm
  clear hnm hgl hr
  go_enter Tryd.func3, Tryd.ntmps3
  go_upto_region 1 with fail
  refine namedC ?_; intro W hW
  have hb : Blk W w.heap.size 25 u.cells := by rw [hW]; exact (Blk.new w 25 u.cells).alloc _
  have hb5 : Blk W (w.heap.size + 1) 27 [.int .i64 x0, .int .i64 y0, .int .i64 x1, .int .i64 y1] := by rw [hW]; exact Blk.new' _ 27 [.int .i64 x0, .int .i64 y0, .int .i64 x1, .int .i64 y1] (by simp)
  have hf : Frm w.heap.size [] w W := by rw [hW]; repeat (first | with_reducible exact Frm.refl _ _ _ | with_reducible refine Frm.drewN ?_ | with_reducible refine Frm.drew ?_ | ((with_reducible refine Frm.setCell' ?_ ?_); · first | (left; simp; done) | (right; simp; done) | (right; simp; omega)) | ((with_reducible refine Frm.alloc' ?_ ?_); · first | exact Nat.le_refl _ | (simp; done) | (simp; omega)))
  clear hW hf0
  have HX := Lib.hid (And.intro hb hf)
  clear hb hf
  have hsi := UC.info u
  have HSI := Lib.hid hsi
  have HB5 := Lib.hid hb5
  clear hb5 hsi
  by_cases hg : 100 < s.size
  · have hgd : decide (100 < s.size) = true := by simp [hg]
    have HGD := Lib.hid hgd
    clear hgd
    go_wp2_with (first | (with_reducible refine atLoad 25 rfl ?_; refine wpList_loadB (ty := 25) rfl rfl HX.out.1 rfl Tryd.underlying25 rfl HSI.out ?_) | (go_at_call 15; refine (great_any u s HNM.out _).mono ?_; rintro e w1 ⟨rfl, hf1⟩; rw [HGD.out]; replace HX := Lib.hid (boxNext HX.out hf1); clear hf1) | (go_at_call 16; refine (awake_any _ (HGL.out.frm HX.out.2 (Nat.le_refl _))).mono ?_; rintro e w1 ⟨rfl, hf1⟩; replace HX := Lib.hid (boxNext HX.out hf1); clear hf1))
    go_ret
    exact ⟨rfl, HX.out.2⟩
  have hgd : decide (100 < s.size) = false := by simp [hg]
  have HGD := Lib.hid hgd
  clear hgd
  by_cases hn : 150 < n
  · have hn' : (150 : Int) < (n : Int) := by omega
    go_wp2_with (first | (with_reducible refine atLoad 25 rfl ?_; refine wpList_loadB (ty := 25) rfl rfl HX.out.1 rfl Tryd.underlying25 rfl HSI.out ?_) | (go_at_call 15; refine (great_any u s HNM.out _).mono ?_; rintro e w1 ⟨rfl, hf1⟩; rw [HGD.out]; replace HX := Lib.hid (boxNext HX.out hf1); clear hf1) | (go_at_call 16; refine (awake_any _ (HGL.out.frm HX.out.2 (Nat.le_refl _))).mono ?_; rintro e w1 ⟨rfl, hf1⟩; replace HX := Lib.hid (boxNext HX.out hf1); clear hf1))
    go_ret
    exact ⟨rfl, HX.out.2⟩
  have hn' : ¬ (150 : Int) < (n : Int) := by omega
  go_upto_region 3 with (first | (with_reducible refine atLoad 25 rfl ?_; refine wpList_loadB (ty := 25) rfl rfl HX.out.1 rfl Tryd.underlying25 rfl HSI.out ?_) | (go_at_call 15; refine (great_any u s HNM.out _).mono ?_; rintro e w1 ⟨rfl, hf1⟩; rw [HGD.out]; replace HX := Lib.hid (boxNext HX.out hf1); replace HB5 := Lib.hid (hf1.blk HB5.out HB5.out.lt (by simp)); clear hf1))
  have a0 : w1.cell? ⟨w.heap.size + 1, 0, none⟩ = some (.int .i64 x0) := HB5.out.cell 0
  have a1 : w1.cell? ⟨w.heap.size + 1, 1, none⟩ = some (.int .i64 y0) := HB5.out.cell 1
  have a2 : w1.cell? ⟨w.heap.size + 1, 2, none⟩ = some (.int .i64 x1) := HB5.out.cell 2
  have a3 : w1.cell? ⟨w.heap.size + 1, 3, none⟩ = some (.int .i64 y1) := HB5.out.cell 3
  obtain ⟨d1, hd1⟩ : ∃ d1, d1 = (distZ x0 y0 x1 y1).1 := ⟨_, rfl⟩
  obtain ⟨d2, hd2⟩ : ∃ d2, d2 = (distZ x0 y0 x1 y1).2 := ⟨_, rfl⟩
  have HD1 := Lib.hid hd1
  have HD2 := Lib.hid hd2
  clear hd2 hd1
  go_wp2_with fail
  refine (distance_any x0 y0 x1 y1 w1).mono ?_; rintro e w2 ⟨rfl, hf2⟩
  rw [← HD1.out, ← HD2.out]
  replace HX := Lib.hid (boxNext HX.out hf2)
  replace HB5 := Lib.hid (hf2.blk HB5.out HB5.out.lt (by simp))
  clear hf2 a0 a1 a2 a3
  have a0 : w2.cell? ⟨w.heap.size + 1, 0, none⟩ = some (.int .i64 x0) := HB5.out.cell 0
  have a1 : w2.cell? ⟨w.heap.size + 1, 1, none⟩ = some (.int .i64 y0) := HB5.out.cell 1
  have a2 : w2.cell? ⟨w.heap.size + 1, 2, none⟩ = some (.int .i64 x1) := HB5.out.cell 2
  have a3 : w2.cell? ⟨w.heap.size + 1, 3, none⟩ = some (.int .i64 y1) := HB5.out.cell 3
  go_wp2_with fail
  refine (refDistance_any x0 y0 x1 y1 w2).mono ?_; rintro e w3 ⟨rfl, hf3⟩
  rw [← HD1.out, ← HD2.out]
  replace HX := Lib.hid (boxNext HX.out hf3)
  clear hf3 a0 a1 a2 a3 HB5
  have hrw := HR.out.frm HX.out.2 (Nat.le_refl _)
  have hgw := HGL.out.frm HX.out.2 (Nat.le_refl _)
  have hlo : ∀ V, Frm w3.heap.size [] w3 V → (loadVar 25 ⟨w.heap.size, 0, none⟩).run Tryd.prog V = .ok (.agg u.cells.toArray) V := fun V hV => loadVarB (hV.blk HX.out.1 HX.out.1.lt (by simp)) (P := Tryd.prog) Tryd.underlying25 rfl HSI.out
  have hfx : ∀ V, Frm w3.heap.size [] w3 V → True := fun _ _ => trivial
  obtain ⟨A, hA⟩ : ∃ A, A = unitB u s := ⟨_, rfl⟩
  obtain ⟨B, hB⟩ : ∃ B, B = weatherB n S := ⟨_, rfl⟩
  have HRW := Lib.hid hrw
  have HGW := Lib.hid hgw
  have HLO := Lib.hid hlo
  have HFX := Lib.hid hfx
  have HA := Lib.hid hA
  have HBB := Lib.hid hB
  clear hB hA hfx hlo hgw hrw
  go_upto_region 5 with fail
  refine wp_region_leftL (fun V => Frm w3.heap.size [] w3 V) 1000 (by kernel_rfl) ?_
  have hS : Frm w3.heap.size [] w3 w3.drew := (Frm.refl _ _ w3).drew
  have HS := Lib.hid hS
  clear hS
  refine LeftL.take 0 rfl (by kernel_rfl) (fun _ _ d _ _ h => by cases d <;> exact h) (yields_loadE (ty := 25) rfl rfl rfl (HLO.out)) HS.out ?_; (intro K' hK'; go_simp; refine hK' _ ?_; clear hK' K')
  refine LeftL.take 2 rfl (by kernel_rfl) (fun _ _ d _ _ h => by cases d <;> exact h) (yields_loadE (ty := 25) rfl rfl rfl (HLO.out)) HS.out ?_; (intro K' hK'; go_simp; refine hK' _ ?_; clear hK' K')
  refine LeftL.one 1 rfl (by kernel_rfl) ?_
  go_wp2_with fail
  refine (checkUnit_any u s HNM.out _).mono ?_; rintro e w1 ⟨rfl, hf1⟩
  have hS1 := HS.out.call hf1 HS.out.size (by simp)
  clear hf1 HS
  have HS := Lib.hid hS1
  clear hS1
  rw [← HA.out]
  go_wp2_with fail
  first | refine ⟨fun _ => HS.out, ?_⟩ | refine ⟨HS.out, ?_⟩
  refine LeftL.one 3 rfl (by kernel_rfl) ?_
  go_wp2_with fail
  refine (refCheckUnit_any u s HNM.out _).mono ?_; rintro e w1 ⟨rfl, hf1⟩
  have hS1 := HS.out.call hf1 HS.out.size (by simp)
  clear hf1 HS
  have HS := Lib.hid hS1
  clear hS1
  rw [← HA.out]
  go_wp2_with fail
  first | refine ⟨fun _ => HS.out, ?_⟩ | refine ⟨HS.out, ?_⟩
  refine LeftL.run (v := ?_) 4 rfl (by kernel_rfl) rfl (fun _ _ d _ _ h => by cases d <;> exact h) ?_ HS.out ?_; rotate_left; (· intro V hV; obtain q0 := HFX.out V hV; clear hV; go_simp; rfl); (intro K' hK'; go_simp; refine hK' _ ?_; clear hK' K')
  refine LeftL.run (v := ?_) 5 rfl (by kernel_rfl) rfl (fun _ _ d _ _ h => by cases d <;> exact h) ?_ HS.out ?_; rotate_left; (· intro V hV; obtain q0 := HFX.out V hV; clear hV; go_simp; rfl); (intro K' hK'; go_simp; refine hK' _ ?_; clear hK' K')
  refine LeftL.runG (v := ?_) 6 rfl (by kernel_rfl) rfl (fun _ _ d _ _ h => by cases d <;> exact h) ?_ HS.out ?_; rotate_left; (· intro V hV; obtain q0 := HFX.out V hV; clear hV; go_simp; rfl); (intro K' hK'; go_simp; refine hK' _ ?_; clear hK' K')
  refine LeftL.runG (v := ?_) 8 rfl (by kernel_rfl) rfl (fun _ _ d _ _ h => by cases d <;> exact h) ?_ HS.out ?_; rotate_left; (· intro V hV; obtain q0 := HFX.out V hV; clear hV; go_simp; rfl); (intro K' hK'; go_simp; refine hK' _ ?_; clear hK' K')
  refine LeftL.one 7 rfl (by kernel_rfl) ?_
  go_wp2_with fail
  refine (weather_any ad b off n cap S _ (HRW.out.frm HS.out (Nat.le_refl _))).mono ?_; rintro e w1 ⟨rfl, hf1⟩
  have hS1 := HS.out.call hf1 HS.out.size (by simp)
  clear hf1 HS
  have HS := Lib.hid hS1
  clear hS1
  rw [← HBB.out]
  go_wp2_with fail
  first | refine ⟨fun _ => HS.out, ?_⟩ | refine ⟨HS.out, ?_⟩
  refine LeftL.one 9 rfl (by kernel_rfl) ?_
  go_wp2_with fail
  refine (refWeather_any ad b off n cap S _ (HRW.out.frm HS.out (Nat.le_refl _))).mono ?_; rintro e w1 ⟨rfl, hf1⟩
  have hS1 := HS.out.call hf1 HS.out.size (by simp)
  clear hf1 HS
  have HS := Lib.hid hS1
  clear hS1
  rw [← HBB.out]
  go_wp2_with fail
  first | refine ⟨fun _ => HS.out, ?_⟩ | refine ⟨HS.out, ?_⟩
  refine LeftL.runG (v := ?_) 10 rfl (by kernel_rfl) rfl (fun _ _ d _ _ h => by cases d <;> exact h) ?_ HS.out ?_; rotate_left; (· intro V hV; obtain q0 := HFX.out V hV; clear hV; go_simp; rfl); (intro K' hK'; go_simp; refine hK' _ ?_; clear hK' K')
  refine LeftL.run (v := ?_) 11 rfl (by kernel_rfl) rfl (fun _ _ d _ _ h => by cases d <;> exact h) ?_ HS.out ?_; rotate_left; (· intro V hV; obtain q0 := HFX.out V hV; clear hV; go_simp; rfl); (intro K' hK'; go_simp; refine hK' _ ?_; clear hK' K')
  refine LeftL.run (v := ?_) 12 rfl (by kernel_rfl) rfl (fun _ _ d _ _ h => by cases d <;> exact h) ?_ HS.out ?_; rotate_left; (· intro V hV; obtain q0 := HFX.out V hV; clear hV; go_simp; rfl); (intro K' hK'; go_simp; refine hK' _ ?_; clear hK' K')
  refine LeftL.runG (v := ?_) 13 rfl (by kernel_rfl) rfl (fun _ _ d _ _ h => by cases d <;> exact h) ?_ HS.out ?_; rotate_left; (· intro V hV; obtain q0 := HFX.out V hV; clear hV; go_simp; rfl); (intro K' hK'; go_simp; refine hK' _ ?_; clear hK' K')
  refine LeftL.runG (v := ?_) 14 rfl (by kernel_rfl) rfl (fun _ _ d _ _ h => by cases d <;> exact h) ?_ HS.out ?_; rotate_left; (· intro V hV; obtain q0 := HFX.out V hV; clear hV; go_simp; rfl); (intro K' hK'; go_simp; refine hK' _ ?_; clear hK' K')
  refine LeftL.runG (v := ?_) 15 rfl (by kernel_rfl) rfl (fun _ _ d _ _ h => by cases d <;> exact h) ?_ HS.out ?_; rotate_left; (· intro V hV; obtain q0 := HFX.out V hV; clear hV; go_simp; rfl); (intro K' hK'; go_simp; refine hK' _ ?_; clear hK' K')
  refine LeftL.run (v := ?_) 16 rfl (by kernel_rfl) rfl (fun _ _ d _ _ h => by cases d <;> exact h) ?_ HS.out ?_; rotate_left; (· intro V hV; obtain q0 := HFX.out V hV; clear hV; go_simp; rfl); (intro K' hK'; go_simp; refine hK' _ ?_; clear hK' K')
  refine LeftL.run (v := ?_) 17 rfl (by kernel_rfl) rfl (fun _ _ d _ _ h => by cases d <;> exact h) ?_ HS.out ?_; rotate_left; (· intro V hV; obtain q0 := HFX.out V hV; clear hV; go_simp; rfl); (intro K' hK'; go_simp; refine hK' _ ?_; clear hK' K')
  refine LeftL.runG (v := ?_) 18 rfl (by kernel_rfl) rfl (fun _ _ d _ _ h => by cases d <;> exact h) ?_ HS.out ?_; rotate_left; (· intro V hV; obtain q0 := HFX.out V hV; clear hV; go_simp; rfl); (intro K' hK'; go_simp; refine hK' _ ?_; clear hK' K')
  refine LeftL.runG (v := ?_) 19 rfl (by kernel_rfl) rfl (fun _ _ d _ _ h => by cases d <;> exact h) ?_ HS.out ?_; rotate_left; (· intro V hV; obtain q0 := HFX.out V hV; clear hV; go_simp; rfl); (intro K' hK'; go_simp; refine hK' _ ?_; clear hK' K')
  refine LeftL.runG (v := ?_) 20 rfl (by kernel_rfl) rfl (fun _ _ d _ _ h => by cases d <;> exact h) ?_ HS.out ?_; rotate_left; (· intro V hV; obtain q0 := HFX.out V hV; clear hV; go_simp; rfl); (intro K' hK'; go_simp; refine hK' _ ?_; clear hK' K')
  refine LeftL.run (v := ?_) 21 rfl (by kernel_rfl) rfl (fun _ _ d _ _ h => by cases d <;> exact h) ?_ HS.out ?_; rotate_left; (· intro V hV; obtain q0 := HFX.out V hV; clear hV; go_simp; rfl); (intro K' hK'; go_simp; refine hK' _ ?_; clear hK' K')
  refine LeftL.run (v := ?_) 22 rfl (by kernel_rfl) rfl (fun _ _ d _ _ h => by cases d <;> exact h) ?_ HS.out ?_; rotate_left; (· intro V hV; obtain q0 := HFX.out V hV; clear hV; go_simp; rfl); (intro K' hK'; go_simp; refine hK' _ ?_; clear hK' K')
  refine LeftL.one 23 rfl (by kernel_rfl) ?_
  go_wp2_with fail
  refine (awake_any _ (HGW.out.frm HS.out (Nat.le_refl _))).mono ?_; rintro e w1 ⟨rfl, hf1⟩
  have hS1 := HS.out.call hf1 HS.out.size (by simp)
  clear hf1 HS
  have HS := Lib.hid hS1
  clear hS1
  go_wp2_with fail
  first | refine ⟨fun _ => HS.out, ?_⟩ | refine ⟨HS.out, ?_⟩
  refine LeftL.run (v := ?_) 24 rfl (by kernel_rfl) rfl (fun _ _ d _ _ h => by cases d <;> exact h) ?_ HS.out ?_; rotate_left; (· intro V hV; obtain q0 := HFX.out V hV; clear hV; go_simp; rfl); (intro K' hK'; go_simp; refine hK' _ ?_; clear hK' K')
  refine LeftL.one 25 rfl (by kernel_rfl) ?_
  go_wp2_with fail
  first | refine ⟨fun _ => HS.out, ?_⟩ | refine ⟨HS.out, ?_⟩
  refine LeftL.done (by kernel_rfl) ?_
  go_wp2_with fail
  go_ret
  exact ⟨rfl, HX.out.2.call HS.out HX.out.2.size (by simp)⟩

set_option maxRecDepth 100000 in
theorem unitChecks_lifted (os : Os) (started : os.Started) (H : Type) (enc : TypeId × Value → H) :
    ReturnsInHanded {} Tryd.checked os 3 .any (fun w args => (Rows.unitChecksSpec.pre enc Tryd.prog Tryd.f3 [] false w args ∧ laidMetH Tryd.prog laidR w) ∧ sizedMet enc Tryd.prog Tryd.f3 (OpenSpec.ofChange Rows.unitChecksSpec) false w args) (Rows.unitChecksSpec.post enc Tryd.prog Tryd.f3 false true false false) := by
  refine law_liftL (fn := Tryd.f3) (s := Rows.unitChecksSpec) started 3 (by kernel_rfl) Tryd.func3
      (ChangeSpec.witness_shaped (enc := enc) (C := Tryd.checked) (os := os) (X := fun w _ => laidMetH Tryd.prog laidR w) false (World.doorLaid Tryd.prog 400 os)
        #[.agg #[.string ByteArray.empty, .int .i64 0, .int .i64 0, .int .i64 0, .int .i64 0, .int .i64 0, .int .i64 0, .int .i64 0, .int .i64 0, .int .i64 0, .int .i64 0, .int .i64 0], .slice none 0 0, .agg #[.int .i64 0, .int .i64 0, .int .i64 0, .int .i64 0]] 8 rfl
        (World.shaped_of_RefB (by kernel_rfl) (by kernel_rfl)) (by kernel_rfl) (by kernel_rfl) (by kernel_rfl) (door_met os _))
      (by rw [Tryd.params3]; decide +kernel) (by rw [Tryd.params3]; rfl) (by kernel_rfl) rfl (fun ds h => by match ds, h with | [d1, d2, d3], _ => rfl) ?_
  intro W base args ds ps hval hA hgl
  rw [Tryd.params3] at hA hval
  obtain ⟨v0, vs0, d0, ds0, p0, q0, hargs, rfl, rfl, h0, r0⟩ := trodAll_cons hA
  obtain ⟨v1, vs1, d1, ds1, p1, q1, rfl, rfl, rfl, h1, r1⟩ := trodAll_cons r0
  obtain ⟨v2, vs2, d2, ds2, p2, q2, rfl, rfl, rfl, h2, r2⟩ := trodAll_cons r1
  obtain ⟨rfl, rfl, rfl⟩ := trodAll_nil r2
  obtain rfl : args = #[v0, v1, v2] := by cases args; simp_all
  obtain ⟨u, s, rfl, hnm⟩ := open_unit (hval 0 25 v0 rfl rfl)
  obtain ⟨ad, len, cap, b, off, S, rfl, hr⟩ := open_sky (hval 1 26 v1 rfl rfl) h1
  obtain ⟨x0, y0, x1, y1, rfl⟩ := open_spots (hval 2 27 v2 rfl rfl)
  exact checks_walk u s hnm ad b off len cap S x0 y0 x1 y1 W hr hgl

theorem unitChecks_over : Rows.UnitChecksSaid :=
  OpenClaim.holds_of_wide 3 Tryd.f3 rfl rfl rfl rfl rfl rfl rfl ⟨rfl, rfl, rfl, rfl, rfl⟩ rfl rfl rfl rfl rfl (by kernel_rfl) Tryd.func3 (by kernel_rfl)
    (of_decide_eq_true (by kernel_rfl)) (by unfold Func.isWrapper; first | (rw [if_pos (by decide +kernel)]; kernel_rfl) | (rw [if_neg (by decide +kernel)]; exact ⟨rfl, rfl⟩))
    (fun os started H enc _ => unitChecks_lifted os started H enc)
end Go.Proofs.YtghkfopcjdkieaaDoor
