/-
  The plan of any unit is the document's, or why there is none.
-/
import Derived.Test.YtghkfopcjdkieaaDoorLawChecks
import Derived.Test.YtghkfopcjdkieaaDoorOpenT
namespace Go.Proofs.YtghkfopcjdkieaaDoor
set_option linter.all false
set_option linter.unusedSimpArgs false
set_option linter.unusedVariables false
open Go.ChangeShapes Go.WideShapes Go.ChangeAt Go.RowKit

/-- What 'Plan' says: none: a plan; else: the number, why, and the error. -/
def planO (u : UC) (s : ByteArray) (start : Int) (n : Nat) (S : Nat → FC) (rn : Nat) (R : Nat → WC) : Option (Int × Int × Int) :=
  if planIn u s start n S rn R = false then some (-1, 0, 2) else if 30 < rn then some (-1, 0, 3)
  else match (List.range rn).find? fun i => decide (ysq u n S start R (startG u start) i ≠ 0) with
    | none => none
    | some i => some (i, ysq u n S start R (startG u start) i, 9)
/-- The legs of a plan. -/
def planL (u : UC) (R : Nat → WC) (g : GC) (rn : Nat) (i : Nat) : LC := if i < rn then lsq u R g i else homeLeg u (gsq u R g rn)
theorem planL_cells (u : UC) (R : Nat → WC) (g : GC) (rn : Nat) : legsC u R g rn ++ (homeLeg u (gsq u R g rn)).cells = (List.range (rn + 1)).flatMap fun i => (planL u R g rn i).cells := by
  rw [List.range_succ, List.flatMap_append]
  congr 1
  · unfold legsC
    rw [List.flatMap_def, List.flatMap_def]
    congr 1
    apply List.map_congr_left
    intro i hi
    unfold planL
    rw [if_pos (by simpa using hi)]
  · simp [planL]
/-- What holds behind 'Plan', by what it says. -/
def PlanIs (u : UC) (start : Int) (rn : Nat) (R : Nat → WC) (o : Option (Int × Int × Int)) (w w' : World) (e : Ending) : Prop :=
  Frm w.heap.size [] w w' ∧ match o with
    | some (i, y, z) => e = .returned (.tuple #[.slice none 0 0, .int .i64 i, .int .i64 y, .int .i64 z])
    | none => ∃ ov own, e = .returned (.tuple #[ov, .int .i64 (-1), .int .i64 0, .int .i64 0]) ∧ Sl w' 49 8 ov (rn + 1) ((List.range (rn + 1)).flatMap fun i => (planL u R (startG u start) rn i).cells) own ∧ (∀ b, own = some b → w.heap.size ≤ b)
theorem planIs_of {u : UC} {s : ByteArray} {start : Int} {n : Nat} {S : Nat → FC} {rn : Nat} {R : Nat → WC} {w w' : World} {e : Ending} (h : PlanRes u s start n S rn R w w' e) : PlanIs u start rn R (planO u s start n S rn R) w w' e := by
  refine ⟨h.1, ?_⟩
  rcases h.2 with ⟨h1, h2⟩ | ⟨h1, h2, h3⟩ | ⟨h1, h2, h3, ov, own, h4, h5, h6⟩ | ⟨h1, h2, i, h3, h4, h5, h6⟩
  · have : planO u s start n S rn R = some (-1, 0, 2) := by unfold planO; rw [if_pos h1]
    rw [this]; exact h2
  · have : planO u s start n S rn R = some (-1, 0, 3) := by unfold planO; rw [if_neg (by rw [h1]; simp), if_pos h2]
    rw [this]; exact h3
  · have hf : ((List.range rn).find? fun i => decide (ysq u n S start R (startG u start) i ≠ 0)) = none := by
      rw [List.find?_eq_none]
      intro i hi
      simp [h3 i (by simpa using hi)]
    have : planO u s start n S rn R = none := by unfold planO; rw [if_neg (by rw [h1]; simp), if_neg (by omega), hf]
    rw [this]
    exact ⟨ov, own, h4, by rw [← planL_cells]; exact h5, h6⟩
  · have hf : ((List.range rn).find? fun i => decide (ysq u n S start R (startG u start) i ≠ 0)) = some i := by
      rw [List.find?_range_eq_some]
      refine ⟨by simpa using h5, by simpa using h3, fun j hj => ?_⟩
      simp [h4 j hj]
    have : planO u s start n S rn R = some ((i : Int), ysq u n S start R (startG u start) i, 9) := by unfold planO; rw [if_neg (by rw [h1]; simp), if_neg (by omega), hf]
    rw [this]; exact h6
theorem load_task {w : World} {b : Nat} {start : Int} {ra : Option Addr} {rn rcap : Nat} {sa : Option Addr} {n cap : Nat} (h : Blk w b 37 (taskC start ra rn rcap sa n cap)) : (loadVar 37 ⟨b, 0, none⟩).run Tryd.prog w = .ok (.agg (taskC start ra rn rcap sa n cap).toArray) w :=
  loadVarB h Tryd.underlying37 rfl info37

set_option maxRecDepth 100000 in
set_option maxHeartbeats 4000000 in
theorem plans_walk (u : UC) (s : ByteArray) (hnm : u.name = .string s) (start : Int) (ra : Option Addr) (rb roff rn rcap : Nat) (R : Nat → WC) (sa : Option Addr) (sb soff n cap : Nat) (S : Nat → FC) (w : World)
    (hrr : Rw w 3 ra rb roff rn fun i => (R i).cells) (hr : Rw w 8 sa sb soff n fun i => (S i).cells) (hgl : Glob w) :
    Calls Tryd.prog 4 #[.agg u.cells.toArray, .agg (taskC start ra rn rcap sa n cap).toArray] w fun e w' => e = .returned (.bool true) ∧ Frm w.heap.size [] w w' := by
  have hf0 := Tryd.func4
  have HR := Lib.hid hr
  have HRR := Lib.hid hrr
  have HGL := Lib.hid hgl
  have HNM := Lib.hid hnm
  clear hnm hgl hrr hr
  go_enter Tryd.func4, Tryd.ntmps4
  go_upto_region 1 with fail
  refine namedC ?_; intro W hW
  have hb : Blk W w.heap.size 25 u.cells := by rw [hW]; exact (Blk.new w 25 u.cells).alloc _
  have hb3 : Blk W (w.heap.size + 1) 37 (taskC start ra rn rcap sa n cap) := by rw [hW]; exact Blk.new' _ 37 _ (by simp)
  have hf : Frm w.heap.size [] w W := by rw [hW]; repeat (first | with_reducible exact Frm.refl _ _ _ | with_reducible refine Frm.drewN ?_ | with_reducible refine Frm.drew ?_ | ((with_reducible refine Frm.setCell' ?_ ?_); · first | (left; simp; done) | (right; simp; done) | (right; simp; omega)) | ((with_reducible refine Frm.alloc' ?_ ?_); · first | exact Nat.le_refl _ | (simp; done) | (simp; omega)))
  clear hW hf0
  have HX := Lib.hid (And.intro hb hf)
  clear hb hf
  have hsi := UC.info u
  have HSI := Lib.hid hsi
  have HB3 := Lib.hid hb3
  clear hb3 hsi
  by_cases hg : 100 < s.size
  · have hgd : decide (100 < s.size) = true := by simp [hg]
    have HGD := Lib.hid hgd
    clear hgd
    go_wp2_with (first | (with_reducible refine atLoad 25 rfl ?_; refine wpList_loadB (ty := 25) rfl rfl HX.out.1 rfl Tryd.underlying25 rfl HSI.out ?_) | (with_reducible refine atLoad 37 rfl ?_; refine wpList_loadGE rfl rfl rfl (load_task HB3.out) ?_) | (go_at_call 15; refine (great_any u s HNM.out _).mono ?_; rintro e w1 ⟨rfl, hf1⟩; rw [HGD.out]; replace HX := Lib.hid (boxNext HX.out hf1); replace HB3 := Lib.hid (hf1.blk HB3.out HB3.out.lt (by simp)); clear hf1) | (go_at_call 23; refine (large_any start ra rn rcap sa n cap _).mono ?_; rintro e w2 ⟨rfl, hf1⟩; rw [HLD.out]; replace HX := Lib.hid (boxNext HX.out hf1); replace HB3 := Lib.hid (hf1.blk HB3.out HB3.out.lt (by simp)); clear hf1) | (go_at_call 16; refine (awake_any _ (HGL.out.frm HX.out.2 (Nat.le_refl _))).mono ?_; rintro e w1 ⟨rfl, hf1⟩; replace HX := Lib.hid (boxNext HX.out hf1); clear hf1))
    go_ret
    exact ⟨rfl, HX.out.2⟩
  have hgd : decide (100 < s.size) = false := by simp [hg]
  have HGD := Lib.hid hgd
  clear hgd
  by_cases hl : (decide (40 < rn) || decide (110 < n)) = true
  · have hld := hl
    clear hl
    have HLD := Lib.hid hld
    clear hld
    go_wp2_with (first | (with_reducible refine atLoad 25 rfl ?_; refine wpList_loadB (ty := 25) rfl rfl HX.out.1 rfl Tryd.underlying25 rfl HSI.out ?_) | (with_reducible refine atLoad 37 rfl ?_; refine wpList_loadGE rfl rfl rfl (load_task HB3.out) ?_) | (go_at_call 15; refine (great_any u s HNM.out _).mono ?_; rintro e w1 ⟨rfl, hf1⟩; rw [HGD.out]; replace HX := Lib.hid (boxNext HX.out hf1); replace HB3 := Lib.hid (hf1.blk HB3.out HB3.out.lt (by simp)); clear hf1) | (go_at_call 23; refine (large_any start ra rn rcap sa n cap _).mono ?_; rintro e w2 ⟨rfl, hf1⟩; rw [HLD.out]; replace HX := Lib.hid (boxNext HX.out hf1); replace HB3 := Lib.hid (hf1.blk HB3.out HB3.out.lt (by simp)); clear hf1) | (go_at_call 16; refine (awake_any _ (HGL.out.frm HX.out.2 (Nat.le_refl _))).mono ?_; rintro e w1 ⟨rfl, hf1⟩; replace HX := Lib.hid (boxNext HX.out hf1); clear hf1))
    go_ret
    exact ⟨rfl, HX.out.2⟩
  have hld : (decide (40 < rn) || decide (110 < n)) = false := by simpa using hl
  clear hl
  have HLD := Lib.hid hld
  clear hld
  go_upto_region 3 with (first | (with_reducible refine atLoad 25 rfl ?_; refine wpList_loadB (ty := 25) rfl rfl HX.out.1 rfl Tryd.underlying25 rfl HSI.out ?_) | (with_reducible refine atLoad 37 rfl ?_; refine wpList_loadGE rfl rfl rfl (load_task HB3.out) ?_) | (go_at_call 15; refine (great_any u s HNM.out _).mono ?_; rintro e w1 ⟨rfl, hf1⟩; rw [HGD.out]; replace HX := Lib.hid (boxNext HX.out hf1); replace HB3 := Lib.hid (hf1.blk HB3.out HB3.out.lt (by simp)); clear hf1) | (go_at_call 23; refine (large_any start ra rn rcap sa n cap _).mono ?_; rintro e w2 ⟨rfl, hf1⟩; rw [HLD.out]; replace HX := Lib.hid (boxNext HX.out hf1); replace HB3 := Lib.hid (hf1.blk HB3.out HB3.out.lt (by simp)); clear hf1) | (go_at_call 16; refine (awake_any _ (HGL.out.frm HX.out.2 (Nat.le_refl _))).mono ?_; rintro e w1 ⟨rfl, hf1⟩; replace HX := Lib.hid (boxNext HX.out hf1); clear hf1))
  obtain ⟨o, ho⟩ : ∃ o, o = planO u s start n S rn R := ⟨_, rfl⟩
  have a0 : w2.cell? ⟨w.heap.size + 1, 0, none⟩ = some (.int .i64 start) := HB3.out.cell 0
  have a1 : w2.cell? ⟨w.heap.size + 1, 1, none⟩ = some (.slice ra rn rcap) := HB3.out.cell 1
  have a2 : w2.cell? ⟨w.heap.size + 1, 2, none⟩ = some (.slice sa n cap) := HB3.out.cell 2
  have HO := Lib.hid ho
  clear ho
  go_wp2_with (with_reducible refine atLoad 25 rfl ?_; refine wpList_loadB (ty := 25) rfl rfl HX.out.1 rfl Tryd.underlying25 rfl HSI.out ?_)
  refine (Plan_any u s HNM.out start sa sb soff n cap S ra rb roff rn rcap R _ (HR.out.frm HX.out.2 (Nat.le_refl _)) (HRR.out.frm HX.out.2 (Nat.le_refl _)) (HGL.out.frm HX.out.2 (Nat.le_refl _))).mono ?_
  intro e w3 hp1
  have hp1 := planIs_of hp1
  rw [← HO.out] at hp1
  obtain ⟨hf3, hp1⟩ := hp1
  clear a0 a1 a2
  replace HX := Lib.hid (boxNext HX.out hf3)
  replace HB3 := Lib.hid (hf3.blk HB3.out HB3.out.lt (by simp))
  clear hf3
  cases o with
  | some iyz =>
    obtain ⟨i, y, z⟩ := iyz
    dsimp only at hp1
    subst hp1
    have a0 : w3.cell? ⟨w.heap.size + 1, 0, none⟩ = some (.int .i64 start) := HB3.out.cell 0
    have a1 : w3.cell? ⟨w.heap.size + 1, 1, none⟩ = some (.slice ra rn rcap) := HB3.out.cell 1
    have a2 : w3.cell? ⟨w.heap.size + 1, 2, none⟩ = some (.slice sa n cap) := HB3.out.cell 2
    go_wp2_with (with_reducible refine atLoad 25 rfl ?_; refine wpList_loadB (ty := 25) rfl rfl HX.out.1 rfl Tryd.underlying25 rfl HSI.out ?_)
    refine (refPlan_any u s HNM.out start sa sb soff n cap S ra rb roff rn rcap R _ (HR.out.frm HX.out.2 (Nat.le_refl _)) (HRR.out.frm HX.out.2 (Nat.le_refl _))).mono ?_
    intro e w4 hp2
    have hp2 := planIs_of hp2
    rw [← HO.out] at hp2
    obtain ⟨hf4, hp2⟩ := hp2
    clear a0 a1 a2
    dsimp only at hp2
    subst hp2
    replace HX := Lib.hid (boxNext HX.out hf4)
    clear hf4
    go_wp2_with (first | (go_at_call 26; refine (sameLegs_any none 0 0 0 0 (fun _ => ⟨0, 0, 0, 0, 0, 0, 0, 0⟩) none 0 0 0 0 (fun _ => ⟨0, 0, 0, 0, 0, 0, 0, 0⟩) _ ⟨fun h => absurd h (by omega), Nat.zero_le _, fun i hi => absurd hi (by omega)⟩ ⟨fun h => absurd h (by omega), Nat.zero_le _, fun i hi => absurd hi (by omega)⟩ rfl (fun i hi => absurd hi (by omega))).mono ?_; rintro e w5 ⟨rfl, hf1⟩; replace HX := Lib.hid (boxNext HX.out hf1); clear hf1) | (go_at_call 16; refine (awake_any _ (HGL.out.frm HX.out.2 (Nat.le_refl _))).mono ?_; rintro e w6 ⟨rfl, hf1⟩; replace HX := Lib.hid (boxNext HX.out hf1); clear hf1))
    go_ret
    exact ⟨rfl, HX.out.2⟩
  | none =>
    dsimp only at hp1
    obtain ⟨ov, own, rfl, hsl, hown⟩ := hp1
    obtain ⟨oa, ob, oo, ocap, rfl, hrw⟩ := hsl.rw (fun i => rfl)
    clear hsl hown
    have HRW := Lib.hid hrw
    clear hrw
    have a0 : w3.cell? ⟨w.heap.size + 1, 0, none⟩ = some (.int .i64 start) := HB3.out.cell 0
    have a1 : w3.cell? ⟨w.heap.size + 1, 1, none⟩ = some (.slice ra rn rcap) := HB3.out.cell 1
    have a2 : w3.cell? ⟨w.heap.size + 1, 2, none⟩ = some (.slice sa n cap) := HB3.out.cell 2
    go_wp2_with (with_reducible refine atLoad 25 rfl ?_; refine wpList_loadB (ty := 25) rfl rfl HX.out.1 rfl Tryd.underlying25 rfl HSI.out ?_)
    refine (refPlan_any u s HNM.out start sa sb soff n cap S ra rb roff rn rcap R _ (HR.out.frm HX.out.2 (Nat.le_refl _)) (HRR.out.frm HX.out.2 (Nat.le_refl _))).mono ?_
    intro e w4 hp2
    have hp2 := planIs_of hp2
    rw [← HO.out] at hp2
    obtain ⟨hf4, hp2⟩ := hp2
    clear a0 a1 a2
    dsimp only at hp2
    obtain ⟨ov2, own2, rfl, hsl2, hown2⟩ := hp2
    obtain ⟨oa2, ob2, oo2, ocap2, rfl, hrw2⟩ := hsl2.rw (fun i => rfl)
    have hrw := HRW.out.frm hf4 (Nat.le_refl _)
    clear hsl2 hown2 HRW
    replace HX := Lib.hid (boxNext HX.out hf4)
    clear hf4
    have HRW := Lib.hid hrw
    have HRW2 := Lib.hid hrw2
    clear hrw2 hrw
    go_wp2_with (first | (go_at_call 26; refine (sameLegs_any oa ob oo (rn + 1) ocap (planL u R (startG u start) rn) oa2 ob2 oo2 (rn + 1) ocap2 (planL u R (startG u start) rn) _ HRW.out HRW2.out rfl (fun i hi => rfl)).mono ?_; rintro e w5 ⟨rfl, hf1⟩; replace HX := Lib.hid (boxNext HX.out hf1); clear hf1) | (go_at_call 16; refine (awake_any _ (HGL.out.frm HX.out.2 (Nat.le_refl _))).mono ?_; rintro e w6 ⟨rfl, hf1⟩; replace HX := Lib.hid (boxNext HX.out hf1); clear hf1))
    go_ret
    exact ⟨rfl, HX.out.2⟩

set_option maxRecDepth 100000 in
theorem unitPlans_lifted (os : Os) (started : os.Started) (H : Type) (enc : TypeId × Value → H) :
    ReturnsInHanded {} Tryd.checked os 4 .any (fun w args => (Rows.unitPlansSpec.pre enc Tryd.prog Tryd.f4 [] false w args ∧ laidMetH Tryd.prog laidR w) ∧ sizedMet enc Tryd.prog Tryd.f4 (OpenSpec.ofChange Rows.unitPlansSpec) false w args) (Rows.unitPlansSpec.post enc Tryd.prog Tryd.f4 false true false false) := by
  refine law_liftL (fn := Tryd.f4) (s := Rows.unitPlansSpec) started 2 (by kernel_rfl) Tryd.func4
      (ChangeSpec.witness_shaped (enc := enc) (C := Tryd.checked) (os := os) (X := fun w _ => laidMetH Tryd.prog laidR w) false (World.doorLaid Tryd.prog 400 os)
        #[.agg #[.string ByteArray.empty, .int .i64 0, .int .i64 0, .int .i64 0, .int .i64 0, .int .i64 0, .int .i64 0, .int .i64 0, .int .i64 0, .int .i64 0, .int .i64 0, .int .i64 0], .agg #[.int .i64 0, .slice none 0 0, .slice none 0 0]] 8 rfl
        (World.shaped_of_RefB (by kernel_rfl) (by kernel_rfl)) (by kernel_rfl) (by kernel_rfl) (by kernel_rfl) (door_met os _))
      (by rw [Tryd.params4]; decide +kernel) (by rw [Tryd.params4]; rfl) (by kernel_rfl) rfl (fun ds h => by match ds, h with | [d1, d2], _ => rfl) ?_
  intro W base args ds ps hval hA hgl
  rw [Tryd.params4] at hA hval
  obtain ⟨v0, vs0, d0, ds0, p0, q0, hargs, rfl, rfl, h0, r0⟩ := trodAll_cons hA
  obtain ⟨v1, vs1, d1, ds1, p1, q1, rfl, rfl, rfl, h1, r1⟩ := trodAll_cons r0
  obtain ⟨rfl, rfl, rfl⟩ := trodAll_nil r1
  obtain rfl : args = #[v0, v1] := by cases args; simp_all
  obtain ⟨u, s, rfl, hnm⟩ := open_unit (hval 0 25 v0 rfl rfl)
  obtain ⟨start, ra, rb, roff, rn, rcap, R, sa, sb, soff, n, cap, S, rfl, hrr, hr⟩ := open_task (hval 1 37 v1 rfl rfl) h1
  exact plans_walk u s hnm start ra rb roff rn rcap R sa sb soff n cap S W hrr hr hgl

theorem unitPlans_over : Rows.UnitPlansSaid :=
  OpenClaim.holds_of_wide 4 Tryd.f4 rfl rfl rfl rfl rfl rfl rfl ⟨rfl, rfl, rfl, rfl, rfl⟩ rfl rfl rfl rfl rfl (by kernel_rfl) Tryd.func4 (by kernel_rfl)
    (of_decide_eq_true (by kernel_rfl)) (by unfold Func.isWrapper; first | (rw [if_pos (by decide +kernel)]; kernel_rfl) | (rw [if_neg (by decide +kernel)]; exact ⟨rfl, rfl⟩))
    (fun os started H enc _ => unitPlans_lifted os started H enc)
end Go.Proofs.YtghkfopcjdkieaaDoor
