/-
  Nothing that is given is changed, and what is returned is new: the row.
-/
import Derived.Test.YtghkfopcjdkieaaDoorLawChecks
import Derived.Test.YtghkfopcjdkieaaDoorOpenT
import Derived.Test.YtghkfopcjdkieaaDoorS11
import Derived.Test.YtghkfopcjdkieaaDoorR7
namespace Go.Proofs.YtghkfopcjdkieaaDoor
set_option linter.all false
set_option linter.unusedSimpArgs false
set_option linter.unusedVariables false
open Go.ChangeShapes Go.WideShapes Go.ChangeAt Go.RowKit

/-- What 'Plan' says: none: a plan; else: the number, why, and the error. -/
def planO (u : UC) (s : ByteArray) (start : Int) (n : Nat) (S : Nat → FC) (rn : Nat) (R : Nat → WC) : Option (Int × Int × Int) :=
  if planIn u s start n S rn R = false then some (-1, 0, 2) else if 30 < rn then some (-1, 0, 3)
  else match (List.range rn).find? fun i => decide (ysq u n S start R (startG u start) i ≠ 0) with
    | none => none
    | some i => some (i, ysq u n S start R (startG u start) i, 9)
/-- The legs of a plan. -/
def planL (u : UC) (R : Nat → WC) (g : GC) (rn : Nat) (i : Nat) : LC := if i < rn then lsq u R g i else homeLeg u (gsq u R g rn)
theorem planL_cells (u : UC) (R : Nat → WC) (g : GC) (rn : Nat) : legsC u R g rn ++ (homeLeg u (gsq u R g rn)).cells = (List.range (rn + 1)).flatMap fun i => (planL u R g rn i).cells := by
  rw [List.range_succ, List.flatMap_append]
  congr 1
  · unfold legsC
    rw [List.flatMap_def, List.flatMap_def]
    congr 1
    apply List.map_congr_left
    intro i hi
    unfold planL
    rw [if_pos (by simpa using hi)]
  · simp [planL]
/-- What holds behind 'Plan', by what it says. -/
def PlanIs (u : UC) (start : Int) (rn : Nat) (R : Nat → WC) (o : Option (Int × Int × Int)) (w w' : World) (e : Ending) : Prop :=
  Frm w.heap.size [] w w' ∧ match o with
    | some (i, y, z) => e = .returned (.tuple #[.slice none 0 0, .int .i64 i, .int .i64 y, .int .i64 z])
    | none => ∃ ov own, e = .returned (.tuple #[ov, .int .i64 (-1), .int .i64 0, .int .i64 0]) ∧ Sl w' 49 8 ov (rn + 1) ((List.range (rn + 1)).flatMap fun i => (planL u R (startG u start) rn i).cells) own ∧ (∀ b, own = some b → w.heap.size ≤ b)
theorem planIs_of {u : UC} {s : ByteArray} {start : Int} {n : Nat} {S : Nat → FC} {rn : Nat} {R : Nat → WC} {w w' : World} {e : Ending} (h : PlanRes u s start n S rn R w w' e) : PlanIs u start rn R (planO u s start n S rn R) w w' e := by
  refine ⟨h.1, ?_⟩
  rcases h.2 with ⟨h1, h2⟩ | ⟨h1, h2, h3⟩ | ⟨h1, h2, h3, ov, own, h4, h5, h6⟩ | ⟨h1, h2, i, h3, h4, h5, h6⟩
  · have : planO u s start n S rn R = some (-1, 0, 2) := by unfold planO; rw [if_pos h1]
    rw [this]; exact h2
  · have : planO u s start n S rn R = some (-1, 0, 3) := by unfold planO; rw [if_neg (by rw [h1]; simp), if_pos h2]
    rw [this]; exact h3
  · have hf : ((List.range rn).find? fun i => decide (ysq u n S start R (startG u start) i ≠ 0)) = none := by
      rw [List.find?_eq_none]
      intro i hi
      simp [h3 i (by simpa using hi)]
    have : planO u s start n S rn R = none := by unfold planO; rw [if_neg (by rw [h1]; simp), if_neg (by omega), hf]
    rw [this]
    exact ⟨ov, own, h4, by rw [← planL_cells]; exact h5, h6⟩
  · have hf : ((List.range rn).find? fun i => decide (ysq u n S start R (startG u start) i ≠ 0)) = some i := by
      rw [List.find?_range_eq_some]
      refine ⟨by simpa using h5, by simpa using h3, fun j hj => ?_⟩
      simp [h4 j hj]
    have : planO u s start n S rn R = some ((i : Int), ysq u n S start R (startG u start) i, 9) := by unfold planO; rw [if_neg (by rw [h1]; simp), if_neg (by omega), hf]
    rw [this]; exact h6
theorem load_task {w : World} {b : Nat} {start : Int} {ra : Option Addr} {rn rcap : Nat} {sa : Option Addr} {n cap : Nat} (h : Blk w b 37 (taskC start ra rn rcap sa n cap)) : (loadVar 37 ⟨b, 0, none⟩).run Tryd.prog w = .ok (.agg (taskC start ra rn rcap sa n cap).toArray) w :=
  loadVarB h Tryd.underlying37 rfl info37

set_option maxRecDepth 100000 in
set_option maxHeartbeats 4000000 in
theorem plans_walk (u : UC) (s : ByteArray) (hnm : u.name = .string s) (start : Int) (ra : Option Addr) (rb roff rn rcap : Nat) (R : Nat → WC) (sa : Option Addr) (sb soff n cap : Nat) (S : Nat → FC) (w : World)
    (hrr : Rw w 3 ra rb roff rn fun i => (R i).cells) (hr : Rw w 8 sa sb soff n fun i => (S i).cells) (hgl : Glob w) :
    Calls Tryd.prog 4 #[.agg u.cells.toArray, .agg (taskC start ra rn rcap sa n cap).toArray] w fun e w' => e = .returned (.bool true) ∧ Frm w.heap.size [] w w' := by
  have hf0 := Tryd.func4
  have HR := Lib.hid hr
  have HRR := Lib.hid hrr
  have HGL := Lib.hid hgl
  have HNM := Lib.hid hnm
  clear hnm hgl hrr hr
  go_enter Tryd.func4, Tryd.ntmps4
  go_upto_region 1 with fail
  refine namedC ?_; intro W hW
  have hb : Blk W w.heap.size 25 u.cells := by rw [hW]; exact (Blk.new w 25 u.cells).alloc _
  have hb3 : Blk W (w.heap.size + 1) 37 (taskC start ra rn rcap sa n cap) := by rw [hW]; exact Blk.new' _ 37 _ (by simp)
  have hf : Frm w.heap.size [] w W := by rw [hW]; repeat (first | with_reducible exact Frm.refl _ _ _ | with_reducible refine Frm.drewN ?_ | with_reducible refine Frm.drew ?_ | ((with_reducible refine Frm.setCell' ?_ ?_); · first | (left; simp; done) | (right; simp; done) | (right; simp; omega)) | ((with_reducible refine Frm.alloc' ?_ ?_); · first | exact Nat.le_refl _ | (simp; done) | (simp; omega)))
  clear hW hf0
  have HX := Lib.hid (And.intro hb hf)
  clear hb hf
  have hsi := UC.info u
  have HSI := Lib.hid hsi
  have HB3 := Lib.hid hb3
  clear hb3 hsi
  by_cases hg : 100 < s.size
  · have hgd : decide (100 < s.size) = true := by simp [hg]
    have HGD := Lib.hid hgd
    clear hgd
    go_wp2_with (first | (with_reducible refine atLoad 25 rfl ?_; refine wpList_loadB (ty := 25) rfl rfl HX.out.1 rfl Tryd.underlying25 rfl HSI.out ?_) | (with_reducible refine atLoad 37 rfl ?_; refine wpList_loadGE rfl rfl rfl (load_task HB3.out) ?_) | (go_at_call 15; refine (great_any u s HNM.out _).mono ?_; rintro e w1 ⟨rfl, hf1⟩; rw [HGD.out]; replace HX := Lib.hid (boxNext HX.out hf1); replace HB3 := Lib.hid (hf1.blk HB3.out HB3.out.lt (by simp)); clear hf1) | (go_at_call 23; refine (large_any start ra rn rcap sa n cap _).mono ?_; rintro e w2 ⟨rfl, hf1⟩; rw [HLD.out]; replace HX := Lib.hid (boxNext HX.out hf1); replace HB3 := Lib.hid (hf1.blk HB3.out HB3.out.lt (by simp)); clear hf1) | (go_at_call 16; refine (awake_any _ (HGL.out.frm HX.out.2 (Nat.le_refl _))).mono ?_; rintro e w1 ⟨rfl, hf1⟩; replace HX := Lib.hid (boxNext HX.out hf1); clear hf1))
    go_ret
    exact ⟨rfl, HX.out.2⟩
  have hgd : decide (100 < s.size) = false := by simp [hg]
  have HGD := Lib.hid hgd
  clear hgd
  by_cases hl : (decide (40 < rn) || decide (110 < n)) = true
  · have hld := hl
    clear hl
    have HLD := Lib.hid hld
    clear hld
    go_wp2_with (first | (with_reducible refine atLoad 25 rfl ?_; refine wpList_loadB (ty := 25) rfl rfl HX.out.1 rfl Tryd.underlying25 rfl HSI.out ?_) | (with_reducible refine atLoad 37 rfl ?_; refine wpList_loadGE rfl rfl rfl (load_task HB3.out) ?_) | (go_at_call 15; refine (great_any u s HNM.out _).mono ?_; rintro e w1 ⟨rfl, hf1⟩; rw [HGD.out]; replace HX := Lib.hid (boxNext HX.out hf1); replace HB3 := Lib.hid (hf1.blk HB3.out HB3.out.lt (by simp)); clear hf1) | (go_at_call 23; refine (large_any start ra rn rcap sa n cap _).mono ?_; rintro e w2 ⟨rfl, hf1⟩; rw [HLD.out]; replace HX := Lib.hid (boxNext HX.out hf1); replace HB3 := Lib.hid (hf1.blk HB3.out HB3.out.lt (by simp)); clear hf1) | (go_at_call 16; refine (awake_any _ (HGL.out.frm HX.out.2 (Nat.le_refl _))).mono ?_; rintro e w1 ⟨rfl, hf1⟩; replace HX := Lib.hid (boxNext HX.out hf1); clear hf1))
    go_ret
    exact ⟨rfl, HX.out.2⟩
  have hld : (decide (40 < rn) || decide (110 < n)) = false := by simpa using hl
  clear hl
  have HLD := Lib.hid hld
  clear hld
  go_upto_region 3 with (first | (with_reducible refine atLoad 25 rfl ?_; refine wpList_loadB (ty := 25) rfl rfl HX.out.1 rfl Tryd.underlying25 rfl HSI.out ?_) | (with_reducible refine atLoad 37 rfl ?_; refine wpList_loadGE rfl rfl rfl (load_task HB3.out) ?_) | (go_at_call 15; refine (great_any u s HNM.out _).mono ?_; rintro e w1 ⟨rfl, hf1⟩; rw [HGD.out]; replace HX := Lib.hid (boxNext HX.out hf1); replace HB3 := Lib.hid (hf1.blk HB3.out HB3.out.lt (by simp)); clear hf1) | (go_at_call 23; refine (large_any start ra rn rcap sa n cap _).mono ?_; rintro e w2 ⟨rfl, hf1⟩; rw [HLD.out]; replace HX := Lib.hid (boxNext HX.out hf1); replace HB3 := Lib.hid (hf1.blk HB3.out HB3.out.lt (by simp)); clear hf1) | (go_at_call 16; refine (awake_any _ (HGL.out.frm HX.out.2 (Nat.le_refl _))).mono ?_; rintro e w1 ⟨rfl, hf1⟩; replace HX := Lib.hid (boxNext HX.out hf1); clear hf1))
  obtain ⟨o, ho⟩ : ∃ o, o = planO u s start n S rn R := ⟨_, rfl⟩
  have a0 : w2.cell? ⟨w.heap.size + 1, 0, none⟩ = some (.int .i64 start) := HB3.out.cell 0
  have a1 : w2.cell? ⟨w.heap.size + 1, 1, none⟩ = some (.slice ra rn rcap) := HB3.out.cell 1
  have a2 : w2.cell? ⟨w.heap.size + 1, 2, none⟩ = some (.slice sa n cap) := HB3.out.cell 2
  have HO := Lib.hid ho
  clear ho
  go_wp2_with (with_reducible refine atLoad 25 rfl ?_; refine wpList_loadB (ty := 25) rfl rfl HX.out.1 rfl Tryd.underlying25 rfl HSI.out ?_)
  refine (Plan_any u s HNM.out start sa sb soff n cap S ra rb roff rn rcap R _ (HR.out.frm HX.out.2 (Nat.le_refl _)) (HRR.out.frm HX.out.2 (Nat.le_refl _)) (HGL.out.frm HX.out.2 (Nat.le_refl _))).mono ?_
  intro e w3 hp1
  have hp1 := planIs_of hp1
  rw [← HO.out] at hp1
  obtain ⟨hf3, hp1⟩ := hp1
  clear a0 a1 a2
  replace HX := Lib.hid (boxNext HX.out hf3)
  replace HB3 := Lib.hid (hf3.blk HB3.out HB3.out.lt (by simp))
  clear hf3
  cases o with
  | some iyz =>
    obtain ⟨i, y, z⟩ := iyz
    dsimp only at hp1
    subst hp1
    have a0 : w3.cell? ⟨w.heap.size + 1, 0, none⟩ = some (.int .i64 start) := HB3.out.cell 0
    have a1 : w3.cell? ⟨w.heap.size + 1, 1, none⟩ = some (.slice ra rn rcap) := HB3.out.cell 1
    have a2 : w3.cell? ⟨w.heap.size + 1, 2, none⟩ = some (.slice sa n cap) := HB3.out.cell 2
    go_wp2_with (with_reducible refine atLoad 25 rfl ?_; refine wpList_loadB (ty := 25) rfl rfl HX.out.1 rfl Tryd.underlying25 rfl HSI.out ?_)
    refine (refPlan_any u s HNM.out start sa sb soff n cap S ra rb roff rn rcap R _ (HR.out.frm HX.out.2 (Nat.le_refl _)) (HRR.out.frm HX.out.2 (Nat.le_refl _))).mono ?_
    intro e w4 hp2
    have hp2 := planIs_of hp2
    rw [← HO.out] at hp2
    obtain ⟨hf4, hp2⟩ := hp2
    clear a0 a1 a2
    dsimp only at hp2
    subst hp2
    replace HX := Lib.hid (boxNext HX.out hf4)
    clear hf4
    go_wp2_with (first | (go_at_call 26; refine (sameLegs_any none 0 0 0 0 (fun _ => ⟨0, 0, 0, 0, 0, 0, 0, 0⟩) none 0 0 0 0 (fun _ => ⟨0, 0, 0, 0, 0, 0, 0, 0⟩) _ ⟨fun h => absurd h (by omega), Nat.zero_le _, fun i hi => absurd hi (by omega)⟩ ⟨fun h => absurd h (by omega), Nat.zero_le _, fun i hi => absurd hi (by omega)⟩ rfl (fun i hi => absurd hi (by omega))).mono ?_; rintro e w5 ⟨rfl, hf1⟩; replace HX := Lib.hid (boxNext HX.out hf1); clear hf1) | (go_at_call 16; refine (awake_any _ (HGL.out.frm HX.out.2 (Nat.le_refl _))).mono ?_; rintro e w6 ⟨rfl, hf1⟩; replace HX := Lib.hid (boxNext HX.out hf1); clear hf1))
    go_ret
    exact ⟨rfl, HX.out.2⟩
  | none =>
    dsimp only at hp1
    obtain ⟨ov, own, rfl, hsl, hown⟩ := hp1
    obtain ⟨oa, ob, oo, ocap, rfl, hrw⟩ := hsl.rw (fun i => rfl)
    clear hsl hown
    have HRW := Lib.hid hrw
    clear hrw
    have a0 : w3.cell? ⟨w.heap.size + 1, 0, none⟩ = some (.int .i64 start) := HB3.out.cell 0
    have a1 : w3.cell? ⟨w.heap.size + 1, 1, none⟩ = some (.slice ra rn rcap) := HB3.out.cell 1
    have a2 : w3.cell? ⟨w.heap.size + 1, 2, none⟩ = some (.slice sa n cap) := HB3.out.cell 2
    go_wp2_with (with_reducible refine atLoad 25 rfl ?_; refine wpList_loadB (ty := 25) rfl rfl HX.out.1 rfl Tryd.underlying25 rfl HSI.out ?_)
    refine (refPlan_any u s HNM.out start sa sb soff n cap S ra rb roff rn rcap R _ (HR.out.frm HX.out.2 (Nat.le_refl _)) (HRR.out.frm HX.out.2 (Nat.le_refl _))).mono ?_
    intro e w4 hp2
    have hp2 := planIs_of hp2
    rw [← HO.out] at hp2
    obtain ⟨hf4, hp2⟩ := hp2
    clear a0 a1 a2
    dsimp only at hp2
    obtain ⟨ov2, own2, rfl, hsl2, hown2⟩ := hp2
    obtain ⟨oa2, ob2, oo2, ocap2, rfl, hrw2⟩ := hsl2.rw (fun i => rfl)
    have hrw := HRW.out.frm hf4 (Nat.le_refl _)
    clear hsl2 hown2 HRW
    replace HX := Lib.hid (boxNext HX.out hf4)
    clear hf4
    have HRW := Lib.hid hrw
    have HRW2 := Lib.hid hrw2
    clear hrw2 hrw
    go_wp2_with (first | (go_at_call 26; refine (sameLegs_any oa ob oo (rn + 1) ocap (planL u R (startG u start) rn) oa2 ob2 oo2 (rn + 1) ocap2 (planL u R (startG u start) rn) _ HRW.out HRW2.out rfl (fun i hi => rfl)).mono ?_; rintro e w5 ⟨rfl, hf1⟩; replace HX := Lib.hid (boxNext HX.out hf1); clear hf1) | (go_at_call 16; refine (awake_any _ (HGL.out.frm HX.out.2 (Nat.le_refl _))).mono ?_; rintro e w6 ⟨rfl, hf1⟩; replace HX := Lib.hid (boxNext HX.out hf1); clear hf1))
    go_ret
    exact ⟨rfl, HX.out.2⟩

set_option maxRecDepth 100000 in
theorem unitPlans_lifted (os : Os) (started : os.Started) (H : Type) (enc : TypeId × Value → H) :
    ReturnsInHanded {} Tryd.checked os 4 .any (fun w args => (Rows.unitPlansSpec.pre enc Tryd.prog Tryd.f4 [] false w args ∧ laidMetH Tryd.prog laidR w) ∧ sizedMet enc Tryd.prog Tryd.f4 (OpenSpec.ofChange Rows.unitPlansSpec) false w args) (Rows.unitPlansSpec.post enc Tryd.prog Tryd.f4 false true false false) := by
  refine law_liftL (fn := Tryd.f4) (s := Rows.unitPlansSpec) started 2 (by kernel_rfl) Tryd.func4
      (ChangeSpec.witness_shaped (enc := enc) (C := Tryd.checked) (os := os) (X := fun w _ => laidMetH Tryd.prog laidR w) false (World.doorLaid Tryd.prog 400 os)
        #[.agg #[.string ByteArray.empty, .int .i64 0, .int .i64 0, .int .i64 0, .int .i64 0, .int .i64 0, .int .i64 0, .int .i64 0, .int .i64 0, .int .i64 0, .int .i64 0, .int .i64 0], .agg #[.int .i64 0, .slice none 0 0, .slice none 0 0]] 8 rfl
        (World.shaped_of_RefB (by kernel_rfl) (by kernel_rfl)) (by kernel_rfl) (by kernel_rfl) (by kernel_rfl) (door_met os _))
      (by rw [Tryd.params4]; decide +kernel) (by rw [Tryd.params4]; rfl) (by kernel_rfl) rfl (fun ds h => by match ds, h with | [d1, d2], _ => rfl) ?_
  intro W base args ds ps hval hA hgl
  rw [Tryd.params4] at hA hval
  obtain ⟨v0, vs0, d0, ds0, p0, q0, hargs, rfl, rfl, h0, r0⟩ := trodAll_cons hA
  obtain ⟨v1, vs1, d1, ds1, p1, q1, rfl, rfl, rfl, h1, r1⟩ := trodAll_cons r0
  obtain ⟨rfl, rfl, rfl⟩ := trodAll_nil r1
  obtain rfl : args = #[v0, v1] := by cases args; simp_all
  obtain ⟨u, s, rfl, hnm⟩ := open_unit (hval 0 25 v0 rfl rfl)
  obtain ⟨start, ra, rb, roff, rn, rcap, R, sa, sb, soff, n, cap, S, rfl, hrr, hr⟩ := open_task (hval 1 37 v1 rfl rfl) h1
  exact plans_walk u s hnm start ra rb roff rn rcap R sa sb soff n cap S W hrr hr hgl

theorem unitPlans_over : Rows.UnitPlansSaid :=
  OpenClaim.holds_of_wide 4 Tryd.f4 rfl rfl rfl rfl rfl rfl rfl ⟨rfl, rfl, rfl, rfl, rfl⟩ rfl rfl rfl rfl rfl (by kernel_rfl) Tryd.func4 (by kernel_rfl)
    (of_decide_eq_true (by kernel_rfl)) (by unfold Func.isWrapper; first | (rw [if_pos (by decide +kernel)]; kernel_rfl) | (rw [if_neg (by decide +kernel)]; exact ⟨rfl, rfl⟩))
    (fun os started H enc _ => unitPlans_lifted os started H enc)
end Go.Proofs.YtghkfopcjdkieaaDoor

namespace Go.Proofs.YtghkfopcjdkieaaDoor
set_option linter.all false
set_option linter.unusedSimpArgs false
set_option linter.unusedVariables false
open Go.RowKit

def zOf : Option (Int × Int × Int) → Int
  | some (_, _, z) => z
  | none => 0
def nOf (o : Option (Int × Int × Int)) (rn : Nat) : Nat := match o with
  | some _ => 0
  | none => rn + 1
/-- The cells of so many legs. -/
def legsOf (L : Nat → LC) (n : Nat) : List Value := (List.range n).flatMap fun i => (L i).cells
theorem plan_sl {u : UC} {start : Int} {rn : Nat} {R : Nat → WC} {o : Option (Int × Int × Int)} {w w' : World} {e : Ending} (h : PlanIs u start rn R o w w' e) :
    Frm w.heap.size [] w w' ∧ ∃ v own, ∃ i y : Int, e = .returned (.tuple #[v, .int .i64 i, .int .i64 y, .int .i64 (zOf o)]) ∧ Sl w' 49 8 v (nOf o rn) (legsOf (planL u R (startG u start) rn) (nOf o rn)) own ∧ ∀ b, own = some b → w.heap.size ≤ b := by
  refine ⟨h.1, ?_⟩
  match o, h.2 with
  | some (i, y, z), h2 => exact ⟨_, none, i, y, h2, Sl.nil _ 49 8, fun b hb => by cases hb⟩
  | none, ⟨ov, own, h1, h2, h3⟩ => exact ⟨ov, own, -1, 0, h1, h2, h3⟩
theorem plan_time {u : UC} {s : ByteArray} {start : Int} {n : Nat} {S : Nat → FC} {rn : Nat} {R : Nat → WC} (h : zOf (planO u s start n S rn R) = 0) : timeB start = true := by
  by_cases h1 : planIn u s start n S rn R = false
  · unfold planO at h
    rw [if_pos h1] at h
    exact absurd h (by decide)
  · have h2 : planIn u s start n S rn R = true := by simpa using h1
    unfold planIn at h2
    simp only [Bool.and_eq_true] at h2
    exact h2.2
theorem nOf_le {u : UC} {s : ByteArray} {start : Int} {n : Nat} {S : Nat → FC} {rn : Nat} {R : Nat → WC} : nOf (planO u s start n S rn R) rn ≤ 31 := by
  by_cases h1 : planIn u s start n S rn R = false
  · unfold planO; rw [if_pos h1]; exact Nat.zero_le _
  · by_cases h2 : 30 < rn
    · unfold planO; rw [if_neg h1, if_pos h2]; exact Nat.zero_le _
    · unfold nOf
      split <;> omega
theorem legsOf_len (L : Nat → LC) (n : Nat) : (legsOf L n).length = n * 8 := by
  induction n with
  | zero => rfl
  | succ n ih => unfold legsOf at ih ⊢; rw [List.range_succ, List.flatMap_append, List.length_append, ih]; simp [LC.cells]; omega
theorem legsOf_one (L : Nat → LC) (n : Nat) : ∀ v ∈ legsOf L n, v.oneCell' = true := by
  intro v hv
  unfold legsOf at hv
  rw [List.mem_flatMap] at hv
  obtain ⟨i, _, h⟩ := hv
  simp only [LC.cells, List.mem_cons, List.not_mem_nil, or_false] at h
  rcases h with rfl | rfl | rfl | rfl | rfl | rfl | rfl | rfl <;> rfl
/-- What stands in a slice may be written. -/
theorem Sl.there {w : World} {E size : Nat} {n b off cap : Nat} {cs : List Value} {own : Option Nat} (h : Sl w E size (.slice (some ⟨b, off, none⟩) n cap) n cs own) : w.there b off (n * size) := fun j hj =>
  ⟨by rw [h.cell j (by rw [h.1]; exact hj), List.getElem?_eq_getElem (by rw [h.1]; exact hj)]; rfl, h.free (off + j)⟩
theorem there_part {w : World} {b off n m o : Nat} (h : w.there b off n) (hm : o + m ≤ n) : w.there b (off + o) m := fun j hj => by
  have := h (o + j) (by omega)
  rw [← Nat.add_assoc] at this
  exact this
theorem Frm.setCells {B : Nat} {S : List Nat} {a : World} (b : Nat) (hp : b ∈ S ∨ B ≤ b) : ∀ (vs : List Value) (o : Nat) (w : World), Frm B S a w → Frm B S a (w.setCells b o vs)
  | [], _, _, h => h
  | v :: vs, o, w, h => Frm.setCells b hp vs (o + 1) _ (h.setCell (p := ⟨b, o, none⟩) hp v)
theorem Frm.there {B : Nat} {S : List Nat} {w w' : World} (h : Frm B S w w') {b off n : Nat} (k : w.there b off n) (hp : b < B) (hn : b ∉ S) : w'.there b off n := fun j hj => by
  obtain ⟨h1, h2⟩ := k j hj
  refine ⟨by rw [h.cell (p := ⟨b, off + j, none⟩) hp hn]; exact h1, ?_⟩
  rw [← h2]
  simp only [World.frozen?]
  rw [h.block b hp hn]
theorem sl_buildEmpty (w : World) (E size : Nat) : Sl (w.alloc (Obj.cells #[] E)) E size (.slice (some ⟨w.heap.size, 0, none⟩) 0 0) 0 [] (some w.heap.size) :=
  ⟨by simp, .inr ⟨w.heap.size, 0, 0, _, rfl, rfl, heap_alloc_new w _, Nat.le_refl _, Nat.zero_le _, by simp, by simp⟩⟩
/-- A slice's place. -/
theorem Sl.place {w : World} {E size : Nat} {v : Value} {n : Nat} {cs : List Value} {own : Option Nat} (h : Sl w E size v n cs own) : ∃ a cap b off, v = .slice a n cap ∧ (0 < n → a = some ⟨b, off, none⟩) ∧ (0 < n → own = some b) ∧ w.there b off (n * size) := by
  rcases h.2 with ⟨e, e2, e3⟩ | ⟨b, off, cap, arr, e1, e2, _⟩
  · subst e e2
    exact ⟨none, 0, 0, 0, rfl, fun h => absurd h (by omega), fun h => absurd h (by omega), fun j hj => absurd hj (by omega)⟩
  · subst e1
    exact ⟨_, cap, b, off, rfl, fun _ => rfl, fun _ => e2, h.there⟩
theorem Sl.there_of {w : World} {E size : Nat} {a : Option Addr} {n b off cap : Nat} {cs : List Value} {own : Option Nat} (h : Sl w E size (.slice a n cap) n cs own) (ha : 0 < n → a = some ⟨b, off, none⟩) : w.there b off (n * size) := by
  rcases Nat.eq_zero_or_pos n with h0 | h0
  · subst h0
    intro j hj
    simp at hj
  · have := ha h0
    subst this
    exact h.there
theorem Sl.n_le {w : World} {E size : Nat} {v : Value} {n : Nat} {cs : List Value} {own : Option Nat} (h : Sl w E size v n cs own) : n ≤ maxLen := by
  rcases h.2 with ⟨_, e2, _⟩ | ⟨b, off, cap, arr, e1, e2, e3, e4, e5, _⟩
  · omega
  · omega
theorem Sl.legs {w : World} {a : Option Addr} {n cap : Nat} {L : Nat → LC} {own : Option Nat} (h : Sl w 49 8 (.slice a n cap) n (legsOf L n) own) : ∃ b off, Rw w 8 a b off n fun i => (L i).cells := by
  obtain ⟨ad, b, off, c, e, hr⟩ := h.rw (fun i => rfl)
  cases e
  exact ⟨b, off, hr⟩
theorem Sl.ints0 {w : World} {a : Option Addr} {n cap : Nat} {l : List Nat} {own : Option Nat} (h : Sl w 3 1 (.slice a n cap) n (intsC l) own) : ∃ b off, RwI w a b off n (at0 l) := by
  obtain ⟨ad, b, off, c, e, hr⟩ := ints_at0 h
  cases e
  exact ⟨b, off, hr⟩
/-- A slice through stores into other slices. -/
theorem Sl.beside {w w' : World} {E size : Nat} {v : Value} {n : Nat} {cs : List Value} {own o2 : Option Nat} {B : Nat} (h : Sl w E size v n cs own) (hf : Frm B o2.toList w w') (hB : w.heap.size ≤ B) (hne : ∀ b, own = some b → o2 ≠ some b) : Sl w' E size v n cs own :=
  h.frm hf (fun b hb => Nat.lt_of_lt_of_le (h.lt b hb) hB) (fun b hb hm => hne b hb (by simpa using hm))
theorem boxC_one (l : List BC) : ∀ v ∈ boxC l, v.oneCell' = true := by
  intro v hv
  unfold boxC at hv
  rw [List.mem_flatMap] at hv
  obtain ⟨i, _, h⟩ := hv
  simp only [BC.cells, List.mem_cons, List.not_mem_nil, or_false] at h
  rcases h with rfl | rfl | rfl | rfl | rfl | rfl | rfl <;> rfl
/-- What 'Boxes' answers, as far as it matters here. -/
theorem boxes_sl (u : UC) (s : ByteArray) (hnm : u.name = .string s) (ad : Option Addr) (b off n cap : Nat) (L : Nat → LC) (p : Int) (w : World) (hr : Rw w 8 ad b off n fun i => (L i).cells) (hn : n ≤ 1000) :
    Calls Tryd.prog 33 #[.agg u.cells.toArray, .slice ad n cap, .int .i64 p] w fun e w' => Frm w.heap.size [] w w' ∧ ∃ v own, ∃ z : Int, ∃ nb cs, e = .returned (.tuple #[v, .int .i64 z]) ∧ Sl w' 87 7 v nb cs own ∧ ∀ b, own = some b → w.heap.size ≤ b := by
  refine (boxes_any u s hnm ad b off n cap L p w hr hn).mono ?_
  rintro e w' ⟨hf, ⟨_, rfl⟩ | ⟨_, _, rfl⟩ | ⟨_, _, v, own, rfl, hs, ho⟩⟩
  · exact ⟨hf, _, none, 2, 0, [], rfl, Sl.nil w' 87 7, fun b hb => by cases hb⟩
  · exact ⟨hf, _, none, 4, 0, [], rfl, Sl.nil w' 87 7, fun b hb => by cases hb⟩
  · exact ⟨hf, v, own, 0, _, _, rfl, hs, ho⟩
/-- Which units: none where there is an error. -/
noncomputable def whichOf (N : Nat) (U : Nat → UC) (Sn : Nat → ByteArray) (M : Nat) (T : Nat → Int) (G : Nat) (Q : Nat → Int × Int) : List Nat := if teamE N U Sn M T G Q = 0 then (bestOf N U T G Q).which else []
theorem assign_sl {N : Nat} {U : Nat → UC} {Sn : Nat → ByteArray} {M : Nat} {T : Nat → Int} {G : Nat} {Q : Nat → Int × Int} {w w' : World} {en : Ending} (h : AssignIs N U Sn M T G Q w w' en) :
    Frm w.heap.size [] w w' ∧ ∃ v own, ∃ z : Int, en = .returned (.tuple #[v, .int .i64 z]) ∧ Sl w' 3 1 v (whichOf N U Sn M T G Q).length (intsC (whichOf N U Sn M T G Q)) own ∧ ∀ b, own = some b → w.heap.size ≤ b := by
  refine ⟨h.1, ?_⟩
  rcases h.2 with ⟨hz, rfl⟩ | ⟨hz, v, own, rfl, hs, ho⟩
  · have e : whichOf N U Sn M T G Q = [] := by unfold whichOf; rw [if_neg hz]
    rw [e]
    exact ⟨_, none, _, rfl, Sl.nil _ 3 1, fun b hb => by cases hb⟩
  · have e : whichOf N U Sn M T G Q = (bestOf N U T G Q).which := by unfold whichOf; rw [if_pos hz]
    rw [e]
    exact ⟨v, own, 0, rfl, hs, ho⟩
theorem which_le {N : Nat} {U : Nat → UC} {Sn : Nat → ByteArray} {M : Nat} {T : Nat → Int} {G : Nat} {Q : Nat → Int × Int} (h : ∀ c, c ∈ ext N G [] → c.length ≤ G) : (whichOf N U Sn M T G Q).length ≤ 6 := by
  unfold whichOf
  split
  · rename_i hz
    have hg := (teamE_ok hz).1
    have h6 := hg.n6
    have hgn := hg.gn
    have key : ∀ (L : List (List Nat)) (s : SC), s.which.length ≤ G → (∀ c, c ∈ L → c.length ≤ G) → ((L.foldl (takeS (arrA U T Q)) s).which).length ≤ G := by
      intro L
      induction L with
      | nil => intro s hs _; exact hs
      | cons c L ih =>
        intro s hs hL
        refine ih _ ?_ (fun x hx => hL x (by simp [hx]))
        unfold takeS
        split
        · exact hL c (by simp)
        · exact hs
    have := key (ext N G []) sc0 (Nat.zero_le _) h
    unfold bestOf
    omega
  · exact Nat.zero_le _
end Go.Proofs.YtghkfopcjdkieaaDoor

namespace Go.Proofs.YtghkfopcjdkieaaDoor
set_option linter.all false
set_option linter.unusedSimpArgs false
set_option linter.unusedVariables false
open Go.ChangeShapes Go.WideShapes Go.ChangeAt Go.RowKit

/-- What the statement reads. -/
structure OwnEnv (V : World) (c : Nat) (u : UC) (start : Int) (ra : Option Addr) (rn rcap : Nat) (sa : Option Addr) (n cap : Nat) (ua : Option Addr) (N ucap : Nat) (ta : Option Addr) (M tcap : Nat) (ga : Option Addr) (G gcap : Nat) : Prop where
  u : Blk V c 25 u.cells
  t : Blk V (c + 1) 37 (taskC start ra rn rcap sa n cap)
  y : Blk V (c + 2) 77 (teamC ua N ucap ta M tcap ga G gcap)
theorem OwnEnv.frm {V V' : World} {c : Nat} {u : UC} {start : Int} {ra : Option Addr} {rn rcap : Nat} {sa : Option Addr} {n cap : Nat} {ua : Option Addr} {N ucap : Nat} {ta : Option Addr} {M tcap : Nat} {ga : Option Addr} {G gcap : Nat} {S : List Nat}
    (h : OwnEnv V c u start ra rn rcap sa n cap ua N ucap ta M tcap ga G gcap) (hf : Frm V.heap.size S V V') (hS : ∀ x, x ∈ S → c + 2 < x) : OwnEnv V' c u start ra rn rcap sa n cap ua N ucap ta M tcap ga G gcap :=
  ⟨hf.blk h.u h.u.lt (fun hm => by have := hS _ hm; omega), hf.blk h.t h.t.lt (fun hm => by have := hS _ hm; omega), hf.blk h.y h.y.lt (fun hm => by have := hS _ hm; omega)⟩
theorem info49z : (Tryd.prog.info? 49).map (fun i => (i.zero, i.size, i.bytes)) = some (some (.agg #[.int .i64 0, .int .i64 0, .int .i64 0, .int .i64 0, .int .i64 0, .int .i64 0, .int .i64 0, .int .i64 0]), 8, 64) := by kernel_rfl
theorem info87s : (Tryd.prog.info? 87).map (fun i => i.size) = some 7 := by kernel_rfl

set_option maxRecDepth 100000 in
set_option maxHeartbeats 16000000 in
theorem owns_walk (u : UC) (s : ByteArray) (hnm : u.name = .string s) (start : Int) (ra : Option Addr) (rb roff rn rcap : Nat) (R : Nat → WC) (sa : Option Addr) (sb soff n cap : Nat) (S : Nat → FC)
    (ua : Option Addr) (ub uo N ucap : Nat) (U : Nat → UC) (Sn : Nat → ByteArray) (hnms : ∀ i, i < N → (U i).name = .string (Sn i)) (ta : Option Addr) (tb to_ M tcap : Nat) (T : Nat → Int) (ga : Option Addr) (gb go_ G gcap : Nat) (Q : Nat → Int × Int)
    (w : World) (hrr : Rw w 3 ra rb roff rn fun i => (R i).cells) (hr : Rw w 8 sa sb soff n fun i => (S i).cells) (tw : TeamW w ua ub uo N U ta tb to_ M T ga gb go_ G Q) (hgl : Glob w) :
    Calls Tryd.prog 14 #[.agg u.cells.toArray, .agg (taskC start ra rn rcap sa n cap).toArray, .agg (teamC ua N ucap ta M tcap ga G gcap).toArray] w fun e w' => e = .returned (.bool true) ∧ Frm w.heap.size [] w w' := by
  have hf0 := Tryd.func14
  have HR := Lib.hid hr
  have HRR := Lib.hid hrr
  have HGL := Lib.hid hgl
  have HNM := Lib.hid hnm
  have HNMS := Lib.hid hnms
  have HTW := Lib.hid tw
  clear tw hnms hnm hgl hrr hr
  go_enter Tryd.func14, Tryd.ntmps14
  go_upto_region 1 with fail
  refine namedC ?_; intro W hW
  obtain ⟨c, hc⟩ : ∃ c, c = w.heap.size := ⟨_, rfl⟩
  have b0 : Blk W c 25 u.cells := by rw [hW, hc]; repeat (first | exact Blk.new w 25 u.cells | refine Blk.alloc' ?_)
  have b1 : Blk W (c + 1) 37 (taskC start ra rn rcap sa n cap) := by rw [hW, hc]; repeat (first | exact Blk.new' _ 37 _ (by simp) | refine Blk.alloc' ?_)
  have b2 : Blk W (c + 2) 77 (teamC ua N ucap ta M tcap ga G gcap) := by rw [hW, hc]; exact Blk.new' _ 77 _ (by simp)
  have henv : OwnEnv W c u start ra rn rcap sa n cap ua N ucap ta M tcap ga G gcap := ⟨b0, b1, b2⟩
  have hf : Frm w.heap.size [] w W := by rw [hW]; repeat (first | with_reducible exact Frm.refl _ _ _ | with_reducible refine Frm.drewN ?_ | with_reducible refine Frm.drew ?_ | ((with_reducible refine Frm.setCell' ?_ ?_); · first | (left; simp; done) | (right; simp; done) | (right; simp; omega)) | ((with_reducible refine Frm.alloc' ?_ ?_); · first | exact Nat.le_refl _ | (simp; done) | (simp; omega)))
  clear hW hf0 b0 b1 b2
  rw [← hc]
  have hsi := UC.info u
  have HE := Lib.hid henv
  have HF := Lib.hid hf
  have HSI := Lib.hid hsi
  have HC := Lib.hid hc
  clear hc hsi hf henv
  -- is it more than a statement looks at?
  go_wp2_with (with_reducible refine atLoad 25 rfl ?_; refine wpList_loadB (ty := 25) rfl rfl HE.out.u rfl Tryd.underlying25 rfl HSI.out ?_)
  refine (great_any u s HNM.out _).mono ?_; rintro e w1 ⟨rfl, hf1⟩
  replace HE := Lib.hid (HE.out.frm hf1 (by simp)); replace HF := Lib.hid (HF.out.call hf1 HF.out.size (by simp)); clear hf1
  cases hg : decide (100 < s.size)
  rotate_left
  · go_wp2_with (go_at_call 16; refine (awake_any _ (HGL.out.frm HF.out (Nat.le_refl _))).mono ?_; rintro e w6 ⟨rfl, hf1⟩; replace HF := Lib.hid (HF.out.call hf1 HF.out.size (by simp)); clear hf1)
    go_ret
    exact ⟨rfl, HF.out⟩
  clear hg
  go_wp2_with (with_reducible refine atLoad 37 rfl ?_; refine wpList_loadGE rfl rfl rfl (load_task HE.out.t) ?_)
  refine (large_any start ra rn rcap sa n cap _).mono ?_; rintro e w2 ⟨rfl, hf1⟩
  replace HE := Lib.hid (HE.out.frm hf1 (by simp)); replace HF := Lib.hid (HF.out.call hf1 HF.out.size (by simp)); clear hf1
  cases hl : (decide (40 < rn) || decide (110 < n))
  rotate_left
  · go_wp2_with (go_at_call 16; refine (awake_any _ (HGL.out.frm HF.out (Nat.le_refl _))).mono ?_; rintro e w6 ⟨rfl, hf1⟩; replace HF := Lib.hid (HF.out.call hf1 HF.out.size (by simp)); clear hf1)
    go_ret
    exact ⟨rfl, HF.out⟩
  clear hl
  go_wp2_with (with_reducible refine atLoad 77 rfl ?_; refine wpList_loadGE rfl rfl rfl (load_team HE.out.y) ?_)
  refine (vast_any ua ub uo N ucap U Sn HNMS.out ta tb to_ M tcap T ga gb go_ G gcap Q w2 (HTW.out.frm HF.out (Nat.le_refl _))).mono ?_; rintro en w3 ⟨⟨r, rfl, _⟩, hf1⟩
  replace HE := Lib.hid (HE.out.frm hf1 (by simp)); replace HF := Lib.hid (HF.out.call hf1 HF.out.size (by simp)); clear hf1
  cases r
  rotate_left
  · go_wp2_with (go_at_call 16; refine (awake_any _ (HGL.out.frm HF.out (Nat.le_refl _))).mono ?_; rintro e w6 ⟨rfl, hf1⟩; replace HF := Lib.hid (HF.out.call hf1 HF.out.size (by simp)); clear hf1)
    go_ret
    exact ⟨rfl, HF.out⟩
  -- the plan
  obtain ⟨O, hO⟩ : ∃ O, O = planO u s start n S rn R := ⟨_, rfl⟩
  obtain ⟨P, hP⟩ : ∃ P, P = planL u R (startG u start) rn := ⟨_, rfl⟩
  obtain ⟨m, hm⟩ : ∃ m, m = nOf O rn := ⟨_, rfl⟩
  obtain ⟨z, hz⟩ : ∃ z, z = zOf O := ⟨_, rfl⟩
  have hm31 : m ≤ 31 := by rw [hm, hO]; exact nOf_le
  obtain ⟨A, hA⟩ : ∃ A, A = whichOf N U Sn M T G Q := ⟨_, rfl⟩
  have hA6 : A.length ≤ 6 := by rw [hA]; exact which_le (fun x hx => by have := (ext_mem G [] x hx).1; simp at this; omega)
  have HO := Lib.hid hO
  have HP := Lib.hid hP
  have HM := Lib.hid hm
  have HZ := Lib.hid hz
  have HM31 := Lib.hid hm31
  have HA := Lib.hid hA
  have HA6 := Lib.hid hA6
  clear hA6 hA hm31 hz hm hP hO
  have a0 : w3.cell? ⟨c + 1, 0, none⟩ = some (.int .i64 start) := HE.out.t.cell 0
  have a1 : w3.cell? ⟨c + 1, 1, none⟩ = some (.slice ra rn rcap) := HE.out.t.cell 1
  have a2 : w3.cell? ⟨c + 1, 2, none⟩ = some (.slice sa n cap) := HE.out.t.cell 2
  go_wp2_with (with_reducible refine atLoad 25 rfl ?_; refine wpList_loadB (ty := 25) rfl rfl HE.out.u rfl Tryd.underlying25 rfl HSI.out ?_)
  refine (Plan_any u s HNM.out start sa sb soff n cap S ra rb roff rn rcap R _ (HR.out.frm HF.out (Nat.le_refl _)) (HRR.out.frm HF.out (Nat.le_refl _)) (HGL.out.frm HF.out (Nat.le_refl _))).mono ?_
  rintro e w4 hp
  obtain ⟨hf1, v4, own4, i4, y4, rfl, hs4, ho4⟩ := plan_sl (planIs_of hp)
  rw [← HO.out, ← HP.out, ← HM.out] at hs4
  rw [← HO.out, ← HZ.out]
  have hlow : c + 2 < w3.heap.size := HE.out.y.lt
  have ho4' : ∀ b, own4 = some b → c + 2 < b := fun b hb => by have := ho4 b hb; omega
  replace HE := Lib.hid (HE.out.frm hf1 (by simp)); replace HF := Lib.hid (HF.out.call hf1 HF.out.size (by simp)); clear hf1 ho4 hp a0 a1 a2 hlow
  obtain ⟨a4, cap4, b4, o4, rfl, ha4, hb4, _⟩ := hs4.place
  obtain ⟨i0, hi0, hz0', hz1, hz2⟩ := info_parts3 info49z
  obtain ⟨j0, hj0, hy0', hy1, hy2⟩ := info_parts3 info3x
  have HS4 := Lib.hid hs4
  have HO4 := Lib.hid ho4'
  have HA4 := Lib.hid ha4
  have HB4 := Lib.hid hb4
  have HI0 := Lib.hid hi0
  have HZ0 := Lib.hid hz0'
  have HZ1 := Lib.hid hz1
  have HZ2 := Lib.hid hz2
  have HJ0 := Lib.hid hj0
  have HY0 := Lib.hid hy0'
  have HY1 := Lib.hid hy1
  have HY2 := Lib.hid hy2
  clear hy2 hy1 hy0' hj0 hz2 hz1 hz0' hi0 hb4 ha4 ho4' hs4
  go_wp2_with (at_builtin; refine hold ?_; intro qG hG)
  refine hG.1 ?_; clear hG qG
  refine wpList_append_both rfl (.tmp 50) (.tmp 51) 39 rfl 49 i0 _ 8 64 Tryd.underlying39 HI0.out HZ0.out HZ1.out HZ2.out rfl _ 0 [] _ rfl (sl_buildEmpty w4 49 8) _ m (legsOf P m) _ rfl (HS4.out.alloc _) (legsOf_one P m) (by have := HM31.out; unfold maxLen; omega) (by have := HM31.out; omega) ?_
  intro v5 w5 own5 hs5 hf5 ho5
  rw [Nat.zero_add, List.nil_append] at hs5
  obtain ⟨a5, cap5, rfl⟩ := hs5.form
  have hf45 : Frm w4.heap.size [] w4 w5 := ((Frm.refl w4.heap.size [] w4).alloc (Nat.le_refl _) _).call hf5 (by simp) (fun x hx hm => by simp at hm; omega)
  have ho5' : ∀ b, own5 = some b → w4.heap.size ≤ b := fun b hb => by
    rcases ho5 with h | ⟨g, h, hg⟩
    · rw [h] at hb; cases hb; exact Nat.le_refl _
    · rw [h] at hb; cases hb; simp at hg; omega
  have hs4 := HS4.out.frm hf45 HS4.out.lt (by simp)
  have hlt4 : ∀ b, own4 = some b → b < w4.heap.size := HS4.out.lt
  have hlow : c + 2 < w4.heap.size := HE.out.y.lt
  have hge45 := hf45.size
  replace HE := Lib.hid (HE.out.frm hf45 (by simp)); replace HF := Lib.hid (HF.out.call hf45 HF.out.size (by simp)); clear hf5 ho5 HS4 hf45
  obtain ⟨d4, hd4⟩ : ∃ d, d = w4.heap.size := ⟨_, rfl⟩
  rw [← hd4] at ho5' hlt4 hlow hge45
  clear hd4
  have HS4 := Lib.hid hs4
  have HS5 := Lib.hid hs5
  have HO5 := Lib.hid ho5'
  have HL4 := Lib.hid hlt4
  have HLOW := Lib.hid hlow
  have HGE := Lib.hid hge45
  clear hge45 hlow hlt4 ho5' hs5 hs4
  -- the boxes
  go_wp2_with (with_reducible refine atLoad 25 rfl ?_; refine wpList_loadB (ty := 25) rfl rfl HE.out.u rfl Tryd.underlying25 rfl HSI.out ?_)
  obtain ⟨br, or_, hrw⟩ := HS4.out.legs
  refine (boxes_sl u s HNM.out a4 br or_ m cap4 P 2 w5 hrw (by have := HM31.out; omega)).mono ?_; rintro e w6 ⟨hf1, v6, own6, z6, nb, cs6, rfl, hs6, ho6⟩
  have hlt5 : ∀ b, own5 = some b → b < w5.heap.size := HS5.out.lt
  have hs4 := HS4.out.frm hf1 HS4.out.lt (by simp)
  have hs5 := HS5.out.frm hf1 HS5.out.lt (by simp)
  have hd65 := hf1.size
  replace HE := Lib.hid (HE.out.frm hf1 (by simp)); replace HF := Lib.hid (HF.out.call hf1 HF.out.size (by simp))
  clear hf1 HS4 HS5 hrw
  obtain ⟨a6, cap6, b6, o6, rfl, ha6, hb6, ht6⟩ := hs6.place
  have hnb := hs6.n_le
  have h46 : ∀ b, own4 = some b → own6 ≠ some b := fun b hb hb2 => by have h1 := HL4.out b hb; have h2 := ho6 b hb2; have h3 := HGE.out; omega
  have h56 : ∀ b, own5 = some b → own6 ≠ some b := fun b hb hb2 => by have h1 := hlt5 b hb; have h2 := ho6 b hb2; omega
  have ho6c : ∀ x, x ∈ own6.toList → c + 2 < x := fun x hx => by have h2 := ho6 x (by simpa using hx); have h3 := HGE.out; have h4 := HLOW.out; omega
  clear hs6 ho6 hlt5
  have HS4 := Lib.hid hs4
  have HS5 := Lib.hid hs5
  have HA6x := Lib.hid ha6
  have HB6 := Lib.hid hb6
  have HT6 := Lib.hid ht6
  have HNB := Lib.hid hnb
  have H46 := Lib.hid h46
  have H56 := Lib.hid h56
  have HO6 := Lib.hid ho6c
  clear ho6c h56 h46 hnb ht6 hb6 ha6 hs5 hs4
  go_wp2_with fail
  go_loopw [14] (fun s14 wr => ∃ k : Nat, s14 = .int .i64 k ∧ k ≤ nb ∧ Frm w6.heap.size own6.toList w6 wr ∧ wr.there b6 o6 (nb * 7)) (fun s14 _ => nb - (intOf s14).toNat)
  case atStart => exact ⟨0, rfl, Nat.zero_le _, Frm.refl _ _ _, HT6.out⟩
  case round =>
    obtain ⟨k, rfl, hk, hfr, hth⟩ := hrel
    by_cases hkn : k < nb
    · have hkn' : (k : Int) < (nb : Int) := by omega
      have ha := HA6x.out (by omega)
      subst ha
      have hbo := HB6.out (by omega)
      obtain ⟨wk1, wk2⟩ := wrapUp hkn HNB.out
      have HFR := Lib.hid hfr
      have HTH := Lib.hid hth
      have HKN := Lib.hid hkn
      have HBO := Lib.hid hbo
      clear hbo hkn hth hfr
      go_wp2_with (with_reducible refine atStore 87 rfl ?_; refine stop_ ?_)
      refine go_on ?_
      refine wpList_store_mid rfl 87 (.tmp 68) (.tmp 67) rfl b6 (o6 + k * 7) #[.int .i64 0, .int .i64 0, .int .i64 0, .int .i64 0, .int .i64 0, .int .i64 0, .int .i64 0] rfl rfl (there_part HTH.out (by have := HKN.out; simp; omega)) info87s (by simp [Value.oneCell']) ?_
      have hfr2 := Frm.setCells b6 (.inl (by rw [HBO.out]; simp)) [.int .i64 0, .int .i64 0, .int .i64 0, .int .i64 0, .int .i64 0, .int .i64 0, .int .i64 0] (o6 + k * 7) wr HFR.out
      have hth2 := World.there_setCells HTH.out b6 (o6 + k * 7) [.int .i64 0, .int .i64 0, .int .i64 0, .int .i64 0, .int .i64 0, .int .i64 0, .int .i64 0]
      generalize wr.setCells b6 (o6 + k * 7) _ = wn at hfr2 hth2 ⊢
      have hfin : ∃ k' : Nat, Value.int .i64 ((k : Int) + 1) = .int .i64 k' ∧ k' ≤ nb ∧ Frm w6.heap.size own6.toList w6 wn ∧ wn.there b6 o6 (nb * 7) := ⟨k + 1, by simp, HKN.out, hfr2, hth2⟩
      have hms := meas_up HKN.out
      clear hfr2 hth2 HFR HTH
      have HFIN := Lib.hid hfin
      have HMS := Lib.hid hms
      clear hms hfin
      go_wp2_with fail
      (try simp only [wk1, wk2])
      exact ⟨HFIN.out, HMS.out⟩
    · have hkn' : ¬ (k : Int) < (nb : Int) := by omega
      have hs4 := HS4.out.beside hfr (Nat.le_refl _) H46.out
      have hs5 := HS5.out.beside hfr (Nat.le_refl _) H56.out
      replace HE := Lib.hid (HE.out.frm hfr HO6.out)
      replace HF := Lib.hid (HF.out.call hfr HF.out.size (fun x hx hm => by have h1 := HO6.out x hm; have h2 := HC.out; omega))
      clear HS4 HS5 HT6 hth hkn hk
      obtain ⟨bq, oq, hq4⟩ := hs4.legs
      obtain ⟨br2, or2, hq5⟩ := hs5.legs
      have HS4 := Lib.hid hs4
      have HS5 := Lib.hid hs5
      have HQ4 := Lib.hid hq4
      have HQ5 := Lib.hid hq5
      have HFR := Lib.hid hfr
      clear hfr hq5 hq4 hs5 hs4
      clear HFR
      go_wp2_with fail
      refine (sameLegs_any a5 br2 or2 m cap5 P a4 bq oq m cap4 P wr HQ5.out HQ4.out rfl (fun i hi => rfl)).mono ?_; rintro e w8 ⟨rfl, hf1⟩
      have hs4 := HS4.out.frm hf1 HS4.out.lt (by simp)
      have hs5 := HS5.out.frm hf1 HS5.out.lt (by simp)
      replace HE := Lib.hid (HE.out.frm hf1 (by simp)); replace HF := Lib.hid (HF.out.call hf1 HF.out.size (by simp))
      clear hf1 HS4 HS5 HQ4 HQ5
      have ht4 := hs4.there_of HA4.out
      have ho4c : ∀ x, x ∈ own4.toList → c + 2 < x := fun x hx => HO4.out x (by simpa using hx)
      have h54 : ∀ b, own5 = some b → own4 ≠ some b := fun b hb hb2 => by have h1 := HL4.out b hb2; have h2 := HO5.out b hb; omega
      clear hs4
      have HS5 := Lib.hid hs5
      have HT4 := Lib.hid ht4
      have HO4C := Lib.hid ho4c
      have H54 := Lib.hid h54
      clear h54 ho4c ht4 hs5
      go_wp2_with fail
      clear hkn'
      go_loopw [15] (fun s15 wr => ∃ k : Nat, s15 = .int .i64 k ∧ k ≤ m ∧ Frm w8.heap.size own4.toList w8 wr ∧ wr.there b4 o4 (m * 8)) (fun s15 _ => m - (intOf s15).toNat)
      case atStart => exact ⟨0, rfl, Nat.zero_le _, Frm.refl _ _ _, HT4.out⟩
      case round =>
        obtain ⟨k, rfl, hk, hfr, hth⟩ := hrel
        by_cases hkn : k < m
        · have hkn' : (k : Int) < (m : Int) := by omega
          have ha := HA4.out (by omega)
          subst ha
          have hbo := HB4.out (by omega)
          obtain ⟨wk1, wk2⟩ := wrapUp hkn (show m ≤ maxLen by have := HM31.out; unfold maxLen; omega)
          have HFR := Lib.hid hfr
          have HTH := Lib.hid hth
          have HKN := Lib.hid hkn
          have HBO := Lib.hid hbo
          clear hbo hkn hth hfr
          go_wp2_with (with_reducible refine atStore 49 rfl ?_; refine stop_ ?_)
          refine go_on ?_
          refine wpList_store_mid rfl 49 (.tmp 82) (.tmp 81) rfl b4 (o4 + k * 8) #[.int .i64 0, .int .i64 0, .int .i64 0, .int .i64 0, .int .i64 0, .int .i64 0, .int .i64 0, .int .i64 0] rfl rfl (there_part HTH.out (by have := HKN.out; simp; omega)) info49 (by simp [Value.oneCell']) ?_
          have hfr2 := Frm.setCells b4 (.inl (by rw [HBO.out]; simp)) [.int .i64 0, .int .i64 0, .int .i64 0, .int .i64 0, .int .i64 0, .int .i64 0, .int .i64 0, .int .i64 0] (o4 + k * 8) wr HFR.out
          have hth2 := World.there_setCells HTH.out b4 (o4 + k * 8) [.int .i64 0, .int .i64 0, .int .i64 0, .int .i64 0, .int .i64 0, .int .i64 0, .int .i64 0, .int .i64 0]
          generalize wr.setCells b4 (o4 + k * 8) _ = wn at hfr2 hth2 ⊢
          have hfin : ∃ k' : Nat, Value.int .i64 ((k : Int) + 1) = .int .i64 k' ∧ k' ≤ m ∧ Frm w8.heap.size own4.toList w8 wn ∧ wn.there b4 o4 (m * 8) := ⟨k + 1, by simp, HKN.out, hfr2, hth2⟩
          have hms := meas_up HKN.out
          clear hfr2 hth2 HFR HTH
          have HFIN := Lib.hid hfin
          have HMS := Lib.hid hms
          clear hms hfin
          go_wp2_with fail
          (try simp only [wk1, wk2])
          exact ⟨HFIN.out, HMS.out⟩
        · have hkn' : ¬ (k : Int) < (m : Int) := by omega
          have hs5 := HS5.out.beside hfr (Nat.le_refl _) H54.out
          replace HE := Lib.hid (HE.out.frm hfr HO4C.out)
          replace HF := Lib.hid (HF.out.call hfr HF.out.size (fun x hx hm => by have h1 := HO4C.out x hm; have h2 := HC.out; omega))
          clear HS5 hth hkn hk hfr HT4
          have a0 : wr.cell? ⟨c + 1, 0, none⟩ = some (.int .i64 start) := HE.out.t.cell 0
          have a1 : wr.cell? ⟨c + 1, 1, none⟩ = some (.slice ra rn rcap) := HE.out.t.cell 1
          have a2 : wr.cell? ⟨c + 1, 2, none⟩ = some (.slice sa n cap) := HE.out.t.cell 2
          have HS5 := Lib.hid hs5
          clear hs5
          go_wp2_with (with_reducible refine atLoad 25 rfl ?_; refine wpList_loadB (ty := 25) rfl rfl HE.out.u rfl Tryd.underlying25 rfl HSI.out ?_)
          refine (Plan_any u s HNM.out start sa sb soff n cap S ra rb roff rn rcap R _ (HR.out.frm HF.out (Nat.le_refl _)) (HRR.out.frm HF.out (Nat.le_refl _)) (HGL.out.frm HF.out (Nat.le_refl _))).mono ?_
          rintro e w9 hp
          obtain ⟨hf1, v9, own9, i9, y9, rfl, hs9, ho9⟩ := plan_sl (planIs_of hp)
          rw [← HO.out, ← HP.out, ← HM.out] at hs9
          rw [← HO.out, ← HZ.out]
          have hs5 := HS5.out.frm hf1 HS5.out.lt (by simp)
          replace HE := Lib.hid (HE.out.frm hf1 (by simp)); replace HF := Lib.hid (HF.out.call hf1 HF.out.size (by simp))
          clear hf1 ho9 hp a0 a1 a2 HS5 hkn'
          obtain ⟨a9, cap9, rfl⟩ := hs9.form
          obtain ⟨bq, oq, hq9⟩ := hs9.legs
          obtain ⟨br2, or2, hq5⟩ := hs5.legs
          have hzz : (z != z) = false := by simp
          clear hs9 hs5
          have HQ9 := Lib.hid hq9
          have HQ5 := Lib.hid hq5
          clear hq5 hq9
          go_wp2_with fail
          refine (sameLegs_any a5 br2 or2 m cap5 P a9 bq oq m cap9 P w9 HQ5.out HQ9.out rfl (fun i hi => rfl)).mono ?_; rintro e w10 ⟨rfl, hf1⟩
          replace HE := Lib.hid (HE.out.frm hf1 (by simp)); replace HF := Lib.hid (HF.out.call hf1 HF.out.size (by simp))
          clear hf1 HQ9 HQ5 hzz
          have k0 : w10.cell? ⟨c + 1 + 1, 0, none⟩ = some (.slice ua N ucap) := HE.out.y.cell 0
          have k1 : w10.cell? ⟨c + 1 + 1, 1, none⟩ = some (.slice ta M tcap) := HE.out.y.cell 1
          have k2 : w10.cell? ⟨c + 1 + 1, 2, none⟩ = some (.slice ga G gcap) := HE.out.y.cell 2
          go_wp2_with fail
          refine (assign_any ua ub uo N ucap U Sn HNMS.out ta tb to_ M tcap T ga gb go_ G gcap Q w10 (HTW.out.frm HF.out (Nat.le_refl _))).mono ?_
          rintro en w11 hp
          obtain ⟨hf1, v11, own11, z11, rfl, hs11, ho11⟩ := assign_sl hp
          rw [← HA.out] at hs11
          have hlow : c + 2 < w10.heap.size := HE.out.y.lt
          have ho11c : ∀ x, x ∈ own11.toList → c + 2 < x := fun x hx => by have := ho11 x (by simpa using hx); omega
          replace HE := Lib.hid (HE.out.frm hf1 (by simp)); replace HF := Lib.hid (HF.out.call hf1 HF.out.size (by simp))
          clear hf1 hp k0 k1 k2 hlow ho11
          obtain ⟨a11, cap11, b11, o11, rfl, ha11, hb11, _⟩ := hs11.place
          have HS11 := Lib.hid hs11
          have HO11C := Lib.hid ho11c
          have HA11 := Lib.hid ha11
          have HB11 := Lib.hid hb11
          clear hb11 ha11 ho11c hs11
          go_wp2_with (at_builtin; refine hold ?_; intro qG hG)
          refine hG.1 ?_; clear hG qG
          refine wpList_append_both rfl (.tmp 115) (.tmp 116) 64 rfl 3 j0 _ 1 8 Tryd.underlying64 HJ0.out HY0.out HY1.out HY2.out rfl _ 0 [] _ rfl (sl_buildEmpty w11 3 1) _ A.length (intsC A) _ rfl (HS11.out.alloc _) (intsC_one A) (by have := HA6.out; unfold maxLen; omega) (by have := HA6.out; omega) ?_
          intro v12 w12 own12 hs12 hf12 ho12
          rw [Nat.zero_add, List.nil_append] at hs12
          obtain ⟨a12, cap12, rfl⟩ := hs12.form
          have hf112 : Frm w11.heap.size [] w11 w12 := ((Frm.refl w11.heap.size [] w11).alloc (Nat.le_refl _) _).call hf12 (by simp) (fun x hx hm => by simp at hm; omega)
          have hne : ∀ b, own12 = some b → own11 ≠ some b := fun b hb hb2 => by
            have h1 := HS11.out.lt b hb2
            rcases ho12 with h | ⟨g, h, hg⟩
            · rw [h] at hb; cases hb; omega
            · rw [h] at hb; cases hb; simp at hg; omega
          have hs11 := HS11.out.frm hf112 HS11.out.lt (by simp)
          have ht11 := hs11.there_of HA11.out
          replace HE := Lib.hid (HE.out.frm hf112 (by simp)); replace HF := Lib.hid (HF.out.call hf112 HF.out.size (by simp))
          clear hf12 ho12 hf112 HS11 hs11
          have HS12 := Lib.hid hs12
          have HNE := Lib.hid hne
          have HT11 := Lib.hid ht11
          clear ht11 hne hs12
          go_wp2_with fail
          go_loopw [23] (fun s23 wr => ∃ k : Nat, s23 = .int .i64 k ∧ k ≤ A.length ∧ Frm w12.heap.size own11.toList w12 wr ∧ wr.there b11 o11 (A.length * 1)) (fun s23 _ => A.length - (intOf s23).toNat)
          case atStart => exact ⟨0, rfl, Nat.zero_le _, Frm.refl _ _ _, HT11.out⟩
          case round =>
            obtain ⟨k, rfl, hk, hfr, hth⟩ := hrel
            by_cases hkn : k < A.length
            · have hkn' : (k : Int) < (A.length : Int) := by omega
              have ha := HA11.out (by omega)
              subst ha
              have hbo := HB11.out (by omega)
              obtain ⟨wk1, wk2⟩ := wrapUp hkn (show A.length ≤ maxLen by have := HA6.out; unfold maxLen; omega)
              obtain ⟨hx1, hz3⟩ := hth k (by omega)
              obtain ⟨x, hx⟩ := Option.isSome_iff_exists.1 hx1
              have hfr2 := hfr.setCell (p := ⟨b11, o11 + k, none⟩) (.inl (by rw [hbo]; simp)) (.int .i64 (-1))
              have hth2 := World.there_setCells hth b11 (o11 + k) [.int .i64 (-1)]
              have hfin : ∃ k' : Nat, Value.int .i64 ((k : Int) + 1) = .int .i64 k' ∧ k' ≤ A.length ∧ Frm w12.heap.size own11.toList w12 (wr.setCell ⟨b11, o11 + k, none⟩ (.int .i64 (-1))) ∧ (wr.setCell ⟨b11, o11 + k, none⟩ (.int .i64 (-1))).there b11 o11 (A.length * 1) := ⟨k + 1, by simp, hkn, hfr2, hth2⟩
              have hms := meas_up hkn
              clear hfr2 hth2 hfr hth hx1 hbo
              have HFIN := Lib.hid hfin
              have HMS := Lib.hid hms
              have HKN := Lib.hid hkn
              clear hkn hms hfin
              go_wp2_with fail
              (try simp only [wk1, wk2])
              exact ⟨HFIN.out, HMS.out⟩
            · have hkn' : ¬ (k : Int) < (A.length : Int) := by omega
              have hs12 := HS12.out.beside hfr (Nat.le_refl _) HNE.out
              replace HE := Lib.hid (HE.out.frm hfr HO11C.out)
              replace HF := Lib.hid (HF.out.call hfr HF.out.size (fun x hx hm => by have h1 := HO11C.out x hm; have h2 := HC.out; omega))
              clear HS12 hth hkn hk hfr HT11
              have k0 : wr.cell? ⟨c + 1 + 1, 0, none⟩ = some (.slice ua N ucap) := HE.out.y.cell 0
              have k1 : wr.cell? ⟨c + 1 + 1, 1, none⟩ = some (.slice ta M tcap) := HE.out.y.cell 1
              have k2 : wr.cell? ⟨c + 1 + 1, 2, none⟩ = some (.slice ga G gcap) := HE.out.y.cell 2
              have HS12 := Lib.hid hs12
              clear hs12
              go_wp2_with fail
              refine (assign_any ua ub uo N ucap U Sn HNMS.out ta tb to_ M tcap T ga gb go_ G gcap Q wr (HTW.out.frm HF.out (Nat.le_refl _))).mono ?_
              rintro en w13 hp
              obtain ⟨hf1, v13, own13, z13, rfl, hs13, ho13⟩ := assign_sl hp
              rw [← HA.out] at hs13
              have hs12 := HS12.out.frm hf1 HS12.out.lt (by simp)
              replace HE := Lib.hid (HE.out.frm hf1 (by simp)); replace HF := Lib.hid (HF.out.call hf1 HF.out.size (by simp))
              clear hf1 hp k0 k1 k2 ho13 HS12 hkn'
              obtain ⟨a13, cap13, rfl⟩ := hs13.form
              obtain ⟨bq, oq, hq13⟩ := hs13.ints0
              obtain ⟨br2, or2, hq12⟩ := hs12.ints0
              clear hs13 hs12
              have HQ13 := Lib.hid hq13
              have HQ12 := Lib.hid hq12
              clear hq12 hq13
              go_wp2_with fail
              refine (sameI_any a12 br2 or2 A.length cap12 (at0 A) a13 bq oq A.length cap13 (at0 A) _ HQ12.out HQ13.out rfl (fun i hi => rfl)).mono ?_; rintro e w14 ⟨rfl, hf1⟩
              replace HE := Lib.hid (HE.out.frm hf1 (by simp)); replace HF := Lib.hid (HF.out.call hf1 HF.out.size (by simp))
              clear hf1 HQ13 HQ12
              by_cases hz0 : z = 0
              · have hzt : timeB start = true := plan_time (by rw [← HO.out, ← HZ.out]; exact hz0)
                subst hz0
                have a0 : w14.cell? ⟨c + 1, 0, none⟩ = some (.int .i64 start) := HE.out.t.cell 0
                have HZT := Lib.hid hzt
                clear hzt
                go_wp2_with (first | (go_at_call 46; refine (refTime_any _ _).mono ?_; rintro e w15 ⟨rfl, rfl⟩; rw [HZT.out]) | (go_at_call 16; refine (awake_any _ (HGL.out.frm HF.out (Nat.le_refl _))).mono ?_; rintro e w99 ⟨rfl, hf1⟩; replace HF := Lib.hid (HF.out.call hf1 HF.out.size (by simp)); clear hf1))
                go_ret
                exact ⟨rfl, HF.out⟩
              · have hzb : (z != 0) = true := by simp [hz0]
                go_wp2_with (go_at_call 16; refine (awake_any _ (HGL.out.frm HF.out (Nat.le_refl _))).mono ?_; rintro e w99 ⟨rfl, hf1⟩; replace HF := Lib.hid (HF.out.call hf1 HF.out.size (by simp)); clear hf1)
                go_ret
                exact ⟨rfl, HF.out⟩
end Go.Proofs.YtghkfopcjdkieaaDoor

namespace Go.Proofs.YtghkfopcjdkieaaDoor
set_option linter.all false
set_option linter.unusedSimpArgs false
set_option linter.unusedVariables false
open Go.ChangeShapes Go.WideShapes Go.ChangeAt Go.RowKit

set_option maxRecDepth 100000 in
theorem unitOwns_lifted (os : Os) (started : os.Started) (H : Type) (enc : TypeId × Value → H) :
    ReturnsInHanded {} Tryd.checked os 14 .any (fun w args => (Rows.unitOwnsSpec.pre enc Tryd.prog Tryd.f14 [] false w args ∧ laidMetH Tryd.prog laidR w) ∧ sizedMet enc Tryd.prog Tryd.f14 (OpenSpec.ofChange Rows.unitOwnsSpec) false w args) (Rows.unitOwnsSpec.post enc Tryd.prog Tryd.f14 false true false false) := by
  refine law_liftL (fn := Tryd.f14) (s := Rows.unitOwnsSpec) started 3 (by kernel_rfl) Tryd.func14
      (ChangeSpec.witness_shaped (enc := enc) (C := Tryd.checked) (os := os) (X := fun w _ => laidMetH Tryd.prog laidR w) false (World.doorLaid Tryd.prog 400 os)
        #[.agg #[.string ByteArray.empty, .int .i64 0, .int .i64 0, .int .i64 0, .int .i64 0, .int .i64 0, .int .i64 0, .int .i64 0, .int .i64 0, .int .i64 0, .int .i64 0, .int .i64 0], .agg #[.int .i64 0, .slice none 0 0, .slice none 0 0], .agg #[.slice none 0 0, .slice none 0 0, .slice none 0 0]] 8 rfl
        (World.shaped_of_RefB (by kernel_rfl) (by kernel_rfl)) (by kernel_rfl) (by kernel_rfl) (by kernel_rfl) (door_met os _))
      (by rw [Tryd.params14]; decide +kernel) (by rw [Tryd.params14]; rfl) (by kernel_rfl) rfl (fun ds h => by match ds, h with | [d1, d2, d3], _ => rfl) ?_
  intro W base args ds ps hval hA hgl
  rw [Tryd.params14] at hA hval
  obtain ⟨v0, vs0, d0, ds0, p0, q0, hargs, rfl, rfl, h0, r0⟩ := trodAll_cons hA
  obtain ⟨v1, vs1, d1, ds1, p1, q1, rfl, rfl, rfl, h1, r1⟩ := trodAll_cons r0
  obtain ⟨v2, vs2, d2, ds2, p2, q2, rfl, rfl, rfl, h2, r2⟩ := trodAll_cons r1
  obtain ⟨rfl, rfl, rfl⟩ := trodAll_nil r2
  obtain rfl : args = #[v0, v1, v2] := by cases args; simp_all
  obtain ⟨u, s, rfl, hnm⟩ := open_unit (hval 0 25 v0 rfl rfl)
  obtain ⟨start, ra, rb, roff, rn, rcap, R, sa, sb, soff, n, cap, S, rfl, hrr, hr⟩ := open_task (hval 1 37 v1 rfl rfl) h1
  obtain ⟨ua, ub, uo, N, ucap, U, Sn, ta, tb, to_, M, tcap, T, ga, gb, go_, G, gcap, Q, rfl, hnms, tw⟩ := open_team (hval 2 77 v2 rfl rfl) h2
  exact owns_walk u s hnm start ra rb roff rn rcap R sa sb soff n cap S ua ub uo N ucap U Sn hnms ta tb to_ M tcap T ga gb go_ G gcap Q W hrr hr tw hgl

theorem unitOwns_over : Rows.UnitOwnsSaid :=
  OpenClaim.holds_of_wide 14 Tryd.f14 rfl rfl rfl rfl rfl rfl rfl ⟨rfl, rfl, rfl, rfl, rfl⟩ rfl rfl rfl rfl rfl (by kernel_rfl) Tryd.func14 (by kernel_rfl)
    (of_decide_eq_true (by kernel_rfl)) (by unfold Func.isWrapper; first | (rw [if_pos (by decide +kernel)]; kernel_rfl) | (rw [if_neg (by decide +kernel)]; exact ⟨rfl, rfl⟩))
    (fun os started H enc _ => unitOwns_lifted os started H enc)
end Go.Proofs.YtghkfopcjdkieaaDoor
