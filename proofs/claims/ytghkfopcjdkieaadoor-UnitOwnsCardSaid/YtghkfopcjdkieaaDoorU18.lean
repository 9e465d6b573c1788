/-
  The plan of a unit.
-/
import Derived.Test.YtghkfopcjdkieaaDoorU17
namespace Go.Proofs.YtghkfopcjdkieaaDoor
set_option linter.all false
set_option linter.unusedSimpArgs false
set_option linter.unusedVariables false
open Go.RowKit

/-- Where and when a unit starts. -/
def startG (u : UC) (start : Int) : GC := ⟨u.bx, u.by_, start, u.fuel⟩
/-- Are a plan's arguments valid? -/
def planIn (u : UC) (s : ByteArray) (start : Int) (n : Nat) (S : Nat → FC) (rn : Nat) (R : Nat → WC) : Bool := unitB u s && weatherB n S && routeB rn R && timeB start
/-- What 'Plan' answers. -/
def PlanRes (u : UC) (s : ByteArray) (start : Int) (n : Nat) (S : Nat → FC) (rn : Nat) (R : Nat → WC) (w w' : World) (e : Ending) : Prop :=
  Frm w.heap.size [] w w' ∧
    ((planIn u s start n S rn R = false ∧ e = .returned (.tuple #[.slice none 0 0, .int .i64 (-1), .int .i64 0, .int .i64 2])) ∨
     (planIn u s start n S rn R = true ∧ 30 < rn ∧ e = .returned (.tuple #[.slice none 0 0, .int .i64 (-1), .int .i64 0, .int .i64 3])) ∨
     (planIn u s start n S rn R = true ∧ rn ≤ 30 ∧ (∀ i, i < rn → ysq u n S start R (startG u start) i = 0) ∧ ∃ ov own, e = .returned (.tuple #[ov, .int .i64 (-1), .int .i64 0, .int .i64 0]) ∧
        Sl w' 49 8 ov (rn + 1) (legsC u R (startG u start) rn ++ (homeLeg u (gsq u R (startG u start) rn)).cells) own ∧ (∀ b, own = some b → w.heap.size ≤ b)) ∨
     (planIn u s start n S rn R = true ∧ rn ≤ 30 ∧ ∃ i : Nat, i < rn ∧ (∀ k, k < i → ysq u n S start R (startG u start) k = 0) ∧ ysq u n S start R (startG u start) i ≠ 0 ∧
        e = .returned (.tuple #[.slice none 0 0, .int .i64 i, .int .i64 (ysq u n S start R (startG u start) i), .int .i64 9])))
theorem uok_of {u : UC} {s : ByteArray} (h : unitB u s = true) : UOK u := by
  unfold unitB limB lim timeB at h
  simp only [Bool.and_eq_true, inB_iff] at h
  obtain ⟨⟨⟨_, hp⟩, ht⟩, ⟨⟨⟨⟨⟨⟨⟨h0, h1⟩, h2⟩, h3⟩, h4⟩, h5⟩, h6⟩, h7⟩⟩ := h
  exact ⟨by omega, by omega, by omega, by omega, by omega, hp⟩

set_option maxRecDepth 100000 in
set_option maxHeartbeats 4000000 in
theorem Plan_any (u : UC) (s : ByteArray) (hnm : u.name = .string s) (start : Int) (ad : Option Addr) (b off n cap : Nat) (S : Nat → FC) (rad : Option Addr) (rb roff rn rcap : Nat) (R : Nat → WC) (w : World)
    (hr : Rw w 8 ad b off n fun i => (S i).cells) (hrr : Rw w 3 rad rb roff rn fun i => (R i).cells) (hgl : Glob w) :
    Calls Tryd.prog 24 #[.agg u.cells.toArray, .int .i64 start, .slice rad rn rcap, .slice ad n cap] w fun e w' => PlanRes u s start n S rn R w w' e := by
  have hf0 := Tryd.func24
  have HR := Lib.hid hr
  have HRR := Lib.hid hrr
  have HGL := Lib.hid hgl
  have HNM := Lib.hid hnm
  clear hnm hgl hrr hr
  go_enter Tryd.func24, Tryd.ntmps24
  iterate 6 go_step
  refine named ?_; intro W hW
  have hb : Blk W w.heap.size 25 u.cells := by rw [hW]; repeat (first | exact Blk.new w 25 u.cells | refine Blk.alloc' ?_)
  have hf : Frm w.heap.size [] w W := by rw [hW]; repeat (first | with_reducible exact Frm.refl _ _ _ | with_reducible refine Frm.drewN ?_ | with_reducible refine Frm.drew ?_ | ((with_reducible refine Frm.setCell' ?_ ?_); · first | (left; simp; done) | (right; simp; done) | (right; simp; omega)) | ((with_reducible refine Frm.alloc' ?_ ?_); · first | exact Nat.le_refl _ | (simp; done) | (simp; omega)))
  clear hW hf0
  have HX := Lib.hid (And.intro hb hf)
  clear hb hf
  have hsi := UC.info u
  have HSI := Lib.hid hsi
  clear hsi
  cases hc0 : unitB u s
  · have HC0 := Lib.hid hc0; clear hc0
    go_wp2_with (first | (with_reducible refine atLoad 25 rfl ?_; refine wpList_loadB (ty := 25) rfl rfl HX.out.1 rfl Tryd.underlying25 rfl HSI.out ?_) | (go_at_call 19; refine (checkUnit_any u s HNM.out _).mono ?_; rintro e w1 ⟨rfl, hf1⟩; simp only [HC0.out]; replace HX := Lib.hid (boxNext HX.out hf1); clear hf1) | (go_at_call 21; refine (weather_any ad b off n cap S _ (HR.out.frm HX.out.2 (Nat.le_refl _))).mono ?_; rintro e w1 ⟨rfl, hf1⟩; simp only [HC0.out]; replace HX := Lib.hid (boxNext HX.out hf1); clear hf1) | (go_at_call 60; refine (routed_any rad rb roff rn rcap R _ (HRR.out.frm HX.out.2 (Nat.le_refl _))).mono ?_; rintro e w1 ⟨rfl, hf1⟩; simp only [HC0.out]; replace HX := Lib.hid (boxNext HX.out hf1); clear hf1) | (go_at_call 52; refine (timed_any _ _).mono ?_; rintro e w' ⟨rfl, rfl⟩; simp only [HC0.out]))
    refine bodyPost_ret (v := .tuple #[.slice none 0 0, .int .i64 (-1), .int .i64 0, .int .i64 2]) (by simp [results, Tryd.results24, go_sem]) rfl ?_
    exact ⟨HX.out.2, .inl ⟨by unfold planIn; simp [HC0.out], rfl⟩⟩
  · have HC0 := Lib.hid hc0; clear hc0
    cases hc1 : weatherB n S
    · have HC1 := Lib.hid hc1; clear hc1
      go_wp2_with (first | (with_reducible refine atLoad 25 rfl ?_; refine wpList_loadB (ty := 25) rfl rfl HX.out.1 rfl Tryd.underlying25 rfl HSI.out ?_) | (go_at_call 19; refine (checkUnit_any u s HNM.out _).mono ?_; rintro e w1 ⟨rfl, hf1⟩; simp only [HC0.out, HC1.out]; replace HX := Lib.hid (boxNext HX.out hf1); clear hf1) | (go_at_call 21; refine (weather_any ad b off n cap S _ (HR.out.frm HX.out.2 (Nat.le_refl _))).mono ?_; rintro e w1 ⟨rfl, hf1⟩; simp only [HC0.out, HC1.out]; replace HX := Lib.hid (boxNext HX.out hf1); clear hf1) | (go_at_call 60; refine (routed_any rad rb roff rn rcap R _ (HRR.out.frm HX.out.2 (Nat.le_refl _))).mono ?_; rintro e w1 ⟨rfl, hf1⟩; simp only [HC0.out, HC1.out]; replace HX := Lib.hid (boxNext HX.out hf1); clear hf1) | (go_at_call 52; refine (timed_any _ _).mono ?_; rintro e w' ⟨rfl, rfl⟩; simp only [HC0.out, HC1.out]))
      refine bodyPost_ret (v := .tuple #[.slice none 0 0, .int .i64 (-1), .int .i64 0, .int .i64 2]) (by simp [results, Tryd.results24, go_sem]) rfl ?_
      exact ⟨HX.out.2, .inl ⟨by unfold planIn; simp [HC0.out, HC1.out], rfl⟩⟩
    · have HC1 := Lib.hid hc1; clear hc1
      cases hc2 : routeB rn R
      · have HC2 := Lib.hid hc2; clear hc2
        go_wp2_with (first | (with_reducible refine atLoad 25 rfl ?_; refine wpList_loadB (ty := 25) rfl rfl HX.out.1 rfl Tryd.underlying25 rfl HSI.out ?_) | (go_at_call 19; refine (checkUnit_any u s HNM.out _).mono ?_; rintro e w1 ⟨rfl, hf1⟩; simp only [HC0.out, HC1.out, HC2.out]; replace HX := Lib.hid (boxNext HX.out hf1); clear hf1) | (go_at_call 21; refine (weather_any ad b off n cap S _ (HR.out.frm HX.out.2 (Nat.le_refl _))).mono ?_; rintro e w1 ⟨rfl, hf1⟩; simp only [HC0.out, HC1.out, HC2.out]; replace HX := Lib.hid (boxNext HX.out hf1); clear hf1) | (go_at_call 60; refine (routed_any rad rb roff rn rcap R _ (HRR.out.frm HX.out.2 (Nat.le_refl _))).mono ?_; rintro e w1 ⟨rfl, hf1⟩; simp only [HC0.out, HC1.out, HC2.out]; replace HX := Lib.hid (boxNext HX.out hf1); clear hf1) | (go_at_call 52; refine (timed_any _ _).mono ?_; rintro e w' ⟨rfl, rfl⟩; simp only [HC0.out, HC1.out, HC2.out]))
        refine bodyPost_ret (v := .tuple #[.slice none 0 0, .int .i64 (-1), .int .i64 0, .int .i64 2]) (by simp [results, Tryd.results24, go_sem]) rfl ?_
        exact ⟨HX.out.2, .inl ⟨by unfold planIn; simp [HC0.out, HC1.out, HC2.out], rfl⟩⟩
      · have HC2 := Lib.hid hc2; clear hc2
        cases hc3 : timeB start
        · have HC3 := Lib.hid hc3; clear hc3
          go_wp2_with (first | (with_reducible refine atLoad 25 rfl ?_; refine wpList_loadB (ty := 25) rfl rfl HX.out.1 rfl Tryd.underlying25 rfl HSI.out ?_) | (go_at_call 19; refine (checkUnit_any u s HNM.out _).mono ?_; rintro e w1 ⟨rfl, hf1⟩; simp only [HC0.out, HC1.out, HC2.out, HC3.out]; replace HX := Lib.hid (boxNext HX.out hf1); clear hf1) | (go_at_call 21; refine (weather_any ad b off n cap S _ (HR.out.frm HX.out.2 (Nat.le_refl _))).mono ?_; rintro e w1 ⟨rfl, hf1⟩; simp only [HC0.out, HC1.out, HC2.out, HC3.out]; replace HX := Lib.hid (boxNext HX.out hf1); clear hf1) | (go_at_call 60; refine (routed_any rad rb roff rn rcap R _ (HRR.out.frm HX.out.2 (Nat.le_refl _))).mono ?_; rintro e w1 ⟨rfl, hf1⟩; simp only [HC0.out, HC1.out, HC2.out, HC3.out]; replace HX := Lib.hid (boxNext HX.out hf1); clear hf1) | (go_at_call 52; refine (timed_any _ _).mono ?_; rintro e w' ⟨rfl, rfl⟩; simp only [HC0.out, HC1.out, HC2.out, HC3.out]))
          refine bodyPost_ret (v := .tuple #[.slice none 0 0, .int .i64 (-1), .int .i64 0, .int .i64 2]) (by simp [results, Tryd.results24, go_sem]) rfl ?_
          exact ⟨HX.out.2, .inl ⟨by unfold planIn; simp [HC0.out, HC1.out, HC2.out, HC3.out], rfl⟩⟩
        · have HC3 := Lib.hid hc3; clear hc3
          have hin : planIn u s start n S rn R = true := by unfold planIn; simp [HC0.out, HC1.out, HC2.out, HC3.out]
          by_cases h30 : 30 < rn
          · have h30' : (30 : Int) < (rn : Int) := by omega
            go_wp2_with (first | (with_reducible refine atLoad 25 rfl ?_; refine wpList_loadB (ty := 25) rfl rfl HX.out.1 rfl Tryd.underlying25 rfl HSI.out ?_) | (go_at_call 19; refine (checkUnit_any u s HNM.out _).mono ?_; rintro e w1 ⟨rfl, hf1⟩; simp only [HC0.out, HC1.out, HC2.out, HC3.out]; replace HX := Lib.hid (boxNext HX.out hf1); clear hf1) | (go_at_call 21; refine (weather_any ad b off n cap S _ (HR.out.frm HX.out.2 (Nat.le_refl _))).mono ?_; rintro e w1 ⟨rfl, hf1⟩; simp only [HC0.out, HC1.out, HC2.out, HC3.out]; replace HX := Lib.hid (boxNext HX.out hf1); clear hf1) | (go_at_call 60; refine (routed_any rad rb roff rn rcap R _ (HRR.out.frm HX.out.2 (Nat.le_refl _))).mono ?_; rintro e w1 ⟨rfl, hf1⟩; simp only [HC0.out, HC1.out, HC2.out, HC3.out]; replace HX := Lib.hid (boxNext HX.out hf1); clear hf1) | (go_at_call 52; refine (timed_any _ _).mono ?_; rintro e w' ⟨rfl, rfl⟩; simp only [HC0.out, HC1.out, HC2.out, HC3.out]))
            refine bodyPost_ret (v := .tuple #[.slice none 0 0, .int .i64 (-1), .int .i64 0, .int .i64 3]) (by simp [results, Tryd.results24, go_sem]) rfl ?_
            exact ⟨HX.out.2, .inr (.inl ⟨hin, h30, rfl⟩)⟩
          · have h30' : ¬ (30 : Int) < (rn : Int) := by omega
            go_upto_region 5 with (first | (with_reducible refine atLoad 25 rfl ?_; refine wpList_loadB (ty := 25) rfl rfl HX.out.1 rfl Tryd.underlying25 rfl HSI.out ?_) | (go_at_call 19; refine (checkUnit_any u s HNM.out _).mono ?_; rintro e w1 ⟨rfl, hf1⟩; simp only [HC0.out, HC1.out, HC2.out, HC3.out]; replace HX := Lib.hid (boxNext HX.out hf1); clear hf1) | (go_at_call 21; refine (weather_any ad b off n cap S _ (HR.out.frm HX.out.2 (Nat.le_refl _))).mono ?_; rintro e w1 ⟨rfl, hf1⟩; simp only [HC0.out, HC1.out, HC2.out, HC3.out]; replace HX := Lib.hid (boxNext HX.out hf1); clear hf1) | (go_at_call 60; refine (routed_any rad rb roff rn rcap R _ (HRR.out.frm HX.out.2 (Nat.le_refl _))).mono ?_; rintro e w1 ⟨rfl, hf1⟩; simp only [HC0.out, HC1.out, HC2.out, HC3.out]; replace HX := Lib.hid (boxNext HX.out hf1); clear hf1) | (go_at_call 52; refine (timed_any _ _).mono ?_; rintro e w' ⟨rfl, rfl⟩; simp only [HC0.out, HC1.out, HC2.out, HC3.out]))
            have hU : u.cells = [.string s, .int .i64 u.speed, .int .i64 u.fuel, .int .i64 u.burn, .int .i64 u.reserve, .int .i64 u.hours, .int .i64 u.sea, .int .i64 u.wind, .int .i64 u.bx, .int .i64 u.by_, .int .i64 u.margin, .int .i64 u.level] := by unfold UC.cells; rw [HNM.out]
            have hlo := loadVarB HX.out.1 (P := Tryd.prog) Tryd.underlying25 rfl HSI.out
            rw [hU] at hlo
            have c8 := HX.out.1.cell 8
            have c9 := HX.out.1.cell 9
            have c2 := HX.out.1.cell 2
            rw [hU] at c8 c9 c2
            simp only [List.getElem?_cons_succ, List.getElem?_cons_zero] at c8 c9 c2
            have HLO := Lib.hid hlo
            have HUU := Lib.hid hU
            clear hU hlo
            go_wp2_with (with_reducible refine atLoad 25 rfl ?_; refine wpList_loadE rfl rfl rfl HLO.out ?_)
            have hT : Blk (w1.alloc (.cells #[.string s, .int .i64 u.speed, .int .i64 u.fuel, .int .i64 u.burn, .int .i64 u.reserve, .int .i64 u.hours, .int .i64 u.sea, .int .i64 u.wind, .int .i64 u.bx, .int .i64 u.by_, .int .i64 u.margin, .int .i64 u.level, .slice ad n cap, .int .i64 u.bx, .int .i64 u.by_, .int .i64 start, .int .i64 start, .int .i64 u.fuel] 103)) w1.heap.size 103 (tripC u (.slice ad n cap) start (startG u start)) := by
              have e : tripC u (.slice ad n cap) start (startG u start) = [.string s, .int .i64 u.speed, .int .i64 u.fuel, .int .i64 u.burn, .int .i64 u.reserve, .int .i64 u.hours, .int .i64 u.sea, .int .i64 u.wind, .int .i64 u.bx, .int .i64 u.by_, .int .i64 u.margin, .int .i64 u.level, .slice ad n cap, .int .i64 u.bx, .int .i64 u.by_, .int .i64 start, .int .i64 start, .int .i64 u.fuel] := by
                unfold tripC; rw [HUU.out]; rfl
              rw [e]; exact Blk.new _ _ _
            have hu : UOK u := uok_of HC0.out
            have hst : 0 ≤ start ∧ start ≤ 1073741824 := by have := HC3.out; unfold timeB at this; exact inB_iff.1 this
            have hg : GOK (startG u start) := ⟨hu.base, hst, by have := hu.fuel; show 0 ≤ u.fuel ∧ u.fuel ≤ _; omega⟩
            have hfT : Frm w.heap.size [] w (w1.alloc _) := HX.out.2.alloc HX.out.2.size (.cells #[.string s, .int .i64 u.speed, .int .i64 u.fuel, .int .i64 u.burn, .int .i64 u.reserve, .int .i64 u.hours, .int .i64 u.sea, .int .i64 u.wind, .int .i64 u.bx, .int .i64 u.by_, .int .i64 u.margin, .int .i64 u.level, .slice ad n cap, .int .i64 u.bx, .int .i64 u.by_, .int .i64 start, .int .i64 start, .int .i64 u.fuel] 103)
            refine (plan_any w1.heap.size u start (startG u start) ad b off n cap S rad rb roff rn rcap R w _ hfT HR.out HRR.out HGL.out hT HX.out.2.size hu hg (fun i hi => route_at HC2.out hi) hst (by omega)).mono ?_
            have hsz := HX.out.2.size
            rintro e w2 ⟨hf2, (⟨ov, own, rfl, hsl, hown, hall⟩ | ⟨i, hi, hno, hy, rfl⟩)⟩
            · have hf3 : Frm w.heap.size [] w w2 := hfT.call hf2 hfT.size (by simp; omega)
              obtain ⟨oa, ocp, rfl⟩ := hsl.form
              clear hf2 hfT hT hg
              have HF3 := Lib.hid hf3
              have HSL := Lib.hid hsl
              have HOWN := Lib.hid hown
              have HALL := Lib.hid hall
              clear hall hown hsl hf3
              go_wp2_with fail
              refine bodyPost_ret (v := .tuple #[.slice oa (rn + 1) ocp, .int .i64 (-1), .int .i64 0, .int .i64 0]) (by simp [results, Tryd.results24, go_sem]) rfl ?_
              exact ⟨HF3.out, .inr (.inr (.inl ⟨hin, by omega, HALL.out, _, own, rfl, HSL.out, fun b hb => by have := HOWN.out b hb; simp at this; omega⟩))⟩
            · have hf3 : Frm w.heap.size [] w w2 := hfT.call hf2 hfT.size (by simp; omega)
              obtain ⟨y, hyy⟩ : ∃ y, y = ysq u n S start R (startG u start) i := ⟨_, rfl⟩
              rw [← hyy] at hy ⊢
              clear hf2 hfT hT hg
              have HF3 := Lib.hid hf3
              have HNO := Lib.hid hno
              have HYY := Lib.hid hyy
              have HY := Lib.hid hy
              clear hy hyy hno hf3
              go_wp2_with fail
              refine bodyPost_ret (v := .tuple #[.slice none 0 0, .int .i64 i, .int .i64 y, .int .i64 9]) (by simp [results, Tryd.results24, go_sem]) rfl ?_
              exact ⟨HF3.out, .inr (.inr (.inr ⟨hin, by omega, i, hi, HNO.out, by rw [← HYY.out]; exact HY.out, by rw [← HYY.out]⟩))⟩
end Go.Proofs.YtghkfopcjdkieaaDoor
