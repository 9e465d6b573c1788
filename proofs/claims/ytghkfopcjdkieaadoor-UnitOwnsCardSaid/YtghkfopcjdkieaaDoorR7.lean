/-
  The document's Plan.
-/
import Derived.Test.YtghkfopcjdkieaaDoorR6
namespace Go.Proofs.YtghkfopcjdkieaaDoor
set_option linter.all false
set_option linter.unusedSimpArgs false
set_option linter.unusedVariables false
open Go.RowKit

theorem fronts_of {n : Nat} {S : Nat → FC} (h : weatherB n S = true) (i : Nat) (hi : i < n) : frontB (S i) = true := by
  unfold weatherB at h
  simp only [Bool.and_eq_true, List.all_eq_true, List.mem_range] at h
  exact h.2 i hi

set_option maxRecDepth 100000 in
set_option maxHeartbeats 4000000 in
theorem refPlan_any (u : UC) (s : ByteArray) (hnm : u.name = .string s) (start : Int) (ad : Option Addr) (b off n cap : Nat) (S : Nat → FC) (rad : Option Addr) (rb roff rn rcap : Nat) (R : Nat → WC) (w : World)
    (hr : Rw w 8 ad b off n fun i => (S i).cells) (hrr : Rw w 3 rad rb roff rn fun i => (R i).cells) :
    Calls Tryd.prog 25 #[.agg u.cells.toArray, .int .i64 start, .slice rad rn rcap, .slice ad n cap] w fun e w' => PlanRes u s start n S rn R w w' e := by
  have hf0 := Tryd.func25
  have HR := Lib.hid hr
  have HRR := Lib.hid hrr
  have HNM := Lib.hid hnm
  clear hnm hrr hr
  go_enter Tryd.func25, Tryd.ntmps25
  go_upto_region 1 with fail
  refine namedC ?_; intro W hW
  have hb : Blk W w.heap.size 25 u.cells := by rw [hW]; repeat (first | exact Blk.new w 25 u.cells | refine Blk.alloc' ?_)
  have hf : Frm w.heap.size [] w W := by rw [hW]; repeat (first | with_reducible exact Frm.refl _ _ _ | with_reducible refine Frm.drewN ?_ | with_reducible refine Frm.drew ?_ | ((with_reducible refine Frm.setCell' ?_ ?_); · first | (left; simp; done) | (right; simp; done) | (right; simp; omega)) | ((with_reducible refine Frm.alloc' ?_ ?_); · first | exact Nat.le_refl _ | (simp; done) | (simp; omega)))
  clear hW hf0
  have HX := Lib.hid (And.intro hb hf)
  clear hb hf
  have hsi := UC.info u
  have HSI := Lib.hid hsi
  clear hsi
  cases hc0 : unitB u s
  · have HC0 := Lib.hid hc0; clear hc0
    go_wp2_with (first | (with_reducible refine atLoad 25 rfl ?_; refine wpList_loadB (ty := 25) rfl rfl HX.out.1 rfl Tryd.underlying25 rfl HSI.out ?_) | (go_at_call 20; refine (refCheckUnit_any u s HNM.out _).mono ?_; rintro e w1 ⟨rfl, hf1⟩; simp only [HC0.out]; replace HX := Lib.hid (boxNext HX.out hf1); clear hf1) | (go_at_call 22; refine (refWeather_any ad b off n cap S _ (HR.out.frm HX.out.2 (Nat.le_refl _))).mono ?_; rintro e w1 ⟨rfl, hf1⟩; simp only [HC0.out]; replace HX := Lib.hid (boxNext HX.out hf1); clear hf1) | (go_at_call 62; refine (refWays_any rad rb roff rn rcap R _ (HRR.out.frm HX.out.2 (Nat.le_refl _))).mono ?_; rintro e w1 ⟨rfl, hf1⟩; simp only [HC0.out]; replace HX := Lib.hid (boxNext HX.out hf1); clear hf1) | (go_at_call 46; refine (refTime_any _ _).mono ?_; rintro e w' ⟨rfl, rfl⟩; simp only [HC0.out]))
    refine bodyPost_ret (v := .tuple #[.slice none 0 0, .int .i64 (-1), .int .i64 0, .int .i64 2]) (by simp [results, Tryd.results25, go_sem]) rfl ?_
    exact ⟨HX.out.2, .inl ⟨by unfold planIn; simp [HC0.out], rfl⟩⟩
  · have HC0 := Lib.hid hc0; clear hc0
    cases hc1 : weatherB n S
    · have HC1 := Lib.hid hc1; clear hc1
      go_wp2_with (first | (with_reducible refine atLoad 25 rfl ?_; refine wpList_loadB (ty := 25) rfl rfl HX.out.1 rfl Tryd.underlying25 rfl HSI.out ?_) | (go_at_call 20; refine (refCheckUnit_any u s HNM.out _).mono ?_; rintro e w1 ⟨rfl, hf1⟩; simp only [HC0.out, HC1.out]; replace HX := Lib.hid (boxNext HX.out hf1); clear hf1) | (go_at_call 22; refine (refWeather_any ad b off n cap S _ (HR.out.frm HX.out.2 (Nat.le_refl _))).mono ?_; rintro e w1 ⟨rfl, hf1⟩; simp only [HC0.out, HC1.out]; replace HX := Lib.hid (boxNext HX.out hf1); clear hf1) | (go_at_call 62; refine (refWays_any rad rb roff rn rcap R _ (HRR.out.frm HX.out.2 (Nat.le_refl _))).mono ?_; rintro e w1 ⟨rfl, hf1⟩; simp only [HC0.out, HC1.out]; replace HX := Lib.hid (boxNext HX.out hf1); clear hf1) | (go_at_call 46; refine (refTime_any _ _).mono ?_; rintro e w' ⟨rfl, rfl⟩; simp only [HC0.out, HC1.out]))
      refine bodyPost_ret (v := .tuple #[.slice none 0 0, .int .i64 (-1), .int .i64 0, .int .i64 2]) (by simp [results, Tryd.results25, go_sem]) rfl ?_
      exact ⟨HX.out.2, .inl ⟨by unfold planIn; simp [HC0.out, HC1.out], rfl⟩⟩
    · have HC1 := Lib.hid hc1; clear hc1
      cases hc2 : routeB rn R
      · have HC2 := Lib.hid hc2; clear hc2
        go_wp2_with (first | (with_reducible refine atLoad 25 rfl ?_; refine wpList_loadB (ty := 25) rfl rfl HX.out.1 rfl Tryd.underlying25 rfl HSI.out ?_) | (go_at_call 20; refine (refCheckUnit_any u s HNM.out _).mono ?_; rintro e w1 ⟨rfl, hf1⟩; simp only [HC0.out, HC1.out, HC2.out]; replace HX := Lib.hid (boxNext HX.out hf1); clear hf1) | (go_at_call 22; refine (refWeather_any ad b off n cap S _ (HR.out.frm HX.out.2 (Nat.le_refl _))).mono ?_; rintro e w1 ⟨rfl, hf1⟩; simp only [HC0.out, HC1.out, HC2.out]; replace HX := Lib.hid (boxNext HX.out hf1); clear hf1) | (go_at_call 62; refine (refWays_any rad rb roff rn rcap R _ (HRR.out.frm HX.out.2 (Nat.le_refl _))).mono ?_; rintro e w1 ⟨rfl, hf1⟩; simp only [HC0.out, HC1.out, HC2.out]; replace HX := Lib.hid (boxNext HX.out hf1); clear hf1) | (go_at_call 46; refine (refTime_any _ _).mono ?_; rintro e w' ⟨rfl, rfl⟩; simp only [HC0.out, HC1.out, HC2.out]))
        refine bodyPost_ret (v := .tuple #[.slice none 0 0, .int .i64 (-1), .int .i64 0, .int .i64 2]) (by simp [results, Tryd.results25, go_sem]) rfl ?_
        exact ⟨HX.out.2, .inl ⟨by unfold planIn; simp [HC0.out, HC1.out, HC2.out], rfl⟩⟩
      · have HC2 := Lib.hid hc2; clear hc2
        cases hc3 : timeB start
        · have HC3 := Lib.hid hc3; clear hc3
          go_wp2_with (first | (with_reducible refine atLoad 25 rfl ?_; refine wpList_loadB (ty := 25) rfl rfl HX.out.1 rfl Tryd.underlying25 rfl HSI.out ?_) | (go_at_call 20; refine (refCheckUnit_any u s HNM.out _).mono ?_; rintro e w1 ⟨rfl, hf1⟩; simp only [HC0.out, HC1.out, HC2.out, HC3.out]; replace HX := Lib.hid (boxNext HX.out hf1); clear hf1) | (go_at_call 22; refine (refWeather_any ad b off n cap S _ (HR.out.frm HX.out.2 (Nat.le_refl _))).mono ?_; rintro e w1 ⟨rfl, hf1⟩; simp only [HC0.out, HC1.out, HC2.out, HC3.out]; replace HX := Lib.hid (boxNext HX.out hf1); clear hf1) | (go_at_call 62; refine (refWays_any rad rb roff rn rcap R _ (HRR.out.frm HX.out.2 (Nat.le_refl _))).mono ?_; rintro e w1 ⟨rfl, hf1⟩; simp only [HC0.out, HC1.out, HC2.out, HC3.out]; replace HX := Lib.hid (boxNext HX.out hf1); clear hf1) | (go_at_call 46; refine (refTime_any _ _).mono ?_; rintro e w' ⟨rfl, rfl⟩; simp only [HC0.out, HC1.out, HC2.out, HC3.out]))
          refine bodyPost_ret (v := .tuple #[.slice none 0 0, .int .i64 (-1), .int .i64 0, .int .i64 2]) (by simp [results, Tryd.results25, go_sem]) rfl ?_
          exact ⟨HX.out.2, .inl ⟨by unfold planIn; simp [HC0.out, HC1.out, HC2.out, HC3.out], rfl⟩⟩
        · have HC3 := Lib.hid hc3; clear hc3
          have hin : planIn u s start n S rn R = true := by unfold planIn; simp [HC0.out, HC1.out, HC2.out, HC3.out]
          by_cases h30 : 30 < rn
          · have h30' : (30 : Int) < (rn : Int) := by omega
            go_wp2_with (first | (with_reducible refine atLoad 25 rfl ?_; refine wpList_loadB (ty := 25) rfl rfl HX.out.1 rfl Tryd.underlying25 rfl HSI.out ?_) | (go_at_call 20; refine (refCheckUnit_any u s HNM.out _).mono ?_; rintro e w1 ⟨rfl, hf1⟩; simp only [HC0.out, HC1.out, HC2.out, HC3.out]; replace HX := Lib.hid (boxNext HX.out hf1); clear hf1) | (go_at_call 22; refine (refWeather_any ad b off n cap S _ (HR.out.frm HX.out.2 (Nat.le_refl _))).mono ?_; rintro e w1 ⟨rfl, hf1⟩; simp only [HC0.out, HC1.out, HC2.out, HC3.out]; replace HX := Lib.hid (boxNext HX.out hf1); clear hf1) | (go_at_call 62; refine (refWays_any rad rb roff rn rcap R _ (HRR.out.frm HX.out.2 (Nat.le_refl _))).mono ?_; rintro e w1 ⟨rfl, hf1⟩; simp only [HC0.out, HC1.out, HC2.out, HC3.out]; replace HX := Lib.hid (boxNext HX.out hf1); clear hf1) | (go_at_call 46; refine (refTime_any _ _).mono ?_; rintro e w' ⟨rfl, rfl⟩; simp only [HC0.out, HC1.out, HC2.out, HC3.out]))
            refine bodyPost_ret (v := .tuple #[.slice none 0 0, .int .i64 (-1), .int .i64 0, .int .i64 3]) (by simp [results, Tryd.results25, go_sem]) rfl ?_
            exact ⟨HX.out.2, .inr (.inl ⟨hin, h30, rfl⟩)⟩
          · have h30' : ¬ (30 : Int) < (rn : Int) := by omega
            go_upto_region 5 with (first | (with_reducible refine atLoad 25 rfl ?_; refine wpList_loadB (ty := 25) rfl rfl HX.out.1 rfl Tryd.underlying25 rfl HSI.out ?_) | (go_at_call 20; refine (refCheckUnit_any u s HNM.out _).mono ?_; rintro e w1 ⟨rfl, hf1⟩; simp only [HC0.out, HC1.out, HC2.out, HC3.out]; replace HX := Lib.hid (boxNext HX.out hf1); clear hf1) | (go_at_call 22; refine (refWeather_any ad b off n cap S _ (HR.out.frm HX.out.2 (Nat.le_refl _))).mono ?_; rintro e w1 ⟨rfl, hf1⟩; simp only [HC0.out, HC1.out, HC2.out, HC3.out]; replace HX := Lib.hid (boxNext HX.out hf1); clear hf1) | (go_at_call 62; refine (refWays_any rad rb roff rn rcap R _ (HRR.out.frm HX.out.2 (Nat.le_refl _))).mono ?_; rintro e w1 ⟨rfl, hf1⟩; simp only [HC0.out, HC1.out, HC2.out, HC3.out]; replace HX := Lib.hid (boxNext HX.out hf1); clear hf1) | (go_at_call 46; refine (refTime_any _ _).mono ?_; rintro e w' ⟨rfl, rfl⟩; simp only [HC0.out, HC1.out, HC2.out, HC3.out]))
            have hU : u.cells = [.string s, .int .i64 u.speed, .int .i64 u.fuel, .int .i64 u.burn, .int .i64 u.reserve, .int .i64 u.hours, .int .i64 u.sea, .int .i64 u.wind, .int .i64 u.bx, .int .i64 u.by_, .int .i64 u.margin, .int .i64 u.level] := by unfold UC.cells; rw [HNM.out]
            have hlo := loadVarB HX.out.1 (P := Tryd.prog) Tryd.underlying25 rfl HSI.out
            rw [hU] at hlo
            have c8 := HX.out.1.cell 8
            have c9 := HX.out.1.cell 9
            have c2 := HX.out.1.cell 2
            rw [hU] at c8 c9 c2
            simp only [List.getElem?_cons_succ, List.getElem?_cons_zero] at c8 c9 c2
            have HLO := Lib.hid hlo
            have HUU := Lib.hid hU
            clear hU hlo
            go_wp2_with (with_reducible refine atLoad 25 rfl ?_; refine wpList_loadE rfl rfl rfl HLO.out ?_)
            have hu : UOK u := uok_of HC0.out
            have hst : 0 ≤ start ∧ start ≤ 1073741824 := by have := HC3.out; unfold timeB at this; exact inB_iff.1 this
            have hg : GOK (startG u start) := ⟨hu.base, hst, by have := hu.fuel; show 0 ≤ u.fuel ∧ u.fuel ≤ _; omega⟩
            have hua : (#[.string s, .int .i64 u.speed, .int .i64 u.fuel, .int .i64 u.burn, .int .i64 u.reserve, .int .i64 u.hours, .int .i64 u.sea, .int .i64 u.wind, .int .i64 u.bx, .int .i64 u.by_, .int .i64 u.margin, .int .i64 u.level] : Array Value) = u.cells.toArray := by rw [HUU.out]
            rw [hua]
            refine (refPlan1_any u start (startG u start) ad b off n cap S rad rb roff rn rcap R _ (HR.out.frm HX.out.2 (Nat.le_refl _)) (HRR.out.frm HX.out.2 (Nat.le_refl _)) (fronts_of HC1.out) hu hg (fun i hi => route_at HC2.out hi) hst (by omega)).mono ?_
            have hsz := HX.out.2.size
            rintro e w2 ⟨hf2, (⟨ov, own, rfl, hsl, hown, hall⟩ | ⟨i, hi, hno, hy, rfl⟩)⟩
            · have hf3 : Frm w.heap.size [] w w2 := HX.out.2.call hf2 HX.out.2.size (by simp)
              obtain ⟨oa, ocp, rfl⟩ := hsl.form
              clear hf2 hg
              have HF3 := Lib.hid hf3
              have HSL := Lib.hid hsl
              have HOWN := Lib.hid hown
              have HALL := Lib.hid hall
              clear hall hown hsl hf3
              go_wp2_with fail
              refine bodyPost_ret (v := .tuple #[.slice oa (rn + 1) ocp, .int .i64 (-1), .int .i64 0, .int .i64 0]) (by simp [results, Tryd.results25, go_sem]) rfl ?_
              exact ⟨HF3.out, .inr (.inr (.inl ⟨hin, by omega, HALL.out, _, own, rfl, HSL.out, fun b hb => by have := HOWN.out b hb; omega⟩))⟩
            · have hf3 : Frm w.heap.size [] w w2 := HX.out.2.call hf2 HX.out.2.size (by simp)
              obtain ⟨y, hyy⟩ : ∃ y, y = ysq u n S start R (startG u start) i := ⟨_, rfl⟩
              rw [← hyy] at hy ⊢
              clear hf2 hg
              have HF3 := Lib.hid hf3
              have HNO := Lib.hid hno
              have HYY := Lib.hid hyy
              have HY := Lib.hid hy
              clear hy hyy hno hf3
              go_wp2_with fail
              refine bodyPost_ret (v := .tuple #[.slice none 0 0, .int .i64 i, .int .i64 y, .int .i64 9]) (by simp [results, Tryd.results25, go_sem]) rfl ?_
              exact ⟨HF3.out, .inr (.inr (.inr ⟨hin, by omega, i, hi, HNO.out, by rw [← HYY.out]; exact HY.out, by rw [← HYY.out]⟩))⟩

/-- A slice of structs, all of whose cells are known, is read. -/
theorem Sl.rw {w : World} {E size : Nat} {v : Value} {n : Nat} {own : Option Nat} {f : Nat → List Value} (h : Sl w E size v n ((List.range n).flatMap f) own) (hf : ∀ i, (f i).length = size) :
    ∃ ad b off cap, v = .slice ad n cap ∧ Rw w size ad b off n f := by
  have hlen : ∀ m, ((List.range m).flatMap f).length = m * size := fun m => by
    induction m with
    | zero => simp
    | succ m ih => rw [List.range_succ, List.flatMap_append, List.length_append, ih]; simp [hf, Nat.add_mul]
  have hat : ∀ m i k, i < m → k < size → ((List.range m).flatMap f)[i * size + k]? = (f i)[k]? := fun m => by
    induction m with
    | zero => intro i k hi; omega
    | succ m ih =>
      intro i k hi hk
      rw [List.range_succ, List.flatMap_append]
      by_cases e : i < m
      · have hlt : i * size + k < ((List.range m).flatMap f).length := by
          rw [hlen]
          have : (i + 1) * size ≤ m * size := Nat.mul_le_mul_right _ e
          rw [Nat.add_mul] at this
          omega
        rw [List.getElem?_append_left hlt]
        exact ih i k e hk
      · obtain rfl : i = m := by omega
        rw [List.getElem?_append_right (by rw [hlen]; omega), hlen]
        simp
  rcases h.2 with ⟨e, e2, _⟩ | ⟨b, off, cap, arr, e1, e2, e3, e4, e5, e6, e7⟩
  · subst e2
    exact ⟨none, 0, 0, 0, e, ⟨fun h => absurd h (by omega), Nat.zero_le _, fun i hi => absurd hi (by omega)⟩⟩
  · refine ⟨some ⟨b, off, none⟩, b, off, cap, e1, ⟨fun _ => rfl, Nat.le_trans e4 e5, fun i hi k v hv => ?_⟩⟩
    have hk : k < size := by have := (List.getElem?_eq_some_iff.1 hv).1; rw [hf] at this; exact this
    subst e1
    have hj : i * size + k < ((List.range n).flatMap f).length := by
      rw [hlen]
      have : (i + 1) * size ≤ n * size := Nat.mul_le_mul_right _ hi
      rw [Nat.add_mul] at this
      omega
    have := h.cell (i * size + k) hj
    rw [hat n i k hi hk, hv, ← Nat.add_assoc] at this
    exact this

set_option maxRecDepth 100000 in
set_option maxHeartbeats 4000000 in
theorem sameLegs_any (ad : Option Addr) (b off n cap : Nat) (L : Nat → LC) (ad2 : Option Addr) (b2 off2 n2 cap2 : Nat) (L2 : Nat → LC) (w : World) (hr : Rw w 8 ad b off n fun i => (L i).cells) (hr2 : Rw w 8 ad2 b2 off2 n2 fun i => (L2 i).cells)
    (hn : n = n2) (hall : ∀ i, i < n → L i = L2 i) :
    Calls Tryd.prog 26 #[.slice ad n cap, .slice ad2 n2 cap2] w fun e w' => e = .returned (.bool true) ∧ Frm w.heap.size [] w w' := by
  subst hn
  have hf0 := Tryd.func26
  have hlen := hr.len
  have HR := Lib.hid hr
  have HR2 := Lib.hid hr2
  have HALL := Lib.hid hall
  have HLEN := Lib.hid hlen
  clear hlen hall hr2 hr
  go_enter Tryd.func26, Tryd.ntmps26
  go_wp2_with fail
  go_loopw [5] (fun i5 wr => ∃ j : Nat, i5 = .int .i64 j ∧ j ≤ n ∧ Frm w.heap.size [] w wr) (fun i5 _ => n - (intOf i5).toNat)
  case atStart => exact ⟨0, rfl, Nat.zero_le _, by repeat (first | with_reducible exact Frm.refl _ _ _ | with_reducible refine Frm.drewN ?_ | with_reducible refine Frm.drew ?_ | ((with_reducible refine Frm.setCell' ?_ ?_); · first | (left; simp; done) | (right; simp; done) | (right; simp; omega)) | ((with_reducible refine Frm.alloc' ?_ ?_); · first | exact Nat.le_refl _ | (simp; done) | (simp; omega)))⟩
  case round =>
    obtain ⟨j, rfl, hj, hfr⟩ := hrel
    by_cases hjl : j < n
    · have hjl' : (j : Int) < (n : Int) := by omega
      have had := HR.out.ad (by omega)
      have had2 := HR2.out.ad (by omega)
      subst had
      subst had2
      obtain ⟨f, hf⟩ : ∃ f, f = L j := ⟨_, rfl⟩
      have hf2 : L2 j = f := by rw [hf]; exact (HALL.out j hjl).symm
      have hlo1 : ∀ V, Frm wr.heap.size [] wr V → (loadVar 49 ⟨b, off + j * 8, none⟩).run Tryd.prog V = .ok (.agg #[.int .i64 f.fx, .int .i64 f.fy, .int .i64 f.tx, .int .i64 f.ty, .int .i64 f.start, .int .i64 f.arrive, .int .i64 f.leave, .int .i64 f.fuel]) V := fun V hV => by
        rw [hf]; exact (HR.out.frm (hfr.call hV hfr.size (by simp)) (Nat.le_refl _)).load (P := Tryd.prog) Tryd.underlying49 rfl hjl info49
      have hlo2 : ∀ V, Frm wr.heap.size [] wr V → (loadVar 49 ⟨b2, off2 + j * 8, none⟩).run Tryd.prog V = .ok (.agg #[.int .i64 f.fx, .int .i64 f.fy, .int .i64 f.tx, .int .i64 f.ty, .int .i64 f.start, .int .i64 f.arrive, .int .i64 f.leave, .int .i64 f.fuel]) V := fun V hV => by
        rw [← hf2]; exact (HR2.out.frm (hfr.call hV hfr.size (by simp)) (Nat.le_refl _)).load (P := Tryd.prog) Tryd.underlying49 rfl hjl info49
      have hfx : ∀ V, Frm wr.heap.size [] wr V → True := fun _ _ => trivial
      have HLO1 := Lib.hid hlo1
      have HLO2 := Lib.hid hlo2
      have HFX := Lib.hid hfx
      have HF2 := Lib.hid hf2
      have HFF := Lib.hid hf
      have HFR := Lib.hid hfr
      have HJL := Lib.hid hjl
      clear hjl hfr hf hf2 hfx hlo2 hlo1
      go_upto_region 6 with fail
      refine wp_region_leftL (fun V => Frm wr.heap.size [] wr V) 1000 (by kernel_rfl) ?_
      have hS : Frm wr.heap.size [] wr wr.drew := (Frm.refl _ _ wr).drew
      have HS := Lib.hid hS
      clear hS
      refine LeftL.run (v := ?_) 0 rfl (by kernel_rfl) rfl (fun _ _ d _ _ h => by cases d <;> exact h) ?_ HS.out ?_; rotate_left; (· intro V hV; obtain q0 := HFX.out V hV; clear hV; go_simp; rfl); (intro K' hK'; go_simp; refine hK' _ ?_; clear hK' K')
      refine LeftL.run (v := ?_) 1 rfl (by kernel_rfl) rfl (fun _ _ d _ _ h => by cases d <;> exact h) ?_ HS.out ?_; rotate_left; (· intro V hV; obtain q0 := HFX.out V hV; clear hV; go_simp; rfl); (intro K' hK'; go_simp; refine hK' _ ?_; clear hK' K')
      refine LeftL.run (v := ?_) 2 rfl (by kernel_rfl) rfl (fun _ _ d _ _ h => by cases d <;> exact h) ?_ HS.out ?_; rotate_left; (· intro V hV; obtain q0 := HFX.out V hV; clear hV; go_simp; rfl); (intro K' hK'; go_simp; refine hK' _ ?_; clear hK' K')
      refine LeftL.take 3 rfl (by kernel_rfl) (fun _ _ d _ _ h => by cases d <;> exact h) (yields_loadE (ty := 49) rfl rfl rfl (HLO1.out)) HS.out ?_; (intro K' hK'; go_simp; refine hK' _ ?_; clear hK' K')
      refine LeftL.run (v := ?_) 4 rfl (by kernel_rfl) rfl (fun _ _ d _ _ h => by cases d <;> exact h) ?_ HS.out ?_; rotate_left; (· intro V hV; obtain q0 := HFX.out V hV; clear hV; go_simp; rfl); (intro K' hK'; go_simp; refine hK' _ ?_; clear hK' K')
      refine LeftL.run (v := ?_) 5 rfl (by kernel_rfl) rfl (fun _ _ d _ _ h => by cases d <;> exact h) ?_ HS.out ?_; rotate_left; (· intro V hV; obtain q0 := HFX.out V hV; clear hV; go_simp; rfl); (intro K' hK'; go_simp; refine hK' _ ?_; clear hK' K')
      refine LeftL.run (v := ?_) 6 rfl (by kernel_rfl) rfl (fun _ _ d _ _ h => by cases d <;> exact h) ?_ HS.out ?_; rotate_left; (· intro V hV; obtain q0 := HFX.out V hV; clear hV; go_simp; rfl); (intro K' hK'; go_simp; refine hK' _ ?_; clear hK' K')
      refine LeftL.take 7 rfl (by kernel_rfl) (fun _ _ d _ _ h => by cases d <;> exact h) (yields_loadE (ty := 49) rfl rfl rfl (HLO2.out)) HS.out ?_; (intro K' hK'; go_simp; refine hK' _ ?_; clear hK' K')
      refine LeftL.one 8 rfl (by kernel_rfl) ?_
      go_wp2_with fail
      first | refine ⟨fun _ => HS.out, ?_⟩ | refine ⟨HS.out, ?_⟩
      refine LeftL.done (by kernel_rfl) ?_
      go_wp2_with fail
      have hwr : wrap64 ((j : Int) + 1) = (j : Int) + 1 := IntWalk.wrap64_in _ (by have : n ≤ 9223372036854775807 := HLEN.out; have := HJL.out; omega)
      exact ⟨⟨j + 1, by rw [hwr]; simp, HJL.out, HFR.out.call HS.out HFR.out.size (by simp)⟩, by rw [hwr]; exact meas_next3 HJL.out⟩
    · have hjl' : ¬ (j : Int) < (n : Int) := by omega
      have HFR := Lib.hid hfr
      clear hfr
      go_wp2_with fail
      go_ret
      exact ⟨rfl, HFR.out⟩

/-- A task: a time, a route, weather. -/
def taskC (start : Int) (ra : Option Addr) (rn rcap : Nat) (sa : Option Addr) (n cap : Nat) : List Value := [.int .i64 start, .slice ra rn rcap, .slice sa n cap]
theorem info37 : (Tryd.prog.info? 37).map (fun i => i.size) = some 3 := by kernel_rfl

set_option maxRecDepth 100000 in
set_option maxHeartbeats 4000000 in
theorem large_any (start : Int) (ra : Option Addr) (rn rcap : Nat) (sa : Option Addr) (n cap : Nat) (w : World) : Calls Tryd.prog 23 #[.agg (taskC start ra rn rcap sa n cap).toArray] w fun e w' => e = .returned (.bool (decide (40 < rn) || decide (110 < n))) ∧ Frm w.heap.size [] w w' := by
  have hf0 := Tryd.func23
  go_enter Tryd.func23, Tryd.ntmps23
  go_upto_region 1 with fail
  refine namedC ?_; intro W hW
  have hb : Blk W w.heap.size 37 (taskC start ra rn rcap sa n cap) := by rw [hW]; exact Blk.new w 37 _
  have hf : Frm w.heap.size [] w W := by rw [hW]; repeat (first | with_reducible exact Frm.refl _ _ _ | with_reducible refine Frm.drewN ?_ | with_reducible refine Frm.drew ?_ | ((with_reducible refine Frm.setCell' ?_ ?_); · first | (left; simp; done) | (right; simp; done) | (right; simp; omega)) | ((with_reducible refine Frm.alloc' ?_ ?_); · first | exact Nat.le_refl _ | (simp; done) | (simp; omega)))
  clear hW hf0
  have c1 : W.cell? ⟨w.heap.size, 1, none⟩ = some (.slice ra rn rcap) := hb.cell 1
  have c2 : W.cell? ⟨w.heap.size, 2, none⟩ = some (.slice sa n cap) := hb.cell 2
  clear hb
  have HF := Lib.hid hf
  clear hf
  by_cases h : 40 < rn
  · have h' : (40 : Int) < (rn : Int) := by omega
    go_wp2_with fail
    go_ret
    exact ⟨by simp [h], HF.out⟩
  · have h' : ¬ (40 : Int) < (rn : Int) := by omega
    by_cases h2 : 110 < n
    · have h2' : (110 : Int) < (n : Int) := by omega
      go_wp2_with fail
      go_ret
      exact ⟨by simp [h2], HF.out⟩
    · have h2' : ¬ (110 : Int) < (n : Int) := by omega
      go_wp2_with fail
      go_ret
      exact ⟨by simp [h, h2], HF.out⟩
end Go.Proofs.YtghkfopcjdkieaaDoor
