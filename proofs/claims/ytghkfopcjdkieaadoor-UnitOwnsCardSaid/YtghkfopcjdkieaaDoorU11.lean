/-
  Whether a route is valid.
-/
import Derived.Test.YtghkfopcjdkieaaDoorU10
namespace Go.Proofs.YtghkfopcjdkieaaDoor
set_option linter.all false
set_option linter.unusedSimpArgs false
set_option linter.unusedVariables false
open Go.RowKit

/-- A way. -/
structure WC where
  tx : Int
  ty : Int
  stay : Int
def WC.cells (f : WC) : List Value := [.int .i64 f.tx, .int .i64 f.ty, .int .i64 f.stay]
theorem info51 : (Tryd.prog.info? 51).map (fun i => i.size) = some 3 := by kernel_rfl
def wayB (f : WC) : Bool := placeB f.tx f.ty && timeB f.stay
def routeB (n : Nat) (S : Nat → WC) : Bool := (List.range n).all fun i => wayB (S i)
theorem route_ok {n : Nat} {S : Nat → WC} {r : Bool} (hr : r = true ↔ ∀ i, i < n → wayB (S i) = true) : routeB n S = r := by
  unfold routeB
  rw [Bool.eq_iff_iff, hr, List.all_eq_true]
  simp
theorem route_bad {n : Nat} {S : Nat → WC} {j : Nat} (hj : j < n) (h : wayB (S j) = false) : routeB n S = false := by
  rw [← Bool.not_eq_true]
  intro h'
  unfold routeB at h'
  rw [List.all_eq_true] at h'
  have := h' j (by simpa using hj)
  rw [h] at this
  cases this
theorem route_at {n : Nat} {S : Nat → WC} (h : routeB n S = true) {i : Nat} (hi : i < n) : wayB (S i) = true := by
  unfold routeB at h
  rw [List.all_eq_true] at h
  exact h i (by simpa using hi)

set_option maxRecDepth 100000 in
set_option maxHeartbeats 4000000 in
theorem wayok_any (f : WC) (w : World) : Calls Tryd.prog 93 #[.agg f.cells.toArray] w fun e w' => e = .returned (.bool (wayB f)) ∧ Frm w.heap.size [] w w' := by
  have hf93 := Tryd.func93
  go_enter Tryd.func93, Tryd.ntmps93
  iterate 10 go_step
  refine named ?_; intro W hW
  have hb : Blk W w.heap.size 51 f.cells := by rw [hW]; repeat (first | exact Blk.new w 51 f.cells | refine Blk.alloc' ?_)
  have hf : Frm w.heap.size [] w W := by rw [hW]; repeat (first | with_reducible exact Frm.refl _ _ _ | with_reducible refine Frm.drewN ?_ | with_reducible refine Frm.drew ?_ | ((with_reducible refine Frm.setCell' ?_ ?_); · first | (left; simp; done) | (right; simp; done) | (right; simp; omega)) | ((with_reducible refine Frm.alloc' ?_ ?_); · first | exact Nat.le_refl _ | (simp; done) | (simp; omega)))
  clear hW hf93
  have HX := Lib.hid (And.intro hb hf)
  clear hb hf
  (have c0 : W.cell? ⟨w.heap.size, 0, none⟩ = some (.int .i64 f.tx) := HX.out.1.cell 0; have c1 : W.cell? ⟨w.heap.size, 1, none⟩ = some (.int .i64 f.ty) := HX.out.1.cell 1; have c2 : W.cell? ⟨w.heap.size, 2, none⟩ = some (.int .i64 f.stay) := HX.out.1.cell 2)
  cases hc0 : placeB f.tx f.ty
  · have HC0 := Lib.hid hc0; clear hc0
    go_wp2_with (first | (go_at_call 48; refine (placed_any _ _ _).mono ?_; rintro e w1 ⟨rfl, hf1⟩; simp only [HC0.out]; replace HX := Lib.hid (boxNext HX.out hf1); clear hf1 c0 c1 c2; (have c0 : w1.cell? ⟨w.heap.size, 0, none⟩ = some (.int .i64 f.tx) := HX.out.1.cell 0; have c1 : w1.cell? ⟨w.heap.size, 1, none⟩ = some (.int .i64 f.ty) := HX.out.1.cell 1; have c2 : w1.cell? ⟨w.heap.size, 2, none⟩ = some (.int .i64 f.stay) := HX.out.1.cell 2)) | (go_at_call 52; refine (timed_any _ _).mono ?_; rintro e w' ⟨rfl, rfl⟩; simp only [HC0.out]))
    go_ret
    exact ⟨by unfold wayB; simp [HC0.out], HX.out.2⟩
  · have HC0 := Lib.hid hc0; clear hc0
    cases hc1 : timeB f.stay
    · have HC1 := Lib.hid hc1; clear hc1
      go_wp2_with (first | (go_at_call 48; refine (placed_any _ _ _).mono ?_; rintro e w1 ⟨rfl, hf1⟩; simp only [HC0.out, HC1.out]; replace HX := Lib.hid (boxNext HX.out hf1); clear hf1 c0 c1 c2; (have c0 : w1.cell? ⟨w.heap.size, 0, none⟩ = some (.int .i64 f.tx) := HX.out.1.cell 0; have c1 : w1.cell? ⟨w.heap.size, 1, none⟩ = some (.int .i64 f.ty) := HX.out.1.cell 1; have c2 : w1.cell? ⟨w.heap.size, 2, none⟩ = some (.int .i64 f.stay) := HX.out.1.cell 2)) | (go_at_call 52; refine (timed_any _ _).mono ?_; rintro e w' ⟨rfl, rfl⟩; simp only [HC0.out, HC1.out]))
      go_ret
      exact ⟨by unfold wayB; simp [HC0.out, HC1.out], HX.out.2⟩
    · have HC1 := Lib.hid hc1; clear hc1
      go_wp2_with (first | (go_at_call 48; refine (placed_any _ _ _).mono ?_; rintro e w1 ⟨rfl, hf1⟩; simp only [HC0.out, HC1.out]; replace HX := Lib.hid (boxNext HX.out hf1); clear hf1 c0 c1 c2; (have c0 : w1.cell? ⟨w.heap.size, 0, none⟩ = some (.int .i64 f.tx) := HX.out.1.cell 0; have c1 : w1.cell? ⟨w.heap.size, 1, none⟩ = some (.int .i64 f.ty) := HX.out.1.cell 1; have c2 : w1.cell? ⟨w.heap.size, 2, none⟩ = some (.int .i64 f.stay) := HX.out.1.cell 2)) | (go_at_call 52; refine (timed_any _ _).mono ?_; rintro e w' ⟨rfl, rfl⟩; simp only [HC0.out, HC1.out]))
      go_ret
      exact ⟨by unfold wayB; simp [HC0.out, HC1.out], HX.out.2⟩

set_option maxRecDepth 100000 in
set_option maxHeartbeats 4000000 in
theorem routed_any (ad : Option Addr) (b off n cap : Nat) (S : Nat → WC) (w : World) (hr : Rw w 3 ad b off n fun i => (S i).cells) :
    Calls Tryd.prog 60 #[.slice ad n cap] w fun e w' => e = .returned (.bool (routeB n S)) ∧ Frm w.heap.size [] w w' := by
  have HR := Lib.hid hr
  clear hr
  go_enter Tryd.func60, Tryd.ntmps60
  go_wp2_with fail
  refine (allWy 93 #[] (enters Tryd.func93 (by kernel_rfl) (by kernel_rfl)) ad b off n cap w HR.out.ad HR.out.len (fun i => (S i).cells) (fun i => wayB (S i)) (fun i => rfl) (fun W hW i hi => (HR.out.frm hW (Nat.le_refl _)).load Tryd.underlying51 rfl hi info51) (fun W hW i hi => wayok_any (S i) W)).mono ?_
  rintro e w1 ⟨⟨r, rfl, hr⟩, hf⟩
  have HRR := Lib.hid hr
  have HF := Lib.hid hf
  clear hf hr
  go_wp2_with fail
  go_ret
  exact ⟨by rw [route_ok HRR.out]; rfl, HF.out⟩

set_option maxRecDepth 100000 in
set_option maxHeartbeats 8000000 in
theorem refWays_any (ad : Option Addr) (b off n cap : Nat) (S : Nat → WC) (w : World) (hr : Rw w 3 ad b off n fun i => (S i).cells) :
    Calls Tryd.prog 62 #[.slice ad n cap] w fun e w' => e = .returned (.bool (routeB n S)) ∧ Frm w.heap.size [] w w' := by
  have hnm := hr.len
  unfold maxLen at hnm
  go_enter Tryd.func62, Tryd.ntmps62
  go_wp2_with fail
  go_loopw [3] (fun i3 wr => ∃ j : Nat, i3 = .int .i64 j ∧ j ≤ n ∧ (∀ k, k < j → wayB (S k) = true) ∧ Frm w.heap.size [] w wr) (fun i3 _ => n - (intOf i3).toNat)
  case atStart => exact ⟨0, rfl, Nat.zero_le _, fun k hk => by omega, by repeat (first | with_reducible exact Frm.refl _ _ _ | with_reducible refine Frm.drewN ?_ | with_reducible refine Frm.drew ?_ | ((with_reducible refine Frm.setCell' ?_ ?_); · first | (left; simp; done) | (right; simp; done) | (right; simp; omega)) | ((with_reducible refine Frm.alloc' ?_ ?_); · first | exact Nat.le_refl _ | (simp; done) | (simp; omega)))⟩
  case round =>
    obtain ⟨j, rfl, hj, hall, hfr⟩ := hrel
    by_cases hjl : j < n
    · have hjl' : (j : Int) < (n : Int) := by omega
      obtain ⟨f, hf⟩ : ∃ f, f = S j := ⟨_, rfl⟩
      have hrw := hr.frm hfr (Nat.le_refl _)
      have had := hr.ad (by omega)
      subst had
      have c0 : wr.cell? ⟨b, off + j * 3, none⟩ = some (.int .i64 f.tx) := by rw [hf]; exact hrw.at_ j hjl 0 _ rfl
      have c1 : wr.cell? ⟨b, off + j * 3 + 1, none⟩ = some (.int .i64 f.ty) := by rw [hf]; exact hrw.at_ j hjl 1 _ rfl
      have hyes : wayB f = true → ∀ k, k < j + 1 → wayB (S k) = true := fun hc k hk => by
        rcases Nat.lt_or_ge k j with e | e
        · exact hall k e
        · obtain rfl : k = j := by omega
          rw [← hf]; exact hc
      have hno : wayB f = false → routeB n S = false := fun hc => route_bad hjl (by rw [← hf]; exact hc)
      have HJL := Lib.hid hjl
      have HRW := Lib.hid hrw
      have HALL := Lib.hid hall
      have HFR := Lib.hid hfr
      have HYES := Lib.hid hyes
      have HNO := Lib.hid hno
      have HF0 := Lib.hid hf
      clear hf hno hyes hfr hall hrw
      go_wp2_with fail
      refine (refPlace_any _ _ _).mono ?_; rintro e w1 ⟨rfl, hf1⟩
      have hrw1 := HRW.out.frm hf1 (Nat.le_refl _)
      have hfr1 := HFR.out.call hf1 HFR.out.size (by simp)
      clear c0 c1 hf1
      have c2 : w1.cell? ⟨b, off + j * 3 + 2, none⟩ = some (.int .i64 f.stay) := by rw [HF0.out]; exact hrw1.at_ j HJL.out 2 _ rfl
      have HRW1 := Lib.hid hrw1
      have HFR1 := Lib.hid hfr1
      clear hfr1 hrw1
      cases hc0 : placeB f.tx f.ty
      · have HC0 := Lib.hid hc0; clear hc0
        go_wp2_with (go_at_call 46; refine (refTime_any _ _).mono ?_; rintro e w' ⟨rfl, rfl⟩; simp only [HC0.out])
        first | (go_ret; exact ⟨by rw [HNO.out (by unfold wayB; simp [HC0.out])]; rfl, HFR1.out⟩) | exact ⟨⟨j + 1, by simp, HJL.out, HYES.out (by unfold wayB; simp [HC0.out]), HFR1.out⟩, by have := HJL.out; simp [intOf]; omega⟩
      · have HC0 := Lib.hid hc0; clear hc0
        cases hc1 : timeB f.stay
        · have HC1 := Lib.hid hc1; clear hc1
          go_wp2_with (go_at_call 46; refine (refTime_any _ _).mono ?_; rintro e w' ⟨rfl, rfl⟩; simp only [HC0.out, HC1.out])
          first | (go_ret; exact ⟨by rw [HNO.out (by unfold wayB; simp [HC0.out, HC1.out])]; rfl, HFR1.out⟩) | exact ⟨⟨j + 1, by simp, HJL.out, HYES.out (by unfold wayB; simp [HC0.out, HC1.out]), HFR1.out⟩, by have := HJL.out; simp [intOf]; omega⟩
        · have HC1 := Lib.hid hc1; clear hc1
          go_wp2_with (go_at_call 46; refine (refTime_any _ _).mono ?_; rintro e w' ⟨rfl, rfl⟩; simp only [HC0.out, HC1.out])
          first | (go_ret; exact ⟨by rw [HNO.out (by unfold wayB; simp [HC0.out, HC1.out])]; rfl, HFR1.out⟩) | exact ⟨⟨j + 1, by simp, HJL.out, HYES.out (by unfold wayB; simp [HC0.out, HC1.out]), HFR1.out⟩, by have := HJL.out; simp [intOf]; omega⟩
    · have hjl' : ¬ (j : Int) < (n : Int) := by omega
      obtain rfl : j = n := by omega
      have HALL := Lib.hid hall
      have HFR := Lib.hid hfr
      clear hfr hall
      go_wp2_with fail
      go_ret
      exact ⟨by rw [route_ok (r := true) (by simpa using HALL.out)]; rfl, HFR.out⟩
end Go.Proofs.YtghkfopcjdkieaaDoor
