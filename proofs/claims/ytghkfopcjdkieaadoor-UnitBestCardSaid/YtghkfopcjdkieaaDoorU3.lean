/-
  Distances; the time of a way and what is burnt.
-/
import Derived.Test.YtghkfopcjdkieaaDoorU2
namespace Go.Proofs.YtghkfopcjdkieaaDoor
set_option linter.all false
set_option linter.unusedSimpArgs false
set_option linter.unusedVariables false
open Go.RowKit

/-- A unit. -/
structure UC where
  name : Value
  speed : Int
  fuel : Int
  burn : Int
  reserve : Int
  hours : Int
  sea : Int
  wind : Int
  bx : Int
  by_ : Int
  margin : Int
  level : Int
def UC.cells (u : UC) : List Value := [u.name, .int .i64 u.speed, .int .i64 u.fuel, .int .i64 u.burn, .int .i64 u.reserve, .int .i64 u.hours, .int .i64 u.sea, .int .i64 u.wind, .int .i64 u.bx, .int .i64 u.by_, .int .i64 u.margin, .int .i64 u.level]
theorem info25 : (Tryd.prog.info? 25).map (fun i => i.size) = some 12 := by kernel_rfl
theorem UC.info (u : UC) : (Tryd.prog.info? 25).map (fun i => i.size) = some u.cells.length := info25

/-- A place is valid: its numbers. -/
theorem place_in {x y : Int} (h : placeB x y = true) : (-16777216 ≤ x ∧ x ≤ 16777216) ∧ (-16777216 ≤ y ∧ y ≤ 16777216) := by
  obtain ⟨h1, h2⟩ := Bool.and_eq_true_iff.1 h
  exact ⟨inB_iff.1 h1, inB_iff.1 h2⟩
theorem sq_le {a : Int} (h : -33554432 ≤ a ∧ a ≤ 33554432) : a * a ≤ 33554432 * 33554432 := by
  rcases Int.le_total 0 a with h0 | h0
  · exact Int.mul_le_mul h.2 h.2 h0 (by omega)
  · have := Int.mul_le_mul (show -a ≤ 33554432 by omega) (show -a ≤ 33554432 by omega) (by omega) (by omega)
    rwa [Int.neg_mul_neg] at this
theorem sqZ_in {x y u v : Int} (h : placeB x y = true) (k : placeB u v = true) : 0 ≤ sqZ x y u v ∧ sqZ x y u v ≤ 4503599627370496 := by
  have a := place_in h
  have b := place_in k
  have h1 := sq_nonneg (x - u)
  have h2 := sq_nonneg (y - v)
  have h3 := sq_le (a := x - u) (by omega)
  have h4 := sq_le (a := y - v) (by omega)
  unfold sqZ
  omega
theorem way_place (x y u v : Int) (w : World) (h : placeB x y = true) (k : placeB u v = true) :
    Calls Tryd.prog 49 #[.agg #[.int .i64 x, .int .i64 y], .agg #[.int .i64 u, .int .i64 v]] w fun e w' => e = .returned (.int .i64 (wayZ (sqZ x y u v))) ∧ Frm w.heap.size [] w w' := by
  have a := place_in h
  have b := place_in k
  exact way_any x y u v w (by omega) (by omega) _ rfl (sqZ_in h k).1 (sqZ_in h k).2
theorem refWay_place (x y u v : Int) (w : World) (h : placeB x y = true) (k : placeB u v = true) :
    Calls Tryd.prog 50 #[.agg #[.int .i64 x, .int .i64 y], .agg #[.int .i64 u, .int .i64 v]] w fun e w' => e = .returned (.int .i64 (wayZ (sqZ x y u v))) ∧ Frm w.heap.size [] w w' := by
  have a := place_in h
  have b := place_in k
  exact refWay_any x y u v w (by omega) (by omega) _ rfl (sqZ_in h k).1 (sqZ_in h k).2

def distZ (x y u v : Int) : Int × Int := if (placeB x y && placeB u v) = true then (wayZ (sqZ x y u v), 0) else (0, 2)
set_option maxRecDepth 100000 in
set_option maxHeartbeats 4000000 in
theorem distance_any (x y u v : Int) (w : World) :
    Calls Tryd.prog 17 #[.agg #[.int .i64 x, .int .i64 y], .agg #[.int .i64 u, .int .i64 v]] w fun e w' => e = .returned (.tuple #[.int .i64 (distZ x y u v).1, .int .i64 (distZ x y u v).2]) ∧ Frm w.heap.size [] w w' := by
  unfold distZ
  cases h : placeB x y
  · have HH := Lib.hid h
    clear h
    go_enter Tryd.func17, Tryd.ntmps17
    iterate 16 go_step
    refine named ?_; intro W hW
    have hx1 : Blk W w.heap.size 23 [.int .i64 x, .int .i64 y] := by rw [hW]; repeat (first | exact Blk.new w 23 [.int .i64 x, .int .i64 y] | refine Blk.alloc' ?_)
    have hx2 : Blk W (w.heap.size + 1) 23 [.int .i64 u, .int .i64 v] := by rw [hW]; exact Blk.new' _ 23 [.int .i64 u, .int .i64 v] (by simp)
    have hf : Frm w.heap.size [] w W := by rw [hW]; repeat (first | with_reducible exact Frm.refl _ _ _ | with_reducible refine Frm.drewN ?_ | with_reducible refine Frm.drew ?_ | ((with_reducible refine Frm.setCell' ?_ ?_); · first | (left; simp; done) | (right; simp; done) | (right; simp; omega)) | ((with_reducible refine Frm.alloc' ?_ ?_); · first | exact Nat.le_refl _ | (simp; done) | (simp; omega)))
    clear hW
    have c10 := hx1.cell 0
    have c11 := hx1.cell 1
    have c20 := hx2.cell 0
    have c21 := hx2.cell 1
    simp only [List.getElem?_cons_succ, List.getElem?_cons_zero] at c10 c11 c20 c21
    have HX1 := Lib.hid hx1
    have HX2 := Lib.hid hx2
    have HF := Lib.hid hf
    clear hf hx2 hx1
    go_wp2_with fail
    refine (placed_any _ _ _).mono ?_; rintro e w1 ⟨rfl, hf1⟩; rw [HH.out]
    have hx1 := hf1.blk HX1.out HX1.out.lt (by simp)
    have hx2 := hf1.blk HX2.out HX2.out.lt (by simp)
    have hf := HF.out.call hf1 HF.out.size (by simp)
    clear c10 c11 c20 c21 hf1 HX1 HX2 HF
    have c10 := hx1.cell 0
    have c11 := hx1.cell 1
    have c20 := hx2.cell 0
    have c21 := hx2.cell 1
    simp only [List.getElem?_cons_succ, List.getElem?_cons_zero] at c10 c11 c20 c21
    have HX1 := Lib.hid hx1
    have HX2 := Lib.hid hx2
    have HF := Lib.hid hf
    clear hf hx2 hx1
    go_wp2_with fail
    go_ret2
    exact ⟨rfl, HF.out⟩
  · cases k : placeB u v
    · have HH := Lib.hid h
      have HK := Lib.hid k
      clear k h
      go_enter Tryd.func17, Tryd.ntmps17
      iterate 16 go_step
      refine named ?_; intro W hW
      have hx1 : Blk W w.heap.size 23 [.int .i64 x, .int .i64 y] := by rw [hW]; repeat (first | exact Blk.new w 23 [.int .i64 x, .int .i64 y] | refine Blk.alloc' ?_)
      have hx2 : Blk W (w.heap.size + 1) 23 [.int .i64 u, .int .i64 v] := by rw [hW]; exact Blk.new' _ 23 [.int .i64 u, .int .i64 v] (by simp)
      have hf : Frm w.heap.size [] w W := by rw [hW]; repeat (first | with_reducible exact Frm.refl _ _ _ | with_reducible refine Frm.drewN ?_ | with_reducible refine Frm.drew ?_ | ((with_reducible refine Frm.setCell' ?_ ?_); · first | (left; simp; done) | (right; simp; done) | (right; simp; omega)) | ((with_reducible refine Frm.alloc' ?_ ?_); · first | exact Nat.le_refl _ | (simp; done) | (simp; omega)))
      clear hW
      have c10 := hx1.cell 0
      have c11 := hx1.cell 1
      have c20 := hx2.cell 0
      have c21 := hx2.cell 1
      simp only [List.getElem?_cons_succ, List.getElem?_cons_zero] at c10 c11 c20 c21
      have HX1 := Lib.hid hx1
      have HX2 := Lib.hid hx2
      have HF := Lib.hid hf
      clear hf hx2 hx1
      go_wp2_with fail
      refine (placed_any _ _ _).mono ?_; rintro e w1 ⟨rfl, hf1⟩; rw [HH.out]
      have hx1 := hf1.blk HX1.out HX1.out.lt (by simp)
      have hx2 := hf1.blk HX2.out HX2.out.lt (by simp)
      have hf := HF.out.call hf1 HF.out.size (by simp)
      clear c10 c11 c20 c21 hf1 HX1 HX2 HF
      have c10 := hx1.cell 0
      have c11 := hx1.cell 1
      have c20 := hx2.cell 0
      have c21 := hx2.cell 1
      simp only [List.getElem?_cons_succ, List.getElem?_cons_zero] at c10 c11 c20 c21
      have HX1 := Lib.hid hx1
      have HX2 := Lib.hid hx2
      have HF := Lib.hid hf
      clear hf hx2 hx1
      go_wp2_with fail
      refine (placed_any _ _ _).mono ?_; rintro e w2 ⟨rfl, hf2⟩; rw [HK.out]
      have hx1 := hf2.blk HX1.out HX1.out.lt (by simp)
      have hx2 := hf2.blk HX2.out HX2.out.lt (by simp)
      have hf := HF.out.call hf2 HF.out.size (by simp)
      clear c10 c11 c20 c21 hf2 HX1 HX2 HF
      have c10 := hx1.cell 0
      have c11 := hx1.cell 1
      have c20 := hx2.cell 0
      have c21 := hx2.cell 1
      simp only [List.getElem?_cons_succ, List.getElem?_cons_zero] at c10 c11 c20 c21
      have HX1 := Lib.hid hx1
      have HX2 := Lib.hid hx2
      have HF := Lib.hid hf
      clear hf hx2 hx1
      go_wp2_with fail
      go_ret2
      exact ⟨rfl, HF.out⟩
    · have hw := fun W => way_place x y u v W h k
      have HH := Lib.hid h
      have HK := Lib.hid k
      have HW := Lib.hid hw
      clear hw k h
      go_enter Tryd.func17, Tryd.ntmps17
      iterate 16 go_step
      refine named ?_; intro W hW
      have hx1 : Blk W w.heap.size 23 [.int .i64 x, .int .i64 y] := by rw [hW]; repeat (first | exact Blk.new w 23 [.int .i64 x, .int .i64 y] | refine Blk.alloc' ?_)
      have hx2 : Blk W (w.heap.size + 1) 23 [.int .i64 u, .int .i64 v] := by rw [hW]; exact Blk.new' _ 23 [.int .i64 u, .int .i64 v] (by simp)
      have hf : Frm w.heap.size [] w W := by rw [hW]; repeat (first | with_reducible exact Frm.refl _ _ _ | with_reducible refine Frm.drewN ?_ | with_reducible refine Frm.drew ?_ | ((with_reducible refine Frm.setCell' ?_ ?_); · first | (left; simp; done) | (right; simp; done) | (right; simp; omega)) | ((with_reducible refine Frm.alloc' ?_ ?_); · first | exact Nat.le_refl _ | (simp; done) | (simp; omega)))
      clear hW
      have c10 := hx1.cell 0
      have c11 := hx1.cell 1
      have c20 := hx2.cell 0
      have c21 := hx2.cell 1
      simp only [List.getElem?_cons_succ, List.getElem?_cons_zero] at c10 c11 c20 c21
      have HX1 := Lib.hid hx1
      have HX2 := Lib.hid hx2
      have HF := Lib.hid hf
      clear hf hx2 hx1
      go_wp2_with fail
      refine (placed_any _ _ _).mono ?_; rintro e w1 ⟨rfl, hf1⟩; rw [HH.out]
      have hx1 := hf1.blk HX1.out HX1.out.lt (by simp)
      have hx2 := hf1.blk HX2.out HX2.out.lt (by simp)
      have hf := HF.out.call hf1 HF.out.size (by simp)
      clear c10 c11 c20 c21 hf1 HX1 HX2 HF
      have c10 := hx1.cell 0
      have c11 := hx1.cell 1
      have c20 := hx2.cell 0
      have c21 := hx2.cell 1
      simp only [List.getElem?_cons_succ, List.getElem?_cons_zero] at c10 c11 c20 c21
      have HX1 := Lib.hid hx1
      have HX2 := Lib.hid hx2
      have HF := Lib.hid hf
      clear hf hx2 hx1
      go_wp2_with fail
      refine (placed_any _ _ _).mono ?_; rintro e w2 ⟨rfl, hf2⟩; rw [HK.out]
      have hx1 := hf2.blk HX1.out HX1.out.lt (by simp)
      have hx2 := hf2.blk HX2.out HX2.out.lt (by simp)
      have hf := HF.out.call hf2 HF.out.size (by simp)
      clear c10 c11 c20 c21 hf2 HX1 HX2 HF
      have c10 := hx1.cell 0
      have c11 := hx1.cell 1
      have c20 := hx2.cell 0
      have c21 := hx2.cell 1
      simp only [List.getElem?_cons_succ, List.getElem?_cons_zero] at c10 c11 c20 c21
      have HX1 := Lib.hid hx1
      have HX2 := Lib.hid hx2
      have HF := Lib.hid hf
      clear hf hx2 hx1
      go_wp2_with fail
      refine (HW.out _).mono ?_; rintro e w3 ⟨rfl, hf3⟩
      have hx1 := hf3.blk HX1.out HX1.out.lt (by simp)
      have hx2 := hf3.blk HX2.out HX2.out.lt (by simp)
      have hf := HF.out.call hf3 HF.out.size (by simp)
      clear c10 c11 c20 c21 hf3 HX1 HX2 HF
      have c10 := hx1.cell 0
      have c11 := hx1.cell 1
      have c20 := hx2.cell 0
      have c21 := hx2.cell 1
      simp only [List.getElem?_cons_succ, List.getElem?_cons_zero] at c10 c11 c20 c21
      have HX1 := Lib.hid hx1
      have HX2 := Lib.hid hx2
      have HF := Lib.hid hf
      clear hf hx2 hx1
      go_wp2_with fail
      go_ret2
      exact ⟨rfl, HF.out⟩
set_option maxRecDepth 100000 in
set_option maxHeartbeats 4000000 in
theorem refDistance_any (x y u v : Int) (w : World) :
    Calls Tryd.prog 18 #[.agg #[.int .i64 x, .int .i64 y], .agg #[.int .i64 u, .int .i64 v]] w fun e w' => e = .returned (.tuple #[.int .i64 (distZ x y u v).1, .int .i64 (distZ x y u v).2]) ∧ Frm w.heap.size [] w w' := by
  unfold distZ
  cases h : placeB x y
  · have HH := Lib.hid h
    clear h
    go_enter Tryd.func18, Tryd.ntmps18
    iterate 16 go_step
    refine named ?_; intro W hW
    have hx1 : Blk W w.heap.size 23 [.int .i64 x, .int .i64 y] := by rw [hW]; repeat (first | exact Blk.new w 23 [.int .i64 x, .int .i64 y] | refine Blk.alloc' ?_)
    have hx2 : Blk W (w.heap.size + 1) 23 [.int .i64 u, .int .i64 v] := by rw [hW]; exact Blk.new' _ 23 [.int .i64 u, .int .i64 v] (by simp)
    have hf : Frm w.heap.size [] w W := by rw [hW]; repeat (first | with_reducible exact Frm.refl _ _ _ | with_reducible refine Frm.drewN ?_ | with_reducible refine Frm.drew ?_ | ((with_reducible refine Frm.setCell' ?_ ?_); · first | (left; simp; done) | (right; simp; done) | (right; simp; omega)) | ((with_reducible refine Frm.alloc' ?_ ?_); · first | exact Nat.le_refl _ | (simp; done) | (simp; omega)))
    clear hW
    have c10 := hx1.cell 0
    have c11 := hx1.cell 1
    have c20 := hx2.cell 0
    have c21 := hx2.cell 1
    simp only [List.getElem?_cons_succ, List.getElem?_cons_zero] at c10 c11 c20 c21
    have HX1 := Lib.hid hx1
    have HX2 := Lib.hid hx2
    have HF := Lib.hid hf
    clear hf hx2 hx1
    go_wp2_with fail
    refine (refPlace_any _ _ _).mono ?_; rintro e w1 ⟨rfl, hf1⟩; rw [HH.out]
    have hx1 := hf1.blk HX1.out HX1.out.lt (by simp)
    have hx2 := hf1.blk HX2.out HX2.out.lt (by simp)
    have hf := HF.out.call hf1 HF.out.size (by simp)
    clear c10 c11 c20 c21 hf1 HX1 HX2 HF
    have c10 := hx1.cell 0
    have c11 := hx1.cell 1
    have c20 := hx2.cell 0
    have c21 := hx2.cell 1
    simp only [List.getElem?_cons_succ, List.getElem?_cons_zero] at c10 c11 c20 c21
    have HX1 := Lib.hid hx1
    have HX2 := Lib.hid hx2
    have HF := Lib.hid hf
    clear hf hx2 hx1
    go_wp2_with fail
    go_ret2
    exact ⟨rfl, HF.out⟩
  · cases k : placeB u v
    · have HH := Lib.hid h
      have HK := Lib.hid k
      clear k h
      go_enter Tryd.func18, Tryd.ntmps18
      iterate 16 go_step
      refine named ?_; intro W hW
      have hx1 : Blk W w.heap.size 23 [.int .i64 x, .int .i64 y] := by rw [hW]; repeat (first | exact Blk.new w 23 [.int .i64 x, .int .i64 y] | refine Blk.alloc' ?_)
      have hx2 : Blk W (w.heap.size + 1) 23 [.int .i64 u, .int .i64 v] := by rw [hW]; exact Blk.new' _ 23 [.int .i64 u, .int .i64 v] (by simp)
      have hf : Frm w.heap.size [] w W := by rw [hW]; repeat (first | with_reducible exact Frm.refl _ _ _ | with_reducible refine Frm.drewN ?_ | with_reducible refine Frm.drew ?_ | ((with_reducible refine Frm.setCell' ?_ ?_); · first | (left; simp; done) | (right; simp; done) | (right; simp; omega)) | ((with_reducible refine Frm.alloc' ?_ ?_); · first | exact Nat.le_refl _ | (simp; done) | (simp; omega)))
      clear hW
      have c10 := hx1.cell 0
      have c11 := hx1.cell 1
      have c20 := hx2.cell 0
      have c21 := hx2.cell 1
      simp only [List.getElem?_cons_succ, List.getElem?_cons_zero] at c10 c11 c20 c21
      have HX1 := Lib.hid hx1
      have HX2 := Lib.hid hx2
      have HF := Lib.hid hf
      clear hf hx2 hx1
      go_wp2_with fail
      refine (refPlace_any _ _ _).mono ?_; rintro e w1 ⟨rfl, hf1⟩; rw [HH.out]
      have hx1 := hf1.blk HX1.out HX1.out.lt (by simp)
      have hx2 := hf1.blk HX2.out HX2.out.lt (by simp)
      have hf := HF.out.call hf1 HF.out.size (by simp)
      clear c10 c11 c20 c21 hf1 HX1 HX2 HF
      have c10 := hx1.cell 0
      have c11 := hx1.cell 1
      have c20 := hx2.cell 0
      have c21 := hx2.cell 1
      simp only [List.getElem?_cons_succ, List.getElem?_cons_zero] at c10 c11 c20 c21
      have HX1 := Lib.hid hx1
      have HX2 := Lib.hid hx2
      have HF := Lib.hid hf
      clear hf hx2 hx1
      go_wp2_with fail
      refine (refPlace_any _ _ _).mono ?_; rintro e w2 ⟨rfl, hf2⟩; rw [HK.out]
      have hx1 := hf2.blk HX1.out HX1.out.lt (by simp)
      have hx2 := hf2.blk HX2.out HX2.out.lt (by simp)
      have hf := HF.out.call hf2 HF.out.size (by simp)
      clear c10 c11 c20 c21 hf2 HX1 HX2 HF
      have c10 := hx1.cell 0
      have c11 := hx1.cell 1
      have c20 := hx2.cell 0
      have c21 := hx2.cell 1
      simp only [List.getElem?_cons_succ, List.getElem?_cons_zero] at c10 c11 c20 c21
      have HX1 := Lib.hid hx1
      have HX2 := Lib.hid hx2
      have HF := Lib.hid hf
      clear hf hx2 hx1
      go_wp2_with fail
      go_ret2
      exact ⟨rfl, HF.out⟩
    · have hw := fun W => refWay_place x y u v W h k
      have HH := Lib.hid h
      have HK := Lib.hid k
      have HW := Lib.hid hw
      clear hw k h
      go_enter Tryd.func18, Tryd.ntmps18
      iterate 16 go_step
      refine named ?_; intro W hW
      have hx1 : Blk W w.heap.size 23 [.int .i64 x, .int .i64 y] := by rw [hW]; repeat (first | exact Blk.new w 23 [.int .i64 x, .int .i64 y] | refine Blk.alloc' ?_)
      have hx2 : Blk W (w.heap.size + 1) 23 [.int .i64 u, .int .i64 v] := by rw [hW]; exact Blk.new' _ 23 [.int .i64 u, .int .i64 v] (by simp)
      have hf : Frm w.heap.size [] w W := by rw [hW]; repeat (first | with_reducible exact Frm.refl _ _ _ | with_reducible refine Frm.drewN ?_ | with_reducible refine Frm.drew ?_ | ((with_reducible refine Frm.setCell' ?_ ?_); · first | (left; simp; done) | (right; simp; done) | (right; simp; omega)) | ((with_reducible refine Frm.alloc' ?_ ?_); · first | exact Nat.le_refl _ | (simp; done) | (simp; omega)))
      clear hW
      have c10 := hx1.cell 0
      have c11 := hx1.cell 1
      have c20 := hx2.cell 0
      have c21 := hx2.cell 1
      simp only [List.getElem?_cons_succ, List.getElem?_cons_zero] at c10 c11 c20 c21
      have HX1 := Lib.hid hx1
      have HX2 := Lib.hid hx2
      have HF := Lib.hid hf
      clear hf hx2 hx1
      go_wp2_with fail
      refine (refPlace_any _ _ _).mono ?_; rintro e w1 ⟨rfl, hf1⟩; rw [HH.out]
      have hx1 := hf1.blk HX1.out HX1.out.lt (by simp)
      have hx2 := hf1.blk HX2.out HX2.out.lt (by simp)
      have hf := HF.out.call hf1 HF.out.size (by simp)
      clear c10 c11 c20 c21 hf1 HX1 HX2 HF
      have c10 := hx1.cell 0
      have c11 := hx1.cell 1
      have c20 := hx2.cell 0
      have c21 := hx2.cell 1
      simp only [List.getElem?_cons_succ, List.getElem?_cons_zero] at c10 c11 c20 c21
      have HX1 := Lib.hid hx1
      have HX2 := Lib.hid hx2
      have HF := Lib.hid hf
      clear hf hx2 hx1
      go_wp2_with fail
      refine (refPlace_any _ _ _).mono ?_; rintro e w2 ⟨rfl, hf2⟩; rw [HK.out]
      have hx1 := hf2.blk HX1.out HX1.out.lt (by simp)
      have hx2 := hf2.blk HX2.out HX2.out.lt (by simp)
      have hf := HF.out.call hf2 HF.out.size (by simp)
      clear c10 c11 c20 c21 hf2 HX1 HX2 HF
      have c10 := hx1.cell 0
      have c11 := hx1.cell 1
      have c20 := hx2.cell 0
      have c21 := hx2.cell 1
      simp only [List.getElem?_cons_succ, List.getElem?_cons_zero] at c10 c11 c20 c21
      have HX1 := Lib.hid hx1
      have HX2 := Lib.hid hx2
      have HF := Lib.hid hf
      clear hf hx2 hx1
      go_wp2_with fail
      refine (HW.out _).mono ?_; rintro e w3 ⟨rfl, hf3⟩
      have hx1 := hf3.blk HX1.out HX1.out.lt (by simp)
      have hx2 := hf3.blk HX2.out HX2.out.lt (by simp)
      have hf := HF.out.call hf3 HF.out.size (by simp)
      clear c10 c11 c20 c21 hf3 HX1 HX2 HF
      have c10 := hx1.cell 0
      have c11 := hx1.cell 1
      have c20 := hx2.cell 0
      have c21 := hx2.cell 1
      simp only [List.getElem?_cons_succ, List.getElem?_cons_zero] at c10 c11 c20 c21
      have HX1 := Lib.hid hx1
      have HX2 := Lib.hid hx2
      have HF := Lib.hid hf
      clear hf hx2 hx1
      go_wp2_with fail
      go_ret2
      exact ⟨rfl, HF.out⟩
end Go.Proofs.YtghkfopcjdkieaaDoor
