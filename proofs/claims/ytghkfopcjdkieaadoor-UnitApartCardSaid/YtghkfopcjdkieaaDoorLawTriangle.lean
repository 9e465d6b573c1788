/-
  A way is not longer than two that lead there; it is the same both ways; it is the least integer that is long enough.
-/
import Derived.Test.YtghkfopcjdkieaaDoorOpens
namespace Go.Proofs.YtghkfopcjdkieaaDoor
open Go.ChangeShapes Go.WideShapes Go.ChangeAt Go.RowKit

theorem lagr (p q r t : Int) : (p*p+q*q)*(r*r+t*t) = (p*r+q*t)*(p*r+q*t) + (p*t-q*r)*(p*t-q*r) := by grind
theorem le_of_sq {m k : Int} (hk : 0 ≤ k) (h : m * m ≤ k * k) : m ≤ k := by
  rcases Int.lt_or_le k m with h1 | h1
  · have := Int.mul_lt_mul' (Int.le_of_lt h1) h1 hk (by omega)
    omega
  · exact h1
theorem mink {p q r t x y : Int} (hx : 0 ≤ x) (hy : 0 ≤ y) (h1 : p * p + q * q ≤ x * x) (h2 : r * r + t * t ≤ y * y) : (p + r) * (p + r) + (q + t) * (q + t) ≤ (x + y) * (x + y) := by
  have hl := lagr p q r t
  have hs := sq_nonneg (p * t - q * r)
  have hm : (p * p + q * q) * (r * r + t * t) ≤ (x * x) * (y * y) := Int.mul_le_mul h1 h2 (by have := sq_nonneg r; have := sq_nonneg t; omega) (sq_nonneg x)
  have e : (x * x) * (y * y) = (x * y) * (x * y) := by grind
  have hk := le_of_sq (Int.mul_nonneg hx hy) (show (p * r + q * t) * (p * r + q * t) ≤ (x * y) * (x * y) by omega)
  have e1 : (p + r) * (p + r) + (q + t) * (q + t) = (p * p + q * q) + (r * r + t * t) + 2 * (p * r + q * t) := by grind
  have e2 : (x + y) * (x + y) = x * x + y * y + 2 * (x * y) := by grind
  omega
theorem way_tri {ax ay bx b_y cx cy : Int} (ha : placeB ax ay = true) (hb : placeB bx b_y = true) (hc : placeB cx cy = true) : wayZ (sqZ ax ay cx cy) ≤ wayZ (sqZ ax ay bx b_y) + wayZ (sqZ bx b_y cx cy) := by
  have r1 := wayZ_root (sqZ_in ha hb).2
  have r2 := wayZ_root (sqZ_in hb hc).2
  have r3 := wayZ_root (sqZ_in ha hc).2
  rcases Int.lt_or_le (wayZ (sqZ ax ay bx b_y) + wayZ (sqZ bx b_y cx cy)) (wayZ (sqZ ax ay cx cy)) with h | h
  · exfalso
    have p1 := r1.pos
    have p2 := r2.pos
    have hl := r3.low (by omega)
    have hm := mink (p := ax - bx) (q := ay - b_y) (r := bx - cx) (t := b_y - cy) p1 p2 r1.up r2.up
    have e : (ax - bx + (bx - cx)) * (ax - bx + (bx - cx)) + (ay - b_y + (b_y - cy)) * (ay - b_y + (b_y - cy)) = sqZ ax ay cx cy := by unfold sqZ; grind
    rw [e] at hm
    have hq : (wayZ (sqZ ax ay bx b_y) + wayZ (sqZ bx b_y cx cy)) * (wayZ (sqZ ax ay bx b_y) + wayZ (sqZ bx b_y cx cy)) ≤ (wayZ (sqZ ax ay cx cy) - 1) * (wayZ (sqZ ax ay cx cy) - 1) := Int.mul_le_mul (by omega) (by omega) (by omega) (by omega)
    omega
  · exact h
theorem sqZ_sym (a b c d : Int) : sqZ a b c d = sqZ c d a b := by unfold sqZ; grind

theorem triNext {W w w1 : World} {b1 b2 b3 T : Nat} {A B C : List Value} (h : Blk W b1 T A ∧ Blk W b2 T B ∧ Blk W b3 T C ∧ Frm w.heap.size [] w W) (hf : Frm W.heap.size [] W w1) : Blk w1 b1 T A ∧ Blk w1 b2 T B ∧ Blk w1 b3 T C ∧ Frm w.heap.size [] w w1 :=
  ⟨hf.blk h.1 h.1.lt (by simp), hf.blk h.2.1 h.2.1.lt (by simp), hf.blk h.2.2.1 h.2.2.1.lt (by simp), h.2.2.2.call hf h.2.2.2.size (by simp)⟩
theorem refPlace_fr (x y : Int) (w : World) : Calls Tryd.prog 32 #[.agg #[.int .i64 x, .int .i64 y]] w fun e w' => e = .returned (.bool (placeB x y)) ∧ Frm w.heap.size [] w w' :=
  (refPlace_any x y w).mono fun e w' h => by
    obtain ⟨h1, h2⟩ := h
    exact ⟨h1, by first | exact h2 | exact h2 ▸ Frm.refl _ _ _⟩

set_option maxRecDepth 100000 in
set_option maxHeartbeats 4000000 in
theorem triangle_walk (ax ay bx b_y cx cy : Int) (w : World) (hgl : Glob w) :
    Calls Tryd.prog 7 #[.agg #[.int .i64 ax, .int .i64 ay], .agg #[.int .i64 bx, .int .i64 b_y], .agg #[.int .i64 cx, .int .i64 cy]] w fun e w' => e = .returned (.bool true) ∧ Frm w.heap.size [] w w' := by
  have hf0 := Tryd.func7
  have HGL := Lib.hid hgl
  clear hgl
  go_enter Tryd.func7, Tryd.ntmps7
  go_upto_region 1 with fail
  refine namedC ?_; intro W hW
  have h3 : Blk W w.heap.size 23 [.int .i64 ax, .int .i64 ay] := by rw [hW]; exact ((Blk.new w 23 [.int .i64 ax, .int .i64 ay]).alloc _).alloc _
  have h4 : Blk W (w.heap.size + 1) 23 [.int .i64 bx, .int .i64 b_y] := by rw [hW]; exact (Blk.new' _ 23 [.int .i64 bx, .int .i64 b_y] (by simp)).alloc _
  have h5 : Blk W (w.heap.size + 1 + 1) 23 [.int .i64 cx, .int .i64 cy] := by rw [hW]; exact Blk.new' _ 23 [.int .i64 cx, .int .i64 cy] (by simp)
  have hf : Frm w.heap.size [] w W := by rw [hW]; repeat (first | with_reducible exact Frm.refl _ _ _ | with_reducible refine Frm.drewN ?_ | with_reducible refine Frm.drew ?_ | ((with_reducible refine Frm.setCell' ?_ ?_); · first | (left; simp; done) | (right; simp; done) | (right; simp; omega)) | ((with_reducible refine Frm.alloc' ?_ ?_); · first | exact Nat.le_refl _ | (simp; done) | (simp; omega)))
  clear hW hf0
  have HX := Lib.hid (And.intro h3 (And.intro h4 (And.intro h5 hf)))
  clear h3 h4 h5 hf
  have i3 : (Tryd.prog.info? 23).map (fun i => i.size) = some ([.int .i64 ax, .int .i64 ay] : List Value).length := info23x
  have i4 : (Tryd.prog.info? 23).map (fun i => i.size) = some ([.int .i64 bx, .int .i64 b_y] : List Value).length := info23x
  have i5 : (Tryd.prog.info? 23).map (fun i => i.size) = some ([.int .i64 cx, .int .i64 cy] : List Value).length := info23x
  have hsym : distZ bx b_y ax ay = distZ ax ay bx b_y := by
    unfold distZ
    rw [sqZ_sym bx b_y ax ay, Bool.and_comm]
  have I3 := Lib.hid i3
  have I4 := Lib.hid i4
  have I5 := Lib.hid i5
  have HSYM := Lib.hid hsym
  clear hsym i5 i4 i3
  cases hA : placeB ax ay
  · cases hB : placeB bx b_y
    · cases hC : placeB cx cy
      · skip
        have e1 : distZ ax ay bx b_y = (0, 2) := by unfold distZ; simp [hA, hB]
        have e2 : distZ bx b_y cx cy = (0, 2) := by unfold distZ; simp [hB, hC]
        have e3 : distZ ax ay cx cy = (0, 2) := by unfold distZ; simp [hA, hC]
        have E1 := Lib.hid e1
        have E2 := Lib.hid e2
        have E3 := Lib.hid e3
        have HA := Lib.hid hA
        have HB := Lib.hid hB
        have HC := Lib.hid hC
        clear hC hB hA e3 e2 e1
        go_upto_region 8 with (first | (with_reducible refine atLoad 23 rfl ?_; first | refine wpList_loadB (ty := 23) rfl rfl HX.out.1 rfl Tryd.underlying23 rfl I3.out ?_ | refine wpList_loadB (ty := 23) rfl rfl HX.out.2.1 rfl Tryd.underlying23 rfl I4.out ?_ | refine wpList_loadB (ty := 23) rfl rfl HX.out.2.2.1 rfl Tryd.underlying23 rfl I5.out ?_) | (go_at_call 17; first | ((with_reducible refine (distance_any ax ay bx b_y _).mono ?_); rintro e w1 ⟨rfl, hf1⟩; rw [E1.out]; replace HX := Lib.hid (triNext HX.out hf1); clear hf1) | ((with_reducible refine (distance_any bx b_y cx cy _).mono ?_); rintro e w1 ⟨rfl, hf1⟩; rw [E2.out]; replace HX := Lib.hid (triNext HX.out hf1); clear hf1) | ((with_reducible refine (distance_any ax ay cx cy _).mono ?_); rintro e w1 ⟨rfl, hf1⟩; rw [E3.out]; replace HX := Lib.hid (triNext HX.out hf1); clear hf1) | ((with_reducible refine (distance_any bx b_y ax ay _).mono ?_); rintro e w1 ⟨rfl, hf1⟩; rw [HSYM.out, E1.out]; replace HX := Lib.hid (triNext HX.out hf1); clear hf1)) | (go_at_call 32; refine (refPlace_fr _ _ _).mono ?_; rintro e w1 ⟨rfl, hf1⟩; simp only [HA.out, HB.out, HC.out]; replace HX := Lib.hid (triNext HX.out hf1); clear hf1) | (go_at_call 16; refine (awake_any _ (HGL.out.frm HX.out.2.2.2 (Nat.le_refl _))).mono ?_; rintro e w1 ⟨rfl, hf1⟩; replace HX := Lib.hid (triNext HX.out hf1); clear hf1))
        have a0 := HX.out.1.cell 0; have a1 := HX.out.1.cell 1; have a2 := HX.out.2.1.cell 0; have a3 := HX.out.2.1.cell 1; have a4 := HX.out.2.2.1.cell 0; have a5 := HX.out.2.2.1.cell 1; simp only [List.getElem?_cons_succ, List.getElem?_cons_zero] at a0 a1 a2 a3 a4 a5
        go_wp2_with (first | (go_at_call 32; refine (refPlace_fr _ _ _).mono ?_; rintro e w1 ⟨rfl, hf1⟩; simp only [HA.out, HB.out, HC.out]; replace HX := Lib.hid (triNext HX.out hf1); clear hf1; clear a0 a1 a2 a3 a4 a5; have a0 := HX.out.1.cell 0; have a1 := HX.out.1.cell 1; have a2 := HX.out.2.1.cell 0; have a3 := HX.out.2.1.cell 1; have a4 := HX.out.2.2.1.cell 0; have a5 := HX.out.2.2.1.cell 1; simp only [List.getElem?_cons_succ, List.getElem?_cons_zero] at a0 a1 a2 a3 a4 a5) | (go_at_call 16; refine (awake_any _ (HGL.out.frm HX.out.2.2.2 (Nat.le_refl _))).mono ?_; rintro e w1 ⟨rfl, hf1⟩; replace HX := Lib.hid (triNext HX.out hf1); clear hf1))
        go_ret
        exact ⟨rfl, HX.out.2.2.2⟩
      · skip
        have e1 : distZ ax ay bx b_y = (0, 2) := by unfold distZ; simp [hA, hB]
        have e2 : distZ bx b_y cx cy = (0, 2) := by unfold distZ; simp [hB, hC]
        have e3 : distZ ax ay cx cy = (0, 2) := by unfold distZ; simp [hA, hC]
        have E1 := Lib.hid e1
        have E2 := Lib.hid e2
        have E3 := Lib.hid e3
        have HA := Lib.hid hA
        have HB := Lib.hid hB
        have HC := Lib.hid hC
        clear hC hB hA e3 e2 e1
        go_upto_region 8 with (first | (with_reducible refine atLoad 23 rfl ?_; first | refine wpList_loadB (ty := 23) rfl rfl HX.out.1 rfl Tryd.underlying23 rfl I3.out ?_ | refine wpList_loadB (ty := 23) rfl rfl HX.out.2.1 rfl Tryd.underlying23 rfl I4.out ?_ | refine wpList_loadB (ty := 23) rfl rfl HX.out.2.2.1 rfl Tryd.underlying23 rfl I5.out ?_) | (go_at_call 17; first | ((with_reducible refine (distance_any ax ay bx b_y _).mono ?_); rintro e w1 ⟨rfl, hf1⟩; rw [E1.out]; replace HX := Lib.hid (triNext HX.out hf1); clear hf1) | ((with_reducible refine (distance_any bx b_y cx cy _).mono ?_); rintro e w1 ⟨rfl, hf1⟩; rw [E2.out]; replace HX := Lib.hid (triNext HX.out hf1); clear hf1) | ((with_reducible refine (distance_any ax ay cx cy _).mono ?_); rintro e w1 ⟨rfl, hf1⟩; rw [E3.out]; replace HX := Lib.hid (triNext HX.out hf1); clear hf1) | ((with_reducible refine (distance_any bx b_y ax ay _).mono ?_); rintro e w1 ⟨rfl, hf1⟩; rw [HSYM.out, E1.out]; replace HX := Lib.hid (triNext HX.out hf1); clear hf1)) | (go_at_call 32; refine (refPlace_fr _ _ _).mono ?_; rintro e w1 ⟨rfl, hf1⟩; simp only [HA.out, HB.out, HC.out]; replace HX := Lib.hid (triNext HX.out hf1); clear hf1) | (go_at_call 16; refine (awake_any _ (HGL.out.frm HX.out.2.2.2 (Nat.le_refl _))).mono ?_; rintro e w1 ⟨rfl, hf1⟩; replace HX := Lib.hid (triNext HX.out hf1); clear hf1))
        have a0 := HX.out.1.cell 0; have a1 := HX.out.1.cell 1; have a2 := HX.out.2.1.cell 0; have a3 := HX.out.2.1.cell 1; have a4 := HX.out.2.2.1.cell 0; have a5 := HX.out.2.2.1.cell 1; simp only [List.getElem?_cons_succ, List.getElem?_cons_zero] at a0 a1 a2 a3 a4 a5
        go_wp2_with (first | (go_at_call 32; refine (refPlace_fr _ _ _).mono ?_; rintro e w1 ⟨rfl, hf1⟩; simp only [HA.out, HB.out, HC.out]; replace HX := Lib.hid (triNext HX.out hf1); clear hf1; clear a0 a1 a2 a3 a4 a5; have a0 := HX.out.1.cell 0; have a1 := HX.out.1.cell 1; have a2 := HX.out.2.1.cell 0; have a3 := HX.out.2.1.cell 1; have a4 := HX.out.2.2.1.cell 0; have a5 := HX.out.2.2.1.cell 1; simp only [List.getElem?_cons_succ, List.getElem?_cons_zero] at a0 a1 a2 a3 a4 a5) | (go_at_call 16; refine (awake_any _ (HGL.out.frm HX.out.2.2.2 (Nat.le_refl _))).mono ?_; rintro e w1 ⟨rfl, hf1⟩; replace HX := Lib.hid (triNext HX.out hf1); clear hf1))
        go_ret
        exact ⟨rfl, HX.out.2.2.2⟩
    · cases hC : placeB cx cy
      · skip
        have e1 : distZ ax ay bx b_y = (0, 2) := by unfold distZ; simp [hA, hB]
        have e2 : distZ bx b_y cx cy = (0, 2) := by unfold distZ; simp [hB, hC]
        have e3 : distZ ax ay cx cy = (0, 2) := by unfold distZ; simp [hA, hC]
        have E1 := Lib.hid e1
        have E2 := Lib.hid e2
        have E3 := Lib.hid e3
        have HA := Lib.hid hA
        have HB := Lib.hid hB
        have HC := Lib.hid hC
        clear hC hB hA e3 e2 e1
        go_upto_region 8 with (first | (with_reducible refine atLoad 23 rfl ?_; first | refine wpList_loadB (ty := 23) rfl rfl HX.out.1 rfl Tryd.underlying23 rfl I3.out ?_ | refine wpList_loadB (ty := 23) rfl rfl HX.out.2.1 rfl Tryd.underlying23 rfl I4.out ?_ | refine wpList_loadB (ty := 23) rfl rfl HX.out.2.2.1 rfl Tryd.underlying23 rfl I5.out ?_) | (go_at_call 17; first | ((with_reducible refine (distance_any ax ay bx b_y _).mono ?_); rintro e w1 ⟨rfl, hf1⟩; rw [E1.out]; replace HX := Lib.hid (triNext HX.out hf1); clear hf1) | ((with_reducible refine (distance_any bx b_y cx cy _).mono ?_); rintro e w1 ⟨rfl, hf1⟩; rw [E2.out]; replace HX := Lib.hid (triNext HX.out hf1); clear hf1) | ((with_reducible refine (distance_any ax ay cx cy _).mono ?_); rintro e w1 ⟨rfl, hf1⟩; rw [E3.out]; replace HX := Lib.hid (triNext HX.out hf1); clear hf1) | ((with_reducible refine (distance_any bx b_y ax ay _).mono ?_); rintro e w1 ⟨rfl, hf1⟩; rw [HSYM.out, E1.out]; replace HX := Lib.hid (triNext HX.out hf1); clear hf1)) | (go_at_call 32; refine (refPlace_fr _ _ _).mono ?_; rintro e w1 ⟨rfl, hf1⟩; simp only [HA.out, HB.out, HC.out]; replace HX := Lib.hid (triNext HX.out hf1); clear hf1) | (go_at_call 16; refine (awake_any _ (HGL.out.frm HX.out.2.2.2 (Nat.le_refl _))).mono ?_; rintro e w1 ⟨rfl, hf1⟩; replace HX := Lib.hid (triNext HX.out hf1); clear hf1))
        have a0 := HX.out.1.cell 0; have a1 := HX.out.1.cell 1; have a2 := HX.out.2.1.cell 0; have a3 := HX.out.2.1.cell 1; have a4 := HX.out.2.2.1.cell 0; have a5 := HX.out.2.2.1.cell 1; simp only [List.getElem?_cons_succ, List.getElem?_cons_zero] at a0 a1 a2 a3 a4 a5
        go_wp2_with (first | (go_at_call 32; refine (refPlace_fr _ _ _).mono ?_; rintro e w1 ⟨rfl, hf1⟩; simp only [HA.out, HB.out, HC.out]; replace HX := Lib.hid (triNext HX.out hf1); clear hf1; clear a0 a1 a2 a3 a4 a5; have a0 := HX.out.1.cell 0; have a1 := HX.out.1.cell 1; have a2 := HX.out.2.1.cell 0; have a3 := HX.out.2.1.cell 1; have a4 := HX.out.2.2.1.cell 0; have a5 := HX.out.2.2.1.cell 1; simp only [List.getElem?_cons_succ, List.getElem?_cons_zero] at a0 a1 a2 a3 a4 a5) | (go_at_call 16; refine (awake_any _ (HGL.out.frm HX.out.2.2.2 (Nat.le_refl _))).mono ?_; rintro e w1 ⟨rfl, hf1⟩; replace HX := Lib.hid (triNext HX.out hf1); clear hf1))
        go_ret
        exact ⟨rfl, HX.out.2.2.2⟩
      · skip
        have e1 : distZ ax ay bx b_y = (0, 2) := by unfold distZ; simp [hA, hB]
        have e2 : distZ bx b_y cx cy = (wayZ (sqZ bx b_y cx cy), 0) := by unfold distZ; simp [hB, hC]
        have e3 : distZ ax ay cx cy = (0, 2) := by unfold distZ; simp [hA, hC]
        have E1 := Lib.hid e1
        have E2 := Lib.hid e2
        have E3 := Lib.hid e3
        have HA := Lib.hid hA
        have HB := Lib.hid hB
        have HC := Lib.hid hC
        clear hC hB hA e3 e2 e1
        go_upto_region 8 with (first | (with_reducible refine atLoad 23 rfl ?_; first | refine wpList_loadB (ty := 23) rfl rfl HX.out.1 rfl Tryd.underlying23 rfl I3.out ?_ | refine wpList_loadB (ty := 23) rfl rfl HX.out.2.1 rfl Tryd.underlying23 rfl I4.out ?_ | refine wpList_loadB (ty := 23) rfl rfl HX.out.2.2.1 rfl Tryd.underlying23 rfl I5.out ?_) | (go_at_call 17; first | ((with_reducible refine (distance_any ax ay bx b_y _).mono ?_); rintro e w1 ⟨rfl, hf1⟩; rw [E1.out]; replace HX := Lib.hid (triNext HX.out hf1); clear hf1) | ((with_reducible refine (distance_any bx b_y cx cy _).mono ?_); rintro e w1 ⟨rfl, hf1⟩; rw [E2.out]; replace HX := Lib.hid (triNext HX.out hf1); clear hf1) | ((with_reducible refine (distance_any ax ay cx cy _).mono ?_); rintro e w1 ⟨rfl, hf1⟩; rw [E3.out]; replace HX := Lib.hid (triNext HX.out hf1); clear hf1) | ((with_reducible refine (distance_any bx b_y ax ay _).mono ?_); rintro e w1 ⟨rfl, hf1⟩; rw [HSYM.out, E1.out]; replace HX := Lib.hid (triNext HX.out hf1); clear hf1)) | (go_at_call 32; refine (refPlace_fr _ _ _).mono ?_; rintro e w1 ⟨rfl, hf1⟩; simp only [HA.out, HB.out, HC.out]; replace HX := Lib.hid (triNext HX.out hf1); clear hf1) | (go_at_call 16; refine (awake_any _ (HGL.out.frm HX.out.2.2.2 (Nat.le_refl _))).mono ?_; rintro e w1 ⟨rfl, hf1⟩; replace HX := Lib.hid (triNext HX.out hf1); clear hf1))
        have a0 := HX.out.1.cell 0; have a1 := HX.out.1.cell 1; have a2 := HX.out.2.1.cell 0; have a3 := HX.out.2.1.cell 1; have a4 := HX.out.2.2.1.cell 0; have a5 := HX.out.2.2.1.cell 1; simp only [List.getElem?_cons_succ, List.getElem?_cons_zero] at a0 a1 a2 a3 a4 a5
        go_wp2_with (first | (go_at_call 32; refine (refPlace_fr _ _ _).mono ?_; rintro e w1 ⟨rfl, hf1⟩; simp only [HA.out, HB.out, HC.out]; replace HX := Lib.hid (triNext HX.out hf1); clear hf1; clear a0 a1 a2 a3 a4 a5; have a0 := HX.out.1.cell 0; have a1 := HX.out.1.cell 1; have a2 := HX.out.2.1.cell 0; have a3 := HX.out.2.1.cell 1; have a4 := HX.out.2.2.1.cell 0; have a5 := HX.out.2.2.1.cell 1; simp only [List.getElem?_cons_succ, List.getElem?_cons_zero] at a0 a1 a2 a3 a4 a5) | (go_at_call 16; refine (awake_any _ (HGL.out.frm HX.out.2.2.2 (Nat.le_refl _))).mono ?_; rintro e w1 ⟨rfl, hf1⟩; replace HX := Lib.hid (triNext HX.out hf1); clear hf1))
        go_ret
        exact ⟨rfl, HX.out.2.2.2⟩
  · cases hB : placeB bx b_y
    · cases hC : placeB cx cy
      · skip
        have e1 : distZ ax ay bx b_y = (0, 2) := by unfold distZ; simp [hA, hB]
        have e2 : distZ bx b_y cx cy = (0, 2) := by unfold distZ; simp [hB, hC]
        have e3 : distZ ax ay cx cy = (0, 2) := by unfold distZ; simp [hA, hC]
        have E1 := Lib.hid e1
        have E2 := Lib.hid e2
        have E3 := Lib.hid e3
        have HA := Lib.hid hA
        have HB := Lib.hid hB
        have HC := Lib.hid hC
        clear hC hB hA e3 e2 e1
        go_upto_region 8 with (first | (with_reducible refine atLoad 23 rfl ?_; first | refine wpList_loadB (ty := 23) rfl rfl HX.out.1 rfl Tryd.underlying23 rfl I3.out ?_ | refine wpList_loadB (ty := 23) rfl rfl HX.out.2.1 rfl Tryd.underlying23 rfl I4.out ?_ | refine wpList_loadB (ty := 23) rfl rfl HX.out.2.2.1 rfl Tryd.underlying23 rfl I5.out ?_) | (go_at_call 17; first | ((with_reducible refine (distance_any ax ay bx b_y _).mono ?_); rintro e w1 ⟨rfl, hf1⟩; rw [E1.out]; replace HX := Lib.hid (triNext HX.out hf1); clear hf1) | ((with_reducible refine (distance_any bx b_y cx cy _).mono ?_); rintro e w1 ⟨rfl, hf1⟩; rw [E2.out]; replace HX := Lib.hid (triNext HX.out hf1); clear hf1) | ((with_reducible refine (distance_any ax ay cx cy _).mono ?_); rintro e w1 ⟨rfl, hf1⟩; rw [E3.out]; replace HX := Lib.hid (triNext HX.out hf1); clear hf1) | ((with_reducible refine (distance_any bx b_y ax ay _).mono ?_); rintro e w1 ⟨rfl, hf1⟩; rw [HSYM.out, E1.out]; replace HX := Lib.hid (triNext HX.out hf1); clear hf1)) | (go_at_call 32; refine (refPlace_fr _ _ _).mono ?_; rintro e w1 ⟨rfl, hf1⟩; simp only [HA.out, HB.out, HC.out]; replace HX := Lib.hid (triNext HX.out hf1); clear hf1) | (go_at_call 16; refine (awake_any _ (HGL.out.frm HX.out.2.2.2 (Nat.le_refl _))).mono ?_; rintro e w1 ⟨rfl, hf1⟩; replace HX := Lib.hid (triNext HX.out hf1); clear hf1))
        have a0 := HX.out.1.cell 0; have a1 := HX.out.1.cell 1; have a2 := HX.out.2.1.cell 0; have a3 := HX.out.2.1.cell 1; have a4 := HX.out.2.2.1.cell 0; have a5 := HX.out.2.2.1.cell 1; simp only [List.getElem?_cons_succ, List.getElem?_cons_zero] at a0 a1 a2 a3 a4 a5
        go_wp2_with (first | (go_at_call 32; refine (refPlace_fr _ _ _).mono ?_; rintro e w1 ⟨rfl, hf1⟩; simp only [HA.out, HB.out, HC.out]; replace HX := Lib.hid (triNext HX.out hf1); clear hf1; clear a0 a1 a2 a3 a4 a5; have a0 := HX.out.1.cell 0; have a1 := HX.out.1.cell 1; have a2 := HX.out.2.1.cell 0; have a3 := HX.out.2.1.cell 1; have a4 := HX.out.2.2.1.cell 0; have a5 := HX.out.2.2.1.cell 1; simp only [List.getElem?_cons_succ, List.getElem?_cons_zero] at a0 a1 a2 a3 a4 a5) | (go_at_call 16; refine (awake_any _ (HGL.out.frm HX.out.2.2.2 (Nat.le_refl _))).mono ?_; rintro e w1 ⟨rfl, hf1⟩; replace HX := Lib.hid (triNext HX.out hf1); clear hf1))
        go_ret
        exact ⟨rfl, HX.out.2.2.2⟩
      · skip
        have e1 : distZ ax ay bx b_y = (0, 2) := by unfold distZ; simp [hA, hB]
        have e2 : distZ bx b_y cx cy = (0, 2) := by unfold distZ; simp [hB, hC]
        have e3 : distZ ax ay cx cy = (wayZ (sqZ ax ay cx cy), 0) := by unfold distZ; simp [hA, hC]
        have E1 := Lib.hid e1
        have E2 := Lib.hid e2
        have E3 := Lib.hid e3
        have HA := Lib.hid hA
        have HB := Lib.hid hB
        have HC := Lib.hid hC
        clear hC hB hA e3 e2 e1
        go_upto_region 8 with (first | (with_reducible refine atLoad 23 rfl ?_; first | refine wpList_loadB (ty := 23) rfl rfl HX.out.1 rfl Tryd.underlying23 rfl I3.out ?_ | refine wpList_loadB (ty := 23) rfl rfl HX.out.2.1 rfl Tryd.underlying23 rfl I4.out ?_ | refine wpList_loadB (ty := 23) rfl rfl HX.out.2.2.1 rfl Tryd.underlying23 rfl I5.out ?_) | (go_at_call 17; first | ((with_reducible refine (distance_any ax ay bx b_y _).mono ?_); rintro e w1 ⟨rfl, hf1⟩; rw [E1.out]; replace HX := Lib.hid (triNext HX.out hf1); clear hf1) | ((with_reducible refine (distance_any bx b_y cx cy _).mono ?_); rintro e w1 ⟨rfl, hf1⟩; rw [E2.out]; replace HX := Lib.hid (triNext HX.out hf1); clear hf1) | ((with_reducible refine (distance_any ax ay cx cy _).mono ?_); rintro e w1 ⟨rfl, hf1⟩; rw [E3.out]; replace HX := Lib.hid (triNext HX.out hf1); clear hf1) | ((with_reducible refine (distance_any bx b_y ax ay _).mono ?_); rintro e w1 ⟨rfl, hf1⟩; rw [HSYM.out, E1.out]; replace HX := Lib.hid (triNext HX.out hf1); clear hf1)) | (go_at_call 32; refine (refPlace_fr _ _ _).mono ?_; rintro e w1 ⟨rfl, hf1⟩; simp only [HA.out, HB.out, HC.out]; replace HX := Lib.hid (triNext HX.out hf1); clear hf1) | (go_at_call 16; refine (awake_any _ (HGL.out.frm HX.out.2.2.2 (Nat.le_refl _))).mono ?_; rintro e w1 ⟨rfl, hf1⟩; replace HX := Lib.hid (triNext HX.out hf1); clear hf1))
        have a0 := HX.out.1.cell 0; have a1 := HX.out.1.cell 1; have a2 := HX.out.2.1.cell 0; have a3 := HX.out.2.1.cell 1; have a4 := HX.out.2.2.1.cell 0; have a5 := HX.out.2.2.1.cell 1; simp only [List.getElem?_cons_succ, List.getElem?_cons_zero] at a0 a1 a2 a3 a4 a5
        go_wp2_with (first | (go_at_call 32; refine (refPlace_fr _ _ _).mono ?_; rintro e w1 ⟨rfl, hf1⟩; simp only [HA.out, HB.out, HC.out]; replace HX := Lib.hid (triNext HX.out hf1); clear hf1; clear a0 a1 a2 a3 a4 a5; have a0 := HX.out.1.cell 0; have a1 := HX.out.1.cell 1; have a2 := HX.out.2.1.cell 0; have a3 := HX.out.2.1.cell 1; have a4 := HX.out.2.2.1.cell 0; have a5 := HX.out.2.2.1.cell 1; simp only [List.getElem?_cons_succ, List.getElem?_cons_zero] at a0 a1 a2 a3 a4 a5) | (go_at_call 16; refine (awake_any _ (HGL.out.frm HX.out.2.2.2 (Nat.le_refl _))).mono ?_; rintro e w1 ⟨rfl, hf1⟩; replace HX := Lib.hid (triNext HX.out hf1); clear hf1))
        go_ret
        exact ⟨rfl, HX.out.2.2.2⟩
    · cases hC : placeB cx cy
      · skip
        have e1 : distZ ax ay bx b_y = (wayZ (sqZ ax ay bx b_y), 0) := by unfold distZ; simp [hA, hB]
        have e2 : distZ bx b_y cx cy = (0, 2) := by unfold distZ; simp [hB, hC]
        have e3 : distZ ax ay cx cy = (0, 2) := by unfold distZ; simp [hA, hC]
        have E1 := Lib.hid e1
        have E2 := Lib.hid e2
        have E3 := Lib.hid e3
        have HA := Lib.hid hA
        have HB := Lib.hid hB
        have HC := Lib.hid hC
        clear hC hB hA e3 e2 e1
        go_upto_region 8 with (first | (with_reducible refine atLoad 23 rfl ?_; first | refine wpList_loadB (ty := 23) rfl rfl HX.out.1 rfl Tryd.underlying23 rfl I3.out ?_ | refine wpList_loadB (ty := 23) rfl rfl HX.out.2.1 rfl Tryd.underlying23 rfl I4.out ?_ | refine wpList_loadB (ty := 23) rfl rfl HX.out.2.2.1 rfl Tryd.underlying23 rfl I5.out ?_) | (go_at_call 17; first | ((with_reducible refine (distance_any ax ay bx b_y _).mono ?_); rintro e w1 ⟨rfl, hf1⟩; rw [E1.out]; replace HX := Lib.hid (triNext HX.out hf1); clear hf1) | ((with_reducible refine (distance_any bx b_y cx cy _).mono ?_); rintro e w1 ⟨rfl, hf1⟩; rw [E2.out]; replace HX := Lib.hid (triNext HX.out hf1); clear hf1) | ((with_reducible refine (distance_any ax ay cx cy _).mono ?_); rintro e w1 ⟨rfl, hf1⟩; rw [E3.out]; replace HX := Lib.hid (triNext HX.out hf1); clear hf1) | ((with_reducible refine (distance_any bx b_y ax ay _).mono ?_); rintro e w1 ⟨rfl, hf1⟩; rw [HSYM.out, E1.out]; replace HX := Lib.hid (triNext HX.out hf1); clear hf1)) | (go_at_call 32; refine (refPlace_fr _ _ _).mono ?_; rintro e w1 ⟨rfl, hf1⟩; simp only [HA.out, HB.out, HC.out]; replace HX := Lib.hid (triNext HX.out hf1); clear hf1) | (go_at_call 16; refine (awake_any _ (HGL.out.frm HX.out.2.2.2 (Nat.le_refl _))).mono ?_; rintro e w1 ⟨rfl, hf1⟩; replace HX := Lib.hid (triNext HX.out hf1); clear hf1))
        have a0 := HX.out.1.cell 0; have a1 := HX.out.1.cell 1; have a2 := HX.out.2.1.cell 0; have a3 := HX.out.2.1.cell 1; have a4 := HX.out.2.2.1.cell 0; have a5 := HX.out.2.2.1.cell 1; simp only [List.getElem?_cons_succ, List.getElem?_cons_zero] at a0 a1 a2 a3 a4 a5
        go_wp2_with (first | (go_at_call 32; refine (refPlace_fr _ _ _).mono ?_; rintro e w1 ⟨rfl, hf1⟩; simp only [HA.out, HB.out, HC.out]; replace HX := Lib.hid (triNext HX.out hf1); clear hf1; clear a0 a1 a2 a3 a4 a5; have a0 := HX.out.1.cell 0; have a1 := HX.out.1.cell 1; have a2 := HX.out.2.1.cell 0; have a3 := HX.out.2.1.cell 1; have a4 := HX.out.2.2.1.cell 0; have a5 := HX.out.2.2.1.cell 1; simp only [List.getElem?_cons_succ, List.getElem?_cons_zero] at a0 a1 a2 a3 a4 a5) | (go_at_call 16; refine (awake_any _ (HGL.out.frm HX.out.2.2.2 (Nat.le_refl _))).mono ?_; rintro e w1 ⟨rfl, hf1⟩; replace HX := Lib.hid (triNext HX.out hf1); clear hf1))
        go_ret
        exact ⟨rfl, HX.out.2.2.2⟩
      · skip
        have e1 : distZ ax ay bx b_y = (wayZ (sqZ ax ay bx b_y), 0) := by unfold distZ; simp [hA, hB]
        have e2 : distZ bx b_y cx cy = (wayZ (sqZ bx b_y cx cy), 0) := by unfold distZ; simp [hB, hC]
        have e3 : distZ ax ay cx cy = (wayZ (sqZ ax ay cx cy), 0) := by unfold distZ; simp [hA, hC]
        have htri := way_tri hA hB hC
        have hr := wayZ_root (sqZ_in hA hB).2
        have hq := sqZ_in hA hB
        have hx := wayZ_in hq.1 hq.2
        have hq2 := sqZ_in hB hC
        have hy := wayZ_in hq2.1 hq2.2
        have pa := place_in hA
        have pb := place_in hB
        obtain ⟨p, hp⟩ : ∃ p, p = ax - bx := ⟨_, rfl⟩
        obtain ⟨q, hqq⟩ : ∃ q, q = ay - b_y := ⟨_, rfl⟩
        obtain ⟨X, hX⟩ : ∃ X, X = wayZ (sqZ ax ay bx b_y) := ⟨_, rfl⟩
        obtain ⟨Y, hY⟩ : ∃ Y, Y = wayZ (sqZ bx b_y cx cy) := ⟨_, rfl⟩
        obtain ⟨Z, hZ⟩ : ∃ Z, Z = wayZ (sqZ ax ay cx cy) := ⟨_, rfl⟩
        obtain ⟨pp, hpp⟩ : ∃ pp, pp = p * p := ⟨_, rfl⟩
        obtain ⟨qq, hqq2⟩ : ∃ qq, qq = q * q := ⟨_, rfl⟩
        obtain ⟨ss, hss⟩ : ∃ ss, ss = pp + qq := ⟨_, rfl⟩
        have hs : sqZ ax ay bx b_y = ss := by unfold sqZ; rw [hss, hpp, hqq2, hp, hqq]
        rw [← hX, ← hY, ← hZ] at htri
        rw [← hX] at hr hx e1
        rw [← hY] at hy e2
        rw [← hZ] at e3
        rw [hs] at hr hq
        have hp0 := sq_nonneg p
        have hq0 := sq_nonneg q
        rw [← hpp] at hp0
        rw [← hqq2] at hq0
        obtain ⟨XX, hXX⟩ : ∃ XX, XX = X * X := ⟨_, rfl⟩
        obtain ⟨X1, hX1⟩ : ∃ X1, X1 = X - 1 := ⟨_, rfl⟩
        obtain ⟨YY, hYY⟩ : ∃ YY, YY = X1 * X1 := ⟨_, rfl⟩
        obtain ⟨XY, hXY⟩ : ∃ XY, XY = X + Y := ⟨_, rfl⟩
        have hup := hr.up
        rw [← hXX] at hup
        have hXXr : 0 ≤ XX ∧ XX ≤ 67108864 * 67108864 := by rw [hXX]; exact ⟨Int.mul_nonneg hx.1 hx.1, Int.mul_le_mul hx.2 hx.2 hx.1 (by omega)⟩
        have hlow : 0 < X → YY < ss := fun h => by have := hr.low h; rw [← hX1, ← hYY] at this; exact this
        have hYYr : 0 < X → 0 ≤ YY ∧ YY ≤ 67108864 * 67108864 := fun h => by rw [hYY]; exact ⟨Int.mul_nonneg (by omega) (by omega), Int.mul_le_mul (by omega) (by omega) (by omega) (by omega)⟩
        have w1 : wrap64 (ax - bx) = p := by rw [hp]; exact IntWalk.wrap64_in _ (by omega)
        have w2 : wrap64 (ay - b_y) = q := by rw [hqq]; exact IntWalk.wrap64_in _ (by omega)
        have w3 : wrap64 (p * p) = pp := by rw [← hpp]; exact IntWalk.wrap64_in _ (by omega)
        have w4 : wrap64 (q * q) = qq := by rw [← hqq2]; exact IntWalk.wrap64_in _ (by omega)
        have w5 : wrap64 (pp + qq) = ss := by rw [← hss]; exact IntWalk.wrap64_in _ (by omega)
        have w6 : wrap64 (X * X) = XX := by rw [← hXX]; exact IntWalk.wrap64_in _ (by omega)
        have w7 : wrap64 (X - 1) = X1 := by rw [hX1]; exact IntWalk.wrap64_in _ (by omega)
        have w9 : wrap64 (X + Y) = XY := by rw [hXY]; exact IntWalk.wrap64_in _ (by omega)
        have v1 : IntKind.i64.wrap (ax - bx) = p := by rw [hp]; exact IntWalk.i64_in _ (by omega)
        have v2 : IntKind.i64.wrap (ay - b_y) = q := by rw [hqq]; exact IntWalk.i64_in _ (by omega)
        have v3 : IntKind.i64.wrap (p * p) = pp := by rw [← hpp]; exact IntWalk.i64_in _ (by omega)
        have v4 : IntKind.i64.wrap (q * q) = qq := by rw [← hqq2]; exact IntWalk.i64_in _ (by omega)
        have v5 : IntKind.i64.wrap (pp + qq) = ss := by rw [← hss]; exact IntWalk.i64_in _ (by omega)
        have v6 : IntKind.i64.wrap (X * X) = XX := by rw [← hXX]; exact IntWalk.i64_in _ (by omega)
        have v7 : IntKind.i64.wrap (X - 1) = X1 := by rw [hX1]; exact IntWalk.i64_in _ (by omega)
        have v9 : IntKind.i64.wrap (X + Y) = XY := by rw [hXY]; exact IntWalk.i64_in _ (by omega)
        have n1 : ¬ X < 0 := by omega
        have n2 : ¬ 67108864 < X := by omega
        have n3 : ¬ XX < ss := by omega
        have n4 : Z ≤ XY := by omega
        clear hp hqq hpp hqq2 hss hs hr hq hq2 hx hy pa pb hX hY hZ htri hp0 hq0 hXX hup hXXr hXY
        have E1 := Lib.hid e1
        have E2 := Lib.hid e2
        have E3 := Lib.hid e3
        have HA := Lib.hid hA
        have HB := Lib.hid hB
        have HC := Lib.hid hC
        clear hC hB hA e3 e2 e1
        by_cases h0 : 0 < X
        · have n5 : ¬ ss ≤ YY := by have := hlow h0; omega
          have w8 : wrap64 (X1 * X1) = YY := by rw [← hYY]; exact IntWalk.wrap64_in _ (by have := hYYr h0; omega)
          have v8 : IntKind.i64.wrap (X1 * X1) = YY := by rw [← hYY]; exact IntWalk.i64_in _ (by have := hYYr h0; omega)
          clear hlow hYYr hX1 hYY
          go_upto_region 9 with (first | (with_reducible refine atLoad 23 rfl ?_; first | refine wpList_loadB (ty := 23) rfl rfl HX.out.1 rfl Tryd.underlying23 rfl I3.out ?_ | refine wpList_loadB (ty := 23) rfl rfl HX.out.2.1 rfl Tryd.underlying23 rfl I4.out ?_ | refine wpList_loadB (ty := 23) rfl rfl HX.out.2.2.1 rfl Tryd.underlying23 rfl I5.out ?_) | (go_at_call 17; first | ((with_reducible refine (distance_any ax ay bx b_y _).mono ?_); rintro e w1 ⟨rfl, hf1⟩; rw [E1.out]; replace HX := Lib.hid (triNext HX.out hf1); clear hf1) | ((with_reducible refine (distance_any bx b_y cx cy _).mono ?_); rintro e w1 ⟨rfl, hf1⟩; rw [E2.out]; replace HX := Lib.hid (triNext HX.out hf1); clear hf1) | ((with_reducible refine (distance_any ax ay cx cy _).mono ?_); rintro e w1 ⟨rfl, hf1⟩; rw [E3.out]; replace HX := Lib.hid (triNext HX.out hf1); clear hf1) | ((with_reducible refine (distance_any bx b_y ax ay _).mono ?_); rintro e w1 ⟨rfl, hf1⟩; rw [HSYM.out, E1.out]; replace HX := Lib.hid (triNext HX.out hf1); clear hf1)) | (go_at_call 32; refine (refPlace_fr _ _ _).mono ?_; rintro e w1 ⟨rfl, hf1⟩; simp only [HA.out, HB.out, HC.out]; replace HX := Lib.hid (triNext HX.out hf1); clear hf1) | (go_at_call 16; refine (awake_any _ (HGL.out.frm HX.out.2.2.2 (Nat.le_refl _))).mono ?_; rintro e w1 ⟨rfl, hf1⟩; replace HX := Lib.hid (triNext HX.out hf1); clear hf1))
          have a0 := HX.out.1.cell 0
          have a1 := HX.out.1.cell 1
          have a2 := HX.out.2.1.cell 0
          have a3 := HX.out.2.1.cell 1
          simp only [List.getElem?_cons_succ, List.getElem?_cons_zero] at a0 a1 a2 a3
          go_wp2_with (first | (with_reducible refine atLoad 23 rfl ?_; first | refine wpList_loadB (ty := 23) rfl rfl HX.out.1 rfl Tryd.underlying23 rfl I3.out ?_ | refine wpList_loadB (ty := 23) rfl rfl HX.out.2.1 rfl Tryd.underlying23 rfl I4.out ?_ | refine wpList_loadB (ty := 23) rfl rfl HX.out.2.2.1 rfl Tryd.underlying23 rfl I5.out ?_) | (go_at_call 17; first | ((with_reducible refine (distance_any ax ay bx b_y _).mono ?_); rintro e w1 ⟨rfl, hf1⟩; rw [E1.out]; replace HX := Lib.hid (triNext HX.out hf1); clear hf1) | ((with_reducible refine (distance_any bx b_y cx cy _).mono ?_); rintro e w1 ⟨rfl, hf1⟩; rw [E2.out]; replace HX := Lib.hid (triNext HX.out hf1); clear hf1) | ((with_reducible refine (distance_any ax ay cx cy _).mono ?_); rintro e w1 ⟨rfl, hf1⟩; rw [E3.out]; replace HX := Lib.hid (triNext HX.out hf1); clear hf1) | ((with_reducible refine (distance_any bx b_y ax ay _).mono ?_); rintro e w1 ⟨rfl, hf1⟩; rw [HSYM.out, E1.out]; replace HX := Lib.hid (triNext HX.out hf1); clear hf1)) | (go_at_call 32; refine (refPlace_fr _ _ _).mono ?_; rintro e w1 ⟨rfl, hf1⟩; simp only [HA.out, HB.out, HC.out]; replace HX := Lib.hid (triNext HX.out hf1); clear hf1) | (go_at_call 16; refine (awake_any _ (HGL.out.frm HX.out.2.2.2 (Nat.le_refl _))).mono ?_; rintro e w1 ⟨rfl, hf1⟩; replace HX := Lib.hid (triNext HX.out hf1); clear hf1))
          go_ret
          exact ⟨rfl, HX.out.2.2.2⟩
        · clear hlow hYYr hX1 hYY
          go_upto_region 9 with (first | (with_reducible refine atLoad 23 rfl ?_; first | refine wpList_loadB (ty := 23) rfl rfl HX.out.1 rfl Tryd.underlying23 rfl I3.out ?_ | refine wpList_loadB (ty := 23) rfl rfl HX.out.2.1 rfl Tryd.underlying23 rfl I4.out ?_ | refine wpList_loadB (ty := 23) rfl rfl HX.out.2.2.1 rfl Tryd.underlying23 rfl I5.out ?_) | (go_at_call 17; first | ((with_reducible refine (distance_any ax ay bx b_y _).mono ?_); rintro e w1 ⟨rfl, hf1⟩; rw [E1.out]; replace HX := Lib.hid (triNext HX.out hf1); clear hf1) | ((with_reducible refine (distance_any bx b_y cx cy _).mono ?_); rintro e w1 ⟨rfl, hf1⟩; rw [E2.out]; replace HX := Lib.hid (triNext HX.out hf1); clear hf1) | ((with_reducible refine (distance_any ax ay cx cy _).mono ?_); rintro e w1 ⟨rfl, hf1⟩; rw [E3.out]; replace HX := Lib.hid (triNext HX.out hf1); clear hf1) | ((with_reducible refine (distance_any bx b_y ax ay _).mono ?_); rintro e w1 ⟨rfl, hf1⟩; rw [HSYM.out, E1.out]; replace HX := Lib.hid (triNext HX.out hf1); clear hf1)) | (go_at_call 32; refine (refPlace_fr _ _ _).mono ?_; rintro e w1 ⟨rfl, hf1⟩; simp only [HA.out, HB.out, HC.out]; replace HX := Lib.hid (triNext HX.out hf1); clear hf1) | (go_at_call 16; refine (awake_any _ (HGL.out.frm HX.out.2.2.2 (Nat.le_refl _))).mono ?_; rintro e w1 ⟨rfl, hf1⟩; replace HX := Lib.hid (triNext HX.out hf1); clear hf1))
          have a0 := HX.out.1.cell 0
          have a1 := HX.out.1.cell 1
          have a2 := HX.out.2.1.cell 0
          have a3 := HX.out.2.1.cell 1
          simp only [List.getElem?_cons_succ, List.getElem?_cons_zero] at a0 a1 a2 a3
          go_wp2_with (first | (with_reducible refine atLoad 23 rfl ?_; first | refine wpList_loadB (ty := 23) rfl rfl HX.out.1 rfl Tryd.underlying23 rfl I3.out ?_ | refine wpList_loadB (ty := 23) rfl rfl HX.out.2.1 rfl Tryd.underlying23 rfl I4.out ?_ | refine wpList_loadB (ty := 23) rfl rfl HX.out.2.2.1 rfl Tryd.underlying23 rfl I5.out ?_) | (go_at_call 17; first | ((with_reducible refine (distance_any ax ay bx b_y _).mono ?_); rintro e w1 ⟨rfl, hf1⟩; rw [E1.out]; replace HX := Lib.hid (triNext HX.out hf1); clear hf1) | ((with_reducible refine (distance_any bx b_y cx cy _).mono ?_); rintro e w1 ⟨rfl, hf1⟩; rw [E2.out]; replace HX := Lib.hid (triNext HX.out hf1); clear hf1) | ((with_reducible refine (distance_any ax ay cx cy _).mono ?_); rintro e w1 ⟨rfl, hf1⟩; rw [E3.out]; replace HX := Lib.hid (triNext HX.out hf1); clear hf1) | ((with_reducible refine (distance_any bx b_y ax ay _).mono ?_); rintro e w1 ⟨rfl, hf1⟩; rw [HSYM.out, E1.out]; replace HX := Lib.hid (triNext HX.out hf1); clear hf1)) | (go_at_call 32; refine (refPlace_fr _ _ _).mono ?_; rintro e w1 ⟨rfl, hf1⟩; simp only [HA.out, HB.out, HC.out]; replace HX := Lib.hid (triNext HX.out hf1); clear hf1) | (go_at_call 16; refine (awake_any _ (HGL.out.frm HX.out.2.2.2 (Nat.le_refl _))).mono ?_; rintro e w1 ⟨rfl, hf1⟩; replace HX := Lib.hid (triNext HX.out hf1); clear hf1))
          go_ret
          exact ⟨rfl, HX.out.2.2.2⟩

set_option maxRecDepth 100000
theorem leaves23 : Tryd.prog.cellTypes Tryd.prog.depth 23 = some [3, 3] := by kernel_rfl
theorem open_spot {W : World} {r : Reach} {base : Nat} {v : Value} (hv : Value.okWide Tryd.prog W r base 23 v) : ∃ a b, v = .agg #[.int .i64 a, .int .i64 b] := by
  have hv' : ∃ cs, v = .agg cs ∧ cs.size = Tryd.prog.cellsOf 23 ∧ Row.okWide Tryd.prog W r base 23 cs := by simpa only [Value.okWide, Tryd.underlying23] using hv
  obtain ⟨⟨l⟩, rfl, hsz, ts, hts, _, hc⟩ := hv'
  rw [cells23] at hsz
  obtain rfl := Option.some.inj (leaves23.symm.trans hts)
  match l, hsz, hc with
  | [a, b], _, hc =>
    obtain ⟨_, ea, ha⟩ := hc 0 a rfl
    obtain ⟨_, eb, hb⟩ := hc 1 b rfl
    cases ea; cases eb
    obtain ⟨_, rfl⟩ := leaf_int ha
    obtain ⟨_, rfl⟩ := leaf_int hb
    exact ⟨_, _, rfl⟩
set_option maxRecDepth 100000 in
theorem unitTriangle_lifted (os : Os) (started : os.Started) (H : Type) (enc : TypeId × Value → H) :
    ReturnsInHanded {} Tryd.checked os 7 .any (fun w args => (Rows.unitTriangleSpec.pre enc Tryd.prog Tryd.f7 [] false w args ∧ laidMetH Tryd.prog laidR w) ∧ sizedMet enc Tryd.prog Tryd.f7 (OpenSpec.ofChange Rows.unitTriangleSpec) false w args) (Rows.unitTriangleSpec.post enc Tryd.prog Tryd.f7 false true false false) := by
  refine law_liftL (fn := Tryd.f7) (s := Rows.unitTriangleSpec) started 3 (by kernel_rfl) Tryd.func7
      (ChangeSpec.witness_shaped (enc := enc) (C := Tryd.checked) (os := os) (X := fun w _ => laidMetH Tryd.prog laidR w) false (World.doorLaid Tryd.prog 400 os)
        #[.agg #[.int .i64 0, .int .i64 0], .agg #[.int .i64 0, .int .i64 0], .agg #[.int .i64 0, .int .i64 0]] 8 rfl
        (World.shaped_of_RefB (by kernel_rfl) (by kernel_rfl)) (by kernel_rfl) (by kernel_rfl) (by kernel_rfl) (door_met os _))
      (by rw [Tryd.params7]; decide +kernel) (by rw [Tryd.params7]; rfl) (by kernel_rfl) rfl (fun ds h => by match ds, h with | [d1, d2, d3], _ => rfl) ?_
  intro W base args ds ps hval hA hgl
  rw [Tryd.params7] at hA hval
  obtain ⟨v0, vs0, d0, ds0, p0, q0, hargs, rfl, rfl, h0, r0⟩ := trodAll_cons hA
  obtain ⟨v1, vs1, d1, ds1, p1, q1, rfl, rfl, rfl, h1, r1⟩ := trodAll_cons r0
  obtain ⟨v2, vs2, d2, ds2, p2, q2, rfl, rfl, rfl, h2, r2⟩ := trodAll_cons r1
  obtain ⟨rfl, rfl, rfl⟩ := trodAll_nil r2
  obtain rfl : args = #[v0, v1, v2] := by cases args; simp_all
  obtain ⟨ax, ay, rfl⟩ := open_spot (hval 0 23 v0 rfl rfl)
  obtain ⟨bx, b_y, rfl⟩ := open_spot (hval 1 23 v1 rfl rfl)
  obtain ⟨cx, cy, rfl⟩ := open_spot (hval 2 23 v2 rfl rfl)
  exact triangle_walk ax ay bx b_y cx cy W hgl

theorem unitTriangle_over : Rows.UnitTriangleSaid :=
  OpenClaim.holds_of_wide 7 Tryd.f7 rfl rfl rfl rfl rfl rfl rfl ⟨rfl, rfl, rfl, rfl, rfl⟩ rfl rfl rfl rfl rfl (by kernel_rfl) Tryd.func7 (by kernel_rfl)
    (of_decide_eq_true (by kernel_rfl)) (by unfold Func.isWrapper; first | (rw [if_pos (by decide +kernel)]; kernel_rfl) | (rw [if_neg (by decide +kernel)]; exact ⟨rfl, rfl⟩))
    (fun os started H enc _ => unitTriangle_lifted os started H enc)
end Go.Proofs.YtghkfopcjdkieaaDoor
