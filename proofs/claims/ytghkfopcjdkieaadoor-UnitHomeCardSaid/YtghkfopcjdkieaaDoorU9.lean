/-
  Many ways lead to one place behind a region; whether a unit is valid: the document.
-/
import Derived.Test.YtghkfopcjdkieaaDoorU8
namespace Go.Proofs.YtghkfopcjdkieaaDoor
set_option linter.all false
set_option linter.unusedSimpArgs false
set_option linter.unusedVariables false
open Go.RowKit

/-- The temporaries of a list, each with some value. -/
def fillA (a : Act) (ix : List Nat) (f : Nat → Value) : Act := ix.foldl (fun a i => a.put (some i) (f i)) a
/-- A region that ends in one place: the temporaries 'ix' hold something, the temporary r holds v. -/
theorem via_k {P : Program} {x y : Code} {Q : Exit → Act → World → Prop} {a : Act} {w : World} {K0 : Act → World → Prop} (hK : ∀ a w, (Code.seq x y).wp P Q a w → K0 a w) (ix : List Nat) (r : Nat) (v : Value)
    (h1 : ∀ K : Act → World → Prop, Hid (∀ f, K ((fillA a ix f).put (some r) v) w) → x.wp P (Exit.then K Q) a w)
    (h2 : ∀ f : Nat → Value, y.wp P Q ((fillA a ix f).put (some r) v) w) : K0 a w :=
  hK _ _ (wp_seq (h1 _ (Lib.hid h2)))
theorem via_w {P : Program} {x y : Code} {Q : Exit → Act → World → Prop} {a : Act} {w : World} (ix : List Nat) (r : Nat) (v : Value)
    (h1 : ∀ K : Act → World → Prop, Hid (∀ f, K ((fillA a ix f).put (some r) v) w) → x.wp P (Exit.then K Q) a w)
    (h2 : ∀ f : Nat → Value, y.wp P Q ((fillA a ix f).put (some r) v) w) : (Code.seq x y).wp P Q a w := via_k (K0 := (Code.seq x y).wp P Q) (fun _ _ h => h) ix r v h1 h2
theorem via_leaf {K : Act → World → Prop} {a : Act} {w : World} {ix : List Nat} {r : Nat} {v : Value} (h : Hid (∀ f, K ((fillA a ix f).put (some r) v) w)) {b : Act} (hu : b.eval (.tmp r) = v)
    (hb : b = (fillA a ix (fun i => b.eval (.tmp i))).put (some r) (b.eval (.tmp r))) : K b w := by
  rw [hb, hu]; exact h.out _

set_option maxRecDepth 100000 in
set_option maxHeartbeats 4000000 in
theorem refCheckUnit_any (u : UC) (s : ByteArray) (hn : u.name = .string s) (w : World) : Calls Tryd.prog 20 #[.agg u.cells.toArray] w fun e w' => e = .returned (.bool (unitB u s)) ∧ Frm w.heap.size [] w w' := by
  have hf20 := Tryd.func20
  have HNM := Lib.hid hn
  clear hn
  go_enter Tryd.func20, Tryd.ntmps20
  iterate 10 go_step
  refine named ?_; intro W hW
  have hb : Blk W w.heap.size 25 u.cells := by rw [hW]; repeat (first | exact Blk.new w 25 u.cells | refine Blk.alloc' ?_)
  have hf : Frm w.heap.size [] w W := by rw [hW]; repeat (first | with_reducible exact Frm.refl _ _ _ | with_reducible refine Frm.drewN ?_ | with_reducible refine Frm.drew ?_ | ((with_reducible refine Frm.setCell' ?_ ?_); · first | (left; simp; done) | (right; simp; done) | (right; simp; omega)) | ((with_reducible refine Frm.alloc' ?_ ?_); · first | exact Nat.le_refl _ | (simp; done) | (simp; omega)))
  clear hW hf20
  have c0 : W.cell? ⟨w.heap.size, 0, none⟩ = some (.string s) := by rw [← HNM.out]; exact hb.cell 0
  have c1 : W.cell? ⟨w.heap.size, 1, none⟩ = some (.int .i64 u.speed) := hb.cell 1
  have c2 : W.cell? ⟨w.heap.size, 2, none⟩ = some (.int .i64 u.fuel) := hb.cell 2
  have c3 : W.cell? ⟨w.heap.size, 3, none⟩ = some (.int .i64 u.burn) := hb.cell 3
  have c4 : W.cell? ⟨w.heap.size, 4, none⟩ = some (.int .i64 u.reserve) := hb.cell 4
  have c5 : W.cell? ⟨w.heap.size, 5, none⟩ = some (.int .i64 u.hours) := hb.cell 5
  have c6 : W.cell? ⟨w.heap.size, 6, none⟩ = some (.int .i64 u.sea) := hb.cell 6
  have c7 : W.cell? ⟨w.heap.size, 7, none⟩ = some (.int .i64 u.wind) := hb.cell 7
  have c8 : W.cell? ⟨w.heap.size, 8, none⟩ = some (.int .i64 u.bx) := hb.cell 8
  have c9 : W.cell? ⟨w.heap.size, 9, none⟩ = some (.int .i64 u.by_) := hb.cell 9
  have c10 : W.cell? ⟨w.heap.size, 10, none⟩ = some (.int .i64 u.margin) := hb.cell 10
  have c11 : W.cell? ⟨w.heap.size, 11, none⟩ = some (.int .i64 u.level) := hb.cell 11
  have HB := Lib.hid hb
  have HF := Lib.hid hf
  clear hf hb
  obtain ⟨p, hp⟩ : ∃ b, b = (inB u.speed 1 1000000 && inB u.burn 0 1048576) := ⟨_, rfl⟩
  obtain ⟨q, hq⟩ : ∃ b, b = (inB u.fuel 0 1073741824 && inB u.reserve 0 u.fuel) := ⟨_, rfl⟩
  obtain ⟨r, hr⟩ : ∃ b, b = (inB u.sea 0 100 && inB u.wind 0 100 && inB u.margin 0 100000 && inB u.level 0 100) := ⟨_, rfl⟩
  have hu : unitB u s = (nameB s && p && q && r && timeB u.hours && placeB u.bx u.by_) := by
    rw [hp, hq, hr, Bool.eq_iff_iff]
    simp only [unitB, limB, lim, Bool.and_eq_true]
    constructor <;> (intro h; simp only [h, and_self])
  have HP := Lib.hid hp
  have HQ := Lib.hid hq
  have HR := Lib.hid hr
  have HU := Lib.hid hu
  clear hu hr hq hp
  refine via_k (by assumption) [6, 7, 8, 9, 10, 11, 12, 13] 3 (.bool p) ?_ ?_
  · intro K HK
    cases hc0 : inB u.speed 1 1000000
    · have HC0 := Lib.hid hc0; clear hc0
      go_wp2_with (go_at_call 56; refine (refin_any _ _ _ _).mono ?_; rintro e w' ⟨rfl, rfl⟩; simp only [HC0.out])
      exact via_leaf HK (by go_simp; simp [HP.out, HC0.out]) (by kernel_rfl)
    · have HC0 := Lib.hid hc0; clear hc0
      cases hc1 : inB u.burn 0 1048576
      · have HC1 := Lib.hid hc1; clear hc1
        go_wp2_with (go_at_call 56; refine (refin_any _ _ _ _).mono ?_; rintro e w' ⟨rfl, rfl⟩; simp only [HC0.out, HC1.out])
        exact via_leaf HK (by go_simp; simp [HP.out, HC0.out, HC1.out]) (by kernel_rfl)
      · have HC1 := Lib.hid hc1; clear hc1
        go_wp2_with (go_at_call 56; refine (refin_any _ _ _ _).mono ?_; rintro e w' ⟨rfl, rfl⟩; simp only [HC0.out, HC1.out])
        exact via_leaf HK (by go_simp; simp [HP.out, HC0.out, HC1.out]) (by kernel_rfl)
  intro fv; simp only [fillA, List.foldl_cons, List.foldl_nil]; go_simp
  refine via_w [14, 15, 16, 17, 18, 19, 20, 21, 22, 23] 4 (.bool q) ?_ ?_
  · intro K HK
    cases hc0 : inB u.fuel 0 1073741824
    · have HC0 := Lib.hid hc0; clear hc0
      go_wp2_with (go_at_call 56; refine (refin_any _ _ _ _).mono ?_; rintro e w' ⟨rfl, rfl⟩; simp only [HC0.out])
      exact via_leaf HK (by go_simp; simp [HQ.out, HC0.out]) (by kernel_rfl)
    · have HC0 := Lib.hid hc0; clear hc0
      cases hc1 : inB u.reserve 0 u.fuel
      · have HC1 := Lib.hid hc1; clear hc1
        go_wp2_with (go_at_call 56; refine (refin_any _ _ _ _).mono ?_; rintro e w' ⟨rfl, rfl⟩; simp only [HC0.out, HC1.out])
        exact via_leaf HK (by go_simp; simp [HQ.out, HC0.out, HC1.out]) (by kernel_rfl)
      · have HC1 := Lib.hid hc1; clear hc1
        go_wp2_with (go_at_call 56; refine (refin_any _ _ _ _).mono ?_; rintro e w' ⟨rfl, rfl⟩; simp only [HC0.out, HC1.out])
        exact via_leaf HK (by go_simp; simp [HQ.out, HC0.out, HC1.out]) (by kernel_rfl)
  intro fv; simp only [fillA, List.foldl_cons, List.foldl_nil]; go_simp
  refine via_w [24, 25, 26, 27, 28, 29, 30, 31, 32, 33, 34, 35, 36, 37, 38, 39, 40, 41] 5 (.bool r) ?_ ?_
  · intro K HK
    cases hc0 : inB u.sea 0 100
    · have HC0 := Lib.hid hc0; clear hc0
      go_wp2_with (go_at_call 56; refine (refin_any _ _ _ _).mono ?_; rintro e w' ⟨rfl, rfl⟩; simp only [HC0.out])
      exact via_leaf HK (by go_simp; simp [HR.out, HC0.out]) (by kernel_rfl)
    · have HC0 := Lib.hid hc0; clear hc0
      cases hc1 : inB u.wind 0 100
      · have HC1 := Lib.hid hc1; clear hc1
        go_wp2_with (go_at_call 56; refine (refin_any _ _ _ _).mono ?_; rintro e w' ⟨rfl, rfl⟩; simp only [HC0.out, HC1.out])
        exact via_leaf HK (by go_simp; simp [HR.out, HC0.out, HC1.out]) (by kernel_rfl)
      · have HC1 := Lib.hid hc1; clear hc1
        cases hc2 : inB u.margin 0 100000
        · have HC2 := Lib.hid hc2; clear hc2
          go_wp2_with (go_at_call 56; refine (refin_any _ _ _ _).mono ?_; rintro e w' ⟨rfl, rfl⟩; simp only [HC0.out, HC1.out, HC2.out])
          exact via_leaf HK (by go_simp; simp [HR.out, HC0.out, HC1.out, HC2.out]) (by kernel_rfl)
        · have HC2 := Lib.hid hc2; clear hc2
          cases hc3 : inB u.level 0 100
          · have HC3 := Lib.hid hc3; clear hc3
            go_wp2_with (go_at_call 56; refine (refin_any _ _ _ _).mono ?_; rintro e w' ⟨rfl, rfl⟩; simp only [HC0.out, HC1.out, HC2.out, HC3.out])
            exact via_leaf HK (by go_simp; simp [HR.out, HC0.out, HC1.out, HC2.out, HC3.out]) (by kernel_rfl)
          · have HC3 := Lib.hid hc3; clear hc3
            go_wp2_with (go_at_call 56; refine (refin_any _ _ _ _).mono ?_; rintro e w' ⟨rfl, rfl⟩; simp only [HC0.out, HC1.out, HC2.out, HC3.out])
            exact via_leaf HK (by go_simp; simp [HR.out, HC0.out, HC1.out, HC2.out, HC3.out]) (by kernel_rfl)
  intro fv; simp only [fillA, List.foldl_cons, List.foldl_nil]; go_simp
  go_wp2_with fail
  refine (refName_any s W).mono ?_; rintro e w1 ⟨rfl, hf1⟩
  have hb1 := hf1.blk HB.out HB.out.lt (by simp)
  have hw1 := HF.out.call hf1 HF.out.size (by simp)
  clear c0 c1 c2 c3 c4 c5 c6 c7 c8 c9 c10 c11 hf1
  have c5 : w1.cell? ⟨w.heap.size, 5, none⟩ = some (.int .i64 u.hours) := hb1.cell 5
  have c8 : w1.cell? ⟨w.heap.size, 8, none⟩ = some (.int .i64 u.bx) := hb1.cell 8
  have c9 : w1.cell? ⟨w.heap.size, 9, none⟩ = some (.int .i64 u.by_) := hb1.cell 9
  have HB1 := Lib.hid hb1
  have HW1 := Lib.hid hw1
  clear hw1 hb1
  cases hc0 : nameB s
  · have HC0 := Lib.hid hc0; clear hc0
    go_wp2_with (first | (go_at_call 46; refine (refTime_any _ _).mono ?_; rintro e w' ⟨rfl, rfl⟩; simp only [HC0.out, HC4.out]) | (go_at_call 32; refine (refPlace_any _ _ _).mono ?_; rintro e w2 ⟨rfl, hf2⟩; simp only [HC0.out]))
    go_ret
    exact ⟨by rw [HU.out]; simp [HC0.out], by first | exact HW1.out | exact HW1.out.call hf2 HW1.out.size (by simp)⟩
  · have HC0 := Lib.hid hc0; clear hc0
    cases hc1 : p
    · have HC1 := Lib.hid hc1; clear hc1
      go_wp2_with (first | (go_at_call 46; refine (refTime_any _ _).mono ?_; rintro e w' ⟨rfl, rfl⟩; simp only [HC1.out, HC4.out]) | (go_at_call 32; refine (refPlace_any _ _ _).mono ?_; rintro e w2 ⟨rfl, hf2⟩; simp only [HC1.out]))
      go_ret
      exact ⟨by rw [HU.out]; simp [HC0.out, HC1.out], by first | exact HW1.out | exact HW1.out.call hf2 HW1.out.size (by simp)⟩
    · have HC1 := Lib.hid hc1; clear hc1
      cases hc2 : q
      · have HC2 := Lib.hid hc2; clear hc2
        go_wp2_with (first | (go_at_call 46; refine (refTime_any _ _).mono ?_; rintro e w' ⟨rfl, rfl⟩; simp only [HC2.out, HC4.out]) | (go_at_call 32; refine (refPlace_any _ _ _).mono ?_; rintro e w2 ⟨rfl, hf2⟩; simp only [HC2.out]))
        go_ret
        exact ⟨by rw [HU.out]; simp [HC0.out, HC1.out, HC2.out], by first | exact HW1.out | exact HW1.out.call hf2 HW1.out.size (by simp)⟩
      · have HC2 := Lib.hid hc2; clear hc2
        cases hc3 : r
        · have HC3 := Lib.hid hc3; clear hc3
          go_wp2_with (first | (go_at_call 46; refine (refTime_any _ _).mono ?_; rintro e w' ⟨rfl, rfl⟩; simp only [HC3.out, HC4.out]) | (go_at_call 32; refine (refPlace_any _ _ _).mono ?_; rintro e w2 ⟨rfl, hf2⟩; simp only [HC3.out]))
          go_ret
          exact ⟨by rw [HU.out]; simp [HC0.out, HC1.out, HC2.out, HC3.out], by first | exact HW1.out | exact HW1.out.call hf2 HW1.out.size (by simp)⟩
        · have HC3 := Lib.hid hc3; clear hc3
          cases hc4 : timeB u.hours
          · have HC4 := Lib.hid hc4; clear hc4
            go_wp2_with (first | (go_at_call 46; refine (refTime_any _ _).mono ?_; rintro e w' ⟨rfl, rfl⟩; simp only [HC4.out, HC4.out]) | (go_at_call 32; refine (refPlace_any _ _ _).mono ?_; rintro e w2 ⟨rfl, hf2⟩; simp only [HC4.out]))
            go_ret
            exact ⟨by rw [HU.out]; simp [HC0.out, HC1.out, HC2.out, HC3.out, HC4.out], by first | exact HW1.out | exact HW1.out.call hf2 HW1.out.size (by simp)⟩
          · have HC4 := Lib.hid hc4; clear hc4
            cases hc5 : placeB u.bx u.by_
            · have HC5 := Lib.hid hc5; clear hc5
              go_wp2_with (first | (go_at_call 46; refine (refTime_any _ _).mono ?_; rintro e w' ⟨rfl, rfl⟩; simp only [HC5.out, HC4.out]) | (go_at_call 32; refine (refPlace_any _ _ _).mono ?_; rintro e w2 ⟨rfl, hf2⟩; simp only [HC5.out]))
              go_ret
              exact ⟨by rw [HU.out]; simp [HC0.out, HC1.out, HC2.out, HC3.out, HC4.out, HC5.out], by first | exact HW1.out | exact HW1.out.call hf2 HW1.out.size (by simp)⟩
            · have HC5 := Lib.hid hc5; clear hc5
              go_wp2_with (first | (go_at_call 46; refine (refTime_any _ _).mono ?_; rintro e w' ⟨rfl, rfl⟩; simp only [HC5.out, HC4.out]) | (go_at_call 32; refine (refPlace_any _ _ _).mono ?_; rintro e w2 ⟨rfl, hf2⟩; simp only [HC5.out]))
              go_ret
              exact ⟨by rw [HU.out]; simp [HC0.out, HC1.out, HC2.out, HC3.out, HC4.out, HC5.out], by first | exact HW1.out | exact HW1.out.call hf2 HW1.out.size (by simp)⟩
end Go.Proofs.YtghkfopcjdkieaaDoor
