/-
  Whether a unit is valid: the program.
-/
import Derived.Test.YtghkfopcjdkieaaDoorU7
import Derived.Deep.MidRow
namespace Go.Proofs.YtghkfopcjdkieaaDoor
set_option linter.all false
set_option linter.unusedSimpArgs false
set_option linter.unusedVariables false
open Go.RowKit

theorem limit_any (a b c : Int) (w : World) : Calls Tryd.prog 54 #[.agg #[.int .i64 a, .int .i64 b, .int .i64 c]] w fun e w' => e = .returned (.bool (inB a b c)) ∧ Frm w.heap.size [] w w' := by
  go_enter Tryd.func54, Tryd.ntmps54
  go_wp2_with (go_at_call 55; refine (within_any _ _ _ _).mono ?_; rintro e w' ⟨rfl, rfl⟩)
  go_ret
  exact ⟨rfl, by repeat (first | with_reducible exact Frm.refl _ _ _ | with_reducible refine Frm.drewN ?_ | with_reducible refine Frm.drew ?_ | ((with_reducible refine Frm.setCell' ?_ ?_); · first | (left; simp; done) | (right; simp; done) | (right; simp; omega)) | ((with_reducible refine Frm.alloc' ?_ ?_); · first | exact Nat.le_refl _ | (simp; done) | (simp; omega)))⟩

/-- The limits of a unit's numbers. -/
def lim (u : UC) : Nat → Int × Int × Int
  | 0 => (u.speed, 1, 1000000)
  | 1 => (u.fuel, 0, 1073741824)
  | 2 => (u.burn, 0, 1048576)
  | 3 => (u.reserve, 0, u.fuel)
  | 4 => (u.sea, 0, 100)
  | 5 => (u.wind, 0, 100)
  | 6 => (u.margin, 0, 100000)
  | _ => (u.level, 0, 100)
def tri (x : Int × Int × Int) : List Value := [.int .i64 x.1, .int .i64 x.2.1, .int .i64 x.2.2]
def limB (u : UC) (i : Nat) : Bool := inB (lim u i).1 (lim u i).2.1 (lim u i).2.2
def lims (u : UC) : List Value := tri (lim u 0) ++ tri (lim u 1) ++ tri (lim u 2) ++ tri (lim u 3) ++ tri (lim u 4) ++ tri (lim u 5) ++ tri (lim u 6) ++ tri (lim u 7)
theorem lims_get (u : UC) (i : Nat) (hi : i < 8) (k : Nat) (v : Value) (h : (tri (lim u i))[k]? = some v) : (lims u)[i * 3 + k]? = some v := by
  have hk : k < 3 := (List.getElem?_eq_some_iff.1 h).1
  rw [← h]
  match i, hi, k, hk with
  | 0, _, 0, _ | 0, _, 1, _ | 0, _, 2, _ | 1, _, 0, _ | 1, _, 1, _ | 1, _, 2, _ | 2, _, 0, _ | 2, _, 1, _ | 2, _, 2, _ | 3, _, 0, _ | 3, _, 1, _ | 3, _, 2, _
  | 4, _, 0, _ | 4, _, 1, _ | 4, _, 2, _ | 5, _, 0, _ | 5, _, 1, _ | 5, _, 2, _ | 6, _, 0, _ | 6, _, 1, _ | 6, _, 2, _ | 7, _, 0, _ | 7, _, 1, _ | 7, _, 2, _ => rfl
/-- Is a unit valid? -/
def unitB (u : UC) (s : ByteArray) : Bool := nameB s && placeB u.bx u.by_ && timeB u.hours && (limB u 0 && limB u 1 && limB u 2 && limB u 3 && limB u 4 && limB u 5 && limB u 6 && limB u 7)
theorem lim_all (u : UC) {r : Bool} (h : r = true ↔ ∀ i, i < 8 → limB u i = true) : (limB u 0 && limB u 1 && limB u 2 && limB u 3 && limB u 4 && limB u 5 && limB u 6 && limB u 7) = r := by
  rw [Bool.eq_iff_iff, h]
  simp only [Bool.and_eq_true]
  constructor
  · rintro ⟨⟨⟨⟨⟨⟨⟨h0, h1⟩, h2⟩, h3⟩, h4⟩, h5⟩, h6⟩, h7⟩ i hi
    match i, hi with
    | 0, _ => exact h0
    | 1, _ => exact h1
    | 2, _ => exact h2
    | 3, _ => exact h3
    | 4, _ => exact h4
    | 5, _ => exact h5
    | 6, _ => exact h6
    | 7, _ => exact h7
  · intro h
    exact ⟨⟨⟨⟨⟨⟨⟨h 0 (by omega), h 1 (by omega)⟩, h 2 (by omega)⟩, h 3 (by omega)⟩, h 4 (by omega)⟩, h 5 (by omega)⟩, h 6 (by omega)⟩, h 7 (by omega)⟩
theorem lims_all (u : UC) (w : World) (b : Nat) (hb : Blk w b 93 (lims u)) : Calls Tryd.prog 53 #[.slice (some ⟨b, 0, none⟩) 8 8, .func (.func 54) #[] #[]] w fun e w' =>
    e = .returned (.bool (limB u 0 && limB u 1 && limB u 2 && limB u 3 && limB u 4 && limB u 5 && limB u 6 && limB u 7)) ∧ Frm w.heap.size [] w w' := by
  refine (allA3 54 #[] (enters Tryd.func54 (by kernel_rfl) (by kernel_rfl)) (some ⟨b, 0, none⟩) b 0 8 8 w (fun _ => rfl) (by unfold maxLen; omega) (fun i => tri (lim u i)) (limB u) (fun i => rfl) (fun W hW i hi => ?_) (fun W hW i hi => ?_)).mono ?_
  · have hbW := hW.blk hb hb.lt (by simp)
    refine run_loadVar_mid W b (0 + i * 3) 93 (tri (lim u i)) _ (fun k v hv => ?_) Tryd.underlying93 rfl (by show _ = some 3; kernel_rfl)
    rw [hbW.cell, Nat.zero_add]
    exact lims_get u i hi k v hv
  · exact limit_any _ _ _ W
  · rintro e w' ⟨⟨r, rfl, hr⟩, hf⟩
    exact ⟨by rw [lim_all u hr], hf⟩

set_option maxRecDepth 100000 in
set_option maxHeartbeats 4000000 in
theorem checkUnit_any (u : UC) (s : ByteArray) (hn : u.name = .string s) (w : World) : Calls Tryd.prog 19 #[.agg u.cells.toArray] w fun e w' => e = .returned (.bool (unitB u s)) ∧ Frm w.heap.size [] w w' := by
  have hf19 := Tryd.func19
  have HNM := Lib.hid hn
  clear hn
  go_enter Tryd.func19, Tryd.ntmps19
  iterate 10 go_step
  refine named ?_; intro W hW
  have hb : Blk W w.heap.size 25 u.cells := by rw [hW]; repeat (first | exact Blk.new w 25 u.cells | refine Blk.alloc' ?_)
  have hf : Frm w.heap.size [] w W := by rw [hW]; repeat (first | with_reducible exact Frm.refl _ _ _ | with_reducible refine Frm.drewN ?_ | with_reducible refine Frm.drew ?_ | ((with_reducible refine Frm.setCell' ?_ ?_); · first | (left; simp; done) | (right; simp; done) | (right; simp; omega)) | ((with_reducible refine Frm.alloc' ?_ ?_); · first | exact Nat.le_refl _ | (simp; done) | (simp; omega)))
  clear hW hf19
  have c0 : W.cell? ⟨w.heap.size, 0, none⟩ = some (.string s) := by rw [← HNM.out]; exact hb.cell 0
  have HB := Lib.hid hb
  have HF := Lib.hid hf
  clear hf hb
  go_wp2_with fail
  refine (name_any s W).mono ?_; rintro e w1 ⟨rfl, hf1⟩
  have hb1 := hf1.blk HB.out HB.out.lt (by simp)
  have hw1 := HF.out.call hf1 HF.out.size (by simp)
  clear c0 hf1
  have c8 : w1.cell? ⟨w.heap.size, 8, none⟩ = some (.int .i64 u.bx) := hb1.cell 8
  have c9 : w1.cell? ⟨w.heap.size, 9, none⟩ = some (.int .i64 u.by_) := hb1.cell 9
  have HB1 := Lib.hid hb1
  have HW1 := Lib.hid hw1
  clear hw1 hb1
  cases h1 : nameB s
  · have H1 := Lib.hid h1
    clear h1
    go_wp2_with fail
    go_ret
    exact ⟨by unfold unitB; rw [H1.out]; rfl, HW1.out⟩
  · have H1 := Lib.hid h1
    clear h1
    go_wp2_with fail
    refine (placed_any _ _ w1).mono ?_; rintro e w2 ⟨rfl, hf2⟩
    have hb2 := hf2.blk HB1.out HB1.out.lt (by simp)
    have hw2 := HW1.out.call hf2 HW1.out.size (by simp)
    clear c8 c9 hf2
    have c5 : w2.cell? ⟨w.heap.size, 5, none⟩ = some (.int .i64 u.hours) := hb2.cell 5
    have HB2 := Lib.hid hb2
    have HW2 := Lib.hid hw2
    clear hw2 hb2
    cases h2 : placeB u.bx u.by_
    · have H2 := Lib.hid h2
      clear h2
      go_wp2_with fail
      go_ret
      exact ⟨by unfold unitB; rw [H1.out, H2.out]; rfl, HW2.out⟩
    · cases h3 : timeB u.hours
      · have H2 := Lib.hid h2
        have H3 := Lib.hid h3
        clear h3 h2
        go_wp2_with (go_at_call 52; refine (timed_any _ _).mono ?_; rintro e w' ⟨rfl, rfl⟩; rw [H3.out])
        go_ret
        exact ⟨by unfold unitB; rw [H1.out, H2.out, H3.out]; rfl, HW2.out⟩
      · have k1 : w2.cell? ⟨w.heap.size, 1, none⟩ = some (.int .i64 u.speed) := HB2.out.cell 1
        have k2 : w2.cell? ⟨w.heap.size, 2, none⟩ = some (.int .i64 u.fuel) := HB2.out.cell 2
        have k3 : w2.cell? ⟨w.heap.size, 3, none⟩ = some (.int .i64 u.burn) := HB2.out.cell 3
        have k4 : w2.cell? ⟨w.heap.size, 4, none⟩ = some (.int .i64 u.reserve) := HB2.out.cell 4
        have k6 : w2.cell? ⟨w.heap.size, 6, none⟩ = some (.int .i64 u.sea) := HB2.out.cell 6
        have k7 : w2.cell? ⟨w.heap.size, 7, none⟩ = some (.int .i64 u.wind) := HB2.out.cell 7
        have k10 : w2.cell? ⟨w.heap.size, 10, none⟩ = some (.int .i64 u.margin) := HB2.out.cell 10
        have k11 : w2.cell? ⟨w.heap.size, 11, none⟩ = some (.int .i64 u.level) := HB2.out.cell 11
        have H2 := Lib.hid h2
        have H3 := Lib.hid h3
        clear h3 h2
        go_wp2_with (go_at_call 52; refine (timed_any _ _).mono ?_; rintro e w' ⟨rfl, rfl⟩; rw [H3.out])
        have hbb := Blk.new w2 93 (lims u)
        have hff : Frm w.heap.size [] w (w2.alloc (.cells (lims u).toArray 93)) := HW2.out.alloc HW2.out.size _
        have hpl := HB2.out
        refine (lims_all u _ _ hbb).mono ?_
        rintro e w4 ⟨rfl, hf4⟩
        have hw4 := hff.call hf4 hff.size (by simp)
        clear k1 k2 k3 k4 k6 k7 k10 k11 c5 hbb hff hpl hf4
        have HW4 := Lib.hid hw4
        clear hw4
        go_wp2_with fail
        go_ret
        exact ⟨by unfold unitB; rw [H1.out, H2.out, H3.out]; rfl, HW4.out⟩
end Go.Proofs.YtghkfopcjdkieaaDoor
