/-
  Lists of integers: whether a number is in one, a copy, whether two are the same.
-/
import Derived.Test.YtghkfopcjdkieaaDoorR7
namespace Go.Proofs.YtghkfopcjdkieaaDoor
set_option linter.all false
set_option linter.unusedSimpArgs false
set_option linter.unusedVariables false
open Go.RowKit

/-- A slice of integers is read. -/
abbrev RwI (w : World) (ad : Option Addr) (b off n : Nat) (F : Nat → Int) : Prop := Rw w 1 ad b off n fun i => [.int .i64 (F i)]
theorem Rw.cellI {w : World} {ad : Option Addr} {b off n : Nat} {F : Nat → Int} (h : RwI w ad b off n F) {i : Nat} (hi : i < n) : w.cell? ⟨b, off + i, none⟩ = some (.int .i64 (F i)) := by
  have := h.at_ i hi 0 _ rfl
  simpa using this
def hasB (F : Nat → Int) (n : Nat) (x : Int) : Bool := (List.range n).any fun i => decide (F i = x)
theorem hasB_no {F : Nat → Int} {n : Nat} {x : Int} (h : ∀ i, i < n → F i ≠ x) : hasB F n x = false := by
  unfold hasB
  rw [List.any_eq_false]
  intro i hi
  simpa using h i (by simpa using hi)
theorem hasB_yes {F : Nat → Int} {n j : Nat} {x : Int} (hj : j < n) (h : F j = x) : hasB F n x = true := by
  unfold hasB
  rw [List.any_eq_true]
  exact ⟨j, by simpa using hj, by simpa using h⟩
theorem wrapUp {k n : Nat} (h : k < n) (hn : n ≤ maxLen) : IntKind.i64.wrap ((k : Int) + 1) = (k : Int) + 1 ∧ wrap64 ((k : Int) + 1) = (k : Int) + 1 := by
  have : n ≤ 9223372036854775807 := hn
  exact ⟨IntWalk.i64_in _ (by omega), IntWalk.wrap64_in _ (by omega)⟩
theorem meas_up {n j : Nat} (h : j < n) : n - ((j : Int) + 1).toNat < n - ((j : Int)).toNat := by omega

set_option maxRecDepth 100000 in
set_option maxHeartbeats 4000000 in
theorem hasR_any (ad : Option Addr) (b off n cap : Nat) (F : Nat → Int) (x : Int) (w : World) (hr : RwI w ad b off n F) :
    Calls Tryd.prog 116 #[.slice ad n cap, .int .i64 x] w fun e w' => e = .returned (.bool (hasB F n x)) ∧ Frm w.heap.size [] w w' := by
  have hf0 := Tryd.func116
  have HR := Lib.hid hr
  clear hr
  go_enter Tryd.func116, Tryd.ntmps116
  go_wp2_with fail
  go_loopw [5] (fun i5 wr => ∃ j : Nat, i5 = .int .i64 j ∧ j ≤ n ∧ (∀ k, k < j → F k ≠ x) ∧ Frm w.heap.size [] w wr) (fun i5 _ => n - (intOf i5).toNat)
  case atStart => exact ⟨0, rfl, Nat.zero_le _, fun k hk => absurd hk (by omega), by repeat (first | with_reducible exact Frm.refl _ _ _ | with_reducible refine Frm.drewN ?_ | with_reducible refine Frm.drew ?_ | ((with_reducible refine Frm.setCell' ?_ ?_); · first | (left; simp; done) | (right; simp; done) | (right; simp; omega)) | ((with_reducible refine Frm.alloc' ?_ ?_); · first | exact Nat.le_refl _ | (simp; done) | (simp; omega)))⟩
  case round =>
    obtain ⟨j, rfl, hj, hno, hfr⟩ := hrel
    by_cases hjl : j < n
    · have hjl' : (j : Int) < (n : Int) := by omega
      have had := HR.out.ad (by omega)
      subst had
      have c0 : wr.cell? ⟨b, off + j, none⟩ = some (.int .i64 (F j)) := (HR.out.frm hfr (Nat.le_refl _)).cellI hjl
      obtain ⟨y, hy⟩ : ∃ y, y = F j := ⟨_, rfl⟩
      rw [← hy] at c0
      obtain ⟨hw1, hw2⟩ := wrapUp hjl HR.out.len
      have HNO := Lib.hid hno
      have HFR := Lib.hid hfr
      have HJL := Lib.hid hjl
      have HY := Lib.hid hy
      clear hy hjl hfr hno
      by_cases hx : y = x
      · have HX := Lib.hid hx
        clear hx
        have hx' : (y == x) = true := by simp [HX.out]
        go_wp2_with fail
        go_ret
        exact ⟨by rw [hasB_yes HJL.out (HY.out.symm.trans HX.out)]; rfl, HFR.out⟩
      · have hx' : (y == x) = false := by simp [hx]
        have HX := Lib.hid hx
        clear hx
        go_wp2_with fail
        (try simp only [hw1, hw2])
        exact ⟨⟨j + 1, by simp, HJL.out, fun k hk => by
          rcases Nat.lt_or_ge k j with h | h
          · exact HNO.out k h
          · obtain rfl : k = j := by omega
            rw [← HY.out]; exact HX.out, HFR.out⟩, meas_up HJL.out⟩
    · have hjl' : ¬ (j : Int) < (n : Int) := by omega
      obtain rfl : j = n := by omega
      have HNO := Lib.hid hno
      have HFR := Lib.hid hfr
      clear hfr hno
      go_wp2_with fail
      go_ret
      exact ⟨by rw [hasB_no HNO.out]; rfl, HFR.out⟩

set_option maxRecDepth 100000 in
set_option maxHeartbeats 4000000 in
theorem indexI_any (ad : Option Addr) (b off n cap : Nat) (F : Nat → Int) (x : Int) (w : World) (hr : RwI w ad b off n F) :
    Calls Tryd.prog 131 #[.slice ad n cap, .int .i64 x] w fun e w' => (∃ r : Int, e = .returned (.int .i64 r) ∧ hasB F n x = decide (0 ≤ r)) ∧ Frm w.heap.size [] w w' := by
  have hf0 := Tryd.func131
  have HR := Lib.hid hr
  clear hr
  go_enter Tryd.func131, Tryd.ntmps131
  go_wp2_with fail
  go_loopw [8] (fun i8 wr => ∃ j : Nat, i8 = .int .i64 j ∧ j ≤ n ∧ (∀ k, k < j → F k ≠ x) ∧ Frm w.heap.size [] w wr) (fun i8 _ => n - (intOf i8).toNat)
  case atStart => exact ⟨0, rfl, Nat.zero_le _, fun k hk => absurd hk (by omega), by repeat (first | with_reducible exact Frm.refl _ _ _ | with_reducible refine Frm.drewN ?_ | with_reducible refine Frm.drew ?_ | ((with_reducible refine Frm.setCell' ?_ ?_); · first | (left; simp; done) | (right; simp; done) | (right; simp; omega)) | ((with_reducible refine Frm.alloc' ?_ ?_); · first | exact Nat.le_refl _ | (simp; done) | (simp; omega)))⟩
  case round =>
    obtain ⟨j, rfl, hj, hno, hfr⟩ := hrel
    by_cases hjl : j < n
    · have hjl' : (j : Int) < (n : Int) := by omega
      have had := HR.out.ad (by omega)
      subst had
      have c0 : wr.cell? ⟨b, off + j, none⟩ = some (.int .i64 (F j)) := (HR.out.frm hfr (Nat.le_refl _)).cellI hjl
      obtain ⟨y, hy⟩ : ∃ y, y = F j := ⟨_, rfl⟩
      rw [← hy] at c0
      obtain ⟨hw1, hw2⟩ := wrapUp hjl HR.out.len
      have HNO := Lib.hid hno
      have HFR := Lib.hid hfr
      have HJL := Lib.hid hjl
      have HY := Lib.hid hy
      clear hy hjl hfr hno
      by_cases hx : x = y
      · have HX := Lib.hid hx
        clear hx
        have hx' : (x == y) = true := by simp [HX.out]
        go_wp2_with fail
        go_ret
        exact ⟨⟨_, rfl, by rw [hasB_yes HJL.out (HY.out.symm.trans HX.out.symm)]; simp⟩, HFR.out⟩
      · have hx' : (x == y) = false := by simp [hx]
        have HX := Lib.hid hx
        clear hx
        go_wp2_with fail
        (try simp only [hw1, hw2])
        exact ⟨⟨j + 1, by simp, HJL.out, fun k hk => by
          rcases Nat.lt_or_ge k j with h | h
          · exact HNO.out k h
          · obtain rfl : k = j := by omega
            rw [← HY.out]; exact fun h => HX.out h.symm, HFR.out⟩, meas_up HJL.out⟩
    · have hjl' : ¬ (j : Int) < (n : Int) := by omega
      obtain rfl : j = n := by omega
      have HNO := Lib.hid hno
      have HFR := Lib.hid hfr
      clear hfr hno
      go_wp2_with fail
      go_ret
      exact ⟨⟨-1, rfl, by rw [hasB_no HNO.out]; rfl⟩, HFR.out⟩

set_option maxRecDepth 100000 in
set_option maxHeartbeats 4000000 in
theorem containsI_any (ad : Option Addr) (b off n cap : Nat) (F : Nat → Int) (x : Int) (w : World) (hr : RwI w ad b off n F) :
    Calls Tryd.prog 113 #[.slice ad n cap, .int .i64 x] w fun e w' => e = .returned (.bool (hasB F n x)) ∧ Frm w.heap.size [] w w' := by
  have hf0 := Tryd.func113
  have HR := Lib.hid hr
  clear hr
  go_enter Tryd.func113, Tryd.ntmps113
  go_wp2_with fail
  refine (indexI_any ad b off n cap F x _ HR.out).mono ?_; rintro e w1 ⟨⟨r, rfl, hh⟩, hf1⟩
  have HH := Lib.hid hh
  have HF1 := Lib.hid hf1
  clear hf1 hh
  by_cases h0 : 0 ≤ r
  · go_wp2_with fail
    go_ret
    exact ⟨by rw [HH.out]; simp [h0], HF1.out⟩
  · go_wp2_with fail
    go_ret
    exact ⟨by rw [HH.out]; simp [h0], HF1.out⟩

def sameB (n m : Nat) (F G : Nat → Int) : Bool := decide (n = m) && (List.range n).all fun i => decide (F i = G i)
set_option maxRecDepth 100000 in
set_option maxHeartbeats 4000000 in
theorem sameI_any (ad : Option Addr) (b off n cap : Nat) (F : Nat → Int) (ad2 : Option Addr) (b2 off2 n2 cap2 : Nat) (G : Nat → Int) (w : World) (hr : RwI w ad b off n F) (hr2 : RwI w ad2 b2 off2 n2 G) (hn : n = n2) (hall : ∀ i, i < n → F i = G i) :
    Calls Tryd.prog 44 #[.slice ad n cap, .slice ad2 n2 cap2] w fun e w' => e = .returned (.bool true) ∧ Frm w.heap.size [] w w' := by
  subst hn
  have hf0 := Tryd.func44
  have HR := Lib.hid hr
  have HR2 := Lib.hid hr2
  have HALL := Lib.hid hall
  clear hall hr2 hr
  go_enter Tryd.func44, Tryd.ntmps44
  go_wp2_with fail
  go_loopw [5] (fun i5 wr => ∃ j : Nat, i5 = .int .i64 j ∧ j ≤ n ∧ Frm w.heap.size [] w wr) (fun i5 _ => n - (intOf i5).toNat)
  case atStart => exact ⟨0, rfl, Nat.zero_le _, by repeat (first | with_reducible exact Frm.refl _ _ _ | with_reducible refine Frm.drewN ?_ | with_reducible refine Frm.drew ?_ | ((with_reducible refine Frm.setCell' ?_ ?_); · first | (left; simp; done) | (right; simp; done) | (right; simp; omega)) | ((with_reducible refine Frm.alloc' ?_ ?_); · first | exact Nat.le_refl _ | (simp; done) | (simp; omega)))⟩
  case round =>
    obtain ⟨j, rfl, hj, hfr⟩ := hrel
    by_cases hjl : j < n
    · have hjl' : (j : Int) < (n : Int) := by omega
      have had := HR.out.ad (by omega)
      have had2 := HR2.out.ad (by omega)
      subst had
      subst had2
      obtain ⟨y, hy⟩ : ∃ y, y = F j := ⟨_, rfl⟩
      have hg : G j = y := by rw [hy]; exact (HALL.out j hjl).symm
      have hfx : ∀ V, Frm wr.heap.size [] wr V → V.cell? ⟨b, off + j, none⟩ = some (.int .i64 y) ∧ V.cell? ⟨b2, off2 + j, none⟩ = some (.int .i64 y) := fun V hV => by
        have hf := hfr.call hV hfr.size (by simp)
        exact ⟨by rw [hy]; exact (HR.out.frm hf (Nat.le_refl _)).cellI hjl, by rw [← hg]; exact (HR2.out.frm hf (Nat.le_refl _)).cellI hjl⟩
      obtain ⟨hw1, hw2⟩ := wrapUp hjl HR.out.len
      have HFR := Lib.hid hfr
      have HJL := Lib.hid hjl
      have HY := Lib.hid hy
      have HG := Lib.hid hg
      have HFX := Lib.hid hfx
      clear hfx hg hy hjl hfr
      go_upto_region 6 with fail
      refine wp_region_leftL (fun V => Frm wr.heap.size [] wr V) 1000 (by kernel_rfl) ?_
      have hS : Frm wr.heap.size [] wr wr.drew := (Frm.refl _ _ wr).drew
      have HS := Lib.hid hS
      clear hS
      first | (refine LeftL.run (v := ?_) 0 rfl (by kernel_rfl) rfl (fun _ _ d _ _ h => by cases d <;> exact h) ?_ HS.out ?_; rotate_left; (· intro V hV; obtain ⟨q0, q1⟩ := HFX.out V hV; clear hV; go_simp; rfl); (intro K' hK'; go_simp; refine hK' _ ?_; clear hK' K')) | (refine LeftL.runG (v := ?_) 0 rfl (by kernel_rfl) rfl (fun _ _ d _ _ h => by cases d <;> exact h) ?_ HS.out ?_; rotate_left; (· intro V hV; obtain ⟨q0, q1⟩ := HFX.out V hV; clear hV; go_simp; rfl); (intro K' hK'; go_simp; refine hK' _ ?_; clear hK' K')) | (refine LeftL.take (v := undef) 0 rfl (by kernel_rfl) (fun _ _ d _ _ h => by cases d <;> exact h) (.inr ⟨rfl, rfl⟩) HS.out ?_; (intro K' hK'; go_simp; refine hK' _ ?_; clear hK' K'))
      first | (refine LeftL.run (v := ?_) 1 rfl (by kernel_rfl) rfl (fun _ _ d _ _ h => by cases d <;> exact h) ?_ HS.out ?_; rotate_left; (· intro V hV; obtain ⟨q0, q1⟩ := HFX.out V hV; clear hV; go_simp; rfl); (intro K' hK'; go_simp; refine hK' _ ?_; clear hK' K')) | (refine LeftL.runG (v := ?_) 1 rfl (by kernel_rfl) rfl (fun _ _ d _ _ h => by cases d <;> exact h) ?_ HS.out ?_; rotate_left; (· intro V hV; obtain ⟨q0, q1⟩ := HFX.out V hV; clear hV; go_simp; rfl); (intro K' hK'; go_simp; refine hK' _ ?_; clear hK' K')) | (refine LeftL.take (v := undef) 1 rfl (by kernel_rfl) (fun _ _ d _ _ h => by cases d <;> exact h) (.inr ⟨rfl, rfl⟩) HS.out ?_; (intro K' hK'; go_simp; refine hK' _ ?_; clear hK' K'))
      first | (refine LeftL.run (v := ?_) 2 rfl (by kernel_rfl) rfl (fun _ _ d _ _ h => by cases d <;> exact h) ?_ HS.out ?_; rotate_left; (· intro V hV; obtain ⟨q0, q1⟩ := HFX.out V hV; clear hV; go_simp; rfl); (intro K' hK'; go_simp; refine hK' _ ?_; clear hK' K')) | (refine LeftL.runG (v := ?_) 2 rfl (by kernel_rfl) rfl (fun _ _ d _ _ h => by cases d <;> exact h) ?_ HS.out ?_; rotate_left; (· intro V hV; obtain ⟨q0, q1⟩ := HFX.out V hV; clear hV; go_simp; rfl); (intro K' hK'; go_simp; refine hK' _ ?_; clear hK' K')) | (refine LeftL.take (v := undef) 2 rfl (by kernel_rfl) (fun _ _ d _ _ h => by cases d <;> exact h) (.inr ⟨rfl, rfl⟩) HS.out ?_; (intro K' hK'; go_simp; refine hK' _ ?_; clear hK' K'))
      first | (refine LeftL.run (v := ?_) 3 rfl (by kernel_rfl) rfl (fun _ _ d _ _ h => by cases d <;> exact h) ?_ HS.out ?_; rotate_left; (· intro V hV; obtain ⟨q0, q1⟩ := HFX.out V hV; clear hV; go_simp; rfl); (intro K' hK'; go_simp; refine hK' _ ?_; clear hK' K')) | (refine LeftL.runG (v := ?_) 3 rfl (by kernel_rfl) rfl (fun _ _ d _ _ h => by cases d <;> exact h) ?_ HS.out ?_; rotate_left; (· intro V hV; obtain ⟨q0, q1⟩ := HFX.out V hV; clear hV; go_simp; rfl); (intro K' hK'; go_simp; refine hK' _ ?_; clear hK' K')) | (refine LeftL.take (v := undef) 3 rfl (by kernel_rfl) (fun _ _ d _ _ h => by cases d <;> exact h) (.inr ⟨rfl, rfl⟩) HS.out ?_; (intro K' hK'; go_simp; refine hK' _ ?_; clear hK' K'))
      first | (refine LeftL.run (v := ?_) 4 rfl (by kernel_rfl) rfl (fun _ _ d _ _ h => by cases d <;> exact h) ?_ HS.out ?_; rotate_left; (· intro V hV; obtain ⟨q0, q1⟩ := HFX.out V hV; clear hV; go_simp; rfl); (intro K' hK'; go_simp; refine hK' _ ?_; clear hK' K')) | (refine LeftL.runG (v := ?_) 4 rfl (by kernel_rfl) rfl (fun _ _ d _ _ h => by cases d <;> exact h) ?_ HS.out ?_; rotate_left; (· intro V hV; obtain ⟨q0, q1⟩ := HFX.out V hV; clear hV; go_simp; rfl); (intro K' hK'; go_simp; refine hK' _ ?_; clear hK' K')) | (refine LeftL.take (v := undef) 4 rfl (by kernel_rfl) (fun _ _ d _ _ h => by cases d <;> exact h) (.inr ⟨rfl, rfl⟩) HS.out ?_; (intro K' hK'; go_simp; refine hK' _ ?_; clear hK' K'))
      first | (refine LeftL.run (v := ?_) 5 rfl (by kernel_rfl) rfl (fun _ _ d _ _ h => by cases d <;> exact h) ?_ HS.out ?_; rotate_left; (· intro V hV; obtain ⟨q0, q1⟩ := HFX.out V hV; clear hV; go_simp; rfl); (intro K' hK'; go_simp; refine hK' _ ?_; clear hK' K')) | (refine LeftL.runG (v := ?_) 5 rfl (by kernel_rfl) rfl (fun _ _ d _ _ h => by cases d <;> exact h) ?_ HS.out ?_; rotate_left; (· intro V hV; obtain ⟨q0, q1⟩ := HFX.out V hV; clear hV; go_simp; rfl); (intro K' hK'; go_simp; refine hK' _ ?_; clear hK' K')) | (refine LeftL.take (v := undef) 5 rfl (by kernel_rfl) (fun _ _ d _ _ h => by cases d <;> exact h) (.inr ⟨rfl, rfl⟩) HS.out ?_; (intro K' hK'; go_simp; refine hK' _ ?_; clear hK' K'))
      first | (refine LeftL.run (v := ?_) 6 rfl (by kernel_rfl) rfl (fun _ _ d _ _ h => by cases d <;> exact h) ?_ HS.out ?_; rotate_left; (· intro V hV; obtain ⟨q0, q1⟩ := HFX.out V hV; clear hV; go_simp; rfl); (intro K' hK'; go_simp; refine hK' _ ?_; clear hK' K')) | (refine LeftL.runG (v := ?_) 6 rfl (by kernel_rfl) rfl (fun _ _ d _ _ h => by cases d <;> exact h) ?_ HS.out ?_; rotate_left; (· intro V hV; obtain ⟨q0, q1⟩ := HFX.out V hV; clear hV; go_simp; rfl); (intro K' hK'; go_simp; refine hK' _ ?_; clear hK' K')) | (refine LeftL.take (v := undef) 6 rfl (by kernel_rfl) (fun _ _ d _ _ h => by cases d <;> exact h) (.inr ⟨rfl, rfl⟩) HS.out ?_; (intro K' hK'; go_simp; refine hK' _ ?_; clear hK' K'))
      first | (refine LeftL.run (v := ?_) 7 rfl (by kernel_rfl) rfl (fun _ _ d _ _ h => by cases d <;> exact h) ?_ HS.out ?_; rotate_left; (· intro V hV; obtain ⟨q0, q1⟩ := HFX.out V hV; clear hV; go_simp; rfl); (intro K' hK'; go_simp; refine hK' _ ?_; clear hK' K')) | (refine LeftL.runG (v := ?_) 7 rfl (by kernel_rfl) rfl (fun _ _ d _ _ h => by cases d <;> exact h) ?_ HS.out ?_; rotate_left; (· intro V hV; obtain ⟨q0, q1⟩ := HFX.out V hV; clear hV; go_simp; rfl); (intro K' hK'; go_simp; refine hK' _ ?_; clear hK' K')) | (refine LeftL.take (v := undef) 7 rfl (by kernel_rfl) (fun _ _ d _ _ h => by cases d <;> exact h) (.inr ⟨rfl, rfl⟩) HS.out ?_; (intro K' hK'; go_simp; refine hK' _ ?_; clear hK' K'))
      first | (refine LeftL.run (v := ?_) 8 rfl (by kernel_rfl) rfl (fun _ _ d _ _ h => by cases d <;> exact h) ?_ HS.out ?_; rotate_left; (· intro V hV; obtain ⟨q0, q1⟩ := HFX.out V hV; clear hV; go_simp; rfl); (intro K' hK'; go_simp; refine hK' _ ?_; clear hK' K')) | (refine LeftL.runG (v := ?_) 8 rfl (by kernel_rfl) rfl (fun _ _ d _ _ h => by cases d <;> exact h) ?_ HS.out ?_; rotate_left; (· intro V hV; obtain ⟨q0, q1⟩ := HFX.out V hV; clear hV; go_simp; rfl); (intro K' hK'; go_simp; refine hK' _ ?_; clear hK' K')) | (refine LeftL.take (v := undef) 8 rfl (by kernel_rfl) (fun _ _ d _ _ h => by cases d <;> exact h) (.inr ⟨rfl, rfl⟩) HS.out ?_; (intro K' hK'; go_simp; refine hK' _ ?_; clear hK' K'))
      refine LeftL.done (by kernel_rfl) ?_
      go_wp2_with fail
      (try simp only [hw1, hw2])
      exact ⟨⟨j + 1, by simp, HJL.out, HFR.out.call HS.out HFR.out.size (by simp)⟩, meas_up HJL.out⟩
    · have hjl' : ¬ (j : Int) < (n : Int) := by omega
      have HFR := Lib.hid hfr
      clear hfr
      go_wp2_with fail
      go_ret
      exact ⟨rfl, HFR.out⟩
end Go.Proofs.YtghkfopcjdkieaaDoor
