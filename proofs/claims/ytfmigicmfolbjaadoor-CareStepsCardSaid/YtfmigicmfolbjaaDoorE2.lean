/-
  The document's questions about a plan: is it great; do numbers rise; is a number in a list.
-/
import Derived.Test.YtfmigicmfolbjaaDoorE1
import Derived.Test.YtfmigicmfolbjaaDoorB20
namespace Go.Proofs.YtfmigicmfolbjaaDoor
set_option linter.all false
set_option linter.unusedSimpArgs false
set_option linter.unusedVariables false
open Go.RowKit

set_option maxRecDepth 100000 in
set_option maxHeartbeats 8000000 in
theorem has_any (ad : Option Addr) (b off n cap : Nat) (F : Nat → Int) (x : Int) (w : World) (hr : RwI w ad b off n F) :
    Calls Tryd.prog 66 #[.slice ad n cap, .int .i64 x] w fun e w' => e = .returned (.bool (inF F n x)) ∧ Frm w.heap.size [] w w' := by
  have hf0 := Tryd.func66
  obtain ⟨res, hrs⟩ : ∃ r, r = inF F n x := ⟨_, rfl⟩
  rw [← hrs]
  have hlen := hr.len
  have HR := Lib.hid hr
  have HRS := Lib.hid hrs
  clear hrs hr
  go_enter Tryd.func66, Tryd.ntmps66
  go_wp2_with fail
  go_loopw [5] (fun s5 wr => ∃ j : Nat, s5 = .int .i64 j ∧ j ≤ n ∧ (∀ k, k < j → F k ≠ x) ∧ Frm w.heap.size [] w wr) (fun s5 _ => n - (intOf s5).toNat)
  case atStart => exact ⟨0, rfl, Nat.zero_le _, fun k hk => absurd hk (by omega), Frm.refl _ _ _⟩
  case round =>
    obtain ⟨j, rfl, hj, hall, hfr⟩ := hrel
    by_cases hjl : j < n
    · have hjl' : (j : Int) < (n : Int) := by omega
      have had := HR.out.ad (by omega)
      subst had
      obtain ⟨w4, w5⟩ := wrapUp hjl hlen
      have hms := meas_up hjl
      obtain ⟨y, hy⟩ : ∃ y, y = F j := ⟨_, rfl⟩
      have c1 : wr.cell? ⟨b, off + j, none⟩ = some (.int .i64 y) := by rw [hy]; exact (HR.out.frm hfr (Nat.le_refl _)).cellI hjl
      by_cases he : y = x
      · have he2 : (y == x) = true := by simp [he]
        have hres : res = true := by rw [HRS.out]; exact inF_yes hjl (by rw [← hy]; exact he)
        subst hres
        have HALL := Lib.hid hall
        have HY := Lib.hid hy
        have HMS := Lib.hid hms
        have HJL := Lib.hid hjl
        have HFR := Lib.hid hfr
        clear hfr hjl hms hy hall
        go_wp2_with fail
        go_ret
        exact ⟨rfl, HFR.out⟩
      · have he2 : (y == x) = false := by simp [he]
        have hall2 : ∀ k, k < j + 1 → F k ≠ x := fun k hk => by
          rcases Nat.lt_or_ge k j with h | h
          · exact hall k h
          · obtain rfl : k = j := by omega
            rw [← hy]; exact he
        clear hall
        have HALL := Lib.hid hall2
        have HY := Lib.hid hy
        have HMS := Lib.hid hms
        have HJL := Lib.hid hjl
        have HFR := Lib.hid hfr
        clear hfr hjl hms hy hall2
        go_wp2_with fail
        (try simp only [w4, w5])
        exact ⟨⟨j + 1, by simp, HJL.out, HALL.out, HFR.out⟩, HMS.out⟩
    · have hjl' : ¬ (j : Int) < (n : Int) := by omega
      obtain rfl : j = n := by omega
      have hres : res = false := by rw [HRS.out]; exact inF_no hall
      subst hres
      clear hall
      have HFR := Lib.hid hfr
      clear hfr
      go_wp2_with fail
      go_ret
      exact ⟨rfl, HFR.out⟩

theorem numF_last {F : Nat → Int} : ∀ {k s : Nat} {l : Int}, 0 < k → numF F k = some (s, l) → l = F (k - 1) ∧ 0 ≤ l
  | 0, _, _, h, _ => absurd h (by omega)
  | k + 1, s, l, _, h => by
    unfold numF at h
    split at h
    · cases h
    · rename_i s0 l0 h0
      have hok := numF_ok h0
      split at h
      · rename_i hin
        have hin := inB_iff.1 hin
        simp at h
        obtain ⟨_, rfl⟩ := h
        exact ⟨rfl, by omega⟩
      · cases h
def badF1 (F : Nat → Int) (k : Nat) : Bool := !inB (F k) 0 15 || (decide (0 < k) && decide (F k ≤ F (k - 1)))
theorem numF_next {F : Nat → Int} {k s : Nat} {l : Int} (h : numF F k = some (s, l)) : (numF F (k + 1)).isSome = !badF1 F k := by
  have hs : inB (F k) (l + 1) 15 = !badF1 F k := by
    unfold badF1
    rw [Bool.eq_iff_iff]
    simp only [Bool.not_eq_true', Bool.or_eq_false_iff, Bool.and_eq_false_iff, Bool.not_eq_false', decide_eq_false_iff_not, inB_iff]
    rcases Nat.eq_zero_or_pos k with h0 | h0
    · subst h0
      have h : some ((0 : Nat), (-1 : Int)) = some (s, l) := h
      simp at h
      omega
    · obtain ⟨h1, h2⟩ := numF_last h0 h
      rw [← h1]
      omega
  rw [← hs]
  rw [numF, h]
  cases hb : inB (F k) (l + 1) 15 <;> simp [hb]
theorem numL_some (l : List Int) : (numL l).isSome = (numF (fun i => l.getD i 0) l.length).isSome := by
  unfold numL
  cases numF (fun i => l.getD i 0) l.length <;> rfl
set_option maxRecDepth 100000 in
set_option maxHeartbeats 8000000 in
theorem facts_any (y : LI) (l : List Int) (w : World) (hr : IntsAt w y l) : Calls Tryd.prog 65 #[y.v l] w fun e w' => e = .returned (.bool (numL l).isSome) ∧ Frm w.heap.size [] w w' := by
  have hf0 := Tryd.func65
  obtain ⟨ad, b, off, cap⟩ := y
  obtain ⟨F, hF⟩ : ∃ F : Nat → Int, F = fun i => l.getD i 0 := ⟨_, rfl⟩
  obtain ⟨n, hn⟩ : ∃ n, n = l.length := ⟨_, rfl⟩
  obtain ⟨res, hrs⟩ : ∃ r, r = (numF F n).isSome := ⟨_, rfl⟩
  have hr : RwI w ad b off n F := by rw [hF, hn]; exact hr
  rw [numL_some, ← hF, ← hn, ← hrs]
  show Calls Tryd.prog 65 #[.slice ad l.length cap] w _
  rw [← hn]
  have hlen := hr.len
  clear hF hn
  have HR := Lib.hid hr
  have HRS := Lib.hid hrs
  clear hrs hr
  go_enter Tryd.func65, Tryd.ntmps65
  go_wp2_with fail
  go_loopw [3] (fun s3 wr => ∃ j : Nat, s3 = .int .i64 j ∧ j ≤ n ∧ (numF F j).isSome = true ∧ Frm w.heap.size [] w wr) (fun s3 _ => n - (intOf s3).toNat)
  case atStart => exact ⟨0, rfl, Nat.zero_le _, rfl, Frm.refl _ _ _⟩
  case round =>
    obtain ⟨j, rfl, hj, hall, hfr⟩ := hrel
    by_cases hjl : j < n
    · have hjl' : (j : Int) < (n : Int) := by omega
      have had := HR.out.ad (by omega)
      subst had
      obtain ⟨w4, w5⟩ := wrapUp hjl hlen
      have hms := meas_up hjl
      obtain ⟨x, hx⟩ : ∃ x, x = F j := ⟨_, rfl⟩
      obtain ⟨z, hz⟩ : ∃ x, x = F (j - 1) := ⟨_, rfl⟩
      obtain ⟨jm, hjm⟩ : ∃ x, x = j - 1 := ⟨_, rfl⟩
      have hjln := hjl
      have hfx : ∀ X, Frm wr.heap.size [] wr X → X.cell? ⟨b, off + j, none⟩ = some (.int .i64 x) ∧ X.cell? ⟨b, off + jm, none⟩ = some (.int .i64 z) := fun X hX => by
        have h1 := HR.out.frm (hfr.call hX hfr.size (by simp)) (Nat.le_refl _)
        exact ⟨by rw [hx]; exact h1.cellI hjln, by rw [hz, hjm]; exact h1.cellI (by omega)⟩
      obtain ⟨⟨s0, l0⟩, hnf⟩ := Option.isSome_iff_exists.1 hall
      have hnx := numF_next hnf
      obtain ⟨bad, hbad⟩ : ∃ x, x = badF1 F j := ⟨_, rfl⟩
      have hbd : bad = (!inB x 0 15 || (decide (0 < j) && decide (x ≤ z))) := by rw [hbad, hx, hz]; rfl
      rw [← hbad] at hnx
      have hjm2 : 0 < j → IntKind.i64.wrap ((j : Int) - 1) = (jm : Int) ∧ jm < n := fun h => ⟨by rw [hjm, IntWalk.i64_in _ (by unfold maxLen at *; omega)]; omega, by omega⟩
      clear hjm hz hjln hall hnf
      have HJL := Lib.hid hjl
      have HX := Lib.hid hx
      have HFX := Lib.hid hfx
      have HFR := Lib.hid hfr
      have HBAD := Lib.hid hbad
      have HBD := Lib.hid hbd
      have HJM := Lib.hid hjm2
      have HNX := Lib.hid hnx
      have HMS := Lib.hid hms
      clear hms hnx hjm2 hbd hbad hfr hfx hx hjl
      go_upto_region 4 with fail
      go_cut [31] from 10 to 31 (fun s31 w' => s31 = .bool bad ∧ Frm wr.heap.size [] wr w')
      case first =>
        cases c1 : inB x 0 15
        · refine wp_region_leftL (fun V => Frm wr.heap.size [] wr V) 1000 (by kernel_rfl) ?_
          have hS : Frm wr.heap.size [] wr wr.drew := (Frm.refl _ _ wr).drew
          have HS := Lib.hid hS
          clear hS
          first | ((first | refine LeftL.tkF (v := ?_) 0 rfl HS.out ?_ ?_ | refine LeftL.tkG (v := ?_) 0 rfl HS.out ?_ ?_); rotate_left; (· intro V hV; obtain ⟨q0, q1⟩ := HFX.out V hV; clear hV; go_simp; rfl)) | refine LeftL.tkN 0 rfl HS.out ?_
          (intro K' hK'; go_simp; refine hK' _ ?_; clear hK' K')
          first | ((first | refine LeftL.tkF (v := ?_) 1 rfl HS.out ?_ ?_ | refine LeftL.tkG (v := ?_) 1 rfl HS.out ?_ ?_); rotate_left; (· intro V hV; obtain ⟨q0, q1⟩ := HFX.out V hV; clear hV; go_simp; rfl)) | refine LeftL.tkN 1 rfl HS.out ?_
          (intro K' hK'; go_simp; refine hK' _ ?_; clear hK' K')
          first | ((first | refine LeftL.tkF (v := ?_) 2 rfl HS.out ?_ ?_ | refine LeftL.tkG (v := ?_) 2 rfl HS.out ?_ ?_); rotate_left; (· intro V hV; obtain ⟨q0, q1⟩ := HFX.out V hV; clear hV; go_simp; rfl)) | refine LeftL.tkN 2 rfl HS.out ?_
          (intro K' hK'; go_simp; refine hK' _ ?_; clear hK' K')
          first | ((first | refine LeftL.tkF (v := ?_) 3 rfl HS.out ?_ ?_ | refine LeftL.tkG (v := ?_) 3 rfl HS.out ?_ ?_); rotate_left; (· intro V hV; obtain ⟨q0, q1⟩ := HFX.out V hV; clear hV; go_simp; rfl)) | refine LeftL.tkN 3 rfl HS.out ?_
          (intro K' hK'; go_simp; refine hK' _ ?_; clear hK' K')
          refine LeftL.one 4 rfl (by kernel_rfl) ?_
          go_wp2_with fail
          refine (refin_fr x 0 15 _).mono ?_; rintro e w1 ⟨rfl, hf1⟩
          have hS1 := HS.out.call hf1 HS.out.size (by simp)
          clear hf1 HS
          have HS := Lib.hid hS1
          clear hS1
          rw [c1]
          go_wp2_with fail
          first | refine ⟨fun _ => HS.out, ?_⟩ | refine ⟨HS.out, ?_⟩
          first | ((first | refine LeftL.tkF (v := ?_) 5 rfl HS.out ?_ ?_ | refine LeftL.tkG (v := ?_) 5 rfl HS.out ?_ ?_); rotate_left; (· intro V hV; obtain ⟨q0, q1⟩ := HFX.out V hV; clear hV; go_simp; rfl)) | refine LeftL.tkN 5 rfl HS.out ?_
          (intro K' hK'; go_simp; refine hK' _ ?_; clear hK' K')
          first | ((first | refine LeftL.tkF (v := ?_) 6 rfl HS.out ?_ ?_ | refine LeftL.tkG (v := ?_) 6 rfl HS.out ?_ ?_); rotate_left; (· intro V hV; obtain ⟨q0, q1⟩ := HFX.out V hV; clear hV; go_simp; rfl)) | refine LeftL.tkN 6 rfl HS.out ?_
          (intro K' hK'; go_simp; refine hK' _ ?_; clear hK' K')
          first | ((first | refine LeftL.tkF (v := ?_) 7 rfl HS.out ?_ ?_ | refine LeftL.tkG (v := ?_) 7 rfl HS.out ?_ ?_); rotate_left; (· intro V hV; obtain ⟨q0, q1⟩ := HFX.out V hV; clear hV; go_simp; rfl)) | refine LeftL.tkN 7 rfl HS.out ?_
          (intro K' hK'; go_simp; refine hK' _ ?_; clear hK' K')
          first | ((first | refine LeftL.tkF (v := ?_) 8 rfl HS.out ?_ ?_ | refine LeftL.tkG (v := ?_) 8 rfl HS.out ?_ ?_); rotate_left; (· intro V hV; obtain ⟨q0, q1⟩ := HFX.out V hV; clear hV; go_simp; rfl)) | refine LeftL.tkN 8 rfl HS.out ?_
          (intro K' hK'; go_simp; refine hK' _ ?_; clear hK' K')
          first | ((first | refine LeftL.tkF (v := ?_) 9 rfl HS.out ?_ ?_ | refine LeftL.tkG (v := ?_) 9 rfl HS.out ?_ ?_); rotate_left; (· intro V hV; obtain ⟨q0, q1⟩ := HFX.out V hV; clear hV; go_simp; rfl)) | refine LeftL.tkN 9 rfl HS.out ?_
          (intro K' hK'; go_simp; refine hK' _ ?_; clear hK' K')
          first | ((first | refine LeftL.tkF (v := ?_) 10 rfl HS.out ?_ ?_ | refine LeftL.tkG (v := ?_) 10 rfl HS.out ?_ ?_); rotate_left; (· intro V hV; obtain ⟨q0, q1⟩ := HFX.out V hV; clear hV; go_simp; rfl)) | refine LeftL.tkN 10 rfl HS.out ?_
          (intro K' hK'; go_simp; refine hK' _ ?_; clear hK' K')
          first | ((first | refine LeftL.tkF (v := ?_) 11 rfl HS.out ?_ ?_ | refine LeftL.tkG (v := ?_) 11 rfl HS.out ?_ ?_); rotate_left; (· intro V hV; obtain ⟨q0, q1⟩ := HFX.out V hV; clear hV; go_simp; rfl)) | refine LeftL.tkN 11 rfl HS.out ?_
          (intro K' hK'; go_simp; refine hK' _ ?_; clear hK' K')
          first | ((first | refine LeftL.tkF (v := ?_) 12 rfl HS.out ?_ ?_ | refine LeftL.tkG (v := ?_) 12 rfl HS.out ?_ ?_); rotate_left; (· intro V hV; obtain ⟨q0, q1⟩ := HFX.out V hV; clear hV; go_simp; rfl)) | refine LeftL.tkN 12 rfl HS.out ?_
          (intro K' hK'; go_simp; refine hK' _ ?_; clear hK' K')
          first | ((first | refine LeftL.tkF (v := ?_) 13 rfl HS.out ?_ ?_ | refine LeftL.tkG (v := ?_) 13 rfl HS.out ?_ ?_); rotate_left; (· intro V hV; obtain ⟨q0, q1⟩ := HFX.out V hV; clear hV; go_simp; rfl)) | refine LeftL.tkN 13 rfl HS.out ?_
          (intro K' hK'; go_simp; refine hK' _ ?_; clear hK' K')
          first | ((first | refine LeftL.tkF (v := ?_) 14 rfl HS.out ?_ ?_ | refine LeftL.tkG (v := ?_) 14 rfl HS.out ?_ ?_); rotate_left; (· intro V hV; obtain ⟨q0, q1⟩ := HFX.out V hV; clear hV; go_simp; rfl)) | refine LeftL.tkN 14 rfl HS.out ?_
          (intro K' hK'; go_simp; refine hK' _ ?_; clear hK' K')
          first | ((first | refine LeftL.tkF (v := ?_) 15 rfl HS.out ?_ ?_ | refine LeftL.tkG (v := ?_) 15 rfl HS.out ?_ ?_); rotate_left; (· intro V hV; obtain ⟨q0, q1⟩ := HFX.out V hV; clear hV; go_simp; rfl)) | refine LeftL.tkN 15 rfl HS.out ?_
          (intro K' hK'; go_simp; refine hK' _ ?_; clear hK' K')
          first | ((first | refine LeftL.tkF (v := ?_) 16 rfl HS.out ?_ ?_ | refine LeftL.tkG (v := ?_) 16 rfl HS.out ?_ ?_); rotate_left; (· intro V hV; obtain ⟨q0, q1⟩ := HFX.out V hV; clear hV; go_simp; rfl)) | refine LeftL.tkN 16 rfl HS.out ?_
          (intro K' hK'; go_simp; refine hK' _ ?_; clear hK' K')
          first | ((first | refine LeftL.tkF (v := ?_) 17 rfl HS.out ?_ ?_ | refine LeftL.tkG (v := ?_) 17 rfl HS.out ?_ ?_); rotate_left; (· intro V hV; obtain ⟨q0, q1⟩ := HFX.out V hV; clear hV; go_simp; rfl)) | refine LeftL.tkN 17 rfl HS.out ?_
          (intro K' hK'; go_simp; refine hK' _ ?_; clear hK' K')
          first | ((first | refine LeftL.tkF (v := ?_) 18 rfl HS.out ?_ ?_ | refine LeftL.tkG (v := ?_) 18 rfl HS.out ?_ ?_); rotate_left; (· intro V hV; obtain ⟨q0, q1⟩ := HFX.out V hV; clear hV; go_simp; rfl)) | refine LeftL.tkN 18 rfl HS.out ?_
          (intro K' hK'; go_simp; refine hK' _ ?_; clear hK' K')
          first | ((first | refine LeftL.tkF (v := ?_) 19 rfl HS.out ?_ ?_ | refine LeftL.tkG (v := ?_) 19 rfl HS.out ?_ ?_); rotate_left; (· intro V hV; obtain ⟨q0, q1⟩ := HFX.out V hV; clear hV; go_simp; rfl)) | refine LeftL.tkN 19 rfl HS.out ?_
          (intro K' hK'; go_simp; refine hK' _ ?_; clear hK' K')
          first | ((first | refine LeftL.tkF (v := ?_) 20 rfl HS.out ?_ ?_ | refine LeftL.tkG (v := ?_) 20 rfl HS.out ?_ ?_); rotate_left; (· intro V hV; obtain ⟨q0, q1⟩ := HFX.out V hV; clear hV; go_simp; rfl)) | refine LeftL.tkN 20 rfl HS.out ?_
          (intro K' hK'; go_simp; refine hK' _ ?_; clear hK' K')
          first | ((first | refine LeftL.tkF (v := ?_) 21 rfl HS.out ?_ ?_ | refine LeftL.tkG (v := ?_) 21 rfl HS.out ?_ ?_); rotate_left; (· intro V hV; obtain ⟨q0, q1⟩ := HFX.out V hV; clear hV; go_simp; rfl)) | refine LeftL.tkN 21 rfl HS.out ?_
          (intro K' hK'; go_simp; refine hK' _ ?_; clear hK' K')
          refine LeftL.done (by kernel_rfl) ?_
          go_wp2_with fail
          go_meet
          case rel => exact ⟨by rw [HBD.out, c1]; rfl, HS.out⟩
        · by_cases hj0 : 0 < j
          · obtain ⟨v1, v2⟩ := HJM.out hj0
            have v3 : (0 : Int) < (j : Int) := by omega
            have v4 : (jm : Int) < (n : Int) := by omega
            have e0 : decide (0 < j) = true := by simp [hj0]
            have E0 := Lib.hid e0
            clear e0
            refine wp_region_leftL (fun V => Frm wr.heap.size [] wr V) 1000 (by kernel_rfl) ?_
            have hS : Frm wr.heap.size [] wr wr.drew := (Frm.refl _ _ wr).drew
            have HS := Lib.hid hS
            clear hS
            first | ((first | refine LeftL.tkF (v := ?_) 0 rfl HS.out ?_ ?_ | refine LeftL.tkG (v := ?_) 0 rfl HS.out ?_ ?_); rotate_left; (· intro V hV; obtain ⟨q0, q1⟩ := HFX.out V hV; clear hV; go_simp; rfl)) | refine LeftL.tkN 0 rfl HS.out ?_
            (intro K' hK'; go_simp; refine hK' _ ?_; clear hK' K')
            first | ((first | refine LeftL.tkF (v := ?_) 1 rfl HS.out ?_ ?_ | refine LeftL.tkG (v := ?_) 1 rfl HS.out ?_ ?_); rotate_left; (· intro V hV; obtain ⟨q0, q1⟩ := HFX.out V hV; clear hV; go_simp; rfl)) | refine LeftL.tkN 1 rfl HS.out ?_
            (intro K' hK'; go_simp; refine hK' _ ?_; clear hK' K')
            first | ((first | refine LeftL.tkF (v := ?_) 2 rfl HS.out ?_ ?_ | refine LeftL.tkG (v := ?_) 2 rfl HS.out ?_ ?_); rotate_left; (· intro V hV; obtain ⟨q0, q1⟩ := HFX.out V hV; clear hV; go_simp; rfl)) | refine LeftL.tkN 2 rfl HS.out ?_
            (intro K' hK'; go_simp; refine hK' _ ?_; clear hK' K')
            first | ((first | refine LeftL.tkF (v := ?_) 3 rfl HS.out ?_ ?_ | refine LeftL.tkG (v := ?_) 3 rfl HS.out ?_ ?_); rotate_left; (· intro V hV; obtain ⟨q0, q1⟩ := HFX.out V hV; clear hV; go_simp; rfl)) | refine LeftL.tkN 3 rfl HS.out ?_
            (intro K' hK'; go_simp; refine hK' _ ?_; clear hK' K')
            refine LeftL.one 4 rfl (by kernel_rfl) ?_
            go_wp2_with fail
            refine (refin_fr x 0 15 _).mono ?_; rintro e w1 ⟨rfl, hf1⟩
            have hS1 := HS.out.call hf1 HS.out.size (by simp)
            clear hf1 HS
            have HS := Lib.hid hS1
            clear hS1
            rw [c1]
            go_wp2_with fail
            first | refine ⟨fun _ => HS.out, ?_⟩ | refine ⟨HS.out, ?_⟩
            first | ((first | refine LeftL.tkF (v := ?_) 5 rfl HS.out ?_ ?_ | refine LeftL.tkG (v := ?_) 5 rfl HS.out ?_ ?_); rotate_left; (· intro V hV; obtain ⟨q0, q1⟩ := HFX.out V hV; clear hV; go_simp; rfl)) | refine LeftL.tkN 5 rfl HS.out ?_
            (intro K' hK'; go_simp; refine hK' _ ?_; clear hK' K')
            first | ((first | refine LeftL.tkF (v := ?_) 6 rfl HS.out ?_ ?_ | refine LeftL.tkG (v := ?_) 6 rfl HS.out ?_ ?_); rotate_left; (· intro V hV; obtain ⟨q0, q1⟩ := HFX.out V hV; clear hV; go_simp; rfl)) | refine LeftL.tkN 6 rfl HS.out ?_
            (intro K' hK'; go_simp; refine hK' _ ?_; clear hK' K')
            first | ((first | refine LeftL.tkF (v := ?_) 7 rfl HS.out ?_ ?_ | refine LeftL.tkG (v := ?_) 7 rfl HS.out ?_ ?_); rotate_left; (· intro V hV; obtain ⟨q0, q1⟩ := HFX.out V hV; clear hV; go_simp; rfl)) | refine LeftL.tkN 7 rfl HS.out ?_
            (intro K' hK'; go_simp; refine hK' _ ?_; clear hK' K')
            first | ((first | refine LeftL.tkF (v := ?_) 8 rfl HS.out ?_ ?_ | refine LeftL.tkG (v := ?_) 8 rfl HS.out ?_ ?_); rotate_left; (· intro V hV; obtain ⟨q0, q1⟩ := HFX.out V hV; clear hV; go_simp; rfl)) | refine LeftL.tkN 8 rfl HS.out ?_
            (intro K' hK'; go_simp; refine hK' _ ?_; clear hK' K')
            first | ((first | refine LeftL.tkF (v := ?_) 9 rfl HS.out ?_ ?_ | refine LeftL.tkG (v := ?_) 9 rfl HS.out ?_ ?_); rotate_left; (· intro V hV; obtain ⟨q0, q1⟩ := HFX.out V hV; clear hV; go_simp; rfl)) | refine LeftL.tkN 9 rfl HS.out ?_
            (intro K' hK'; go_simp; refine hK' _ ?_; clear hK' K')
            first | ((first | refine LeftL.tkF (v := ?_) 10 rfl HS.out ?_ ?_ | refine LeftL.tkG (v := ?_) 10 rfl HS.out ?_ ?_); rotate_left; (· intro V hV; obtain ⟨q0, q1⟩ := HFX.out V hV; clear hV; go_simp; rfl)) | refine LeftL.tkN 10 rfl HS.out ?_
            (intro K' hK'; go_simp; refine hK' _ ?_; clear hK' K')
            first | ((first | refine LeftL.tkF (v := ?_) 11 rfl HS.out ?_ ?_ | refine LeftL.tkG (v := ?_) 11 rfl HS.out ?_ ?_); rotate_left; (· intro V hV; obtain ⟨q0, q1⟩ := HFX.out V hV; clear hV; go_simp; rfl)) | refine LeftL.tkN 11 rfl HS.out ?_
            (intro K' hK'; go_simp; refine hK' _ ?_; clear hK' K')
            first | ((first | refine LeftL.tkF (v := ?_) 12 rfl HS.out ?_ ?_ | refine LeftL.tkG (v := ?_) 12 rfl HS.out ?_ ?_); rotate_left; (· intro V hV; obtain ⟨q0, q1⟩ := HFX.out V hV; clear hV; go_simp; rfl)) | refine LeftL.tkN 12 rfl HS.out ?_
            (intro K' hK'; go_simp; refine hK' _ ?_; clear hK' K')
            first | ((first | refine LeftL.tkF (v := ?_) 13 rfl HS.out ?_ ?_ | refine LeftL.tkG (v := ?_) 13 rfl HS.out ?_ ?_); rotate_left; (· intro V hV; obtain ⟨q0, q1⟩ := HFX.out V hV; clear hV; go_simp; rfl)) | refine LeftL.tkN 13 rfl HS.out ?_
            (intro K' hK'; go_simp; refine hK' _ ?_; clear hK' K')
            first | ((first | refine LeftL.tkF (v := ?_) 14 rfl HS.out ?_ ?_ | refine LeftL.tkG (v := ?_) 14 rfl HS.out ?_ ?_); rotate_left; (· intro V hV; obtain ⟨q0, q1⟩ := HFX.out V hV; clear hV; go_simp; rfl)) | refine LeftL.tkN 14 rfl HS.out ?_
            (intro K' hK'; go_simp; refine hK' _ ?_; clear hK' K')
            first | ((first | refine LeftL.tkF (v := ?_) 15 rfl HS.out ?_ ?_ | refine LeftL.tkG (v := ?_) 15 rfl HS.out ?_ ?_); rotate_left; (· intro V hV; obtain ⟨q0, q1⟩ := HFX.out V hV; clear hV; go_simp; rfl)) | refine LeftL.tkN 15 rfl HS.out ?_
            (intro K' hK'; go_simp; refine hK' _ ?_; clear hK' K')
            first | ((first | refine LeftL.tkF (v := ?_) 16 rfl HS.out ?_ ?_ | refine LeftL.tkG (v := ?_) 16 rfl HS.out ?_ ?_); rotate_left; (· intro V hV; obtain ⟨q0, q1⟩ := HFX.out V hV; clear hV; go_simp; rfl)) | refine LeftL.tkN 16 rfl HS.out ?_
            (intro K' hK'; go_simp; refine hK' _ ?_; clear hK' K')
            first | ((first | refine LeftL.tkF (v := ?_) 17 rfl HS.out ?_ ?_ | refine LeftL.tkG (v := ?_) 17 rfl HS.out ?_ ?_); rotate_left; (· intro V hV; obtain ⟨q0, q1⟩ := HFX.out V hV; clear hV; go_simp; rfl)) | refine LeftL.tkN 17 rfl HS.out ?_
            (intro K' hK'; go_simp; refine hK' _ ?_; clear hK' K')
            first | ((first | refine LeftL.tkF (v := ?_) 18 rfl HS.out ?_ ?_ | refine LeftL.tkG (v := ?_) 18 rfl HS.out ?_ ?_); rotate_left; (· intro V hV; obtain ⟨q0, q1⟩ := HFX.out V hV; clear hV; go_simp; rfl)) | refine LeftL.tkN 18 rfl HS.out ?_
            (intro K' hK'; go_simp; refine hK' _ ?_; clear hK' K')
            first | ((first | refine LeftL.tkF (v := ?_) 19 rfl HS.out ?_ ?_ | refine LeftL.tkG (v := ?_) 19 rfl HS.out ?_ ?_); rotate_left; (· intro V hV; obtain ⟨q0, q1⟩ := HFX.out V hV; clear hV; go_simp; rfl)) | refine LeftL.tkN 19 rfl HS.out ?_
            (intro K' hK'; go_simp; refine hK' _ ?_; clear hK' K')
            first | ((first | refine LeftL.tkF (v := ?_) 20 rfl HS.out ?_ ?_ | refine LeftL.tkG (v := ?_) 20 rfl HS.out ?_ ?_); rotate_left; (· intro V hV; obtain ⟨q0, q1⟩ := HFX.out V hV; clear hV; go_simp; rfl)) | refine LeftL.tkN 20 rfl HS.out ?_
            (intro K' hK'; go_simp; refine hK' _ ?_; clear hK' K')
            first | ((first | refine LeftL.tkF (v := ?_) 21 rfl HS.out ?_ ?_ | refine LeftL.tkG (v := ?_) 21 rfl HS.out ?_ ?_); rotate_left; (· intro V hV; obtain ⟨q0, q1⟩ := HFX.out V hV; clear hV; go_simp; rfl)) | refine LeftL.tkN 21 rfl HS.out ?_
            (intro K' hK'; go_simp; refine hK' _ ?_; clear hK' K')
            refine LeftL.done (by kernel_rfl) ?_
            go_wp2_with fail
            go_meet
            case rel => exact ⟨by rw [HBD.out, c1, E0.out]; rfl, HS.out⟩
          · have v3 : ¬ (0 : Int) < (j : Int) := by omega
            have e0 : decide (0 < j) = false := by simp; omega
            have E0 := Lib.hid e0
            clear e0
            refine wp_region_leftL (fun V => Frm wr.heap.size [] wr V) 1000 (by kernel_rfl) ?_
            have hS : Frm wr.heap.size [] wr wr.drew := (Frm.refl _ _ wr).drew
            have HS := Lib.hid hS
            clear hS
            first | ((first | refine LeftL.tkF (v := ?_) 0 rfl HS.out ?_ ?_ | refine LeftL.tkG (v := ?_) 0 rfl HS.out ?_ ?_); rotate_left; (· intro V hV; obtain ⟨q0, q1⟩ := HFX.out V hV; clear hV; go_simp; rfl)) | refine LeftL.tkN 0 rfl HS.out ?_
            (intro K' hK'; go_simp; refine hK' _ ?_; clear hK' K')
            first | ((first | refine LeftL.tkF (v := ?_) 1 rfl HS.out ?_ ?_ | refine LeftL.tkG (v := ?_) 1 rfl HS.out ?_ ?_); rotate_left; (· intro V hV; obtain ⟨q0, q1⟩ := HFX.out V hV; clear hV; go_simp; rfl)) | refine LeftL.tkN 1 rfl HS.out ?_
            (intro K' hK'; go_simp; refine hK' _ ?_; clear hK' K')
            first | ((first | refine LeftL.tkF (v := ?_) 2 rfl HS.out ?_ ?_ | refine LeftL.tkG (v := ?_) 2 rfl HS.out ?_ ?_); rotate_left; (· intro V hV; obtain ⟨q0, q1⟩ := HFX.out V hV; clear hV; go_simp; rfl)) | refine LeftL.tkN 2 rfl HS.out ?_
            (intro K' hK'; go_simp; refine hK' _ ?_; clear hK' K')
            first | ((first | refine LeftL.tkF (v := ?_) 3 rfl HS.out ?_ ?_ | refine LeftL.tkG (v := ?_) 3 rfl HS.out ?_ ?_); rotate_left; (· intro V hV; obtain ⟨q0, q1⟩ := HFX.out V hV; clear hV; go_simp; rfl)) | refine LeftL.tkN 3 rfl HS.out ?_
            (intro K' hK'; go_simp; refine hK' _ ?_; clear hK' K')
            refine LeftL.one 4 rfl (by kernel_rfl) ?_
            go_wp2_with fail
            refine (refin_fr x 0 15 _).mono ?_; rintro e w1 ⟨rfl, hf1⟩
            have hS1 := HS.out.call hf1 HS.out.size (by simp)
            clear hf1 HS
            have HS := Lib.hid hS1
            clear hS1
            rw [c1]
            go_wp2_with fail
            first | refine ⟨fun _ => HS.out, ?_⟩ | refine ⟨HS.out, ?_⟩
            first | ((first | refine LeftL.tkF (v := ?_) 5 rfl HS.out ?_ ?_ | refine LeftL.tkG (v := ?_) 5 rfl HS.out ?_ ?_); rotate_left; (· intro V hV; obtain ⟨q0, q1⟩ := HFX.out V hV; clear hV; go_simp; rfl)) | refine LeftL.tkN 5 rfl HS.out ?_
            (intro K' hK'; go_simp; refine hK' _ ?_; clear hK' K')
            first | ((first | refine LeftL.tkF (v := ?_) 6 rfl HS.out ?_ ?_ | refine LeftL.tkG (v := ?_) 6 rfl HS.out ?_ ?_); rotate_left; (· intro V hV; obtain ⟨q0, q1⟩ := HFX.out V hV; clear hV; go_simp; rfl)) | refine LeftL.tkN 6 rfl HS.out ?_
            (intro K' hK'; go_simp; refine hK' _ ?_; clear hK' K')
            first | ((first | refine LeftL.tkF (v := ?_) 7 rfl HS.out ?_ ?_ | refine LeftL.tkG (v := ?_) 7 rfl HS.out ?_ ?_); rotate_left; (· intro V hV; obtain ⟨q0, q1⟩ := HFX.out V hV; clear hV; go_simp; rfl)) | refine LeftL.tkN 7 rfl HS.out ?_
            (intro K' hK'; go_simp; refine hK' _ ?_; clear hK' K')
            first | ((first | refine LeftL.tkF (v := ?_) 8 rfl HS.out ?_ ?_ | refine LeftL.tkG (v := ?_) 8 rfl HS.out ?_ ?_); rotate_left; (· intro V hV; obtain ⟨q0, q1⟩ := HFX.out V hV; clear hV; go_simp; rfl)) | refine LeftL.tkN 8 rfl HS.out ?_
            (intro K' hK'; go_simp; refine hK' _ ?_; clear hK' K')
            first | ((first | refine LeftL.tkF (v := ?_) 9 rfl HS.out ?_ ?_ | refine LeftL.tkG (v := ?_) 9 rfl HS.out ?_ ?_); rotate_left; (· intro V hV; obtain ⟨q0, q1⟩ := HFX.out V hV; clear hV; go_simp; rfl)) | refine LeftL.tkN 9 rfl HS.out ?_
            (intro K' hK'; go_simp; refine hK' _ ?_; clear hK' K')
            first | ((first | refine LeftL.tkF (v := ?_) 10 rfl HS.out ?_ ?_ | refine LeftL.tkG (v := ?_) 10 rfl HS.out ?_ ?_); rotate_left; (· intro V hV; obtain ⟨q0, q1⟩ := HFX.out V hV; clear hV; go_simp; rfl)) | refine LeftL.tkN 10 rfl HS.out ?_
            (intro K' hK'; go_simp; refine hK' _ ?_; clear hK' K')
            first | ((first | refine LeftL.tkF (v := ?_) 11 rfl HS.out ?_ ?_ | refine LeftL.tkG (v := ?_) 11 rfl HS.out ?_ ?_); rotate_left; (· intro V hV; obtain ⟨q0, q1⟩ := HFX.out V hV; clear hV; go_simp; rfl)) | refine LeftL.tkN 11 rfl HS.out ?_
            (intro K' hK'; go_simp; refine hK' _ ?_; clear hK' K')
            first | ((first | refine LeftL.tkF (v := ?_) 12 rfl HS.out ?_ ?_ | refine LeftL.tkG (v := ?_) 12 rfl HS.out ?_ ?_); rotate_left; (· intro V hV; obtain ⟨q0, q1⟩ := HFX.out V hV; clear hV; go_simp; rfl)) | refine LeftL.tkN 12 rfl HS.out ?_
            (intro K' hK'; go_simp; refine hK' _ ?_; clear hK' K')
            first | ((first | refine LeftL.tkF (v := ?_) 13 rfl HS.out ?_ ?_ | refine LeftL.tkG (v := ?_) 13 rfl HS.out ?_ ?_); rotate_left; (· intro V hV; obtain ⟨q0, q1⟩ := HFX.out V hV; clear hV; go_simp; rfl)) | refine LeftL.tkN 13 rfl HS.out ?_
            (intro K' hK'; go_simp; refine hK' _ ?_; clear hK' K')
            first | ((first | refine LeftL.tkF (v := ?_) 14 rfl HS.out ?_ ?_ | refine LeftL.tkG (v := ?_) 14 rfl HS.out ?_ ?_); rotate_left; (· intro V hV; obtain ⟨q0, q1⟩ := HFX.out V hV; clear hV; go_simp; rfl)) | refine LeftL.tkN 14 rfl HS.out ?_
            (intro K' hK'; go_simp; refine hK' _ ?_; clear hK' K')
            first | ((first | refine LeftL.tkF (v := ?_) 15 rfl HS.out ?_ ?_ | refine LeftL.tkG (v := ?_) 15 rfl HS.out ?_ ?_); rotate_left; (· intro V hV; obtain ⟨q0, q1⟩ := HFX.out V hV; clear hV; go_simp; rfl)) | refine LeftL.tkN 15 rfl HS.out ?_
            (intro K' hK'; go_simp; refine hK' _ ?_; clear hK' K')
            first | ((first | refine LeftL.tkF (v := ?_) 16 rfl HS.out ?_ ?_ | refine LeftL.tkG (v := ?_) 16 rfl HS.out ?_ ?_); rotate_left; (· intro V hV; obtain ⟨q0, q1⟩ := HFX.out V hV; clear hV; go_simp; rfl)) | refine LeftL.tkN 16 rfl HS.out ?_
            (intro K' hK'; go_simp; refine hK' _ ?_; clear hK' K')
            first | ((first | refine LeftL.tkF (v := ?_) 17 rfl HS.out ?_ ?_ | refine LeftL.tkG (v := ?_) 17 rfl HS.out ?_ ?_); rotate_left; (· intro V hV; obtain ⟨q0, q1⟩ := HFX.out V hV; clear hV; go_simp; rfl)) | refine LeftL.tkN 17 rfl HS.out ?_
            (intro K' hK'; go_simp; refine hK' _ ?_; clear hK' K')
            first | ((first | refine LeftL.tkF (v := ?_) 18 rfl HS.out ?_ ?_ | refine LeftL.tkG (v := ?_) 18 rfl HS.out ?_ ?_); rotate_left; (· intro V hV; obtain ⟨q0, q1⟩ := HFX.out V hV; clear hV; go_simp; rfl)) | refine LeftL.tkN 18 rfl HS.out ?_
            (intro K' hK'; go_simp; refine hK' _ ?_; clear hK' K')
            first | ((first | refine LeftL.tkF (v := ?_) 19 rfl HS.out ?_ ?_ | refine LeftL.tkG (v := ?_) 19 rfl HS.out ?_ ?_); rotate_left; (· intro V hV; obtain ⟨q0, q1⟩ := HFX.out V hV; clear hV; go_simp; rfl)) | refine LeftL.tkN 19 rfl HS.out ?_
            (intro K' hK'; go_simp; refine hK' _ ?_; clear hK' K')
            first | ((first | refine LeftL.tkF (v := ?_) 20 rfl HS.out ?_ ?_ | refine LeftL.tkG (v := ?_) 20 rfl HS.out ?_ ?_); rotate_left; (· intro V hV; obtain ⟨q0, q1⟩ := HFX.out V hV; clear hV; go_simp; rfl)) | refine LeftL.tkN 20 rfl HS.out ?_
            (intro K' hK'; go_simp; refine hK' _ ?_; clear hK' K')
            first | ((first | refine LeftL.tkF (v := ?_) 21 rfl HS.out ?_ ?_ | refine LeftL.tkG (v := ?_) 21 rfl HS.out ?_ ?_); rotate_left; (· intro V hV; obtain ⟨q0, q1⟩ := HFX.out V hV; clear hV; go_simp; rfl)) | refine LeftL.tkN 21 rfl HS.out ?_
            (intro K' hK'; go_simp; refine hK' _ ?_; clear hK' K')
            refine LeftL.done (by kernel_rfl) ?_
            go_wp2_with fail
            go_meet
            case rel => exact ⟨by rw [HBD.out, c1, E0.out]; rfl, HS.out⟩
      obtain ⟨rfl, hfc⟩ := hcut
      have hfr := HFR.out.call hfc HFR.out.size (by simp)
      clear hfc HFR HFX
      cases bad
      · have hnx := HNX.out
        have HFR := Lib.hid hfr
        have HNX2 := Lib.hid hnx
        clear hnx hfr
        go_wp2_with fail
        (try simp only [w4, w5])
        exact ⟨⟨j + 1, by simp, HJL.out, by rw [HNX2.out]; rfl, HFR.out⟩, HMS.out⟩
      · have hres : res = false := by
          rw [HRS.out]
          have h1 : numF F (j + 1) = none := by
            have := HNX.out
            cases h2 : numF F (j + 1)
            · rfl
            · rw [h2] at this; cases this
          rw [numF_none (n := n) (by have := HJL.out; omega) h1]; rfl
        subst hres
        have HFR := Lib.hid hfr
        clear hfr
        go_wp2_with fail
        go_ret
        exact ⟨rfl, HFR.out⟩
    · have hjl' : ¬ (j : Int) < (n : Int) := by omega
      obtain rfl : j = n := by omega
      have hres : res = true := by rw [HRS.out]; exact hall
      subst hres
      clear hall
      have HFR := Lib.hid hfr
      clear hfr
      go_wp2_with fail
      go_ret
      exact ⟨rfl, HFR.out⟩
def GreatIs (n m : Nat) (e : Ending) : Prop := ∃ g : Bool, e = .returned (.bool g) ∧ (g = false → n ≤ 20 ∧ m ≤ 200)
theorem greatIs {n m : Nat} {e : Ending} (g : Bool) (h : e = .returned (.bool g)) (hg : g = false → n ≤ 20 ∧ m ≤ 200) : GreatIs n m e := ⟨g, h, hg⟩
theorem info63s (q : RPos) (R : Raw) : rawC q R = [q.s.v R.starts, .slice q.sa R.steps.length q.sc, .slice q.ea R.edges.length q.ec] := rfl
set_option maxRecDepth 100000 in
set_option maxHeartbeats 8000000 in
theorem great_any (q : RPos) (R : Raw) (w : World) (hr : RawAt w q R) : Calls Tryd.prog 32 #[.agg (rawC q R).toArray] w fun e w' => GreatIs R.steps.length R.edges.length e ∧ Frm w.heap.size [] w w' := by
  have hf0 := Tryd.func32
  obtain ⟨n, hn⟩ : ∃ n, n = R.steps.length := ⟨_, rfl⟩
  obtain ⟨m, hm⟩ : ∃ n, n = R.edges.length := ⟨_, rfl⟩
  have hraw : rawC q R = [q.s.v R.starts, .slice q.sa n q.sc, .slice q.ea m q.ec] := by rw [hn, hm]; rfl
  rw [hraw, ← hn, ← hm]
  clear hraw
  obtain ⟨sl, hsl⟩ : ∃ l, l = R.starts.length := ⟨_, rfl⟩
  have hsv : q.s.v R.starts = .slice q.s.ad sl q.s.cap := by rw [hsl]; rfl
  rw [hsv]
  clear hsv
  have HR := Lib.hid hr
  have HN := Lib.hid hn
  have HM := Lib.hid hm
  have HSL := Lib.hid hsl
  clear hsl hm hn hr
  go_enter Tryd.func32, Tryd.ntmps32
  go_upto_region 1 with fail
  refine namedC ?_; intro W hW
  obtain ⟨c, hc⟩ : ∃ c, c = w.heap.size := ⟨_, rfl⟩
  have k0 : Blk W c 66 [.slice q.s.ad sl q.s.cap, .slice q.sa n q.sc, .slice q.ea m q.ec] := by rw [hW, hc]; exact Blk.new w 66 [.slice q.s.ad sl q.s.cap, .slice q.sa n q.sc, .slice q.ea m q.ec]
  have hf : Frm w.heap.size [] w W := by rw [hW]; repeat (first | with_reducible exact Frm.refl _ _ _ | with_reducible refine Frm.drewN ?_ | with_reducible refine Frm.drew ?_ | ((with_reducible refine Frm.setCell' ?_ ?_); · first | (left; simp; done) | (right; simp; done) | (right; simp; omega)) | ((with_reducible refine Frm.alloc' ?_ ?_); · first | exact Nat.le_refl _ | (simp; done) | (simp; omega)))
  clear hW hf0
  rw [← hc]
  have c0 : W.cell? ⟨c, 0, none⟩ = some (.slice q.s.ad sl q.s.cap) := k0.cell 0
  have K0 := Lib.hid k0
  have HF := Lib.hid hf
  have HC := Lib.hid hc
  clear hc hf k0
  go_wp2_with fail
  clear c0
  go_loopw [3, 4] (fun s3 s4 wr => ∃ (j : Nat) (z : Int), s4 = .int .i64 j ∧ j ≤ n ∧ s3 = .int .i64 z ∧ Frm W.heap.size [] W wr) (fun _ s4 _ => n - (intOf s4).toNat)
  case atStart => exact ⟨0, _, rfl, Nat.zero_le _, rfl, Frm.refl _ _ _⟩
  case round =>
    obtain ⟨j, z, rfl, hj, rfl, hfr⟩ := hrel
    have k1 := hfr.blk K0.out K0.out.lt (by simp)
    have c1 : wr.cell? ⟨c, 1, none⟩ = some (.slice q.sa n q.sc) := k1.cell 1
    have c2 : wr.cell? ⟨c, 2, none⟩ = some (.slice q.ea m q.ec) := k1.cell 2
    by_cases hjl : j < n
    rotate_left
    · have hjl' : ¬ (j : Int) < (n : Int) := by omega
      have djl : decide ((j : Int) < (n : Int)) = false := by simp; omega
      clear k1
      by_cases h20 : 20 < n
      · have h20' : (20 : Int) < (n : Int) := by omega
        have d20 : decide ((20 : Int) < (n : Int)) = true := by simp; omega
        have d20' : decide (20 < n) = true := by simp [h20]
        have HFR := Lib.hid hfr
        clear hfr
        go_wp2_with fail
        go_ret
        exact ⟨greatIs true rfl (fun h => by cases h), HF.out.call HFR.out HF.out.size (by simp)⟩
      have h20' : ¬ (20 : Int) < (n : Int) := by omega
      have d20 : decide ((20 : Int) < (n : Int)) = false := by simp; omega
      have d20' : decide (20 < n) = false := by simp [h20]
      by_cases h200 : 200 < m
      · have h200' : (200 : Int) < (m : Int) := by omega
        have d200 : decide ((200 : Int) < (m : Int)) = true := by simp; omega
        have d200' : decide (200 < m) = true := by simp [h200]
        have HFR := Lib.hid hfr
        clear hfr
        go_wp2_with fail
        go_ret
        exact ⟨greatIs true rfl (fun h => by cases h), HF.out.call HFR.out HF.out.size (by simp)⟩
      have h200' : ¬ (200 : Int) < (m : Int) := by omega
      have d200 : decide ((200 : Int) < (m : Int)) = false := by simp; omega
      have d200' : decide (200 < m) = false := by simp [h200]
      have hb20 : n ≤ 20 ∧ m ≤ 200 := by omega
      have HFR := Lib.hid hfr
      have HB20 := Lib.hid hb20
      clear hb20 hfr
      go_wp2_with fail
      go_ret
      exact ⟨greatIs (decide (900 < z)) rfl (fun _ => HB20.out), HF.out.call HFR.out HF.out.size (by simp)⟩
    have hjl' : (j : Int) < (n : Int) := by omega
    have djl : decide ((j : Int) < (n : Int)) = true := by simp; omega
    have djl2 : decide (j < n) = true := by simp [hjl]
    by_cases hj20 : j < 20
    rotate_left
    · have hj20' : ¬ (j : Int) < 20 := by omega
      have dj20 : decide ((j : Int) < 20) = false := by simp; omega
      have dj20' : decide (j < 20) = false := by simp [hj20]
      clear k1
      have h20 : 20 < n := by omega
      have h20' : (20 : Int) < (n : Int) := by omega
      have d20 : decide ((20 : Int) < (n : Int)) = true := by simp; omega
      have d20' : decide (20 < n) = true := by simp [h20]
      have HFR := Lib.hid hfr
      clear hfr
      go_wp2_with fail
      go_ret
      exact ⟨greatIs true rfl (fun h => by cases h), HF.out.call HFR.out HF.out.size (by simp)⟩
    have hj20' : (j : Int) < 20 := by omega
    have dj20 : decide ((j : Int) < 20) = true := by simp; omega
    have dj20' : decide (j < 20) = true := by simp [hj20]
    have hms := meas_up hjl
    obtain ⟨w4, w5⟩ := wrapUp (n := 20) hj20 (by unfold maxLen; omega)
    have hjR : j < R.steps.length := by have := HN.out; omega
    have hst := HR.out.steps
    have had := hst.row.ad (by omega)
    obtain ⟨st, hsteq⟩ : ∃ r, r = R.steps.getD j rs0 := ⟨_, rfl⟩
    obtain ⟨x, hx⟩ : ∃ r, r = q.X j := ⟨_, rfl⟩
    obtain ⟨l1, hl1⟩ : ∃ l, l = st.need.length := ⟨_, rfl⟩
    obtain ⟨l2, hl2⟩ : ∃ l, l = st.add.length := ⟨_, rfl⟩
    obtain ⟨l3, hl3⟩ : ∃ l, l = st.ends.length := ⟨_, rfl⟩
    have hfx : ∀ V, Frm wr.heap.size [] wr V → V.cell? ⟨c, 1, none⟩ = some (.slice (some ⟨q.sb, q.so, none⟩) n q.sc) ∧ V.cell? ⟨q.sb, q.so + j * 3, none⟩ = some (.slice x.need.ad l1 x.need.cap) ∧ V.cell? ⟨q.sb, q.so + j * 3 + 1, none⟩ = some (.slice x.add.ad l2 x.add.cap) ∧ V.cell? ⟨q.sb, q.so + j * 3 + 2, none⟩ = some (.slice x.ends.ad l3 x.ends.cap) := fun V hV => by
      have h1 := (hst.frm (HF.out.call (hfr.call hV hfr.size (by simp)) HF.out.size (by simp)) (Nat.le_refl _)).row
      refine ⟨?_, ?_, ?_, ?_⟩
      · rw [← had]; exact (hV.blk k1 k1.lt (by simp)).cell 1
      · rw [hl1, hsteq, hx]; have := h1.at_ j hjR 0 _ rfl; rw [Nat.add_zero] at this; exact this
      · rw [hl2, hsteq, hx]; exact h1.at_ j hjR 1 _ rfl
      · rw [hl3, hsteq, hx]; exact h1.at_ j hjR 2 _ rfl
    rw [had] at c1
    clear k1 hst had hsteq hx hl1 hl2 hl3 hjR
    have HFR := Lib.hid hfr
    have HFX := Lib.hid hfx
    have HMS := Lib.hid hms
    clear hms hfx hfr
    go_upto_region 5 with fail
    clear c1 c2
    refine wp_region_leftL (fun V => Frm wr.heap.size [] wr V) 1000 (by kernel_rfl) ?_
    have hS : Frm wr.heap.size [] wr wr.drew := (Frm.refl _ _ wr).drew
    have HS := Lib.hid hS
    clear hS
    first | ((first | refine LeftL.tkF (v := ?_) 0 rfl HS.out ?_ ?_ | refine LeftL.tkG (v := ?_) 0 rfl HS.out ?_ ?_); rotate_left; (· intro V hV; obtain ⟨q0, q1, q2, q3⟩ := HFX.out V hV; clear hV; go_simp; rfl)) | refine LeftL.tkN 0 rfl HS.out ?_
    (intro K' hK'; go_simp; refine hK' _ ?_; clear hK' K')
    first | ((first | refine LeftL.tkF (v := ?_) 1 rfl HS.out ?_ ?_ | refine LeftL.tkG (v := ?_) 1 rfl HS.out ?_ ?_); rotate_left; (· intro V hV; obtain ⟨q0, q1, q2, q3⟩ := HFX.out V hV; clear hV; go_simp; rfl)) | refine LeftL.tkN 1 rfl HS.out ?_
    (intro K' hK'; go_simp; refine hK' _ ?_; clear hK' K')
    first | ((first | refine LeftL.tkF (v := ?_) 2 rfl HS.out ?_ ?_ | refine LeftL.tkG (v := ?_) 2 rfl HS.out ?_ ?_); rotate_left; (· intro V hV; obtain ⟨q0, q1, q2, q3⟩ := HFX.out V hV; clear hV; go_simp; rfl)) | refine LeftL.tkN 2 rfl HS.out ?_
    (intro K' hK'; go_simp; refine hK' _ ?_; clear hK' K')
    first | ((first | refine LeftL.tkF (v := ?_) 3 rfl HS.out ?_ ?_ | refine LeftL.tkG (v := ?_) 3 rfl HS.out ?_ ?_); rotate_left; (· intro V hV; obtain ⟨q0, q1, q2, q3⟩ := HFX.out V hV; clear hV; go_simp; rfl)) | refine LeftL.tkN 3 rfl HS.out ?_
    (intro K' hK'; go_simp; refine hK' _ ?_; clear hK' K')
    first | ((first | refine LeftL.tkF (v := ?_) 4 rfl HS.out ?_ ?_ | refine LeftL.tkG (v := ?_) 4 rfl HS.out ?_ ?_); rotate_left; (· intro V hV; obtain ⟨q0, q1, q2, q3⟩ := HFX.out V hV; clear hV; go_simp; rfl)) | refine LeftL.tkN 4 rfl HS.out ?_
    (intro K' hK'; go_simp; refine hK' _ ?_; clear hK' K')
    first | ((first | refine LeftL.tkF (v := ?_) 5 rfl HS.out ?_ ?_ | refine LeftL.tkG (v := ?_) 5 rfl HS.out ?_ ?_); rotate_left; (· intro V hV; obtain ⟨q0, q1, q2, q3⟩ := HFX.out V hV; clear hV; go_simp; rfl)) | refine LeftL.tkN 5 rfl HS.out ?_
    (intro K' hK'; go_simp; refine hK' _ ?_; clear hK' K')
    first | ((first | refine LeftL.tkF (v := ?_) 6 rfl HS.out ?_ ?_ | refine LeftL.tkG (v := ?_) 6 rfl HS.out ?_ ?_); rotate_left; (· intro V hV; obtain ⟨q0, q1, q2, q3⟩ := HFX.out V hV; clear hV; go_simp; rfl)) | refine LeftL.tkN 6 rfl HS.out ?_
    (intro K' hK'; go_simp; refine hK' _ ?_; clear hK' K')
    first | ((first | refine LeftL.tkF (v := ?_) 7 rfl HS.out ?_ ?_ | refine LeftL.tkG (v := ?_) 7 rfl HS.out ?_ ?_); rotate_left; (· intro V hV; obtain ⟨q0, q1, q2, q3⟩ := HFX.out V hV; clear hV; go_simp; rfl)) | refine LeftL.tkN 7 rfl HS.out ?_
    (intro K' hK'; go_simp; refine hK' _ ?_; clear hK' K')
    first | ((first | refine LeftL.tkF (v := ?_) 8 rfl HS.out ?_ ?_ | refine LeftL.tkG (v := ?_) 8 rfl HS.out ?_ ?_); rotate_left; (· intro V hV; obtain ⟨q0, q1, q2, q3⟩ := HFX.out V hV; clear hV; go_simp; rfl)) | refine LeftL.tkN 8 rfl HS.out ?_
    (intro K' hK'; go_simp; refine hK' _ ?_; clear hK' K')
    first | ((first | refine LeftL.tkF (v := ?_) 9 rfl HS.out ?_ ?_ | refine LeftL.tkG (v := ?_) 9 rfl HS.out ?_ ?_); rotate_left; (· intro V hV; obtain ⟨q0, q1, q2, q3⟩ := HFX.out V hV; clear hV; go_simp; rfl)) | refine LeftL.tkN 9 rfl HS.out ?_
    (intro K' hK'; go_simp; refine hK' _ ?_; clear hK' K')
    first | ((first | refine LeftL.tkF (v := ?_) 10 rfl HS.out ?_ ?_ | refine LeftL.tkG (v := ?_) 10 rfl HS.out ?_ ?_); rotate_left; (· intro V hV; obtain ⟨q0, q1, q2, q3⟩ := HFX.out V hV; clear hV; go_simp; rfl)) | refine LeftL.tkN 10 rfl HS.out ?_
    (intro K' hK'; go_simp; refine hK' _ ?_; clear hK' K')
    first | ((first | refine LeftL.tkF (v := ?_) 11 rfl HS.out ?_ ?_ | refine LeftL.tkG (v := ?_) 11 rfl HS.out ?_ ?_); rotate_left; (· intro V hV; obtain ⟨q0, q1, q2, q3⟩ := HFX.out V hV; clear hV; go_simp; rfl)) | refine LeftL.tkN 11 rfl HS.out ?_
    (intro K' hK'; go_simp; refine hK' _ ?_; clear hK' K')
    first | ((first | refine LeftL.tkF (v := ?_) 12 rfl HS.out ?_ ?_ | refine LeftL.tkG (v := ?_) 12 rfl HS.out ?_ ?_); rotate_left; (· intro V hV; obtain ⟨q0, q1, q2, q3⟩ := HFX.out V hV; clear hV; go_simp; rfl)) | refine LeftL.tkN 12 rfl HS.out ?_
    (intro K' hK'; go_simp; refine hK' _ ?_; clear hK' K')
    first | ((first | refine LeftL.tkF (v := ?_) 13 rfl HS.out ?_ ?_ | refine LeftL.tkG (v := ?_) 13 rfl HS.out ?_ ?_); rotate_left; (· intro V hV; obtain ⟨q0, q1, q2, q3⟩ := HFX.out V hV; clear hV; go_simp; rfl)) | refine LeftL.tkN 13 rfl HS.out ?_
    (intro K' hK'; go_simp; refine hK' _ ?_; clear hK' K')
    first | ((first | refine LeftL.tkF (v := ?_) 14 rfl HS.out ?_ ?_ | refine LeftL.tkG (v := ?_) 14 rfl HS.out ?_ ?_); rotate_left; (· intro V hV; obtain ⟨q0, q1, q2, q3⟩ := HFX.out V hV; clear hV; go_simp; rfl)) | refine LeftL.tkN 14 rfl HS.out ?_
    (intro K' hK'; go_simp; refine hK' _ ?_; clear hK' K')
    first | ((first | refine LeftL.tkF (v := ?_) 15 rfl HS.out ?_ ?_ | refine LeftL.tkG (v := ?_) 15 rfl HS.out ?_ ?_); rotate_left; (· intro V hV; obtain ⟨q0, q1, q2, q3⟩ := HFX.out V hV; clear hV; go_simp; rfl)) | refine LeftL.tkN 15 rfl HS.out ?_
    (intro K' hK'; go_simp; refine hK' _ ?_; clear hK' K')
    first | ((first | refine LeftL.tkF (v := ?_) 16 rfl HS.out ?_ ?_ | refine LeftL.tkG (v := ?_) 16 rfl HS.out ?_ ?_); rotate_left; (· intro V hV; obtain ⟨q0, q1, q2, q3⟩ := HFX.out V hV; clear hV; go_simp; rfl)) | refine LeftL.tkN 16 rfl HS.out ?_
    (intro K' hK'; go_simp; refine hK' _ ?_; clear hK' K')
    first | ((first | refine LeftL.tkF (v := ?_) 17 rfl HS.out ?_ ?_ | refine LeftL.tkG (v := ?_) 17 rfl HS.out ?_ ?_); rotate_left; (· intro V hV; obtain ⟨q0, q1, q2, q3⟩ := HFX.out V hV; clear hV; go_simp; rfl)) | refine LeftL.tkN 17 rfl HS.out ?_
    (intro K' hK'; go_simp; refine hK' _ ?_; clear hK' K')
    first | ((first | refine LeftL.tkF (v := ?_) 18 rfl HS.out ?_ ?_ | refine LeftL.tkG (v := ?_) 18 rfl HS.out ?_ ?_); rotate_left; (· intro V hV; obtain ⟨q0, q1, q2, q3⟩ := HFX.out V hV; clear hV; go_simp; rfl)) | refine LeftL.tkN 18 rfl HS.out ?_
    (intro K' hK'; go_simp; refine hK' _ ?_; clear hK' K')
    first | ((first | refine LeftL.tkF (v := ?_) 19 rfl HS.out ?_ ?_ | refine LeftL.tkG (v := ?_) 19 rfl HS.out ?_ ?_); rotate_left; (· intro V hV; obtain ⟨q0, q1, q2, q3⟩ := HFX.out V hV; clear hV; go_simp; rfl)) | refine LeftL.tkN 19 rfl HS.out ?_
    (intro K' hK'; go_simp; refine hK' _ ?_; clear hK' K')
    first | ((first | refine LeftL.tkF (v := ?_) 20 rfl HS.out ?_ ?_ | refine LeftL.tkG (v := ?_) 20 rfl HS.out ?_ ?_); rotate_left; (· intro V hV; obtain ⟨q0, q1, q2, q3⟩ := HFX.out V hV; clear hV; go_simp; rfl)) | refine LeftL.tkN 20 rfl HS.out ?_
    (intro K' hK'; go_simp; refine hK' _ ?_; clear hK' K')
    first | ((first | refine LeftL.tkF (v := ?_) 21 rfl HS.out ?_ ?_ | refine LeftL.tkG (v := ?_) 21 rfl HS.out ?_ ?_); rotate_left; (· intro V hV; obtain ⟨q0, q1, q2, q3⟩ := HFX.out V hV; clear hV; go_simp; rfl)) | refine LeftL.tkN 21 rfl HS.out ?_
    (intro K' hK'; go_simp; refine hK' _ ?_; clear hK' K')
    first | ((first | refine LeftL.tkF (v := ?_) 22 rfl HS.out ?_ ?_ | refine LeftL.tkG (v := ?_) 22 rfl HS.out ?_ ?_); rotate_left; (· intro V hV; obtain ⟨q0, q1, q2, q3⟩ := HFX.out V hV; clear hV; go_simp; rfl)) | refine LeftL.tkN 22 rfl HS.out ?_
    (intro K' hK'; go_simp; refine hK' _ ?_; clear hK' K')
    first | ((first | refine LeftL.tkF (v := ?_) 23 rfl HS.out ?_ ?_ | refine LeftL.tkG (v := ?_) 23 rfl HS.out ?_ ?_); rotate_left; (· intro V hV; obtain ⟨q0, q1, q2, q3⟩ := HFX.out V hV; clear hV; go_simp; rfl)) | refine LeftL.tkN 23 rfl HS.out ?_
    (intro K' hK'; go_simp; refine hK' _ ?_; clear hK' K')
    first | ((first | refine LeftL.tkF (v := ?_) 24 rfl HS.out ?_ ?_ | refine LeftL.tkG (v := ?_) 24 rfl HS.out ?_ ?_); rotate_left; (· intro V hV; obtain ⟨q0, q1, q2, q3⟩ := HFX.out V hV; clear hV; go_simp; rfl)) | refine LeftL.tkN 24 rfl HS.out ?_
    (intro K' hK'; go_simp; refine hK' _ ?_; clear hK' K')
    refine LeftL.one 25 rfl (by kernel_rfl) ?_
    go_wp2_with fail
    first | refine ⟨fun _ => HS.out, ?_⟩ | refine ⟨HS.out, ?_⟩
    refine LeftL.done (by kernel_rfl) ?_
    have hfr := HFR.out.call HS.out HFR.out.size (by simp)
    clear HFR HFX HS
    have HFR := Lib.hid hfr
    clear hfr
    go_wp2_with fail
    (try simp only [w4, w5])
    first | exact ⟨⟨j + 1, _, by simp, hjl, rfl, HFR.out⟩, HMS.out⟩ | (refine ⟨?_, HMS.out⟩; (repeat apply Exists.intro); refine ⟨?_, rfl⟩; exact ⟨j + 1, _, by simp, hjl, rfl, HFR.out⟩)
end Go.Proofs.YtfmigicmfolbjaaDoor
