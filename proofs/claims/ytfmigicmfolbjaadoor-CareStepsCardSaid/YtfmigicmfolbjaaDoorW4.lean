/-
  Which set comes before; tanks parted in two.
-/
import Derived.Test.YtfmigicmfolbjaaDoorW3
import Derived.Test.YtfmigicmfolbjaaDoorB20
import Derived.Test.YtfmigicmfolbjaaDoorLawDrains
namespace Go.Proofs.YtfmigicmfolbjaaDoor
set_option linter.all false
set_option linter.unusedSimpArgs false
set_option linter.unusedVariables false
open Go.RowKit

set_option maxRecDepth 100000 in
set_option maxHeartbeats 8000000 in
theorem before_any (ad ad2 : Option Addr) (b off cap b2 off2 cap2 la lb : Nat) (A B : List Nat) (hla : la = A.length) (hlb : lb = B.length) (w : World) (hr : RwI w ad b off la (at0 A)) (hr2 : RwI w ad2 b2 off2 lb (at0 B)) :
    Calls Tryd.prog 60 #[.slice ad la cap, .slice ad2 lb cap2] w fun e w' => e = .returned (.bool (beforeL A B)) ∧ Frm w.heap.size [] w w' := by
  have hf0 := Tryd.func60
  have hlen := hr.len
  obtain ⟨res, hres⟩ : ∃ r, r = beforeL A B := ⟨_, rfl⟩
  rw [← hres]
  by_cases hne : la = lb
  rotate_left
  · have hne' : ¬ (la : Int) = (lb : Int) := by omega
    have hnb : ((la : Int) != (lb : Int)) = true := by simp; omega
    have hnb2 : (la != lb) = true := by simp [hne]
    have hd : res = decide ((la : Int) < (lb : Int)) := by
      rw [hres]; unfold beforeL; rw [← hla, ← hlb, if_neg hne]
      by_cases h : la < lb
      · rw [decide_eq_true h, decide_eq_true (by omega)]
      · rw [decide_eq_false h, decide_eq_false (by omega)]
    by_cases h : la < lb
    · have h1 : (la : Int) < (lb : Int) := by omega
      rw [decide_eq_true h1] at hd
      clear hres
      subst hd
      clear hne hla hlb
      have HR := Lib.hid hr
      have HR2 := Lib.hid hr2
      clear hr2 hr
      go_enter Tryd.func60, Tryd.ntmps60
      go_wp2_with fail
      go_ret
      exact ⟨rfl, Frm.refl _ _ _⟩
    · have h1 : ¬ (la : Int) < (lb : Int) := by omega
      rw [decide_eq_false h1] at hd
      clear hres
      subst hd
      clear hne hla hlb
      have HR := Lib.hid hr
      have HR2 := Lib.hid hr2
      clear hr2 hr
      go_enter Tryd.func60, Tryd.ntmps60
      go_wp2_with fail
      go_ret
      exact ⟨rfl, Frm.refl _ _ _⟩
  subst hne
  have hlx : res = lexLt A B := by rw [hres]; unfold beforeL; rw [← hla, ← hlb, if_pos rfl]
  have hlens : A.length = B.length := by omega
  clear hres
  have HR := Lib.hid hr
  have HR2 := Lib.hid hr2
  have HLA := Lib.hid hla
  have HLB := Lib.hid hlb
  have HLX := Lib.hid hlx
  have HLENS := Lib.hid hlens
  clear hlens hlx hlb hla hr2 hr
  go_enter Tryd.func60, Tryd.ntmps60
  go_wp2_with fail
  go_loopw [5] (fun s5 wr => ∃ j : Nat, s5 = .int .i64 j ∧ j ≤ la ∧ (∀ k, k < j → A.getD k 0 = B.getD k 0) ∧ Frm w.heap.size [] w wr) (fun s5 _ => la - (intOf s5).toNat)
  case atStart => exact ⟨0, rfl, Nat.zero_le _, fun k hk => absurd hk (by omega), Frm.refl _ _ _⟩
  case round =>
    obtain ⟨j, rfl, hj, hno, hfr⟩ := hrel
    by_cases hjl : j < la
    rotate_left
    · have hjl' : ¬ (j : Int) < (la : Int) := by omega
      obtain rfl : j = la := by omega
      have hd : res = false := by rw [HLX.out]; exact lex_eq HLENS.out (fun k hk => hno k (by rw [HLA.out]; exact hk))
      subst hd
      clear hno
      have HFR := Lib.hid hfr
      clear hfr
      go_wp2_with fail
      go_ret
      exact ⟨rfl, HFR.out⟩
    have hjl' : (j : Int) < (la : Int) := by omega
    obtain ⟨w4, w5⟩ := wrapUp hjl hlen
    have hms := meas_up hjl
    have had := HR.out.ad (by omega)
    have had2 := HR2.out.ad (by omega)
    subst had
    subst had2
    obtain ⟨x, hx⟩ : ∃ x, x = A.getD j 0 := ⟨_, rfl⟩
    obtain ⟨y, hy⟩ : ∃ x, x = B.getD j 0 := ⟨_, rfl⟩
    have hfx : ∀ V, Frm wr.heap.size [] wr V → V.cell? ⟨b, off + j, none⟩ = some (.int .i64 (x : Int)) ∧ V.cell? ⟨b2, off2 + j, none⟩ = some (.int .i64 (y : Int)) := fun V hV =>
      ⟨by rw [hx]; exact (HR.out.frm (hfr.call hV hfr.size (by simp)) (Nat.le_refl _)).cellI hjl, by rw [hy]; exact (HR2.out.frm (hfr.call hV hfr.size (by simp)) (Nat.le_refl _)).cellI hjl⟩
    have HFX := Lib.hid hfx
    have HNO := Lib.hid hno
    have HX := Lib.hid hx
    have HY := Lib.hid hy
    have HMS := Lib.hid hms
    have HJL := Lib.hid hjl
    have HFR := Lib.hid hfr
    clear hfr hjl hms hy hx hno hfx
    have hjl := HJL.out
    go_upto_region 6 with fail
    by_cases hxy : x = y
    · have h1 : ((x : Int) != (y : Int)) = false := by simp [hxy]
      have h2 : (x : Int) = (y : Int) := by rw [hxy]
      have h3 : (x != y) = false := by simp [hxy]
      have hno2 : ∀ k, k < j + 1 → A.getD k 0 = B.getD k 0 := fun k hk => by
        rcases Nat.lt_or_ge k j with h | h
        · exact HNO.out k h
        · obtain rfl : k = j := by omega
          rw [← HX.out, ← HY.out]; exact hxy
      have HNO2 := Lib.hid hno2
      clear hno2
      refine wp_region_leftL (fun V => Frm wr.heap.size [] wr V) 1000 (by kernel_rfl) ?_
      have hS : Frm wr.heap.size [] wr wr.drew := (Frm.refl _ _ wr).drew
      have HS := Lib.hid hS
      clear hS
      first | ((first | refine LeftL.tkF (v := ?_) 0 rfl HS.out ?_ ?_ | refine LeftL.tkG (v := ?_) 0 rfl HS.out ?_ ?_); rotate_left; (· intro V hV; obtain ⟨q0, q1⟩ := HFX.out V hV; clear hV; go_simp; rfl)) | refine LeftL.tkN 0 rfl HS.out ?_
      (intro K' hK'; go_simp; refine hK' _ ?_; clear hK' K')
      first | ((first | refine LeftL.tkF (v := ?_) 1 rfl HS.out ?_ ?_ | refine LeftL.tkG (v := ?_) 1 rfl HS.out ?_ ?_); rotate_left; (· intro V hV; obtain ⟨q0, q1⟩ := HFX.out V hV; clear hV; go_simp; rfl)) | refine LeftL.tkN 1 rfl HS.out ?_
      (intro K' hK'; go_simp; refine hK' _ ?_; clear hK' K')
      first | ((first | refine LeftL.tkF (v := ?_) 2 rfl HS.out ?_ ?_ | refine LeftL.tkG (v := ?_) 2 rfl HS.out ?_ ?_); rotate_left; (· intro V hV; obtain ⟨q0, q1⟩ := HFX.out V hV; clear hV; go_simp; rfl)) | refine LeftL.tkN 2 rfl HS.out ?_
      (intro K' hK'; go_simp; refine hK' _ ?_; clear hK' K')
      first | ((first | refine LeftL.tkF (v := ?_) 3 rfl HS.out ?_ ?_ | refine LeftL.tkG (v := ?_) 3 rfl HS.out ?_ ?_); rotate_left; (· intro V hV; obtain ⟨q0, q1⟩ := HFX.out V hV; clear hV; go_simp; rfl)) | refine LeftL.tkN 3 rfl HS.out ?_
      (intro K' hK'; go_simp; refine hK' _ ?_; clear hK' K')
      first | ((first | refine LeftL.tkF (v := ?_) 4 rfl HS.out ?_ ?_ | refine LeftL.tkG (v := ?_) 4 rfl HS.out ?_ ?_); rotate_left; (· intro V hV; obtain ⟨q0, q1⟩ := HFX.out V hV; clear hV; go_simp; rfl)) | refine LeftL.tkN 4 rfl HS.out ?_
      (intro K' hK'; go_simp; refine hK' _ ?_; clear hK' K')
      first | ((first | refine LeftL.tkF (v := ?_) 5 rfl HS.out ?_ ?_ | refine LeftL.tkG (v := ?_) 5 rfl HS.out ?_ ?_); rotate_left; (· intro V hV; obtain ⟨q0, q1⟩ := HFX.out V hV; clear hV; go_simp; rfl)) | refine LeftL.tkN 5 rfl HS.out ?_
      (intro K' hK'; go_simp; refine hK' _ ?_; clear hK' K')
      first | ((first | refine LeftL.tkF (v := ?_) 6 rfl HS.out ?_ ?_ | refine LeftL.tkG (v := ?_) 6 rfl HS.out ?_ ?_); rotate_left; (· intro V hV; obtain ⟨q0, q1⟩ := HFX.out V hV; clear hV; go_simp; rfl)) | refine LeftL.tkN 6 rfl HS.out ?_
      (intro K' hK'; go_simp; refine hK' _ ?_; clear hK' K')
      first | ((first | refine LeftL.tkF (v := ?_) 7 rfl HS.out ?_ ?_ | refine LeftL.tkG (v := ?_) 7 rfl HS.out ?_ ?_); rotate_left; (· intro V hV; obtain ⟨q0, q1⟩ := HFX.out V hV; clear hV; go_simp; rfl)) | refine LeftL.tkN 7 rfl HS.out ?_
      (intro K' hK'; go_simp; refine hK' _ ?_; clear hK' K')
      first | ((first | refine LeftL.tkF (v := ?_) 8 rfl HS.out ?_ ?_ | refine LeftL.tkG (v := ?_) 8 rfl HS.out ?_ ?_); rotate_left; (· intro V hV; obtain ⟨q0, q1⟩ := HFX.out V hV; clear hV; go_simp; rfl)) | refine LeftL.tkN 8 rfl HS.out ?_
      (intro K' hK'; go_simp; refine hK' _ ?_; clear hK' K')
      refine LeftL.done (by kernel_rfl) ?_
      have hfr := HFR.out.call HS.out HFR.out.size (by simp)
      clear HS HFX HFR
      have HFR := Lib.hid hfr
      clear hfr
      go_wp2_with fail
      (try simp only [w4, w5])
      exact ⟨⟨j + 1, by simp, HJL.out, HNO2.out, HFR.out⟩, HMS.out⟩
    · have h1 : ((x : Int) != (y : Int)) = true := by simp; omega
      have h2 : ¬ (x : Int) = (y : Int) := by omega
      have h3 : (x != y) = true := by simp [hxy]
      have hd : res = decide ((x : Int) < (y : Int)) := by
        rw [HLX.out, lex_at HLENS.out (by rw [← HLA.out]; exact hjl) HNO.out (by rw [← HX.out, ← HY.out]; exact hxy), ← HX.out, ← HY.out]
        by_cases h : x < y
        · rw [decide_eq_true h, decide_eq_true (by omega)]
        · rw [decide_eq_false h, decide_eq_false (by omega)]
      clear hxy
      have HD := Lib.hid hd
      clear hd
      refine wp_region_leftL (fun V => Frm wr.heap.size [] wr V) 1000 (by kernel_rfl) ?_
      have hS : Frm wr.heap.size [] wr wr.drew := (Frm.refl _ _ wr).drew
      have HS := Lib.hid hS
      clear hS
      first | ((first | refine LeftL.tkF (v := ?_) 0 rfl HS.out ?_ ?_ | refine LeftL.tkG (v := ?_) 0 rfl HS.out ?_ ?_); rotate_left; (· intro V hV; obtain ⟨q0, q1⟩ := HFX.out V hV; clear hV; go_simp; rfl)) | refine LeftL.tkN 0 rfl HS.out ?_
      (intro K' hK'; go_simp; refine hK' _ ?_; clear hK' K')
      first | ((first | refine LeftL.tkF (v := ?_) 1 rfl HS.out ?_ ?_ | refine LeftL.tkG (v := ?_) 1 rfl HS.out ?_ ?_); rotate_left; (· intro V hV; obtain ⟨q0, q1⟩ := HFX.out V hV; clear hV; go_simp; rfl)) | refine LeftL.tkN 1 rfl HS.out ?_
      (intro K' hK'; go_simp; refine hK' _ ?_; clear hK' K')
      first | ((first | refine LeftL.tkF (v := ?_) 2 rfl HS.out ?_ ?_ | refine LeftL.tkG (v := ?_) 2 rfl HS.out ?_ ?_); rotate_left; (· intro V hV; obtain ⟨q0, q1⟩ := HFX.out V hV; clear hV; go_simp; rfl)) | refine LeftL.tkN 2 rfl HS.out ?_
      (intro K' hK'; go_simp; refine hK' _ ?_; clear hK' K')
      first | ((first | refine LeftL.tkF (v := ?_) 3 rfl HS.out ?_ ?_ | refine LeftL.tkG (v := ?_) 3 rfl HS.out ?_ ?_); rotate_left; (· intro V hV; obtain ⟨q0, q1⟩ := HFX.out V hV; clear hV; go_simp; rfl)) | refine LeftL.tkN 3 rfl HS.out ?_
      (intro K' hK'; go_simp; refine hK' _ ?_; clear hK' K')
      first | ((first | refine LeftL.tkF (v := ?_) 4 rfl HS.out ?_ ?_ | refine LeftL.tkG (v := ?_) 4 rfl HS.out ?_ ?_); rotate_left; (· intro V hV; obtain ⟨q0, q1⟩ := HFX.out V hV; clear hV; go_simp; rfl)) | refine LeftL.tkN 4 rfl HS.out ?_
      (intro K' hK'; go_simp; refine hK' _ ?_; clear hK' K')
      first | ((first | refine LeftL.tkF (v := ?_) 5 rfl HS.out ?_ ?_ | refine LeftL.tkG (v := ?_) 5 rfl HS.out ?_ ?_); rotate_left; (· intro V hV; obtain ⟨q0, q1⟩ := HFX.out V hV; clear hV; go_simp; rfl)) | refine LeftL.tkN 5 rfl HS.out ?_
      (intro K' hK'; go_simp; refine hK' _ ?_; clear hK' K')
      first | ((first | refine LeftL.tkF (v := ?_) 6 rfl HS.out ?_ ?_ | refine LeftL.tkG (v := ?_) 6 rfl HS.out ?_ ?_); rotate_left; (· intro V hV; obtain ⟨q0, q1⟩ := HFX.out V hV; clear hV; go_simp; rfl)) | refine LeftL.tkN 6 rfl HS.out ?_
      (intro K' hK'; go_simp; refine hK' _ ?_; clear hK' K')
      first | ((first | refine LeftL.tkF (v := ?_) 7 rfl HS.out ?_ ?_ | refine LeftL.tkG (v := ?_) 7 rfl HS.out ?_ ?_); rotate_left; (· intro V hV; obtain ⟨q0, q1⟩ := HFX.out V hV; clear hV; go_simp; rfl)) | refine LeftL.tkN 7 rfl HS.out ?_
      (intro K' hK'; go_simp; refine hK' _ ?_; clear hK' K')
      first | ((first | refine LeftL.tkF (v := ?_) 8 rfl HS.out ?_ ?_ | refine LeftL.tkG (v := ?_) 8 rfl HS.out ?_ ?_); rotate_left; (· intro V hV; obtain ⟨q0, q1⟩ := HFX.out V hV; clear hV; go_simp; rfl)) | refine LeftL.tkN 8 rfl HS.out ?_
      (intro K' hK'; go_simp; refine hK' _ ?_; clear hK' K')
      refine LeftL.done (by kernel_rfl) ?_
      have hfr := HFR.out.call HS.out HFR.out.size (by simp)
      have hfx := fun V (hV : Frm _ [] _ V) => HFX.out V (HS.out.call hV HS.out.size (by simp))
      clear HS HFX HFR
      have HFR := Lib.hid hfr
      have HFX := Lib.hid hfx
      clear hfx hfr
      go_upto_region 7 with fail
      refine namedC ?_; intro V1 hV1
      have hfr := HFR.out
      have hfx := HFX.out
      rw [← hV1] at hfr hfx
      clear hV1 HFR HFX
      have HFR := Lib.hid hfr
      have HFX := Lib.hid hfx
      clear hfx hfr
      by_cases hlt : x < y
      · have hlt' : (x : Int) < (y : Int) := by omega
        have hd := HD.out
        rw [decide_eq_true hlt'] at hd
        subst hd
        clear HD HLX
        refine wp_region_leftL (fun V => Frm V1.heap.size [] V1 V) 1000 (by kernel_rfl) ?_
        have hS : Frm V1.heap.size [] V1 V1.drew := (Frm.refl _ _ V1).drew
        have HS := Lib.hid hS
        clear hS
        first | ((first | refine LeftL.tkF (v := ?_) 0 rfl HS.out ?_ ?_ | refine LeftL.tkG (v := ?_) 0 rfl HS.out ?_ ?_); rotate_left; (· intro V hV; obtain ⟨q0, q1⟩ := HFX.out V hV; clear hV; go_simp; rfl)) | refine LeftL.tkN 0 rfl HS.out ?_
        (intro K' hK'; go_simp; refine hK' _ ?_; clear hK' K')
        first | ((first | refine LeftL.tkF (v := ?_) 1 rfl HS.out ?_ ?_ | refine LeftL.tkG (v := ?_) 1 rfl HS.out ?_ ?_); rotate_left; (· intro V hV; obtain ⟨q0, q1⟩ := HFX.out V hV; clear hV; go_simp; rfl)) | refine LeftL.tkN 1 rfl HS.out ?_
        (intro K' hK'; go_simp; refine hK' _ ?_; clear hK' K')
        first | ((first | refine LeftL.tkF (v := ?_) 2 rfl HS.out ?_ ?_ | refine LeftL.tkG (v := ?_) 2 rfl HS.out ?_ ?_); rotate_left; (· intro V hV; obtain ⟨q0, q1⟩ := HFX.out V hV; clear hV; go_simp; rfl)) | refine LeftL.tkN 2 rfl HS.out ?_
        (intro K' hK'; go_simp; refine hK' _ ?_; clear hK' K')
        first | ((first | refine LeftL.tkF (v := ?_) 3 rfl HS.out ?_ ?_ | refine LeftL.tkG (v := ?_) 3 rfl HS.out ?_ ?_); rotate_left; (· intro V hV; obtain ⟨q0, q1⟩ := HFX.out V hV; clear hV; go_simp; rfl)) | refine LeftL.tkN 3 rfl HS.out ?_
        (intro K' hK'; go_simp; refine hK' _ ?_; clear hK' K')
        first | ((first | refine LeftL.tkF (v := ?_) 4 rfl HS.out ?_ ?_ | refine LeftL.tkG (v := ?_) 4 rfl HS.out ?_ ?_); rotate_left; (· intro V hV; obtain ⟨q0, q1⟩ := HFX.out V hV; clear hV; go_simp; rfl)) | refine LeftL.tkN 4 rfl HS.out ?_
        (intro K' hK'; go_simp; refine hK' _ ?_; clear hK' K')
        first | ((first | refine LeftL.tkF (v := ?_) 5 rfl HS.out ?_ ?_ | refine LeftL.tkG (v := ?_) 5 rfl HS.out ?_ ?_); rotate_left; (· intro V hV; obtain ⟨q0, q1⟩ := HFX.out V hV; clear hV; go_simp; rfl)) | refine LeftL.tkN 5 rfl HS.out ?_
        (intro K' hK'; go_simp; refine hK' _ ?_; clear hK' K')
        first | ((first | refine LeftL.tkF (v := ?_) 6 rfl HS.out ?_ ?_ | refine LeftL.tkG (v := ?_) 6 rfl HS.out ?_ ?_); rotate_left; (· intro V hV; obtain ⟨q0, q1⟩ := HFX.out V hV; clear hV; go_simp; rfl)) | refine LeftL.tkN 6 rfl HS.out ?_
        (intro K' hK'; go_simp; refine hK' _ ?_; clear hK' K')
        first | ((first | refine LeftL.tkF (v := ?_) 7 rfl HS.out ?_ ?_ | refine LeftL.tkG (v := ?_) 7 rfl HS.out ?_ ?_); rotate_left; (· intro V hV; obtain ⟨q0, q1⟩ := HFX.out V hV; clear hV; go_simp; rfl)) | refine LeftL.tkN 7 rfl HS.out ?_
        (intro K' hK'; go_simp; refine hK' _ ?_; clear hK' K')
        first | ((first | refine LeftL.tkF (v := ?_) 8 rfl HS.out ?_ ?_ | refine LeftL.tkG (v := ?_) 8 rfl HS.out ?_ ?_); rotate_left; (· intro V hV; obtain ⟨q0, q1⟩ := HFX.out V hV; clear hV; go_simp; rfl)) | refine LeftL.tkN 8 rfl HS.out ?_
        (intro K' hK'; go_simp; refine hK' _ ?_; clear hK' K')
        refine LeftL.one 9 rfl (by kernel_rfl) ?_
        go_wp2_with fail
        first | refine ⟨fun _ => HS.out, ?_⟩ | refine ⟨HS.out, ?_⟩
        refine LeftL.done (by kernel_rfl) ?_
        have hfr := HFR.out.call HS.out HFR.out.size (by simp)
        clear HS HFX HFR
        have HFR := Lib.hid hfr
        clear hfr
        go_wp2_with fail
        go_ret
        exact ⟨rfl, HFR.out⟩
      · have hlt' : ¬ (x : Int) < (y : Int) := by omega
        have hd := HD.out
        rw [decide_eq_false hlt'] at hd
        subst hd
        clear HD HLX
        refine wp_region_leftL (fun V => Frm V1.heap.size [] V1 V) 1000 (by kernel_rfl) ?_
        have hS : Frm V1.heap.size [] V1 V1.drew := (Frm.refl _ _ V1).drew
        have HS := Lib.hid hS
        clear hS
        first | ((first | refine LeftL.tkF (v := ?_) 0 rfl HS.out ?_ ?_ | refine LeftL.tkG (v := ?_) 0 rfl HS.out ?_ ?_); rotate_left; (· intro V hV; obtain ⟨q0, q1⟩ := HFX.out V hV; clear hV; go_simp; rfl)) | refine LeftL.tkN 0 rfl HS.out ?_
        (intro K' hK'; go_simp; refine hK' _ ?_; clear hK' K')
        first | ((first | refine LeftL.tkF (v := ?_) 1 rfl HS.out ?_ ?_ | refine LeftL.tkG (v := ?_) 1 rfl HS.out ?_ ?_); rotate_left; (· intro V hV; obtain ⟨q0, q1⟩ := HFX.out V hV; clear hV; go_simp; rfl)) | refine LeftL.tkN 1 rfl HS.out ?_
        (intro K' hK'; go_simp; refine hK' _ ?_; clear hK' K')
        first | ((first | refine LeftL.tkF (v := ?_) 2 rfl HS.out ?_ ?_ | refine LeftL.tkG (v := ?_) 2 rfl HS.out ?_ ?_); rotate_left; (· intro V hV; obtain ⟨q0, q1⟩ := HFX.out V hV; clear hV; go_simp; rfl)) | refine LeftL.tkN 2 rfl HS.out ?_
        (intro K' hK'; go_simp; refine hK' _ ?_; clear hK' K')
        first | ((first | refine LeftL.tkF (v := ?_) 3 rfl HS.out ?_ ?_ | refine LeftL.tkG (v := ?_) 3 rfl HS.out ?_ ?_); rotate_left; (· intro V hV; obtain ⟨q0, q1⟩ := HFX.out V hV; clear hV; go_simp; rfl)) | refine LeftL.tkN 3 rfl HS.out ?_
        (intro K' hK'; go_simp; refine hK' _ ?_; clear hK' K')
        first | ((first | refine LeftL.tkF (v := ?_) 4 rfl HS.out ?_ ?_ | refine LeftL.tkG (v := ?_) 4 rfl HS.out ?_ ?_); rotate_left; (· intro V hV; obtain ⟨q0, q1⟩ := HFX.out V hV; clear hV; go_simp; rfl)) | refine LeftL.tkN 4 rfl HS.out ?_
        (intro K' hK'; go_simp; refine hK' _ ?_; clear hK' K')
        first | ((first | refine LeftL.tkF (v := ?_) 5 rfl HS.out ?_ ?_ | refine LeftL.tkG (v := ?_) 5 rfl HS.out ?_ ?_); rotate_left; (· intro V hV; obtain ⟨q0, q1⟩ := HFX.out V hV; clear hV; go_simp; rfl)) | refine LeftL.tkN 5 rfl HS.out ?_
        (intro K' hK'; go_simp; refine hK' _ ?_; clear hK' K')
        first | ((first | refine LeftL.tkF (v := ?_) 6 rfl HS.out ?_ ?_ | refine LeftL.tkG (v := ?_) 6 rfl HS.out ?_ ?_); rotate_left; (· intro V hV; obtain ⟨q0, q1⟩ := HFX.out V hV; clear hV; go_simp; rfl)) | refine LeftL.tkN 6 rfl HS.out ?_
        (intro K' hK'; go_simp; refine hK' _ ?_; clear hK' K')
        first | ((first | refine LeftL.tkF (v := ?_) 7 rfl HS.out ?_ ?_ | refine LeftL.tkG (v := ?_) 7 rfl HS.out ?_ ?_); rotate_left; (· intro V hV; obtain ⟨q0, q1⟩ := HFX.out V hV; clear hV; go_simp; rfl)) | refine LeftL.tkN 7 rfl HS.out ?_
        (intro K' hK'; go_simp; refine hK' _ ?_; clear hK' K')
        first | ((first | refine LeftL.tkF (v := ?_) 8 rfl HS.out ?_ ?_ | refine LeftL.tkG (v := ?_) 8 rfl HS.out ?_ ?_); rotate_left; (· intro V hV; obtain ⟨q0, q1⟩ := HFX.out V hV; clear hV; go_simp; rfl)) | refine LeftL.tkN 8 rfl HS.out ?_
        (intro K' hK'; go_simp; refine hK' _ ?_; clear hK' K')
        refine LeftL.one 9 rfl (by kernel_rfl) ?_
        go_wp2_with fail
        first | refine ⟨fun _ => HS.out, ?_⟩ | refine ⟨HS.out, ?_⟩
        refine LeftL.done (by kernel_rfl) ?_
        have hfr := HFR.out.call HS.out HFR.out.size (by simp)
        clear HS HFX HFR
        have HFR := Lib.hid hfr
        clear hfr
        go_wp2_with fail
        go_ret
        exact ⟨rfl, HFR.out⟩
theorem bitsOf_succ (i e : Nat) : bitsOf (i + 1) e = bitsOf i e ++ (if e.testBit i = true then [i] else []) := by
  unfold bitsOf
  rw [List.range_succ, List.filter_append]
  cases h : e.testBit i <;> simp [h]
/-- A set of tanks, and the others. -/
def SplitIs (L : Nat → Ta) (n e : Nat) (w w' : World) (x : Ending) : Prop := ∃ v1 v2 o1 o2, x = .returned (.tuple #[v1, v2]) ∧ Sl w' 3 1 v1 (bitsOf n e).length (intsC (bitsOf n e)) o1 ∧ Sl w' 49 4 v2 (butL L e n).length (rowsT (butL L e n)) o2 ∧ ∀ b, o1 = some b → w.heap.size ≤ b
theorem splitIs {L : Nat → Ta} {n e : Nat} {w w' : World} {v1 v2 : Value} (o1 o2 : Option Nat) (h1 : Sl w' 3 1 v1 (bitsOf n e).length (intsC (bitsOf n e)) o1) (h2 : Sl w' 49 4 v2 (butL L e n).length (rowsT (butL L e n)) o2) (h3 : ∀ b, o1 = some b → w.heap.size ≤ b) : SplitIs L n e w w' (.returned (.tuple #[v1, v2])) := ⟨v1, v2, o1, o2, rfl, h1, h2, h3⟩
set_option maxRecDepth 100000 in
set_option maxHeartbeats 8000000 in
theorem split_any (ad : Option Addr) (b off n cap : Nat) (L : Nat → Ta) (e : Nat) (he : e < 4611686018427387904) (hn : n ≤ 60) (w : World) (hr : Rw w 4 ad b off n fun i => (L i).cells) :
    Calls Tryd.prog 58 #[.slice ad n cap, .int .i64 (e : Int)] w fun x w' => SplitIs L n e w w' x ∧ Frm w.heap.size [] w w' := by
  have hf0 := Tryd.func58
  obtain ⟨i0, hi0⟩ : ∃ i0, Tryd.prog.info? 3 = some i0 := ⟨_, rfl⟩
  have hzz : i0.zero = some (.int .i64 0) ∧ i0.size = 1 ∧ i0.bytes = 8 := by cases hi0; exact ⟨rfl, rfl, rfl⟩
  obtain ⟨hz0, hz1, hz2⟩ := hzz
  obtain ⟨j0, hj0⟩ : ∃ i0, Tryd.prog.info? 49 = some i0 := ⟨_, rfl⟩
  have hyy : j0.zero = some (.agg #[.int .i64 0, .int .i64 0, .int .i64 0, .int .i64 0]) ∧ j0.size = 4 ∧ j0.bytes = 32 := by cases hj0; exact ⟨rfl, rfl, rfl⟩
  obtain ⟨hy0, hy1, hy2⟩ := hyy
  have hlen := hr.len
  have HR := Lib.hid hr
  have HI0 := Lib.hid hi0
  have HZ0 := Lib.hid hz0
  have HZ1 := Lib.hid hz1
  have HZ2 := Lib.hid hz2
  have HJ0 := Lib.hid hj0
  have HY0 := Lib.hid hy0
  have HY1 := Lib.hid hy1
  have HY2 := Lib.hid hy2
  have HN := Lib.hid hn
  have HE := Lib.hid he
  clear he hn hy2 hy1 hy0 hj0 hz2 hz1 hz0 hi0 hr
  go_enter Tryd.func58, Tryd.ntmps58
  go_wp2_with fail
  go_loopw [1, 6, 7, 8] (fun s1 s6 s7 s8 wr => ∃ i : Nat, s8 = .int .i64 i ∧ i ≤ n ∧ s1 = .int .i64 ((e / 2 ^ i : Nat) : Int) ∧ (∃ o1 o2, Sl wr 3 1 s6 (bitsOf i e).length (intsC (bitsOf i e)) o1 ∧ Sl wr 49 4 s7 (butL L e i).length (rowsT (butL L e i)) o2 ∧ (∀ b, o1 = some b → w.heap.size ≤ b) ∧ (∀ b, o2 = some b → w.heap.size ≤ b) ∧ ∀ b, o1 = some b → o2 ≠ some b) ∧ Frm w.heap.size [] w wr) (fun _ _ _ s8 _ => n - (intOf s8).toNat)
  case atStart => exact ⟨0, rfl, Nat.zero_le _, by simp, ⟨none, none, Sl.nil _ _ _, Sl.nil _ _ _, fun b hb => (by cases hb), fun b hb => (by cases hb), fun b hb => (by cases hb)⟩, Frm.refl _ _ _⟩
  case round =>
    obtain ⟨i, rfl, hi, rfl, ⟨q1, q2, hs1, hs2, hw1, hw2, hne⟩, hfr⟩ := hrel
    obtain ⟨ad1, cp1, rfl⟩ := hs1.form
    obtain ⟨ad2, cp2, rfl⟩ := hs2.form
    by_cases hin : i < n
    rotate_left
    · have hin' : ¬ (i : Int) < (n : Int) := by omega
      obtain rfl : i = n := by omega
      have hsp := splitIs (L := L) (e := e) (n := i) (w := w) q1 q2 hs1 hs2 hw1
      clear hs1 hs2 hw1 hw2 hne
      have HFR := Lib.hid hfr
      have HSP := Lib.hid hsp
      clear hsp hfr
      go_wp2_with fail
      refine bodyPost_ret (v := .tuple #[.slice ad1 (bitsOf i e).length cp1, .slice ad2 (butL L e i).length cp2]) (by simp [results, Tryd.results58, go_sem]) rfl ?_
      exact ⟨HSP.out, HFR.out⟩
    have hin' : (i : Int) < (n : Int) := by omega
    have had := HR.out.ad (by omega)
    subst had
    have hms := meas_up hin
    obtain ⟨w4, w5⟩ := wrapUp hin hlen
    have hb1 := bitsOf_succ i e
    have hb2 := butL_succ L e i
    have hbl1 := bitsOf_len i e
    have hbl2 := butL_len L e i
    have hbt : e.testBit i = decide (e / 2 ^ i % 2 = 1) := by rw [Nat.testBit_eq_decide_div_mod_eq]
    have hnx : e / 2 ^ (i + 1) = e / 2 ^ i / 2 := by rw [Nat.div_div_eq_div_mul, Nat.pow_succ]
    have hel : e / 2 ^ i ≤ e := Nat.div_le_self _ _
    obtain ⟨x, hx⟩ : ∃ x, x = e / 2 ^ i := ⟨_, rfl⟩
    rw [← hx] at hbt hnx hel ⊢
    have hx62 : x < 4611686018427387904 := by have := HE.out; omega
    have g1 := rem2 x
    have g2 := quo2 x
    obtain ⟨x2, hx2⟩ : ∃ z, z = x / 2 := ⟨_, rfl⟩
    obtain ⟨y2, hy2⟩ : ∃ z, z = x % 2 := ⟨_, rfl⟩
    rw [← hx2] at hnx g2
    rw [← hy2] at hbt g1
    have g3 : IntKind.i64.wrap (x2 : Int) = (x2 : Int) := IntWalk.i64_in _ (by omega)
    have g4 : IntKind.i64.wrap (y2 : Int) = (y2 : Int) := IntWalk.i64_in _ (by omega)
    obtain ⟨l1, hl1⟩ : ∃ l, l = (bitsOf i e).length := ⟨_, rfl⟩
    obtain ⟨l2, hl2⟩ : ∃ l, l = (butL L e i).length := ⟨_, rfl⟩
    rw [← hl1] at hs1 hbl1 ⊢
    rw [← hl2] at hs2 hbl2 ⊢
    by_cases hy1 : y2 = 1
    · rw [hy1] at g1 g4
      rw [decide_eq_true hy1] at hbt
      rw [hbt, if_pos rfl] at hb1 hb2
      rw [List.append_nil] at hb2
      clear hy1 hy2 hx hx2 hel hx62 hbt
      have HS1 := Lib.hid hs1
      have HS2 := Lib.hid hs2
      have HW1 := Lib.hid hw1
      have HW2 := Lib.hid hw2
      have HNE := Lib.hid hne
      have HFR := Lib.hid hfr
      have HIN := Lib.hid hin
      have HMS := Lib.hid hms
      have HB1 := Lib.hid hb1
      have HB2 := Lib.hid hb2
      have HBL1 := Lib.hid hbl1
      have HBL2 := Lib.hid hbl2
      have HL1 := Lib.hid hl1
      have HL2 := Lib.hid hl2
      have HNX := Lib.hid hnx
      clear hnx hl2 hl1 hbl2 hbl1 hb2 hb1 hms hin hfr hne hw2 hw1 hs2 hs1
      go_wp2_with (at_builtin; refine hold ?_; intro qG hG)
      refine hG.1 ?_; clear hG qG
      refine wpList_append_sl _ rfl (.tmp 18) (.tmp 20) 26 rfl 3 i0 _ 1 8 Tryd.underlying26 HI0.out HZ0.out HZ1.out HZ2.out rfl _ l1 (intsC (bitsOf i e)) q1 rfl (HS1.out.alloc _) ⟨wr.heap.size, 0, none⟩ 1 1 [.int .i64 (i : Int)] rfl rfl (news_alloc _ [.int .i64 (i : Int)] _) (by simp [Value.oneCell']) (by have := HBL1.out; have := HIN.out; have := HN.out; unfold maxLen; omega) (by have := HBL1.out; have := HIN.out; have := HN.out; omega) ?_
      intro vv1 w6 own1 hsA hfA hoA
      have hfr' : Frm w.heap.size [] w w6 := (HFR.out.alloc HFR.out.size _).call hfA (by have := HFR.out.size; simp; omega) (fun y hy hm => by have := HW1.out y (by simpa using hm); omega)
      have hwn : ∀ b, own1 = some b → w.heap.size ≤ b := fun b hb => by
        rcases hoA with h | ⟨q, h, hq⟩
        · exact HW1.out b (by rw [← h]; exact hb)
        · rw [hb] at h; cases h; have := HFR.out.size; simp at hq; omega
      have hso := (HS2.out.alloc (.cells [Value.int .i64 (i : Int)].toArray 3)).beside hfA (Nat.le_refl _) (fun b hb hb2 => HNE.out b hb2 hb)
      have hne' : ∀ b, own1 = some b → q2 ≠ some b := fun b hb hb2 => by
        rcases hoA with h | ⟨q, h, hq⟩
        · exact HNE.out b (by rw [← h]; exact hb) hb2
        · rw [hb] at h; cases h; have := HS2.out.lt b hb2; simp at hq; omega
      have hsn : Sl w6 3 1 vv1 (bitsOf (i + 1) e).length (intsC (bitsOf (i + 1) e)) own1 := by
        rw [HB1.out, List.length_append, ← HL1.out, intsC_snoc]; exact hsA
      have hso2 : Sl w6 49 4 (.slice ad2 l2 cp2) (butL L e (i + 1)).length (rowsT (butL L e (i + 1))) q2 := by rw [HB2.out, ← HL2.out]; exact hso
      clear hfA hoA hsA hso
      obtain ⟨ada1, cpa1, rfl⟩ := hsn.form
      have hfin : ∃ i' : Nat, Value.int .i64 ((i : Int) + 1) = .int .i64 i' ∧ i' ≤ n ∧ Value.int .i64 (x2 : Int) = .int .i64 ((e / 2 ^ i' : Nat) : Int) ∧ (∃ o1 o2, Sl w6 3 1 (.slice ada1 (bitsOf (i + 1) e).length cpa1) (bitsOf i' e).length (intsC (bitsOf i' e)) o1 ∧ Sl w6 49 4 (.slice ad2 l2 cp2) (butL L e i').length (rowsT (butL L e i')) o2 ∧ (∀ b, o1 = some b → w.heap.size ≤ b) ∧ (∀ b, o2 = some b → w.heap.size ≤ b) ∧ ∀ b, o1 = some b → o2 ≠ some b) ∧ Frm w.heap.size [] w w6 :=
        ⟨i + 1, by simp, HIN.out, by rw [HNX.out], ⟨own1, q2, hsn, hso2, hwn, HW2.out, hne'⟩, hfr'⟩
      obtain ⟨l1', hl1'⟩ : ∃ l, l = (bitsOf (i + 1) e).length := ⟨_, rfl⟩
      rw [← hl1'] at hfin ⊢
      clear hl1' hsn hso2 hwn hne' hfr' HFR HS1 HS2 HW1 HW2 HNE
      have HFIN := Lib.hid hfin
      clear hfin
      go_wp2_with fail
      (try simp only [w4, w5])
      first | exact ⟨HFIN.out, HMS.out⟩ | (refine ⟨?_, HMS.out⟩; (repeat apply Exists.intro); refine ⟨?_, rfl⟩; exact HFIN.out)
    · have hy0 : y2 = 0 := by omega
      rw [hy0] at g1 g4
      rw [decide_eq_false hy1] at hbt
      rw [hbt, if_neg (by simp)] at hb1 hb2
      rw [List.append_nil] at hb1
      have hlo : (loadVar 49 ⟨b, off + i * 4, none⟩).run Tryd.prog wr = .ok (.agg (L i).cells.toArray) wr := (HR.out.frm hfr (Nat.le_refl _)).load (P := Tryd.prog) Tryd.underlying49 rfl hin info49
      obtain ⟨t, ht⟩ : ∃ t, t = L i := ⟨_, rfl⟩
      rw [← ht] at hlo hb2
      replace hlo : (loadVar 49 ⟨b, off + i * 4, none⟩).run Tryd.prog wr = .ok (.agg #[.int .i64 t.long, .int .i64 t.wide, .int .i64 t.deep, .int .i64 t.floor]) wr := hlo
      clear hy1 hy0 hy2 hx hx2 hel hx62 hbt
      have HS1 := Lib.hid hs1
      have HS2 := Lib.hid hs2
      have HW1 := Lib.hid hw1
      have HW2 := Lib.hid hw2
      have HNE := Lib.hid hne
      have HFR := Lib.hid hfr
      have HIN := Lib.hid hin
      have HMS := Lib.hid hms
      have HB1 := Lib.hid hb1
      have HB2 := Lib.hid hb2
      have HBL1 := Lib.hid hbl1
      have HBL2 := Lib.hid hbl2
      have HL1 := Lib.hid hl1
      have HL2 := Lib.hid hl2
      have HNX := Lib.hid hnx
      have HLO := Lib.hid hlo
      have HT := Lib.hid ht
      clear ht hlo hnx hl2 hl1 hbl2 hbl1 hb2 hb1 hms hin hfr hne hw2 hw1 hs2 hs1
      go_wp2_with (first | (with_reducible refine atLoad 49 rfl ?_; refine wpList_loadE rfl rfl rfl HLO.out ?_) | (at_builtin; refine hold ?_; intro qG hG))
      refine hG.1 ?_; clear hG qG
      refine wpList_append_sl _ rfl (.tmp 22) (.tmp 27) 42 rfl 49 j0 _ 4 32 Tryd.underlying42 HJ0.out HY0.out HY1.out HY2.out rfl _ l2 (rowsT (butL L e i)) q2 rfl (HS2.out.alloc _) ⟨wr.heap.size, 0, none⟩ 1 1 t.cells rfl rfl (news_alloc _ t.cells _) (by simp [Ta.cells, Value.oneCell']) (by have := HBL2.out; have := HIN.out; have := HN.out; unfold maxLen; omega) (by have := HBL2.out; have := HIN.out; have := HN.out; omega) ?_
      intro vv2 w6 own2 hsA hfA hoA
      have hfr' : Frm w.heap.size [] w w6 := (HFR.out.alloc HFR.out.size _).call hfA (by have := HFR.out.size; simp; omega) (fun y hy hm => by have := HW2.out y (by simpa using hm); omega)
      have hwn : ∀ b, own2 = some b → w.heap.size ≤ b := fun b hb => by
        rcases hoA with h | ⟨q, h, hq⟩
        · exact HW2.out b (by rw [← h]; exact hb)
        · rw [hb] at h; cases h; have := HFR.out.size; simp at hq; omega
      have hso := (HS1.out.alloc (.cells t.cells.toArray 49)).beside hfA (Nat.le_refl _) (fun b hb hb2 => HNE.out b hb hb2)
      have hne' : ∀ b, q1 = some b → own2 ≠ some b := fun b hb hb2 => by
        rcases hoA with h | ⟨q, h, hq⟩
        · exact HNE.out b hb (by rw [← h]; exact hb2)
        · rw [hb2] at h; cases h; have := HS1.out.lt b hb; simp at hq; omega
      have hsn : Sl w6 49 4 vv2 (butL L e (i + 1)).length (rowsT (butL L e (i + 1))) own2 := by
        rw [HB2.out, List.length_append, ← HL2.out, rowsT_snoc]; exact hsA
      have hso2 : Sl w6 3 1 (.slice ad1 l1 cp1) (bitsOf (i + 1) e).length (intsC (bitsOf (i + 1) e)) q1 := by rw [HB1.out, ← HL1.out]; exact hso
      clear hfA hoA hsA hso
      obtain ⟨ada1, cpa1, rfl⟩ := hsn.form
      have hfin : ∃ i' : Nat, Value.int .i64 ((i : Int) + 1) = .int .i64 i' ∧ i' ≤ n ∧ Value.int .i64 (x2 : Int) = .int .i64 ((e / 2 ^ i' : Nat) : Int) ∧ (∃ o1 o2, Sl w6 3 1 (.slice ad1 l1 cp1) (bitsOf i' e).length (intsC (bitsOf i' e)) o1 ∧ Sl w6 49 4 (.slice ada1 (butL L e (i + 1)).length cpa1) (butL L e i').length (rowsT (butL L e i')) o2 ∧ (∀ b, o1 = some b → w.heap.size ≤ b) ∧ (∀ b, o2 = some b → w.heap.size ≤ b) ∧ ∀ b, o1 = some b → o2 ≠ some b) ∧ Frm w.heap.size [] w w6 :=
        ⟨i + 1, by simp, HIN.out, by rw [HNX.out], ⟨q1, own2, hso2, hsn, HW1.out, hwn, hne'⟩, hfr'⟩
      obtain ⟨l1', hl1'⟩ : ∃ l, l = (butL L e (i + 1)).length := ⟨_, rfl⟩
      rw [← hl1'] at hfin ⊢
      clear hl1' hsn hso2 hwn hne' hfr' HFR HS1 HS2 HW1 HW2 HNE
      have HFIN := Lib.hid hfin
      clear hfin
      go_wp2_with fail
      (try simp only [w4, w5])
      first | exact ⟨HFIN.out, HMS.out⟩ | (refine ⟨?_, HMS.out⟩; (repeat apply Exists.intro); refine ⟨?_, rfl⟩; exact HFIN.out)
end Go.Proofs.YtfmigicmfolbjaaDoor
