/-
  The stability, and which tanks have to be empty, by the document.
-/
import Derived.Test.YtfmigicmfolbjaaDoorW4
namespace Go.Proofs.YtfmigicmfolbjaaDoor
set_option linter.all false
set_option linter.unusedSimpArgs false
set_option linter.unusedVariables false
open Go.RowKit

theorem stab_low {h : Hu} {L : Nat → Ta} {n : Nat} (hh : HuOK h) (hL : ∀ i, i < n → TaOK (L i)) (hn : n ≤ 6) : -1152921504606846976 ≤ stabZ h (tasL n L) ∧ stabZ h (tasL n L) < 10001 := by
  have k := stAt hh hL (Nat.le_refl n) hn
  have hv : 0 < volZ h (tasL n L) := by have := k.v1; omega
  have v1 := k.v1
  have d1 := k.d1
  have d2 := k.d2
  have hm := hh.2.1
  constructor
  · rw [stab_ge hv]
    have h1 : 1152921504606846976 * 12000000 ≤ (h.meta_ - -1152921504606846976) * (12 * volZ h (tasL n L)) := Int.mul_le_mul (by omega) (by omega) (by omega) (by omega)
    omega
  · have h2 : ¬ 10001 ≤ stabZ h (tasL n L) := by
      rw [stab_ge hv]
      have h1 : (10001 - h.meta_) * (12 * volZ h (tasL n L)) ≥ 1 * 12000000 := Int.mul_le_mul (by omega) (by omega) (by omega) (by omega)
      have h3 : (h.meta_ - 10001) * (12 * volZ h (tasL n L)) = -((10001 - h.meta_) * (12 * volZ h (tasL n L))) := by
        rw [← Int.neg_mul]; congr 1; omega
      omega
    omega
set_option maxRecDepth 100000 in
set_option maxHeartbeats 8000000 in
theorem refStab_any (h : Hu) (hh : HuOK h) (ad : Option Addr) (b off n cap : Nat) (L : Nat → Ta) (hL : ∀ i, i < n → TaOK (L i)) (hn : n ≤ 6) (w : World) (hr : Rw w 4 ad b off n fun i => (L i).cells) :
    Calls Tryd.prog 52 #[.agg h.cells.toArray, .slice ad n cap] w fun e w' => e = .returned (.int .i64 (stabZ h (tasL n L))) ∧ Frm w.heap.size [] w w' := by
  have hf0 := Tryd.func52
  obtain ⟨z, hz⟩ : ∃ z, z = stabZ h (tasL n L) := ⟨_, rfl⟩
  have hsl := stab_low hh hL hn
  have hst : ∀ (m : Int) (V : World), Frm w.heap.size [] w V → LeastOK m → Calls Tryd.prog 59 #[.agg h.cells.toArray, .slice ad n cap, .int .i64 m] V fun e w' => e = .returned (.bool (decide (m ≤ z))) ∧ Frm V.heap.size [] V w' := fun m V hV hm => by
    rw [hz]; exact stable_any h hh ad b off n cap L hL hn m hm V (hr.frm hV (Nat.le_refl _))
  rw [← hz] at hsl ⊢
  clear hz hr hL hh
  have HST := Lib.hid hst
  have HSL := Lib.hid hsl
  clear hsl hst
  go_enter Tryd.func52, Tryd.ntmps52
  go_upto_region 1 with fail
  refine namedC ?_; intro W hW
  obtain ⟨c, hc⟩ : ∃ c, c = w.heap.size := ⟨_, rfl⟩
  have k0 : Blk W c 41 h.cells := by rw [hW, hc]; exact Blk.new w 41 h.cells
  have hf : Frm w.heap.size [] w W := by rw [hW]; repeat (first | with_reducible exact Frm.refl _ _ _ | with_reducible refine Frm.drewN ?_ | with_reducible refine Frm.drew ?_ | ((with_reducible refine Frm.setCell' ?_ ?_); · first | (left; simp; done) | (right; simp; done) | (right; simp; omega)) | ((with_reducible refine Frm.alloc' ?_ ?_); · first | exact Nat.le_refl _ | (simp; done) | (simp; omega)))
  clear hW hf0
  rw [← hc]
  clear hc
  have K0 := Lib.hid k0
  have HF := Lib.hid hf
  clear hf k0
  go_wp2_with fail
  go_loopw [5, 6] (fun s5 s6 wr => ∃ lo hi : Int, s5 = .int .i64 lo ∧ s6 = .int .i64 hi ∧ -1152921504606846976 ≤ lo ∧ lo ≤ z ∧ z < hi ∧ hi ≤ 10001 ∧ Blk wr c 41 h.cells ∧ Frm w.heap.size [] w wr) (fun s5 s6 _ => (intOf s6 - intOf s5).toNat)
  case atStart => exact ⟨_, _, rfl, rfl, Int.le_refl _, HSL.out.1, HSL.out.2, Int.le_refl _, K0.out, HF.out⟩
  case round =>
    clear K0 HF
    obtain ⟨lo, hi, rfl, rfl, h1, h2, h3, h4, k0, hf⟩ := hrel
    have e1 : IntKind.i64.wrap (hi - lo) = hi - lo := IntWalk.i64_in _ (by omega)
    have e2 : wrap64 (hi - lo) = hi - lo := IntWalk.wrap64_in _ (by omega)
    by_cases hg : 1 < hi - lo
    rotate_left
    · have hd : decide (1 < hi - lo) = false := decide_eq_false hg
      obtain rfl : lo = z := by omega
      have HF := Lib.hid hf
      clear hf
      go_wp2_with fail
      go_ret
      exact ⟨rfl, HF.out⟩
    have hd : decide (1 < hi - lo) = true := decide_eq_true hg
    obtain ⟨q, hq⟩ : ∃ q, q = Int.tdiv (hi - lo) 2 := ⟨_, rfl⟩
    have hq2 : q = (hi - lo) / 2 := by rw [hq, Int.tdiv_eq_ediv_of_nonneg (by omega)]
    have e3 : Int.tdiv (hi - lo) 2 = q := hq.symm
    have e4 : IntKind.i64.wrap q = q := IntWalk.i64_in _ (by omega)
    have e7 : (hi - lo) / 2 = q := hq2.symm
    have hlo := load_hu k0
    obtain ⟨m, hm⟩ : ∃ m, m = lo + q := ⟨_, rfl⟩
    have e5 : IntKind.i64.wrap (lo + q) = m := by rw [← hm]; exact IntWalk.i64_in _ (by omega)
    have e6 : wrap64 (lo + q) = m := by rw [← hm]; exact IntWalk.wrap64_in _ (by omega)
    have hsm := HST.out m wr hf ⟨by omega, by omega⟩
    by_cases hmz : m ≤ z
    · have hd2 : decide (m ≤ z) = true := decide_eq_true hmz
      rw [hd2] at hsm
      have hfin : ∃ lo' hi' : Int, Value.int .i64 m = .int .i64 lo' ∧ Value.int .i64 hi = .int .i64 hi' ∧ -1152921504606846976 ≤ lo' ∧ lo' ≤ z ∧ z < hi' ∧ hi' ≤ 10001 := ⟨m, hi, rfl, rfl, by omega, hmz, h3, h4⟩
      have hms : (hi - m).toNat < (hi - lo).toNat := by omega
      clear h1 h2 h3 h4 hq hq2 hmz hd2 hg
      have K0 := Lib.hid k0
      have HF := Lib.hid hf
      have HLO := Lib.hid hlo
      have HSM := Lib.hid hsm
      have HFIN := Lib.hid hfin
      have HMS := Lib.hid hms
      have HM := Lib.hid hm
      clear hm hms hfin hsm hlo hf k0
      go_wp2_with (first | (with_reducible refine atLoad 41 rfl ?_; refine wpList_loadE rfl rfl rfl HLO.out ?_) | (go_at_call 59; refine HSM.out.mono ?_; rintro e9 w9 ⟨rfl, hf9⟩; replace K0 := Lib.hid (hf9.blk K0.out K0.out.lt (by simp)); replace HF := Lib.hid (HF.out.call hf9 HF.out.size (by simp)); clear hf9))
      obtain ⟨lo', hi', g1, g2, g3, g4, g5, g6⟩ := HFIN.out
      exact ⟨⟨lo', hi', g1, g2, g3, g4, g5, g6, K0.out, HF.out⟩, HMS.out⟩
    · have hd2 : decide (m ≤ z) = false := decide_eq_false hmz
      rw [hd2] at hsm
      have hfin : ∃ lo' hi' : Int, Value.int .i64 lo = .int .i64 lo' ∧ Value.int .i64 m = .int .i64 hi' ∧ -1152921504606846976 ≤ lo' ∧ lo' ≤ z ∧ z < hi' ∧ hi' ≤ 10001 := ⟨lo, m, rfl, rfl, h1, h2, by omega, by omega⟩
      have hms : (m - lo).toNat < (hi - lo).toNat := by omega
      clear h1 h2 h3 h4 hq hq2 hmz hd2 hg
      have K0 := Lib.hid k0
      have HF := Lib.hid hf
      have HLO := Lib.hid hlo
      have HSM := Lib.hid hsm
      have HFIN := Lib.hid hfin
      have HMS := Lib.hid hms
      have HM := Lib.hid hm
      clear hm hms hfin hsm hlo hf k0
      go_wp2_with (first | (with_reducible refine atLoad 41 rfl ?_; refine wpList_loadE rfl rfl rfl HLO.out ?_) | (go_at_call 59; refine HSM.out.mono ?_; rintro e9 w9 ⟨rfl, hf9⟩; replace K0 := Lib.hid (hf9.blk K0.out K0.out.lt (by simp)); replace HF := Lib.hid (HF.out.call hf9 HF.out.size (by simp)); clear hf9))
      obtain ⟨lo', hi', g1, g2, g3, g4, g5, g6⟩ := HFIN.out
      exact ⟨⟨lo', hi', g1, g2, g3, g4, g5, g6, K0.out, HF.out⟩, HMS.out⟩
theorem ship_two {h : Hu} {n : Nat} {L : Nat → Ta} (hs : (huB h && tasB n L) = true) (hn : n ≤ 6) : HuOK h ∧ ∀ i, i < n → TaOK (L i) := by
  have := ship_ok (h := h) (n := n) (L := L) (by unfold shipE; rw [hs, if_pos rfl, if_neg (by omega)])
  exact ⟨this.1, this.2.1⟩
set_option maxRecDepth 100000 in
set_option maxHeartbeats 8000000 in
theorem refStability_any (h : Hu) (ad : Option Addr) (b off n cap : Nat) (L : Nat → Ta) (w : World) (hr : Rw w 4 ad b off n fun i => (L i).cells) :
    Calls Tryd.prog 22 #[.agg h.cells.toArray, .slice ad n cap] w fun e w' => StabilityIs h n L e ∧ Frm w.heap.size [] w w' := by
  have hf0 := Tryd.func22
  have HR := Lib.hid hr
  clear hr
  go_enter Tryd.func22, Tryd.ntmps22
  go_upto_region 1 with fail
  refine namedC ?_; intro W hW
  obtain ⟨c, hc⟩ : ∃ c, c = w.heap.size := ⟨_, rfl⟩
  have k0 : Blk W c 41 h.cells := by rw [hW, hc]; exact Blk.new w 41 h.cells
  have hf : Frm w.heap.size [] w W := by rw [hW]; repeat (first | with_reducible exact Frm.refl _ _ _ | with_reducible refine Frm.drewN ?_ | with_reducible refine Frm.drew ?_ | ((with_reducible refine Frm.setCell' ?_ ?_); · first | (left; simp; done) | (right; simp; done) | (right; simp; omega)) | ((with_reducible refine Frm.alloc' ?_ ?_); · first | exact Nat.le_refl _ | (simp; done) | (simp; omega)))
  clear hW hf0
  rw [← hc]
  clear hc
  have K0 := Lib.hid k0
  have HF := Lib.hid hf
  clear hf k0
  go_wp2_with (with_reducible refine atLoad 41 rfl ?_; refine wpList_loadE rfl rfl rfl (load_hu K0.out) ?_)
  refine (refShip_any h ad b off n cap L W (HR.out.frm HF.out (Nat.le_refl _))).mono ?_; rintro e w1 ⟨rfl, hf1⟩
  have k0 := hf1.blk K0.out K0.out.lt (by simp)
  have hf := HF.out.call hf1 HF.out.size (by simp)
  clear hf1 K0 HF
  cases hs : (huB h && tasB n L)
  · have hE : shipE h n L = 2 := by unfold shipE; rw [hs]; rfl
    clear k0 hs
    have HF := Lib.hid hf
    have HE := Lib.hid hE
    clear hE hf
    go_wp2_with fail
    refine bodyPost_ret (v := .tuple #[.int .i64 0, .int .i64 2]) (by simp [results, Tryd.results22, go_sem]) rfl ?_
    exact ⟨.inl ⟨by rw [HE.out]; decide, by rw [HE.out]⟩, HF.out⟩
  by_cases hn : 6 < n
  · have hn' : (6 : Int) < (n : Int) := by omega
    have hE : shipE h n L = 3 := by unfold shipE; rw [hs, if_pos rfl, if_pos hn]
    clear k0 hs
    have HF := Lib.hid hf
    have HE := Lib.hid hE
    clear hE hf
    go_wp2_with fail
    refine bodyPost_ret (v := .tuple #[.int .i64 0, .int .i64 3]) (by simp [results, Tryd.results22, go_sem]) rfl ?_
    exact ⟨.inl ⟨by rw [HE.out]; decide, by rw [HE.out]⟩, HF.out⟩
  have hn' : ¬ (6 : Int) < (n : Int) := by omega
  have hE : shipE h n L = 0 := by unfold shipE; rw [hs, if_pos rfl, if_neg hn]
  obtain ⟨hh, hL⟩ := ship_two hs (by omega)
  have hn6 : n ≤ 6 := by omega
  obtain ⟨z, hz⟩ : ∃ z, z = stabZ h (tasL n L) := ⟨_, rfl⟩
  have hst := refStab_any h hh ad b off n cap L hL hn6 w1 (HR.out.frm hf (Nat.le_refl _))
  rw [← hz] at hst
  clear hh hL hs hn
  have K0 := Lib.hid k0
  have HF := Lib.hid hf
  have HE := Lib.hid hE
  have HST := Lib.hid hst
  have HZ := Lib.hid hz
  clear hz hst hE hf k0
  go_wp2_with (first | (with_reducible refine atLoad 41 rfl ?_; refine wpList_loadE rfl rfl rfl (load_hu K0.out) ?_) | (go_at_call 52; refine HST.out.mono ?_; rintro e9 w9 ⟨rfl, hf9⟩; replace HF := Lib.hid (HF.out.call hf9 HF.out.size (by simp)); clear hf9))
  refine bodyPost_ret (v := .tuple #[.int .i64 z, .int .i64 0]) (by simp [results, Tryd.results22, go_sem]) rfl ?_
  exact ⟨.inr ⟨HE.out, by rw [← HZ.out]⟩, HF.out⟩
end Go.Proofs.YtfmigicmfolbjaaDoor
