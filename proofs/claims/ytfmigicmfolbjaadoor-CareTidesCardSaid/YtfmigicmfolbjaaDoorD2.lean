/-
  When a ship comes off the ground, by the document.
-/
import Derived.Test.YtfmigicmfolbjaaDoorD1
namespace Go.Proofs.YtfmigicmfolbjaaDoor
set_option linter.all false
set_option linter.unusedSimpArgs false
set_option linter.unusedVariables false
open Go.RowKit

attribute [local go_sem ↓ high] run_min_ run_max_ run_min2 run_max2
theorem meas_turn {a e m : Int} (h1 : a ≤ m) (h2 : m < e) : (m - a).toNat < (e - a).toNat ∧ (e - (m + 1)).toNat < (e - a).toNat := by omega
set_option maxRecDepth 100000 in
set_option maxHeartbeats 8000000 in
theorem turn_any (g : Gr) (hg : GrOK g) (ad : Option Addr) (b off n cap : Nat) (T : Nat → Int × Int) (hT : TideOK n T) (a e : Int) (is : Bool) (h0 : (T 0).1 ≤ a) (hae : a ≤ e) (he : e ≤ (T (n - 1)).1) (hp : (offAt g n T e == is) = true)
    (hm : ∀ x y, a ≤ x → x ≤ y → y ≤ e → (offAt g n T x == is) = true → (offAt g n T y == is) = true) (w : World) (hr : Rw w 2 ad b off n fun i => tpC (T i)) :
    Calls Tryd.prog 64 #[.agg g.cells.toArray, .slice ad n cap, .int .i64 a, .int .i64 e, .bool is] w fun x w' => (∃ r : Int, x = .returned (.int .i64 r) ∧ Turn (fun t => offAt g n T t == is) a e r) ∧ Frm w.heap.size [] w w' := by
  have hf0 := Tryd.func64
  have ht0 := (hT.ok 0 (by have := hT.one; omega)).time
  have ht1 := (hT.ok (n - 1) (by have := hT.one; omega)).time
  have HR := Lib.hid hr
  have HG := Lib.hid hg
  have HTT := Lib.hid hT
  have H0 := Lib.hid h0
  have HAE := Lib.hid hae
  have HE := Lib.hid he
  have HP := Lib.hid hp
  have HM := Lib.hid hm
  have HT0 := Lib.hid ht0
  have HT1 := Lib.hid ht1
  clear ht1 ht0 hm hp he hae h0 hT hg hr
  go_enter Tryd.func64, Tryd.ntmps64
  go_upto_region 1 with fail
  refine namedC ?_; intro W hW
  obtain ⟨c, hc⟩ : ∃ c, c = w.heap.size := ⟨_, rfl⟩
  have k0 : Blk W c 52 g.cells := by rw [hW, hc]; exact Blk.new w 52 g.cells
  have hf : Frm w.heap.size [] w W := by rw [hW]; repeat (first | with_reducible exact Frm.refl _ _ _ | with_reducible refine Frm.drewN ?_ | with_reducible refine Frm.drew ?_ | ((with_reducible refine Frm.setCell' ?_ ?_); · first | (left; simp; done) | (right; simp; done) | (right; simp; omega)) | ((with_reducible refine Frm.alloc' ?_ ?_); · first | exact Nat.le_refl _ | (simp; done) | (simp; omega)))
  clear hW hf0
  rw [← hc]
  have K0 := Lib.hid k0
  have HF := Lib.hid hf
  have HC := Lib.hid hc
  clear hc hf k0
  go_wp2_with fail
  go_loopw [2, 3] (fun s2 s3 wr => ∃ x y : Int, s2 = .int .i64 x ∧ s3 = .int .i64 y ∧ a ≤ x ∧ x ≤ y ∧ y ≤ e ∧ (offAt g n T y == is) = true ∧ (∀ t, a ≤ t → t < x → (offAt g n T t == is) = false) ∧ Frm W.heap.size [] W wr) (fun s2 s3 _ => (intOf s3 - intOf s2).toNat)
  case atStart => exact ⟨a, e, rfl, rfl, Int.le_refl _, HAE.out, Int.le_refl _, HP.out, fun t h1 h2 => by omega, Frm.refl _ _ _⟩
  case round =>
    obtain ⟨x, y, rfl, rfl, hax, hxy, hye, hpy, hno, hfr⟩ := hrel
    by_cases hlt : x < y
    rotate_left
    · obtain rfl : x = y := by omega
      have hfin : Turn (fun t => offAt g n T t == is) a e x := ⟨hax, hye, hpy, hno⟩
      clear hno hpy
      have HFIN := Lib.hid hfin
      have HFR := Lib.hid hfr
      clear hfr hfin
      go_wp2_with fail
      go_ret
      exact ⟨⟨x, rfl, HFIN.out⟩, HF.out.call HFR.out HF.out.size (by simp)⟩
    obtain ⟨m, hmd⟩ : ∃ m, m = (x + y) / 2 := ⟨_, rfl⟩
    have h0 := H0.out
    have h1 := HE.out
    have h2 := HT0.out
    have h3 := HT1.out
    have bx : 0 ≤ x ∧ y ≤ 10000000 := by omega
    have hmx : x ≤ m ∧ m < y := by omega
    have e1 : IntKind.i64.wrap (x + y) = x + y := IntWalk.i64_in _ (by omega)
    have e2 : wrap64 (x + y) = x + y := IntWalk.wrap64_in _ (by omega)
    have e3 : Int.tdiv (x + y) 2 = m := by rw [hmd]; exact Int.tdiv_eq_ediv_of_nonneg (by omega)
    have e4 : IntKind.i64.wrap m = m := IntWalk.i64_in _ (by omega)
    have e5 : wrap64 m = m := IntWalk.wrap64_in _ (by omega)
    have e6 : IntKind.i64.wrap (m + 1) = m + 1 := IntWalk.i64_in _ (by omega)
    have e7 : wrap64 (m + 1) = m + 1 := IntWalk.wrap64_in _ (by omega)
    have hms := meas_turn hmx.1 hmx.2
    have hT0m : (T 0).1 ≤ m := by omega
    have hTem : m ≤ (T (n - 1)).1 := by omega
    have hof := refOff_any g HG.out ad b off n cap T HTT.out m hT0m hTem wr (HR.out.frm (HF.out.call hfr HF.out.size (by simp)) (Nat.le_refl _))
    have hlo := load_gr (hfr.blk K0.out K0.out.lt (by simp))
    obtain ⟨o, ho⟩ : ∃ o, o = offAt g n T m := ⟨_, rfl⟩
    rw [← ho] at hof
    cases hoi : (o == is)
    · have hnx : ∀ t, a ≤ t → t < m + 1 → (offAt g n T t == is) = false := fun t h4 h5 => by
        cases hc : (offAt g n T t == is)
        · rfl
        · have h6 := HM.out t m h4 (by omega) (by omega) hc
          rw [← ho, hoi] at h6
          cases h6
      have hrel2 : a ≤ m + 1 ∧ m + 1 ≤ y ∧ y ≤ e := by omega
      clear hno h0 h1 h2 h3 bx hmd hT0m hTem
      have HFR := Lib.hid hfr
      have HNX := Lib.hid hnx
      have HPY := Lib.hid hpy
      have HREL := Lib.hid hrel2
      have HMS := Lib.hid hms
      have HOF := Lib.hid hof
      have HLO := Lib.hid hlo
      have HO := Lib.hid ho
      have HMX := Lib.hid hmx
      have HAX := Lib.hid hax
      have HXY := Lib.hid hxy
      have HYE := Lib.hid hye
      clear hye hxy hax hmx ho hlo hof hms hrel2 hpy hnx hfr
      go_wp2_with (first | (with_reducible refine atLoad 52 rfl ?_; refine wpList_loadE rfl rfl rfl HLO.out ?_) | (go_at_call 31; refine HOF.out.mono ?_; rintro e1 w1 ⟨rfl, hf1⟩))
      have hf2 := HFR.out.call hf1 HFR.out.size (by simp)
      clear hf1
      refine ⟨⟨m + 1, y, rfl, rfl, HREL.out.1, HREL.out.2.1, HREL.out.2.2, HPY.out, HNX.out, hf2⟩, HMS.out.2⟩
    · have hpm : (offAt g n T m == is) = true := by rw [← ho]; exact hoi
      have hrel2 : m ≤ e := by omega
      clear h0 h1 h2 h3 bx hmd hT0m hTem hpy
      have HFR := Lib.hid hfr
      have HNO := Lib.hid hno
      have HPM := Lib.hid hpm
      have HREL := Lib.hid hrel2
      have HMS := Lib.hid hms
      have HOF := Lib.hid hof
      have HLO := Lib.hid hlo
      have HO := Lib.hid ho
      have HMX := Lib.hid hmx
      have HAX := Lib.hid hax
      have HXY := Lib.hid hxy
      have HYE := Lib.hid hye
      clear hye hxy hax hmx ho hlo hof hms hrel2 hpm hno hfr
      go_wp2_with (first | (with_reducible refine atLoad 52 rfl ?_; refine wpList_loadE rfl rfl rfl HLO.out ?_) | (go_at_call 31; refine HOF.out.mono ?_; rintro e1 w1 ⟨rfl, hf1⟩))
      have hf2 := HFR.out.call hf1 HFR.out.size (by simp)
      clear hf1
      refine ⟨⟨x, m, rfl, rfl, HAX.out, HMX.out.1, HREL.out, HPM.out, HNO.out, hf2⟩, HMS.out.1⟩
end Go.Proofs.YtfmigicmfolbjaaDoor
