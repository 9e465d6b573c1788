/-
  A ship is off at each time from the first one to the last one, and neither ahead of it nor just behind it; with a greater pull and in deeper water it comes off no later.
-/
import Derived.Test.YtfmigicmfolbjaaDoorLawFloats
namespace Go.Proofs.YtfmigicmfolbjaaDoor
set_option linter.all false
set_option linter.unusedSimpArgs false
set_option linter.unusedVariables false
open Go.ChangeShapes Go.WideShapes Go.ChangeAt Go.RowKit

attribute [local go_sem ↓ high] run_min_ run_max_ run_min2 run_max2
def moreG (g : Gr) (m0 m1 : Int) : Gr := { g with pull := min 1000000 (g.pull + m0), depth := min 100000 (g.depth + m1) }
theorem moreG_ok {g : Gr} (h : grB g = true) {m0 m1 : Int} (h0 : 0 ≤ m0) (h1 : 0 ≤ m1) : grB (moreG g m0 m1) = true := by
  unfold grB at h ⊢
  simp only [Bool.and_eq_true, inB_iff] at h ⊢
  obtain ⟨⟨⟨⟨a1, a2⟩, a3⟩, a4⟩, a5⟩ := h
  refine ⟨⟨⟨⟨a1, ?_⟩, a3⟩, ?_⟩, a5⟩
  · show -100000 ≤ min 100000 (g.depth + m1) ∧ min 100000 (g.depth + m1) ≤ 100000
    omega
  · show 0 ≤ min 1000000 (g.pull + m0) ∧ min 1000000 (g.pull + m0) ≤ 1000000
    omega
theorem line_more {x m k l y d p q : Int} (hm : 1 ≤ m) (hk : 0 ≤ k) (hl : 0 ≤ l) (hd : 0 ≤ d) (hpq : p ≤ q) (h : (x * m - y) * k * l ≤ 10000 * p * m) : ((x - d) * m - y) * k * l ≤ 10000 * q * m := by
  have h1 : 0 ≤ d * m := Int.mul_nonneg hd (by omega)
  have h2 : 0 ≤ d * m * k := Int.mul_nonneg h1 hk
  have h3 : 0 ≤ d * m * k * l := Int.mul_nonneg h2 hl
  have h4 : ((x - d) * m - y) * k * l = (x * m - y) * k * l - d * m * k * l := by grind
  have h5 : 10000 * p * m ≤ 10000 * q * m := Int.mul_le_mul_of_nonneg_right (by omega) (by omega)
  omega
theorem moreG_off {g : Gr} (hg : GrOK g) {m0 m1 : Int} (h0 : 0 ≤ m0) (h1 : 0 ≤ m1) {a b : Int × Int} {t : Int} (h : offT g a b t = true) : offT (moreG g m0 m1) a b t = true := by
  unfold offT offP at h ⊢
  rw [decide_eq_true_eq] at h ⊢
  have hm : 1 ≤ max 1 (b.1 - a.1) := by omega
  have i2 := hg.depth
  have i4 := hg.pull
  show ((g.draught - min 100000 (g.depth + m1) - a.2) * max 1 (b.1 - a.1) - (b.2 - a.2) * (t - a.1)) * g.tpc * g.fric ≤ 10000 * min 1000000 (g.pull + m0) * max 1 (b.1 - a.1)
  have e : g.draught - min 100000 (g.depth + m1) - a.2 = (g.draught - g.depth - a.2) - (min 100000 (g.depth + m1) - g.depth) := by omega
  rw [e]
  exact line_more hm (by have := hg.tpc; omega) hg.fric.1 (by omega) (by omega) h
theorem moreG_at {g : Gr} (hg : GrOK g) {m0 m1 : Int} (h0 : 0 ≤ m0) (h1 : 0 ≤ m1) {n : Nat} {T : Nat → Int × Int} {t : Int} (h : offAt g n T t = true) : offAt (moreG g m0 m1) n T t = true := by
  unfold offAt at h ⊢
  split at h
  · exact moreG_off hg h0 h1 h
  · cases h
theorem float_more {g : Gr} {m0 m1 : Int} (h0 : 0 ≤ m0) (h1 : 0 ≤ m1) {n : Nat} {T : Nat → Int × Int} {from_ f l : Int} (hg : grB g = true) (ht : tideB n T = true) (hi : inB from_ (T 0).1 (T (n - 1)).1 = true) (hs : Span (offAt g n T) from_ (T (n - 1)).1 f l)
    {w w' : World} {e : Ending} (h : FloatIs (moreG g m0 m1) n T from_ w w' e) : Frm w.heap.size [] w w' ∧ ∃ r k : Int, e = .returned (.tuple #[.int .i64 r, .int .i64 k, .int .i64 0]) ∧ r ≤ f := by
  have hon := moreG_at (gr_ok hg) h0 h1 (hs.yes f (Int.le_refl _) hs.mid)
  obtain ⟨hf, (⟨k1, _⟩ | ⟨_, k2, _⟩ | ⟨_, _, (⟨k3, _⟩ | ⟨f2, l2, k3, rfl⟩)⟩)⟩ := h
  · rw [ht, moreG_ok hg h0 h1] at k1; cases k1
  · rw [hi] at k2; cases k2
  · have h2 := k3 f hs.lo (Int.le_trans hs.mid hs.hi)
    rw [hon] at h2; cases h2
  · refine ⟨hf, f2, l2, rfl, ?_⟩
    rcases Int.lt_or_le f f2 with h | h
    · have h2 := k3.no f hs.lo h
      rw [hon] at h2; cases h2
    · exact h
theorem mod_in {t m : Int} (hm : 1 ≤ m) : -m < t.tmod m ∧ t.tmod m < m ∧ 0 ≤ (t.tmod m + m).tmod m ∧ (t.tmod m + m).tmod m < m := by
  have h1 : t.tmod m < m := Int.tmod_lt_of_pos t (by omega)
  have h2 : -m < t.tmod m := by
    have h3 : t.tmod m = -((-t).tmod m) := by rw [Int.neg_tmod, Int.neg_neg]
    have h4 : (-t).tmod m < m := Int.tmod_lt_of_pos _ (by omega)
    omega
  refine ⟨h2, h1, Int.tmod_nonneg m (show 0 ≤ t.tmod m + m by omega), Int.tmod_lt_of_pos _ (by omega)⟩
set_option maxRecDepth 100000 in
set_option maxHeartbeats 16000000 in
theorem tides_walk (g : Gr) (ad : Option Addr) (b off n cap : Nat) (T : Nat → Int × Int) (from_ t m0 m1 : Int) (hm0 : 0 ≤ m0 ∧ m0 ≤ 65535) (hm1 : 0 ≤ m1 ∧ m1 ≤ 65535) (w : World) (hr : Rw w 2 ad b off n fun i => tpC (T i)) (hg : Glob w) :
    Calls Tryd.prog 8 #[.agg g.cells.toArray, .slice ad n cap, .int .i64 from_, .int .i64 t, .agg #[.int .u16 m0, .int .u16 m1]] w fun e w' => e = .returned (.bool true) ∧ Frm w.heap.size [] w w' := by
  have hf0 := Tryd.func8
  have HG := Lib.hid hg
  have HR := Lib.hid hr
  have HM0 := Lib.hid hm0
  have HM1 := Lib.hid hm1
  clear hm1 hm0 hr hg
  go_enter Tryd.func8, Tryd.ntmps8
  go_upto_region 1 with fail
  refine namedC ?_; intro W hW
  have k0 : Blk W w.heap.size 52 g.cells := by rw [hW]; refine Blk.alloc' ?_; exact Blk.new w 52 g.cells
  have k9 : Blk W (w.heap.size + 1) 57 [.int .u16 m0, .int .u16 m1] := by rw [hW]; exact Blk.new' _ 57 [.int .u16 m0, .int .u16 m1] (by simp)
  have hf : Frm w.heap.size [] w W := by rw [hW]; repeat (first | with_reducible exact Frm.refl _ _ _ | with_reducible refine Frm.drewN ?_ | with_reducible refine Frm.drew ?_ | ((with_reducible refine Frm.setCell' ?_ ?_); · first | (left; simp; done) | (right; simp; done) | (right; simp; omega)) | ((with_reducible refine Frm.alloc' ?_ ?_); · first | exact Nat.le_refl _ | (simp; done) | (simp; omega)))
  clear hW hf0
  obtain ⟨c9, hc9⟩ : ∃ c, c = w.heap.size + 1 := ⟨_, rfl⟩
  obtain ⟨c, hc⟩ : ∃ c, c = w.heap.size := ⟨_, rfl⟩
  rw [← hc9] at k9
  simp only [← hc9]
  rw [← hc] at k0
  simp only [← hc]
  have K0 := Lib.hid k0
  have K9 := Lib.hid k9
  have HF := Lib.hid hf
  have HC := Lib.hid hc
  have HC9 := Lib.hid hc9
  clear hc9 hc hf k9 k0
  by_cases hn : 120 < n
  · have hn' : (120 : Int) < (n : Int) := by omega
    go_wp2_with (go_at_call 18; refine (awake_any _ (HG.out.frm HF.out (Nat.le_refl _))).mono ?_; rintro e9 w9 ⟨rfl, hf9⟩; replace HF := Lib.hid (HF.out.call hf9 HF.out.size (by simp)); clear hf9)
    go_ret
    exact ⟨rfl, HF.out⟩
  have hn' : ¬ (120 : Int) < (n : Int) := by omega
  have hnd : decide ((120 : Int) < (n : Int)) = false := by simp; omega
  have hnd2 : decide (120 < n) = false := by simp; omega
  go_wp2_with fail
  refine (refTides_any ad b off n cap T W (HR.out.frm HF.out (Nat.le_refl _))).mono ?_; rintro e w1 ⟨rfl, hf1⟩
  have k0 := hf1.blk K0.out K0.out.lt (by simp)
  have k9 := hf1.blk K9.out K9.out.lt (by simp)
  have hf := HF.out.call hf1 HF.out.size (by simp)
  clear hf1 K0 K9 HF
  have K0 := Lib.hid k0
  have K9 := Lib.hid k9
  have HF := Lib.hid hf
  clear hf k9 k0
  cases htb : tideB n T
  · have HTB := Lib.hid htb
    clear htb
    go_wp2_with (go_at_call 18; refine (awake_any _ (HG.out.frm HF.out (Nat.le_refl _))).mono ?_; rintro e9 w9 ⟨rfl, hf9⟩; replace HF := Lib.hid (HF.out.call hf9 HF.out.size (by simp)); clear hf9)
    go_ret
    exact ⟨rfl, HF.out⟩
  have HTB := Lib.hid htb
  clear htb
  go_wp2_with (with_reducible refine atLoad 52 rfl ?_; refine wpList_loadGE rfl rfl rfl (load_gr K0.out) ?_)
  refine (refAground_any g w1).mono ?_; rintro e w2 ⟨rfl, hf1⟩
  have k0 := hf1.blk K0.out K0.out.lt (by simp)
  have k9 := hf1.blk K9.out K9.out.lt (by simp)
  have hf := HF.out.call hf1 HF.out.size (by simp)
  clear hf1 K0 K9 HF
  have K0 := Lib.hid k0
  have K9 := Lib.hid k9
  have HF := Lib.hid hf
  clear hf k9 k0
  cases hgb : grB g
  · have HGB := Lib.hid hgb
    clear hgb
    go_wp2_with (go_at_call 18; refine (awake_any _ (HG.out.frm HF.out (Nat.le_refl _))).mono ?_; rintro e9 w9 ⟨rfl, hf9⟩; replace HF := Lib.hid (HF.out.call hf9 HF.out.size (by simp)); clear hf9)
    go_ret
    exact ⟨rfl, HF.out⟩
  have hT := tide_ok HTB.out
  have hG := gr_ok hgb
  have HGB := Lib.hid hgb
  clear hgb
  go_wp2_with (with_reducible refine atLoad 52 rfl ?_; refine wpList_loadGE rfl rfl rfl (load_gr K0.out) ?_)
  refine (float_any g ad b off n cap T from_ w2 (HR.out.frm HF.out (Nat.le_refl _))).mono ?_; rintro e w3 ⟨hf1, hfl⟩
  have k0 := hf1.blk K0.out K0.out.lt (by simp)
  have k9 := hf1.blk K9.out K9.out.lt (by simp)
  have hf := HF.out.call hf1 HF.out.size (by simp)
  clear hf1 K0 K9 HF hn' hnd hnd2
  have h1 := hT.one
  have had := HR.out.ad (by omega)
  subst had
  obtain ⟨nm, hnm⟩ : ∃ m, m = n - 1 := ⟨_, rfl⟩
  have hnn : (0 : Int) < (n : Int) := by omega
  have hnn0 : 0 < n := by omega
  have hnml : (nm : Int) < (n : Int) := by omega
  have v1 : IntKind.i64.wrap ((n : Int) - 1) = (nm : Int) := by rw [IntWalk.i64_in _ (by omega)]; omega
  have v2 : wrap64 ((n : Int) - 1) = (nm : Int) := by rw [IntWalk.wrap64_in _ (by omega)]; omega
  obtain ⟨t0, ht0⟩ : ∃ x, x = (T 0).1 := ⟨_, rfl⟩
  obtain ⟨te, hte⟩ : ∃ x, x = (T (n - 1)).1 := ⟨_, rfl⟩
  have hcl : ∀ V, Frm w.heap.size [] w V → V.cell? ⟨b, off, none⟩ = some (.int .i64 t0) ∧ V.cell? ⟨b, off + nm * 2, none⟩ = some (.int .i64 te) := fun V hV => by
    have h2 := HR.out.frm hV (Nat.le_refl _)
    have h3 := h2.at_ 0 (by omega) 0 _ rfl
    have h4 := h2.at_ (n - 1) (by omega) 0 _ rfl
    refine ⟨?_, ?_⟩
    · rw [ht0]; simpa [tpC] using h3
    · rw [hte, hnm]; simpa [tpC] using h4
  have b0 := (hT.ok 0 (by omega)).time
  have b1 := (hT.ok (n - 1) (by omega)).time
  have htt : t0 ≤ te := by rw [ht0, hte]; exact hT.le (by omega) (by omega)
  rw [← ht0] at b0
  rw [← hte] at b1
  have d0 := (hcl w3 hf).1
  have d1 := (hcl w3 hf).2
  have hoff : ∀ z, t0 ≤ z → z ≤ te → ∀ V, Frm w.heap.size [] w V → Calls Tryd.prog 31 #[.agg g.cells.toArray, .slice (some ⟨b, off, none⟩) n cap, .int .i64 z] V fun e w' => e = .returned (.bool (offAt g n T z)) ∧ Frm V.heap.size [] V w' := fun z h2 h3 V hV => refOff_any g hG (some ⟨b, off, none⟩) b off n cap T hT z (by rw [← ht0]; exact h2) (by rw [← hte]; exact h3) V (HR.out.frm hV (Nat.le_refl _))
  have K0 := Lib.hid k0
  have K9 := Lib.hid k9
  clear k9 k0
  rcases hfl with ⟨k1, _⟩ | ⟨_, hin, rfl⟩ | ⟨_, hin, hfl⟩
  · exfalso
    rw [HTB.out, HGB.out] at k1; cases k1
  · -- not in the tide
    rw [← ht0, ← hte] at hin
    have hor : from_ < t0 ∨ te < from_ := by
      rcases Int.lt_or_le from_ t0 with h | h
      · exact .inl h
      · rcases Int.lt_or_le te from_ with h3 | h3
        · exact .inr h3
        · rw [inB_iff.2 ⟨h, h3⟩] at hin; cases hin
    clear hcl b0 b1 htt hoff hin ht0 hte hT hG h1 hnm
    by_cases hl : from_ < t0
    · have hld : decide (from_ < t0) = true := by simp [hl]
      clear hor
      have HF := Lib.hid hf
      clear hf
      go_wp2_with (go_at_call 18; refine (awake_any _ (HG.out.frm HF.out (Nat.le_refl _))).mono ?_; rintro e9 w9 ⟨rfl, hf9⟩; replace HF := Lib.hid (HF.out.call hf9 HF.out.size (by simp)); clear hf9)
      go_ret
      exact ⟨rfl, HF.out⟩
    · have hl2 : te < from_ := by omega
      have hld : decide (from_ < t0) = false := by simp [hl]
      have hld2 : decide (te < from_) = true := by simp [hl2]
      clear hor
      have HF := Lib.hid hf
      clear hf
      go_wp2_with (go_at_call 18; refine (awake_any _ (HG.out.frm HF.out (Nat.le_refl _))).mono ?_; rintro e9 w9 ⟨rfl, hf9⟩; replace HF := Lib.hid (HF.out.call hf9 HF.out.size (by simp)); clear hf9)
      go_ret
      exact ⟨rfl, HF.out⟩
  have hib := inB_iff.1 hin
  rw [← ht0, ← hte] at hib
  obtain ⟨al, hal⟩ : ∃ x, x = te - from_ + 1 := ⟨_, rfl⟩
  have hal1 : 1 ≤ al ∧ al ≤ 10000001 := by omega
  obtain ⟨i1, i2, i3, i4⟩ := mod_in (t := t) hal1.1
  obtain ⟨u, hu⟩ : ∃ x, x = from_ + (t.tmod al + al).tmod al := ⟨_, rfl⟩
  obtain ⟨z1, hz1⟩ : ∃ x, x = t.tmod al := ⟨_, rfl⟩
  rw [← hz1] at i1 i2 i3 i4 hu
  obtain ⟨z2, hz2⟩ : ∃ x, x = (z1 + al).tmod al := ⟨_, rfl⟩
  rw [← hz2] at i3 i4 hu
  have hu1 : from_ ≤ u ∧ u ≤ te := by omega
  have a1 : IntKind.i64.wrap (te - from_) = te - from_ := IntWalk.i64_in _ (by omega)
  have a2 : wrap64 (te - from_) = te - from_ := IntWalk.wrap64_in _ (by omega)
  have a3 : IntKind.i64.wrap (te - from_ + 1) = al := by rw [← hal]; exact IntWalk.i64_in _ (by omega)
  have a4 : wrap64 (te - from_ + 1) = al := by rw [← hal]; exact IntWalk.wrap64_in _ (by omega)
  have a5 : IntKind.i64.wrap z1 = z1 := IntWalk.i64_in _ (by omega)
  have a6 : wrap64 z1 = z1 := IntWalk.wrap64_in _ (by omega)
  have a7 : IntKind.i64.wrap (z1 + al) = z1 + al := IntWalk.i64_in _ (by omega)
  have a8 : wrap64 (z1 + al) = z1 + al := IntWalk.wrap64_in _ (by omega)
  have a9 : IntKind.i64.wrap z2 = z2 := IntWalk.i64_in _ (by omega)
  have a10 : wrap64 z2 = z2 := IntWalk.wrap64_in _ (by omega)
  have a11 : IntKind.i64.wrap (from_ + z2) = u := by rw [← hu]; exact IntWalk.i64_in _ (by omega)
  have a12 : wrap64 (from_ + z2) = u := by rw [← hu]; exact IntWalk.wrap64_in _ (by omega)
  have e1 : t.tmod al = z1 := hz1.symm
  have e2 : (z1 + al).tmod al = z2 := hz2.symm
  have al0 : ¬ al = 0 := by omega
  have al1 : (al == 0) = false := by simp; omega
  have al2 : ¬ al = -1 := by omega
  have l0 : ¬ from_ < t0 := by omega
  have l1 : ¬ te < from_ := by omega
  have l2 : decide (from_ < t0) = false := by simp; omega
  have l3 : decide (te < from_) = false := by simp; omega
  have hou := hoff u (by omega) hu1.2
  obtain ⟨ou, houn⟩ : ∃ x, x = offAt g n T u := ⟨_, rfl⟩
  rw [← houn] at hou
  clear hcl hal i1 i2 i3 i4 hu hz1 hz2 hal1 htt
  rcases hfl with ⟨hnev, rfl⟩ | ⟨fa, fb, hsp, rfl⟩
  · -- never
    have hof : ou = false := by rw [houn]; exact hnev u hu1.1 (by rw [← hte]; exact hu1.2)
    subst hof
    clear hnev hib hu1 houn hoff b0 b1 ht0 hte hT hG h1 hnm hin
    have HOU := Lib.hid hou
    have HF := Lib.hid hf
    clear hf hou
    go_wp2_with (first | (with_reducible refine atLoad 52 rfl ?_; refine wpList_loadGE rfl rfl rfl (load_gr K0.out) ?_) | (go_at_call 18; refine (awake_any _ (HG.out.frm HF.out (Nat.le_refl _))).mono ?_; rintro e9 w9 ⟨rfl, hf9⟩; replace HF := Lib.hid (HF.out.call hf9 HF.out.size (by simp)); clear hf9) | (go_at_call 31; refine (HOU.out _ HF.out).mono ?_; rintro e9 w9 ⟨rfl, hf9⟩; replace HF := Lib.hid (HF.out.call hf9 HF.out.size (by simp)); clear hf9))
    go_ret
    exact ⟨rfl, HF.out⟩
  -- off from fa to fb
  rw [← hte] at hsp
  have s1 := hsp.lo
  have s2 := hsp.mid
  have s3 := hsp.hi
  have g1 : ¬ fa < from_ := by omega
  have g2 : ¬ fb < fa := by omega
  have g3 : ¬ te < fb := by omega
  have g4 : decide (fa < from_) = false := by simp; omega
  have g5 : decide (fb < fa) = false := by simp; omega
  have g6 : decide (te < fb) = false := by simp; omega
  have hoa := hoff fa (by omega) (by omega)
  have hob := hoff fb (by omega) (by omega)
  have hya : offAt g n T fa = true := hsp.yes fa (Int.le_refl _) s2
  have hyb : offAt g n T fb = true := hsp.yes fb s2 (Int.le_refl _)
  rw [hya] at hoa
  rw [hyb] at hob
  have hom : from_ < fa → ∀ V, Frm w.heap.size [] w V → Calls Tryd.prog 31 #[.agg g.cells.toArray, .slice (some ⟨b, off, none⟩) n cap, .int .i64 (fa - 1)] V fun e w' => e = .returned (.bool false) ∧ Frm V.heap.size [] V w' := fun h => by
    have := hoff (fa - 1) (by omega) (by omega)
    rw [hsp.no (fa - 1) (by omega) (by omega)] at this
    exact this
  have hop : fb < te → ∀ V, Frm w.heap.size [] w V → Calls Tryd.prog 31 #[.agg g.cells.toArray, .slice (some ⟨b, off, none⟩) n cap, .int .i64 (fb + 1)] V fun e w' => e = .returned (.bool false) ∧ Frm V.heap.size [] V w' := fun h => by
    have := hoff (fb + 1) (by omega) (by omega)
    rw [hsp.stop h] at this
    exact this
  have w1' : IntKind.i64.wrap (fa - 1) = fa - 1 := IntWalk.i64_in _ (by omega)
  have w2' : wrap64 (fa - 1) = fa - 1 := IntWalk.wrap64_in _ (by omega)
  have w3' : IntKind.i64.wrap (fb + 1) = fb + 1 := IntWalk.i64_in _ (by omega)
  have w4' : wrap64 (fb + 1) = fb + 1 := IntWalk.wrap64_in _ (by omega)
  have hex : (u < fa ∧ ou = false) ∨ (fa ≤ u ∧ u ≤ fb ∧ ou = true) ∨ (fb < u) := by
    rcases Int.lt_or_le u fa with h | h
    · exact .inl ⟨h, by rw [houn]; exact hsp.no u hu1.1 h⟩
    · rcases Int.lt_or_le fb u with h3 | h3
      · exact .inr (.inr h3)
      · exact .inr (.inl ⟨h, h3, by rw [houn]; exact hsp.yes u h h3⟩)
  clear houn hoff hya hyb
  have HOU := Lib.hid hou
  have HF := Lib.hid hf
  have HSP := Lib.hid hsp
  have HOA := Lib.hid hoa
  have HOB := Lib.hid hob
  have HOM := Lib.hid hom
  have HOP := Lib.hid hop
  have HTE := Lib.hid hte
  have HT0 := Lib.hid ht0
  have HTT := Lib.hid hT
  have HGO := Lib.hid hG
  have HIN := Lib.hid hin
  have HIB := Lib.hid hib
  have HEX := Lib.hid hex
  have HNM := Lib.hid hnm
  have HS1 := Lib.hid s1
  have HS2 := Lib.hid s2
  have HS3 := Lib.hid s3
  have HG1 := Lib.hid g1
  have HG2 := Lib.hid g2
  have HG3 := Lib.hid g3
  have HG4 := Lib.hid g4
  have HG5 := Lib.hid g5
  have HG6 := Lib.hid g6
  have HW1 := Lib.hid w1'
  have HW2 := Lib.hid w2'
  have HW3 := Lib.hid w3'
  have HW4 := Lib.hid w4'
  clear w4' w3' w2' w1' g6 g5 g4 g3 g2 g1 s3 s2 s1 hnm hex hib hin hG hT ht0 hte hop hom hob hoa hsp hf hou
  go_upto_region 14 with (first | (with_reducible refine atLoad 52 rfl ?_; refine wpList_loadGE rfl rfl rfl (load_gr K0.out) ?_) | (go_at_call 31; refine (HOU.out _ HF.out).mono ?_; rintro e9 w9 ⟨rfl, hf9⟩; replace HF := Lib.hid (HF.out.call hf9 HF.out.size (by simp)); replace K0 := Lib.hid (hf9.blk K0.out K0.out.lt (by simp)); replace K9 := Lib.hid (hf9.blk K9.out K9.out.lt (by simp)); clear hf9))
  clear a1 a2 a3 a4 a5 a6 a7 a8 a9 a10 a11 a12 e1 e2 al0 al1 al2 l0 l1 l2 l3 HOU
  go_cut [160] from 108 to 160 (fun s160 w' => s160 = .bool false ∧ Frm w.heap.size [] w w' ∧ Blk w' c 52 g.cells ∧ Blk w' c9 57 [.int .u16 m0, .int .u16 m1])
  case first =>
    have g1 := HG1.out
    have g2 := HG2.out
    have g3 := HG3.out
    have g4 := HG4.out
    have g5 := HG5.out
    have g6 := HG6.out
    rcases HEX.out with ⟨h1, rfl⟩ | ⟨h1, h2, rfl⟩ | h1
    · have x1 : decide (u < fa) = true := by simp [h1]
      have x2 : ¬ fa ≤ u := by omega
      have x3 : decide (fa ≤ u) = false := by simp; omega
      go_wp2_with (first | (with_reducible refine atLoad 52 rfl ?_; refine wpList_loadGE rfl rfl rfl (load_gr K0.out) ?_) | (go_at_call 31; first | (with_reducible refine (HOA.out _ HF.out).mono ?_; rintro e8 w8 ⟨rfl, hf8⟩; replace HF := Lib.hid (HF.out.call hf8 HF.out.size (by simp)); replace K0 := Lib.hid (hf8.blk K0.out K0.out.lt (by simp)); replace K9 := Lib.hid (hf8.blk K9.out K9.out.lt (by simp)); clear hf8) | (with_reducible refine (HOB.out _ HF.out).mono ?_; rintro e8 w8 ⟨rfl, hf8⟩; replace HF := Lib.hid (HF.out.call hf8 HF.out.size (by simp)); replace K0 := Lib.hid (hf8.blk K0.out K0.out.lt (by simp)); replace K9 := Lib.hid (hf8.blk K9.out K9.out.lt (by simp)); clear hf8)))
      go_meet
      case rel => exact ⟨rfl, HF.out, K0.out, K9.out⟩
    · have x1 : decide (u < fa) = false := by simp; omega
      have x2 : ¬ u < fa := by omega
      have x3 : decide (fa ≤ u) = true := by simp [h1]
      have x4 : decide (u ≤ fb) = true := by simp [h2]
      go_wp2_with (first | (with_reducible refine atLoad 52 rfl ?_; refine wpList_loadGE rfl rfl rfl (load_gr K0.out) ?_) | (go_at_call 31; first | (with_reducible refine (HOA.out _ HF.out).mono ?_; rintro e8 w8 ⟨rfl, hf8⟩; replace HF := Lib.hid (HF.out.call hf8 HF.out.size (by simp)); replace K0 := Lib.hid (hf8.blk K0.out K0.out.lt (by simp)); replace K9 := Lib.hid (hf8.blk K9.out K9.out.lt (by simp)); clear hf8) | (with_reducible refine (HOB.out _ HF.out).mono ?_; rintro e8 w8 ⟨rfl, hf8⟩; replace HF := Lib.hid (HF.out.call hf8 HF.out.size (by simp)); replace K0 := Lib.hid (hf8.blk K0.out K0.out.lt (by simp)); replace K9 := Lib.hid (hf8.blk K9.out K9.out.lt (by simp)); clear hf8)))
      go_meet
      case rel => exact ⟨rfl, HF.out, K0.out, K9.out⟩
    · have s2 := HS2.out
      have x1 : decide (u < fa) = false := by simp; omega
      have x2 : ¬ u < fa := by omega
      have x3 : decide (fa ≤ u) = true := by simp; omega
      have x5 : fa ≤ u := by omega
      have x4 : decide (u ≤ fb) = false := by simp; omega
      have x6 : ¬ u ≤ fb := by omega
      go_wp2_with (first | (with_reducible refine atLoad 52 rfl ?_; refine wpList_loadGE rfl rfl rfl (load_gr K0.out) ?_) | (go_at_call 31; first | (with_reducible refine (HOA.out _ HF.out).mono ?_; rintro e8 w8 ⟨rfl, hf8⟩; replace HF := Lib.hid (HF.out.call hf8 HF.out.size (by simp)); replace K0 := Lib.hid (hf8.blk K0.out K0.out.lt (by simp)); replace K9 := Lib.hid (hf8.blk K9.out K9.out.lt (by simp)); clear hf8) | (with_reducible refine (HOB.out _ HF.out).mono ?_; rintro e8 w8 ⟨rfl, hf8⟩; replace HF := Lib.hid (HF.out.call hf8 HF.out.size (by simp)); replace K0 := Lib.hid (hf8.blk K0.out K0.out.lt (by simp)); replace K9 := Lib.hid (hf8.blk K9.out K9.out.lt (by simp)); clear hf8)))
      go_meet
      case rel => exact ⟨rfl, HF.out, K0.out, K9.out⟩
  obtain ⟨rfl, hf, k0, k9⟩ := hcut
  clear HF K0 K9 HEX HOA HOB
  have HF := Lib.hid hf
  have K0 := Lib.hid k0
  have K9 := Lib.hid k9
  clear k9 k0 hf
  go_upto_region 16 with fail
  go_cut [182] from 161 to 182 (fun s182 w' => s182 = .bool false ∧ Frm w.heap.size [] w w' ∧ Blk w' c 52 g.cells ∧ Blk w' c9 57 [.int .u16 m0, .int .u16 m1])
  case first =>
    have y1 := HW1.out
    have y2 := HW2.out
    have y3 := HW3.out
    have y4 := HW4.out
    by_cases h1 : from_ < fa
    · have x1 : decide (from_ < fa) = true := by simp [h1]
      have hom := HOM.out h1
      by_cases h2 : fb < te
      · have x2 : decide (fb < te) = true := by simp [h2]
        have hop := HOP.out h2
        clear HOM HOP
        have HOM := Lib.hid hom
        have HOP := Lib.hid hop
        clear hop hom
        go_wp2_with (first | (with_reducible refine atLoad 52 rfl ?_; refine wpList_loadGE rfl rfl rfl (load_gr K0.out) ?_) | (go_at_call 31; first | (with_reducible refine (HOM.out _ HF.out).mono ?_; rintro e8 w8 ⟨rfl, hf8⟩; replace HF := Lib.hid (HF.out.call hf8 HF.out.size (by simp)); replace K0 := Lib.hid (hf8.blk K0.out K0.out.lt (by simp)); replace K9 := Lib.hid (hf8.blk K9.out K9.out.lt (by simp)); clear hf8) | (with_reducible refine (HOP.out _ HF.out).mono ?_; rintro e8 w8 ⟨rfl, hf8⟩; replace HF := Lib.hid (HF.out.call hf8 HF.out.size (by simp)); replace K0 := Lib.hid (hf8.blk K0.out K0.out.lt (by simp)); replace K9 := Lib.hid (hf8.blk K9.out K9.out.lt (by simp)); clear hf8)))
        go_meet
        case rel => exact ⟨rfl, HF.out, K0.out, K9.out⟩
      · have x2 : decide (fb < te) = false := by simp [h2]
        clear HOM HOP
        have hop := hom
        have HOM := Lib.hid hom
        have HOP := Lib.hid hop
        clear hop hom
        go_wp2_with (first | (with_reducible refine atLoad 52 rfl ?_; refine wpList_loadGE rfl rfl rfl (load_gr K0.out) ?_) | (go_at_call 31; first | (with_reducible refine (HOM.out _ HF.out).mono ?_; rintro e8 w8 ⟨rfl, hf8⟩; replace HF := Lib.hid (HF.out.call hf8 HF.out.size (by simp)); replace K0 := Lib.hid (hf8.blk K0.out K0.out.lt (by simp)); replace K9 := Lib.hid (hf8.blk K9.out K9.out.lt (by simp)); clear hf8) | (with_reducible refine (HOP.out _ HF.out).mono ?_; rintro e8 w8 ⟨rfl, hf8⟩; replace HF := Lib.hid (HF.out.call hf8 HF.out.size (by simp)); replace K0 := Lib.hid (hf8.blk K0.out K0.out.lt (by simp)); replace K9 := Lib.hid (hf8.blk K9.out K9.out.lt (by simp)); clear hf8)))
        go_meet
        case rel => exact ⟨rfl, HF.out, K0.out, K9.out⟩
    · have x1 : decide (from_ < fa) = false := by simp [h1]
      by_cases h2 : fb < te
      · have x2 : decide (fb < te) = true := by simp [h2]
        have hop := HOP.out h2
        clear HOM HOP
        have hom := hop
        have HOM := Lib.hid hom
        have HOP := Lib.hid hop
        clear hop hom
        go_wp2_with (first | (with_reducible refine atLoad 52 rfl ?_; refine wpList_loadGE rfl rfl rfl (load_gr K0.out) ?_) | (go_at_call 31; first | (with_reducible refine (HOM.out _ HF.out).mono ?_; rintro e8 w8 ⟨rfl, hf8⟩; replace HF := Lib.hid (HF.out.call hf8 HF.out.size (by simp)); replace K0 := Lib.hid (hf8.blk K0.out K0.out.lt (by simp)); replace K9 := Lib.hid (hf8.blk K9.out K9.out.lt (by simp)); clear hf8) | (with_reducible refine (HOP.out _ HF.out).mono ?_; rintro e8 w8 ⟨rfl, hf8⟩; replace HF := Lib.hid (HF.out.call hf8 HF.out.size (by simp)); replace K0 := Lib.hid (hf8.blk K0.out K0.out.lt (by simp)); replace K9 := Lib.hid (hf8.blk K9.out K9.out.lt (by simp)); clear hf8)))
        go_meet
        case rel => exact ⟨rfl, HF.out, K0.out, K9.out⟩
      · have x2 : decide (fb < te) = false := by simp [h2]
        clear HOM HOP
        go_wp2_with fail
        go_meet
        case rel => exact ⟨rfl, HF.out, K0.out, K9.out⟩
  obtain ⟨rfl, hf, k0, k9⟩ := hcut
  clear HF K0 K9 HOM HOP
  have HF := Lib.hid hf
  have K0 := Lib.hid k0
  have K9 := Lib.hid k9
  clear k9 k0 hf
  go_wp2_with (first | (with_reducible refine atLoad 52 rfl ?_; refine wpList_loadGE rfl rfl rfl (load_gr K0.out) ?_) | (with_reducible refine atStore 52 rfl ?_; refine stop_ ?_))
  refine go_on ?_
  refine wpList_storeNew (P := Tryd.prog) (cs := g.cells) rfl rfl rfl rfl rfl info52 (by simp [Gr.cells, Value.oneCell']) ?_
  intro V hF k18 hz1
  obtain ⟨p9, hp9⟩ : ∃ p, p = wc.heap.size := ⟨_, rfl⟩
  have hf := HF.out.call hF HF.out.size (by simp)
  have hb := hF.blk K0.out K0.out.lt (by simp)
  have hb2 := hF.blk K9.out K9.out.lt (by simp)
  have hc9' : c ≠ p9 := fun e => by have := K0.out.lt; omega
  have hc29 : c9 ≠ p9 := fun e => by have := K9.out.lt; omega
  have lw9 : w.heap.size ≤ p9 := by rw [hp9]; exact HF.out.size
  rw [← hp9] at k18 ⊢
  clear hF hz1 hp9 HF K0 K9
  have hm0 := HM0.out
  have hm1 := HM1.out
  have hpl := HGO.out.pull
  have hln := HGO.out.depth
  have a0 : IntKind.i64.wrap m0 = m0 := IntWalk.i64_in _ (by omega)
  have a1 : IntKind.i64.wrap m1 = m1 := IntWalk.i64_in _ (by omega)
  have a2 : IntKind.i64.wrap (g.pull + m0) = g.pull + m0 := IntWalk.i64_in _ (by omega)
  have a3 : IntKind.i64.wrap (g.depth + m1) = g.depth + m1 := IntWalk.i64_in _ (by omega)
  have a4 : wrap64 (g.pull + m0) = g.pull + m0 := IntWalk.wrap64_in _ (by omega)
  have a5 : wrap64 (g.depth + m1) = g.depth + m1 := IntWalk.wrap64_in _ (by omega)
  have hfx : ∀ U, Frm V.heap.size [p9] V U → U.cell? ⟨c, 3, none⟩ = some (.int .i64 g.pull) ∧ U.cell? ⟨c, 1, none⟩ = some (.int .i64 g.depth) ∧ U.cell? ⟨c9, 0, none⟩ = some (.int .u16 m0) ∧ U.cell? ⟨c9, 1, none⟩ = some (.int .u16 m1) := fun U hU => by
    have h1 := hU.blk hb hb.lt (by simpa using hc9')
    have h2 := hU.blk hb2 hb2.lt (by simpa using hc29)
    exact ⟨h1.cell 3, h1.cell 1, h2.cell 0, h2.cell 1⟩
  clear hm0 hm1 hpl hln hb hb2
  have HF := Lib.hid hf
  have K18 := Lib.hid k18
  have HC9N := Lib.hid hc9'
  have HC29 := Lib.hid hc29
  have LW9 := Lib.hid lw9
  have HFX := Lib.hid hfx
  clear hfx lw9 hc29 hc9' k18 hf
  dsimp only [Act.put]
  go_upto_region 19 with fail
  refine wp_region_leftL (fun U => Frm V.heap.size [p9] V U) 17 (by kernel_rfl) ?_
  have hS : Frm V.heap.size [p9] V V.drew := (Frm.refl _ _ V).drew
  have HS := Lib.hid hS
  clear hS
  first | (refine LeftL.run (v := ?_) 0 rfl (by kernel_rfl) rfl (fun _ _ d _ _ h => by cases d <;> exact h) ?_ HS.out ?_; rotate_left; (· intro V hV; obtain ⟨q0, q1, q2, q3⟩ := HFX.out V hV; clear hV; go_simp; rfl); (intro K' hK'; go_simp; refine hK' _ ?_; clear hK' K')) | (refine LeftL.runG (v := ?_) 0 rfl (by kernel_rfl) rfl (fun _ _ d _ _ h => by cases d <;> exact h) ?_ HS.out ?_; rotate_left; (· intro V hV; obtain ⟨q0, q1, q2, q3⟩ := HFX.out V hV; clear hV; go_simp; rfl); (intro K' hK'; go_simp; refine hK' _ ?_; clear hK' K')) | (refine LeftL.take (v := undef) 0 rfl (by kernel_rfl) (fun _ _ d _ _ h => by cases d <;> exact h) (.inr ⟨rfl, rfl⟩) HS.out ?_; (intro K' hK'; go_simp; refine hK' _ ?_; clear hK' K'))
  first | (refine LeftL.run (v := ?_) 1 rfl (by kernel_rfl) rfl (fun _ _ d _ _ h => by cases d <;> exact h) ?_ HS.out ?_; rotate_left; (· intro V hV; obtain ⟨q0, q1, q2, q3⟩ := HFX.out V hV; clear hV; go_simp; rfl); (intro K' hK'; go_simp; refine hK' _ ?_; clear hK' K')) | (refine LeftL.runG (v := ?_) 1 rfl (by kernel_rfl) rfl (fun _ _ d _ _ h => by cases d <;> exact h) ?_ HS.out ?_; rotate_left; (· intro V hV; obtain ⟨q0, q1, q2, q3⟩ := HFX.out V hV; clear hV; go_simp; rfl); (intro K' hK'; go_simp; refine hK' _ ?_; clear hK' K')) | (refine LeftL.take (v := undef) 1 rfl (by kernel_rfl) (fun _ _ d _ _ h => by cases d <;> exact h) (.inr ⟨rfl, rfl⟩) HS.out ?_; (intro K' hK'; go_simp; refine hK' _ ?_; clear hK' K'))
  first | (refine LeftL.run (v := ?_) 2 rfl (by kernel_rfl) rfl (fun _ _ d _ _ h => by cases d <;> exact h) ?_ HS.out ?_; rotate_left; (· intro V hV; obtain ⟨q0, q1, q2, q3⟩ := HFX.out V hV; clear hV; go_simp; rfl); (intro K' hK'; go_simp; refine hK' _ ?_; clear hK' K')) | (refine LeftL.runG (v := ?_) 2 rfl (by kernel_rfl) rfl (fun _ _ d _ _ h => by cases d <;> exact h) ?_ HS.out ?_; rotate_left; (· intro V hV; obtain ⟨q0, q1, q2, q3⟩ := HFX.out V hV; clear hV; go_simp; rfl); (intro K' hK'; go_simp; refine hK' _ ?_; clear hK' K')) | (refine LeftL.take (v := undef) 2 rfl (by kernel_rfl) (fun _ _ d _ _ h => by cases d <;> exact h) (.inr ⟨rfl, rfl⟩) HS.out ?_; (intro K' hK'; go_simp; refine hK' _ ?_; clear hK' K'))
  first | (refine LeftL.run (v := ?_) 3 rfl (by kernel_rfl) rfl (fun _ _ d _ _ h => by cases d <;> exact h) ?_ HS.out ?_; rotate_left; (· intro V hV; obtain ⟨q0, q1, q2, q3⟩ := HFX.out V hV; clear hV; go_simp; rfl); (intro K' hK'; go_simp; refine hK' _ ?_; clear hK' K')) | (refine LeftL.runG (v := ?_) 3 rfl (by kernel_rfl) rfl (fun _ _ d _ _ h => by cases d <;> exact h) ?_ HS.out ?_; rotate_left; (· intro V hV; obtain ⟨q0, q1, q2, q3⟩ := HFX.out V hV; clear hV; go_simp; rfl); (intro K' hK'; go_simp; refine hK' _ ?_; clear hK' K')) | (refine LeftL.take (v := undef) 3 rfl (by kernel_rfl) (fun _ _ d _ _ h => by cases d <;> exact h) (.inr ⟨rfl, rfl⟩) HS.out ?_; (intro K' hK'; go_simp; refine hK' _ ?_; clear hK' K'))
  first | (refine LeftL.run (v := ?_) 4 rfl (by kernel_rfl) rfl (fun _ _ d _ _ h => by cases d <;> exact h) ?_ HS.out ?_; rotate_left; (· intro V hV; obtain ⟨q0, q1, q2, q3⟩ := HFX.out V hV; clear hV; go_simp; rfl); (intro K' hK'; go_simp; refine hK' _ ?_; clear hK' K')) | (refine LeftL.runG (v := ?_) 4 rfl (by kernel_rfl) rfl (fun _ _ d _ _ h => by cases d <;> exact h) ?_ HS.out ?_; rotate_left; (· intro V hV; obtain ⟨q0, q1, q2, q3⟩ := HFX.out V hV; clear hV; go_simp; rfl); (intro K' hK'; go_simp; refine hK' _ ?_; clear hK' K')) | (refine LeftL.take (v := undef) 4 rfl (by kernel_rfl) (fun _ _ d _ _ h => by cases d <;> exact h) (.inr ⟨rfl, rfl⟩) HS.out ?_; (intro K' hK'; go_simp; refine hK' _ ?_; clear hK' K'))
  first | (refine LeftL.run (v := ?_) 5 rfl (by kernel_rfl) rfl (fun _ _ d _ _ h => by cases d <;> exact h) ?_ HS.out ?_; rotate_left; (· intro V hV; obtain ⟨q0, q1, q2, q3⟩ := HFX.out V hV; clear hV; go_simp; rfl); (intro K' hK'; go_simp; refine hK' _ ?_; clear hK' K')) | (refine LeftL.runG (v := ?_) 5 rfl (by kernel_rfl) rfl (fun _ _ d _ _ h => by cases d <;> exact h) ?_ HS.out ?_; rotate_left; (· intro V hV; obtain ⟨q0, q1, q2, q3⟩ := HFX.out V hV; clear hV; go_simp; rfl); (intro K' hK'; go_simp; refine hK' _ ?_; clear hK' K')) | (refine LeftL.take (v := undef) 5 rfl (by kernel_rfl) (fun _ _ d _ _ h => by cases d <;> exact h) (.inr ⟨rfl, rfl⟩) HS.out ?_; (intro K' hK'; go_simp; refine hK' _ ?_; clear hK' K'))
  first | (refine LeftL.run (v := ?_) 6 rfl (by kernel_rfl) rfl (fun _ _ d _ _ h => by cases d <;> exact h) ?_ HS.out ?_; rotate_left; (· intro V hV; obtain ⟨q0, q1, q2, q3⟩ := HFX.out V hV; clear hV; go_simp; rfl); (intro K' hK'; go_simp; refine hK' _ ?_; clear hK' K')) | (refine LeftL.runG (v := ?_) 6 rfl (by kernel_rfl) rfl (fun _ _ d _ _ h => by cases d <;> exact h) ?_ HS.out ?_; rotate_left; (· intro V hV; obtain ⟨q0, q1, q2, q3⟩ := HFX.out V hV; clear hV; go_simp; rfl); (intro K' hK'; go_simp; refine hK' _ ?_; clear hK' K')) | (refine LeftL.take (v := undef) 6 rfl (by kernel_rfl) (fun _ _ d _ _ h => by cases d <;> exact h) (.inr ⟨rfl, rfl⟩) HS.out ?_; (intro K' hK'; go_simp; refine hK' _ ?_; clear hK' K'))
  first | (refine LeftL.run (v := ?_) 7 rfl (by kernel_rfl) rfl (fun _ _ d _ _ h => by cases d <;> exact h) ?_ HS.out ?_; rotate_left; (· intro V hV; obtain ⟨q0, q1, q2, q3⟩ := HFX.out V hV; clear hV; go_simp; rfl); (intro K' hK'; go_simp; refine hK' _ ?_; clear hK' K')) | (refine LeftL.runG (v := ?_) 7 rfl (by kernel_rfl) rfl (fun _ _ d _ _ h => by cases d <;> exact h) ?_ HS.out ?_; rotate_left; (· intro V hV; obtain ⟨q0, q1, q2, q3⟩ := HFX.out V hV; clear hV; go_simp; rfl); (intro K' hK'; go_simp; refine hK' _ ?_; clear hK' K')) | (refine LeftL.take (v := undef) 7 rfl (by kernel_rfl) (fun _ _ d _ _ h => by cases d <;> exact h) (.inr ⟨rfl, rfl⟩) HS.out ?_; (intro K' hK'; go_simp; refine hK' _ ?_; clear hK' K'))
  first | (refine LeftL.run (v := ?_) 8 rfl (by kernel_rfl) rfl (fun _ _ d _ _ h => by cases d <;> exact h) ?_ HS.out ?_; rotate_left; (· intro V hV; obtain ⟨q0, q1, q2, q3⟩ := HFX.out V hV; clear hV; go_simp; rfl); (intro K' hK'; go_simp; refine hK' _ ?_; clear hK' K')) | (refine LeftL.runG (v := ?_) 8 rfl (by kernel_rfl) rfl (fun _ _ d _ _ h => by cases d <;> exact h) ?_ HS.out ?_; rotate_left; (· intro V hV; obtain ⟨q0, q1, q2, q3⟩ := HFX.out V hV; clear hV; go_simp; rfl); (intro K' hK'; go_simp; refine hK' _ ?_; clear hK' K')) | (refine LeftL.take (v := undef) 8 rfl (by kernel_rfl) (fun _ _ d _ _ h => by cases d <;> exact h) (.inr ⟨rfl, rfl⟩) HS.out ?_; (intro K' hK'; go_simp; refine hK' _ ?_; clear hK' K'))
  first | (refine LeftL.run (v := ?_) 9 rfl (by kernel_rfl) rfl (fun _ _ d _ _ h => by cases d <;> exact h) ?_ HS.out ?_; rotate_left; (· intro V hV; obtain ⟨q0, q1, q2, q3⟩ := HFX.out V hV; clear hV; go_simp; rfl); (intro K' hK'; go_simp; refine hK' _ ?_; clear hK' K')) | (refine LeftL.runG (v := ?_) 9 rfl (by kernel_rfl) rfl (fun _ _ d _ _ h => by cases d <;> exact h) ?_ HS.out ?_; rotate_left; (· intro V hV; obtain ⟨q0, q1, q2, q3⟩ := HFX.out V hV; clear hV; go_simp; rfl); (intro K' hK'; go_simp; refine hK' _ ?_; clear hK' K')) | (refine LeftL.take (v := undef) 9 rfl (by kernel_rfl) (fun _ _ d _ _ h => by cases d <;> exact h) (.inr ⟨rfl, rfl⟩) HS.out ?_; (intro K' hK'; go_simp; refine hK' _ ?_; clear hK' K'))
  first | (refine LeftL.run (v := ?_) 10 rfl (by kernel_rfl) rfl (fun _ _ d _ _ h => by cases d <;> exact h) ?_ HS.out ?_; rotate_left; (· intro V hV; obtain ⟨q0, q1, q2, q3⟩ := HFX.out V hV; clear hV; go_simp; rfl); (intro K' hK'; go_simp; refine hK' _ ?_; clear hK' K')) | (refine LeftL.runG (v := ?_) 10 rfl (by kernel_rfl) rfl (fun _ _ d _ _ h => by cases d <;> exact h) ?_ HS.out ?_; rotate_left; (· intro V hV; obtain ⟨q0, q1, q2, q3⟩ := HFX.out V hV; clear hV; go_simp; rfl); (intro K' hK'; go_simp; refine hK' _ ?_; clear hK' K')) | (refine LeftL.take (v := undef) 10 rfl (by kernel_rfl) (fun _ _ d _ _ h => by cases d <;> exact h) (.inr ⟨rfl, rfl⟩) HS.out ?_; (intro K' hK'; go_simp; refine hK' _ ?_; clear hK' K'))
  first | (refine LeftL.run (v := ?_) 11 rfl (by kernel_rfl) rfl (fun _ _ d _ _ h => by cases d <;> exact h) ?_ HS.out ?_; rotate_left; (· intro V hV; obtain ⟨q0, q1, q2, q3⟩ := HFX.out V hV; clear hV; go_simp; rfl); (intro K' hK'; go_simp; refine hK' _ ?_; clear hK' K')) | (refine LeftL.runG (v := ?_) 11 rfl (by kernel_rfl) rfl (fun _ _ d _ _ h => by cases d <;> exact h) ?_ HS.out ?_; rotate_left; (· intro V hV; obtain ⟨q0, q1, q2, q3⟩ := HFX.out V hV; clear hV; go_simp; rfl); (intro K' hK'; go_simp; refine hK' _ ?_; clear hK' K')) | (refine LeftL.take (v := undef) 11 rfl (by kernel_rfl) (fun _ _ d _ _ h => by cases d <;> exact h) (.inr ⟨rfl, rfl⟩) HS.out ?_; (intro K' hK'; go_simp; refine hK' _ ?_; clear hK' K'))
  first | (refine LeftL.run (v := ?_) 12 rfl (by kernel_rfl) rfl (fun _ _ d _ _ h => by cases d <;> exact h) ?_ HS.out ?_; rotate_left; (· intro V hV; obtain ⟨q0, q1, q2, q3⟩ := HFX.out V hV; clear hV; go_simp; rfl); (intro K' hK'; go_simp; refine hK' _ ?_; clear hK' K')) | (refine LeftL.runG (v := ?_) 12 rfl (by kernel_rfl) rfl (fun _ _ d _ _ h => by cases d <;> exact h) ?_ HS.out ?_; rotate_left; (· intro V hV; obtain ⟨q0, q1, q2, q3⟩ := HFX.out V hV; clear hV; go_simp; rfl); (intro K' hK'; go_simp; refine hK' _ ?_; clear hK' K')) | (refine LeftL.take (v := undef) 12 rfl (by kernel_rfl) (fun _ _ d _ _ h => by cases d <;> exact h) (.inr ⟨rfl, rfl⟩) HS.out ?_; (intro K' hK'; go_simp; refine hK' _ ?_; clear hK' K'))
  first | (refine LeftL.run (v := ?_) 13 rfl (by kernel_rfl) rfl (fun _ _ d _ _ h => by cases d <;> exact h) ?_ HS.out ?_; rotate_left; (· intro V hV; obtain ⟨q0, q1, q2, q3⟩ := HFX.out V hV; clear hV; go_simp; rfl); (intro K' hK'; go_simp; refine hK' _ ?_; clear hK' K')) | (refine LeftL.runG (v := ?_) 13 rfl (by kernel_rfl) rfl (fun _ _ d _ _ h => by cases d <;> exact h) ?_ HS.out ?_; rotate_left; (· intro V hV; obtain ⟨q0, q1, q2, q3⟩ := HFX.out V hV; clear hV; go_simp; rfl); (intro K' hK'; go_simp; refine hK' _ ?_; clear hK' K')) | (refine LeftL.take (v := undef) 13 rfl (by kernel_rfl) (fun _ _ d _ _ h => by cases d <;> exact h) (.inr ⟨rfl, rfl⟩) HS.out ?_; (intro K' hK'; go_simp; refine hK' _ ?_; clear hK' K'))
  have k9d : Blk V.drew p9 52 g.cells := K18.out
  have x0 : V.drew.cell? ⟨p9, 3, none⟩ = some (.int .i64 g.pull) := k9d.cell 3
  have y0 := k9d.free 3
  have K9D := Lib.hid k9d
  clear k9d
  refine LeftL.one 14 rfl (by kernel_rfl) ?_
  go_wp2_with fail
  first | refine ⟨fun _ => HS.out, ?_⟩ | refine ⟨HS.out, ?_⟩
  obtain ⟨pa, hpa⟩ : ∃ x, x = min 1000000 (g.pull + m0) := ⟨_, rfl⟩
  obtain ⟨pl, hpl⟩ : ∃ x, x = min 100000 (g.depth + m1) := ⟨_, rfl⟩
  rw [← hpa, ← hpl]
  have HPA := Lib.hid hpa
  have HPLN := Lib.hid hpl
  clear hpl hpa
  refine LeftL.one 15 rfl (by kernel_rfl) ?_
  go_wp2_with fail
  have hS2 : Frm V.heap.size [p9] V (V.drew.setCell ⟨p9, 3, none⟩ (.int .i64 pa)) := HS.out.setCell (p := ⟨p9, 3, none⟩) (.inl (by simp)) _
  have j9 : Blk (V.drew.setCell ⟨p9, 3, none⟩ (.int .i64 pa)) p9 52 [.int .i64 g.draught, .int .i64 g.depth, .int .i64 g.tpc, .int .i64 pa, .int .i64 g.fric] := K9D.out.set 3 _
  first | refine ⟨fun _ => hS2, ?_⟩ | refine ⟨hS2, ?_⟩
  refine namedLL ?_; intro U1 hU1
  replace hS2 : Frm V.heap.size [p9] V U1 := by rw [hU1]; exact hS2
  replace j9 : Blk U1 p9 52 [.int .i64 g.draught, .int .i64 g.depth, .int .i64 g.tpc, .int .i64 pa, .int .i64 g.fric] := by rw [hU1]; exact j9
  clear hU1
  clear HS x0 y0 K9D
  have x1 : U1.cell? ⟨p9, 1, none⟩ = some (.int .i64 g.depth) := j9.cell 1
  have y1 := j9.free 1
  have HS := Lib.hid hS2
  have J9 := Lib.hid j9
  clear j9 hS2
  refine LeftL.one 16 rfl (by kernel_rfl) ?_
  go_wp2_with fail
  first | refine ⟨fun _ => HS.out, ?_⟩ | refine ⟨HS.out, ?_⟩
  refine LeftL.one 17 rfl (by kernel_rfl) ?_
  go_wp2_with fail
  have hS3 : Frm V.heap.size [p9] V (U1.setCell ⟨p9, 1, none⟩ (.int .i64 pl)) := HS.out.setCell (p := ⟨p9, 1, none⟩) (.inl (by simp)) _
  have j9 : Blk (U1.setCell ⟨p9, 1, none⟩ (.int .i64 pl)) p9 52 (moreG g m0 m1).cells := by
    have e : (moreG g m0 m1).cells = [.int .i64 g.draught, .int .i64 pl, .int .i64 g.tpc, .int .i64 pa, .int .i64 g.fric] := by rw [HPA.out, HPLN.out]; rfl
    rw [e]
    exact J9.out.set 1 (.int .i64 pl)
  first | refine ⟨fun h => absurd rfl h, ?_⟩ | refine ⟨fun _ => hS3, ?_⟩ | refine ⟨hS3, ?_⟩
  refine namedLL ?_; intro U2 hU2
  replace hS3 : Frm V.heap.size [p9] V U2 := by rw [hU2]; exact hS3
  replace j9 : Blk U2 p9 52 (moreG g m0 m1).cells := by rw [hU2]; exact j9
  clear hU2
  refine LeftL.done (by kernel_rfl) ?_
  clear x1 y1 J9 HS HFX a0 a1 a2 a3 a4 a5
  have hf := HF.out.call hS3 HF.out.size (fun x hx hm => by have := LW9.out; simp at hm; omega)
  clear hS3 HF K18
  have HF := Lib.hid hf
  have K9 := Lib.hid j9
  clear j9 hf
  go_wp2_with (with_reducible refine atLoad 52 rfl ?_; refine wpList_loadE rfl rfl rfl (load_gr K9.out) ?_)
  refine (float_any _ (some ⟨b, off, none⟩) b off n cap T from_ U2 (HR.out.frm HF.out (Nat.le_refl _))).mono ?_; rintro e U3 hfl
  obtain ⟨hf1, r, k, rfl, hrf⟩ := float_more HM0.out.1 HM1.out.1 HGB.out HTB.out HIN.out (by rw [← HTE.out]; exact HSP.out) hfl
  have hf := HF.out.call hf1 HF.out.size (by simp)
  have hrd : decide (r ≤ fa) = true := by simp [hrf]
  clear hf1 hfl HF K9
  have HF := Lib.hid hf
  clear hf
  go_wp2_with fail
  refine (awake_any U3 (HG.out.frm HF.out (Nat.le_refl _))).mono ?_; rintro e U4 ⟨rfl, hf1⟩
  have hf := HF.out.call hf1 HF.out.size (by simp)
  clear hf1 HF
  have HF := Lib.hid hf
  clear hf
  go_wp2_with fail
  go_ret
  exact ⟨rfl, HF.out⟩
/-! the row -/
set_option maxRecDepth 100000 in
theorem careTides_lifted (os : Os) (started : os.Started) (H : Type) (enc : TypeId × Value → H) :
    ReturnsInHanded {} Tryd.checked os 8 .any (fun w args => (Rows.careTidesSpec.pre enc Tryd.prog Tryd.f8 [] false w args ∧ laidMetH Tryd.prog laidR w) ∧ sizedMet enc Tryd.prog Tryd.f8 (OpenSpec.ofChange Rows.careTidesSpec) false w args) (Rows.careTidesSpec.post enc Tryd.prog Tryd.f8 false true false false) := by
  refine law_liftL (fn := Tryd.f8) (s := Rows.careTidesSpec) started 5 (by kernel_rfl) Tryd.func8
      (ChangeSpec.witness_shaped (enc := enc) (C := Tryd.checked) (os := os) (X := fun w _ => laidMetH Tryd.prog laidR w) false (World.doorLaid Tryd.prog 400 os)
        #[.agg #[.int .i64 0, .int .i64 0, .int .i64 0, .int .i64 0, .int .i64 0], .slice none 0 0, .int .i64 0, .int .i64 0, .agg #[.int .u16 0, .int .u16 0]] 8 rfl
        (World.shaped_of_RefB (by kernel_rfl) (by kernel_rfl)) (by kernel_rfl) (by kernel_rfl) (by kernel_rfl) (door_met os _))
      (by rw [Tryd.params8]; decide +kernel) (by rw [Tryd.params8]; rfl) (by kernel_rfl) rfl (fun ds h => by match ds, h with | [d1, d2, d3, d4, d5], _ => rfl) ?_
  intro W base args ds ps hval hA hgl
  rw [Tryd.params8] at hA hval
  obtain ⟨v0, vs0, d0, ds0, p0, q0, hargs, rfl, rfl, h0, r0⟩ := trodAll_cons hA
  obtain ⟨v1, vs1, d1, ds1, p1, q1, rfl, rfl, rfl, h1, r1⟩ := trodAll_cons r0
  obtain ⟨v2, vs2, d2, ds2, p2, q2, rfl, rfl, rfl, h2, r2⟩ := trodAll_cons r1
  obtain ⟨v3, vs3, d3, ds3, p3, q3, rfl, rfl, rfl, h3, r3⟩ := trodAll_cons r2
  obtain ⟨v4, vs4, d4, ds4, p4, q4, rfl, rfl, rfl, h4, r4⟩ := trodAll_cons r3
  obtain ⟨rfl, rfl, rfl⟩ := trodAll_nil r4
  obtain rfl : args = #[v0, v1, v2, v3, v4] := by cases args; simp_all
  obtain ⟨g, rfl⟩ := open_ground (hval 0 52 v0 rfl rfl)
  obtain ⟨ad, len, cap, b, off, T, rfl, hr⟩ := open_tides (hval 1 53 v1 rfl rfl) h1
  obtain ⟨from_, rfl⟩ := okWide_int Tryd.underlying3 (hval 2 3 v2 rfl rfl)
  obtain ⟨t, rfl⟩ := okWide_int Tryd.underlying3 (hval 3 3 v3 rfl rfl)
  obtain ⟨m0, m1, rfl, hm0, hm1⟩ := open_u16s2 (hval 4 57 v4 rfl rfl) h4
  exact tides_walk g ad b off len cap T from_ t m0 m1 hm0 hm1 W hr hgl

theorem careTides_over : Rows.CareTidesSaid :=
  OpenClaim.holds_of_wide 8 Tryd.f8 rfl rfl rfl rfl rfl rfl rfl ⟨rfl, rfl, rfl, rfl, rfl⟩ rfl rfl rfl rfl rfl (by kernel_rfl) Tryd.func8 (by kernel_rfl)
    (of_decide_eq_true (by kernel_rfl)) (by unfold Func.isWrapper; first | (rw [if_pos (by decide +kernel)]; kernel_rfl) | (rw [if_neg (by decide +kernel)]; exact ⟨rfl, rfl⟩))
    (fun os started H enc _ => careTides_lifted os started H enc)
end Go.Proofs.YtfmigicmfolbjaaDoor
