/-
  The stability of any hull with water in any tanks, and which tanks have to be empty, are the document's.
-/
import Derived.Test.YtfmigicmfolbjaaDoorW6
import Derived.Test.YtfmigicmfolbjaaDoorP3
namespace Go.Proofs.YtfmigicmfolbjaaDoor
set_option linter.all false
set_option linter.unusedSimpArgs false
set_option linter.unusedVariables false
open Go.ChangeShapes Go.WideShapes Go.ChangeAt Go.RowKit

theorem stab_same (h : Hu) (n : Nat) (L : Nat → Ta) : ∃ x y : Int, ∀ e, StabilityIs h n L e → e = .returned (.tuple #[.int .i64 x, .int .i64 y]) := by
  by_cases hs : shipE h n L = 0
  · exact ⟨stabZ h (tasL n L), 0, fun e he => he.elim (fun h => absurd hs h.1) fun h => h.2⟩
  · exact ⟨0, shipE h n L, fun e he => he.elim (fun h => h.2) fun h => absurd h.1 hs⟩
/-- A list of numbers, and a reason. -/
def ListIs (A : List Nat) (k : Int) (w w' : World) (e : Ending) : Prop := ∃ ad cap own, e = .returned (.tuple #[.slice ad A.length cap, .int .i64 k]) ∧ Sl w' 3 1 (.slice ad A.length cap) A.length (intsC A) own ∧ ∀ b, own = some b → w.heap.size ≤ b
theorem listIs {A : List Nat} {k : Int} {w w' : World} {e : Ending} {v : Value} {own : Option Nat} (h : e = .returned (.tuple #[v, .int .i64 k])) (hs : Sl w' 3 1 v A.length (intsC A) own) (ho : ∀ b, own = some b → w.heap.size ≤ b) : ListIs A k w w' e := by
  obtain ⟨ad, cap, rfl⟩ := hs.form
  exact ⟨ad, cap, own, h, hs, ho⟩
theorem listNo {k : Int} {w w' : World} {e : Ending} (h : e = .returned (.tuple #[.slice none 0 0, .int .i64 k])) : ListIs [] k w w' e := ⟨none, 0, none, h, Sl.nil _ _ _, fun b hb => by cases hb⟩
theorem drain_same (h : Hu) (n : Nat) (L : Nat → Ta) (m : Int) : ∃ A k, ∀ w w' e, DrainIsR h n L m w w' e → ListIs A k w w' e := by
  by_cases hs : shipE h n L = 0
  · cases hi : inB m (-10000) 10000
    · refine ⟨[], 4, fun w w' e he => ?_⟩
      rcases he with ⟨h1, _⟩ | ⟨_, _, h1⟩ | ⟨_, h1, _⟩ | ⟨_, h1, _⟩
      · exact absurd hs h1
      · exact listNo h1
      · rw [hi] at h1; cases h1
      · rw [hi] at h1; cases h1
    · cases hd : drainF n (goodB h n L m) (2 ^ n) with
      | none =>
        refine ⟨[], 7, fun w w' e he => ?_⟩
        rcases he with ⟨h1, _⟩ | ⟨_, h1, _⟩ | ⟨_, _, _, h1⟩ | ⟨_, _, A, h1, _⟩
        · exact absurd hs h1
        · rw [hi] at h1; cases h1
        · exact listNo h1
        · rw [hd] at h1; cases h1
      | some A =>
        refine ⟨A, 0, fun w w' e he => ?_⟩
        rcases he with ⟨h1, _⟩ | ⟨_, h1, _⟩ | ⟨_, _, h1, _⟩ | ⟨_, _, B, h1, v, own, h2, h3, h4⟩
        · exact absurd hs h1
        · rw [hi] at h1; cases h1
        · rw [hd] at h1; cases h1
        · rw [hd] at h1; cases h1
          exact listIs h2 h3 h4
  · refine ⟨[], shipE h n L, fun w w' e he => ?_⟩
    rcases he with ⟨_, h1⟩ | ⟨h1, _⟩ | ⟨h1, _⟩ | ⟨h1, _⟩
    · exact listNo h1
    · exact absurd h1 hs
    · exact absurd h1 hs
    · exact absurd h1 hs
set_option maxRecDepth 100000 in
set_option maxHeartbeats 8000000 in
theorem hulls_walk (h : Hu) (ad : Option Addr) (b off n cap : Nat) (L : Nat → Ta) (m : Int) (w : World) (hr : Rw w 4 ad b off n fun i => (L i).cells) (hg : Glob w) :
    Calls Tryd.prog 5 #[.agg h.cells.toArray, .slice ad n cap, .int .i64 m] w fun e w' => e = .returned (.bool true) ∧ Frm w.heap.size [] w w' := by
  have hf0 := Tryd.func5
  obtain ⟨x, y, hxy⟩ := stab_same h n L
  obtain ⟨A, k, hAk⟩ := drain_same h n L m
  have HR := Lib.hid hr
  have HG := Lib.hid hg
  have HXY := Lib.hid hxy
  have HAK := Lib.hid hAk
  clear hAk hxy hg hr
  go_enter Tryd.func5, Tryd.ntmps5
  go_upto_region 1 with fail
  refine namedC ?_; intro W hW
  obtain ⟨c, hc⟩ : ∃ c, c = w.heap.size := ⟨_, rfl⟩
  have k0 : Blk W c 41 h.cells := by rw [hW, hc]; exact Blk.new w 41 h.cells
  have hf : Frm w.heap.size [] w W := by rw [hW]; repeat (first | with_reducible exact Frm.refl _ _ _ | with_reducible refine Frm.drewN ?_ | with_reducible refine Frm.drew ?_ | ((with_reducible refine Frm.setCell' ?_ ?_); · first | (left; simp; done) | (right; simp; done) | (right; simp; omega)) | ((with_reducible refine Frm.alloc' ?_ ?_); · first | exact Nat.le_refl _ | (simp; done) | (simp; omega)))
  clear hW hf0
  rw [← hc]
  clear hc
  have K0 := Lib.hid k0
  have HF := Lib.hid hf
  clear hf k0
  by_cases hn : 8 < n
  · have hn' : (8 : Int) < (n : Int) := by omega
    go_wp2_with (go_at_call 18; refine (awake_any _ (HG.out.frm HF.out (Nat.le_refl _))).mono ?_; rintro e9 w9 ⟨rfl, hf9⟩; replace HF := Lib.hid (HF.out.call hf9 HF.out.size (by simp)); clear hf9)
    go_ret
    exact ⟨rfl, HF.out⟩
  have hn' : ¬ (8 : Int) < (n : Int) := by omega
  go_wp2_with (with_reducible refine atLoad 41 rfl ?_; refine wpList_loadE rfl rfl rfl (load_hu K0.out) ?_)
  refine (stability_any h ad b off n cap L W (HR.out.frm HF.out (Nat.le_refl _))).mono ?_; rintro e w1 ⟨he, hf1⟩
  obtain rfl := HXY.out e he
  have k0 := hf1.blk K0.out K0.out.lt (by simp)
  have hf := HF.out.call hf1 HF.out.size (by simp)
  clear he hf1 K0 HF
  have K0 := Lib.hid k0
  have HF := Lib.hid hf
  clear hf k0
  go_wp2_with (with_reducible refine atLoad 41 rfl ?_; refine wpList_loadE rfl rfl rfl (load_hu K0.out) ?_)
  refine (refStability_any h ad b off n cap L w1 (HR.out.frm HF.out (Nat.le_refl _))).mono ?_; rintro e w2 ⟨he, hf1⟩
  obtain rfl := HXY.out e he
  have k0 := hf1.blk K0.out K0.out.lt (by simp)
  have hf := HF.out.call hf1 HF.out.size (by simp)
  clear he hf1 K0 HF
  have K0 := Lib.hid k0
  have HF := Lib.hid hf
  clear hf k0
  go_wp2_with (with_reducible refine atLoad 41 rfl ?_; refine wpList_loadE rfl rfl rfl (load_hu K0.out) ?_)
  refine (drain_any h ad b off n cap L m w2 (HR.out.frm HF.out (Nat.le_refl _)) (HG.out.frm HF.out (Nat.le_refl _))).mono ?_; rintro e w3 ⟨he, hf1⟩
  obtain ⟨a1, c1, o1, rfl, hs1, _⟩ := HAK.out _ _ _ he
  have k0 := hf1.blk K0.out K0.out.lt (by simp)
  have hf := HF.out.call hf1 HF.out.size (by simp)
  obtain ⟨l, hl⟩ : ∃ l, l = A.length := ⟨_, rfl⟩
  rw [← hl] at hs1 ⊢
  clear he hf1 K0 HF
  have K0 := Lib.hid k0
  have HF := Lib.hid hf
  have HS1 := Lib.hid hs1
  have HL := Lib.hid hl
  clear hl hs1 hf k0
  go_wp2_with (with_reducible refine atLoad 41 rfl ?_; refine wpList_loadE rfl rfl rfl (load_hu K0.out) ?_)
  refine (refDrain_any h ad b off n cap L m w3 (HR.out.frm HF.out (Nat.le_refl _))).mono ?_; rintro e w4 ⟨he, hf1⟩
  obtain ⟨a2, c2, o2, rfl, hs2, _⟩ := HAK.out _ _ _ he
  have hf := HF.out.call hf1 HF.out.size (by simp)
  have hs1 := HS1.out.frm hf1 (fun b hb => HS1.out.lt b hb) (by simp)
  rw [← HL.out] at hs2 ⊢
  have hin : Calls Tryd.prog 17 #[.slice a1 l c1, .slice a2 l c2] w4 fun e w' => e = .returned (.bool true) ∧ Frm w4.heap.size [] w4 w' := ints_sl (l := A) (by rw [← HL.out]; exact hs1) (by rw [← HL.out]; exact hs2)
  clear he hf1 K0 HF HS1 hs1 hs2
  have HF := Lib.hid hf
  have HIN := Lib.hid hin
  clear hin hf
  go_wp2_with (first | (go_at_call 17; refine HIN.out.mono ?_; rintro e9 w9 ⟨rfl, hf9⟩; replace HF := Lib.hid (HF.out.call hf9 HF.out.size (by simp)); clear hf9) | (go_at_call 18; refine (awake_any _ (HG.out.frm HF.out (Nat.le_refl _))).mono ?_; rintro e9 w9 ⟨rfl, hf9⟩; replace HF := Lib.hid (HF.out.call hf9 HF.out.size (by simp)); clear hf9))
  go_ret
  exact ⟨rfl, HF.out⟩
/-! the row -/
set_option maxRecDepth 100000 in
theorem careHulls_lifted (os : Os) (started : os.Started) (H : Type) (enc : TypeId × Value → H) :
    ReturnsInHanded {} Tryd.checked os 5 .any (fun w args => (Rows.careHullsSpec.pre enc Tryd.prog Tryd.f5 [] false w args ∧ laidMetH Tryd.prog laidR w) ∧ sizedMet enc Tryd.prog Tryd.f5 (OpenSpec.ofChange Rows.careHullsSpec) false w args) (Rows.careHullsSpec.post enc Tryd.prog Tryd.f5 false true false false) := by
  refine law_liftL (fn := Tryd.f5) (s := Rows.careHullsSpec) started 3 (by kernel_rfl) Tryd.func5
      (ChangeSpec.witness_shaped (enc := enc) (C := Tryd.checked) (os := os) (X := fun w _ => laidMetH Tryd.prog laidR w) false (World.doorLaid Tryd.prog 400 os)
        #[.agg #[.int .i64 0, .int .i64 0, .int .i64 0], .slice none 0 0, .int .i64 0] 8 rfl
        (World.shaped_of_RefB (by kernel_rfl) (by kernel_rfl)) (by kernel_rfl) (by kernel_rfl) (by kernel_rfl) (door_met os _))
      (by rw [Tryd.params5]; decide +kernel) (by rw [Tryd.params5]; rfl) (by kernel_rfl) rfl (fun ds h => by match ds, h with | [d1, d2, d3], _ => rfl) ?_
  intro W base args ds ps hval hA hgl
  rw [Tryd.params5] at hA hval
  obtain ⟨v0, vs0, d0, ds0, p0, q0, hargs, rfl, rfl, h0, r0⟩ := trodAll_cons hA
  obtain ⟨v1, vs1, d1, ds1, p1, q1, rfl, rfl, rfl, h1, r1⟩ := trodAll_cons r0
  obtain ⟨v2, vs2, d2, ds2, p2, q2, rfl, rfl, rfl, h2, r2⟩ := trodAll_cons r1
  obtain ⟨rfl, rfl, rfl⟩ := trodAll_nil r2
  obtain rfl : args = #[v0, v1, v2] := by cases args; simp_all
  obtain ⟨h, rfl⟩ := open_hull (hval 0 41 v0 rfl rfl)
  obtain ⟨ad, len, cap, b, off, L, rfl, hr⟩ := open_tanks (hval 1 42 v1 rfl rfl) h1
  obtain ⟨m, rfl⟩ := okWide_int Tryd.underlying3 (hval 2 3 v2 rfl rfl)
  exact hulls_walk h ad b off len cap L m W hr hgl

theorem careHulls_over : Rows.CareHullsSaid :=
  OpenClaim.holds_of_wide 5 Tryd.f5 rfl rfl rfl rfl rfl rfl rfl ⟨rfl, rfl, rfl, rfl, rfl⟩ rfl rfl rfl rfl rfl (by kernel_rfl) Tryd.func5 (by kernel_rfl)
    (of_decide_eq_true (by kernel_rfl)) (by unfold Func.isWrapper; first | (rw [if_pos (by decide +kernel)]; kernel_rfl) | (rw [if_neg (by decide +kernel)]; exact ⟨rfl, rfl⟩))
    (fun os started H enc _ => careHulls_lifted os started H enc)
end Go.Proofs.YtfmigicmfolbjaaDoor
