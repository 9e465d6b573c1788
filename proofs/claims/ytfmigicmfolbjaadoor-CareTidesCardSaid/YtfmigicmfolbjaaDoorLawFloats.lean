/-
  When any ship comes off the ground with any tide is the document's, or why it does not.
-/
import Derived.Test.YtfmigicmfolbjaaDoorD3
import Derived.Test.YtfmigicmfolbjaaDoorP3
namespace Go.Proofs.YtfmigicmfolbjaaDoor
set_option linter.all false
set_option linter.unusedSimpArgs false
set_option linter.unusedVariables false
open Go.ChangeShapes Go.WideShapes Go.ChangeAt Go.RowKit

theorem float_out {g : Gr} {n : Nat} {T : Nat → Int × Int} {from_ : Int} {w w' : World} {e : Ending} (h : FloatIs g n T from_ w w' e) : Frm w.heap.size [] w w' ∧ ∃ r k z : Int, e = .returned (.tuple #[.int .i64 r, .int .i64 k, .int .i64 z]) ∧ ∀ w1 w1' e', FloatIs g n T from_ w1 w1' e' → e' = e := by
  obtain ⟨hf, h⟩ := h
  have hu : ∀ w1 w1' e', FloatIs g n T from_ w1 w1' e' → e' = e := fun w1 w1' e' ⟨_, h'⟩ => by
    rcases h with ⟨h1, rfl⟩ | ⟨h1, h2, rfl⟩ | ⟨h1, h2, (⟨h3, rfl⟩ | ⟨f, l, h3, rfl⟩)⟩
    · rcases h' with ⟨k1, rfl⟩ | ⟨k1, _⟩ | ⟨k1, _⟩
      · rfl
      · rw [h1] at k1; cases k1
      · rw [h1] at k1; cases k1
    · rcases h' with ⟨k1, _⟩ | ⟨k1, k2, rfl⟩ | ⟨k1, k2, _⟩
      · rw [h1] at k1; cases k1
      · rfl
      · rw [h2] at k2; cases k2
    · rcases h' with ⟨k1, _⟩ | ⟨k1, k2, _⟩ | ⟨k1, k2, (⟨k3, rfl⟩ | ⟨_, _, k3, _⟩)⟩
      · rw [h1] at k1; cases k1
      · rw [h2] at k2; cases k2
      · rfl
      · exact (Never.not h3 k3).elim
    · rcases h' with ⟨k1, _⟩ | ⟨k1, k2, _⟩ | ⟨k1, k2, (⟨k3, _⟩ | ⟨f2, l2, k3, rfl⟩)⟩
      · rw [h1] at k1; cases k1
      · rw [h2] at k2; cases k2
      · exact (Never.not k3 h3).elim
      · obtain ⟨rfl, rfl⟩ := Span.unique h3 k3
        rfl
  refine ⟨hf, ?_⟩
  rcases h with ⟨_, rfl⟩ | ⟨_, _, rfl⟩ | ⟨_, _, (⟨_, rfl⟩ | ⟨f, l, _, rfl⟩)⟩
  · exact ⟨_, _, _, rfl, hu⟩
  · exact ⟨_, _, _, rfl, hu⟩
  · exact ⟨_, _, _, rfl, hu⟩
  · exact ⟨_, _, _, rfl, hu⟩
set_option maxRecDepth 100000 in
set_option maxHeartbeats 4000000 in
theorem floats_walk (g : Gr) (ad : Option Addr) (b off n cap : Nat) (T : Nat → Int × Int) (from_ : Int) (w : World) (hr : Rw w 2 ad b off n fun i => tpC (T i)) (hg : Glob w) :
    Calls Tryd.prog 7 #[.agg g.cells.toArray, .slice ad n cap, .int .i64 from_] w fun e w' => e = .returned (.bool true) ∧ Frm w.heap.size [] w w' := by
  have hf0 := Tryd.func7
  have HG := Lib.hid hg
  have HR := Lib.hid hr
  clear hr hg
  go_enter Tryd.func7, Tryd.ntmps7
  go_upto_region 1 with fail
  refine namedC ?_; intro W hW
  obtain ⟨c, hc⟩ : ∃ c, c = w.heap.size := ⟨_, rfl⟩
  have k0 : Blk W c 52 g.cells := by rw [hW, hc]; exact Blk.new w 52 g.cells
  have hf : Frm w.heap.size [] w W := by rw [hW]; repeat (first | with_reducible exact Frm.refl _ _ _ | with_reducible refine Frm.drewN ?_ | with_reducible refine Frm.drew ?_ | ((with_reducible refine Frm.setCell' ?_ ?_); · first | (left; simp; done) | (right; simp; done) | (right; simp; omega)) | ((with_reducible refine Frm.alloc' ?_ ?_); · first | exact Nat.le_refl _ | (simp; done) | (simp; omega)))
  clear hW hf0
  rw [← hc]
  have K0 := Lib.hid k0
  have HF := Lib.hid hf
  have HC := Lib.hid hc
  clear hc hf k0
  by_cases hn : 120 < n
  · have hn' : (120 : Int) < (n : Int) := by omega
    go_wp2_with (go_at_call 18; refine (awake_any _ (HG.out.frm HF.out (Nat.le_refl _))).mono ?_; rintro e w3 ⟨rfl, hf1⟩; replace HF := Lib.hid (HF.out.call hf1 HF.out.size (by simp)); clear hf1)
    go_ret
    exact ⟨rfl, HF.out⟩
  have hn' : ¬ (120 : Int) < (n : Int) := by omega
  go_wp2_with (with_reducible refine atLoad 52 rfl ?_; refine wpList_loadE rfl rfl rfl (load_gr K0.out) ?_)
  refine (float_any g ad b off n cap T from_ W (HR.out.frm HF.out (Nat.le_refl _))).mono ?_; rintro e w1 hfl
  obtain ⟨hf1, r, k, z, rfl, hu⟩ := float_out hfl
  have k0 := hf1.blk K0.out K0.out.lt (by simp)
  have hf := HF.out.call hf1 HF.out.size (by simp)
  clear hf1 hfl K0 HF hn'
  have K0 := Lib.hid k0
  have HF := Lib.hid hf
  have HU := Lib.hid hu
  clear hu hf k0
  go_wp2_with (with_reducible refine atLoad 52 rfl ?_; refine wpList_loadE rfl rfl rfl (load_gr K0.out) ?_)
  refine (refFloat_any g ad b off n cap T from_ w1 (HR.out.frm HF.out (Nat.le_refl _))).mono ?_; rintro e w2 hfl
  obtain rfl := HU.out _ _ _ hfl
  have hf := HF.out.call hfl.1 HF.out.size (by simp)
  clear hfl K0 HF HU
  have HF := Lib.hid hf
  clear hf
  go_wp2_with fail
  refine (awake_any w2 (HG.out.frm HF.out (Nat.le_refl _))).mono ?_; rintro e w3 ⟨rfl, hf1⟩
  have hf := HF.out.call hf1 HF.out.size (by simp)
  clear hf1 HF
  have HF := Lib.hid hf
  clear hf
  go_wp2_with fail
  go_ret
  exact ⟨rfl, HF.out⟩
/-! the row -/
set_option maxRecDepth 100000 in
theorem careFloats_lifted (os : Os) (started : os.Started) (H : Type) (enc : TypeId × Value → H) :
    ReturnsInHanded {} Tryd.checked os 7 .any (fun w args => (Rows.careFloatsSpec.pre enc Tryd.prog Tryd.f7 [] false w args ∧ laidMetH Tryd.prog laidR w) ∧ sizedMet enc Tryd.prog Tryd.f7 (OpenSpec.ofChange Rows.careFloatsSpec) false w args) (Rows.careFloatsSpec.post enc Tryd.prog Tryd.f7 false true false false) := by
  refine law_liftL (fn := Tryd.f7) (s := Rows.careFloatsSpec) started 3 (by kernel_rfl) Tryd.func7
      (ChangeSpec.witness_shaped (enc := enc) (C := Tryd.checked) (os := os) (X := fun w _ => laidMetH Tryd.prog laidR w) false (World.doorLaid Tryd.prog 400 os)
        #[.agg #[.int .i64 0, .int .i64 0, .int .i64 0, .int .i64 0, .int .i64 0], .slice none 0 0, .int .i64 0] 8 rfl
        (World.shaped_of_RefB (by kernel_rfl) (by kernel_rfl)) (by kernel_rfl) (by kernel_rfl) (by kernel_rfl) (door_met os _))
      (by rw [Tryd.params7]; decide +kernel) (by rw [Tryd.params7]; rfl) (by kernel_rfl) rfl (fun ds h => by match ds, h with | [d1, d2, d3], _ => rfl) ?_
  intro W base args ds ps hval hA hgl
  rw [Tryd.params7] at hA hval
  obtain ⟨v0, vs0, d0, ds0, p0, q0, hargs, rfl, rfl, h0, r0⟩ := trodAll_cons hA
  obtain ⟨v1, vs1, d1, ds1, p1, q1, rfl, rfl, rfl, h1, r1⟩ := trodAll_cons r0
  obtain ⟨v2, vs2, d2, ds2, p2, q2, rfl, rfl, rfl, h2, r2⟩ := trodAll_cons r1
  obtain ⟨rfl, rfl, rfl⟩ := trodAll_nil r2
  obtain rfl : args = #[v0, v1, v2] := by cases args; simp_all
  obtain ⟨g, rfl⟩ := open_ground (hval 0 52 v0 rfl rfl)
  obtain ⟨ad, len, cap, b, off, T, rfl, hr⟩ := open_tides (hval 1 53 v1 rfl rfl) h1
  obtain ⟨from_, rfl⟩ := okWide_int Tryd.underlying3 (hval 2 3 v2 rfl rfl)
  exact floats_walk g ad b off len cap T from_ W hr hgl

theorem careFloats_over : Rows.CareFloatsSaid :=
  OpenClaim.holds_of_wide 7 Tryd.f7 rfl rfl rfl rfl rfl rfl rfl ⟨rfl, rfl, rfl, rfl, rfl⟩ rfl rfl rfl rfl rfl (by kernel_rfl) Tryd.func7 (by kernel_rfl)
    (of_decide_eq_true (by kernel_rfl)) (by unfold Func.isWrapper; first | (rw [if_pos (by decide +kernel)]; kernel_rfl) | (rw [if_neg (by decide +kernel)]; exact ⟨rfl, rfl⟩))
    (fun os started H enc _ => careFloats_lifted os started H enc)
end Go.Proofs.YtfmigicmfolbjaaDoor
