/-
  What is against any evacuation, and the greatest speed of any tow, are the document's.
-/
import Derived.Test.YtfmigicmfolbjaaDoorB20
namespace Go.Proofs.YtfmigicmfolbjaaDoor
set_option linter.all false
set_option linter.unusedSimpArgs false
set_option linter.unusedVariables false
open Go.ChangeShapes Go.WideShapes Go.ChangeAt Go.RowKit

def liftA (f : Wi) : List Nat := if wiIn f = true then liftL f 5 else []
def liftE (f : Wi) : Int := if wiIn f = true then 0 else 2
theorem lift_out {f : Wi} {w w' : World} {e : Ending} (h : LiftIs f w w' e) : Frm w.heap.size [] w w' ∧ ∃ ad b off cap, e = .returned (.tuple #[.slice ad (liftA f).length cap, .int .i64 (liftE f)]) ∧ RwI w' ad b off (liftA f).length (at0 (liftA f)) := by
  obtain ⟨hf, (⟨h1, rfl⟩ | ⟨h1, v, own, rfl, hs, _⟩)⟩ := h
  · have ha : liftA f = [] := by unfold liftA; rw [h1]; rfl
    have he : liftE f = 2 := by unfold liftE; rw [h1]; rfl
    rw [ha, he]
    exact ⟨hf, none, 0, 0, 0, rfl, ⟨fun h => absurd h (by simp), Nat.zero_le _, fun i hi => absurd hi (by simp)⟩⟩
  · have ha : liftA f = liftL f 5 := by unfold liftA; rw [h1]; rfl
    have he : liftE f = 0 := by unfold liftE; rw [h1]; rfl
    rw [ha, he]
    obtain ⟨ad, b, off, cap, rfl, hr⟩ := ints_at0 hs
    exact ⟨hf, ad, b, off, cap, rfl, hr⟩
theorem speed_out {f : To} {w w' : World} {e : Ending} (h : SpeedIs f w w' e) : Frm w.heap.size [] w w' ∧ ∃ r k : Int, e = .returned (.tuple #[.int .i64 r, .int .i64 k]) ∧ ∀ w1 w1' e', SpeedIs f w1 w1' e' → e' = e := by
  obtain ⟨hf, h⟩ := h
  have hu : ∀ w1 w1' e', SpeedIs f w1 w1' e' → e' = e := fun w1 w1' e' ⟨_, h'⟩ => by
    rcases h with ⟨h1, rfl⟩ | ⟨h1, h2, rfl⟩ | ⟨h1, h2, r, h3, rfl⟩
    · rcases h' with ⟨k1, rfl⟩ | ⟨k1, _⟩ | ⟨k1, _⟩
      · rfl
      · rw [h1] at k1; cases k1
      · rw [h1] at k1; cases k1
    · rcases h' with ⟨k1, _⟩ | ⟨k1, k2, rfl⟩ | ⟨k1, k2, _⟩
      · rw [h1] at k1; cases k1
      · rfl
      · rw [h2] at k2; cases k2
    · rcases h' with ⟨k1, _⟩ | ⟨k1, k2, _⟩ | ⟨k1, k2, s, k3, rfl⟩
      · rw [h1] at k1; cases k1
      · rw [h2] at k2; cases k2
      · rw [Last.unique h3 k3]
  refine ⟨hf, ?_⟩
  rcases h with ⟨_, rfl⟩ | ⟨_, _, rfl⟩ | ⟨_, _, r, _, rfl⟩
  · exact ⟨_, _, rfl, hu⟩
  · exact ⟨_, _, rfl, hu⟩
  · exact ⟨_, _, rfl, hu⟩
theorem load_wi {f : Wi} {w : World} {b : Nat} (k : Blk w b 23 f.cells) : (loadVar 23 ⟨b, 0, none⟩).run Tryd.prog w = .ok (.agg f.cells.toArray) w := loadVarB k Tryd.underlying23 rfl f.info
set_option maxRecDepth 100000 in
set_option maxHeartbeats 4000000 in
theorem lifts_walk (f : Wi) (g : To) (w : World) (hg : Glob w) : Calls Tryd.prog 3 #[.agg f.cells.toArray, .agg g.cells.toArray] w fun e w' => e = .returned (.bool true) ∧ Frm w.heap.size [] w w' := by
  have hf0 := Tryd.func3
  have HG := Lib.hid hg
  clear hg
  go_enter Tryd.func3, Tryd.ntmps3
  go_upto_region 1 with fail
  refine namedC ?_; intro W hW
  have hb : Blk W w.heap.size 23 f.cells := by rw [hW]; refine Blk.alloc' ?_; exact Blk.new w 23 f.cells
  have hb2 : Blk W (w.heap.size + 1) 25 g.cells := by rw [hW]; exact Blk.new' _ 25 g.cells (by simp)
  have hf : Frm w.heap.size [] w W := by rw [hW]; repeat (first | with_reducible exact Frm.refl _ _ _ | with_reducible refine Frm.drewN ?_ | with_reducible refine Frm.drew ?_ | ((with_reducible refine Frm.setCell' ?_ ?_); · first | (left; simp; done) | (right; simp; done) | (right; simp; omega)) | ((with_reducible refine Frm.alloc' ?_ ?_); · first | exact Nat.le_refl _ | (simp; done) | (simp; omega)))
  clear hW hf0
  obtain ⟨c2, hc2⟩ : ∃ c, c = w.heap.size + 1 := ⟨_, rfl⟩
  obtain ⟨c, hc⟩ : ∃ c, c = w.heap.size := ⟨_, rfl⟩
  rw [← hc2] at hb2
  rw [← hc] at hb
  simp only [← hc2]
  simp only [← hc]
  have HB := Lib.hid hb
  have HB2 := Lib.hid hb2
  have HF := Lib.hid hf
  have HC := Lib.hid hc
  have HC2 := Lib.hid hc2
  clear hc2 hc hf hb2 hb
  go_wp2_with (with_reducible refine atLoad 23 rfl ?_; refine wpList_loadE rfl rfl rfl (load_wi HB.out) ?_)
  refine (lift_any f W).mono ?_; rintro e w1 hl
  obtain ⟨hf1, a1, b1, o1, p1, rfl, hr1⟩ := lift_out hl
  have hb := hf1.blk HB.out HB.out.lt (by simp)
  have hb2 := hf1.blk HB2.out HB2.out.lt (by simp)
  have hf := HF.out.call hf1 HF.out.size (by simp)
  obtain ⟨n, hn⟩ : ∃ n, n = (liftA f).length := ⟨_, rfl⟩
  obtain ⟨E, hE⟩ : ∃ n, n = liftE f := ⟨_, rfl⟩
  rw [← hn] at hr1 ⊢
  rw [← hE]
  clear hl hf1 HB HB2 HF
  have HB := Lib.hid hb
  have HB2 := Lib.hid hb2
  have HF := Lib.hid hf
  have HR1 := Lib.hid hr1
  have HN := Lib.hid hn
  have HE := Lib.hid hE
  clear hE hn hr1 hf hb2 hb
  go_wp2_with (with_reducible refine atLoad 23 rfl ?_; refine wpList_loadE rfl rfl rfl (load_wi HB.out) ?_)
  refine (refLift_any f w1).mono ?_; rintro e w2 hl
  obtain ⟨hf1, a2, b2, o2, p2, rfl, hr2⟩ := lift_out hl
  rw [← HN.out] at hr2 ⊢
  rw [← HE.out]
  have hr1 := HR1.out.frm hf1 (Nat.le_refl _)
  have hb2 := hf1.blk HB2.out HB2.out.lt (by simp)
  have hf := HF.out.call hf1 HF.out.size (by simp)
  clear hl hf1 HB HB2 HF HR1
  have HB2 := Lib.hid hb2
  have HF := Lib.hid hf
  have HR1 := Lib.hid hr1
  have HR2 := Lib.hid hr2
  clear hr2 hr1 hf hb2
  go_wp2_with (with_reducible refine atLoad 25 rfl ?_; refine wpList_loadE rfl rfl rfl (load_to HB2.out) ?_)
  refine (speed_any g w2).mono ?_; rintro e w3 hl
  obtain ⟨hf1, r, k, rfl, hu⟩ := speed_out hl
  have hr1 := HR1.out.frm hf1 (Nat.le_refl _)
  have hr2 := HR2.out.frm hf1 (Nat.le_refl _)
  have hb2 := hf1.blk HB2.out HB2.out.lt (by simp)
  have hf := HF.out.call hf1 HF.out.size (by simp)
  clear hl hf1 HB2 HF HR1 HR2
  have HB2 := Lib.hid hb2
  have HF := Lib.hid hf
  have HR1 := Lib.hid hr1
  have HR2 := Lib.hid hr2
  have HU := Lib.hid hu
  clear hu hr2 hr1 hf hb2
  go_wp2_with (with_reducible refine atLoad 25 rfl ?_; refine wpList_loadE rfl rfl rfl (load_to HB2.out) ?_)
  refine (refSpeed_any g w3).mono ?_; rintro e w4 hl
  obtain rfl := HU.out _ _ _ hl
  have hf1 := hl.1
  have hr1 := HR1.out.frm hf1 (Nat.le_refl _)
  have hr2 := HR2.out.frm hf1 (Nat.le_refl _)
  have hf := HF.out.call hf1 HF.out.size (by simp)
  clear hl hf1 HB2 HF HR1 HR2 HU
  have HF := Lib.hid hf
  have HR1 := Lib.hid hr1
  have HR2 := Lib.hid hr2
  clear hr2 hr1 hf
  go_wp2_with fail
  refine (ints_any a1 b1 o1 n p1 _ a2 b2 o2 n p2 _ w4 HR1.out HR2.out rfl (fun i hi => rfl)).mono ?_; rintro e w5 ⟨rfl, hf1⟩
  have hf := HF.out.call hf1 HF.out.size (by simp)
  clear hf1 HF HR1 HR2
  have HF := Lib.hid hf
  clear hf
  go_wp2_with fail
  refine (awake_any w5 (HG.out.frm HF.out (Nat.le_refl _))).mono ?_; rintro e w6 ⟨rfl, hf1⟩
  have hf := HF.out.call hf1 HF.out.size (by simp)
  clear hf1 HF
  have HF := Lib.hid hf
  clear hf
  go_wp2_with fail
  go_ret
  exact ⟨rfl, HF.out⟩
/-! the row -/
set_option maxRecDepth 100000 in
theorem careLifts_lifted (os : Os) (started : os.Started) (H : Type) (enc : TypeId × Value → H) :
    ReturnsInHanded {} Tryd.checked os 3 .any (fun w args => (Rows.careLiftsSpec.pre enc Tryd.prog Tryd.f3 [] false w args ∧ laidMetH Tryd.prog laidR w) ∧ sizedMet enc Tryd.prog Tryd.f3 (OpenSpec.ofChange Rows.careLiftsSpec) false w args) (Rows.careLiftsSpec.post enc Tryd.prog Tryd.f3 false true false false) := by
  refine law_liftL (fn := Tryd.f3) (s := Rows.careLiftsSpec) started 2 (by kernel_rfl) Tryd.func3
      (ChangeSpec.witness_shaped (enc := enc) (C := Tryd.checked) (os := os) (X := fun w _ => laidMetH Tryd.prog laidR w) false (World.doorLaid Tryd.prog 400 os)
        #[.agg #[.int .i64 0, .int .i64 0, .int .i64 0, .int .i64 0, .int .i64 0, .int .i64 0, .int .i64 0, .int .i64 0], .agg #[.int .i64 0, .int .i64 0, .int .i64 0, .int .i64 0, .int .i64 0, .int .i64 0]] 8 rfl
        (World.shaped_of_RefB (by kernel_rfl) (by kernel_rfl)) (by kernel_rfl) (by kernel_rfl) (by kernel_rfl) (door_met os _))
      (by rw [Tryd.params3]; decide +kernel) (by rw [Tryd.params3]; rfl) (by kernel_rfl) rfl (fun ds h => by match ds, h with | [d1, d2], _ => rfl) ?_
  intro W base args ds ps hval hA hgl
  rw [Tryd.params3] at hA hval
  obtain ⟨v0, vs0, d0, ds0, p0, q0, hargs, rfl, rfl, h0, r0⟩ := trodAll_cons hA
  obtain ⟨v1, vs1, d1, ds1, p1, q1, rfl, rfl, rfl, h1, r1⟩ := trodAll_cons r0
  obtain ⟨rfl, rfl, rfl⟩ := trodAll_nil r1
  obtain rfl : args = #[v0, v1] := by cases args; simp_all
  obtain ⟨f, rfl⟩ := open_winch (hval 0 23 v0 rfl rfl)
  obtain ⟨g, rfl⟩ := open_tow (hval 1 25 v1 rfl rfl)
  exact lifts_walk f g W hgl

theorem careLifts_over : Rows.CareLiftsSaid :=
  OpenClaim.holds_of_wide 3 Tryd.f3 rfl rfl rfl rfl rfl rfl rfl ⟨rfl, rfl, rfl, rfl, rfl⟩ rfl rfl rfl rfl rfl (by kernel_rfl) Tryd.func3 (by kernel_rfl)
    (of_decide_eq_true (by kernel_rfl)) (by unfold Func.isWrapper; first | (rw [if_pos (by decide +kernel)]; kernel_rfl) | (rw [if_neg (by decide +kernel)]; exact ⟨rfl, rfl⟩))
    (fun os started H enc _ => careLifts_lifted os started H enc)
end Go.Proofs.YtfmigicmfolbjaaDoor
