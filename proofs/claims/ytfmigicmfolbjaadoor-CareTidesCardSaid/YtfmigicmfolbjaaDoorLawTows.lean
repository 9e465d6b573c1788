/-
  Each speed up to the greatest one is possible, and none above it; it is not less with a greater pull and a stronger line, and not greater with a greater drag.
-/
import Derived.Test.YtfmigicmfolbjaaDoorLawLifts
import Derived.Test.YtfmigicmfolbjaaDoorP2
namespace Go.Proofs.YtfmigicmfolbjaaDoor
set_option linter.all false
set_option linter.unusedSimpArgs false
set_option linter.unusedVariables false
open Go.ChangeShapes Go.WideShapes Go.ChangeAt Go.RowKit

attribute [local go_sem ↓ high] run_min_ run_max_ run_min2 run_max2
def moreA (f : To) (m0 m1 : Int) : To := { f with pull := min 100000 (f.pull + m0), line := min 100000 (f.line + m1) }
def moreB (f : To) (m2 : Int) : To := { f with drag := min 100000 (f.drag + m2) }
theorem toIn_of {f : To} (h : ToOK f) : toIn f = true := by
  unfold toIn
  have h1 : allIn (numsF f.list) 6 0 100000 = true := allIn_iff.2 fun i hi => by
    have : i = 0 ∨ i = 1 ∨ i = 2 ∨ i = 3 ∨ i = 4 ∨ i = 5 := by omega
    rcases this with rfl | rfl | rfl | rfl | rfl | rfl
    · exact inB_iff.2 h.pull
    · exact inB_iff.2 h.line
    · exact inB_iff.2 (show 0 ≤ f.drag ∧ f.drag ≤ 100000 by have := h.drag; omega)
    · exact inB_iff.2 h.push
    · exact inB_iff.2 h.length
    · exact inB_iff.2 h.wave
  rw [h1]
  have := h.drag
  simp
  omega
theorem moreA_ok {f : To} (h : ToOK f) {m0 m1 : Int} (h0 : 0 ≤ m0) (h1 : 0 ≤ m1) : ToOK (moreA f m0 m1) :=
  ⟨by have := h.pull; show 0 ≤ min 100000 (f.pull + m0) ∧ min 100000 (f.pull + m0) ≤ 100000; omega, by have := h.line; show 0 ≤ min 100000 (f.line + m1) ∧ min 100000 (f.line + m1) ≤ 100000; omega, h.drag, h.push, h.length, h.wave⟩
theorem moreB_ok {f : To} (h : ToOK f) {m2 : Int} (h2 : 0 ≤ m2) : ToOK (moreB f m2) :=
  ⟨h.pull, h.line, by have := h.drag; show 1 ≤ min 100000 (f.drag + m2) ∧ min 100000 (f.drag + m2) ≤ 100000; omega, h.push, h.length, h.wave⟩
theorem moreA_poss {f : To} (h : ToOK f) {m0 m1 v : Int} (h0 : 0 ≤ m0) (h1 : 0 ≤ m1) (hp : possB f v = true) : possB (moreA f m0 m1) v = true := by
  unfold possB at hp ⊢
  rw [decide_eq_true_eq] at hp ⊢
  show f.drag * v * v + f.push * 10000000 ≤ min (2 * min 100000 (f.pull + m0)) (min 100000 (f.line + m1)) * 5000000
  have := h.pull
  have := h.line
  omega
theorem moreB_poss {f : To} (h : ToOK f) {m2 v : Int} (h2 : 0 ≤ m2) (hv : 0 ≤ v) (hp : possB (moreB f m2) v = true) : possB f v = true := by
  unfold possB at hp ⊢
  rw [decide_eq_true_eq] at hp ⊢
  have hp : (min 100000 (f.drag + m2)) * v * v + f.push * 10000000 ≤ min (2 * f.pull) f.line * 5000000 := hp
  have h1 : f.drag * v ≤ min 100000 (f.drag + m2) * v := Int.mul_le_mul_of_nonneg_right (by have := h.drag; omega) hv
  have h3 : f.drag * v * v ≤ min 100000 (f.drag + m2) * v * v := Int.mul_le_mul_of_nonneg_right h1 hv
  omega
theorem moreA_slow {f : To} (h : ToOK f) {m0 m1 : Int} (h0 : 0 ≤ m0) (h1 : 0 ≤ m1) (hp : slowB f = false) : slowB (moreA f m0 m1) = false := by
  unfold slowB at hp ⊢
  rw [Bool.or_eq_false_iff] at hp ⊢
  refine ⟨hp.1, ?_⟩
  have : possB f 0 = true := by simpa using hp.2
  rw [moreA_poss h h0 h1 this]; rfl
theorem moreB_slow {f : To} {m2 : Int} (hp : slowB f = false) : slowB (moreB f m2) = false := by
  unfold slowB at hp ⊢
  rw [Bool.or_eq_false_iff] at hp ⊢
  refine ⟨hp.1, ?_⟩
  have h0 : possB f 0 = true := by simpa using hp.2
  have : possB (moreB f m2) 0 = true := by
    unfold possB at h0 ⊢
    rw [decide_eq_true_eq] at h0 ⊢
    show min 100000 (f.drag + m2) * 0 * 0 + f.push * 10000000 ≤ min (2 * f.pull) f.line * 5000000
    omega
  rw [this]; rfl
theorem speed_yes {f : To} (h1 : toIn f = true) (h2 : slowB f = false) {w w' : World} {e : Ending} (h : SpeedIs f w w' e) : Frm w.heap.size [] w w' ∧ ∃ r : Int, Last (possB f) 0 2000 r ∧ e = .returned (.tuple #[.int .i64 r, .int .i64 0]) := by
  obtain ⟨hf, (⟨k1, _⟩ | ⟨_, k2, _⟩ | ⟨_, _, r, k3, rfl⟩)⟩ := h
  · rw [h1] at k1; cases k1
  · rw [h2] at k2; cases k2
  · exact ⟨hf, r, k3, rfl⟩
theorem viaT2 {P : Program} {c : Code} {Q : Exit → Act → World → Prop} {a : Act} {w : World} {F : Nat → Nat → Act} (L : Nat → Nat → World → Prop) (h1 : (∀ x y w', L x y w' → Q .normal (F x y) w') → c.wp P Q a w) (h2 : ∀ x y w', L x y w' → Q .normal (F x y) w') : c.wp P Q a w := h1 h2
theorem viaT0 {P : Program} {c : Code} {Q : Exit → Act → World → Prop} {a : Act} {w : World} {F : Act} (L : World → Prop) (h1 : (∀ w', L w' → Q .normal F w') → c.wp P Q a w) (h2 : ∀ w', L w' → Q .normal F w') : c.wp P Q a w := h1 h2
def zero25 : List Value := [.int .i64 0, .int .i64 0, .int .i64 0, .int .i64 0, .int .i64 0, .int .i64 0]
set_option maxRecDepth 100000 in
set_option maxHeartbeats 16000000 in
theorem tows_walk (f : To) (m0 m1 m2 v : Int) (hm0 : 0 ≤ m0 ∧ m0 ≤ 65535) (hm1 : 0 ≤ m1 ∧ m1 ≤ 65535) (hm2 : 0 ≤ m2 ∧ m2 ≤ 65535) (hv : 0 ≤ v ∧ v ≤ 65535) (w : World) (hg : Glob w) :
    Calls Tryd.prog 4 #[.agg f.cells.toArray, .agg #[.int .u16 m0, .int .u16 m1, .int .u16 m2], .int .u16 v] w fun e w' => e = .returned (.bool true) ∧ Frm w.heap.size [] w w' := by
  have hf0 := Tryd.func4
  have HG := Lib.hid hg
  have HM0 := Lib.hid hm0
  have HM1 := Lib.hid hm1
  have HM2 := Lib.hid hm2
  have HV := Lib.hid hv
  clear hv hm2 hm1 hm0 hg
  go_enter Tryd.func4, Tryd.ntmps4
  go_upto_region 1 with fail
  refine namedC ?_; intro W hW
  have hb : Blk W w.heap.size 25 f.cells := by rw [hW]; refine Blk.alloc' ?_; exact Blk.new w 25 f.cells
  have hb2 : Blk W (w.heap.size + 1) 36 [.int .u16 m0, .int .u16 m1, .int .u16 m2] := by rw [hW]; exact Blk.new' _ 36 [.int .u16 m0, .int .u16 m1, .int .u16 m2] (by simp)
  have hf : Frm w.heap.size [] w W := by rw [hW]; repeat (first | with_reducible exact Frm.refl _ _ _ | with_reducible refine Frm.drewN ?_ | with_reducible refine Frm.drew ?_ | ((with_reducible refine Frm.setCell' ?_ ?_); · first | (left; simp; done) | (right; simp; done) | (right; simp; omega)) | ((with_reducible refine Frm.alloc' ?_ ?_); · first | exact Nat.le_refl _ | (simp; done) | (simp; omega)))
  clear hW hf0
  obtain ⟨c2, hc2⟩ : ∃ c, c = w.heap.size + 1 := ⟨_, rfl⟩
  obtain ⟨c, hc⟩ : ∃ c, c = w.heap.size := ⟨_, rfl⟩
  rw [← hc2] at hb2
  rw [← hc] at hb
  simp only [← hc2]
  simp only [← hc]
  have HB := Lib.hid hb
  have HB2 := Lib.hid hb2
  have HF := Lib.hid hf
  have HC := Lib.hid hc
  have HC2 := Lib.hid hc2
  clear hc2 hc hf hb2 hb
  go_wp2_with (with_reducible refine atLoad 25 rfl ?_; refine wpList_loadE rfl rfl rfl (load_to HB.out) ?_)
  refine (speed_any f W).mono ?_; rintro e w1 ⟨hf1, hsp⟩
  have hb := hf1.blk HB.out HB.out.lt (by simp)
  have hb2 := hf1.blk HB2.out HB2.out.lt (by simp)
  have hf := HF.out.call hf1 HF.out.size (by simp)
  clear hf1 HB HB2 HF
  have HB := Lib.hid hb
  have HB2 := Lib.hid hb2
  have HF := Lib.hid hf
  clear hf hb2 hb
  rcases hsp with ⟨hti, rfl⟩ | ⟨hti, hsl, rfl⟩ | ⟨hti, hsl, r, hl, rfl⟩
  · have HTI := Lib.hid hti
    clear hti
    go_wp2_with (first | (with_reducible refine atLoad 25 rfl ?_; refine wpList_loadE rfl rfl rfl (load_to HB.out) ?_) | (go_at_call 19; refine (refTow_any f w1).mono ?_; rintro e w2 ⟨rfl, hf1⟩; rw [HTI.out]; replace HF := Lib.hid (HF.out.call hf1 HF.out.size (by simp)); clear hf1) | (go_at_call 18; refine (awake_any _ (HG.out.frm HF.out (Nat.le_refl _))).mono ?_; rintro e w3 ⟨rfl, hf1⟩; replace HF := Lib.hid (HF.out.call hf1 HF.out.size (by simp)); clear hf1))
    go_ret
    exact ⟨rfl, HF.out⟩
  · have HTI := Lib.hid hti
    have HSL := Lib.hid hsl
    clear hsl hti
    go_wp2_with (first | (with_reducible refine atLoad 25 rfl ?_; refine wpList_loadE rfl rfl rfl (load_to HB.out) ?_) | (go_at_call 19; refine (refTow_any f w1).mono ?_; rintro e w2 ⟨rfl, hf1⟩; rw [HTI.out]; replace HF := Lib.hid (HF.out.call hf1 HF.out.size (by simp)); clear hf1) | (go_at_call 18; refine (awake_any _ (HG.out.frm HF.out (Nat.le_refl _))).mono ?_; rintro e w3 ⟨rfl, hf1⟩; replace HF := Lib.hid (HF.out.call hf1 HF.out.size (by simp)); clear hf1))
    go_ret
    exact ⟨rfl, HF.out⟩
  have hok := toIn_ok hti
  have hr0 := hl.lo
  have hr1 := hl.hi
  have n0 : ¬ r < 0 := by omega
  have n1 : ¬ 2000 < r := by omega
  have d0 : decide (r < 0) = false := by simp; omega
  have d1 : decide (2000 < r) = false := by simp; omega
  have d2 : (decide (r < 0) || decide (2000 < r)) = false := by rw [d0, d1]; rfl
  obtain ⟨y, hy⟩ : ∃ y, y = v % 2001 := ⟨_, rfl⟩
  have hv := HV.out
  have hy0 : 0 ≤ y ∧ y ≤ 2000 := by omega
  have ht : Int.tmod v 2001 = y := by rw [hy]; exact Int.tmod_eq_emod_of_nonneg hv.1
  have e1 : IntKind.i64.wrap v = v := IntWalk.i64_in _ (by omega)
  have e2 : IntKind.i64.wrap y = y := IntWalk.i64_in _ (by omega)
  have e3 : wrap64 y = y := IntWalk.wrap64_in _ (by omega)
  have hpd : possB f y = decide (y ≤ r) := by
    by_cases h : y ≤ r
    · rw [poss_mono hok hy0.1 h hl.yes]; simp [h]
    · rw [hl.no y (by omega) hy0.2]; simp [h]
  clear hv
  have HTI := Lib.hid hti
  have HSL := Lib.hid hsl
  have HL := Lib.hid hl
  have HOK := Lib.hid hok
  have HR0 := Lib.hid hr0
  have HR1 := Lib.hid hr1
  have HY := Lib.hid hy
  have HY0 := Lib.hid hy0
  have HPD := Lib.hid hpd
  clear hpd hy0 hy hr1 hr0 hok hl hsl hti
  go_upto_region 6 with (first | (with_reducible refine atLoad 25 rfl ?_; refine wpList_loadGE rfl rfl rfl (load_to HB.out) ?_) | (go_at_call 20; refine (refPoss_any f HOK.out y (by have := HY0.out; omega) w1).mono ?_; rintro e w2 ⟨rfl, hf1⟩; rw [HPD.out]; replace HF := Lib.hid (HF.out.call hf1 HF.out.size (by simp)); replace HB := Lib.hid (hf1.blk HB.out HB.out.lt (by simp)); replace HB2 := Lib.hid (hf1.blk HB2.out HB2.out.lt (by simp)); clear hf1))
  clear n0 n1 d0 d1 d2 ht e1 e2 e3
  apply viaT2 (fun p9 p10 V => Frm w2.heap.size [] w2 V ∧ Blk V p9 25 f.cells ∧ Blk V p10 25 f.cells ∧ w2.heap.size ≤ p9 ∧ w2.heap.size ≤ p10 ∧ p9 ≠ p10)
  · intro hvia
    have HVIA := Lib.hid hvia
    clear hvia
    refine wp_region_leftL (fun V => Frm w2.heap.size [] w2 V) 1000 (by kernel_rfl) ?_
    have hS : Frm w2.heap.size [] w2 w2.drew := (Frm.refl _ _ w2).drew
    have HS := Lib.hid hS
    clear hS
    have hlw : ∀ V, Frm w2.heap.size [] w2 V → (loadVar 25 ⟨c, 0, none⟩).run Tryd.prog V = .ok (.agg f.cells.toArray) V := fun V hV => load_to (hV.blk HB.out HB.out.lt (by simp))
    refine LeftL.take 0 rfl (by kernel_rfl) (fun _ _ d _ _ h => by cases d <;> exact h) (yields_loadE (ty := 25) rfl rfl rfl (hlw)) HS.out ?_; (intro K' hK'; go_simp; refine hK' _ ?_; clear hK' K')
    refine LeftL.take 1 rfl (by kernel_rfl) (fun _ _ d _ _ h => by cases d <;> exact h) (yields_loadE (ty := 25) rfl rfl rfl (hlw)) HS.out ?_; (intro K' hK'; go_simp; refine hK' _ ?_; clear hK' K')
    clear hlw
    refine LeftL.two 2 3 rfl rfl (by kernel_rfl) ?_ ?_
    · go_wp2_with fail
      refine ⟨fun _ => HS.out.alloc (Nat.le_refl _) _, ?_⟩
      refine LeftL.one 3 rfl (by kernel_rfl) ?_
      go_wp2_with fail
      refine ⟨fun _ => (HS.out.alloc (Nat.le_refl _) _).alloc (by simp) _, ?_⟩
      refine namedLL ?_; intro w3 hw3
      have k0 : Blk w3 w2.heap.size 25 zero25 := by rw [hw3]; refine Blk.alloc' ?_; exact Blk.new' _ 25 zero25 rfl
      have k1 : Blk w3 (w2.heap.size + 1) 25 zero25 := by rw [hw3]; exact Blk.new' _ 25 zero25 (by simp)
      have hF : Frm w2.heap.size [] w2 w3 := by rw [hw3]; repeat (first | with_reducible exact Frm.refl _ _ _ | with_reducible refine Frm.drewN ?_ | with_reducible refine Frm.drew ?_ | ((with_reducible refine Frm.setCell' ?_ ?_); · first | (left; simp; done) | (right; simp; done) | (right; simp; omega)) | ((with_reducible refine Frm.alloc' ?_ ?_); · first | exact Nat.le_refl _ | (simp; done) | (simp; omega)))
      clear hw3
      obtain ⟨q1, hq1⟩ : ∃ c, c = w2.heap.size + 1 := ⟨_, rfl⟩
      obtain ⟨q0, hq0⟩ : ∃ c, c = w2.heap.size := ⟨_, rfl⟩
      rw [← hq1] at k1
      simp only [← hq1]
      rw [← hq0] at k0
      simp only [← hq0]
      have hn : q0 ≠ q1 := by omega
      have l0 : w2.heap.size ≤ q0 := by omega
      have l1 : w2.heap.size ≤ q1 := by omega
      have HQ := Lib.hid hq0
      clear hq0 hq1
      refine LeftL.one 4 rfl (by kernel_rfl) ?_
      refine wpList_storeB (P := Tryd.prog) (ty := 25) (cs := f.cells) rfl rfl k0 rfl rfl rfl f.info (by simp [To.cells, Value.oneCell']) ?_
      have j9 := k0.row f.cells
      have j10 := k1.row_other (g := q0) f.cells.toArray hn
      have hF2 := hF.setRow (g := q0) (.inr l0) f.cells.toArray
      generalize w3.setRow q0 f.cells.toArray = w4 at j9 j10 hF2 ⊢
      clear hF k0 k1
      refine wpList_nil ?_
      refine ⟨fun _ => by rw [HQ.out]; exact hF2, ?_⟩
      refine LeftL.one 5 rfl (by kernel_rfl) ?_
      refine wpList_storeB (P := Tryd.prog) (ty := 25) (cs := f.cells) rfl rfl j10 rfl rfl rfl f.info (by simp [To.cells, Value.oneCell']) ?_
      have i10 := j10.row f.cells
      have i9 := j9.row_other (g := q1) f.cells.toArray hn.symm
      have hF3 := hF2.setRow (g := q1) (.inr l1) f.cells.toArray
      generalize w4.setRow q1 f.cells.toArray = w5 at i9 i10 hF3 ⊢
      clear hF2 j9 j10
      refine wpList_nil ?_
      refine ⟨fun _ => by rw [HQ.out]; exact hF3, ?_⟩
      refine LeftL.done (by kernel_rfl) ?_
      go_simp
      exact HVIA.out q0 q1 w5 ⟨hF3, i9, i10, l0, l1, hn⟩
    · go_wp2_with fail
      refine ⟨fun _ => HS.out.alloc (Nat.le_refl _) _, ?_⟩
      refine LeftL.one 2 rfl (by kernel_rfl) ?_
      go_wp2_with fail
      refine ⟨fun _ => (HS.out.alloc (Nat.le_refl _) _).alloc (by simp) _, ?_⟩
      refine namedLL ?_; intro w3 hw3
      have k0 : Blk w3 w2.heap.size 25 zero25 := by rw [hw3]; refine Blk.alloc' ?_; exact Blk.new' _ 25 zero25 rfl
      have k1 : Blk w3 (w2.heap.size + 1) 25 zero25 := by rw [hw3]; exact Blk.new' _ 25 zero25 (by simp)
      have hF : Frm w2.heap.size [] w2 w3 := by rw [hw3]; repeat (first | with_reducible exact Frm.refl _ _ _ | with_reducible refine Frm.drewN ?_ | with_reducible refine Frm.drew ?_ | ((with_reducible refine Frm.setCell' ?_ ?_); · first | (left; simp; done) | (right; simp; done) | (right; simp; omega)) | ((with_reducible refine Frm.alloc' ?_ ?_); · first | exact Nat.le_refl _ | (simp; done) | (simp; omega)))
      clear hw3
      obtain ⟨q1, hq1⟩ : ∃ c, c = w2.heap.size + 1 := ⟨_, rfl⟩
      obtain ⟨q0, hq0⟩ : ∃ c, c = w2.heap.size := ⟨_, rfl⟩
      rw [← hq1] at k1
      simp only [← hq1]
      rw [← hq0] at k0
      simp only [← hq0]
      have hn : q0 ≠ q1 := by omega
      have l0 : w2.heap.size ≤ q0 := by omega
      have l1 : w2.heap.size ≤ q1 := by omega
      have HQ := Lib.hid hq0
      clear hq0 hq1
      refine LeftL.one 4 rfl (by kernel_rfl) ?_
      refine wpList_storeB (P := Tryd.prog) (ty := 25) (cs := f.cells) rfl rfl k1 rfl rfl rfl f.info (by simp [To.cells, Value.oneCell']) ?_
      have j9 := k1.row f.cells
      have j10 := k0.row_other (g := q1) f.cells.toArray hn.symm
      have hF2 := hF.setRow (g := q1) (.inr l1) f.cells.toArray
      generalize w3.setRow q1 f.cells.toArray = w4 at j9 j10 hF2 ⊢
      clear hF k0 k1
      refine wpList_nil ?_
      refine ⟨fun _ => by rw [HQ.out]; exact hF2, ?_⟩
      refine LeftL.one 5 rfl (by kernel_rfl) ?_
      refine wpList_storeB (P := Tryd.prog) (ty := 25) (cs := f.cells) rfl rfl j10 rfl rfl rfl f.info (by simp [To.cells, Value.oneCell']) ?_
      have i10 := j10.row f.cells
      have i9 := j9.row_other (g := q0) f.cells.toArray hn
      have hF3 := hF2.setRow (g := q0) (.inr l0) f.cells.toArray
      generalize w4.setRow q0 f.cells.toArray = w5 at i9 i10 hF3 ⊢
      clear hF2 j9 j10
      refine wpList_nil ?_
      refine ⟨fun _ => by rw [HQ.out]; exact hF3, ?_⟩
      refine LeftL.done (by kernel_rfl) ?_
      go_simp
      exact HVIA.out q1 q0 w5 ⟨hF3, i9, i10, l1, l0, hn.symm⟩
  rintro p9 p10 V ⟨hF, k9, k10, l9, l10, hn⟩
  have hf := HF.out.call hF HF.out.size (by simp)
  have hb := hF.blk HB.out HB.out.lt (by simp)
  have hb2 := hF.blk HB2.out HB2.out.lt (by simp)
  have hc9 : c ≠ p9 := fun e => by have := HB.out.lt; omega
  have hc29 : c2 ≠ p9 := fun e => by have := HB2.out.lt; omega
  have hc10 : c ≠ p10 := fun e => by have := HB.out.lt; omega
  have hc210 : c2 ≠ p10 := fun e => by have := HB2.out.lt; omega
  have lw9 : w.heap.size ≤ p9 := Nat.le_trans HF.out.size l9
  have lw10 : w.heap.size ≤ p10 := Nat.le_trans HF.out.size l10
  clear hF l9 l10 HF HB HB2
  have hm0 := HM0.out
  have hm1 := HM1.out
  have hpl := HOK.out.pull
  have hln := HOK.out.line
  have a0 : IntKind.i64.wrap m0 = m0 := IntWalk.i64_in _ (by omega)
  have a1 : IntKind.i64.wrap m1 = m1 := IntWalk.i64_in _ (by omega)
  have a2 : IntKind.i64.wrap (f.pull + m0) = f.pull + m0 := IntWalk.i64_in _ (by omega)
  have a3 : IntKind.i64.wrap (f.line + m1) = f.line + m1 := IntWalk.i64_in _ (by omega)
  have a4 : wrap64 (f.pull + m0) = f.pull + m0 := IntWalk.wrap64_in _ (by omega)
  have a5 : wrap64 (f.line + m1) = f.line + m1 := IntWalk.wrap64_in _ (by omega)
  have hfx : ∀ U, Frm V.heap.size [p9] V U → U.cell? ⟨c, 0, none⟩ = some (.int .i64 f.pull) ∧ U.cell? ⟨c, 1, none⟩ = some (.int .i64 f.line) ∧ U.cell? ⟨c2, 0, none⟩ = some (.int .u16 m0) ∧ U.cell? ⟨c2, 1, none⟩ = some (.int .u16 m1) := fun U hU => by
    have h1 := hU.blk hb hb.lt (by simpa using hc9)
    have h2 := hU.blk hb2 hb2.lt (by simpa using hc29)
    exact ⟨h1.cell 0, h1.cell 1, h2.cell 0, h2.cell 1⟩
  clear hm0 hm1 hpl hln
  have HF := Lib.hid hf
  have HB := Lib.hid hb
  have HB2 := Lib.hid hb2
  have K9 := Lib.hid k9
  have K10 := Lib.hid k10
  have HN := Lib.hid hn
  have HC9 := Lib.hid hc9
  have HC29 := Lib.hid hc29
  have HC10 := Lib.hid hc10
  have HC210 := Lib.hid hc210
  have LW9 := Lib.hid lw9
  have LW10 := Lib.hid lw10
  have HFX := Lib.hid hfx
  clear hfx lw10 lw9 hc210 hc10 hc29 hc9 hn k10 k9 hb2 hb hf
  go_upto_region 7 with fail
  refine wp_region_leftL (fun U => Frm V.heap.size [p9] V U) 17 (by kernel_rfl) ?_
  have hS : Frm V.heap.size [p9] V V.drew := (Frm.refl _ _ V).drew
  have HS := Lib.hid hS
  clear hS
  first | (refine LeftL.run (v := ?_) 0 rfl (by kernel_rfl) rfl (fun _ _ d _ _ h => by cases d <;> exact h) ?_ HS.out ?_; rotate_left; (· intro V hV; obtain ⟨q0, q1, q2, q3⟩ := HFX.out V hV; clear hV; go_simp; rfl); (intro K' hK'; go_simp; refine hK' _ ?_; clear hK' K')) | (refine LeftL.runG (v := ?_) 0 rfl (by kernel_rfl) rfl (fun _ _ d _ _ h => by cases d <;> exact h) ?_ HS.out ?_; rotate_left; (· intro V hV; obtain ⟨q0, q1, q2, q3⟩ := HFX.out V hV; clear hV; go_simp; rfl); (intro K' hK'; go_simp; refine hK' _ ?_; clear hK' K')) | (refine LeftL.take (v := undef) 0 rfl (by kernel_rfl) (fun _ _ d _ _ h => by cases d <;> exact h) (.inr ⟨rfl, rfl⟩) HS.out ?_; (intro K' hK'; go_simp; refine hK' _ ?_; clear hK' K'))
  first | (refine LeftL.run (v := ?_) 1 rfl (by kernel_rfl) rfl (fun _ _ d _ _ h => by cases d <;> exact h) ?_ HS.out ?_; rotate_left; (· intro V hV; obtain ⟨q0, q1, q2, q3⟩ := HFX.out V hV; clear hV; go_simp; rfl); (intro K' hK'; go_simp; refine hK' _ ?_; clear hK' K')) | (refine LeftL.runG (v := ?_) 1 rfl (by kernel_rfl) rfl (fun _ _ d _ _ h => by cases d <;> exact h) ?_ HS.out ?_; rotate_left; (· intro V hV; obtain ⟨q0, q1, q2, q3⟩ := HFX.out V hV; clear hV; go_simp; rfl); (intro K' hK'; go_simp; refine hK' _ ?_; clear hK' K')) | (refine LeftL.take (v := undef) 1 rfl (by kernel_rfl) (fun _ _ d _ _ h => by cases d <;> exact h) (.inr ⟨rfl, rfl⟩) HS.out ?_; (intro K' hK'; go_simp; refine hK' _ ?_; clear hK' K'))
  first | (refine LeftL.run (v := ?_) 2 rfl (by kernel_rfl) rfl (fun _ _ d _ _ h => by cases d <;> exact h) ?_ HS.out ?_; rotate_left; (· intro V hV; obtain ⟨q0, q1, q2, q3⟩ := HFX.out V hV; clear hV; go_simp; rfl); (intro K' hK'; go_simp; refine hK' _ ?_; clear hK' K')) | (refine LeftL.runG (v := ?_) 2 rfl (by kernel_rfl) rfl (fun _ _ d _ _ h => by cases d <;> exact h) ?_ HS.out ?_; rotate_left; (· intro V hV; obtain ⟨q0, q1, q2, q3⟩ := HFX.out V hV; clear hV; go_simp; rfl); (intro K' hK'; go_simp; refine hK' _ ?_; clear hK' K')) | (refine LeftL.take (v := undef) 2 rfl (by kernel_rfl) (fun _ _ d _ _ h => by cases d <;> exact h) (.inr ⟨rfl, rfl⟩) HS.out ?_; (intro K' hK'; go_simp; refine hK' _ ?_; clear hK' K'))
  first | (refine LeftL.run (v := ?_) 3 rfl (by kernel_rfl) rfl (fun _ _ d _ _ h => by cases d <;> exact h) ?_ HS.out ?_; rotate_left; (· intro V hV; obtain ⟨q0, q1, q2, q3⟩ := HFX.out V hV; clear hV; go_simp; rfl); (intro K' hK'; go_simp; refine hK' _ ?_; clear hK' K')) | (refine LeftL.runG (v := ?_) 3 rfl (by kernel_rfl) rfl (fun _ _ d _ _ h => by cases d <;> exact h) ?_ HS.out ?_; rotate_left; (· intro V hV; obtain ⟨q0, q1, q2, q3⟩ := HFX.out V hV; clear hV; go_simp; rfl); (intro K' hK'; go_simp; refine hK' _ ?_; clear hK' K')) | (refine LeftL.take (v := undef) 3 rfl (by kernel_rfl) (fun _ _ d _ _ h => by cases d <;> exact h) (.inr ⟨rfl, rfl⟩) HS.out ?_; (intro K' hK'; go_simp; refine hK' _ ?_; clear hK' K'))
  first | (refine LeftL.run (v := ?_) 4 rfl (by kernel_rfl) rfl (fun _ _ d _ _ h => by cases d <;> exact h) ?_ HS.out ?_; rotate_left; (· intro V hV; obtain ⟨q0, q1, q2, q3⟩ := HFX.out V hV; clear hV; go_simp; rfl); (intro K' hK'; go_simp; refine hK' _ ?_; clear hK' K')) | (refine LeftL.runG (v := ?_) 4 rfl (by kernel_rfl) rfl (fun _ _ d _ _ h => by cases d <;> exact h) ?_ HS.out ?_; rotate_left; (· intro V hV; obtain ⟨q0, q1, q2, q3⟩ := HFX.out V hV; clear hV; go_simp; rfl); (intro K' hK'; go_simp; refine hK' _ ?_; clear hK' K')) | (refine LeftL.take (v := undef) 4 rfl (by kernel_rfl) (fun _ _ d _ _ h => by cases d <;> exact h) (.inr ⟨rfl, rfl⟩) HS.out ?_; (intro K' hK'; go_simp; refine hK' _ ?_; clear hK' K'))
  first | (refine LeftL.run (v := ?_) 5 rfl (by kernel_rfl) rfl (fun _ _ d _ _ h => by cases d <;> exact h) ?_ HS.out ?_; rotate_left; (· intro V hV; obtain ⟨q0, q1, q2, q3⟩ := HFX.out V hV; clear hV; go_simp; rfl); (intro K' hK'; go_simp; refine hK' _ ?_; clear hK' K')) | (refine LeftL.runG (v := ?_) 5 rfl (by kernel_rfl) rfl (fun _ _ d _ _ h => by cases d <;> exact h) ?_ HS.out ?_; rotate_left; (· intro V hV; obtain ⟨q0, q1, q2, q3⟩ := HFX.out V hV; clear hV; go_simp; rfl); (intro K' hK'; go_simp; refine hK' _ ?_; clear hK' K')) | (refine LeftL.take (v := undef) 5 rfl (by kernel_rfl) (fun _ _ d _ _ h => by cases d <;> exact h) (.inr ⟨rfl, rfl⟩) HS.out ?_; (intro K' hK'; go_simp; refine hK' _ ?_; clear hK' K'))
  first | (refine LeftL.run (v := ?_) 6 rfl (by kernel_rfl) rfl (fun _ _ d _ _ h => by cases d <;> exact h) ?_ HS.out ?_; rotate_left; (· intro V hV; obtain ⟨q0, q1, q2, q3⟩ := HFX.out V hV; clear hV; go_simp; rfl); (intro K' hK'; go_simp; refine hK' _ ?_; clear hK' K')) | (refine LeftL.runG (v := ?_) 6 rfl (by kernel_rfl) rfl (fun _ _ d _ _ h => by cases d <;> exact h) ?_ HS.out ?_; rotate_left; (· intro V hV; obtain ⟨q0, q1, q2, q3⟩ := HFX.out V hV; clear hV; go_simp; rfl); (intro K' hK'; go_simp; refine hK' _ ?_; clear hK' K')) | (refine LeftL.take (v := undef) 6 rfl (by kernel_rfl) (fun _ _ d _ _ h => by cases d <;> exact h) (.inr ⟨rfl, rfl⟩) HS.out ?_; (intro K' hK'; go_simp; refine hK' _ ?_; clear hK' K'))
  first | (refine LeftL.run (v := ?_) 7 rfl (by kernel_rfl) rfl (fun _ _ d _ _ h => by cases d <;> exact h) ?_ HS.out ?_; rotate_left; (· intro V hV; obtain ⟨q0, q1, q2, q3⟩ := HFX.out V hV; clear hV; go_simp; rfl); (intro K' hK'; go_simp; refine hK' _ ?_; clear hK' K')) | (refine LeftL.runG (v := ?_) 7 rfl (by kernel_rfl) rfl (fun _ _ d _ _ h => by cases d <;> exact h) ?_ HS.out ?_; rotate_left; (· intro V hV; obtain ⟨q0, q1, q2, q3⟩ := HFX.out V hV; clear hV; go_simp; rfl); (intro K' hK'; go_simp; refine hK' _ ?_; clear hK' K')) | (refine LeftL.take (v := undef) 7 rfl (by kernel_rfl) (fun _ _ d _ _ h => by cases d <;> exact h) (.inr ⟨rfl, rfl⟩) HS.out ?_; (intro K' hK'; go_simp; refine hK' _ ?_; clear hK' K'))
  first | (refine LeftL.run (v := ?_) 8 rfl (by kernel_rfl) rfl (fun _ _ d _ _ h => by cases d <;> exact h) ?_ HS.out ?_; rotate_left; (· intro V hV; obtain ⟨q0, q1, q2, q3⟩ := HFX.out V hV; clear hV; go_simp; rfl); (intro K' hK'; go_simp; refine hK' _ ?_; clear hK' K')) | (refine LeftL.runG (v := ?_) 8 rfl (by kernel_rfl) rfl (fun _ _ d _ _ h => by cases d <;> exact h) ?_ HS.out ?_; rotate_left; (· intro V hV; obtain ⟨q0, q1, q2, q3⟩ := HFX.out V hV; clear hV; go_simp; rfl); (intro K' hK'; go_simp; refine hK' _ ?_; clear hK' K')) | (refine LeftL.take (v := undef) 8 rfl (by kernel_rfl) (fun _ _ d _ _ h => by cases d <;> exact h) (.inr ⟨rfl, rfl⟩) HS.out ?_; (intro K' hK'; go_simp; refine hK' _ ?_; clear hK' K'))
  first | (refine LeftL.run (v := ?_) 9 rfl (by kernel_rfl) rfl (fun _ _ d _ _ h => by cases d <;> exact h) ?_ HS.out ?_; rotate_left; (· intro V hV; obtain ⟨q0, q1, q2, q3⟩ := HFX.out V hV; clear hV; go_simp; rfl); (intro K' hK'; go_simp; refine hK' _ ?_; clear hK' K')) | (refine LeftL.runG (v := ?_) 9 rfl (by kernel_rfl) rfl (fun _ _ d _ _ h => by cases d <;> exact h) ?_ HS.out ?_; rotate_left; (· intro V hV; obtain ⟨q0, q1, q2, q3⟩ := HFX.out V hV; clear hV; go_simp; rfl); (intro K' hK'; go_simp; refine hK' _ ?_; clear hK' K')) | (refine LeftL.take (v := undef) 9 rfl (by kernel_rfl) (fun _ _ d _ _ h => by cases d <;> exact h) (.inr ⟨rfl, rfl⟩) HS.out ?_; (intro K' hK'; go_simp; refine hK' _ ?_; clear hK' K'))
  first | (refine LeftL.run (v := ?_) 10 rfl (by kernel_rfl) rfl (fun _ _ d _ _ h => by cases d <;> exact h) ?_ HS.out ?_; rotate_left; (· intro V hV; obtain ⟨q0, q1, q2, q3⟩ := HFX.out V hV; clear hV; go_simp; rfl); (intro K' hK'; go_simp; refine hK' _ ?_; clear hK' K')) | (refine LeftL.runG (v := ?_) 10 rfl (by kernel_rfl) rfl (fun _ _ d _ _ h => by cases d <;> exact h) ?_ HS.out ?_; rotate_left; (· intro V hV; obtain ⟨q0, q1, q2, q3⟩ := HFX.out V hV; clear hV; go_simp; rfl); (intro K' hK'; go_simp; refine hK' _ ?_; clear hK' K')) | (refine LeftL.take (v := undef) 10 rfl (by kernel_rfl) (fun _ _ d _ _ h => by cases d <;> exact h) (.inr ⟨rfl, rfl⟩) HS.out ?_; (intro K' hK'; go_simp; refine hK' _ ?_; clear hK' K'))
  first | (refine LeftL.run (v := ?_) 11 rfl (by kernel_rfl) rfl (fun _ _ d _ _ h => by cases d <;> exact h) ?_ HS.out ?_; rotate_left; (· intro V hV; obtain ⟨q0, q1, q2, q3⟩ := HFX.out V hV; clear hV; go_simp; rfl); (intro K' hK'; go_simp; refine hK' _ ?_; clear hK' K')) | (refine LeftL.runG (v := ?_) 11 rfl (by kernel_rfl) rfl (fun _ _ d _ _ h => by cases d <;> exact h) ?_ HS.out ?_; rotate_left; (· intro V hV; obtain ⟨q0, q1, q2, q3⟩ := HFX.out V hV; clear hV; go_simp; rfl); (intro K' hK'; go_simp; refine hK' _ ?_; clear hK' K')) | (refine LeftL.take (v := undef) 11 rfl (by kernel_rfl) (fun _ _ d _ _ h => by cases d <;> exact h) (.inr ⟨rfl, rfl⟩) HS.out ?_; (intro K' hK'; go_simp; refine hK' _ ?_; clear hK' K'))
  first | (refine LeftL.run (v := ?_) 12 rfl (by kernel_rfl) rfl (fun _ _ d _ _ h => by cases d <;> exact h) ?_ HS.out ?_; rotate_left; (· intro V hV; obtain ⟨q0, q1, q2, q3⟩ := HFX.out V hV; clear hV; go_simp; rfl); (intro K' hK'; go_simp; refine hK' _ ?_; clear hK' K')) | (refine LeftL.runG (v := ?_) 12 rfl (by kernel_rfl) rfl (fun _ _ d _ _ h => by cases d <;> exact h) ?_ HS.out ?_; rotate_left; (· intro V hV; obtain ⟨q0, q1, q2, q3⟩ := HFX.out V hV; clear hV; go_simp; rfl); (intro K' hK'; go_simp; refine hK' _ ?_; clear hK' K')) | (refine LeftL.take (v := undef) 12 rfl (by kernel_rfl) (fun _ _ d _ _ h => by cases d <;> exact h) (.inr ⟨rfl, rfl⟩) HS.out ?_; (intro K' hK'; go_simp; refine hK' _ ?_; clear hK' K'))
  first | (refine LeftL.run (v := ?_) 13 rfl (by kernel_rfl) rfl (fun _ _ d _ _ h => by cases d <;> exact h) ?_ HS.out ?_; rotate_left; (· intro V hV; obtain ⟨q0, q1, q2, q3⟩ := HFX.out V hV; clear hV; go_simp; rfl); (intro K' hK'; go_simp; refine hK' _ ?_; clear hK' K')) | (refine LeftL.runG (v := ?_) 13 rfl (by kernel_rfl) rfl (fun _ _ d _ _ h => by cases d <;> exact h) ?_ HS.out ?_; rotate_left; (· intro V hV; obtain ⟨q0, q1, q2, q3⟩ := HFX.out V hV; clear hV; go_simp; rfl); (intro K' hK'; go_simp; refine hK' _ ?_; clear hK' K')) | (refine LeftL.take (v := undef) 13 rfl (by kernel_rfl) (fun _ _ d _ _ h => by cases d <;> exact h) (.inr ⟨rfl, rfl⟩) HS.out ?_; (intro K' hK'; go_simp; refine hK' _ ?_; clear hK' K'))
  have k9d : Blk V.drew p9 25 f.cells := K9.out
  have x0 : V.drew.cell? ⟨p9, 0, none⟩ = some (.int .i64 f.pull) := k9d.cell 0
  have y0 := k9d.free 0
  have K9D := Lib.hid k9d
  clear k9d
  refine LeftL.one 14 rfl (by kernel_rfl) ?_
  go_wp2_with fail
  first | refine ⟨fun _ => HS.out, ?_⟩ | refine ⟨HS.out, ?_⟩
  obtain ⟨pa, hpa⟩ : ∃ x, x = min 100000 (f.pull + m0) := ⟨_, rfl⟩
  obtain ⟨pl, hpl⟩ : ∃ x, x = min 100000 (f.line + m1) := ⟨_, rfl⟩
  rw [← hpa, ← hpl]
  have HPA := Lib.hid hpa
  have HPLN := Lib.hid hpl
  clear hpl hpa
  refine LeftL.one 15 rfl (by kernel_rfl) ?_
  go_wp2_with fail
  have hS2 : Frm V.heap.size [p9] V (V.drew.setCell ⟨p9, 0, none⟩ (.int .i64 pa)) := HS.out.setCell (p := ⟨p9, 0, none⟩) (.inl (by simp)) _
  have j9 : Blk (V.drew.setCell ⟨p9, 0, none⟩ (.int .i64 pa)) p9 25 [.int .i64 pa, .int .i64 f.line, .int .i64 f.drag, .int .i64 f.push, .int .i64 f.length, .int .i64 f.wave] := K9D.out.set 0 _
  first | refine ⟨fun _ => hS2, ?_⟩ | refine ⟨hS2, ?_⟩
  refine namedLL ?_; intro U1 hU1
  replace hS2 : Frm V.heap.size [p9] V U1 := by rw [hU1]; exact hS2
  replace j9 : Blk U1 p9 25 [.int .i64 pa, .int .i64 f.line, .int .i64 f.drag, .int .i64 f.push, .int .i64 f.length, .int .i64 f.wave] := by rw [hU1]; exact j9
  clear hU1
  clear HS x0 y0 K9D
  have x1 : U1.cell? ⟨p9, 1, none⟩ = some (.int .i64 f.line) := j9.cell 1
  have y1 := j9.free 1
  have HS := Lib.hid hS2
  have J9 := Lib.hid j9
  clear j9 hS2
  refine LeftL.one 16 rfl (by kernel_rfl) ?_
  go_wp2_with fail
  first | refine ⟨fun _ => HS.out, ?_⟩ | refine ⟨HS.out, ?_⟩
  refine LeftL.one 17 rfl (by kernel_rfl) ?_
  go_wp2_with fail
  have hS3 : Frm V.heap.size [p9] V (U1.setCell ⟨p9, 1, none⟩ (.int .i64 pl)) := HS.out.setCell (p := ⟨p9, 1, none⟩) (.inl (by simp)) _
  have j9 : Blk (U1.setCell ⟨p9, 1, none⟩ (.int .i64 pl)) p9 25 (moreA f m0 m1).cells := by
    have e : (moreA f m0 m1).cells = [.int .i64 pa, .int .i64 pl, .int .i64 f.drag, .int .i64 f.push, .int .i64 f.length, .int .i64 f.wave] := by rw [HPA.out, HPLN.out]; rfl
    rw [e]
    exact J9.out.set 1 (.int .i64 pl)
  first | refine ⟨fun h => absurd rfl h, ?_⟩ | refine ⟨fun _ => hS3, ?_⟩ | refine ⟨hS3, ?_⟩
  refine namedLL ?_; intro U2 hU2
  replace hS3 : Frm V.heap.size [p9] V U2 := by rw [hU2]; exact hS3
  replace j9 : Blk U2 p9 25 (moreA f m0 m1).cells := by rw [hU2]; exact j9
  clear hU2
  refine LeftL.done (by kernel_rfl) ?_
  clear x1 y1 J9 HS HFX a0 a1 a2 a3 a4 a5
  have hf := HF.out.call hS3 HF.out.size (fun x hx hm => by have := LW9.out; simp at hm; omega)
  have hb := hS3.blk HB.out HB.out.lt (by simpa using HC9.out)
  have hb2 := hS3.blk HB2.out HB2.out.lt (by simpa using HC29.out)
  have k10 := hS3.blk K10.out K10.out.lt (by simpa using HN.out.symm)
  clear hS3 HF HB HB2 K9 K10
  have d0 : U2.cell? ⟨c, 2, none⟩ = some (.int .i64 f.drag) := hb.cell 2
  have d1 : U2.cell? ⟨c2, 2, none⟩ = some (.int .u16 m2) := hb2.cell 2
  have d2 : U2.cell? ⟨p10, 2, none⟩ = some (.int .i64 f.drag) := k10.cell 2
  have d3 := k10.free 2
  have hm2 := HM2.out
  have hdr := HOK.out.drag
  have a0 : IntKind.i64.wrap m2 = m2 := IntWalk.i64_in _ (by omega)
  have a2 : IntKind.i64.wrap (f.drag + m2) = f.drag + m2 := IntWalk.i64_in _ (by omega)
  have a4 : wrap64 (f.drag + m2) = f.drag + m2 := IntWalk.wrap64_in _ (by omega)
  clear hm2 hdr hb hb2
  have HF := Lib.hid hf
  have K9 := Lib.hid j9
  have K10 := Lib.hid k10
  clear k10 j9 hf
  go_upto_region 9 with fail
  refine namedC ?_; intro U3 hU3
  have k10 : Blk U3 p10 25 (moreB f m2).cells := by rw [hU3]; exact K10.out.set 2 _
  have k9 : Blk U3 p9 25 (moreA f m0 m1).cells := by rw [hU3]; exact K9.out.other ⟨p10, 2, none⟩ HN.out.symm _
  have hf : Frm w.heap.size [] w U3 := by rw [hU3]; have := LW10.out; exact HF.out.setCell (p := ⟨p10, 2, none⟩) (.inr this) _
  clear hU3 d0 d1 d2 d3 a0 a2 a4 HF K9 K10
  have oka := moreA_ok HOK.out HM0.out.1 HM1.out.1
  have okb := moreB_ok HOK.out HM2.out.1
  have HF := Lib.hid hf
  have K9 := Lib.hid k9
  have K10 := Lib.hid k10
  have OKA := Lib.hid oka
  have OKB := Lib.hid okb
  clear okb oka k10 k9 hf
  go_wp2_with (with_reducible refine atLoad 25 rfl ?_; refine wpList_loadE rfl rfl rfl (load_to K9.out) ?_)
  refine (speed_any _ U3).mono ?_; rintro e U4 hsp
  obtain ⟨hf1, m, hlm, rfl⟩ := speed_yes (toIn_of OKA.out) (moreA_slow HOK.out HM0.out.1 HM1.out.1 HSL.out) hsp
  have k10 := hf1.blk K10.out K10.out.lt (by simp)
  have hf := HF.out.call hf1 HF.out.size (by simp)
  clear hf1 hsp K9 K10 HF
  have HF := Lib.hid hf
  have K10 := Lib.hid k10
  have HLM := Lib.hid hlm
  clear hlm k10 hf
  go_wp2_with (with_reducible refine atLoad 25 rfl ?_; refine wpList_loadE rfl rfl rfl (load_to K10.out) ?_)
  refine (speed_any _ U4).mono ?_; rintro e U5 hsp
  obtain ⟨hf1, k, hlk, rfl⟩ := speed_yes (toIn_of OKB.out) (moreB_slow HSL.out) hsp
  have hf := HF.out.call hf1 HF.out.size (by simp)
  have hmr : r ≤ m := by
    have h1 := moreA_poss HOK.out HM0.out.1 HM1.out.1 HL.out.yes
    rcases Int.lt_or_le m r with h | h
    · have h2 := HLM.out.no r h HR1.out
      rw [h1] at h2; cases h2
    · exact h
  have hkr : k ≤ r := by
    have h1 := moreB_poss HOK.out HM2.out.1 hlk.lo hlk.yes
    rcases Int.lt_or_le r k with h | h
    · have h2 := HL.out.no k h hlk.hi
      rw [h1] at h2; cases h2
    · exact h
  have hmd : decide (r ≤ m) = true := by simp [hmr]
  have hkd : decide (k ≤ r) = true := by simp [hkr]
  clear hf1 hsp K10 HF hlk
  have HF := Lib.hid hf
  clear hf
  go_wp2_with fail
  refine (awake_any U5 (HG.out.frm HF.out (Nat.le_refl _))).mono ?_; rintro e U6 ⟨rfl, hf1⟩
  have hf := HF.out.call hf1 HF.out.size (by simp)
  clear hf1 HF
  have HF := Lib.hid hf
  clear hf
  go_wp2_with fail
  go_ret
  exact ⟨rfl, HF.out⟩
/-! the row -/
set_option maxRecDepth 100000 in
theorem careTows_lifted (os : Os) (started : os.Started) (H : Type) (enc : TypeId × Value → H) :
    ReturnsInHanded {} Tryd.checked os 4 .any (fun w args => (Rows.careTowsSpec.pre enc Tryd.prog Tryd.f4 [] false w args ∧ laidMetH Tryd.prog laidR w) ∧ sizedMet enc Tryd.prog Tryd.f4 (OpenSpec.ofChange Rows.careTowsSpec) false w args) (Rows.careTowsSpec.post enc Tryd.prog Tryd.f4 false true false false) := by
  refine law_liftL (fn := Tryd.f4) (s := Rows.careTowsSpec) started 3 (by kernel_rfl) Tryd.func4
      (ChangeSpec.witness_shaped (enc := enc) (C := Tryd.checked) (os := os) (X := fun w _ => laidMetH Tryd.prog laidR w) false (World.doorLaid Tryd.prog 400 os)
        #[.agg #[.int .i64 0, .int .i64 0, .int .i64 0, .int .i64 0, .int .i64 0, .int .i64 0], .agg #[.int .u16 0, .int .u16 0, .int .u16 0], .int .u16 0] 8 rfl
        (World.shaped_of_RefB (by kernel_rfl) (by kernel_rfl)) (by kernel_rfl) (by kernel_rfl) (by kernel_rfl) (door_met os _))
      (by rw [Tryd.params4]; decide +kernel) (by rw [Tryd.params4]; rfl) (by kernel_rfl) rfl (fun ds h => by match ds, h with | [d1, d2, d3], _ => rfl) ?_
  intro W base args ds ps hval hA hgl
  rw [Tryd.params4] at hA hval
  obtain ⟨v0, vs0, d0, ds0, p0, q0, hargs, rfl, rfl, h0, r0⟩ := trodAll_cons hA
  obtain ⟨v1, vs1, d1, ds1, p1, q1, rfl, rfl, rfl, h1, r1⟩ := trodAll_cons r0
  obtain ⟨v2, vs2, d2, ds2, p2, q2, rfl, rfl, rfl, h2, r2⟩ := trodAll_cons r1
  obtain ⟨rfl, rfl, rfl⟩ := trodAll_nil r2
  obtain rfl : args = #[v0, v1, v2] := by cases args; simp_all
  obtain ⟨f, rfl⟩ := open_tow (hval 0 25 v0 rfl rfl)
  obtain ⟨m0, m1, m2, rfl, hm0, hm1, hm2⟩ := open_u16s3 (hval 1 36 v1 rfl rfl) h1
  obtain ⟨n, rfl, hn⟩ := open_u16 (hval 2 35 v2 rfl rfl) h2
  exact tows_walk f m0 m1 m2 n hm0 hm1 hm2 hn W hgl

theorem careTows_over : Rows.CareTowsSaid :=
  OpenClaim.holds_of_wide 4 Tryd.f4 rfl rfl rfl rfl rfl rfl rfl ⟨rfl, rfl, rfl, rfl, rfl⟩ rfl rfl rfl rfl rfl (by kernel_rfl) Tryd.func4 (by kernel_rfl)
    (of_decide_eq_true (by kernel_rfl)) (by unfold Func.isWrapper; first | (rw [if_pos (by decide +kernel)]; kernel_rfl) | (rw [if_neg (by decide +kernel)]; exact ⟨rfl, rfl⟩))
    (fun os started H enc _ => careTows_lifted os started H enc)
end Go.Proofs.YtfmigicmfolbjaaDoor
