/-
  Texts C4, G2, I1, S1, S7 of this claim, one behind the other.
-/
import Derived.Test.YtfmigicmfolbjaaDoorB4
namespace Go.Proofs.YtfmigicmfolbjaaDoor
set_option linter.all false
set_option linter.unusedSimpArgs false
set_option linter.unusedVariables false
open Go.RowKit

attribute [local go_sem ↓ high] run_min_ run_max_ run_min2 run_max2
/-- A tow. -/
structure To where
  pull : Int
  line : Int
  drag : Int
  push : Int
  length : Int
  wave : Int
def To.list (f : To) : List Int := [f.pull, f.line, f.drag, f.push, f.length, f.wave]
def To.cells (f : To) : List Value := [.int .i64 f.pull, .int .i64 f.line, .int .i64 f.drag, .int .i64 f.push, .int .i64 f.length, .int .i64 f.wave]
theorem info25 : (Tryd.prog.info? 25).map (fun i => i.size) = some 6 := by kernel_rfl
theorem To.info (f : To) : (Tryd.prog.info? 25).map (fun i => i.size) = some f.cells.length := info25
theorem load_to {f : To} {w : World} {b : Nat} (h : Blk w b 25 f.cells) : (loadVar 25 ⟨b, 0, none⟩).run Tryd.prog w = .ok (.agg f.cells.toArray) w := loadVarB h Tryd.underlying25 rfl f.info
def toIn (f : To) : Bool := allIn (numsF f.list) 6 0 100000 && !decide (f.drag = 0)
structure ToOK (f : To) : Prop where
  pull : 0 ≤ f.pull ∧ f.pull ≤ 100000
  line : 0 ≤ f.line ∧ f.line ≤ 100000
  drag : 1 ≤ f.drag ∧ f.drag ≤ 100000
  push : 0 ≤ f.push ∧ f.push ≤ 100000
  length : 0 ≤ f.length ∧ f.length ≤ 100000
  wave : 0 ≤ f.wave ∧ f.wave ≤ 100000
theorem toIn_ok {f : To} (h : toIn f = true) : ToOK f := by
  unfold toIn at h
  simp only [Bool.and_eq_true, Bool.not_eq_true', decide_eq_false_iff_not] at h
  have h1 := allIn_iff.1 h.1
  have a0 := inB_iff.1 (h1 0 (by omega))
  have a1 := inB_iff.1 (h1 1 (by omega))
  have a2 := inB_iff.1 (h1 2 (by omega))
  have a3 := inB_iff.1 (h1 3 (by omega))
  have a4 := inB_iff.1 (h1 4 (by omega))
  have a5 := inB_iff.1 (h1 5 (by omega))
  have a2' : 0 ≤ f.drag ∧ f.drag ≤ 100000 := a2
  have := h.2
  exact ⟨a0, a1, by omega, a3, a4, a5⟩
/-- Is a speed possible? -/
def possB (f : To) (v : Int) : Bool := decide (f.drag * v * v + f.push * 10000000 ≤ min (2 * f.pull) f.line * 5000000)
theorem drag_in {f : To} (h : ToOK f) {v : Int} (hv : 0 ≤ v ∧ v ≤ 2001) : (0 ≤ f.drag * v ∧ f.drag * v ≤ 200100000) ∧ 0 ≤ f.drag * v * v ∧ f.drag * v * v ≤ 400400100000 := by
  have h1 := mul_in (a := f.drag) (b := v) (m := 100000) (n := 2001) (by have := h.drag; omega) hv
  have h2 := mul_in h1 hv
  exact ⟨h1, h2⟩
theorem poss_mono {f : To} (h : ToOK f) {x y : Int} (h0 : 0 ≤ x) (hxy : x ≤ y) (hy : possB f y = true) : possB f x = true := by
  unfold possB at hy ⊢
  rw [decide_eq_true_eq] at hy ⊢
  have h1 : f.drag * x ≤ f.drag * y := Int.mul_le_mul_of_nonneg_left hxy (by have := h.drag; omega)
  have h2 : 0 ≤ f.drag * y := Int.mul_nonneg (by have := h.drag; omega) (by omega)
  have h3 : f.drag * x * x ≤ f.drag * y * y := Int.mul_le_mul h1 hxy h0 h2
  omega
/-- The law by the document. -/
theorem poss_ref (f : To) (v : Int) : possB f v = (decide (f.drag * v * v + 10000000 * f.push ≤ 10000000 * f.pull) && decide (f.drag * v * v + 10000000 * f.push ≤ 5000000 * f.line)) := by
  unfold possB
  generalize f.drag * v * v = x
  rw [← Bool.decide_and]
  apply decide_eq_decide.2
  omega
def slowB (f : To) : Bool := decide (f.length < 20 * f.wave) || !possB f 0
def SpeedIs (f : To) (w w' : World) (e : Ending) : Prop :=
  Frm w.heap.size [] w w' ∧ ((toIn f = false ∧ e = .returned (.tuple #[.int .i64 0, .int .i64 2])) ∨ (toIn f = true ∧ slowB f = true ∧ e = .returned (.tuple #[.int .i64 0, .int .i64 7])) ∨
    (toIn f = true ∧ slowB f = false ∧ ∃ r : Int, Last (possB f) 0 2000 r ∧ e = .returned (.tuple #[.int .i64 r, .int .i64 0])))
set_option maxRecDepth 100000 in
set_option maxHeartbeats 4000000 in
theorem poss_any (f : To) (h : ToOK f) (v : Int) (hv : 0 ≤ v ∧ v ≤ 2000) (p q : Nat) (w : World) (hp : Blk w p 25 f.cells) (hq : Blk w q 3 [.int .i64 (min (2 * f.pull) f.line * 5000000)]) :
    Calls Tryd.prog 47 #[.int .i64 v, .pointer (some ⟨p, 0, none⟩), .pointer (some ⟨q, 0, none⟩)] w fun e w' => e = .returned (.bool (possB f v)) ∧ Frm w.heap.size [] w w' := by
  have hd : possB f v = decide (f.drag * v * v + f.push * 10000000 ≤ min (2 * f.pull) f.line * 5000000) := rfl
  obtain ⟨i1, i2⟩ := drag_in h (v := v) (by omega)
  have i3 := h.push
  have x1 : wrap64 (f.drag * v) = f.drag * v := IntWalk.wrap64_in _ (by omega)
  have x2 : wrap64 (f.drag * v * v) = f.drag * v * v := IntWalk.wrap64_in _ (by omega)
  have x3 : wrap64 (f.push * 10000000) = f.push * 10000000 := IntWalk.wrap64_in _ (by omega)
  have x4 : wrap64 (f.drag * v * v + f.push * 10000000) = f.drag * v * v + f.push * 10000000 := IntWalk.wrap64_in _ (by omega)
  have y1 : IntKind.i64.wrap (f.drag * v) = f.drag * v := IntWalk.i64_in _ (by omega)
  have y2 : IntKind.i64.wrap (f.drag * v * v) = f.drag * v * v := IntWalk.i64_in _ (by omega)
  have y3 : IntKind.i64.wrap (f.push * 10000000) = f.push * 10000000 := IntWalk.i64_in _ (by omega)
  have y4 : IntKind.i64.wrap (f.drag * v * v + f.push * 10000000) = f.drag * v * v + f.push * 10000000 := IntWalk.i64_in _ (by omega)
  have c2 : w.cell? ⟨p, 2, none⟩ = some (.int .i64 f.drag) := hp.cell 2
  have c3 : w.cell? ⟨p, 3, none⟩ = some (.int .i64 f.push) := hp.cell 3
  obtain ⟨lim, hlim⟩ : ∃ x, x = min (2 * f.pull) f.line * 5000000 := ⟨_, rfl⟩
  rw [← hlim] at hd hq
  have cq : w.cell? ⟨q, 0, none⟩ = some (.int .i64 lim) := hq.cell 0
  rw [hd]
  clear i1 i2 i3 hp hq h hd hlim hv
  go_enter Tryd.func47, Tryd.ntmps47
  go_wp2_with fail
  go_ret
  exact ⟨rfl, Frm.refl _ _ _⟩
set_option maxRecDepth 100000 in
set_option maxHeartbeats 8000000 in
theorem speed_any (f : To) (w : World) : Calls Tryd.prog 15 #[.agg f.cells.toArray] w fun e w' => SpeedIs f w w' e := by
  have hf0 := Tryd.func15
  have hen : Enters 47 := enters Tryd.func47 (by kernel_rfl) (by kernel_rfl)
  go_enter Tryd.func15, Tryd.ntmps15
  go_upto_region 1 with fail
  refine namedC ?_; intro W hW
  have hb : Blk W w.heap.size 25 f.cells := by rw [hW]; exact Blk.new w 25 f.cells
  have hf : Frm w.heap.size [] w W := by rw [hW]; repeat (first | with_reducible exact Frm.refl _ _ _ | with_reducible refine Frm.drewN ?_ | with_reducible refine Frm.drew ?_ | ((with_reducible refine Frm.setCell' ?_ ?_); · first | (left; simp; done) | (right; simp; done) | (right; simp; omega)) | ((with_reducible refine Frm.alloc' ?_ ?_); · first | exact Nat.le_refl _ | (simp; done) | (simp; omega)))
  clear hW hf0
  obtain ⟨c, hc⟩ : ∃ c, c = w.heap.size := ⟨_, rfl⟩
  rw [← hc] at hb ⊢
  have c0 : W.cell? ⟨c, 0, none⟩ = some (.int .i64 f.pull) := hb.cell 0
  have c1 : W.cell? ⟨c, 1, none⟩ = some (.int .i64 f.line) := hb.cell 1
  have c2 : W.cell? ⟨c, 2, none⟩ = some (.int .i64 f.drag) := hb.cell 2
  have c3 : W.cell? ⟨c, 3, none⟩ = some (.int .i64 f.push) := hb.cell 3
  have c4 : W.cell? ⟨c, 4, none⟩ = some (.int .i64 f.length) := hb.cell 4
  have c5 : W.cell? ⟨c, 5, none⟩ = some (.int .i64 f.wave) := hb.cell 5
  have HB := Lib.hid hb
  have HF := Lib.hid hf
  have HC := Lib.hid hc
  have HEN := Lib.hid hen
  clear hen hc hf hb
  go_wp2_with fail
  refine namedCalls ?_; intro V hV
  have hbn : Blk V W.heap.size 3 (f.list.map fun x => Value.int .i64 x) := by rw [hV]; exact Blk.new W 3 (f.list.map fun x => Value.int .i64 x)
  have hf2 : Frm W.heap.size [] W V := by rw [hV]; exact (Frm.refl _ _ W).alloc (Nat.le_refl _) _
  clear hV
  refine (all_any 0 100000 _ W.heap.size 0 6 6 (numsF f.list) V (rwI_new hbn (show 6 ≤ 1000 by omega))).mono ?_; rintro e w1 ⟨rfl, hf1⟩
  have hf3 := hf2.call hf1 hf2.size (by simp)
  have hb := hf3.blk HB.out HB.out.lt (by simp)
  have hf := HF.out.call hf3 HF.out.size (by simp)
  clear hf1 hf2 hf3 hbn HB HF c0 c1 c2 c3 c4 c5
  have c0 : w1.cell? ⟨c, 0, none⟩ = some (.int .i64 f.pull) := hb.cell 0
  have c1 : w1.cell? ⟨c, 1, none⟩ = some (.int .i64 f.line) := hb.cell 1
  have c2 : w1.cell? ⟨c, 2, none⟩ = some (.int .i64 f.drag) := hb.cell 2
  have c3 : w1.cell? ⟨c, 3, none⟩ = some (.int .i64 f.push) := hb.cell 3
  have c4 : w1.cell? ⟨c, 4, none⟩ = some (.int .i64 f.length) := hb.cell 4
  have c5 : w1.cell? ⟨c, 5, none⟩ = some (.int .i64 f.wave) := hb.cell 5
  have HB := Lib.hid hb
  have HF := Lib.hid hf
  clear hf hb
  cases hal : allIn (numsF f.list) 6 0 100000
  · have hin : toIn f = false := by unfold toIn; rw [hal]; rfl
    have HIN := Lib.hid hin
    have HAL := Lib.hid hal
    clear hal hin
    go_wp2_with fail
    refine bodyPost_ret (v := .tuple #[.int .i64 0, .int .i64 2]) (by simp [results, Tryd.results15, go_sem]) rfl ?_
    exact ⟨HF.out, .inl ⟨HIN.out, rfl⟩⟩
  by_cases hp : f.drag = 0
  · have hin : toIn f = false := by unfold toIn; rw [hp]; simp
    have e1 : (f.drag == 0) = true := by simp [hp]
    have HIN := Lib.hid hin
    have HAL := Lib.hid hal
    clear hal hin
    go_wp2_with fail
    refine bodyPost_ret (v := .tuple #[.int .i64 0, .int .i64 2]) (by simp [results, Tryd.results15, go_sem]) rfl ?_
    exact ⟨HF.out, .inl ⟨HIN.out, rfl⟩⟩
  have hin : toIn f = true := by unfold toIn; rw [hal]; simp [hp]
  have e1 : (f.drag == 0) = false := by simp [hp]
  have ok := toIn_ok hin
  have i0 := ok.pull
  have i1 := ok.line
  have i5 := ok.wave
  obtain ⟨mn, hmn⟩ : ∃ m, m = min (2 * f.pull) f.line := ⟨_, rfl⟩
  have emn := hmn.symm
  have x1 : wrap64 (2 * f.pull) = 2 * f.pull := IntWalk.wrap64_in _ (by omega)
  have y1 : IntKind.i64.wrap (2 * f.pull) = 2 * f.pull := IntWalk.i64_in _ (by omega)
  have x2 : wrap64 (mn * 5000000) = mn * 5000000 := IntWalk.wrap64_in _ (by omega)
  have y2 : IntKind.i64.wrap (mn * 5000000) = mn * 5000000 := IntWalk.i64_in _ (by omega)
  have x3 : wrap64 (20 * f.wave) = 20 * f.wave := IntWalk.wrap64_in _ (by omega)
  have y3 : IntKind.i64.wrap (20 * f.wave) = 20 * f.wave := IntWalk.i64_in _ (by omega)
  clear hmn i0 i1 i5
  have HIN := Lib.hid hin
  have HAL := Lib.hid hal
  have HOK := Lib.hid ok
  clear ok hal hin
  go_upto_region 4 with fail
  refine namedC ?_; intro w2 hw2
  have hbl : Blk w2 w1.heap.size 3 [.int .i64 (min (2 * f.pull) f.line * 5000000)] := by
    rw [hw2, emn]
    exact Blk.new w1 3 [.int .i64 (mn * 5000000)]
  have hf2 : Frm w1.heap.size [] w1 w2 := by
    rw [hw2]
    exact (Frm.refl _ _ w1).alloc (Nat.le_refl _) _
  have hb2 := hf2.blk HB.out HB.out.lt (by simp)
  have hf := HF.out.call hf2 HF.out.size (by simp)
  obtain ⟨q, hq⟩ : ∃ q, q = w1.heap.size := ⟨_, rfl⟩
  rw [← hq] at hbl ⊢
  clear hw2 hf2 HB HF c0 c1 c2 c3 c4 c5 hq e1 hp x1 y1 x2 y2 emn
  have hpo : ∀ V, Frm w2.heap.size [] w2 V → ∀ v, 0 ≤ v → v ≤ 2000 → Calls Tryd.prog 47 (#[.int .i64 v] ++ #[.pointer (some ⟨c, 0, none⟩), .pointer (some ⟨q, 0, none⟩)]) V fun e w' => e = .returned (.bool (possB f v)) ∧ Frm V.heap.size [] V w' := fun V hV v h1 h2 =>
    poss_any f HOK.out v ⟨h1, h2⟩ c q V (hV.blk hb2 hb2.lt (by simp)) (hV.blk hbl hbl.lt (by simp))
  have c4 : w2.cell? ⟨c, 4, none⟩ = some (.int .i64 f.length) := hb2.cell 4
  have c5 : w2.cell? ⟨c, 5, none⟩ = some (.int .i64 f.wave) := hb2.cell 5
  have e47 := HEN.out.out
  clear hb2 hbl
  have HF := Lib.hid hf
  have HPO := Lib.hid hpo
  clear hpo hf
  by_cases hl : f.length < 20 * f.wave
  · have hs : slowB f = true := by unfold slowB; simp [hl]
    have HSL := Lib.hid hs
    clear hs
    go_wp2_with fail
    refine bodyPost_ret (v := .tuple #[.int .i64 0, .int .i64 7]) (by simp [results, Tryd.results15, go_sem]) rfl ?_
    exact ⟨HF.out, .inr (.inl ⟨HIN.out, HSL.out, rfl⟩)⟩
  have hp0 := HPO.out w2 (Frm.refl _ _ _) 0 (by omega) (by omega)
  have HP0 := Lib.hid hp0
  clear hp0
  go_wp2_with fail
  refine HP0.out.mono ?_; rintro e w3 ⟨rfl, hf3⟩
  cases hz : possB f 0
  · have hs : slowB f = true := by unfold slowB; simp [hz]
    have hf := HF.out.call hf3 HF.out.size (by simp)
    clear hf3 hl
    have HSL := Lib.hid hs
    have HFN := Lib.hid hf
    clear hf hs
    go_wp2_with fail
    refine bodyPost_ret (v := .tuple #[.int .i64 0, .int .i64 7]) (by simp [results, Tryd.results15, go_sem]) rfl ?_
    exact ⟨HFN.out, .inr (.inl ⟨HIN.out, HSL.out, rfl⟩)⟩
  · have hs : slowB f = false := by unfold slowB; simp [hz]; omega
    have hla := last_any 47 #[.pointer (some ⟨c, 0, none⟩), .pointer (some ⟨q, 0, none⟩)] HEN.out 0 2000 (possB f) w3 (by omega) (by omega) (by omega) hz (fun x y h1 h2 _ h3 => poss_mono HOK.out h1 h2 h3) (fun V hV m h1 h2 => HPO.out V (hf3.call hV hf3.size (by simp)) m h1 h2)
    have hf := HF.out.call hf3 HF.out.size (by simp)
    clear hf3 hl
    have HSL := Lib.hid hs
    have HFN := Lib.hid hf
    have HLA := Lib.hid hla
    clear hla hf hs
    go_wp2_with fail
    refine HLA.out.mono ?_; rintro e w4 ⟨⟨r, rfl, hr⟩, hf4⟩
    have hf := HFN.out.call hf4 HFN.out.size (by simp)
    clear hf4
    have HFF := Lib.hid hf
    have HR := Lib.hid hr
    clear hr hf
    go_wp2_with fail
    refine bodyPost_ret (v := .tuple #[.int .i64 r, .int .i64 0]) (by simp [results, Tryd.results15, go_sem]) rfl ?_
    exact ⟨HFF.out, .inr (.inr ⟨HIN.out, HSL.out, r, HR.out, rfl⟩)⟩
set_option maxRecDepth 100000 in
set_option maxHeartbeats 4000000 in
theorem refPoss_any (f : To) (h : ToOK f) (v : Int) (hv : 0 ≤ v ∧ v ≤ 2001) (w : World) :
    Calls Tryd.prog 20 #[.agg f.cells.toArray, .int .i64 v] w fun e w' => e = .returned (.bool (possB f v)) ∧ Frm w.heap.size [] w w' := by
  have hf0 := Tryd.func20
  have hd := poss_ref f v
  obtain ⟨i1, i2⟩ := drag_in h (v := v) hv
  have i3 := h.push
  have i4 := h.pull
  have i5 := h.line
  obtain ⟨fo, hfo⟩ : ∃ x, x = f.drag * v * v + 10000000 * f.push := ⟨_, rfl⟩
  rw [← hfo] at hd
  have x1 : wrap64 (f.drag * v) = f.drag * v := IntWalk.wrap64_in _ (by omega)
  have x2 : wrap64 (f.drag * v * v) = f.drag * v * v := IntWalk.wrap64_in _ (by omega)
  have x3 : wrap64 (10000000 * f.push) = 10000000 * f.push := IntWalk.wrap64_in _ (by omega)
  have x4 : wrap64 (f.drag * v * v + 10000000 * f.push) = fo := by rw [← hfo]; exact IntWalk.wrap64_in _ (by omega)
  have x5 : wrap64 (10000000 * f.pull) = 10000000 * f.pull := IntWalk.wrap64_in _ (by omega)
  have x6 : wrap64 (5000000 * f.line) = 5000000 * f.line := IntWalk.wrap64_in _ (by omega)
  have y1 : IntKind.i64.wrap (f.drag * v) = f.drag * v := IntWalk.i64_in _ (by omega)
  have y2 : IntKind.i64.wrap (f.drag * v * v) = f.drag * v * v := IntWalk.i64_in _ (by omega)
  have y3 : IntKind.i64.wrap (10000000 * f.push) = 10000000 * f.push := IntWalk.i64_in _ (by omega)
  have y4 : IntKind.i64.wrap (f.drag * v * v + 10000000 * f.push) = fo := by rw [← hfo]; exact IntWalk.i64_in _ (by omega)
  have y5 : IntKind.i64.wrap (10000000 * f.pull) = 10000000 * f.pull := IntWalk.i64_in _ (by omega)
  have y6 : IntKind.i64.wrap (5000000 * f.line) = 5000000 * f.line := IntWalk.i64_in _ (by omega)
  clear i1 i2 i3 i4 i5 h hv hfo
  have HD := Lib.hid hd
  clear hd
  go_enter Tryd.func20, Tryd.ntmps20
  go_upto_region 1 with fail
  refine namedC ?_; intro W hW
  have hb : Blk W w.heap.size 25 f.cells := by rw [hW]; exact Blk.new w 25 f.cells
  have hf : Frm w.heap.size [] w W := by rw [hW]; repeat (first | with_reducible exact Frm.refl _ _ _ | with_reducible refine Frm.drewN ?_ | with_reducible refine Frm.drew ?_ | ((with_reducible refine Frm.setCell' ?_ ?_); · first | (left; simp; done) | (right; simp; done) | (right; simp; omega)) | ((with_reducible refine Frm.alloc' ?_ ?_); · first | exact Nat.le_refl _ | (simp; done) | (simp; omega)))
  clear hW hf0
  obtain ⟨c, hc⟩ : ∃ c, c = w.heap.size := ⟨_, rfl⟩
  rw [← hc] at hb ⊢
  have c0 : W.cell? ⟨c, 0, none⟩ = some (.int .i64 f.pull) := hb.cell 0
  have c1 : W.cell? ⟨c, 1, none⟩ = some (.int .i64 f.line) := hb.cell 1
  have c2 : W.cell? ⟨c, 2, none⟩ = some (.int .i64 f.drag) := hb.cell 2
  have c3 : W.cell? ⟨c, 3, none⟩ = some (.int .i64 f.push) := hb.cell 3
  have c4 : W.cell? ⟨c, 4, none⟩ = some (.int .i64 f.length) := hb.cell 4
  have c5 : W.cell? ⟨c, 5, none⟩ = some (.int .i64 f.wave) := hb.cell 5
  have HB := Lib.hid hb
  have HF := Lib.hid hf
  have HC := Lib.hid hc
  clear hc hf hb
  by_cases h1 : fo ≤ 10000000 * f.pull
  · by_cases h2 : fo ≤ 5000000 * f.line
    · go_wp2_with fail
      go_ret
      exact ⟨by rw [HD.out]; simp [h1, h2], HF.out⟩
    · go_wp2_with fail
      go_ret
      exact ⟨by rw [HD.out]; first | (simp [h1, h2]; done) | (simp; omega), HF.out⟩
  · go_wp2_with fail
    go_ret
    exact ⟨by rw [HD.out]; first | (simp [h1]; done) | (simp; omega), HF.out⟩
set_option maxRecDepth 100000 in
set_option maxHeartbeats 4000000 in
theorem refTow_any (f : To) (w : World) : Calls Tryd.prog 19 #[.agg f.cells.toArray] w fun e w' => e = .returned (.bool (toIn f)) ∧ Frm w.heap.size [] w w' := by
  have hf0 := Tryd.func19
  obtain ⟨r, hr⟩ : ∃ r, r = toIn f := ⟨_, rfl⟩
  rw [← hr]
  go_enter Tryd.func19, Tryd.ntmps19
  go_upto_region 1 with fail
  refine namedC ?_; intro W hW
  have hb : Blk W w.heap.size 25 f.cells := by rw [hW]; exact Blk.new w 25 f.cells
  have hf : Frm w.heap.size [] w W := by rw [hW]; repeat (first | with_reducible exact Frm.refl _ _ _ | with_reducible refine Frm.drewN ?_ | with_reducible refine Frm.drew ?_ | ((with_reducible refine Frm.setCell' ?_ ?_); · first | (left; simp; done) | (right; simp; done) | (right; simp; omega)) | ((with_reducible refine Frm.alloc' ?_ ?_); · first | exact Nat.le_refl _ | (simp; done) | (simp; omega)))
  clear hW hf0
  obtain ⟨c, hc⟩ : ∃ c, c = w.heap.size := ⟨_, rfl⟩
  rw [← hc] at hb ⊢
  have c0 : W.cell? ⟨c, 0, none⟩ = some (.int .i64 f.pull) := hb.cell 0
  have c1 : W.cell? ⟨c, 1, none⟩ = some (.int .i64 f.line) := hb.cell 1
  have c2 : W.cell? ⟨c, 2, none⟩ = some (.int .i64 f.drag) := hb.cell 2
  have c3 : W.cell? ⟨c, 3, none⟩ = some (.int .i64 f.push) := hb.cell 3
  have c4 : W.cell? ⟨c, 4, none⟩ = some (.int .i64 f.length) := hb.cell 4
  have c5 : W.cell? ⟨c, 5, none⟩ = some (.int .i64 f.wave) := hb.cell 5
  have HB := Lib.hid hb
  have HF := Lib.hid hf
  have HC := Lib.hid hc
  have HRR := Lib.hid hr
  clear hr hc hf hb
  go_wp2_with fail
  refine namedCalls ?_; intro V hV
  have hbn : Blk V W.heap.size 3 (f.list.map fun x => Value.int .i64 x) := by rw [hV]; exact Blk.new W 3 (f.list.map fun x => Value.int .i64 x)
  have hf2 : Frm W.heap.size [] W V := by rw [hV]; exact (Frm.refl _ _ W).alloc (Nat.le_refl _) _
  clear hV
  refine (refAll_any 0 100000 _ W.heap.size 0 6 6 (numsF f.list) V (rwI_new hbn (show 6 ≤ 1000 by omega))).mono ?_; rintro e w1 ⟨rfl, hf1⟩
  have hf3 := hf2.call hf1 hf2.size (by simp)
  have hb := hf3.blk HB.out HB.out.lt (by simp)
  have hf := HF.out.call hf3 HF.out.size (by simp)
  clear hf1 hf2 hf3 hbn HB HF c0 c1 c2 c3 c4 c5
  have c2 : w1.cell? ⟨c, 2, none⟩ = some (.int .i64 f.drag) := hb.cell 2
  have HB := Lib.hid hb
  have HF := Lib.hid hf
  clear hf hb
  cases hal : allIn (numsF f.list) 6 0 100000
  · have hin : r = false := by rw [HRR.out]; unfold toIn; rw [hal]; rfl
    subst hin
    have HAL := Lib.hid hal
    clear hal
    go_wp2_with fail
    go_ret
    exact ⟨rfl, HF.out⟩
  have hp0 : 0 ≤ f.drag := by
    have h1 := allIn_iff.1 hal 2 (by omega)
    exact (inB_iff.1 h1).1
  by_cases hp : 1 ≤ f.drag
  · have hin : r = true := by rw [HRR.out]; unfold toIn; rw [hal]; simp; omega
    subst hin
    clear hp0
    have HAL := Lib.hid hal
    clear hal
    go_wp2_with fail
    go_ret
    exact ⟨by simp [hp], HF.out⟩
  · have hin : r = false := by rw [HRR.out]; unfold toIn; rw [show f.drag = 0 by omega]; simp
    subst hin
    clear hp0
    have HAL := Lib.hid hal
    clear hal
    go_wp2_with fail
    go_ret
    exact ⟨by first | rfl | (simp; omega), HF.out⟩
set_option maxRecDepth 100000 in
set_option maxHeartbeats 8000000 in
theorem refSpeed_any (f : To) (w : World) : Calls Tryd.prog 16 #[.agg f.cells.toArray] w fun e w' => SpeedIs f w w' e := by
  have hf0 := Tryd.func16
  have hsi := f.info
  go_enter Tryd.func16, Tryd.ntmps16
  go_upto_region 1 with fail
  refine namedC ?_; intro W hW
  have hb : Blk W w.heap.size 25 f.cells := by rw [hW]; exact Blk.new w 25 f.cells
  have hf : Frm w.heap.size [] w W := by rw [hW]; repeat (first | with_reducible exact Frm.refl _ _ _ | with_reducible refine Frm.drewN ?_ | with_reducible refine Frm.drew ?_ | ((with_reducible refine Frm.setCell' ?_ ?_); · first | (left; simp; done) | (right; simp; done) | (right; simp; omega)) | ((with_reducible refine Frm.alloc' ?_ ?_); · first | exact Nat.le_refl _ | (simp; done) | (simp; omega)))
  clear hW hf0
  obtain ⟨c, hc⟩ : ∃ c, c = w.heap.size := ⟨_, rfl⟩
  rw [← hc] at hb ⊢
  have HB := Lib.hid hb
  have HF := Lib.hid hf
  have HC := Lib.hid hc
  have HSI := Lib.hid hsi
  clear hsi hc hf hb
  go_wp2_with (with_reducible refine atLoad 25 rfl ?_; refine wpList_loadB (ty := 25) rfl rfl HB.out rfl Tryd.underlying25 rfl HSI.out ?_)
  refine (refTow_any f W).mono ?_; rintro e w1 ⟨rfl, hf1⟩
  have hb := hf1.blk HB.out HB.out.lt (by simp)
  have hf := HF.out.call hf1 HF.out.size (by simp)
  clear hf1 HB HF
  cases hin : toIn f
  · have HB := Lib.hid hb
    have HF := Lib.hid hf
    have HIN := Lib.hid hin
    clear hin hf hb
    go_wp2_with fail
    refine bodyPost_ret (v := .tuple #[.int .i64 0, .int .i64 2]) (by simp [results, Tryd.results16, go_sem]) rfl ?_
    exact ⟨HF.out, .inl ⟨HIN.out, rfl⟩⟩
  have ok := toIn_ok hin
  have i5 := ok.wave
  have x3 : wrap64 (20 * f.wave) = 20 * f.wave := IntWalk.wrap64_in _ (by omega)
  have y3 : IntKind.i64.wrap (20 * f.wave) = 20 * f.wave := IntWalk.i64_in _ (by omega)
  have c4 : w1.cell? ⟨c, 4, none⟩ = some (.int .i64 f.length) := hb.cell 4
  have c5 : w1.cell? ⟨c, 5, none⟩ = some (.int .i64 f.wave) := hb.cell 5
  clear i5
  have HB := Lib.hid hb
  have HF := Lib.hid hf
  have HIN := Lib.hid hin
  have HOK := Lib.hid ok
  clear ok hin hf hb
  by_cases hl : f.length < 20 * f.wave
  · have hs : slowB f = true := by unfold slowB; simp [hl]
    have HSL := Lib.hid hs
    clear hs
    go_wp2_with fail
    refine bodyPost_ret (v := .tuple #[.int .i64 0, .int .i64 7]) (by simp [results, Tryd.results16, go_sem]) rfl ?_
    exact ⟨HF.out, .inr (.inl ⟨HIN.out, HSL.out, rfl⟩)⟩
  have hld : decide (f.length < 20 * f.wave) = false := by simp; omega
  go_wp2_with (with_reducible refine atLoad 25 rfl ?_; refine wpList_loadGE rfl rfl rfl (load_to HB.out) ?_)
  clear hld
  refine (refPoss_any f HOK.out 0 (by omega) w1).mono ?_; rintro e w2 ⟨rfl, hf1⟩
  have hb := hf1.blk HB.out HB.out.lt (by simp)
  have hf := HF.out.call hf1 HF.out.size (by simp)
  clear hf1 HB HF c4 c5
  cases hz : possB f 0
  · have hs : slowB f = true := by unfold slowB; simp [hz]
    clear hl
    have HSL := Lib.hid hs
    have HFN := Lib.hid hf
    clear hf hs
    go_wp2_with fail
    refine bodyPost_ret (v := .tuple #[.int .i64 0, .int .i64 7]) (by simp [results, Tryd.results16, go_sem]) rfl ?_
    exact ⟨HFN.out, .inr (.inl ⟨HIN.out, HSL.out, rfl⟩)⟩
  have hs : slowB f = false := by unfold slowB; simp [hz]; omega
  clear x3 y3
  have HSL := Lib.hid hs
  have HF := Lib.hid hf
  have HB := Lib.hid hb
  have HZ := Lib.hid hz
  clear hz hb hf hs
  go_wp2_with fail
  clear hl
  go_loopw [4] (fun s4 wr => ∃ v : Int, s4 = .int .i64 v ∧ 0 ≤ v ∧ v ≤ 2000 ∧ possB f v = true ∧ Frm w2.heap.size [] w2 wr) (fun s4 _ => 2000 - (intOf s4).toNat)
  case atStart => exact ⟨0, rfl, by omega, by omega, HZ.out, by repeat (first | with_reducible exact Frm.refl _ _ _ | with_reducible refine Frm.drewN ?_ | with_reducible refine Frm.drew ?_ | ((with_reducible refine Frm.setCell' ?_ ?_); · first | (left; simp; done) | (right; simp; done) | (right; simp; omega)) | ((with_reducible refine Frm.alloc' ?_ ?_); · first | exact Nat.le_refl _ | (simp; done) | (simp; omega)))⟩
  case round =>
    obtain ⟨v, rfl, hv0, hv1, hpv, hfr⟩ := hrel
    have hb := hfr.blk HB.out HB.out.lt (by simp)
    have hf := HF.out.call hfr HF.out.size (by simp)
    by_cases hlt : v < 2000
    · have x1 : wrap64 (v + 1) = v + 1 := IntWalk.wrap64_in _ (by omega)
      have y1 : IntKind.i64.wrap (v + 1) = v + 1 := IntWalk.i64_in _ (by omega)
      have HRNG := Lib.hid (And.intro hv0 hlt)
      have HFR := Lib.hid hfr
      have HBW := Lib.hid hb
      have HFW := Lib.hid hf
      have HPV := Lib.hid hpv
      clear hpv hf hb hfr
      clear hv0 hv1
      have hvd : decide (v < 2000) = true := by simpa using hlt
      go_wp2_with (with_reducible refine atLoad 25 rfl ?_; refine wpList_loadGE rfl rfl rfl (load_to HBW.out) ?_)
      clear hvd
      refine (refPoss_any f HOK.out (v + 1) (by have := HRNG.out; omega) wr).mono ?_; rintro e w3 ⟨rfl, hf1⟩
      have hfr := HFR.out.call hf1 HFR.out.size (by simp)
      have hf := HFW.out.call hf1 HFW.out.size (by simp)
      clear hf1 HFR HFW HBW
      cases hp : possB f (v + 1)
      · have hla : Last (possB f) 0 2000 v := ⟨HRNG.out.1, by have := HRNG.out; omega, HPV.out, fun x h1 h2 => by
          cases hx : possB f x
          · rfl
          · have := poss_mono HOK.out (x := v + 1) (y := x) (by have := HRNG.out; omega) (by omega) hx
            rw [hp] at this
            cases this⟩
        have HFN := Lib.hid hf
        have HLA := Lib.hid hla
        clear hla hf
        go_wp2_with fail
        refine bodyPost_ret (v := .tuple #[.int .i64 v, .int .i64 0]) (by simp [results, Tryd.results16, go_sem]) rfl ?_
        exact ⟨HFN.out, .inr (.inr ⟨HIN.out, HSL.out, v, HLA.out, rfl⟩)⟩
      · have HFR := Lib.hid hfr
        have HP := Lib.hid hp
        clear hp hfr
        clear hf
        go_wp2_with fail
        (try simp only [x1, y1])
        exact ⟨⟨v + 1, rfl, by have := HRNG.out; omega, by have := HRNG.out; omega, HP.out, HFR.out⟩, by have := HRNG.out; simp [intOf]; omega⟩
    · have hv : v = 2000 := by omega
      subst hv
      have hla : Last (possB f) 0 2000 2000 := ⟨by omega, by omega, hpv, fun x h1 h2 => absurd h1 (by omega)⟩
      clear hfr hb
      have HFN := Lib.hid hf
      have HLA := Lib.hid hla
      clear hla hf
      go_wp2_with fail
      refine bodyPost_ret (v := .tuple #[.int .i64 2000, .int .i64 0]) (by simp [results, Tryd.results16, go_sem]) rfl ?_
      exact ⟨HFN.out, .inr (.inr ⟨HIN.out, HSL.out, 2000, HLA.out, rfl⟩)⟩
end Go.Proofs.YtfmigicmfolbjaaDoor

namespace Go.Proofs.YtfmigicmfolbjaaDoor
set_option linter.all false
set_option linter.unusedSimpArgs false
set_option linter.unusedVariables false
open Go.RowKit

theorem LeftL.three {P : Program} {l : List Oper} {Q : Exit → Act → World → Prop} {S : World → Prop} {t : Nat} {done : List Nat} {a : Act} {w : World} (i i' i'' : Nat) {o o' o'' : Oper} (ho : l[i]? = some o) (ho' : l[i']? = some o') (ho'' : l[i'']? = some o'') (hB : (decide (done.length < l.length) && decide (Region.ready .any l.toArray (doneOf l done) = [i, i', i''])) = true)
    (h : wpList P l.toArray (Exit.then (fun a' w' => (i ≠ t → S w') ∧ LeftL P l Q S t (done ++ [i]) a' w') Q) [o] a w)
    (h' : wpList P l.toArray (Exit.then (fun a' w' => (i' ≠ t → S w') ∧ LeftL P l Q S t (done ++ [i']) a' w') Q) [o'] a w)
    (h'' : wpList P l.toArray (Exit.then (fun a' w' => (i'' ≠ t → S w') ∧ LeftL P l Q S t (done ++ [i'']) a' w') Q) [o''] a w) : LeftL P l Q S t done a w := by
  simp only [Bool.and_eq_true, decide_eq_true_eq] at hB
  unfold LeftL
  rw [show l.length - done.length = (l.length - (done.length + 1)) + 1 by omega]
  refine ⟨fun h0 => (by rw [hB.2] at h0; cases h0), fun j hj => ?_⟩
  rw [hB.2] at hj
  simp only [List.mem_cons, List.not_mem_nil, or_false] at hj
  rcases hj with rfl | rfl | rfl
  · exact LeftL.op ho hB.1 h
  · exact LeftL.op ho' hB.1 h'
  · exact LeftL.op ho'' hB.1 h''
theorem wpList_storeNew2 {P : Program} {ops : Array Oper} {rest : List Oper} {o o' : Oper} {a : Act} {w : World} {Q : Exit → Act → World → Prop} (hgd : o.guard = none) (hgd' : o'.guard = none) {ty : TypeId} {x y x' y' : Operand} (ho : o.op = .store ty x y) (ho' : o'.op = .store ty x' y') (hd : o.dst = none) (hd' : o'.dst = none)
    {T : Nat} {zs cs ds : List Value} (hx : a.eval x = .pointer (some ⟨w.heap.size, 0, none⟩)) (hy : a.eval y = .agg cs.toArray) (hx' : a.eval x' = .pointer (some ⟨w.heap.size + 1, 0, none⟩)) (hy' : a.eval y' = .agg ds.toArray)
    (hl : zs.length = cs.length) (hl' : zs.length = ds.length) (hi : (P.info? ty).map (·.size) = some zs.length) (h1 : ∀ v ∈ cs, v.oneCell' = true) (h1' : ∀ v ∈ ds, v.oneCell' = true)
    (h : ∀ W', Frm w.heap.size [] w W' → Blk W' w.heap.size T cs → Blk W' (w.heap.size + 1) T ds → wpList P ops Q rest a W') :
    wpList P ops Q (o :: o' :: rest) a ((w.alloc (.cells zs.toArray T (0, 0))).alloc (.cells zs.toArray T (0, 0))) := by
  have b1 := (Blk.new w T zs).alloc (.cells zs.toArray T (0, 0))
  have b2 : Blk ((w.alloc (.cells zs.toArray T (0, 0))).alloc (.cells zs.toArray T (0, 0))) (w.heap.size + 1) T zs := Blk.new' _ T zs (by simp)
  refine wpList_storeB hgd ho b1 hx hy hl (by rw [hi, hl]) h1 ?_
  have e1 : ∀ v : Value, a.put o.dst v = a := fun v => by rw [hd]; rfl
  have e2 : ∀ v : Value, a.put o'.dst v = a := fun v => by rw [hd']; rfl
  rw [e1]
  refine wpList_storeB hgd' ho' (b2.rowO (g := w.heap.size) (cs := cs.toArray) (by omega)) hx' hy' hl' (by rw [hi, hl']) h1' ?_
  rw [e2]
  refine h _ ?_ ((b1.row cs).rowO (g := w.heap.size + 1) (cs := ds.toArray) (by omega)) ((b2.rowO (g := w.heap.size) (cs := cs.toArray) (by omega)).row ds)
  exact ((((Frm.refl w.heap.size [] w).alloc (Nat.le_refl _) _).alloc (by simp) _).setRow (.inr (Nat.le_refl _)) _).setRow (.inr (Nat.le_succ _)) _
end Go.Proofs.YtfmigicmfolbjaaDoor

namespace Go.Proofs.YtfmigicmfolbjaaDoor
set_option linter.all false
set_option linter.unusedSimpArgs false
set_option linter.unusedVariables false
open Go.RowKit Go.Shelf

def Ta.cells (t : Ta) : List Value := [.int .i64 t.long, .int .i64 t.wide, .int .i64 t.deep, .int .i64 t.floor]
def ta0 : Ta := ⟨0, 0, 0, 0⟩
theorem info49 : (Tryd.prog.info? 49).map (fun i => i.size) = some 4 := by kernel_rfl
theorem info41 : (Tryd.prog.info? 41).map (fun i => i.size) = some 3 := by kernel_rfl
theorem load_ta {t : Ta} {w : World} {b : Nat} (h : Blk w b 49 t.cells) : (loadVar 49 ⟨b, 0, none⟩).run Tryd.prog w = .ok (.agg t.cells.toArray) w := loadVarB h Tryd.underlying49 rfl info49
/-- A function that produces tanks, one by one. -/
structure IterOf (G : FuncId) (caps : Array Value) (ts : List Ta) (w0 : World) : Prop where
  it : ∀ (N l m : Nat) (S0 : List Nat) (W : World), Frm w0.heap.size [] w0 W → w0.heap.size ≤ N → N ≤ W.heap.size → (∀ x, x ∈ S0 → w0.heap.size ≤ x) →
    ∀ (J : Nat → World → Prop), (∀ i A B, N ≤ A.heap.size → J i A → Frm A.heap.size [] A B → J i B) →
    (∀ i A0 A, i < ts.length → N ≤ A0.heap.size → J i A0 → Frm A0.heap.size [] A0 A → YieldAt Fence.wide m Tryd.prog l #[.agg (ts.getD i ta0).cells.toArray] A fun e A' => KeepY N S0 A0.heap.size A A' ∧ e = .returned (.bool true) ∧ J (i + 1) A') →
    J 0 W → Calls Tryd.prog G (#[.func (.yield l) #[] #[]] ++ caps) W fun e W' => (∃ v, e = .returned v) ∧ Frm N S0 W W' ∧ J ts.length W'
attribute [local go_sem] Oper.semAt_some
set_option maxRecDepth 100000 in
set_option maxHeartbeats 8000000 in
theorem iter_values (sb : Nat) (ad : Option Addr) (b off n cap : Nat) (ts : List Ta) (hn : ts.length = n) (w0 : World) (hs : Blk w0 sb 42 [.slice ad n cap]) (hr : Rw w0 4 ad b off n fun i => (ts.getD i ta0).cells) :
    IterOf 87 #[.pointer (some ⟨sb, 0, none⟩)] ts w0 := by
  refine ⟨fun N l m S0 W hf hN1 hN hS0 J hJ hY h0 => ?_⟩
  have hf0 := Tryd.func87
  have hc1 : W.cell? ⟨sb, 0, none⟩ = some (.slice ad n cap) := (hf.blk hs hs.lt (by simp)).cell 0
  have hlen := hr.len
  rw [hn] at hY ⊢
  have HF := Lib.hid hf
  have HR := Lib.hid hr
  have HN1 := Lib.hid hN1
  have HN := Lib.hid hN
  have HS0 := Lib.hid hS0
  have HJ := Lib.hid hJ
  have HY := Lib.hid hY
  have H0 := Lib.hid h0
  have HNN := Lib.hid hn
  have HS := Lib.hid hs
  clear hs hn h0 hY hJ hS0 hN hN1 hr hf
  go_enter Tryd.func87, Tryd.ntmps87
  go_wp2_with fail
  go_loopw [7] (fun s7 wr => ∃ j : Nat, s7 = .int .i64 j ∧ j ≤ n ∧ J j wr ∧ Frm N S0 W wr) (fun s7 _ => n - (intOf s7).toNat)
  case atStart => exact ⟨0, rfl, Nat.zero_le _, H0.out, Frm.refl _ _ _⟩
  case round =>
    obtain ⟨j, rfl, hj, hJj, hfr⟩ := hrel
    by_cases hjl : j < n
    · have hjl' : (j : Int) < (n : Int) := by omega
      have had := HR.out.ad (by omega)
      subst had
      have f0 : Frm w0.heap.size [] w0 wr := HF.out.call hfr HN1.out (fun x hx hm => by have := HS0.out x hm; omega)
      obtain ⟨t, ht⟩ : ∃ t, t = ts.getD j ta0 := ⟨_, rfl⟩
      have hlo := (HR.out.frm f0 (Nat.le_refl _)).load (P := Tryd.prog) Tryd.underlying49 rfl hjl info49
      rw [← ht] at hlo
      have hNr : N ≤ wr.heap.size := Nat.le_trans HN.out hfr.size
      obtain ⟨w4x, w5x⟩ := wrapUp hjl hlen
      have hms := meas_up hjl
      have HFR := Lib.hid hfr
      have F0 := Lib.hid f0
      have HLO := Lib.hid hlo
      have HJJ := Lib.hid hJj
      have HTT := Lib.hid ht
      have HNR := Lib.hid hNr
      have HMS := Lib.hid hms
      clear hms hNr ht hJj hlo f0 hfr
      go_wp2_with (first | (with_reducible refine atLoad 49 rfl ?_; refine wpList_loadE rfl rfl rfl HLO.out ?_) | (with_reducible refine atStore 49 rfl ?_; refine stop_ ?_))
      refine go_on ?_
      refine wpList_storeNew (P := Tryd.prog) (cs := t.cells) rfl rfl rfl rfl rfl info49 (by simp [Ta.cells, Value.oneCell']) ?_
      intro W1 hfW1 hbW1 hsz
      obtain ⟨q, hq⟩ : ∃ q, q = wr.heap.size := ⟨_, rfl⟩
      have hlo2 := load_ta hbW1
      obtain ⟨fn, tms, asg, bdy, hy1, hR1⟩ := HY.out j wr W1 hjl HNR.out HJJ.out hfW1
      rw [← HTT.out] at hy1
      rw [← hq] at hlo2 ⊢
      have fr1 : Frm wr.heap.size [] wr W1 := hfW1
      clear hfW1 hbW1 hsz hq HLO
      have HLO2 := Lib.hid hlo2
      have FR1 := Lib.hid fr1
      have HR1 := Lib.hid hR1
      clear hR1 fr1 hlo2
      go_upto_region 3 with fail
      refine (wpIn_wide (n := m + 1)).1 ?_
      refine wpIn_region_lit ?_
      refine wpListIn_value (v := .func (.yield l) #[] #[]) rfl (fun _ => trivial) (fun c h => by cases h) rfl ?_
      refine wpListIn_loadE rfl (fun _ => trivial) rfl rfl HLO2.out ?_
      gi_wp2
      refine HR1.out.mono ?_; rintro e w4 ⟨hf4, rfl, hJ4⟩
      have hfr4 : Frm N S0 W w4 := (HFR.out.call FR1.out HNR.out (by simp)).trans hf4.frm
      clear hf4 FR1 HR1 HJJ HFR HLO2
      have HFR4 := Lib.hid hfr4
      have HJ4 := Lib.hid hJ4
      clear hJ4 hfr4
      gi_wp2
      go_wp2_with fail
      (try simp only [w4x, w5x])
      exact ⟨⟨j + 1, by simp, hjl, HJ4.out, HFR4.out⟩, HMS.out⟩
    · have hjl' : ¬ (j : Int) < (n : Int) := by omega
      obtain rfl : j = n := by omega
      have HFR := Lib.hid hfr
      have HJJ := Lib.hid hJj
      clear hJj hfr
      go_wp2_with fail
      go_end0
      exact ⟨⟨_, rfl⟩, HFR.out, HJJ.out⟩
end Go.Proofs.YtfmigicmfolbjaaDoor

namespace Go.Proofs.YtfmigicmfolbjaaDoor
set_option linter.all false
set_option linter.unusedSimpArgs false
set_option linter.unusedVariables false
open Go.RowKit Go.Shelf

theorem shl32 {i : Nat} (hi : i < 32) : (2 : Int) ^ min i 32 % (4294967296 : Int) = ((1 <<< i : Nat) : Int) := by
  have h : (2 : Nat) ^ i < 2 ^ 32 := Nat.pow_lt_pow_right (by omega) hi
  rw [show min i 32 = i by omega, show ((2 : Int) ^ i) = ((2 ^ i : Nat) : Int) by simp, Nat.shiftLeft_eq, Nat.one_mul]
  generalize 2 ^ i = p at h
  have h : p < 4294967296 := h
  omega
theorem shl32_lt {i : Nat} (hi : i < 32) : 1 <<< i < 4294967296 := by
  rw [Nat.shiftLeft_eq, Nat.one_mul]
  exact Nat.pow_lt_pow_right (n := 32) (m := i) (a := 2) (by omega) hi
set_option maxRecDepth 100000 in
set_option maxHeartbeats 4000000 in
theorem hasS_any (s i : Nat) (hs : s < 4294967296) (hi : i < 32) (w : World) : Calls Tryd.prog 73 #[.int .u32 (s : Int), .int .i64 (i : Int)] w fun e w' => e = .returned (.bool (s.testBit i)) ∧ w = w' := by
  have hf0 := Tryd.func73
  have hb : bits BinOp.and IntKind.u32 ((s : Int) / 2 ^ min i 32) 1 = if s.testBit i = true then 1 else 0 := by rw [show min i 32 = i by omega]; exact bit_u32 (e := s) (i := i) hs
  have x1 : IntKind.u64.wrap (i : Int) = (i : Int) := u64_nat (by omega)
  have z1 : (0 : Int) ≤ (i : Int) := by omega
  have z2 : (i : Int) ≤ 64 := by omega
  cases ht : s.testBit i
  · rw [ht, if_neg (by simp)] at hb
    have HS := Lib.hid hs
    have HI := Lib.hid hi
    have HT := Lib.hid ht
    clear ht hi hs
    go_enter Tryd.func73, Tryd.ntmps73
    go_wp2_with fail
    go_ret
    exact ⟨rfl, rfl⟩
  · rw [ht, if_pos rfl] at hb
    have HS := Lib.hid hs
    have HI := Lib.hid hi
    have HT := Lib.hid ht
    clear ht hi hs
    go_enter Tryd.func73, Tryd.ntmps73
    go_wp2_with fail
    go_ret
    exact ⟨rfl, rfl⟩
set_option maxRecDepth 100000 in
set_option maxHeartbeats 4000000 in
theorem withS_any (s i : Nat) (hs : s < 4294967296) (hi : i < 32) (w : World) : Calls Tryd.prog 70 #[.int .u32 (s : Int), .int .i64 (i : Int)] w fun e w' => e = .returned (.int .u32 ((s ||| 1 <<< i : Nat) : Int)) ∧ w = w' := by
  have hf0 := Tryd.func70
  have hb : bits BinOp.or IntKind.u32 (s : Int) ((2 : Int) ^ min i 32 % (4294967296 : Int)) = ((s ||| 1 <<< i : Nat) : Int) := by rw [shl32 hi]; exact or_u32 hs (shl32_lt hi)
  have x1 : IntKind.u64.wrap (i : Int) = (i : Int) := u64_nat (by omega)
  have z1 : (0 : Int) ≤ (i : Int) := by omega
  have z2 : (i : Int) ≤ 64 := by omega
  have HS := Lib.hid hs
  have HI := Lib.hid hi
  clear hi hs
  go_enter Tryd.func70, Tryd.ntmps70
  go_wp2_with fail
  go_ret
  exact ⟨by first | rfl | (rw [← hb]; rfl), rfl⟩
set_option maxRecDepth 100000 in
set_option maxHeartbeats 4000000 in
theorem allS_any (s : Nat) (w : World) : Calls Tryd.prog 101 #[.int .u32 (s : Int)] w fun e w' => e = .returned (.func (.func 113) #[] #[.pointer (some ⟨w.heap.size, 0, none⟩)]) ∧ Blk w' w.heap.size 119 [.int .u32 (s : Int)] ∧ Frm w.heap.size [] w w' := by
  have hf0 := Tryd.func101
  go_enter Tryd.func101, Tryd.ntmps101
  go_wp2_with fail
  go_ret
  exact ⟨rfl, Blk.new w 119 [.int .u32 (s : Int)], (Frm.refl _ _ w).alloc (Nat.le_refl _) _⟩
set_option maxRecDepth 100000 in
set_option maxHeartbeats 4000000 in
theorem hasF_any (s i : Nat) (hs : s < 4294967296) (hi : i < 32) (w : World) : Calls Tryd.prog 105 #[.int .u32 (s : Int), .int .i64 (i : Int)] w fun e w' => e = .returned (.bool (s.testBit i)) ∧ w = w' := by
  have hf0 := Tryd.func105
  have hb : bits BinOp.and IntKind.u32 ((s : Int) / 2 ^ min i 32) 1 = if s.testBit i = true then 1 else 0 := by rw [show min i 32 = i by omega]; exact bit_u32 (e := s) (i := i) hs
  have x1 : IntKind.u64.wrap (i : Int) = (i : Int) := u64_nat (by omega)
  have z1 : (0 : Int) ≤ (i : Int) := by omega
  have z2 : (i : Int) ≤ 64 := by omega
  cases ht : s.testBit i
  · rw [ht, if_neg (by simp)] at hb
    have HS := Lib.hid hs
    have HI := Lib.hid hi
    have HT := Lib.hid ht
    clear ht hi hs
    go_enter Tryd.func105, Tryd.ntmps105
    go_wp2_with fail
    go_ret
    exact ⟨rfl, rfl⟩
  · rw [ht, if_pos rfl] at hb
    have HS := Lib.hid hs
    have HI := Lib.hid hi
    have HT := Lib.hid ht
    clear ht hi hs
    go_enter Tryd.func105, Tryd.ntmps105
    go_wp2_with fail
    go_ret
    exact ⟨rfl, rfl⟩
set_option maxRecDepth 100000 in
set_option maxHeartbeats 4000000 in
theorem withF_any (s i : Nat) (hs : s < 4294967296) (hi : i < 32) (w : World) : Calls Tryd.prog 112 #[.int .u32 (s : Int), .int .i64 (i : Int)] w fun e w' => e = .returned (.int .u32 ((s ||| 1 <<< i : Nat) : Int)) ∧ w = w' := by
  have hf0 := Tryd.func112
  have hb : bits BinOp.or IntKind.u32 (s : Int) ((2 : Int) ^ min i 32 % (4294967296 : Int)) = ((s ||| 1 <<< i : Nat) : Int) := by rw [shl32 hi]; exact or_u32 hs (shl32_lt hi)
  have x1 : IntKind.u64.wrap (i : Int) = (i : Int) := u64_nat (by omega)
  have z1 : (0 : Int) ≤ (i : Int) := by omega
  have z2 : (i : Int) ≤ 64 := by omega
  have HS := Lib.hid hs
  have HI := Lib.hid hi
  clear hi hs
  go_enter Tryd.func112, Tryd.ntmps112
  go_wp2_with fail
  go_ret
  exact ⟨by first | rfl | (rw [← hb]; rfl), rfl⟩
set_option maxRecDepth 100000 in
set_option maxHeartbeats 4000000 in
theorem allF_any (s : Nat) (w : World) : Calls Tryd.prog 71 #[.int .u32 (s : Int)] w fun e w' => e = .returned (.func (.func 102) #[] #[.pointer (some ⟨w.heap.size, 0, none⟩)]) ∧ Blk w' w.heap.size 112 [.int .u32 (s : Int)] ∧ Frm w.heap.size [] w w' := by
  have hf0 := Tryd.func71
  go_enter Tryd.func71, Tryd.ntmps71
  go_wp2_with fail
  go_ret
  exact ⟨rfl, Blk.new w 112 [.int .u32 (s : Int)], (Frm.refl _ _ w).alloc (Nat.le_refl _) _⟩
end Go.Proofs.YtfmigicmfolbjaaDoor

namespace Go.Proofs.YtfmigicmfolbjaaDoor
set_option linter.all false
set_option linter.unusedSimpArgs false
set_option linter.unusedVariables false
open Go.RowKit

/-- The set of the first k, and the last of them; none: they do not rise, or are not within 0 to 15. -/
def numF (F : Nat → Int) : Nat → Option (Nat × Int)
  | 0 => some (0, -1)
  | k + 1 => match numF F k with
    | none => none
    | some (s, l) => if inB (F k) (l + 1) 15 = true then some (s ||| 1 <<< (F k).toNat, F k) else none
theorem numF_none {F : Nat → Int} {k : Nat} : ∀ {n : Nat}, k ≤ n → numF F k = none → numF F n = none
  | 0, h, hk => by obtain rfl : k = 0 := by omega
                   exact hk
  | n + 1, h, hk => by
    rcases Nat.lt_or_ge k (n + 1) with h1 | h1
    · have := numF_none (n := n) (by omega) hk
      unfold numF
      rw [this]
    · obtain rfl : k = n + 1 := by omega
      exact hk
theorem numF_ok {F : Nat → Int} : ∀ {k s : Nat} {l : Int}, numF F k = some (s, l) → s < 2 ^ 16 ∧ -1 ≤ l ∧ l ≤ 15
  | 0, s, l, h => by
    have h : some ((0 : Nat), (-1 : Int)) = some (s, l) := h
    simp at h
    obtain ⟨rfl, rfl⟩ := h
    exact ⟨by decide, by omega, by omega⟩
  | k + 1, s, l, h => by
    unfold numF at h
    split at h
    · cases h
    · rename_i s0 l0 h0
      have ih := numF_ok h0
      split at h
      · rename_i hin
        have hin := inB_iff.1 hin
        simp at h
        obtain ⟨rfl, rfl⟩ := h
        refine ⟨Nat.or_lt_two_pow ih.1 ?_, by omega, hin.2⟩
        rw [Nat.shiftLeft_eq, Nat.one_mul]
        exact Nat.pow_lt_pow_right (by omega) (by omega)
      · cases h
def NumbersIs (F : Nat → Int) (n : Nat) (e : Ending) : Prop := match numF F n with
  | none => e = .returned (.tuple #[.int .u32 0, .bool false])
  | some (s, _) => e = .returned (.tuple #[.int .u32 (s : Int), .bool true])
set_option maxRecDepth 100000 in
set_option maxHeartbeats 8000000 in
theorem numbers_any (ad : Option Addr) (b off n cap : Nat) (F : Nat → Int) (w : World) (hr : RwI w ad b off n F) : Calls Tryd.prog 99 #[.slice ad n cap] w fun e w' => NumbersIs F n e ∧ Frm w.heap.size [] w w' := by
  have hf0 := Tryd.func99
  have hlen := hr.len
  have HR := Lib.hid hr
  clear hr
  go_enter Tryd.func99, Tryd.ntmps99
  go_wp2_with fail
  go_loopw [4, 5, 10] (fun s4 s5 s10 wr => ∃ k : Nat, s10 = .int .i64 k ∧ k ≤ n ∧ ∃ (s : Nat) (l : Int), numF F k = some (s, l) ∧ s4 = .int .u32 s ∧ s5 = .int .i64 l ∧ wr = w) (fun _ _ s10 _ => n - (intOf s10).toNat)
  case atStart => exact ⟨0, rfl, Nat.zero_le _, 0, -1, rfl, rfl, rfl, rfl⟩
  case round =>
    obtain ⟨k, rfl, hk, s, l, hs, rfl, rfl, rfl⟩ := hrel
    by_cases hkn : k < n
    · have hkn' : (k : Int) < (n : Int) := by omega
      have had := HR.out.ad (by omega)
      subst had
      obtain ⟨x, hx⟩ : ∃ x, x = F k := ⟨_, rfl⟩
      have c1 : wr.cell? ⟨b, off + k, none⟩ = some (.int .i64 x) := by rw [hx]; exact HR.out.cellI hkn
      have hok := numF_ok hs
      obtain ⟨w4x, w5x⟩ := wrapUp hkn hlen
      have hms := meas_up hkn
      have v1 : wrap64 (l + 1) = l + 1 := IntWalk.wrap64_in _ (by omega)
      have v2 : IntKind.i64.wrap (l + 1) = l + 1 := IntWalk.i64_in _ (by omega)
      have hnx : numF F (k + 1) = if inB x (l + 1) 15 = true then some (s ||| 1 <<< x.toNat, x) else none := by rw [numF, hs, hx]
      cases hin : inB x (l + 1) 15
      · rw [hin, if_neg (by simp)] at hnx
        have hnn := numF_none (n := n) (by omega) hnx
        have HNN := Lib.hid hnn
        have HOK := Lib.hid hok
        have HS := Lib.hid hs
        have HX := Lib.hid hx
        have HMS := Lib.hid hms
        have HNX := Lib.hid hnx
        have HIN := Lib.hid hin
        have HKN := Lib.hid hkn
        clear hkn hin hnx hms hx hs hok hnn
        go_wp2_with (go_at_call 53; refine (within_any _ _ _ _).mono ?_; rintro e w' ⟨rfl, rfl⟩; rw [HIN.out])
        refine bodyPost_ret (v := .tuple #[.int .u32 0, .bool false]) (by simp [results, Tryd.results99, go_sem]) rfl ?_
        exact ⟨by unfold NumbersIs; rw [HNN.out], Frm.refl _ _ _⟩
      · rw [hin, if_pos rfl] at hnx
        have hi2 := inB_iff.1 hin
        obtain ⟨y, hy⟩ : ∃ y : Nat, y = x.toNat := ⟨_, rfl⟩
        have hxy : x = (y : Int) := by omega
        subst hxy
        have hy16 : y < 32 := by omega
        rw [← hy] at hnx
        clear hi2 hy
        have HOK := Lib.hid hok
        have HS := Lib.hid hs
        have HX := Lib.hid hx
        have HMS := Lib.hid hms
        have HNX := Lib.hid hnx
        have HIN := Lib.hid hin
        have HKN := Lib.hid hkn
        have HY := Lib.hid hy16
        clear hy16 hkn hin hnx hms hx hs hok
        go_wp2_with (first | (go_at_call 53; refine (within_any _ _ _ _).mono ?_; rintro e w' ⟨rfl, rfl⟩; rw [HIN.out]) | (go_at_call 112; refine (withF_any s y (by have := HOK.out; omega) HY.out _).mono ?_; rintro e w' ⟨rfl, rfl⟩))
        (try simp only [w4x, w5x])
        refine ⟨⟨k + 1, by simp, HKN.out, _, _, HNX.out, ?_, ?_, ?_⟩, HMS.out⟩ <;> first | rfl | trivial | simp
    · have hkn' : ¬ (k : Int) < (n : Int) := by omega
      obtain rfl : k = n := by omega
      have HS := Lib.hid hs
      clear hs
      go_wp2_with fail
      refine bodyPost_ret (v := .tuple #[.int .u32 (s : Int), .bool true]) (by simp [results, Tryd.results99, go_sem]) rfl ?_
      exact ⟨by unfold NumbersIs; rw [HS.out], Frm.refl _ _ _⟩
end Go.Proofs.YtfmigicmfolbjaaDoor
