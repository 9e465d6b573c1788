/-
  What fuel is left; a box around places.
-/
import Derived.Test.YtghkfopcjdkieaaDoorU22
namespace Go.Proofs.YtghkfopcjdkieaaDoor
set_option linter.all false
set_option linter.unusedSimpArgs false
set_option linter.unusedVariables false
open Go.RowKit

def leftF (l : LC) (burn t : Int) : Int := l.fuel + burn * (l.leave - t) / 3600
/-- What 'Left' answers. -/
def leftR (u : UC) (s : ByteArray) (n : Nat) (L : Nat → LC) (t : Int) : Int × Int :=
  if (unitB u s && legsB n L) = true then match atI n L t with
    | none => (0, 7)
    | some i => (leftF (L i) u.burn t, 0)
  else (0, 2)

set_option maxRecDepth 100000 in
set_option maxHeartbeats 4000000 in
theorem left_any (u : UC) (s : ByteArray) (hnm : u.name = .string s) (ad : Option Addr) (b off n cap : Nat) (L : Nat → LC) (t : Int) (w : World) (hr : Rw w 8 ad b off n fun i => (L i).cells) :
    Calls Tryd.prog 29 #[.agg u.cells.toArray, .slice ad n cap, .int .i64 t] w fun e w' =>
      e = .returned (.tuple #[.int .i64 (leftR u s n L t).1, .int .i64 (leftR u s n L t).2]) ∧ Frm w.heap.size [] w w' := by
  have hf0 := Tryd.func29
  have HR := Lib.hid hr
  have HNM := Lib.hid hnm
  clear hnm hr
  go_enter Tryd.func29, Tryd.ntmps29
  go_upto_region 1 with fail
  refine namedC ?_; intro W hW
  have hb : Blk W w.heap.size 25 u.cells := by rw [hW]; exact Blk.new w 25 u.cells
  have hf : Frm w.heap.size [] w W := by rw [hW]; repeat (first | with_reducible exact Frm.refl _ _ _ | with_reducible refine Frm.drewN ?_ | with_reducible refine Frm.drew ?_ | ((with_reducible refine Frm.setCell' ?_ ?_); · first | (left; simp; done) | (right; simp; done) | (right; simp; omega)) | ((with_reducible refine Frm.alloc' ?_ ?_); · first | exact Nat.le_refl _ | (simp; done) | (simp; omega)))
  clear hW hf0
  have HX := Lib.hid (And.intro hb hf)
  clear hb hf
  have hsi := UC.info u
  have HSI := Lib.hid hsi
  clear hsi
  cases hu : unitB u s
  · have e0 : leftR u s n L t = (0, 2) := by unfold leftR; rw [hu]; rfl
    have HU := Lib.hid hu
    have E0 := Lib.hid e0
    clear e0 hu
    go_wp2_with (first | (with_reducible refine atLoad 25 rfl ?_; refine wpList_loadB (ty := 25) rfl rfl HX.out.1 rfl Tryd.underlying25 rfl HSI.out ?_) | (go_at_call 19; refine (checkUnit_any u s HNM.out _).mono ?_; rintro e w1 ⟨rfl, hf1⟩; simp only [HU.out]; replace HX := Lib.hid (boxNext HX.out hf1); clear hf1))
    refine bodyPost_ret (v := .tuple #[.int .i64 0, .int .i64 2]) (by simp [results, Tryd.results29, go_sem]) rfl ?_
    exact ⟨by rw [E0.out], HX.out.2⟩
  cases hl : legsB n L
  · have e0 : leftR u s n L t = (0, 2) := by unfold leftR; rw [hu, hl]; rfl
    have HU := Lib.hid hu
    have E0 := Lib.hid e0
    have HL := Lib.hid hl
    clear hl e0 hu
    go_wp2_with (first | (with_reducible refine atLoad 25 rfl ?_; refine wpList_loadB (ty := 25) rfl rfl HX.out.1 rfl Tryd.underlying25 rfl HSI.out ?_) | (go_at_call 19; refine (checkUnit_any u s HNM.out _).mono ?_; rintro e w1 ⟨rfl, hf1⟩; simp only [HU.out]; replace HX := Lib.hid (boxNext HX.out hf1); clear hf1) | (go_at_call 64; refine (valid_any ad b off n cap L _ (HR.out.frm HX.out.2 (Nat.le_refl _))).mono ?_; rintro e w1 ⟨rfl, hf1⟩; simp only [HL.out]; replace HX := Lib.hid (boxNext HX.out hf1); clear hf1))
    refine bodyPost_ret (v := .tuple #[.int .i64 0, .int .i64 2]) (by simp [results, Tryd.results29, go_sem]) rfl ?_
    exact ⟨by rw [E0.out], HX.out.2⟩
  have hok := uok_of hu
  have HU := Lib.hid hu
  have HL := Lib.hid hl
  have HOK := Lib.hid hok
  clear hok hl hu
  go_upto_region 3 with (first | (with_reducible refine atLoad 25 rfl ?_; refine wpList_loadB (ty := 25) rfl rfl HX.out.1 rfl Tryd.underlying25 rfl HSI.out ?_) | (go_at_call 19; refine (checkUnit_any u s HNM.out _).mono ?_; rintro e w1 ⟨rfl, hf1⟩; simp only [HU.out]; replace HX := Lib.hid (boxNext HX.out hf1); clear hf1) | (go_at_call 64; refine (valid_any ad b off n cap L _ (HR.out.frm HX.out.2 (Nat.le_refl _))).mono ?_; rintro e w1 ⟨rfl, hf1⟩; simp only [HL.out]; replace HX := Lib.hid (boxNext HX.out hf1); clear hf1))
  go_wp2_with fail
  refine (at_any ad b off n cap L t _ (HR.out.frm HX.out.2 (Nat.le_refl _))).mono ?_; rintro e w2 ⟨rfl, hf2⟩
  replace HX := Lib.hid (boxNext HX.out hf2)
  clear hf2
  obtain ⟨f, hfe⟩ : ∃ f, f = atL n L t := ⟨_, rfl⟩
  rw [← hfe]
  have HFE := Lib.hid hfe
  clear hfe
  cases hat : atI n L t with
  | none =>
    have e0 : leftR u s n L t = (0, 7) := by unfold leftR; rw [HU.out, HL.out, hat]; rfl
    have HAT := Lib.hid hat
    have E0 := Lib.hid e0
    clear e0 hat
    go_wp2_with (with_reducible refine atStore 49 rfl ?_; refine stop_ ?_)
    refine go_on ?_
    refine wpList_storeNew (P := Tryd.prog) (cs := f.cells) rfl rfl rfl rfl rfl info49 (by simp [LC.cells, Value.oneCell']) ?_
    intro w3 hf3 hb3 hz3
    replace HX := Lib.hid (boxNext HX.out hf3)
    clear hf3 hb3 hz3
    go_wp2_with fail
    refine bodyPost_ret (v := .tuple #[.int .i64 0, .int .i64 7]) (by simp [results, Tryd.results29, go_sem]) rfl ?_
    exact ⟨by rw [E0.out], HX.out.2⟩
  | some i =>
    have hin := atI_some hat
    have hlg : f = L i := by rw [HFE.out]; unfold atL; rw [hat]
    have e0 : leftR u s n L t = (leftF f u.burn t, 0) := by unfold leftR; rw [HU.out, HL.out, hat, hlg]; rfl
    have hlk : LegOK f := by rw [hlg]; exact legs_ok HL.out hin.1
    have hst : f.start ≤ t ∧ t ≤ f.leave := by rw [hlg]; exact hin.2
    have i1 := hlk.start
    have i2 := hlk.arrive
    have i3 := hlk.leave
    have i4 := hlk.fuel
    have i5 := HOK.out.burn
    obtain ⟨d, hd⟩ : ∃ d, d = f.leave - t := ⟨_, rfl⟩
    obtain ⟨m, hm⟩ : ∃ m, m = u.burn * d := ⟨_, rfl⟩
    have hm0 : 0 ≤ m := by rw [hm]; exact Int.mul_nonneg i5.1 (by omega)
    have hm1 : m ≤ 1048576 * 1073741824 := by rw [hm]; exact Int.mul_le_mul i5.2 (by omega) (by omega) (by omega)
    have ww1 : IntKind.i64.wrap (f.leave - t) = d := by rw [hd]; exact IntWalk.i64_in _ (by omega)
    have ww2 : IntKind.i64.wrap (u.burn * d) = m := by rw [← hm]; exact IntWalk.i64_in _ (by omega)
    have w1' : wrap64 (f.leave - t) = d := by rw [hd]; exact IntWalk.wrap64_in _ (by omega)
    have w2' : wrap64 (u.burn * d) = m := by rw [← hm]; exact IntWalk.wrap64_in _ (by omega)
    have hq : leftF f u.burn t = f.fuel + m / 3600 := by unfold leftF; rw [hm, hd]
    clear hin hd hm hst
    have HAT := Lib.hid hat
    have E0 := Lib.hid e0
    have HLG := Lib.hid hlg
    have HLK := Lib.hid hlk
    have HQ := Lib.hid hq
    have I1 := Lib.hid i1
    have I2 := Lib.hid i2
    have I3 := Lib.hid i3
    have I5 := Lib.hid i5
    clear i5 i3 i2 i1 hq hlk hlg e0 hat
    go_wp2_with (with_reducible refine atStore 49 rfl ?_; refine stop_ ?_)
    refine go_on ?_
    refine wpList_storeNew (P := Tryd.prog) (cs := f.cells) rfl rfl rfl rfl rfl info49 (by simp [LC.cells, Value.oneCell']) ?_
    intro w3 hf3 hb3 hz3
    replace HX := Lib.hid (boxNext HX.out hf3)
    clear hf3 hz3
    have c7 : w3.cell? ⟨w2.heap.size, 7, none⟩ = some (.int .i64 f.fuel) := hb3.cell 7
    have c6 : w3.cell? ⟨w2.heap.size, 6, none⟩ = some (.int .i64 f.leave) := hb3.cell 6
    have c3 : w3.cell? ⟨w.heap.size, 3, none⟩ = some (.int .i64 u.burn) := HX.out.1.cell 3
    clear hb3
    go_wp2_with fail

    refine bodyPost_ret (v := .tuple #[.int .i64 (f.fuel + m / 3600), .int .i64 0]) (by simp [results, Tryd.results29, go_sem]) rfl ?_
    exact ⟨by rw [E0.out, HQ.out], HX.out.2⟩
/-- A box. -/
structure BC where
  lx : Int
  ly : Int
  hx : Int
  hy : Int
  from_ : Int
  to_ : Int
  level : Int
def BC.cells (f : BC) : List Value := [.int .i64 f.lx, .int .i64 f.ly, .int .i64 f.hx, .int .i64 f.hy, .int .i64 f.from_, .int .i64 f.to_, .int .i64 f.level]
theorem info87 : (Tryd.prog.info? 87).map (fun i => i.size) = some 7 := by kernel_rfl
def aroundB (u : UC) (lx ly hx hy from_ to_ : Int) : BC := ⟨lx - u.margin, ly - u.margin, hx + u.margin, hy + u.margin, from_, to_, u.level⟩

set_option maxRecDepth 100000 in
set_option maxHeartbeats 4000000 in
theorem around_any (u : UC) (lx ly hx hy from_ to_ : Int) (w : World) (hm : 0 ≤ u.margin ∧ u.margin ≤ 100000) (h1 : -144115188075855872 ≤ lx ∧ lx ≤ 144115188075855872) (h2 : -144115188075855872 ≤ ly ∧ ly ≤ 144115188075855872)
    (h3 : -144115188075855872 ≤ hx ∧ hx ≤ 144115188075855872) (h4 : -144115188075855872 ≤ hy ∧ hy ≤ 144115188075855872) :
    Calls Tryd.prog 71 #[.agg u.cells.toArray, .agg #[.int .i64 lx, .int .i64 ly], .agg #[.int .i64 hx, .int .i64 hy], .int .i64 from_, .int .i64 to_] w fun e w' =>
      e = .returned (.agg (aroundB u lx ly hx hy from_ to_).cells.toArray) ∧ Frm w.heap.size [] w w' := by
  have hf0 := Tryd.func71
  go_enter Tryd.func71, Tryd.ntmps71
  go_upto_region 1 with fail
  refine namedC ?_; intro W hW
  have hb5 : Blk W w.heap.size 25 u.cells := by rw [hW]; exact (((Blk.new w 25 u.cells).alloc _).alloc _).alloc _
  have hb6 : Blk W (w.heap.size + 1) 23 [.int .i64 lx, .int .i64 ly] := by rw [hW]; exact ((Blk.new' _ 23 [.int .i64 lx, .int .i64 ly] (by simp)).alloc _).alloc _
  have hb7 : Blk W (w.heap.size + 1 + 1) 23 [.int .i64 hx, .int .i64 hy] := by rw [hW]; exact (Blk.new' _ 23 [.int .i64 hx, .int .i64 hy] (by simp)).alloc _
  have hb10 : Blk W (w.heap.size + 1 + 1 + 1) 87 [.int .i64 0, .int .i64 0, .int .i64 0, .int .i64 0, .int .i64 0, .int .i64 0, .int .i64 0] := by rw [hW]; exact Blk.new' _ 87 [.int .i64 0, .int .i64 0, .int .i64 0, .int .i64 0, .int .i64 0, .int .i64 0, .int .i64 0] (by simp)
  have hf : Frm w.heap.size [] w W := by rw [hW]; repeat (first | with_reducible exact Frm.refl _ _ _ | with_reducible refine Frm.drewN ?_ | with_reducible refine Frm.drew ?_ | ((with_reducible refine Frm.setCell' ?_ ?_); · first | (left; simp; done) | (right; simp; done) | (right; simp; omega)) | ((with_reducible refine Frm.alloc' ?_ ?_); · first | exact Nat.le_refl _ | (simp; done) | (simp; omega)))
  clear hW hf0
  have a0 : W.cell? ⟨w.heap.size + 1, 0, none⟩ = some (.int .i64 lx) := hb6.cell 0
  have a1 : W.cell? ⟨w.heap.size + 1, 1, none⟩ = some (.int .i64 ly) := hb6.cell 1
  have a2 : W.cell? ⟨w.heap.size + 1 + 1, 0, none⟩ = some (.int .i64 hx) := hb7.cell 0
  have a3 : W.cell? ⟨w.heap.size + 1 + 1, 1, none⟩ = some (.int .i64 hy) := hb7.cell 1
  have a4 : W.cell? ⟨w.heap.size, 10, none⟩ = some (.int .i64 u.margin) := hb5.cell 10
  have a5 : W.cell? ⟨w.heap.size, 11, none⟩ = some (.int .i64 u.level) := hb5.cell 11
  have HB := Lib.hid hb10
  have HF := Lib.hid hf
  clear hf hb10
  go_wp2_with (with_reducible refine atStore 87 rfl ?_; refine stop_ ?_)
  refine go_on ?_
  refine wpList_storeB (P := Tryd.prog) (ty := 87) (cs := (aroundB u lx ly hx hy from_ to_).cells) rfl rfl HB.out rfl rfl rfl info87 (by simp [BC.cells, Value.oneCell']) ?_
  have hz := HB.out.row (aroundB u lx ly hx hy from_ to_).cells
  have hfz := HF.out.setRow (g := w.heap.size + 1 + 1 + 1) (.inr (by omega)) (aroundB u lx ly hx hy from_ to_).cells.toArray
  have HZ := Lib.hid hz
  have HFZ := Lib.hid hfz
  clear hfz hz
  go_wp2_with fail
  refine bodyPost_ret (results_c Tryd.results71 HZ.out rfl Tryd.underlying87 rfl info87) rfl ?_
  exact ⟨rfl, HFZ.out⟩
end Go.Proofs.YtghkfopcjdkieaaDoor
