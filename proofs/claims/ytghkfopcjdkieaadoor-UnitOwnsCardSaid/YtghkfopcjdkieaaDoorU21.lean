/-
  Where a unit is on a leg.
-/
import Derived.Test.YtghkfopcjdkieaaDoorU19
import Derived.Test.YtghkfopcjdkieaaDoorU20
namespace Go.Proofs.YtghkfopcjdkieaaDoor
set_option linter.all false
set_option linter.unusedSimpArgs false
set_option linter.unusedVariables false
open Go.RowKit

theorem floor_fr (n b : Int) (w : World) (h0 : -4611686018427387904 ≤ n ∧ n ≤ 4611686018427387904) (b0 : 1 ≤ b) (b1 : b ≤ 4611686018427387904) :
    Calls Tryd.prog 98 #[.int .i64 n, .int .i64 b] w fun e w' => e = .returned (.int .i64 (n / b)) ∧ Frm w.heap.size [] w w' :=
  (floor_any n b w h0 b0 b1).mono fun e w' h => ⟨h.1, h.2 ▸ Frm.refl _ _ _⟩
/-- Where a unit is, rounded down, and up. -/
def lowZ (l : LC) (t : Int) : Int × Int := if l.arrive ≤ t then (l.tx, l.ty) else (l.fx + ((l.tx - l.fx) * (t - l.start)) / (l.arrive - l.start), l.fy + ((l.ty - l.fy) * (t - l.start)) / (l.arrive - l.start))
def highZ (l : LC) (t : Int) : Int × Int := if l.arrive ≤ t then (l.tx, l.ty) else (l.fx - (-((l.tx - l.fx) * (t - l.start))) / (l.arrive - l.start), l.fy - (-((l.ty - l.fy) * (t - l.start))) / (l.arrive - l.start))
structure LegOK (l : LC) : Prop where
  from_ : placeB l.fx l.fy = true
  to_ : placeB l.tx l.ty = true
  start : 0 ≤ l.start ∧ l.start ≤ 1073741824
  arrive : l.start ≤ l.arrive ∧ l.arrive ≤ 1073741824
  leave : l.arrive ≤ l.leave ∧ l.leave ≤ 1073741824
  fuel : 0 ≤ l.fuel ∧ l.fuel ≤ 1073741824
theorem legOK_of {l : LC} (h : legB l = true) : LegOK l := by
  unfold legB timeB at h
  simp only [Bool.and_eq_true, inB_iff, decide_eq_true_eq] at h
  obtain ⟨⟨⟨⟨⟨⟨⟨⟨h0, h1⟩, h2⟩, h3⟩, h4⟩, h5⟩, h6⟩, _⟩, h8⟩ := h
  exact ⟨h0, h1, h2, ⟨h5, h3.2⟩, ⟨h6, h4.2⟩, h8⟩
theorem mul_in {a n : Int} (ha : -33554432 ≤ a ∧ a ≤ 33554432) (hn : 0 ≤ n ∧ n ≤ 1073741824) : -36028797018963968 ≤ a * n ∧ a * n ≤ 36028797018963968 := by
  have h1 : a * n ≤ 33554432 * n := Int.mul_le_mul_of_nonneg_right ha.2 hn.1
  have h2 : -33554432 * n ≤ a * n := Int.mul_le_mul_of_nonneg_right ha.1 hn.1
  omega
theorem quo_in {a b : Int} (ha : -36028797018963968 ≤ a ∧ a ≤ 36028797018963968) (hb : 1 ≤ b) : -36028797018963968 ≤ a / b ∧ a / b ≤ 36028797018963968 := by
  constructor
  · have := Int.ediv_le_ediv (show 0 < b by omega) ha.1
    have h2 : (-36028797018963968 : Int) ≤ -36028797018963968 / b := by
      rw [Int.le_ediv_iff_mul_le (by omega)]
      omega
    omega
  · have := Int.ediv_le_self (a := 36028797018963968) b (by omega)
    have h3 := Int.ediv_le_ediv (show 0 < b by omega) ha.2
    omega
theorem results_66 {w : World} {tmps : Array Value} {p4 p5 : Nat} {x y u v : Int} (h4 : tmps.getD 4 undef = .pointer (some ⟨p4, 0, none⟩)) (h5 : tmps.getD 5 undef = .pointer (some ⟨p5, 0, none⟩))
    (b4 : Blk w p4 23 [.int .i64 x, .int .i64 y]) (b5 : Blk w p5 23 [.int .i64 u, .int .i64 v]) : (results Tryd.f66 tmps).run Tryd.prog w = .ok (.tuple #[.agg #[.int .i64 x, .int .i64 y], .agg #[.int .i64 u, .int .i64 v]]) w := by
  have l4 := loadVarB b4 (P := Tryd.prog) Tryd.underlying23 rfl (by kernel_rfl)
  have l5 := loadVarB b5 (P := Tryd.prog) Tryd.underlying23 rfl (by kernel_rfl)
  have e4 : tmps[4]?.getD undef = .pointer (some ⟨p4, 0, none⟩) := by simpa using h4
  have e5 : tmps[5]?.getD undef = .pointer (some ⟨p5, 0, none⟩) := by simpa using h5
  simp [results, Tryd.results66, e4, e5, asAddr, l4, l5]

set_option maxRecDepth 100000 in
set_option maxHeartbeats 4000000 in
theorem place_any (l : LC) (t : Int) (w : World) (hB : LegOK l) (hst : l.start ≤ t) :
    Calls Tryd.prog 66 #[.agg l.cells.toArray, .int .i64 t] w fun e w' =>
      e = .returned (.tuple #[.agg #[.int .i64 (lowZ l t).1, .int .i64 (lowZ l t).2], .agg #[.int .i64 (highZ l t).1, .int .i64 (highZ l t).2]]) ∧ Frm w.heap.size [] w w' := by
  have hf0 := Tryd.func66
  have i23 : (Tryd.prog.info? 23).map (fun i => i.size) = some 2 := by kernel_rfl
  go_enter Tryd.func66, Tryd.ntmps66
  go_upto_region 1 with fail
  refine namedC ?_; intro W hW
  have hb2 : Blk W w.heap.size 49 l.cells := by rw [hW]; exact ((Blk.new w 49 l.cells).alloc _).alloc _
  have hb4 : Blk W (w.heap.size + 1) 23 [.int .i64 0, .int .i64 0] := by rw [hW]; exact (Blk.new' _ 23 [.int .i64 0, .int .i64 0] (by simp)).alloc _
  have hb5 : Blk W (w.heap.size + 1 + 1) 23 [.int .i64 0, .int .i64 0] := by rw [hW]; exact Blk.new' _ 23 [.int .i64 0, .int .i64 0] (by simp)
  have hf : Frm w.heap.size [] w W := by rw [hW]; repeat (first | with_reducible exact Frm.refl _ _ _ | with_reducible refine Frm.drewN ?_ | with_reducible refine Frm.drew ?_ | ((with_reducible refine Frm.setCell' ?_ ?_); · first | (left; simp; done) | (right; simp; done) | (right; simp; omega)) | ((with_reducible refine Frm.alloc' ?_ ?_); · first | exact Nat.le_refl _ | (simp; done) | (simp; omega)))
  clear hW hf0
  obtain ⟨c, hc⟩ : ∃ c, c = w.heap.size := ⟨_, rfl⟩
  rw [← hc] at hb2 hb4 hb5 ⊢
  have k5 : W.cell? ⟨c, 5, none⟩ = some (.int .i64 l.arrive) := hb2.cell 5
  have HB2 := Lib.hid hb2
  have HB4 := Lib.hid hb4
  have HB5 := Lib.hid hb5
  have HF := Lib.hid hf
  have HC := Lib.hid hc
  have HB := Lib.hid hB
  have I23 := Lib.hid i23
  clear i23 hB hc hf hb5 hb4 hb2
  by_cases hta : l.arrive ≤ t
  · have e1 : lowZ l t = (l.tx, l.ty) := if_pos hta
    have e2 : highZ l t = (l.tx, l.ty) := if_pos hta
    have E1 := Lib.hid e1
    have E2 := Lib.hid e2
    clear e2 e1
    go_upto_region 2 with fail
    have hfx : ∀ V, Frm W.heap.size [c + 1, c + 1 + 1] W V → V.cell? ⟨c, 2, none⟩ = some (.int .i64 l.tx) ∧ V.cell? ⟨c, 3, none⟩ = some (.int .i64 l.ty) := fun V hV => by
      have h := hV.blk HB2.out HB2.out.lt (by simp; omega)
      exact ⟨h.cell 2, h.cell 3⟩
    have HFX := Lib.hid hfx
    clear hfx
    refine wp_region_leftL (fun V => Frm W.heap.size [c + 1, c + 1 + 1] W V) 1000 (by kernel_rfl) ?_
    have hS : Frm W.heap.size [c + 1, c + 1 + 1] W W.drew := (Frm.refl _ _ W).drew
    have HS := Lib.hid hS
    clear hS
    refine LeftL.run (v := ?_) 0 rfl (by kernel_rfl) rfl (fun _ _ d _ _ h => by cases d <;> exact h) ?_ HS.out ?_; rotate_left; (· intro V hV; obtain ⟨q0, q1⟩ := HFX.out V hV; clear hV; go_simp; rfl); (intro K' hK'; go_simp; refine hK' _ ?_; clear hK' K')
    refine LeftL.run (v := ?_) 1 rfl (by kernel_rfl) rfl (fun _ _ d _ _ h => by cases d <;> exact h) ?_ HS.out ?_; rotate_left; (· intro V hV; obtain ⟨q0, q1⟩ := HFX.out V hV; clear hV; go_simp; rfl); (intro K' hK'; go_simp; refine hK' _ ?_; clear hK' K')
    refine LeftL.run (v := ?_) 2 rfl (by kernel_rfl) rfl (fun _ _ d _ _ h => by cases d <;> exact h) ?_ HS.out ?_; rotate_left; (· intro V hV; obtain ⟨q0, q1⟩ := HFX.out V hV; clear hV; go_simp; rfl); (intro K' hK'; go_simp; refine hK' _ ?_; clear hK' K')
    refine LeftL.run (v := ?_) 3 rfl (by kernel_rfl) rfl (fun _ _ d _ _ h => by cases d <;> exact h) ?_ HS.out ?_; rotate_left; (· intro V hV; obtain ⟨q0, q1⟩ := HFX.out V hV; clear hV; go_simp; rfl); (intro K' hK'; go_simp; refine hK' _ ?_; clear hK' K')
    refine LeftL.one 4 rfl (by kernel_rfl) ?_
    refine wpList_storeB (P := Tryd.prog) (ty := 23) (cs := [.int .i64 l.tx, .int .i64 l.ty]) rfl rfl HB4.out.drew rfl rfl rfl I23.out (by simp [Value.oneCell']) ?_
    refine wpList_nil ?_
    have hS2 := HS.out.setRow (g := c + 1) (.inl (by simp)) #[.int .i64 l.tx, .int .i64 l.ty]
    have z4 := HB4.out.drew.row [.int .i64 l.tx, .int .i64 l.ty]
    have z5 := HB5.out.drew.rowO (g := c + 1) (cs := #[.int .i64 l.tx, .int .i64 l.ty]) (by omega)
    clear HS
    have HS := Lib.hid hS2
    have Z4 := Lib.hid z4
    have Z5 := Lib.hid z5
    clear z5 z4 hS2
    refine ⟨fun _ => HS.out, ?_⟩
    refine LeftL.one 5 rfl (by kernel_rfl) ?_
    refine wpList_storeB (P := Tryd.prog) (ty := 23) (cs := [.int .i64 l.tx, .int .i64 l.ty]) rfl rfl Z5.out rfl rfl rfl I23.out (by simp [Value.oneCell']) ?_
    refine wpList_nil ?_
    have hS3 := HS.out.setRow (g := c + 1 + 1) (.inl (by simp)) #[.int .i64 l.tx, .int .i64 l.ty]
    have y4 := Z4.out.rowO (g := c + 1 + 1) (cs := #[.int .i64 l.tx, .int .i64 l.ty]) (by omega)
    have y5 := Z5.out.row [.int .i64 l.tx, .int .i64 l.ty]
    clear HS
    have HS := Lib.hid hS3
    have Y4 := Lib.hid y4
    have Y5 := Lib.hid y5
    clear y5 y4 hS3
    refine ⟨fun _ => HS.out, ?_⟩
    refine LeftL.done (by kernel_rfl) ?_
    simp only [Act.put]
    go_wp2_with fail
    refine bodyPost_ret (results_66 (p4 := c + 1) (p5 := c + 1 + 1) rfl rfl Y4.out Y5.out) rfl ?_
    exact ⟨by rw [E1.out, E2.out], HF.out.trans (HS.out.mono HF.out.size (fun k hk hm => by have := HC.out; simp at hm; omega))⟩
  · skip
    have hlt : t < l.arrive := by omega
    have i1 := HB.out.start
    have i2 := HB.out.arrive
    obtain ⟨nn, hnn⟩ : ∃ nn, nn = t - l.start := ⟨_, rfl⟩
    obtain ⟨of, hof⟩ : ∃ of, of = l.arrive - l.start := ⟨_, rfl⟩
    obtain ⟨dx, hdx⟩ : ∃ dx, dx = l.tx - l.fx := ⟨_, rfl⟩
    obtain ⟨dy, hdy⟩ : ∃ dy, dy = l.ty - l.fy := ⟨_, rfl⟩
    obtain ⟨xx, hxx⟩ : ∃ xx, xx = dx * nn := ⟨_, rfl⟩
    obtain ⟨yy, hyy⟩ : ∃ yy, yy = dy * nn := ⟨_, rfl⟩
    have pf := place_in HB.out.from_
    have pt := place_in HB.out.to_
    have ix := mul_in (a := dx) (n := nn) (by omega) (by omega)
    have iy := mul_in (a := dy) (n := nn) (by omega) (by omega)
    rw [← hxx] at ix
    rw [← hyy] at iy
    have w1 : IntKind.i64.wrap (t - l.start) = nn := by rw [hnn]; exact IntWalk.i64_in _ (by omega)
    have w2 : IntKind.i64.wrap (l.arrive - l.start) = of := by rw [hof]; exact IntWalk.i64_in _ (by omega)
    have w3 : IntKind.i64.wrap (l.tx - l.fx) = dx := by rw [hdx]; exact IntWalk.i64_in _ (by omega)
    have w4 : IntKind.i64.wrap (l.ty - l.fy) = dy := by rw [hdy]; exact IntWalk.i64_in _ (by omega)
    have w5 : IntKind.i64.wrap (dx * nn) = xx := by rw [← hxx]; exact IntWalk.i64_in _ (by omega)
    have w6 : IntKind.i64.wrap (dy * nn) = yy := by rw [← hyy]; exact IntWalk.i64_in _ (by omega)
    have iof : 1 ≤ of := by omega
    have iof2 : of ≤ 4611686018427387904 := by omega
    have j1 := quo_in ix iof
    have j2 := quo_in iy iof
    have j3 := quo_in (a := -xx) (by omega) iof
    have j4 := quo_in (a := -yy) (by omega) iof
    have w7 : IntKind.i64.wrap (l.fx + xx / of) = l.fx + xx / of := IntWalk.i64_in _ (by omega)
    have w8 : IntKind.i64.wrap (l.fy + yy / of) = l.fy + yy / of := IntWalk.i64_in _ (by omega)
    have w9 : IntKind.i64.wrap (-xx) = -xx := IntWalk.i64_in _ (by omega)
    have w10 : IntKind.i64.wrap (-yy) = -yy := IntWalk.i64_in _ (by omega)
    have w11 : IntKind.i64.wrap (l.fx - (-xx) / of) = l.fx - (-xx) / of := IntWalk.i64_in _ (by omega)
    have w12 : IntKind.i64.wrap (l.fy - (-yy) / of) = l.fy - (-yy) / of := IntWalk.i64_in _ (by omega)
    have e1 : lowZ l t = (l.fx + xx / of, l.fy + yy / of) := by unfold lowZ; rw [if_neg hta, hxx, hyy, hdx, hdy, hnn, hof]
    have e2 : highZ l t = (l.fx - (-xx) / of, l.fy - (-yy) / of) := by unfold highZ; rw [if_neg hta, hxx, hyy, hdx, hdy, hnn, hof]
    have hfx0 : ∀ V, Frm W.heap.size [] W V → V.cell? ⟨c, 0, none⟩ = some (.int .i64 l.fx) ∧ V.cell? ⟨c, 1, none⟩ = some (.int .i64 l.fy) ∧ V.cell? ⟨c, 2, none⟩ = some (.int .i64 l.tx) ∧ V.cell? ⟨c, 3, none⟩ = some (.int .i64 l.ty) ∧ V.cell? ⟨c, 4, none⟩ = some (.int .i64 l.start) ∧ V.cell? ⟨c, 5, none⟩ = some (.int .i64 l.arrive) := fun V hV => by
      have h := hV.blk HB2.out HB2.out.lt (by simp)
      exact ⟨h.cell 0, h.cell 1, h.cell 2, h.cell 3, h.cell 4, h.cell 5⟩
    clear hnn hof hdx hdy hxx hyy pf pt j1 j2 j3 j4 i1 i2
    have HFX0 := Lib.hid hfx0
    have E1 := Lib.hid e1
    have E2 := Lib.hid e2
    have IX := Lib.hid ix
    have IY := Lib.hid iy
    have IOF := Lib.hid iof
    have IOF2 := Lib.hid iof2
    clear iof2 iof iy ix e2 e1 hfx0
    have HFX := HFX0
    go_upto_region 3 with fail
    refine wp_region_leftL (fun V => Frm W.heap.size [] W V) 1000 (by kernel_rfl) ?_
    have hS : Frm W.heap.size [] W W.drew := (Frm.refl _ _ W).drew
    have HS := Lib.hid hS
    clear hS
    refine LeftL.run (v := ?_) 0 rfl (by kernel_rfl) rfl (fun _ _ d _ _ h => by cases d <;> exact h) ?_ HS.out ?_; rotate_left; (· intro V hV; obtain ⟨q0, q1, q2, q3, q4, q5⟩ := HFX.out V hV; clear hV; go_simp; rfl); (intro K' hK'; go_simp; refine hK' _ ?_; clear hK' K')
    refine LeftL.run (v := ?_) 1 rfl (by kernel_rfl) rfl (fun _ _ d _ _ h => by cases d <;> exact h) ?_ HS.out ?_; rotate_left; (· intro V hV; obtain ⟨q0, q1, q2, q3, q4, q5⟩ := HFX.out V hV; clear hV; go_simp; rfl); (intro K' hK'; go_simp; refine hK' _ ?_; clear hK' K')
    refine LeftL.run (v := ?_) 2 rfl (by kernel_rfl) rfl (fun _ _ d _ _ h => by cases d <;> exact h) ?_ HS.out ?_; rotate_left; (· intro V hV; obtain ⟨q0, q1, q2, q3, q4, q5⟩ := HFX.out V hV; clear hV; go_simp; rfl); (intro K' hK'; go_simp; refine hK' _ ?_; clear hK' K')
    refine LeftL.run (v := ?_) 3 rfl (by kernel_rfl) rfl (fun _ _ d _ _ h => by cases d <;> exact h) ?_ HS.out ?_; rotate_left; (· intro V hV; obtain ⟨q0, q1, q2, q3, q4, q5⟩ := HFX.out V hV; clear hV; go_simp; rfl); (intro K' hK'; go_simp; refine hK' _ ?_; clear hK' K')
    refine LeftL.run (v := ?_) 4 rfl (by kernel_rfl) rfl (fun _ _ d _ _ h => by cases d <;> exact h) ?_ HS.out ?_; rotate_left; (· intro V hV; obtain ⟨q0, q1, q2, q3, q4, q5⟩ := HFX.out V hV; clear hV; go_simp; rfl); (intro K' hK'; go_simp; refine hK' _ ?_; clear hK' K')
    refine LeftL.run (v := ?_) 5 rfl (by kernel_rfl) rfl (fun _ _ d _ _ h => by cases d <;> exact h) ?_ HS.out ?_; rotate_left; (· intro V hV; obtain ⟨q0, q1, q2, q3, q4, q5⟩ := HFX.out V hV; clear hV; go_simp; rfl); (intro K' hK'; go_simp; refine hK' _ ?_; clear hK' K')
    refine LeftL.run (v := ?_) 6 rfl (by kernel_rfl) rfl (fun _ _ d _ _ h => by cases d <;> exact h) ?_ HS.out ?_; rotate_left; (· intro V hV; obtain ⟨q0, q1, q2, q3, q4, q5⟩ := HFX.out V hV; clear hV; go_simp; rfl); (intro K' hK'; go_simp; refine hK' _ ?_; clear hK' K')
    refine LeftL.run (v := ?_) 7 rfl (by kernel_rfl) rfl (fun _ _ d _ _ h => by cases d <;> exact h) ?_ HS.out ?_; rotate_left; (· intro V hV; obtain ⟨q0, q1, q2, q3, q4, q5⟩ := HFX.out V hV; clear hV; go_simp; rfl); (intro K' hK'; go_simp; refine hK' _ ?_; clear hK' K')
    refine LeftL.run (v := ?_) 8 rfl (by kernel_rfl) rfl (fun _ _ d _ _ h => by cases d <;> exact h) ?_ HS.out ?_; rotate_left; (· intro V hV; obtain ⟨q0, q1, q2, q3, q4, q5⟩ := HFX.out V hV; clear hV; go_simp; rfl); (intro K' hK'; go_simp; refine hK' _ ?_; clear hK' K')
    refine LeftL.one 9 rfl (by kernel_rfl) ?_
    go_wp2_with fail
    first | refine ⟨fun _ => HS.out, ?_⟩ | refine ⟨HS.out, ?_⟩
    refine LeftL.one 10 rfl (by kernel_rfl) ?_
    go_wp2_with fail
    first | refine ⟨fun _ => HS.out, ?_⟩ | refine ⟨HS.out, ?_⟩
    refine LeftL.done (by kernel_rfl) ?_
    go_upto_region 4 with fail
    refine namedC ?_; intro W4 hW4
    have hs4 : Frm W.heap.size [] W W4 := by rw [hW4]; exact HS.out
    clear HS hW4
    have hfx : ∀ V, Frm W4.heap.size [] W4 V → V.cell? ⟨c, 0, none⟩ = some (.int .i64 l.fx) ∧ V.cell? ⟨c, 1, none⟩ = some (.int .i64 l.fy) ∧ V.cell? ⟨c, 2, none⟩ = some (.int .i64 l.tx) ∧ V.cell? ⟨c, 3, none⟩ = some (.int .i64 l.ty) ∧ V.cell? ⟨c, 4, none⟩ = some (.int .i64 l.start) ∧ V.cell? ⟨c, 5, none⟩ = some (.int .i64 l.arrive) := fun V hV => HFX0.out V (hs4.call hV hs4.size (by simp))
    have HFX := Lib.hid hfx
    have HS4 := Lib.hid hs4
    clear hs4 hfx
    refine wp_region_leftL (fun V => Frm W4.heap.size [] W4 V) 1000 (by kernel_rfl) ?_
    have hS : Frm W4.heap.size [] W4 W4.drew := (Frm.refl _ _ W4).drew
    have HS := Lib.hid hS
    clear hS
    refine LeftL.run (v := ?_) 0 rfl (by kernel_rfl) rfl (fun _ _ d _ _ h => by cases d <;> exact h) ?_ HS.out ?_; rotate_left; (· intro V hV; obtain ⟨q0, q1, q2, q3, q4, q5⟩ := HFX.out V hV; clear hV; go_simp; rfl); (intro K' hK'; go_simp; refine hK' _ ?_; clear hK' K')
    refine LeftL.run (v := ?_) 1 rfl (by kernel_rfl) rfl (fun _ _ d _ _ h => by cases d <;> exact h) ?_ HS.out ?_; rotate_left; (· intro V hV; obtain ⟨q0, q1, q2, q3, q4, q5⟩ := HFX.out V hV; clear hV; go_simp; rfl); (intro K' hK'; go_simp; refine hK' _ ?_; clear hK' K')
    refine LeftL.run (v := ?_) 2 rfl (by kernel_rfl) rfl (fun _ _ d _ _ h => by cases d <;> exact h) ?_ HS.out ?_; rotate_left; (· intro V hV; obtain ⟨q0, q1, q2, q3, q4, q5⟩ := HFX.out V hV; clear hV; go_simp; rfl); (intro K' hK'; go_simp; refine hK' _ ?_; clear hK' K')
    refine LeftL.run (v := ?_) 3 rfl (by kernel_rfl) rfl (fun _ _ d _ _ h => by cases d <;> exact h) ?_ HS.out ?_; rotate_left; (· intro V hV; obtain ⟨q0, q1, q2, q3, q4, q5⟩ := HFX.out V hV; clear hV; go_simp; rfl); (intro K' hK'; go_simp; refine hK' _ ?_; clear hK' K')
    refine LeftL.run (v := ?_) 4 rfl (by kernel_rfl) rfl (fun _ _ d _ _ h => by cases d <;> exact h) ?_ HS.out ?_; rotate_left; (· intro V hV; obtain ⟨q0, q1, q2, q3, q4, q5⟩ := HFX.out V hV; clear hV; go_simp; rfl); (intro K' hK'; go_simp; refine hK' _ ?_; clear hK' K')
    refine LeftL.run (v := ?_) 5 rfl (by kernel_rfl) rfl (fun _ _ d _ _ h => by cases d <;> exact h) ?_ HS.out ?_; rotate_left; (· intro V hV; obtain ⟨q0, q1, q2, q3, q4, q5⟩ := HFX.out V hV; clear hV; go_simp; rfl); (intro K' hK'; go_simp; refine hK' _ ?_; clear hK' K')
    refine LeftL.run (v := ?_) 6 rfl (by kernel_rfl) rfl (fun _ _ d _ _ h => by cases d <;> exact h) ?_ HS.out ?_; rotate_left; (· intro V hV; obtain ⟨q0, q1, q2, q3, q4, q5⟩ := HFX.out V hV; clear hV; go_simp; rfl); (intro K' hK'; go_simp; refine hK' _ ?_; clear hK' K')
    refine LeftL.run (v := ?_) 7 rfl (by kernel_rfl) rfl (fun _ _ d _ _ h => by cases d <;> exact h) ?_ HS.out ?_; rotate_left; (· intro V hV; obtain ⟨q0, q1, q2, q3, q4, q5⟩ := HFX.out V hV; clear hV; go_simp; rfl); (intro K' hK'; go_simp; refine hK' _ ?_; clear hK' K')
    refine LeftL.run (v := ?_) 8 rfl (by kernel_rfl) rfl (fun _ _ d _ _ h => by cases d <;> exact h) ?_ HS.out ?_; rotate_left; (· intro V hV; obtain ⟨q0, q1, q2, q3, q4, q5⟩ := HFX.out V hV; clear hV; go_simp; rfl); (intro K' hK'; go_simp; refine hK' _ ?_; clear hK' K')
    refine LeftL.run (v := ?_) 9 rfl (by kernel_rfl) rfl (fun _ _ d _ _ h => by cases d <;> exact h) ?_ HS.out ?_; rotate_left; (· intro V hV; obtain ⟨q0, q1, q2, q3, q4, q5⟩ := HFX.out V hV; clear hV; go_simp; rfl); (intro K' hK'; go_simp; refine hK' _ ?_; clear hK' K')
    refine LeftL.run (v := ?_) 10 rfl (by kernel_rfl) rfl (fun _ _ d _ _ h => by cases d <;> exact h) ?_ HS.out ?_; rotate_left; (· intro V hV; obtain ⟨q0, q1, q2, q3, q4, q5⟩ := HFX.out V hV; clear hV; go_simp; rfl); (intro K' hK'; go_simp; refine hK' _ ?_; clear hK' K')
    refine LeftL.run (v := ?_) 11 rfl (by kernel_rfl) rfl (fun _ _ d _ _ h => by cases d <;> exact h) ?_ HS.out ?_; rotate_left; (· intro V hV; obtain ⟨q0, q1, q2, q3, q4, q5⟩ := HFX.out V hV; clear hV; go_simp; rfl); (intro K' hK'; go_simp; refine hK' _ ?_; clear hK' K')
    refine LeftL.run (v := ?_) 12 rfl (by kernel_rfl) rfl (fun _ _ d _ _ h => by cases d <;> exact h) ?_ HS.out ?_; rotate_left; (· intro V hV; obtain ⟨q0, q1, q2, q3, q4, q5⟩ := HFX.out V hV; clear hV; go_simp; rfl); (intro K' hK'; go_simp; refine hK' _ ?_; clear hK' K')
    refine LeftL.run (v := ?_) 13 rfl (by kernel_rfl) rfl (fun _ _ d _ _ h => by cases d <;> exact h) ?_ HS.out ?_; rotate_left; (· intro V hV; obtain ⟨q0, q1, q2, q3, q4, q5⟩ := HFX.out V hV; clear hV; go_simp; rfl); (intro K' hK'; go_simp; refine hK' _ ?_; clear hK' K')
    refine LeftL.run (v := ?_) 14 rfl (by kernel_rfl) rfl (fun _ _ d _ _ h => by cases d <;> exact h) ?_ HS.out ?_; rotate_left; (· intro V hV; obtain ⟨q0, q1, q2, q3, q4, q5⟩ := HFX.out V hV; clear hV; go_simp; rfl); (intro K' hK'; go_simp; refine hK' _ ?_; clear hK' K')
    refine LeftL.run (v := ?_) 15 rfl (by kernel_rfl) rfl (fun _ _ d _ _ h => by cases d <;> exact h) ?_ HS.out ?_; rotate_left; (· intro V hV; obtain ⟨q0, q1, q2, q3, q4, q5⟩ := HFX.out V hV; clear hV; go_simp; rfl); (intro K' hK'; go_simp; refine hK' _ ?_; clear hK' K')
    refine LeftL.run (v := ?_) 16 rfl (by kernel_rfl) rfl (fun _ _ d _ _ h => by cases d <;> exact h) ?_ HS.out ?_; rotate_left; (· intro V hV; obtain ⟨q0, q1, q2, q3, q4, q5⟩ := HFX.out V hV; clear hV; go_simp; rfl); (intro K' hK'; go_simp; refine hK' _ ?_; clear hK' K')
    refine LeftL.run (v := ?_) 17 rfl (by kernel_rfl) rfl (fun _ _ d _ _ h => by cases d <;> exact h) ?_ HS.out ?_; rotate_left; (· intro V hV; obtain ⟨q0, q1, q2, q3, q4, q5⟩ := HFX.out V hV; clear hV; go_simp; rfl); (intro K' hK'; go_simp; refine hK' _ ?_; clear hK' K')
    refine LeftL.one 18 rfl (by kernel_rfl) ?_
    go_wp2_with fail
    first | refine ⟨fun _ => HS.out, ?_⟩ | refine ⟨HS.out, ?_⟩
    refine LeftL.one 19 rfl (by kernel_rfl) ?_
    go_wp2_with fail
    first | refine ⟨fun _ => HS.out, ?_⟩ | refine ⟨HS.out, ?_⟩
    refine LeftL.done (by kernel_rfl) ?_
    have hs45 := HS4.out.call HS.out HS4.out.size (by simp)
    clear HS
    have HS := Lib.hid hs45
    clear HFX hs45
    go_upto_region 5 with fail
    refine namedC ?_; intro W5 hW5
    have hs5 : Frm W.heap.size [] W W5 := by rw [hW5]; exact HS.out
    clear HS hW5
    have hfx : ∀ V, Frm W5.heap.size [] W5 V → V.cell? ⟨c, 0, none⟩ = some (.int .i64 l.fx) ∧ V.cell? ⟨c, 1, none⟩ = some (.int .i64 l.fy) ∧ V.cell? ⟨c, 2, none⟩ = some (.int .i64 l.tx) ∧ V.cell? ⟨c, 3, none⟩ = some (.int .i64 l.ty) ∧ V.cell? ⟨c, 4, none⟩ = some (.int .i64 l.start) ∧ V.cell? ⟨c, 5, none⟩ = some (.int .i64 l.arrive) := fun V hV => HFX0.out V (hs5.call hV hs5.size (by simp))
    have HFX := Lib.hid hfx
    have HS5 := Lib.hid hs5
    clear hs5 hfx
    have z4 := HS5.out.blk HB4.out HB4.out.lt (by simp)
    have Z4 := Lib.hid z4
    clear z4
    refine wp_region_leftL (fun V => Frm W5.heap.size [] W5 V) 15 (by kernel_rfl) ?_
    have hS : Frm W5.heap.size [] W5 W5.drew := (Frm.refl _ _ W5).drew
    have HS := Lib.hid hS
    clear hS
    refine LeftL.run (v := ?_) 0 rfl (by kernel_rfl) rfl (fun _ _ d _ _ h => by cases d <;> exact h) ?_ HS.out ?_; rotate_left; (· intro V hV; obtain ⟨q0, q1, q2, q3, q4, q5⟩ := HFX.out V hV; clear hV; go_simp; rfl); (intro K' hK'; go_simp; refine hK' _ ?_; clear hK' K')
    refine LeftL.run (v := ?_) 1 rfl (by kernel_rfl) rfl (fun _ _ d _ _ h => by cases d <;> exact h) ?_ HS.out ?_; rotate_left; (· intro V hV; obtain ⟨q0, q1, q2, q3, q4, q5⟩ := HFX.out V hV; clear hV; go_simp; rfl); (intro K' hK'; go_simp; refine hK' _ ?_; clear hK' K')
    refine LeftL.run (v := ?_) 2 rfl (by kernel_rfl) rfl (fun _ _ d _ _ h => by cases d <;> exact h) ?_ HS.out ?_; rotate_left; (· intro V hV; obtain ⟨q0, q1, q2, q3, q4, q5⟩ := HFX.out V hV; clear hV; go_simp; rfl); (intro K' hK'; go_simp; refine hK' _ ?_; clear hK' K')
    refine LeftL.run (v := ?_) 3 rfl (by kernel_rfl) rfl (fun _ _ d _ _ h => by cases d <;> exact h) ?_ HS.out ?_; rotate_left; (· intro V hV; obtain ⟨q0, q1, q2, q3, q4, q5⟩ := HFX.out V hV; clear hV; go_simp; rfl); (intro K' hK'; go_simp; refine hK' _ ?_; clear hK' K')
    refine LeftL.run (v := ?_) 4 rfl (by kernel_rfl) rfl (fun _ _ d _ _ h => by cases d <;> exact h) ?_ HS.out ?_; rotate_left; (· intro V hV; obtain ⟨q0, q1, q2, q3, q4, q5⟩ := HFX.out V hV; clear hV; go_simp; rfl); (intro K' hK'; go_simp; refine hK' _ ?_; clear hK' K')
    refine LeftL.run (v := ?_) 7 rfl (by kernel_rfl) rfl (fun _ _ d _ _ h => by cases d <;> exact h) ?_ HS.out ?_; rotate_left; (· intro V hV; obtain ⟨q0, q1, q2, q3, q4, q5⟩ := HFX.out V hV; clear hV; go_simp; rfl); (intro K' hK'; go_simp; refine hK' _ ?_; clear hK' K')
    refine LeftL.run (v := ?_) 8 rfl (by kernel_rfl) rfl (fun _ _ d _ _ h => by cases d <;> exact h) ?_ HS.out ?_; rotate_left; (· intro V hV; obtain ⟨q0, q1, q2, q3, q4, q5⟩ := HFX.out V hV; clear hV; go_simp; rfl); (intro K' hK'; go_simp; refine hK' _ ?_; clear hK' K')
    refine LeftL.run (v := ?_) 9 rfl (by kernel_rfl) rfl (fun _ _ d _ _ h => by cases d <;> exact h) ?_ HS.out ?_; rotate_left; (· intro V hV; obtain ⟨q0, q1, q2, q3, q4, q5⟩ := HFX.out V hV; clear hV; go_simp; rfl); (intro K' hK'; go_simp; refine hK' _ ?_; clear hK' K')
    refine LeftL.run (v := ?_) 10 rfl (by kernel_rfl) rfl (fun _ _ d _ _ h => by cases d <;> exact h) ?_ HS.out ?_; rotate_left; (· intro V hV; obtain ⟨q0, q1, q2, q3, q4, q5⟩ := HFX.out V hV; clear hV; go_simp; rfl); (intro K' hK'; go_simp; refine hK' _ ?_; clear hK' K')
    refine LeftL.run (v := ?_) 11 rfl (by kernel_rfl) rfl (fun _ _ d _ _ h => by cases d <;> exact h) ?_ HS.out ?_; rotate_left; (· intro V hV; obtain ⟨q0, q1, q2, q3, q4, q5⟩ := HFX.out V hV; clear hV; go_simp; rfl); (intro K' hK'; go_simp; refine hK' _ ?_; clear hK' K')
    refine LeftL.one 5 rfl (by kernel_rfl) ?_
    go_wp2_with fail
    refine (floor_fr _ _ _ (by have := IX.out; omega) IOF.out IOF2.out).mono ?_; rintro e w1 ⟨rfl, hf1⟩
    have hS1 := HS.out.call hf1 HS.out.size (by simp)
    clear hf1 HS
    have HS := Lib.hid hS1
    clear hS1
    go_wp2_with fail
    first | refine ⟨fun _ => HS.out, ?_⟩ | refine ⟨HS.out, ?_⟩
    refine LeftL.run (v := ?_) 6 rfl (by kernel_rfl) rfl (fun _ _ d _ _ h => by cases d <;> exact h) ?_ HS.out ?_; rotate_left; (· intro V hV; obtain ⟨q0, q1, q2, q3, q4, q5⟩ := HFX.out V hV; clear hV; go_simp; rfl); (intro K' hK'; go_simp; refine hK' _ ?_; clear hK' K')
    refine LeftL.one 12 rfl (by kernel_rfl) ?_
    go_wp2_with fail
    refine (floor_fr _ _ _ (by have := IY.out; omega) IOF.out IOF2.out).mono ?_; rintro e w1 ⟨rfl, hf1⟩
    have hS1 := HS.out.call hf1 HS.out.size (by simp)
    clear hf1 HS
    have HS := Lib.hid hS1
    clear hS1
    go_wp2_with fail
    first | refine ⟨fun _ => HS.out, ?_⟩ | refine ⟨HS.out, ?_⟩
    refine LeftL.run (v := ?_) 13 rfl (by kernel_rfl) rfl (fun _ _ d _ _ h => by cases d <;> exact h) ?_ HS.out ?_; rotate_left; (· intro V hV; obtain ⟨q0, q1, q2, q3, q4, q5⟩ := HFX.out V hV; clear hV; go_simp; rfl); (intro K' hK'; go_simp; refine hK' _ ?_; clear hK' K')
    refine LeftL.run (v := ?_) 14 rfl (by kernel_rfl) rfl (fun _ _ d _ _ h => by cases d <;> exact h) ?_ HS.out ?_; rotate_left; (· intro V hV; obtain ⟨q0, q1, q2, q3, q4, q5⟩ := HFX.out V hV; clear hV; go_simp; rfl); (intro K' hK'; go_simp; refine hK' _ ?_; clear hK' K')
    refine LeftL.one 15 rfl (by kernel_rfl) ?_
    refine wpList_storeB (P := Tryd.prog) (ty := 23) (cs := [.int .i64 (l.fx + xx / of), .int .i64 (l.fy + yy / of)]) rfl rfl (HS.out.blk Z4.out Z4.out.lt (by simp)) rfl rfl rfl I23.out (by simp [Value.oneCell']) ?_
    refine wpList_nil ?_
    refine ⟨fun h => absurd rfl h, ?_⟩
    refine LeftL.done (by kernel_rfl) ?_
    simp only [Act.put]
    have hs56 := HS5.out.call HS.out HS5.out.size (by simp)
    have b6 := hs56.blk HB2.out HB2.out.lt (by simp)
    have y5 := hs56.blk HB5.out HB5.out.lt (by simp)
    have y4 := (hs56.blk HB4.out HB4.out.lt (by simp)).row [.int .i64 (l.fx + xx / of), .int .i64 (l.fy + yy / of)]
    have b6' := b6.rowO (g := c + 1) (cs := #[.int .i64 (l.fx + xx / of), .int .i64 (l.fy + yy / of)]) (by omega)
    have y5' := y5.rowO (g := c + 1) (cs := #[.int .i64 (l.fx + xx / of), .int .i64 (l.fy + yy / of)]) (by omega)
    have hf6 := ((HF.out.call hs56 HF.out.size (by simp)).setRow (g := c + 1) (.inr (by have := HC.out; omega)) #[.int .i64 (l.fx + xx / of), .int .i64 (l.fy + yy / of)])
    clear hs56 b6 y5 HS HFX
    have Y4 := Lib.hid y4
    have B6 := Lib.hid b6'
    have Y5 := Lib.hid y5'
    have HF6 := Lib.hid hf6
    clear hf6 y5' b6' y4
    go_upto_region 6 with fail
    refine namedC ?_; intro W6 hW6
    rw [← hW6] at Y4 B6 Y5 HF6
    clear hW6
    have hfx : ∀ V, Frm W6.heap.size [] W6 V → V.cell? ⟨c, 0, none⟩ = some (.int .i64 l.fx) ∧ V.cell? ⟨c, 1, none⟩ = some (.int .i64 l.fy) := fun V hV => by
      have h := hV.blk B6.out B6.out.lt (by simp)
      exact ⟨h.cell 0, h.cell 1⟩
    have HFX := Lib.hid hfx
    clear hfx
    refine wp_region_leftL (fun V => Frm W6.heap.size [] W6 V) 17 (by kernel_rfl) ?_
    have hS : Frm W6.heap.size [] W6 W6.drew := (Frm.refl _ _ W6).drew
    have HS := Lib.hid hS
    clear hS
    refine LeftL.run (v := ?_) 0 rfl (by kernel_rfl) rfl (fun _ _ d _ _ h => by cases d <;> exact h) ?_ HS.out ?_; rotate_left; (· intro V hV; obtain ⟨q0, q1⟩ := HFX.out V hV; clear hV; go_simp; rfl); (intro K' hK'; go_simp; refine hK' _ ?_; clear hK' K')
    refine LeftL.run (v := ?_) 1 rfl (by kernel_rfl) rfl (fun _ _ d _ _ h => by cases d <;> exact h) ?_ HS.out ?_; rotate_left; (· intro V hV; obtain ⟨q0, q1⟩ := HFX.out V hV; clear hV; go_simp; rfl); (intro K' hK'; go_simp; refine hK' _ ?_; clear hK' K')
    refine LeftL.run (v := ?_) 2 rfl (by kernel_rfl) rfl (fun _ _ d _ _ h => by cases d <;> exact h) ?_ HS.out ?_; rotate_left; (· intro V hV; obtain ⟨q0, q1⟩ := HFX.out V hV; clear hV; go_simp; rfl); (intro K' hK'; go_simp; refine hK' _ ?_; clear hK' K')
    refine LeftL.run (v := ?_) 3 rfl (by kernel_rfl) rfl (fun _ _ d _ _ h => by cases d <;> exact h) ?_ HS.out ?_; rotate_left; (· intro V hV; obtain ⟨q0, q1⟩ := HFX.out V hV; clear hV; go_simp; rfl); (intro K' hK'; go_simp; refine hK' _ ?_; clear hK' K')
    refine LeftL.run (v := ?_) 4 rfl (by kernel_rfl) rfl (fun _ _ d _ _ h => by cases d <;> exact h) ?_ HS.out ?_; rotate_left; (· intro V hV; obtain ⟨q0, q1⟩ := HFX.out V hV; clear hV; go_simp; rfl); (intro K' hK'; go_simp; refine hK' _ ?_; clear hK' K')
    refine LeftL.run (v := ?_) 5 rfl (by kernel_rfl) rfl (fun _ _ d _ _ h => by cases d <;> exact h) ?_ HS.out ?_; rotate_left; (· intro V hV; obtain ⟨q0, q1⟩ := HFX.out V hV; clear hV; go_simp; rfl); (intro K' hK'; go_simp; refine hK' _ ?_; clear hK' K')
    refine LeftL.run (v := ?_) 8 rfl (by kernel_rfl) rfl (fun _ _ d _ _ h => by cases d <;> exact h) ?_ HS.out ?_; rotate_left; (· intro V hV; obtain ⟨q0, q1⟩ := HFX.out V hV; clear hV; go_simp; rfl); (intro K' hK'; go_simp; refine hK' _ ?_; clear hK' K')
    refine LeftL.run (v := ?_) 9 rfl (by kernel_rfl) rfl (fun _ _ d _ _ h => by cases d <;> exact h) ?_ HS.out ?_; rotate_left; (· intro V hV; obtain ⟨q0, q1⟩ := HFX.out V hV; clear hV; go_simp; rfl); (intro K' hK'; go_simp; refine hK' _ ?_; clear hK' K')
    refine LeftL.run (v := ?_) 10 rfl (by kernel_rfl) rfl (fun _ _ d _ _ h => by cases d <;> exact h) ?_ HS.out ?_; rotate_left; (· intro V hV; obtain ⟨q0, q1⟩ := HFX.out V hV; clear hV; go_simp; rfl); (intro K' hK'; go_simp; refine hK' _ ?_; clear hK' K')
    refine LeftL.run (v := ?_) 11 rfl (by kernel_rfl) rfl (fun _ _ d _ _ h => by cases d <;> exact h) ?_ HS.out ?_; rotate_left; (· intro V hV; obtain ⟨q0, q1⟩ := HFX.out V hV; clear hV; go_simp; rfl); (intro K' hK'; go_simp; refine hK' _ ?_; clear hK' K')
    refine LeftL.run (v := ?_) 12 rfl (by kernel_rfl) rfl (fun _ _ d _ _ h => by cases d <;> exact h) ?_ HS.out ?_; rotate_left; (· intro V hV; obtain ⟨q0, q1⟩ := HFX.out V hV; clear hV; go_simp; rfl); (intro K' hK'; go_simp; refine hK' _ ?_; clear hK' K')
    refine LeftL.run (v := ?_) 13 rfl (by kernel_rfl) rfl (fun _ _ d _ _ h => by cases d <;> exact h) ?_ HS.out ?_; rotate_left; (· intro V hV; obtain ⟨q0, q1⟩ := HFX.out V hV; clear hV; go_simp; rfl); (intro K' hK'; go_simp; refine hK' _ ?_; clear hK' K')
    refine LeftL.one 6 rfl (by kernel_rfl) ?_
    go_wp2_with fail
    refine (floor_fr _ _ _ (by have := IX.out; omega) IOF.out IOF2.out).mono ?_; rintro e w1 ⟨rfl, hf1⟩
    have hS1 := HS.out.call hf1 HS.out.size (by simp)
    clear hf1 HS
    have HS := Lib.hid hS1
    clear hS1
    go_wp2_with fail
    first | refine ⟨fun _ => HS.out, ?_⟩ | refine ⟨HS.out, ?_⟩
    refine LeftL.run (v := ?_) 7 rfl (by kernel_rfl) rfl (fun _ _ d _ _ h => by cases d <;> exact h) ?_ HS.out ?_; rotate_left; (· intro V hV; obtain ⟨q0, q1⟩ := HFX.out V hV; clear hV; go_simp; rfl); (intro K' hK'; go_simp; refine hK' _ ?_; clear hK' K')
    refine LeftL.one 14 rfl (by kernel_rfl) ?_
    go_wp2_with fail
    refine (floor_fr _ _ _ (by have := IY.out; omega) IOF.out IOF2.out).mono ?_; rintro e w1 ⟨rfl, hf1⟩
    have hS1 := HS.out.call hf1 HS.out.size (by simp)
    clear hf1 HS
    have HS := Lib.hid hS1
    clear hS1
    go_wp2_with fail
    first | refine ⟨fun _ => HS.out, ?_⟩ | refine ⟨HS.out, ?_⟩
    refine LeftL.run (v := ?_) 15 rfl (by kernel_rfl) rfl (fun _ _ d _ _ h => by cases d <;> exact h) ?_ HS.out ?_; rotate_left; (· intro V hV; obtain ⟨q0, q1⟩ := HFX.out V hV; clear hV; go_simp; rfl); (intro K' hK'; go_simp; refine hK' _ ?_; clear hK' K')
    refine LeftL.run (v := ?_) 16 rfl (by kernel_rfl) rfl (fun _ _ d _ _ h => by cases d <;> exact h) ?_ HS.out ?_; rotate_left; (· intro V hV; obtain ⟨q0, q1⟩ := HFX.out V hV; clear hV; go_simp; rfl); (intro K' hK'; go_simp; refine hK' _ ?_; clear hK' K')
    refine LeftL.one 17 rfl (by kernel_rfl) ?_
    refine wpList_storeB (P := Tryd.prog) (ty := 23) (cs := [.int .i64 (l.fx - (-xx) / of), .int .i64 (l.fy - (-yy) / of)]) rfl rfl (HS.out.blk Y5.out Y5.out.lt (by simp)) rfl rfl rfl I23.out (by simp [Value.oneCell']) ?_
    refine wpList_nil ?_
    refine ⟨fun h => absurd rfl h, ?_⟩
    refine LeftL.done (by kernel_rfl) ?_
    simp only [Act.put]
    have x5 := (HS.out.blk Y5.out Y5.out.lt (by simp)).row [.int .i64 (l.fx - (-xx) / of), .int .i64 (l.fy - (-yy) / of)]
    have x4 := (HS.out.blk Y4.out Y4.out.lt (by simp)).rowO (g := c + 1 + 1) (cs := #[.int .i64 (l.fx - (-xx) / of), .int .i64 (l.fy - (-yy) / of)]) (by omega)
    have hf7 := ((HF6.out.call HS.out HF6.out.size (by simp)).setRow (g := c + 1 + 1) (.inr (by have := HC.out; omega)) #[.int .i64 (l.fx - (-xx) / of), .int .i64 (l.fy - (-yy) / of)])
    clear HS HFX
    have X4 := Lib.hid x4
    have X5 := Lib.hid x5
    have HF7 := Lib.hid hf7
    clear hf7 x5 x4
    go_upto_region 7 with fail
    refine namedC ?_; intro W7 hW7
    rw [← hW7] at X4 X5 HF7
    clear hW7
    have hfx : ∀ V, (Frm w.heap.size [] w V ∧ Blk V (c + 1) 23 [.int .i64 (l.fx + xx / of), .int .i64 (l.fy + yy / of)] ∧ Blk V (c + 1 + 1) 23 [.int .i64 (l.fx - (-xx) / of), .int .i64 (l.fy - (-yy) / of)]) → V.cell? ⟨c + 1, 0, none⟩ = some (.int .i64 (l.fx + xx / of)) ∧ V.cell? ⟨c + 1, 1, none⟩ = some (.int .i64 (l.fy + yy / of)) ∧ V.cell? ⟨c + 1 + 1, 0, none⟩ = some (.int .i64 (l.fx - (-xx) / of)) ∧ V.cell? ⟨c + 1 + 1, 1, none⟩ = some (.int .i64 (l.fy - (-yy) / of)) := fun V hV => ⟨hV.2.1.cell 0, hV.2.1.cell 1, hV.2.2.cell 0, hV.2.2.cell 1⟩
    have HFX := Lib.hid hfx
    clear hfx
    refine wp_region_leftL (fun V => Frm w.heap.size [] w V ∧ Blk V (c + 1) 23 [.int .i64 (l.fx + xx / of), .int .i64 (l.fy + yy / of)] ∧ Blk V (c + 1 + 1) 23 [.int .i64 (l.fx - (-xx) / of), .int .i64 (l.fy - (-yy) / of)]) 1000 (by kernel_rfl) ?_
    have HS := Lib.hid (show Frm w.heap.size [] w W7.drew ∧ Blk W7.drew (c + 1) 23 [.int .i64 (l.fx + xx / of), .int .i64 (l.fy + yy / of)] ∧ Blk W7.drew (c + 1 + 1) 23 [.int .i64 (l.fx - (-xx) / of), .int .i64 (l.fy - (-yy) / of)] from ⟨HF7.out.drew, X4.out.drew, X5.out.drew⟩)
    refine LeftL.run (v := ?_) 0 rfl (by kernel_rfl) rfl (fun _ _ d _ _ h => by cases d <;> exact h) ?_ HS.out ?_; rotate_left; (· intro V hV; obtain ⟨q0, q1, q2, q3⟩ := HFX.out V hV; clear hV; go_simp; rfl); (intro K' hK'; go_simp; refine hK' _ ?_; clear hK' K')
    refine LeftL.run (v := ?_) 1 rfl (by kernel_rfl) rfl (fun _ _ d _ _ h => by cases d <;> exact h) ?_ HS.out ?_; rotate_left; (· intro V hV; obtain ⟨q0, q1, q2, q3⟩ := HFX.out V hV; clear hV; go_simp; rfl); (intro K' hK'; go_simp; refine hK' _ ?_; clear hK' K')
    refine LeftL.one 2 rfl (by kernel_rfl) ?_
    refine wpList_storeB (P := Tryd.prog) (ty := 23) (cs := [.int .i64 (l.fx + xx / of), .int .i64 (l.fy + yy / of)]) rfl rfl HS.out.2.1 rfl rfl rfl I23.out (by simp [Value.oneCell']) ?_
    refine wpList_nil ?_
    have hs1 : Frm w.heap.size [] w _ ∧ Blk _ (c + 1) 23 [.int .i64 (l.fx + xx / of), .int .i64 (l.fy + yy / of)] ∧ Blk _ (c + 1 + 1) 23 [.int .i64 (l.fx - (-xx) / of), .int .i64 (l.fy - (-yy) / of)] := ⟨HS.out.1.setRow (g := c + 1) (.inr (by have := HC.out; omega)) #[.int .i64 (l.fx + xx / of), .int .i64 (l.fy + yy / of)], HS.out.2.1.row [.int .i64 (l.fx + xx / of), .int .i64 (l.fy + yy / of)], HS.out.2.2.rowO (g := c + 1) (cs := #[.int .i64 (l.fx + xx / of), .int .i64 (l.fy + yy / of)]) (by omega)⟩
    clear HS
    have HS := Lib.hid hs1
    clear hs1
    refine ⟨fun _ => HS.out, ?_⟩
    refine LeftL.one 3 rfl (by kernel_rfl) ?_
    refine wpList_storeB (P := Tryd.prog) (ty := 23) (cs := [.int .i64 (l.fx - (-xx) / of), .int .i64 (l.fy - (-yy) / of)]) rfl rfl HS.out.2.2 rfl rfl rfl I23.out (by simp [Value.oneCell']) ?_
    refine wpList_nil ?_
    have hs1 : Frm w.heap.size [] w _ ∧ Blk _ (c + 1) 23 [.int .i64 (l.fx + xx / of), .int .i64 (l.fy + yy / of)] ∧ Blk _ (c + 1 + 1) 23 [.int .i64 (l.fx - (-xx) / of), .int .i64 (l.fy - (-yy) / of)] := ⟨HS.out.1.setRow (g := c + 1 + 1) (.inr (by have := HC.out; omega)) #[.int .i64 (l.fx - (-xx) / of), .int .i64 (l.fy - (-yy) / of)], HS.out.2.1.rowO (g := c + 1 + 1) (cs := #[.int .i64 (l.fx - (-xx) / of), .int .i64 (l.fy - (-yy) / of)]) (by omega), HS.out.2.2.row [.int .i64 (l.fx - (-xx) / of), .int .i64 (l.fy - (-yy) / of)]⟩
    clear HS
    have HS := Lib.hid hs1
    clear hs1
    refine ⟨fun _ => HS.out, ?_⟩
    refine LeftL.done (by kernel_rfl) ?_
    simp only [Act.put]
    go_wp2_with fail
    refine bodyPost_ret (results_66 (p4 := c + 1) (p5 := c + 1 + 1) rfl rfl HS.out.2.1 HS.out.2.2) rfl ?_
    exact ⟨by rw [E1.out, E2.out], HS.out.1⟩
end Go.Proofs.YtghkfopcjdkieaaDoor
