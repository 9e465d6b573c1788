/-
  Where a unit is, and what fuel is left, by the document.
-/
import Derived.Test.YtghkfopcjdkieaaDoorR1
import Derived.Test.YtghkfopcjdkieaaDoorR2
import Derived.Test.YtghkfopcjdkieaaDoorU23
import Derived.Test.YtghkfopcjdkieaaDoorU24
namespace Go.Proofs.YtghkfopcjdkieaaDoor
open Go.RowKit

theorem results_68 {w : World} {tmps : Array Value} {p4 p5 : Nat} {x y u v : Int} (h4 : tmps.getD 4 undef = .pointer (some ⟨p4, 0, none⟩)) (h5 : tmps.getD 5 undef = .pointer (some ⟨p5, 0, none⟩))
    (b4 : Blk w p4 23 [.int .i64 x, .int .i64 y]) (b5 : Blk w p5 23 [.int .i64 u, .int .i64 v]) : (results Tryd.f68 tmps).run Tryd.prog w = .ok (.tuple #[.agg #[.int .i64 x, .int .i64 y], .agg #[.int .i64 u, .int .i64 v]]) w := by
  have l4 := loadVarB b4 (P := Tryd.prog) Tryd.underlying23 rfl (by kernel_rfl)
  have l5 := loadVarB b5 (P := Tryd.prog) Tryd.underlying23 rfl (by kernel_rfl)
  have e4 : tmps[4]?.getD undef = .pointer (some ⟨p4, 0, none⟩) := by simpa using h4
  have e5 : tmps[5]?.getD undef = .pointer (some ⟨p5, 0, none⟩) := by simpa using h5
  simp [results, Tryd.results68, e4, e5, asAddr, l4, l5]

set_option maxRecDepth 100000 in
set_option maxHeartbeats 4000000 in
theorem refSpot_any (l : LC) (t : Int) (w : World) (hB : LegOK l) (hst : l.start ≤ t) :
    Calls Tryd.prog 68 #[.agg l.cells.toArray, .int .i64 t] w fun e w' =>
      e = .returned (.tuple #[.agg #[.int .i64 (lowZ l t).1, .int .i64 (lowZ l t).2], .agg #[.int .i64 (highZ l t).1, .int .i64 (highZ l t).2]]) ∧ Frm w.heap.size [] w w' := by
  have hf0 := Tryd.func68
  have i23 : (Tryd.prog.info? 23).map (fun i => i.size) = some 2 := by kernel_rfl
  go_enter Tryd.func68, Tryd.ntmps68
  go_upto_region 1 with fail
  refine namedC ?_; intro W hW
  have hb2 : Blk W w.heap.size 49 l.cells := by rw [hW]; exact ((Blk.new w 49 l.cells).alloc _).alloc _
  have hb4 : Blk W (w.heap.size + 1) 23 [.int .i64 0, .int .i64 0] := by rw [hW]; exact (Blk.new' _ 23 [.int .i64 0, .int .i64 0] (by simp)).alloc _
  have hb5 : Blk W (w.heap.size + 1 + 1) 23 [.int .i64 0, .int .i64 0] := by rw [hW]; exact Blk.new' _ 23 [.int .i64 0, .int .i64 0] (by simp)
  have hf : Frm w.heap.size [] w W := by rw [hW]; repeat (first | with_reducible exact Frm.refl _ _ _ | with_reducible refine Frm.drewN ?_ | with_reducible refine Frm.drew ?_ | ((with_reducible refine Frm.setCell' ?_ ?_); · first | (left; simp; done) | (right; simp; done) | (right; simp; omega)) | ((with_reducible refine Frm.alloc' ?_ ?_); · first | exact Nat.le_refl _ | (simp; done) | (simp; omega)))
  clear hW hf0
  obtain ⟨c, hc⟩ : ∃ c, c = w.heap.size := ⟨_, rfl⟩
  rw [← hc] at hb2 hb4 hb5 ⊢
  have k5 : W.cell? ⟨c, 5, none⟩ = some (.int .i64 l.arrive) := hb2.cell 5
  have HB2 := Lib.hid hb2
  have HB4 := Lib.hid hb4
  have HB5 := Lib.hid hb5
  have HF := Lib.hid hf
  have HC := Lib.hid hc
  have HB := Lib.hid hB
  have I23 := Lib.hid i23
  clear i23 hB hc hf hb5 hb4 hb2
  by_cases hta : l.arrive ≤ t
  · have e1 : lowZ l t = (l.tx, l.ty) := if_pos hta
    have e2 : highZ l t = (l.tx, l.ty) := if_pos hta
    have E1 := Lib.hid e1
    have E2 := Lib.hid e2
    clear e2 e1
    go_upto_region 2 with fail
    have hfx : ∀ V, Frm W.heap.size [c + 1, c + 1 + 1] W V → V.cell? ⟨c, 2, none⟩ = some (.int .i64 l.tx) ∧ V.cell? ⟨c, 3, none⟩ = some (.int .i64 l.ty) := fun V hV => by
      have h := hV.blk HB2.out HB2.out.lt (by simp; omega)
      exact ⟨h.cell 2, h.cell 3⟩
    have HFX := Lib.hid hfx
    clear hfx
    refine wp_region_leftL (fun V => Frm W.heap.size [c + 1, c + 1 + 1] W V) 1000 (by kernel_rfl) ?_
    have hS : Frm W.heap.size [c + 1, c + 1 + 1] W W.drew := (Frm.refl _ _ W).drew
    have HS := Lib.hid hS
    clear hS
    refine LeftL.run (v := ?_) 0 rfl (by kernel_rfl) rfl (fun _ _ d _ _ h => by cases d <;> exact h) ?_ HS.out ?_; rotate_left; (· intro V hV; obtain ⟨q0, q1⟩ := HFX.out V hV; clear hV; go_simp; rfl); (intro K' hK'; go_simp; refine hK' _ ?_; clear hK' K')
    refine LeftL.run (v := ?_) 1 rfl (by kernel_rfl) rfl (fun _ _ d _ _ h => by cases d <;> exact h) ?_ HS.out ?_; rotate_left; (· intro V hV; obtain ⟨q0, q1⟩ := HFX.out V hV; clear hV; go_simp; rfl); (intro K' hK'; go_simp; refine hK' _ ?_; clear hK' K')
    refine LeftL.run (v := ?_) 2 rfl (by kernel_rfl) rfl (fun _ _ d _ _ h => by cases d <;> exact h) ?_ HS.out ?_; rotate_left; (· intro V hV; obtain ⟨q0, q1⟩ := HFX.out V hV; clear hV; go_simp; rfl); (intro K' hK'; go_simp; refine hK' _ ?_; clear hK' K')
    refine LeftL.run (v := ?_) 3 rfl (by kernel_rfl) rfl (fun _ _ d _ _ h => by cases d <;> exact h) ?_ HS.out ?_; rotate_left; (· intro V hV; obtain ⟨q0, q1⟩ := HFX.out V hV; clear hV; go_simp; rfl); (intro K' hK'; go_simp; refine hK' _ ?_; clear hK' K')
    refine LeftL.one 4 rfl (by kernel_rfl) ?_
    refine wpList_storeB (P := Tryd.prog) (ty := 23) (cs := [.int .i64 l.tx, .int .i64 l.ty]) rfl rfl HB4.out.drew rfl rfl rfl I23.out (by simp [Value.oneCell']) ?_
    refine wpList_nil ?_
    have hS2 := HS.out.setRow (g := c + 1) (.inl (by simp)) #[.int .i64 l.tx, .int .i64 l.ty]
    have z4 := HB4.out.drew.row [.int .i64 l.tx, .int .i64 l.ty]
    have z5 := HB5.out.drew.rowO (g := c + 1) (cs := #[.int .i64 l.tx, .int .i64 l.ty]) (by omega)
    clear HS
    have HS := Lib.hid hS2
    have Z4 := Lib.hid z4
    have Z5 := Lib.hid z5
    clear z5 z4 hS2
    refine ⟨fun _ => HS.out, ?_⟩
    refine LeftL.one 5 rfl (by kernel_rfl) ?_
    refine wpList_storeB (P := Tryd.prog) (ty := 23) (cs := [.int .i64 l.tx, .int .i64 l.ty]) rfl rfl Z5.out rfl rfl rfl I23.out (by simp [Value.oneCell']) ?_
    refine wpList_nil ?_
    have hS3 := HS.out.setRow (g := c + 1 + 1) (.inl (by simp)) #[.int .i64 l.tx, .int .i64 l.ty]
    have y4 := Z4.out.rowO (g := c + 1 + 1) (cs := #[.int .i64 l.tx, .int .i64 l.ty]) (by omega)
    have y5 := Z5.out.row [.int .i64 l.tx, .int .i64 l.ty]
    clear HS
    have HS := Lib.hid hS3
    have Y4 := Lib.hid y4
    have Y5 := Lib.hid y5
    clear y5 y4 hS3
    refine ⟨fun _ => HS.out, ?_⟩
    refine LeftL.done (by kernel_rfl) ?_
    simp only [Act.put]
    go_wp2_with fail
    refine bodyPost_ret (results_68 (p4 := c + 1) (p5 := c + 1 + 1) rfl rfl Y4.out Y5.out) rfl ?_
    exact ⟨by rw [E1.out, E2.out], HF.out.trans (HS.out.mono HF.out.size (fun k hk hm => by have := HC.out; simp at hm; omega))⟩
  · have hlt : t < l.arrive := by omega
    have i1 := HB.out.start
    have i2 := HB.out.arrive
    obtain ⟨nn, hnn⟩ : ∃ nn, nn = t - l.start := ⟨_, rfl⟩
    obtain ⟨of, hof⟩ : ∃ of, of = l.arrive - l.start := ⟨_, rfl⟩
    have pf := place_in HB.out.from_
    have pt := place_in HB.out.to_
    have w1 : IntKind.i64.wrap (t - l.start) = nn := by rw [hnn]; exact IntWalk.i64_in _ (by omega)
    have w2 : IntKind.i64.wrap (l.arrive - l.start) = of := by rw [hof]; exact IntWalk.i64_in _ (by omega)
    have w1' : wrap64 (t - l.start) = nn := by rw [hnn]; exact IntWalk.wrap64_in _ (by omega)
    have w2' : wrap64 (l.arrive - l.start) = of := by rw [hof]; exact IntWalk.wrap64_in _ (by omega)
    have inn : 0 ≤ nn ∧ nn ≤ 1073741824 := by omega
    have iof : 1 ≤ of ∧ of ≤ 1073741824 := by omega
    obtain ⟨pl, hpl⟩ : ∃ pl, pl = partLow l.fx l.tx nn of := ⟨_, rfl⟩
    obtain ⟨ph, hph⟩ : ∃ ph, ph = partHigh l.fx l.tx nn of := ⟨_, rfl⟩
    obtain ⟨ql, hql⟩ : ∃ ql, ql = partLow l.fy l.ty nn of := ⟨_, rfl⟩
    obtain ⟨qh, hqh⟩ : ∃ qh, qh = partHigh l.fy l.ty nn of := ⟨_, rfl⟩
    have e1 : lowZ l t = (pl, ql) := by unfold lowZ; rw [if_neg hta, hpl, hql, hnn, hof]; rfl
    have e2 : highZ l t = (ph, qh) := by unfold highZ; rw [if_neg hta, hph, hqh, hnn, hof]; rfl
    have cw : c + 1 + 1 < W.heap.size := HB5.out.lt
    clear hnn hof i1 i2
    have E1 := Lib.hid e1
    have E2 := Lib.hid e2
    have INN := Lib.hid inn
    have IOF := Lib.hid iof
    have PF := Lib.hid pf
    have PT := Lib.hid pt
    have HPL := Lib.hid hpl
    have HPH := Lib.hid hph
    have HQL := Lib.hid hql
    have HQH := Lib.hid hqh
    have CW := Lib.hid cw
    clear cw hqh hql hph hpl pt pf iof inn e2 e1
    go_wp2_with (with_reducible refine atStore 23 rfl ?_; refine stop_ ?_)
    refine go_on ?_
    obtain ⟨p, hp⟩ : ∃ p, p = W.heap.size := ⟨_, rfl⟩
    refine wpList_storeNew2 (zs := [.int .i64 0, .int .i64 0]) (cs := [.int .i64 0, .int .i64 0]) (ds := [.int .i64 0, .int .i64 0]) rfl rfl rfl rfl rfl rfl rfl rfl rfl rfl rfl rfl (by kernel_rfl) (by simp [Value.oneCell']) (by simp [Value.oneCell']) ?_
    intro W3 hf3 b6 b7
    clear k5
    rw [← hp] at b6 b7 ⊢
    have hpc : c + 1 + 1 < p := by rw [hp]; exact CW.out
    have hfa := HF.out.call hf3 HF.out.size (by simp)
    have x2 := hf3.blk HB2.out HB2.out.lt (by simp)
    have x4 := hf3.blk HB4.out HB4.out.lt (by simp)
    have x5 := hf3.blk HB5.out HB5.out.lt (by simp)
    clear hf3 hp
    have c0 : W3.cell? ⟨c, 0, none⟩ = some (.int .i64 l.fx) := x2.cell 0
    have c2 : W3.cell? ⟨c, 2, none⟩ = some (.int .i64 l.tx) := x2.cell 2
    have c4 : W3.cell? ⟨c, 4, none⟩ = some (.int .i64 l.start) := x2.cell 4
    have c5 : W3.cell? ⟨c, 5, none⟩ = some (.int .i64 l.arrive) := x2.cell 5
    have B6 := Lib.hid b6
    have B7 := Lib.hid b7
    have HPC := Lib.hid hpc
    have HFA := Lib.hid hfa
    have X2 := Lib.hid x2
    have X4 := Lib.hid x4
    have X5 := Lib.hid x5
    clear x5 x4 x2 hfa hpc b7 b6
    go_wp2_with fail
    refine (part_any l.fx l.tx nn of W3 (by have := PF.out; omega) (by have := PT.out; omega) INN.out IOF.out).mono ?_; rintro e w4 ⟨rfl, hf4⟩
    rw [← HPL.out, ← HPH.out]
    have hfb := HFA.out.call hf4 HFA.out.size (by simp)
    have y2 := hf4.blk X2.out X2.out.lt (by simp)
    have y4 := hf4.blk X4.out X4.out.lt (by simp)
    have y5 := hf4.blk X5.out X5.out.lt (by simp)
    have y6 := hf4.blk B6.out B6.out.lt (by simp)
    have y7 := hf4.blk B7.out B7.out.lt (by simp)
    clear hf4 c0 c2 c4 c5 X2 X4 X5 B6 B7 HFA
    have d0 : w4.cell? ⟨p, 0, none⟩ = some (.int .i64 0) := y6.cell 0
    have d1 : w4.cell? ⟨p + 1, 0, none⟩ = some (.int .i64 0) := y7.cell 0
    have z0 : w4.frozen? ⟨p, 0, none⟩ = false := y6.free 0
    have z1 : w4.frozen? ⟨p + 1, 0, none⟩ = false := y7.free 0
    have HFA := Lib.hid hfb
    have X2 := Lib.hid y2
    have X4 := Lib.hid y4
    have X5 := Lib.hid y5
    have B6 := Lib.hid y6
    have B7 := Lib.hid y7
    clear y7 y6 y5 y4 y2 hfb
    go_upto_region 5 with fail
    refine namedC ?_; intro W5 hW5
    have pc := HPC.out
    have hc := HC.out
    have b6 : Blk W5 p 23 [.int .i64 pl, .int .i64 0] := by rw [hW5]; exact (B6.out.set 0 (.int .i64 pl)).other _ (by simp) _
    have b7 : Blk W5 (p + 1) 23 [.int .i64 ph, .int .i64 0] := by rw [hW5]; exact (B7.out.other ⟨p, 0, none⟩ (by simp) (.int .i64 pl)).set 0 (.int .i64 ph)
    have x2 : Blk W5 c 49 l.cells := by rw [hW5]; exact (X2.out.other ⟨p, 0, none⟩ (by simp; omega) (.int .i64 pl)).other ⟨p + 1, 0, none⟩ (by simp; omega) (.int .i64 ph)
    have x4 : Blk W5 (c + 1) 23 [.int .i64 0, .int .i64 0] := by rw [hW5]; exact (X4.out.other ⟨p, 0, none⟩ (by simp; omega) (.int .i64 pl)).other ⟨p + 1, 0, none⟩ (by simp; omega) (.int .i64 ph)
    have x5 : Blk W5 (c + 1 + 1) 23 [.int .i64 0, .int .i64 0] := by rw [hW5]; exact (X5.out.other ⟨p, 0, none⟩ (by simp; omega) (.int .i64 pl)).other ⟨p + 1, 0, none⟩ (by simp; omega) (.int .i64 ph)
    have hfa : Frm w.heap.size [] w W5 := by rw [hW5]; exact (HFA.out.setCell (p := ⟨p, 0, none⟩) (.inr (by simp; omega)) (.int .i64 pl)).setCell (p := ⟨p + 1, 0, none⟩) (.inr (by simp; omega)) (.int .i64 ph)
    clear hW5 d0 d1 z0 z1 B6 B7 X2 X4 X5 HFA hc pc
    have c1 : W5.cell? ⟨c, 1, none⟩ = some (.int .i64 l.fy) := x2.cell 1
    have c3 : W5.cell? ⟨c, 3, none⟩ = some (.int .i64 l.ty) := x2.cell 3
    have c4 : W5.cell? ⟨c, 4, none⟩ = some (.int .i64 l.start) := x2.cell 4
    have c5 : W5.cell? ⟨c, 5, none⟩ = some (.int .i64 l.arrive) := x2.cell 5
    have B6 := Lib.hid b6
    have B7 := Lib.hid b7
    have HFA := Lib.hid hfa
    have X2 := Lib.hid x2
    have X4 := Lib.hid x4
    have X5 := Lib.hid x5
    clear x5 x4 x2 hfa b7 b6
    go_wp2_with fail
    refine (part_any l.fy l.ty nn of W5 (by have := PF.out; omega) (by have := PT.out; omega) INN.out IOF.out).mono ?_; rintro e w6 ⟨rfl, hf4⟩
    rw [← HQL.out, ← HQH.out]
    have hfb := HFA.out.call hf4 HFA.out.size (by simp)
    have y4 := hf4.blk X4.out X4.out.lt (by simp)
    have y5 := hf4.blk X5.out X5.out.lt (by simp)
    have y6 := hf4.blk B6.out B6.out.lt (by simp)
    have y7 := hf4.blk B7.out B7.out.lt (by simp)
    clear hf4 c1 c3 c4 c5 X2 X4 X5 B6 B7 HFA
    have d0 : w6.cell? ⟨p, 1, none⟩ = some (.int .i64 0) := y6.cell 1
    have d1 : w6.cell? ⟨p + 1, 1, none⟩ = some (.int .i64 0) := y7.cell 1
    have z0 : w6.frozen? ⟨p, 1, none⟩ = false := y6.free 1
    have z1 : w6.frozen? ⟨p + 1, 1, none⟩ = false := y7.free 1
    have HFA := Lib.hid hfb
    have X4 := Lib.hid y4
    have X5 := Lib.hid y5
    have B6 := Lib.hid y6
    have B7 := Lib.hid y7
    clear y7 y6 y5 y4 hfb
    go_upto_region 6 with fail
    refine namedC ?_; intro W7 hW7
    have pc := HPC.out
    have hc := HC.out
    have b6 : Blk W7 p 23 [.int .i64 pl, .int .i64 ql] := by rw [hW7]; exact (B6.out.set 1 (.int .i64 ql)).other _ (by simp) _
    have b7 : Blk W7 (p + 1) 23 [.int .i64 ph, .int .i64 qh] := by rw [hW7]; exact (B7.out.other ⟨p, 1, none⟩ (by simp) (.int .i64 ql)).set 1 (.int .i64 qh)
    have x4 : Blk W7 (c + 1) 23 [.int .i64 0, .int .i64 0] := by rw [hW7]; exact (X4.out.other ⟨p, 1, none⟩ (by simp; omega) (.int .i64 ql)).other ⟨p + 1, 1, none⟩ (by simp; omega) (.int .i64 qh)
    have x5 : Blk W7 (c + 1 + 1) 23 [.int .i64 0, .int .i64 0] := by rw [hW7]; exact (X5.out.other ⟨p, 1, none⟩ (by simp; omega) (.int .i64 ql)).other ⟨p + 1, 1, none⟩ (by simp; omega) (.int .i64 qh)
    have hfa : Frm w.heap.size [] w W7 := by rw [hW7]; exact (HFA.out.setCell (p := ⟨p, 1, none⟩) (.inr (by simp; omega)) (.int .i64 ql)).setCell (p := ⟨p + 1, 1, none⟩) (.inr (by simp; omega)) (.int .i64 qh)
    clear hW7 d0 d1 z0 z1 B6 B7 X4 X5 HFA hc
    have c61 : c + 1 ≠ p := by omega
    have c62 : c + 1 ≠ p + 1 := by omega
    have c71 : c + 1 + 1 ≠ p := by omega
    have c72 : c + 1 + 1 ≠ p + 1 := by omega
    clear pc
    have B6 := Lib.hid b6
    have B7 := Lib.hid b7
    have HFA := Lib.hid hfa
    have X4 := Lib.hid x4
    have X5 := Lib.hid x5
    have C61 := Lib.hid c61
    have C62 := Lib.hid c62
    have C71 := Lib.hid c71
    have C72 := Lib.hid c72
    clear c72 c71 c62 c61 x5 x4 hfa b7 b6
    have hfx : ∀ V, (Frm w.heap.size [] w V ∧ Blk V p 23 [.int .i64 pl, .int .i64 ql] ∧ Blk V (p + 1) 23 [.int .i64 ph, .int .i64 qh]) → V.cell? ⟨p, 0, none⟩ = some (.int .i64 pl) ∧ V.cell? ⟨p, 1, none⟩ = some (.int .i64 ql) ∧ V.cell? ⟨p + 1, 0, none⟩ = some (.int .i64 ph) ∧ V.cell? ⟨p + 1, 1, none⟩ = some (.int .i64 qh) := fun V hV => ⟨hV.2.1.cell 0, hV.2.1.cell 1, hV.2.2.cell 0, hV.2.2.cell 1⟩
    have HFX := Lib.hid hfx
    clear hfx
    refine wp_region_leftL (fun V => (Frm w.heap.size [] w V ∧ Blk V p 23 [.int .i64 pl, .int .i64 ql] ∧ Blk V (p + 1) 23 [.int .i64 ph, .int .i64 qh])) 1000 (by kernel_rfl) ?_
    have HS := Lib.hid (show (Frm w.heap.size [] w W7.drew ∧ Blk W7.drew p 23 [.int .i64 pl, .int .i64 ql] ∧ Blk W7.drew (p + 1) 23 [.int .i64 ph, .int .i64 qh]) from ⟨HFA.out.drew, B6.out.drew, B7.out.drew⟩)
    have HX4 := Lib.hid X4.out.drew
    have HX5 := Lib.hid X5.out.drew
    refine LeftL.run (v := ?_) 0 rfl (by kernel_rfl) rfl (fun _ _ d _ _ h => by cases d <;> exact h) ?_ HS.out ?_; rotate_left; (· intro V hV; obtain ⟨q0, q1, q2, q3⟩ := HFX.out V hV; clear hV; go_simp; rfl); (intro K' hK'; go_simp; refine hK' _ ?_; clear hK' K')
    refine LeftL.run (v := ?_) 1 rfl (by kernel_rfl) rfl (fun _ _ d _ _ h => by cases d <;> exact h) ?_ HS.out ?_; rotate_left; (· intro V hV; obtain ⟨q0, q1, q2, q3⟩ := HFX.out V hV; clear hV; go_simp; rfl); (intro K' hK'; go_simp; refine hK' _ ?_; clear hK' K')
    refine LeftL.one 2 rfl (by kernel_rfl) ?_
    refine wpList_storeB (P := Tryd.prog) (ty := 23) (cs := [.int .i64 pl, .int .i64 ql]) rfl rfl HX4.out rfl rfl rfl I23.out (by simp [Value.oneCell']) ?_
    refine wpList_nil ?_
    have hs1 : (Frm w.heap.size [] w _ ∧ Blk _ p 23 [.int .i64 pl, .int .i64 ql] ∧ Blk _ (p + 1) 23 [.int .i64 ph, .int .i64 qh]) := ⟨HS.out.1.setRow (g := c + 1) (.inr (by have := HC.out; omega)) #[.int .i64 pl, .int .i64 ql], HS.out.2.1.rowO (g := c + 1) (cs := #[.int .i64 pl, .int .i64 ql]) C61.out, HS.out.2.2.rowO (g := c + 1) (cs := #[.int .i64 pl, .int .i64 ql]) C62.out⟩
    have z4 := HX4.out.row [.int .i64 pl, .int .i64 ql]
    have z5 := HX5.out.rowO (g := c + 1) (cs := #[.int .i64 pl, .int .i64 ql]) (by omega)
    clear HS HX4 HX5
    have HS := Lib.hid hs1
    have HX4 := Lib.hid z4
    have HX5 := Lib.hid z5
    clear z5 z4 hs1
    refine ⟨fun _ => HS.out, ?_⟩
    refine LeftL.one 3 rfl (by kernel_rfl) ?_
    refine wpList_storeB (P := Tryd.prog) (ty := 23) (cs := [.int .i64 ph, .int .i64 qh]) rfl rfl HX5.out rfl rfl rfl I23.out (by simp [Value.oneCell']) ?_
    refine wpList_nil ?_
    have hs1 : (Frm w.heap.size [] w _ ∧ Blk _ p 23 [.int .i64 pl, .int .i64 ql] ∧ Blk _ (p + 1) 23 [.int .i64 ph, .int .i64 qh]) := ⟨HS.out.1.setRow (g := c + 1 + 1) (.inr (by have := HC.out; omega)) #[.int .i64 ph, .int .i64 qh], HS.out.2.1.rowO (g := c + 1 + 1) (cs := #[.int .i64 ph, .int .i64 qh]) C71.out, HS.out.2.2.rowO (g := c + 1 + 1) (cs := #[.int .i64 ph, .int .i64 qh]) C72.out⟩
    have z4 := HX4.out.rowO (g := c + 1 + 1) (cs := #[.int .i64 ph, .int .i64 qh]) (by omega)
    have z5 := HX5.out.row [.int .i64 ph, .int .i64 qh]
    clear HS HX4 HX5
    have HS := Lib.hid hs1
    have HX4 := Lib.hid z4
    have HX5 := Lib.hid z5
    clear z5 z4 hs1
    refine ⟨fun _ => HS.out, ?_⟩
    refine LeftL.done (by kernel_rfl) ?_
    simp only [Act.put]
    go_wp2_with fail
    refine bodyPost_ret (results_68 (p4 := c + 1) (p5 := c + 1 + 1) rfl rfl HX4.out HX5.out) rfl ?_
    exact ⟨by rw [E1.out, E2.out], HS.out.1⟩

theorem results_28 {w : World} {tmps : Array Value} {p4 p5 : Nat} {x y u v z : Int} (h4 : tmps.getD 4 undef = .pointer (some ⟨p4, 0, none⟩)) (h5 : tmps.getD 5 undef = .pointer (some ⟨p5, 0, none⟩)) (h6 : tmps.getD 6 undef = .int .i64 z)
    (b4 : Blk w p4 23 [.int .i64 x, .int .i64 y]) (b5 : Blk w p5 23 [.int .i64 u, .int .i64 v]) : (results Tryd.f28 tmps).run Tryd.prog w = .ok (.tuple #[.agg #[.int .i64 x, .int .i64 y], .agg #[.int .i64 u, .int .i64 v], .int .i64 z]) w := by
  have l4 := loadVarB b4 (P := Tryd.prog) Tryd.underlying23 rfl (by kernel_rfl)
  have l5 := loadVarB b5 (P := Tryd.prog) Tryd.underlying23 rfl (by kernel_rfl)
  have e4 : tmps[4]?.getD undef = .pointer (some ⟨p4, 0, none⟩) := by simpa using h4
  have e5 : tmps[5]?.getD undef = .pointer (some ⟨p5, 0, none⟩) := by simpa using h5
  have e6 : tmps[6]?.getD undef = .int .i64 z := by simpa using h6
  simp [results, Tryd.results28, e4, e5, e6, asAddr, l4, l5]

set_option maxRecDepth 100000 in
set_option maxHeartbeats 4000000 in
theorem refWhere_any (ad : Option Addr) (b off n cap : Nat) (L : Nat → LC) (t : Int) (w : World) (hr : Rw w 8 ad b off n fun i => (L i).cells) :
    Calls Tryd.prog 28 #[.slice ad n cap, .int .i64 t] w fun e w' =>
      e = .returned (.tuple #[.agg #[.int .i64 (whereZ n L t).1.1, .int .i64 (whereZ n L t).1.2], .agg #[.int .i64 (whereZ n L t).2.1.1, .int .i64 (whereZ n L t).2.1.2], .int .i64 (whereZ n L t).2.2]) ∧ Frm w.heap.size [] w w' := by
  have hf0 := Tryd.func28
  have i23 : (Tryd.prog.info? 23).map (fun i => i.size) = some 2 := by kernel_rfl
  go_enter Tryd.func28, Tryd.ntmps28
  go_upto_region 1 with fail
  refine namedC ?_; intro W hW
  have hb4 : Blk W w.heap.size 23 [.int .i64 0, .int .i64 0] := by rw [hW]; exact (Blk.new w 23 [.int .i64 0, .int .i64 0]).alloc _
  have hb5 : Blk W (w.heap.size + 1) 23 [.int .i64 0, .int .i64 0] := by rw [hW]; exact Blk.new' _ 23 [.int .i64 0, .int .i64 0] (by simp)
  have hf : Frm w.heap.size [] w W := by rw [hW]; repeat (first | with_reducible exact Frm.refl _ _ _ | with_reducible refine Frm.drewN ?_ | with_reducible refine Frm.drew ?_ | ((with_reducible refine Frm.setCell' ?_ ?_); · first | (left; simp; done) | (right; simp; done) | (right; simp; omega)) | ((with_reducible refine Frm.alloc' ?_ ?_); · first | exact Nat.le_refl _ | (simp; done) | (simp; omega)))
  clear hW hf0
  obtain ⟨c, hc⟩ : ∃ c, c = w.heap.size := ⟨_, rfl⟩
  rw [← hc] at hb4 hb5 ⊢
  have hrW := hr.frm hf (Nat.le_refl _)
  have HR := Lib.hid hr
  have HB4 := Lib.hid hb4
  have HB5 := Lib.hid hb5
  have HF := Lib.hid hf
  have HC := Lib.hid hc
  have I23 := Lib.hid i23
  have HRW := Lib.hid hrW
  clear hrW i23 hc hf hb5 hb4 hr
  go_wp2_with fail
  refine (refLegs_any ad b off n cap L W HRW.out).mono ?_; rintro e w1 ⟨rfl, hf1⟩
  have hfa := HF.out.call hf1 HF.out.size (by simp)
  have d4 := hf1.blk HB4.out HB4.out.lt (by simp)
  have d5 := hf1.blk HB5.out HB5.out.lt (by simp)
  clear hf1
  have HFA := Lib.hid hfa
  have D4 := Lib.hid d4
  have D5 := Lib.hid d5
  clear d5 d4 hfa
  cases hlb : legsB n L
  · have e0 : whereZ n L t = ((0, 0), (0, 0), 2) := by unfold whereZ; rw [hlb]; rfl
    have HLB := Lib.hid hlb
    have E0 := Lib.hid e0
    clear e0 hlb
    go_wp2_with (with_reducible refine atStore 23 rfl ?_; refine stop_ ?_)
    refine go_on ?_
    refine wpList_storeB (P := Tryd.prog) (ty := 23) (cs := [.int .i64 0, .int .i64 0]) rfl rfl D4.out rfl rfl rfl I23.out (by simp [Value.oneCell']) ?_
    have m4 := D4.out.row [.int .i64 0, .int .i64 0]
    have m5 := D5.out.rowO (g := c) (cs := #[.int .i64 0, .int .i64 0]) (by omega)
    refine wpList_storeB (P := Tryd.prog) (ty := 23) (cs := [.int .i64 0, .int .i64 0]) rfl rfl m5 rfl rfl rfl I23.out (by simp [Value.oneCell']) ?_
    have z4 := m4.rowO (g := c + 1) (cs := #[.int .i64 0, .int .i64 0]) (by omega)
    have z5 := m5.row [.int .i64 0, .int .i64 0]
    have hzf := (HFA.out.setRow (g := c) (.inr (by have := HC.out; omega)) #[.int .i64 0, .int .i64 0]).setRow (g := c + 1) (.inr (by have := HC.out; omega)) #[.int .i64 0, .int .i64 0]
    clear m4 m5
    have Z4 := Lib.hid z4
    have Z5 := Lib.hid z5
    have HZF := Lib.hid hzf
    clear hzf z5 z4
    simp only [Act.put]
    go_wp2_with fail
    refine bodyPost_ret (results_28 (p4 := c) (p5 := c + 1) rfl rfl rfl Z4.out Z5.out) rfl ?_
    exact ⟨by rw [E0.out], HZF.out⟩
  · have HLB := Lib.hid hlb
    clear hlb
    go_wp2_with fail
    refine (by_any ad b off n cap L t w1 (HR.out.frm HFA.out (Nat.le_refl _)) HLB.out).mono ?_; rintro e w2 ⟨rfl, hf2⟩
    have hfb := HFA.out.call hf2 HFA.out.size (by simp)
    have x4 := hf2.blk D4.out D4.out.lt (by simp)
    have x5 := hf2.blk D5.out D5.out.lt (by simp)
    clear hf2 HFA D4 D5
    have HFA := Lib.hid hfb
    have D4 := Lib.hid x4
    have D5 := Lib.hid x5
    clear x5 x4 hfb
    cases hat : atI n L t with
    | none =>
      have e0 : whereZ n L t = ((0, 0), (0, 0), 7) := by unfold whereZ; rw [HLB.out, hat]; rfl
      simp only [byZ]
      have HAT := Lib.hid hat
      have E0 := Lib.hid e0
      clear e0 hat
      go_wp2_with (with_reducible refine atStore 23 rfl ?_; refine stop_ ?_)
      refine go_on ?_
      refine wpList_storeB (P := Tryd.prog) (ty := 23) (cs := [.int .i64 0, .int .i64 0]) rfl rfl D4.out rfl rfl rfl I23.out (by simp [Value.oneCell']) ?_
      have m4 := D4.out.row [.int .i64 0, .int .i64 0]
      have m5 := D5.out.rowO (g := c) (cs := #[.int .i64 0, .int .i64 0]) (by omega)
      refine wpList_storeB (P := Tryd.prog) (ty := 23) (cs := [.int .i64 0, .int .i64 0]) rfl rfl m5 rfl rfl rfl I23.out (by simp [Value.oneCell']) ?_
      have z4 := m4.rowO (g := c + 1) (cs := #[.int .i64 0, .int .i64 0]) (by omega)
      have z5 := m5.row [.int .i64 0, .int .i64 0]
      have hzf := (HFA.out.setRow (g := c) (.inr (by have := HC.out; omega)) #[.int .i64 0, .int .i64 0]).setRow (g := c + 1) (.inr (by have := HC.out; omega)) #[.int .i64 0, .int .i64 0]
      clear m4 m5
      have Z4 := Lib.hid z4
      have Z5 := Lib.hid z5
      have HZF := Lib.hid hzf
      clear hzf z5 z4
      simp only [Act.put]
      go_wp2_with fail
      refine bodyPost_ret (results_28 (p4 := c) (p5 := c + 1) rfl rfl rfl Z4.out Z5.out) rfl ?_
      exact ⟨by rw [E0.out], HZF.out⟩
    | some i =>
      have hin := atI_some hat
      obtain ⟨f, hlg⟩ : ∃ f, f = L i := ⟨_, rfl⟩
      have e0 : whereZ n L t = (lowZ f t, highZ f t, 0) := by unfold whereZ; rw [HLB.out, hat, hlg]; rfl
      have hok : LegOK f := by rw [hlg]; exact legs_ok HLB.out hin.1
      have hst : f.start ≤ t := by rw [hlg]; exact hin.2.1
      have had := HR.out.ad (by omega)
      subst had
      have hlo := (HR.out.frm HFA.out (Nat.le_refl _)).load (P := Tryd.prog) Tryd.underlying49 rfl hin.1 info49
      rw [← hlg] at hlo
      have hi0 : (i : Int) < (n : Int) := by omega
      have hi1 : ¬ (i : Int) < 0 := by omega
      simp only [byZ]
      clear hin
      have HAT := Lib.hid hat
      have E0 := Lib.hid e0
      have HOK := Lib.hid hok
      have HST := Lib.hid hst
      have HLG := Lib.hid hlg
      have HLO := Lib.hid hlo
      clear hlo hlg hst hok e0 hat
      go_wp2_with (with_reducible refine atLoad 49 rfl ?_; refine wpList_loadE rfl rfl rfl HLO.out ?_)
      refine (refSpot_any f t w2 HOK.out HST.out).mono ?_; rintro e w4 ⟨rfl, hf4⟩
      have hfd := HFA.out.call hf4 HFA.out.size (by simp)
      have u4 := hf4.blk D4.out D4.out.lt (by simp)
      have u5 := hf4.blk D5.out D5.out.lt (by simp)
      obtain ⟨lx, hlx⟩ : ∃ lx, lx = (lowZ f t).1 := ⟨_, rfl⟩
      obtain ⟨ly, hly⟩ : ∃ ly, ly = (lowZ f t).2 := ⟨_, rfl⟩
      obtain ⟨hx, hhx⟩ : ∃ hx, hx = (highZ f t).1 := ⟨_, rfl⟩
      obtain ⟨hy, hhy⟩ : ∃ hy, hy = (highZ f t).2 := ⟨_, rfl⟩
      rw [← hlx, ← hly, ← hhx, ← hhy]
      clear hf4 HFA D4 D5
      have HFA := Lib.hid hfd
      have D4 := Lib.hid u4
      have D5 := Lib.hid u5
      have HLX := Lib.hid hlx
      have HLY := Lib.hid hly
      have HHX := Lib.hid hhx
      have HHY := Lib.hid hhy
      clear hhy hhx hly hlx u5 u4 hfd
      go_wp2_with (with_reducible refine atStore 23 rfl ?_; refine stop_ ?_)
      refine go_on ?_
      have cw : c + 1 < w4.heap.size := D5.out.lt
      obtain ⟨p, hp⟩ : ∃ p, p = w4.heap.size := ⟨_, rfl⟩
      refine wpList_storeNew2 (zs := [.int .i64 0, .int .i64 0]) (cs := [.int .i64 lx, .int .i64 ly]) (ds := [.int .i64 hx, .int .i64 hy]) rfl rfl rfl rfl rfl rfl rfl rfl rfl rfl rfl rfl (by kernel_rfl) (by simp [Value.oneCell']) (by simp [Value.oneCell']) ?_
      intro W7 hf7 b6 b7
      rw [← hp] at b6 b7 cw ⊢
      have hfe := HFA.out.call hf7 HFA.out.size (by simp)
      have x4 := hf7.blk D4.out D4.out.lt (by simp)
      have x5 := hf7.blk D5.out D5.out.lt (by simp)
      have c61 : c ≠ p := by omega
      have c62 : c ≠ p + 1 := by omega
      have c71 : c + 1 ≠ p := by omega
      have c72 : c + 1 ≠ p + 1 := by omega
      clear hf7 HFA D4 D5 hp cw
      have HFA := Lib.hid hfe
      have X4 := Lib.hid x4
      have X5 := Lib.hid x5
      have B6 := Lib.hid b6
      have B7 := Lib.hid b7
      have C61 := Lib.hid c61
      have C62 := Lib.hid c62
      have C71 := Lib.hid c71
      have C72 := Lib.hid c72
      clear c72 c71 c62 c61 b7 b6 x5 x4 hfe
      go_upto_region 7 with fail
      have hfx : ∀ V, (Frm w.heap.size [] w V ∧ Blk V p 23 [.int .i64 lx, .int .i64 ly] ∧ Blk V (p + 1) 23 [.int .i64 hx, .int .i64 hy]) → V.cell? ⟨p, 0, none⟩ = some (.int .i64 lx) ∧ V.cell? ⟨p, 1, none⟩ = some (.int .i64 ly) ∧ V.cell? ⟨p + 1, 0, none⟩ = some (.int .i64 hx) ∧ V.cell? ⟨p + 1, 1, none⟩ = some (.int .i64 hy) := fun V hV => ⟨hV.2.1.cell 0, hV.2.1.cell 1, hV.2.2.cell 0, hV.2.2.cell 1⟩
      have HFX := Lib.hid hfx
      clear hfx
      refine wp_region_leftL (fun V => (Frm w.heap.size [] w V ∧ Blk V p 23 [.int .i64 lx, .int .i64 ly] ∧ Blk V (p + 1) 23 [.int .i64 hx, .int .i64 hy])) 1000 (by kernel_rfl) ?_
      have HS := Lib.hid (show (Frm w.heap.size [] w W7.drew ∧ Blk W7.drew p 23 [.int .i64 lx, .int .i64 ly] ∧ Blk W7.drew (p + 1) 23 [.int .i64 hx, .int .i64 hy]) from ⟨HFA.out.drew, B6.out.drew, B7.out.drew⟩)
      have HX4 := Lib.hid X4.out.drew
      have HX5 := Lib.hid X5.out.drew
      refine LeftL.run (v := ?_) 0 rfl (by kernel_rfl) rfl (fun _ _ d _ _ h => by cases d <;> exact h) ?_ HS.out ?_; rotate_left; (· intro V hV; obtain ⟨q0, q1, q2, q3⟩ := HFX.out V hV; clear hV; go_simp; rfl); (intro K' hK'; go_simp; refine hK' _ ?_; clear hK' K')
      refine LeftL.run (v := ?_) 1 rfl (by kernel_rfl) rfl (fun _ _ d _ _ h => by cases d <;> exact h) ?_ HS.out ?_; rotate_left; (· intro V hV; obtain ⟨q0, q1, q2, q3⟩ := HFX.out V hV; clear hV; go_simp; rfl); (intro K' hK'; go_simp; refine hK' _ ?_; clear hK' K')
      refine LeftL.one 2 rfl (by kernel_rfl) ?_
      refine wpList_storeB (P := Tryd.prog) (ty := 23) (cs := [.int .i64 lx, .int .i64 ly]) rfl rfl HX4.out rfl rfl rfl I23.out (by simp [Value.oneCell']) ?_
      refine wpList_nil ?_
      have hs1 : (Frm w.heap.size [] w _ ∧ Blk _ p 23 [.int .i64 lx, .int .i64 ly] ∧ Blk _ (p + 1) 23 [.int .i64 hx, .int .i64 hy]) := ⟨HS.out.1.setRow (g := c) (.inr (by have := HC.out; omega)) #[.int .i64 lx, .int .i64 ly], HS.out.2.1.rowO (g := c) (cs := #[.int .i64 lx, .int .i64 ly]) C61.out, HS.out.2.2.rowO (g := c) (cs := #[.int .i64 lx, .int .i64 ly]) C62.out⟩
      have z4 := HX4.out.row [.int .i64 lx, .int .i64 ly]
      have z5 := HX5.out.rowO (g := c) (cs := #[.int .i64 lx, .int .i64 ly]) (by omega)
      clear HS HX4 HX5
      have HS := Lib.hid hs1
      have HX4 := Lib.hid z4
      have HX5 := Lib.hid z5
      clear z5 z4 hs1
      refine ⟨fun _ => HS.out, ?_⟩
      refine LeftL.one 3 rfl (by kernel_rfl) ?_
      refine wpList_storeB (P := Tryd.prog) (ty := 23) (cs := [.int .i64 hx, .int .i64 hy]) rfl rfl HX5.out rfl rfl rfl I23.out (by simp [Value.oneCell']) ?_
      refine wpList_nil ?_
      have hs1 : (Frm w.heap.size [] w _ ∧ Blk _ p 23 [.int .i64 lx, .int .i64 ly] ∧ Blk _ (p + 1) 23 [.int .i64 hx, .int .i64 hy]) := ⟨HS.out.1.setRow (g := c + 1) (.inr (by have := HC.out; omega)) #[.int .i64 hx, .int .i64 hy], HS.out.2.1.rowO (g := c + 1) (cs := #[.int .i64 hx, .int .i64 hy]) C71.out, HS.out.2.2.rowO (g := c + 1) (cs := #[.int .i64 hx, .int .i64 hy]) C72.out⟩
      have z4 := HX4.out.rowO (g := c + 1) (cs := #[.int .i64 hx, .int .i64 hy]) (by omega)
      have z5 := HX5.out.row [.int .i64 hx, .int .i64 hy]
      clear HS HX4 HX5
      have HS := Lib.hid hs1
      have HX4 := Lib.hid z4
      have HX5 := Lib.hid z5
      clear z5 z4 hs1
      refine ⟨fun _ => HS.out, ?_⟩
      simp only [Act.put]
      refine LeftL.one 4 rfl (by kernel_rfl) ?_
      go_wp2_with fail
      first | refine ⟨fun _ => HS.out, ?_⟩ | refine ⟨HS.out, ?_⟩
      refine LeftL.done (by kernel_rfl) ?_
      go_wp2_with fail
      refine bodyPost_ret (results_28 (p4 := c) (p5 := c + 1) rfl rfl rfl HX4.out HX5.out) rfl ?_
      exact ⟨by rw [E0.out, HLX.out, HLY.out, HHX.out, HHY.out], HS.out.1⟩

set_option maxRecDepth 100000 in
set_option maxHeartbeats 4000000 in
theorem refLeft_any (u : UC) (s : ByteArray) (hnm : u.name = .string s) (ad : Option Addr) (b off n cap : Nat) (L : Nat → LC) (t : Int) (w : World) (hr : Rw w 8 ad b off n fun i => (L i).cells) :
    Calls Tryd.prog 30 #[.agg u.cells.toArray, .slice ad n cap, .int .i64 t] w fun e w' =>
      e = .returned (.tuple #[.int .i64 (leftR u s n L t).1, .int .i64 (leftR u s n L t).2]) ∧ Frm w.heap.size [] w w' := by
  have hf0 := Tryd.func30
  have HR := Lib.hid hr
  have HNM := Lib.hid hnm
  clear hnm hr
  go_enter Tryd.func30, Tryd.ntmps30
  go_upto_region 1 with fail
  refine namedC ?_; intro W hW
  have hb : Blk W w.heap.size 25 u.cells := by rw [hW]; exact Blk.new w 25 u.cells
  have hf : Frm w.heap.size [] w W := by rw [hW]; repeat (first | with_reducible exact Frm.refl _ _ _ | with_reducible refine Frm.drewN ?_ | with_reducible refine Frm.drew ?_ | ((with_reducible refine Frm.setCell' ?_ ?_); · first | (left; simp; done) | (right; simp; done) | (right; simp; omega)) | ((with_reducible refine Frm.alloc' ?_ ?_); · first | exact Nat.le_refl _ | (simp; done) | (simp; omega)))
  clear hW hf0
  have HX := Lib.hid (And.intro hb hf)
  clear hb hf
  have hsi := UC.info u
  have HSI := Lib.hid hsi
  clear hsi
  cases hu : unitB u s
  · have e0 : leftR u s n L t = (0, 2) := by unfold leftR; rw [hu]; rfl
    have HU := Lib.hid hu
    have E0 := Lib.hid e0
    clear e0 hu
    go_wp2_with (first | (with_reducible refine atLoad 25 rfl ?_; refine wpList_loadB (ty := 25) rfl rfl HX.out.1 rfl Tryd.underlying25 rfl HSI.out ?_) | (go_at_call 20; refine (refCheckUnit_any u s HNM.out _).mono ?_; rintro e w1 ⟨rfl, hf1⟩; simp only [HU.out]; replace HX := Lib.hid (boxNext HX.out hf1); clear hf1))
    refine bodyPost_ret (v := .tuple #[.int .i64 0, .int .i64 2]) (by simp [results, Tryd.results30, go_sem]) rfl ?_
    exact ⟨by rw [E0.out], HX.out.2⟩
  cases hl : legsB n L
  · have e0 : leftR u s n L t = (0, 2) := by unfold leftR; rw [hu, hl]; rfl
    have HU := Lib.hid hu
    have E0 := Lib.hid e0
    have HL := Lib.hid hl
    clear hl e0 hu
    go_wp2_with (first | (with_reducible refine atLoad 25 rfl ?_; refine wpList_loadB (ty := 25) rfl rfl HX.out.1 rfl Tryd.underlying25 rfl HSI.out ?_) | (go_at_call 20; refine (refCheckUnit_any u s HNM.out _).mono ?_; rintro e w1 ⟨rfl, hf1⟩; simp only [HU.out]; replace HX := Lib.hid (boxNext HX.out hf1); clear hf1) | (go_at_call 36; refine (refLegs_any ad b off n cap L _ (HR.out.frm HX.out.2 (Nat.le_refl _))).mono ?_; rintro e w1 ⟨rfl, hf1⟩; simp only [HL.out]; replace HX := Lib.hid (boxNext HX.out hf1); clear hf1))
    refine bodyPost_ret (v := .tuple #[.int .i64 0, .int .i64 2]) (by simp [results, Tryd.results30, go_sem]) rfl ?_
    exact ⟨by rw [E0.out], HX.out.2⟩
  have hok := uok_of hu
  have HU := Lib.hid hu
  have HL := Lib.hid hl
  have HOK := Lib.hid hok
  clear hok hl hu
  go_upto_region 3 with (first | (with_reducible refine atLoad 25 rfl ?_; refine wpList_loadB (ty := 25) rfl rfl HX.out.1 rfl Tryd.underlying25 rfl HSI.out ?_) | (go_at_call 20; refine (refCheckUnit_any u s HNM.out _).mono ?_; rintro e w1 ⟨rfl, hf1⟩; simp only [HU.out]; replace HX := Lib.hid (boxNext HX.out hf1); clear hf1) | (go_at_call 36; refine (refLegs_any ad b off n cap L _ (HR.out.frm HX.out.2 (Nat.le_refl _))).mono ?_; rintro e w1 ⟨rfl, hf1⟩; simp only [HL.out]; replace HX := Lib.hid (boxNext HX.out hf1); clear hf1))
  go_wp2_with fail
  refine (by_any ad b off n cap L t _ (HR.out.frm HX.out.2 (Nat.le_refl _)) HL.out).mono ?_; rintro e w2 ⟨rfl, hf2⟩
  replace HX := Lib.hid (boxNext HX.out hf2)
  clear hf2
  cases hat : atI n L t with
  | none =>
    have e0 : leftR u s n L t = (0, 7) := by unfold leftR; rw [HU.out, HL.out, hat]; rfl
    simp only [byZ]
    have HAT := Lib.hid hat
    have E0 := Lib.hid e0
    clear e0 hat
    go_wp2_with fail
    refine bodyPost_ret (v := .tuple #[.int .i64 0, .int .i64 7]) (by simp [results, Tryd.results30, go_sem]) rfl ?_
    exact ⟨by rw [E0.out], HX.out.2⟩
  | some i =>
    have hin := atI_some hat
    obtain ⟨f, hlg⟩ : ∃ f, f = L i := ⟨_, rfl⟩
    have e0 : leftR u s n L t = (leftF f u.burn t, 0) := by unfold leftR; rw [HU.out, HL.out, hat, hlg]; rfl
    have hlk : LegOK f := by rw [hlg]; exact legs_ok HL.out hin.1
    have hst : f.start ≤ t ∧ t ≤ f.leave := by rw [hlg]; exact hin.2
    have i1 := hlk.start
    have i2 := hlk.arrive
    have i3 := hlk.leave
    have i4 := hlk.fuel
    have i5 := HOK.out.burn
    obtain ⟨d, hd⟩ : ∃ d, d = f.leave - t := ⟨_, rfl⟩
    obtain ⟨m, hm⟩ : ∃ m, m = u.burn * d := ⟨_, rfl⟩
    have hm0 : 0 ≤ m := by rw [hm]; exact Int.mul_nonneg i5.1 (by omega)
    have hm1 : m ≤ 1048576 * 1073741824 := by rw [hm]; exact Int.mul_le_mul i5.2 (by omega) (by omega) (by omega)
    have ww1 : IntKind.i64.wrap (f.leave - t) = d := by rw [hd]; exact IntWalk.i64_in _ (by omega)
    have ww2 : IntKind.i64.wrap (u.burn * d) = m := by rw [← hm]; exact IntWalk.i64_in _ (by omega)
    have ww3 : IntKind.i64.wrap (m.tdiv 3600) = m / 3600 := by rw [Int.tdiv_eq_ediv_of_nonneg hm0]; exact IntWalk.i64_in _ (by omega)
    have ww4 : IntKind.i64.wrap (f.fuel + m / 3600) = f.fuel + m / 3600 := IntWalk.i64_in _ (by omega)
    have hq : leftF f u.burn t = f.fuel + m / 3600 := by unfold leftF; rw [hm, hd]
    have hrw := HR.out.frm HX.out.2 (Nat.le_refl _)
    have had := HR.out.ad (by omega)
    subst had
    have hin1 := hin.1
    have hi0 : (i : Int) < (n : Int) := by omega
    have hi1 : ¬ (i : Int) < 0 := by omega
    have hfx : ∀ V, Frm w2.heap.size [] w2 V → V.cell? ⟨b, off + i * 8 + 7, none⟩ = some (.int .i64 f.fuel) ∧ V.cell? ⟨b, off + i * 8 + 6, none⟩ = some (.int .i64 f.leave) ∧ V.cell? ⟨w.heap.size, 3, none⟩ = some (.int .i64 u.burn) := fun V hV => by
      have h := hrw.frm hV (Nat.le_refl _)
      have hb := hV.blk HX.out.1 HX.out.1.lt (by simp)
      exact ⟨by rw [hlg]; exact h.at_ i hin1 7 _ rfl, by rw [hlg]; exact h.at_ i hin1 6 _ rfl, hb.cell 3⟩
    simp only [byZ]
    clear hin hd hm hst hm1
    have HFX := Lib.hid hfx
    have HIN1 := Lib.hid hin1
    have HRW := Lib.hid hrw
    have HM0 := Lib.hid hm0
    have HAT := Lib.hid hat
    have E0 := Lib.hid e0
    have HLG := Lib.hid hlg
    have HLK := Lib.hid hlk
    have HQ := Lib.hid hq
    have I1 := Lib.hid i1
    have I2 := Lib.hid i2
    have I3 := Lib.hid i3
    have I4 := Lib.hid i4
    have I5 := Lib.hid i5
    clear i5 i4 i3 i2 i1 hq hlk hlg e0 hat hm0 hrw hin1 hfx
    go_upto_region 6 with fail
    refine wp_region_leftL (fun V => Frm w2.heap.size [] w2 V) 1000 (by kernel_rfl) ?_
    have hS : Frm w2.heap.size [] w2 w2.drew := (Frm.refl _ _ w2).drew
    have HS := Lib.hid hS
    clear hS
    refine LeftL.run (v := ?_) 0 rfl (by kernel_rfl) rfl (fun _ _ d _ _ h => by cases d <;> exact h) ?_ HS.out ?_; rotate_left; (· intro V hV; obtain ⟨q0, q1, q2⟩ := HFX.out V hV; clear hV; go_simp; rfl); (intro K' hK'; go_simp; refine hK' _ ?_; clear hK' K')
    refine LeftL.run (v := ?_) 1 rfl (by kernel_rfl) rfl (fun _ _ d _ _ h => by cases d <;> exact h) ?_ HS.out ?_; rotate_left; (· intro V hV; obtain ⟨q0, q1, q2⟩ := HFX.out V hV; clear hV; go_simp; rfl); (intro K' hK'; go_simp; refine hK' _ ?_; clear hK' K')
    refine LeftL.run (v := ?_) 2 rfl (by kernel_rfl) rfl (fun _ _ d _ _ h => by cases d <;> exact h) ?_ HS.out ?_; rotate_left; (· intro V hV; obtain ⟨q0, q1, q2⟩ := HFX.out V hV; clear hV; go_simp; rfl); (intro K' hK'; go_simp; refine hK' _ ?_; clear hK' K')
    refine LeftL.run (v := ?_) 3 rfl (by kernel_rfl) rfl (fun _ _ d _ _ h => by cases d <;> exact h) ?_ HS.out ?_; rotate_left; (· intro V hV; obtain ⟨q0, q1, q2⟩ := HFX.out V hV; clear hV; go_simp; rfl); (intro K' hK'; go_simp; refine hK' _ ?_; clear hK' K')
    refine LeftL.run (v := ?_) 4 rfl (by kernel_rfl) rfl (fun _ _ d _ _ h => by cases d <;> exact h) ?_ HS.out ?_; rotate_left; (· intro V hV; obtain ⟨q0, q1, q2⟩ := HFX.out V hV; clear hV; go_simp; rfl); (intro K' hK'; go_simp; refine hK' _ ?_; clear hK' K')
    refine LeftL.run (v := ?_) 5 rfl (by kernel_rfl) rfl (fun _ _ d _ _ h => by cases d <;> exact h) ?_ HS.out ?_; rotate_left; (· intro V hV; obtain ⟨q0, q1, q2⟩ := HFX.out V hV; clear hV; go_simp; rfl); (intro K' hK'; go_simp; refine hK' _ ?_; clear hK' K')
    refine LeftL.run (v := ?_) 6 rfl (by kernel_rfl) rfl (fun _ _ d _ _ h => by cases d <;> exact h) ?_ HS.out ?_; rotate_left; (· intro V hV; obtain ⟨q0, q1, q2⟩ := HFX.out V hV; clear hV; go_simp; rfl); (intro K' hK'; go_simp; refine hK' _ ?_; clear hK' K')
    refine LeftL.run (v := ?_) 7 rfl (by kernel_rfl) rfl (fun _ _ d _ _ h => by cases d <;> exact h) ?_ HS.out ?_; rotate_left; (· intro V hV; obtain ⟨q0, q1, q2⟩ := HFX.out V hV; clear hV; go_simp; rfl); (intro K' hK'; go_simp; refine hK' _ ?_; clear hK' K')
    refine LeftL.run (v := ?_) 8 rfl (by kernel_rfl) rfl (fun _ _ d _ _ h => by cases d <;> exact h) ?_ HS.out ?_; rotate_left; (· intro V hV; obtain ⟨q0, q1, q2⟩ := HFX.out V hV; clear hV; go_simp; rfl); (intro K' hK'; go_simp; refine hK' _ ?_; clear hK' K')
    refine LeftL.run (v := ?_) 9 rfl (by kernel_rfl) rfl (fun _ _ d _ _ h => by cases d <;> exact h) ?_ HS.out ?_; rotate_left; (· intro V hV; obtain ⟨q0, q1, q2⟩ := HFX.out V hV; clear hV; go_simp; rfl); (intro K' hK'; go_simp; refine hK' _ ?_; clear hK' K')
    refine LeftL.run (v := ?_) 10 rfl (by kernel_rfl) rfl (fun _ _ d _ _ h => by cases d <;> exact h) ?_ HS.out ?_; rotate_left; (· intro V hV; obtain ⟨q0, q1, q2⟩ := HFX.out V hV; clear hV; go_simp; rfl); (intro K' hK'; go_simp; refine hK' _ ?_; clear hK' K')
    refine LeftL.run (v := ?_) 11 rfl (by kernel_rfl) rfl (fun _ _ d _ _ h => by cases d <;> exact h) ?_ HS.out ?_; rotate_left; (· intro V hV; obtain ⟨q0, q1, q2⟩ := HFX.out V hV; clear hV; go_simp; rfl); (intro K' hK'; go_simp; refine hK' _ ?_; clear hK' K')
    refine LeftL.run (v := ?_) 12 rfl (by kernel_rfl) rfl (fun _ _ d _ _ h => by cases d <;> exact h) ?_ HS.out ?_; rotate_left; (· intro V hV; obtain ⟨q0, q1, q2⟩ := HFX.out V hV; clear hV; go_simp; rfl); (intro K' hK'; go_simp; refine hK' _ ?_; clear hK' K')
    refine LeftL.run (v := ?_) 13 rfl (by kernel_rfl) rfl (fun _ _ d _ _ h => by cases d <;> exact h) ?_ HS.out ?_; rotate_left; (· intro V hV; obtain ⟨q0, q1, q2⟩ := HFX.out V hV; clear hV; go_simp; rfl); (intro K' hK'; go_simp; refine hK' _ ?_; clear hK' K')
    refine LeftL.run (v := ?_) 14 rfl (by kernel_rfl) rfl (fun _ _ d _ _ h => by cases d <;> exact h) ?_ HS.out ?_; rotate_left; (· intro V hV; obtain ⟨q0, q1, q2⟩ := HFX.out V hV; clear hV; go_simp; rfl); (intro K' hK'; go_simp; refine hK' _ ?_; clear hK' K')
    refine LeftL.run (v := ?_) 15 rfl (by kernel_rfl) rfl (fun _ _ d _ _ h => by cases d <;> exact h) ?_ HS.out ?_; rotate_left; (· intro V hV; obtain ⟨q0, q1, q2⟩ := HFX.out V hV; clear hV; go_simp; rfl); (intro K' hK'; go_simp; refine hK' _ ?_; clear hK' K')
    refine LeftL.run (v := ?_) 16 rfl (by kernel_rfl) rfl (fun _ _ d _ _ h => by cases d <;> exact h) ?_ HS.out ?_; rotate_left; (· intro V hV; obtain ⟨q0, q1, q2⟩ := HFX.out V hV; clear hV; go_simp; rfl); (intro K' hK'; go_simp; refine hK' _ ?_; clear hK' K')
    refine LeftL.one 17 rfl (by kernel_rfl) ?_
    go_wp2_with fail
    first | refine ⟨fun _ => HS.out, ?_⟩ | refine ⟨HS.out, ?_⟩
    refine LeftL.one 18 rfl (by kernel_rfl) ?_
    go_wp2_with fail
    first | refine ⟨fun _ => HS.out, ?_⟩ | refine ⟨HS.out, ?_⟩
    refine LeftL.done (by kernel_rfl) ?_
    go_wp2_with fail
    refine bodyPost_ret (v := .tuple #[.int .i64 (f.fuel + m / 3600), .int .i64 0]) (by simp [results, Tryd.results30, go_sem]) rfl ?_
    exact ⟨by rw [E0.out, HQ.out], HX.out.2.call HS.out HX.out.2.size (by simp)⟩
end Go.Proofs.YtghkfopcjdkieaaDoor
