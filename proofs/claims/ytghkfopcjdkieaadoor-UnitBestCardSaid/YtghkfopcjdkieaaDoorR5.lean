/-
  A leg, by the document.
-/
import Derived.Test.YtghkfopcjdkieaaDoorR4
namespace Go.Proofs.YtghkfopcjdkieaaDoor
set_option linter.all false
set_option linter.unusedSimpArgs false
set_option linter.unusedVariables false
open Go.RowKit

/-- A guarded load, by what the memory answers. -/
theorem wpList_loadGE {P : Program} {ops : Array Oper} {rest : List Oper} {o : Oper} {a : Act} {w : World} {Q : Exit → Act → World → Prop} (hw : Region.wanted o (yielded ops a.tmps) = true) {ty : TypeId} {x : Operand} (ho : o.op = .load ty x)
    {ad : Addr} {v : Value} (hx : a.eval x = .pointer (some ad)) (hl : (loadVar ty ad).run P w = .ok v w)
    (h : wpList P ops Q rest (a.put o.dst v) w) : wpList P ops Q (o :: rest) a w := by
  refine wpList_step fun K hK => ?_
  rw [if_pos hw]
  unfold Oper.wp
  have hr : (execOp a.eval o).run P w = .ok (.value v) w := by
    unfold execOp
    simp only [ho, hx, Instr.loadAt, Instr.sureAddr, Sem.run_bind, Sem.run_pure, Result.andThen_ok, hl]
  rw [hr]
  exact hK _ _ h
/-- Where a unit is, of the document. -/
def goneC (since : Int) (g : GC) : List Value := [.int .i64 g.x, .int .i64 g.y, .int .i64 since, .int .i64 g.time, .int .i64 g.fuel]
theorem info107 : (Tryd.prog.info? 107).map (fun i => i.size) = some 5 := by kernel_rfl
def zero49 : List Value := [.int .i64 0, .int .i64 0, .int .i64 0, .int .i64 0, .int .i64 0, .int .i64 0, .int .i64 0, .int .i64 0]
/-- What the document's 'leg' reads. -/
structure LegEnv (V : World) (c : Nat) (u : UC) (since : Int) (g : GC) (wy : WC) (ad : Option Addr) (b off n : Nat) (S : Nat → FC) : Prop where
  u : Blk V c 25 u.cells
  g : Blk V (c + 1) 107 (goneC since g)
  y : Blk V (c + 1 + 1) 51 wy.cells
  z : Blk V (c + 1 + 1 + 1) 49 zero49
  r : Rw V 8 ad b off n fun i => (S i).cells
theorem LegEnv.frm {V V' : World} {c : Nat} {u : UC} {since : Int} {g : GC} {wy : WC} {ad : Option Addr} {b off n : Nat} {S : Nat → FC} (h : LegEnv V c u since g wy ad b off n S) (hf : Frm V.heap.size [] V V') : LegEnv V' c u since g wy ad b off n S :=
  ⟨hf.blk h.u h.u.lt (by simp), hf.blk h.g h.g.lt (by simp), hf.blk h.y h.y.lt (by simp), hf.blk h.z h.z.lt (by simp), h.r.frm hf (Nat.le_refl _)⟩

set_option maxRecDepth 100000 in
set_option maxHeartbeats 8000000 in
theorem refLeg_any (u : UC) (since : Int) (g : GC) (wy : WC) (ad : Option Addr) (b off n cap : Nat) (S : Nat → FC) (w : World) (hr : Rw w 8 ad b off n fun i => (S i).cells) (hS : ∀ i, i < n → frontB (S i) = true)
    (hu : UOK u) (hg : GOK g) (hw : wayB wy = true) (hs : 0 ≤ since ∧ since ≤ 1073741824) :
    Calls Tryd.prog 78 #[.agg u.cells.toArray, .agg (goneC since g).toArray, .agg wy.cells.toArray, .slice ad n cap] w fun e w' => e = .returned (.tuple #[.agg (legOf u g wy).cells.toArray, .int .i64 (whyOf u n S since g wy)]) ∧ Frm w.heap.size [] w w' := by
  have hf0 := Tryd.func78
  obtain ⟨i1, i2, i3, i4, i5, i6⟩ := leg_in hu hg hw
  have hwy := wayB_in hw
  have hgt := hg.time
  have hgf := hg.fuel
  have hur := hu.reserve
  have huh := hu.hours
  obtain ⟨tk, htk⟩ : ∃ tk, tk = takesZ u.speed g.x g.y wy.tx wy.ty := ⟨_, rfl⟩
  obtain ⟨ar, har⟩ : ∃ ar, ar = arriveZ u g wy := ⟨_, rfl⟩
  obtain ⟨lv, hlv⟩ : ∃ lv, lv = leaveZ u g wy := ⟨_, rfl⟩
  obtain ⟨bz, hbz⟩ : ∃ bz, bz = burnsZ u.burn (lv - g.time) := ⟨_, rfl⟩
  obtain ⟨bk, hbk⟩ : ∃ bk, bk = backOf u wy := ⟨_, rfl⟩
  obtain ⟨bb, hbb⟩ : ∃ bb, bb = burnsZ u.burn bk := ⟨_, rfl⟩
  obtain ⟨lf, hlf⟩ : ∃ lf, lf = leftZ u g wy := ⟨_, rfl⟩
  have e1 : g.time + tk = ar := by rw [har, htk]; rfl
  have e2 : ar + wy.stay = lv := by rw [hlv, har]; rfl
  have e3 : g.fuel - bz = lf := by rw [hlf, hbz, hlv]; rfl
  have hleg : legOf u g wy = ⟨g.x, g.y, wy.tx, wy.ty, g.time, ar, lv, lf⟩ := by rw [har, hlv, hlf]; rfl
  rw [← htk] at i1
  rw [← hbk] at i2
  rw [← har] at i3
  rw [← hlv] at i4 i5
  rw [← hlf] at i6
  have i7 := burnsZ_in hu.burn i5
  rw [← hbz] at i7
  have i8 := burnsZ_in hu.burn (t := bk) (by omega)
  have ibk : 0 ≤ bk ∧ bk ≤ 1000000000000 := by omega
  rw [← hbb] at i8
  have v1 : IntKind.i64.wrap (g.time + tk) = ar := by rw [e1]; exact IntWalk.i64_in _ (by omega)
  have v2 : IntKind.i64.wrap (ar + wy.stay) = lv := by rw [e2]; exact IntWalk.i64_in _ (by omega)
  have v3 : IntKind.i64.wrap (lv - g.time) = lv - g.time := IntWalk.i64_in _ (by omega)
  have v4 : IntKind.i64.wrap (g.fuel - bz) = lf := by rw [e3]; exact IntWalk.i64_in _ (by omega)
  have v5 : IntKind.i64.wrap (lv + bk) = lv + bk := IntWalk.i64_in _ (by omega)
  have v6 : IntKind.i64.wrap (lf - bb) = lf - bb := IntWalk.i64_in _ (by omega)
  have v7 : IntKind.i64.wrap (lv + bk - since) = lv + bk - since := IntWalk.i64_in _ (by omega)
  have x2 : wrap64 (ar + wy.stay) = lv := by rw [e2]; exact IntWalk.wrap64_in _ (by omega)
  have x5 : wrap64 (lv + bk) = lv + bk := IntWalk.wrap64_in _ (by omega)
  have x7 : wrap64 (lv + bk - since) = lv + bk - since := IntWalk.wrap64_in _ (by omega)
  have il : g.time ≤ lv ∧ lv ≤ lv + bk := by omega
  have hwhy : whyOf u n S since g wy = if 1073741824 < lv + bk then 4 else if lf - bb < u.reserve then 1 else if u.hours < lv + bk - since then 2
      else if badB u n S g.x g.y wy.tx wy.ty g.time lv = true then 3 else if badB u n S wy.tx wy.ty u.bx u.by_ lv (lv + bk) = true then 3 else 0 := by
    have e5 : homeZ (legOf u g wy) (backOf u wy) = lv + bk := by rw [hlv, hbk]; rfl
    have e6 : roughB u n S (legOf u g wy) (backOf u wy) = (badB u n S g.x g.y wy.tx wy.ty g.time lv || badB u n S wy.tx wy.ty u.bx u.by_ lv (lv + bk)) := by
      unfold roughB
      rw [e5, hleg]
    unfold whyOf
    rw [e5, e6, ← hlf, ← hbk, ← hbb]
    cases badB u n S g.x g.y wy.tx wy.ty g.time lv <;> cases badB u n S wy.tx wy.ty u.bx u.by_ lv (lv + bk) <;> rfl
  obtain ⟨A, hA⟩ : ∃ A, A = badB u n S g.x g.y wy.tx wy.ty g.time lv := ⟨_, rfl⟩
  obtain ⟨B, hBB⟩ : ∃ B, B = badB u n S wy.tx wy.ty u.bx u.by_ lv (lv + bk) := ⟨_, rfl⟩
  rw [← hA, ← hBB] at hwhy
  rw [hwhy, hleg]
  clear hwhy hleg i1 i2 i3 i6 i7 i8 e1 e2 e3 hgt hgf hur huh hs
  have HR := Lib.hid hr
  have HSK := Lib.hid hS
  have HU := Lib.hid hu
  have HG := Lib.hid hg
  have HW := Lib.hid hw
  have HWY := Lib.hid hwy
  have HTK := Lib.hid htk
  have HAR := Lib.hid har
  have HLV := Lib.hid hlv
  have HBZ := Lib.hid hbz
  have HBK := Lib.hid hbk
  have HBB := Lib.hid hbb
  have HLF := Lib.hid hlf
  have I4 := Lib.hid i4
  have I5 := Lib.hid i5
  have IL := Lib.hid il
  have IBK := Lib.hid ibk
  have HA := Lib.hid hA
  have HBBB := Lib.hid hBB
  clear hBB hA ibk il i5 i4 hlf hbb hbk hbz hlv har htk hwy hw hg hu hS hr
  go_enter Tryd.func78, Tryd.ntmps78
  go_upto_region 1 with fail
  refine namedC ?_; intro W hW
  obtain ⟨c, hc⟩ : ∃ c, c = w.heap.size := ⟨_, rfl⟩
  have hf : Frm w.heap.size [] w W := by rw [hW]; repeat (first | with_reducible exact Frm.refl _ _ _ | with_reducible refine Frm.drewN ?_ | with_reducible refine Frm.drew ?_ | ((with_reducible refine Frm.setCell' ?_ ?_); · first | (left; simp; done) | (right; simp; done) | (right; simp; omega)) | ((with_reducible refine Frm.alloc' ?_ ?_); · first | exact Nat.le_refl _ | (simp; done) | (simp; omega)))
  have henv : LegEnv W c u since g wy ad b off n S := by
    refine ⟨?_, ?_, ?_, ?_, HR.out.frm hf (Nat.le_refl _)⟩
    · rw [hW, hc]; exact (((Blk.new w 25 u.cells).alloc _).alloc _).alloc _
    · rw [hW, hc]; exact ((Blk.new' _ 107 (goneC since g) (by simp)).alloc _).alloc _
    · rw [hW, hc]; exact (Blk.new' _ 51 wy.cells (by simp)).alloc _
    · rw [hW, hc]; exact Blk.new' _ 49 zero49 (by simp)
  clear hW hf0
  rw [← hc]
  have a0 : W.cell? ⟨c + 1, 0, none⟩ = some (.int .i64 g.x) := henv.g.cell 0
  have a1 : W.cell? ⟨c + 1, 1, none⟩ = some (.int .i64 g.y) := henv.g.cell 1
  have a3 : W.cell? ⟨c + 1, 3, none⟩ = some (.int .i64 g.time) := henv.g.cell 3
  have b0 : W.cell? ⟨c + 1 + 1, 0, none⟩ = some (.int .i64 wy.tx) := henv.y.cell 0
  have b1 : W.cell? ⟨c + 1 + 1, 1, none⟩ = some (.int .i64 wy.ty) := henv.y.cell 1
  have HF := Lib.hid hf
  have HENV := Lib.hid henv
  have HC := Lib.hid hc
  clear hc henv hf
  go_wp2_with (with_reducible refine atStore 49 rfl ?_; refine stop_ ?_)
  refine go_on ?_
  obtain ⟨k, hk⟩ : ∃ k, k = W.heap.size := ⟨_, rfl⟩
  have hk3 : c + 1 + 1 + 1 < k := by rw [hk]; exact HENV.out.z.lt
  refine wpList_storeNew (P := Tryd.prog) (cs := LC.cells ⟨g.x, g.y, wy.tx, wy.ty, g.time, 0, 0, 0⟩) rfl rfl rfl rfl rfl info49 (by simp [LC.cells, Value.oneCell']) ?_
  intro W1 hs1 hb1 hz1
  clear a0 a1 a3 b0 b1 hz1
  rw [← hk] at hb1 ⊢
  have hkW : W.heap.size ≤ k := by rw [hk]; exact Nat.le_refl _
  clear hk
  have hi49 : (Tryd.prog.info? 49).map (fun i => i.size) = some 8 := info49
  have hlu : ∀ V, Frm W.heap.size [] W V → (loadVar 25 ⟨c, 0, none⟩).run Tryd.prog V = .ok (.agg u.cells.toArray) V := fun V hV => loadVarB (HENV.out.frm hV).u (P := Tryd.prog) Tryd.underlying25 rfl info25
  have hft : ∀ V, Frm W.heap.size [] W V → Frm w.heap.size [] w V := fun V hV => HF.out.call hV HF.out.size (by simp)
  have HK3 := Lib.hid hk3
  have HKW := Lib.hid hkW
  have HLU0 := Lib.hid hlu
  have HI49 := Lib.hid hi49
  have HFT := Lib.hid hft
  clear hft hi49 hlu hkW hk3
  have hfx : ∀ V, Frm W1.heap.size [] W1 V → V.cell? ⟨c + 1, 0, none⟩ = some (.int .i64 g.x) ∧ V.cell? ⟨c + 1, 1, none⟩ = some (.int .i64 g.y) ∧ V.cell? ⟨c + 1 + 1, 0, none⟩ = some (.int .i64 wy.tx) ∧ V.cell? ⟨c + 1 + 1, 1, none⟩ = some (.int .i64 wy.ty) ∧ V.cell? ⟨k, 4, none⟩ = some (.int .i64 g.time) := fun V hV => by
    have e := HENV.out.frm (hs1.call hV hs1.size (by simp))
    have q := hV.blk hb1 hb1.lt (by simp)
    exact ⟨e.g.cell 0, e.g.cell 1, e.y.cell 0, e.y.cell 1, q.cell 4⟩
  have hlu : ∀ V, Frm W1.heap.size [] W1 V → (loadVar 25 ⟨c, 0, none⟩).run Tryd.prog V = .ok (.agg u.cells.toArray) V := fun V hV => HLU0.out V (hs1.call hV hs1.size (by simp))
  have HS1 := Lib.hid hs1
  have HB1 := Lib.hid hb1
  have HFX := Lib.hid hfx
  have HLU := Lib.hid hlu
  clear hlu hfx hb1 hs1
  go_upto_region 2 with fail
  refine wp_region_leftL (fun V => Frm W1.heap.size [] W1 V) 10 (by kernel_rfl) ?_
  have hS : Frm W1.heap.size [] W1 W1.drew := (Frm.refl _ _ W1).drew
  have HS := Lib.hid hS
  clear hS
  refine LeftL.run (v := ?_) 0 rfl (by kernel_rfl) rfl (fun _ _ d _ _ h => by cases d <;> exact h) ?_ HS.out ?_; rotate_left; (· intro V hV; obtain ⟨q0, q1, q2, q3, q4⟩ := HFX.out V hV; clear hV; go_simp; rfl); (intro K' hK'; go_simp; refine hK' _ ?_; clear hK' K')
  refine LeftL.run (v := ?_) 1 rfl (by kernel_rfl) rfl (fun _ _ d _ _ h => by cases d <;> exact h) ?_ HS.out ?_; rotate_left; (· intro V hV; obtain ⟨q0, q1, q2, q3, q4⟩ := HFX.out V hV; clear hV; go_simp; rfl); (intro K' hK'; go_simp; refine hK' _ ?_; clear hK' K')
  refine LeftL.take 2 rfl (by kernel_rfl) (fun _ _ d _ _ h => by cases d <;> exact h) (yields_loadE (ty := 25) rfl rfl rfl (HLU.out)) HS.out ?_; (intro K' hK'; go_simp; refine hK' _ ?_; clear hK' K')
  refine LeftL.run (v := ?_) 3 rfl (by kernel_rfl) rfl (fun _ _ d _ _ h => by cases d <;> exact h) ?_ HS.out ?_; rotate_left; (· intro V hV; obtain ⟨q0, q1, q2, q3, q4⟩ := HFX.out V hV; clear hV; go_simp; rfl); (intro K' hK'; go_simp; refine hK' _ ?_; clear hK' K')
  refine LeftL.run (v := ?_) 4 rfl (by kernel_rfl) rfl (fun _ _ d _ _ h => by cases d <;> exact h) ?_ HS.out ?_; rotate_left; (· intro V hV; obtain ⟨q0, q1, q2, q3, q4⟩ := HFX.out V hV; clear hV; go_simp; rfl); (intro K' hK'; go_simp; refine hK' _ ?_; clear hK' K')
  refine LeftL.run (v := ?_) 5 rfl (by kernel_rfl) rfl (fun _ _ d _ _ h => by cases d <;> exact h) ?_ HS.out ?_; rotate_left; (· intro V hV; obtain ⟨q0, q1, q2, q3, q4⟩ := HFX.out V hV; clear hV; go_simp; rfl); (intro K' hK'; go_simp; refine hK' _ ?_; clear hK' K')
  refine LeftL.run (v := ?_) 6 rfl (by kernel_rfl) rfl (fun _ _ d _ _ h => by cases d <;> exact h) ?_ HS.out ?_; rotate_left; (· intro V hV; obtain ⟨q0, q1, q2, q3, q4⟩ := HFX.out V hV; clear hV; go_simp; rfl); (intro K' hK'; go_simp; refine hK' _ ?_; clear hK' K')
  refine LeftL.one 7 rfl (by kernel_rfl) ?_
  go_wp2_with fail
  refine (refTakes_any u g.x g.y wy.tx wy.ty _ HU.out.speed HG.out.place HWY.out.1).mono ?_; rintro e w1 ⟨rfl, hf1⟩
  have hS1 := HS.out.call hf1 HS.out.size (by simp)
  clear hf1 HS
  have HS := Lib.hid hS1
  clear hS1
  rw [← HTK.out]
  go_wp2_with fail
  first | refine ⟨fun _ => HS.out, ?_⟩ | refine ⟨HS.out, ?_⟩
  refine LeftL.run (v := ?_) 8 rfl (by kernel_rfl) rfl (fun _ _ d _ _ h => by cases d <;> exact h) ?_ HS.out ?_; rotate_left; (· intro V hV; obtain ⟨q0, q1, q2, q3, q4⟩ := HFX.out V hV; clear hV; go_simp; rfl); (intro K' hK'; go_simp; refine hK' _ ?_; clear hK' K')
  refine LeftL.run (v := ?_) 9 rfl (by kernel_rfl) rfl (fun _ _ d _ _ h => by cases d <;> exact h) ?_ HS.out ?_; rotate_left; (· intro V hV; obtain ⟨q0, q1, q2, q3, q4⟩ := HFX.out V hV; clear hV; go_simp; rfl); (intro K' hK'; go_simp; refine hK' _ ?_; clear hK' K')
  have hb2 := HS.out.blk HB1.out HB1.out.lt (by simp)
  have y5 : w1.cell? ⟨k, 5, none⟩ = some (.int .i64 0) := hb2.cell 5
  have f5 := hb2.free 5
  have hs2 := HS1.out.call HS.out HS1.out.size (by simp)
  clear HS
  refine LeftL.one 10 rfl (by kernel_rfl) ?_
  have HB2 := Lib.hid hb2
  have HS2 := Lib.hid hs2
  clear hs2 hb2
  go_wp2_with fail
  refine ⟨fun h => absurd rfl h, ?_⟩
  refine LeftL.done (by kernel_rfl) ?_
  go_upto_region 3 with fail
  refine namedC ?_; intro W2 hW2
  have hb2 : Blk W2 k 49 (LC.cells ⟨g.x, g.y, wy.tx, wy.ty, g.time, ar, 0, 0⟩) := by rw [hW2]; exact HB2.out.set 5 (.int .i64 ar)
  have hs2 : Frm W.heap.size [] W W2 := by rw [hW2]; exact HS2.out.setCell (p := ⟨k, 5, none⟩) (.inr HKW.out) (.int .i64 ar)
  clear hW2 y5 f5 HB2 HS2 HFX HLU HB1 HS1
  have a5 : W2.cell? ⟨k, 5, none⟩ = some (.int .i64 ar) := hb2.cell 5
  have a6 : W2.cell? ⟨k, 6, none⟩ = some (.int .i64 0) := hb2.cell 6
  have f6 := hb2.free 6
  have ast : W2.cell? ⟨c + 1 + 1, 2, none⟩ = some (.int .i64 wy.stay) := (HENV.out.frm hs2).y.cell 2
  have HB2 := Lib.hid hb2
  have HS2 := Lib.hid hs2
  clear hs2 hb2
  go_upto_region 4 with fail
  refine namedC ?_; intro W3 hW3
  have hb3 : Blk W3 k 49 (LC.cells ⟨g.x, g.y, wy.tx, wy.ty, g.time, ar, lv, 0⟩) := by rw [hW3]; exact HB2.out.set 6 (.int .i64 lv)
  have hs3 : Frm W.heap.size [] W W3 := by rw [hW3]; exact HS2.out.setCell (p := ⟨k, 6, none⟩) (.inr HKW.out) (.int .i64 lv)
  clear hW3 a5 a6 f6 ast HB2 HS2
  have hfx : ∀ V, Frm W3.heap.size [] W3 V → V.cell? ⟨c + 1, 4, none⟩ = some (.int .i64 g.fuel) ∧ V.cell? ⟨k, 4, none⟩ = some (.int .i64 g.time) ∧ V.cell? ⟨k, 6, none⟩ = some (.int .i64 lv) := fun V hV => by
    have e := HENV.out.frm (hs3.call hV hs3.size (by simp))
    have q := hV.blk hb3 hb3.lt (by simp)
    exact ⟨e.g.cell 4, q.cell 4, q.cell 6⟩
  have hlu : ∀ V, Frm W3.heap.size [] W3 V → (loadVar 25 ⟨c, 0, none⟩).run Tryd.prog V = .ok (.agg u.cells.toArray) V := fun V hV => HLU0.out V (hs3.call hV hs3.size (by simp))
  have HS3 := Lib.hid hs3
  have HB3 := Lib.hid hb3
  have HFX := Lib.hid hfx
  have HLU := Lib.hid hlu
  clear hlu hfx hb3 hs3
  refine wp_region_leftL (fun V => Frm W3.heap.size [] W3 V) 11 (by kernel_rfl) ?_
  have hS : Frm W3.heap.size [] W3 W3.drew := (Frm.refl _ _ W3).drew
  have HS := Lib.hid hS
  clear hS
  refine LeftL.run (v := ?_) 0 rfl (by kernel_rfl) rfl (fun _ _ d _ _ h => by cases d <;> exact h) ?_ HS.out ?_; rotate_left; (· intro V hV; obtain ⟨q0, q1, q2⟩ := HFX.out V hV; clear hV; go_simp; rfl); (intro K' hK'; go_simp; refine hK' _ ?_; clear hK' K')
  refine LeftL.run (v := ?_) 1 rfl (by kernel_rfl) rfl (fun _ _ d _ _ h => by cases d <;> exact h) ?_ HS.out ?_; rotate_left; (· intro V hV; obtain ⟨q0, q1, q2⟩ := HFX.out V hV; clear hV; go_simp; rfl); (intro K' hK'; go_simp; refine hK' _ ?_; clear hK' K')
  refine LeftL.take 2 rfl (by kernel_rfl) (fun _ _ d _ _ h => by cases d <;> exact h) (yields_loadE (ty := 25) rfl rfl rfl (HLU.out)) HS.out ?_; (intro K' hK'; go_simp; refine hK' _ ?_; clear hK' K')
  refine LeftL.run (v := ?_) 3 rfl (by kernel_rfl) rfl (fun _ _ d _ _ h => by cases d <;> exact h) ?_ HS.out ?_; rotate_left; (· intro V hV; obtain ⟨q0, q1, q2⟩ := HFX.out V hV; clear hV; go_simp; rfl); (intro K' hK'; go_simp; refine hK' _ ?_; clear hK' K')
  refine LeftL.run (v := ?_) 4 rfl (by kernel_rfl) rfl (fun _ _ d _ _ h => by cases d <;> exact h) ?_ HS.out ?_; rotate_left; (· intro V hV; obtain ⟨q0, q1, q2⟩ := HFX.out V hV; clear hV; go_simp; rfl); (intro K' hK'; go_simp; refine hK' _ ?_; clear hK' K')
  refine LeftL.run (v := ?_) 5 rfl (by kernel_rfl) rfl (fun _ _ d _ _ h => by cases d <;> exact h) ?_ HS.out ?_; rotate_left; (· intro V hV; obtain ⟨q0, q1, q2⟩ := HFX.out V hV; clear hV; go_simp; rfl); (intro K' hK'; go_simp; refine hK' _ ?_; clear hK' K')
  refine LeftL.run (v := ?_) 6 rfl (by kernel_rfl) rfl (fun _ _ d _ _ h => by cases d <;> exact h) ?_ HS.out ?_; rotate_left; (· intro V hV; obtain ⟨q0, q1, q2⟩ := HFX.out V hV; clear hV; go_simp; rfl); (intro K' hK'; go_simp; refine hK' _ ?_; clear hK' K')
  refine LeftL.run (v := ?_) 7 rfl (by kernel_rfl) rfl (fun _ _ d _ _ h => by cases d <;> exact h) ?_ HS.out ?_; rotate_left; (· intro V hV; obtain ⟨q0, q1, q2⟩ := HFX.out V hV; clear hV; go_simp; rfl); (intro K' hK'; go_simp; refine hK' _ ?_; clear hK' K')
  refine LeftL.one 8 rfl (by kernel_rfl) ?_
  go_wp2_with fail
  refine (refBurns_any u _ _ HU.out.burn I5.out).mono ?_; rintro e w1 ⟨rfl, hf1⟩
  have hS1 := HS.out.call hf1 HS.out.size (by simp)
  clear hf1 HS
  have HS := Lib.hid hS1
  clear hS1
  rw [← HBZ.out]
  go_wp2_with fail
  first | refine ⟨fun _ => HS.out, ?_⟩ | refine ⟨HS.out, ?_⟩
  refine LeftL.run (v := ?_) 9 rfl (by kernel_rfl) rfl (fun _ _ d _ _ h => by cases d <;> exact h) ?_ HS.out ?_; rotate_left; (· intro V hV; obtain ⟨q0, q1, q2⟩ := HFX.out V hV; clear hV; go_simp; rfl); (intro K' hK'; go_simp; refine hK' _ ?_; clear hK' K')
  refine LeftL.run (v := ?_) 10 rfl (by kernel_rfl) rfl (fun _ _ d _ _ h => by cases d <;> exact h) ?_ HS.out ?_; rotate_left; (· intro V hV; obtain ⟨q0, q1, q2⟩ := HFX.out V hV; clear hV; go_simp; rfl); (intro K' hK'; go_simp; refine hK' _ ?_; clear hK' K')
  have hb4 := HS.out.blk HB3.out HB3.out.lt (by simp)
  have y7 : w1.cell? ⟨k, 7, none⟩ = some (.int .i64 0) := hb4.cell 7
  have f7 := hb4.free 7
  have hs4 := HS3.out.call HS.out HS3.out.size (by simp)
  clear HS
  refine LeftL.one 11 rfl (by kernel_rfl) ?_
  have HB4 := Lib.hid hb4
  have HS4 := Lib.hid hs4
  clear hs4 hb4
  go_wp2_with fail
  refine ⟨fun h => absurd rfl h, ?_⟩
  refine LeftL.done (by kernel_rfl) ?_
  go_upto_region 5 with fail
  refine namedC ?_; intro W4 hW4
  have hb4 : Blk W4 k 49 (LC.cells ⟨g.x, g.y, wy.tx, wy.ty, g.time, ar, lv, lf⟩) := by rw [hW4]; exact HB4.out.set 7 (.int .i64 lf)
  have hs4 : Frm W.heap.size [] W W4 := by rw [hW4]; exact HS4.out.setCell (p := ⟨k, 7, none⟩) (.inr HKW.out) (.int .i64 lf)
  clear hW4 y7 f7 HB4 HS4 HFX HLU HB3 HS3
  have HB4 := Lib.hid hb4
  have HS4 := Lib.hid hs4
  clear hs4 hb4
  have a_tx : W4.cell? ⟨c + 1 + 1, 0, none⟩ = some (.int .i64 wy.tx) := (HENV.out.frm HS4.out).y.cell 0
  have a_ty : W4.cell? ⟨c + 1 + 1, 1, none⟩ = some (.int .i64 wy.ty) := (HENV.out.frm HS4.out).y.cell 1
  have a_bx : W4.cell? ⟨c, 8, none⟩ = some (.int .i64 u.bx) := (HENV.out.frm HS4.out).u.cell 8
  have a_by : W4.cell? ⟨c, 9, none⟩ = some (.int .i64 u.by_) := (HENV.out.frm HS4.out).u.cell 9
  go_wp2_with (with_reducible refine atLoad 25 rfl ?_; refine wpList_loadE rfl rfl rfl (HLU0.out _ HS4.out) ?_)
  refine (refTakes_any u wy.tx wy.ty u.bx u.by_ _ HU.out.speed HWY.out.1 HU.out.base).mono ?_; rintro e w5 ⟨rfl, hf1⟩
  rw [show takesZ u.speed wy.tx wy.ty u.bx u.by_ = bk from HBK.out.symm]
  have hb5 := hf1.blk HB4.out HB4.out.lt (by simp)
  have hs5 := HS4.out.call hf1 HS4.out.size (by simp)
  clear a_tx a_ty a_bx a_by
  clear hf1 HB4 HS4
  have HB4 := Lib.hid hb5
  have HS4 := Lib.hid hs5
  clear hs5 hb5
  have a_since : w5.cell? ⟨c + 1, 2, none⟩ = some (.int .i64 since) := (HENV.out.frm HS4.out).g.cell 2
  have a_hours : w5.cell? ⟨c, 5, none⟩ = some (.int .i64 u.hours) := (HENV.out.frm HS4.out).u.cell 5
  have a_k6 : w5.cell? ⟨k, 6, none⟩ = some (.int .i64 lv) := HB4.out.cell 6
  by_cases h4 : 1073741824 < lv + bk
  · skip
    have hlo := loadVarB HB4.out (P := Tryd.prog) Tryd.underlying49 rfl info49
    have HLO := Lib.hid hlo
    clear hlo
    go_wp2_with (first | (with_reducible refine atLoad 49 rfl ?_; refine wpList_loadE rfl rfl rfl HLO.out ?_) | (with_reducible refine atStore 49 rfl ?_; refine stop_ ?_))
    refine go_on ?_
    refine wpList_storeB (P := Tryd.prog) (ty := 49) (cs := LC.cells ⟨g.x, g.y, wy.tx, wy.ty, g.time, ar, lv, lf⟩) rfl rfl (HENV.out.frm HS4.out).z rfl rfl rfl HI49.out (by simp [LC.cells, Value.oneCell']) ?_
    simp only [Act.put]
    have hz := (HENV.out.frm HS4.out).z.row (LC.cells ⟨g.x, g.y, wy.tx, wy.ty, g.time, ar, lv, lf⟩)
    have hfz := (HFT.out _ HS4.out).setRow (g := c + 1 + 1 + 1) (.inr (by have := HC.out; omega)) (LC.cells ⟨g.x, g.y, wy.tx, wy.ty, g.time, ar, lv, lf⟩).toArray
    have HZ := Lib.hid hz
    have HFZ := Lib.hid hfz
    clear hfz hz
    go_wp2_with fail
    refine bodyPost_ret (results_ct Tryd.results78 HZ.out rfl Tryd.underlying49 rfl info49) rfl ?_
    exact ⟨by first | rfl | (rw [if_pos h4]; rfl), HFZ.out⟩
  go_upto_region 8 with fail
  clear a_since a_hours a_k6
  have hfx : ∀ V, Frm w5.heap.size [] w5 V → V.cell? ⟨c, 4, none⟩ = some (.int .i64 u.reserve) ∧ V.cell? ⟨k, 7, none⟩ = some (.int .i64 lf) := fun V hV => by
    have e := HENV.out.frm (HS4.out.call hV HS4.out.size (by simp))
    have q := hV.blk HB4.out HB4.out.lt (by simp)
    exact ⟨e.u.cell 4, q.cell 7⟩
  have hlu : ∀ V, Frm w5.heap.size [] w5 V → (loadVar 25 ⟨c, 0, none⟩).run Tryd.prog V = .ok (.agg u.cells.toArray) V := fun V hV => HLU0.out V (HS4.out.call hV HS4.out.size (by simp))
  have HFX := Lib.hid hfx
  have HLU := Lib.hid hlu
  clear hlu hfx
  refine wp_region_leftL (fun V => Frm w5.heap.size [] w5 V) 1000 (by kernel_rfl) ?_
  have hS : Frm w5.heap.size [] w5 w5.drew := (Frm.refl _ _ w5).drew
  have HS := Lib.hid hS
  clear hS
  refine LeftL.run (v := ?_) 0 rfl (by kernel_rfl) rfl (fun _ _ d _ _ h => by cases d <;> exact h) ?_ HS.out ?_; rotate_left; (· intro V hV; obtain ⟨q0, q1⟩ := HFX.out V hV; clear hV; go_simp; rfl); (intro K' hK'; go_simp; refine hK' _ ?_; clear hK' K')
  refine LeftL.run (v := ?_) 1 rfl (by kernel_rfl) rfl (fun _ _ d _ _ h => by cases d <;> exact h) ?_ HS.out ?_; rotate_left; (· intro V hV; obtain ⟨q0, q1⟩ := HFX.out V hV; clear hV; go_simp; rfl); (intro K' hK'; go_simp; refine hK' _ ?_; clear hK' K')
  refine LeftL.take 2 rfl (by kernel_rfl) (fun _ _ d _ _ h => by cases d <;> exact h) (yields_loadE (ty := 25) rfl rfl rfl (HLU.out)) HS.out ?_; (intro K' hK'; go_simp; refine hK' _ ?_; clear hK' K')
  refine LeftL.run (v := ?_) 3 rfl (by kernel_rfl) rfl (fun _ _ d _ _ h => by cases d <;> exact h) ?_ HS.out ?_; rotate_left; (· intro V hV; obtain ⟨q0, q1⟩ := HFX.out V hV; clear hV; go_simp; rfl); (intro K' hK'; go_simp; refine hK' _ ?_; clear hK' K')
  refine LeftL.run (v := ?_) 6 rfl (by kernel_rfl) rfl (fun _ _ d _ _ h => by cases d <;> exact h) ?_ HS.out ?_; rotate_left; (· intro V hV; obtain ⟨q0, q1⟩ := HFX.out V hV; clear hV; go_simp; rfl); (intro K' hK'; go_simp; refine hK' _ ?_; clear hK' K')
  refine LeftL.run (v := ?_) 7 rfl (by kernel_rfl) rfl (fun _ _ d _ _ h => by cases d <;> exact h) ?_ HS.out ?_; rotate_left; (· intro V hV; obtain ⟨q0, q1⟩ := HFX.out V hV; clear hV; go_simp; rfl); (intro K' hK'; go_simp; refine hK' _ ?_; clear hK' K')
  refine LeftL.one 4 rfl (by kernel_rfl) ?_
  go_wp2_with fail
  refine (refBurns_any u bk _ HU.out.burn (by have := IL.out; have := I4.out; have := IBK.out; omega)).mono ?_; rintro e w1 ⟨rfl, hf1⟩
  have hS1 := HS.out.call hf1 HS.out.size (by simp)
  clear hf1 HS
  have HS := Lib.hid hS1
  clear hS1
  rw [← HBB.out]
  go_wp2_with fail
  first | refine ⟨fun _ => HS.out, ?_⟩ | refine ⟨HS.out, ?_⟩
  refine LeftL.run (v := ?_) 5 rfl (by kernel_rfl) rfl (fun _ _ d _ _ h => by cases d <;> exact h) ?_ HS.out ?_; rotate_left; (· intro V hV; obtain ⟨q0, q1⟩ := HFX.out V hV; clear hV; go_simp; rfl); (intro K' hK'; go_simp; refine hK' _ ?_; clear hK' K')
  refine LeftL.one 8 rfl (by kernel_rfl) ?_
  go_wp2_with fail
  first | refine ⟨fun _ => HS.out, ?_⟩ | refine ⟨HS.out, ?_⟩
  refine LeftL.done (by kernel_rfl) ?_
  have hs6 := HS4.out.call HS.out HS4.out.size (by simp)
  have hb6 := HS.out.blk HB4.out HB4.out.lt (by simp)
  clear HS HB4 HS4 HFX HLU
  have HS4 := Lib.hid hs6
  have HB4 := Lib.hid hb6
  clear hb6 hs6
  have a_since : w1.cell? ⟨c + 1, 2, none⟩ = some (.int .i64 since) := (HENV.out.frm HS4.out).g.cell 2
  have a_hours : w1.cell? ⟨c, 5, none⟩ = some (.int .i64 u.hours) := (HENV.out.frm HS4.out).u.cell 5
  have a_k6 : w1.cell? ⟨k, 6, none⟩ = some (.int .i64 lv) := HB4.out.cell 6
  by_cases h1 : lf - bb < u.reserve
  · skip
    have hlo := loadVarB HB4.out (P := Tryd.prog) Tryd.underlying49 rfl info49
    have HLO := Lib.hid hlo
    clear hlo
    go_wp2_with (first | (with_reducible refine atLoad 49 rfl ?_; refine wpList_loadE rfl rfl rfl HLO.out ?_) | (with_reducible refine atStore 49 rfl ?_; refine stop_ ?_))
    refine go_on ?_
    refine wpList_storeB (P := Tryd.prog) (ty := 49) (cs := LC.cells ⟨g.x, g.y, wy.tx, wy.ty, g.time, ar, lv, lf⟩) rfl rfl (HENV.out.frm HS4.out).z rfl rfl rfl HI49.out (by simp [LC.cells, Value.oneCell']) ?_
    simp only [Act.put]
    have hz := (HENV.out.frm HS4.out).z.row (LC.cells ⟨g.x, g.y, wy.tx, wy.ty, g.time, ar, lv, lf⟩)
    have hfz := (HFT.out _ HS4.out).setRow (g := c + 1 + 1 + 1) (.inr (by have := HC.out; omega)) (LC.cells ⟨g.x, g.y, wy.tx, wy.ty, g.time, ar, lv, lf⟩).toArray
    have HZ := Lib.hid hz
    have HFZ := Lib.hid hfz
    clear hfz hz
    go_wp2_with fail
    refine bodyPost_ret (results_ct Tryd.results78 HZ.out rfl Tryd.underlying49 rfl info49) rfl ?_
    exact ⟨by first | rfl | (rw [if_neg h4, if_pos h1]; rfl), HFZ.out⟩
  by_cases h2 : u.hours < lv + bk - since
  · skip
    have hlo := loadVarB HB4.out (P := Tryd.prog) Tryd.underlying49 rfl info49
    have HLO := Lib.hid hlo
    clear hlo
    go_wp2_with (first | (with_reducible refine atLoad 49 rfl ?_; refine wpList_loadE rfl rfl rfl HLO.out ?_) | (with_reducible refine atStore 49 rfl ?_; refine stop_ ?_))
    refine go_on ?_
    refine wpList_storeB (P := Tryd.prog) (ty := 49) (cs := LC.cells ⟨g.x, g.y, wy.tx, wy.ty, g.time, ar, lv, lf⟩) rfl rfl (HENV.out.frm HS4.out).z rfl rfl rfl HI49.out (by simp [LC.cells, Value.oneCell']) ?_
    simp only [Act.put]
    have hz := (HENV.out.frm HS4.out).z.row (LC.cells ⟨g.x, g.y, wy.tx, wy.ty, g.time, ar, lv, lf⟩)
    have hfz := (HFT.out _ HS4.out).setRow (g := c + 1 + 1 + 1) (.inr (by have := HC.out; omega)) (LC.cells ⟨g.x, g.y, wy.tx, wy.ty, g.time, ar, lv, lf⟩).toArray
    have HZ := Lib.hid hz
    have HFZ := Lib.hid hfz
    clear hfz hz
    go_wp2_with fail
    refine bodyPost_ret (results_ct Tryd.results78 HZ.out rfl Tryd.underlying49 rfl info49) rfl ?_
    exact ⟨by first | rfl | (rw [if_neg h4, if_neg h1, if_pos h2]; rfl), HFZ.out⟩
  go_upto_region 12 with fail
  clear a_since a_hours a_k6
  have a_k0 : w1.cell? ⟨k, 0, none⟩ = some (.int .i64 g.x) := HB4.out.cell 0
  have a_k1 : w1.cell? ⟨k, 1, none⟩ = some (.int .i64 g.y) := HB4.out.cell 1
  have a_k2 : w1.cell? ⟨k, 2, none⟩ = some (.int .i64 wy.tx) := HB4.out.cell 2
  have a_k3 : w1.cell? ⟨k, 3, none⟩ = some (.int .i64 wy.ty) := HB4.out.cell 3
  have a_k4 : w1.cell? ⟨k, 4, none⟩ = some (.int .i64 g.time) := HB4.out.cell 4
  have a_k6 : w1.cell? ⟨k, 6, none⟩ = some (.int .i64 lv) := HB4.out.cell 6
  go_wp2_with (with_reducible refine atLoad 25 rfl ?_; refine wpList_loadE rfl rfl rfl (HLU0.out _ HS4.out) ?_)
  refine (refBad_any u ad b off n cap S g.x g.y wy.tx wy.ty g.time lv _ (HENV.out.frm HS4.out).r HSK.out IL.out.1).mono ?_; rintro e w7 ⟨rfl, hf1⟩
  rw [← HA.out]
  have hs7 := HS4.out.call hf1 HS4.out.size (by simp)
  have hb7 := hf1.blk HB4.out HB4.out.lt (by simp)
  clear a_k0 a_k1 a_k2 a_k3 a_k4 a_k6
  clear hf1 HB4 HS4
  have HS4 := Lib.hid hs7
  have HB4 := Lib.hid hb7
  clear hb7 hs7
  cases A
  · skip
    have a_bx : w7.cell? ⟨c, 8, none⟩ = some (.int .i64 u.bx) := (HENV.out.frm HS4.out).u.cell 8
    have a_by : w7.cell? ⟨c, 9, none⟩ = some (.int .i64 u.by_) := (HENV.out.frm HS4.out).u.cell 9
    have a_k2 : w7.cell? ⟨k, 2, none⟩ = some (.int .i64 wy.tx) := HB4.out.cell 2
    have a_k3 : w7.cell? ⟨k, 3, none⟩ = some (.int .i64 wy.ty) := HB4.out.cell 3
    have a_k6 : w7.cell? ⟨k, 6, none⟩ = some (.int .i64 lv) := HB4.out.cell 6
    go_wp2_with (with_reducible refine atLoad 25 rfl ?_; refine wpList_loadGE rfl rfl rfl (HLU0.out _ HS4.out) ?_)
    refine (refBad_any u ad b off n cap S wy.tx wy.ty u.bx u.by_ lv (lv + bk) _ (HENV.out.frm HS4.out).r HSK.out IL.out.2).mono ?_; rintro e w8 ⟨rfl, hf1⟩
    rw [← HBBB.out]
    have hs8 := HS4.out.call hf1 HS4.out.size (by simp)
    have hb8 := hf1.blk HB4.out HB4.out.lt (by simp)
    clear a_bx a_by a_k2 a_k3 a_k6
    clear hf1 HB4 HS4
    have HS4 := Lib.hid hs8
    have HB4 := Lib.hid hb8
    clear hb8 hs8
    cases B
    · skip
      have hlo := loadVarB HB4.out (P := Tryd.prog) Tryd.underlying49 rfl info49
      have HLO := Lib.hid hlo
      clear hlo
      go_wp2_with (first | (with_reducible refine atLoad 49 rfl ?_; refine wpList_loadE rfl rfl rfl HLO.out ?_) | (with_reducible refine atStore 49 rfl ?_; refine stop_ ?_))
      refine go_on ?_
      refine wpList_storeB (P := Tryd.prog) (ty := 49) (cs := LC.cells ⟨g.x, g.y, wy.tx, wy.ty, g.time, ar, lv, lf⟩) rfl rfl (HENV.out.frm HS4.out).z rfl rfl rfl HI49.out (by simp [LC.cells, Value.oneCell']) ?_
      simp only [Act.put]
      have hz := (HENV.out.frm HS4.out).z.row (LC.cells ⟨g.x, g.y, wy.tx, wy.ty, g.time, ar, lv, lf⟩)
      have hfz := (HFT.out _ HS4.out).setRow (g := c + 1 + 1 + 1) (.inr (by have := HC.out; omega)) (LC.cells ⟨g.x, g.y, wy.tx, wy.ty, g.time, ar, lv, lf⟩).toArray
      have HZ := Lib.hid hz
      have HFZ := Lib.hid hfz
      clear hfz hz
      go_wp2_with fail
      refine bodyPost_ret (results_ct Tryd.results78 HZ.out rfl Tryd.underlying49 rfl info49) rfl ?_
      exact ⟨by first | rfl | (rw [if_neg h4, if_neg h1, if_neg h2]; rfl), HFZ.out⟩
    · skip
      have hlo := loadVarB HB4.out (P := Tryd.prog) Tryd.underlying49 rfl info49
      have HLO := Lib.hid hlo
      clear hlo
      go_wp2_with (first | (with_reducible refine atLoad 49 rfl ?_; refine wpList_loadE rfl rfl rfl HLO.out ?_) | (with_reducible refine atStore 49 rfl ?_; refine stop_ ?_))
      refine go_on ?_
      refine wpList_storeB (P := Tryd.prog) (ty := 49) (cs := LC.cells ⟨g.x, g.y, wy.tx, wy.ty, g.time, ar, lv, lf⟩) rfl rfl (HENV.out.frm HS4.out).z rfl rfl rfl HI49.out (by simp [LC.cells, Value.oneCell']) ?_
      simp only [Act.put]
      have hz := (HENV.out.frm HS4.out).z.row (LC.cells ⟨g.x, g.y, wy.tx, wy.ty, g.time, ar, lv, lf⟩)
      have hfz := (HFT.out _ HS4.out).setRow (g := c + 1 + 1 + 1) (.inr (by have := HC.out; omega)) (LC.cells ⟨g.x, g.y, wy.tx, wy.ty, g.time, ar, lv, lf⟩).toArray
      have HZ := Lib.hid hz
      have HFZ := Lib.hid hfz
      clear hfz hz
      go_wp2_with fail
      refine bodyPost_ret (results_ct Tryd.results78 HZ.out rfl Tryd.underlying49 rfl info49) rfl ?_
      exact ⟨by first | rfl | (rw [if_neg h4, if_neg h1, if_neg h2]; rfl), HFZ.out⟩
  · skip
    have hlo := loadVarB HB4.out (P := Tryd.prog) Tryd.underlying49 rfl info49
    have HLO := Lib.hid hlo
    clear hlo
    go_wp2_with (first | (with_reducible refine atLoad 49 rfl ?_; refine wpList_loadE rfl rfl rfl HLO.out ?_) | (with_reducible refine atStore 49 rfl ?_; refine stop_ ?_))
    refine go_on ?_
    refine wpList_storeB (P := Tryd.prog) (ty := 49) (cs := LC.cells ⟨g.x, g.y, wy.tx, wy.ty, g.time, ar, lv, lf⟩) rfl rfl (HENV.out.frm HS4.out).z rfl rfl rfl HI49.out (by simp [LC.cells, Value.oneCell']) ?_
    simp only [Act.put]
    have hz := (HENV.out.frm HS4.out).z.row (LC.cells ⟨g.x, g.y, wy.tx, wy.ty, g.time, ar, lv, lf⟩)
    have hfz := (HFT.out _ HS4.out).setRow (g := c + 1 + 1 + 1) (.inr (by have := HC.out; omega)) (LC.cells ⟨g.x, g.y, wy.tx, wy.ty, g.time, ar, lv, lf⟩).toArray
    have HZ := Lib.hid hz
    have HFZ := Lib.hid hfz
    clear hfz hz
    go_wp2_with fail
    refine bodyPost_ret (results_ct Tryd.results78 HZ.out rfl Tryd.underlying49 rfl info49) rfl ?_
    exact ⟨by first | rfl | (rw [if_neg h4, if_neg h1, if_neg h2]; rfl), HFZ.out⟩
end Go.Proofs.YtghkfopcjdkieaaDoor
