/-
  A unit goes along a leg.
-/
import Derived.Test.YtghkfopcjdkieaaDoorU15
import Derived.Test.YtghkfopcjdkieaaDoorLib5
namespace Go.Proofs.YtghkfopcjdkieaaDoor
set_option linter.all false
set_option linter.unusedSimpArgs false
set_option linter.unusedVariables false
open Go.RowKit

/-- Where a unit is behind a leg. -/
def goneTo (l : LC) : GC := ⟨l.tx, l.ty, l.leave, l.fuel⟩

set_option maxRecDepth 100000 in
set_option maxHeartbeats 4000000 in
theorem go1_any (T : Nat) (u : UC) (sv : Value) (since : Int) (g : GC) (l : LC) (w : World) (hT : Blk w T 103 (tripC u sv since g)) :
    Calls Tryd.prog 124 #[.pointer (some ⟨T, 0, none⟩), .agg l.cells.toArray] w fun e w' => (∃ v, e = .returned v) ∧ Blk w' T 103 (tripC u sv since (goneTo l)) ∧ Frm w.heap.size [T] w w' := by
  have hf0 := Tryd.func124
  go_enter Tryd.func124, Tryd.ntmps124
  repeat go_step
  refine named ?_; intro W hW
  have hb : Blk W w.heap.size 49 l.cells := by rw [hW]; repeat (first | exact Blk.new w 49 l.cells | refine Blk.alloc' ?_)
  have hf : Frm w.heap.size [] w W := by rw [hW]; repeat (first | with_reducible exact Frm.refl _ _ _ | with_reducible refine Frm.drewN ?_ | with_reducible refine Frm.drew ?_ | ((with_reducible refine Frm.setCell' ?_ ?_); · first | (left; simp; done) | (right; simp; done) | (right; simp; omega)) | ((with_reducible refine Frm.alloc' ?_ ?_); · first | exact Nat.le_refl _ | (simp; done) | (simp; omega)))
  clear hW hf0
  have hTW := hf.blk hT hT.lt (by simp)
  have hne : w.heap.size ≠ T := by have := hT.lt; omega
  have hlt := hT.lt
  have hfx : ∀ V, Frm W.heap.size [T] W V → V.cell? ⟨w.heap.size, 2, none⟩ = some (.int .i64 l.tx) ∧ V.cell? ⟨w.heap.size, 3, none⟩ = some (.int .i64 l.ty) ∧ V.cell? ⟨w.heap.size, 6, none⟩ = some (.int .i64 l.leave) ∧ V.cell? ⟨w.heap.size, 7, none⟩ = some (.int .i64 l.fuel) := fun V hV => by
    have hb' := hV.blk hb hb.lt (by simpa using hne)
    exact ⟨hb'.cell 2, hb'.cell 3, hb'.cell 6, hb'.cell 7⟩
  have HB := Lib.hid hb
  have HF := Lib.hid hf
  have HTW := Lib.hid hTW
  have HT := Lib.hid hT
  have HFX := Lib.hid hfx
  have HNE := Lib.hid hne
  have HLT := Lib.hid hlt
  clear hlt hne hfx hT hTW hf hb
  refine wp_region_leftL (fun V => Frm W.heap.size [T] W V) 1000 (by kernel_rfl) ?_
  have hS : Frm W.heap.size [T] W W.drew := (Frm.refl _ _ W).drew
  have hBT : Blk W.drew T 103 (tripC u sv since g) := HTW.out.drew
  have HS := Lib.hid hS
  have HBT := Lib.hid hBT
  clear hBT hS
  refine LeftL.run (v := ?_) 0 rfl (by kernel_rfl) rfl (fun _ _ d _ _ h => by cases d <;> exact h) ?_ HS.out ?_; rotate_left; (· intro V hV; obtain ⟨q0, q1, q2, q3⟩ := HFX.out V hV; clear hV; go_simp; rfl); (intro K' hK'; go_simp; refine hK' _ ?_; clear hK' K')
  refine LeftL.run (v := ?_) 1 rfl (by kernel_rfl) rfl (fun _ _ d _ _ h => by cases d <;> exact h) ?_ HS.out ?_; rotate_left; (· intro V hV; obtain ⟨q0, q1, q2, q3⟩ := HFX.out V hV; clear hV; go_simp; rfl); (intro K' hK'; go_simp; refine hK' _ ?_; clear hK' K')
  refine LeftL.run (v := ?_) 2 rfl (by kernel_rfl) rfl (fun _ _ d _ _ h => by cases d <;> exact h) ?_ HS.out ?_; rotate_left; (· intro V hV; obtain ⟨q0, q1, q2, q3⟩ := HFX.out V hV; clear hV; go_simp; rfl); (intro K' hK'; go_simp; refine hK' _ ?_; clear hK' K')
  refine LeftL.run (v := ?_) 3 rfl (by kernel_rfl) rfl (fun _ _ d _ _ h => by cases d <;> exact h) ?_ HS.out ?_; rotate_left; (· intro V hV; obtain ⟨q0, q1, q2, q3⟩ := HFX.out V hV; clear hV; go_simp; rfl); (intro K' hK'; go_simp; refine hK' _ ?_; clear hK' K')
  refine LeftL.run (v := ?_) 4 rfl (by kernel_rfl) rfl (fun _ _ d _ _ h => by cases d <;> exact h) ?_ HS.out ?_; rotate_left; (· intro V hV; obtain ⟨q0, q1, q2, q3⟩ := HFX.out V hV; clear hV; go_simp; rfl); (intro K' hK'; go_simp; refine hK' _ ?_; clear hK' K')
  refine LeftL.run (v := ?_) 5 rfl (by kernel_rfl) rfl (fun _ _ d _ _ h => by cases d <;> exact h) ?_ HS.out ?_; rotate_left; (· intro V hV; obtain ⟨q0, q1, q2, q3⟩ := HFX.out V hV; clear hV; go_simp; rfl); (intro K' hK'; go_simp; refine hK' _ ?_; clear hK' K')
  refine LeftL.run (v := ?_) 6 rfl (by kernel_rfl) rfl (fun _ _ d _ _ h => by cases d <;> exact h) ?_ HS.out ?_; rotate_left; (· intro V hV; obtain ⟨q0, q1, q2, q3⟩ := HFX.out V hV; clear hV; go_simp; rfl); (intro K' hK'; go_simp; refine hK' _ ?_; clear hK' K')
  refine LeftL.run (v := ?_) 7 rfl (by kernel_rfl) rfl (fun _ _ d _ _ h => by cases d <;> exact h) ?_ HS.out ?_; rotate_left; (· intro V hV; obtain ⟨q0, q1, q2, q3⟩ := HFX.out V hV; clear hV; go_simp; rfl); (intro K' hK'; go_simp; refine hK' _ ?_; clear hK' K')
  refine LeftL.run (v := ?_) 8 rfl (by kernel_rfl) rfl (fun _ _ d _ _ h => by cases d <;> exact h) ?_ HS.out ?_; rotate_left; (· intro V hV; obtain ⟨q0, q1, q2, q3⟩ := HFX.out V hV; clear hV; go_simp; rfl); (intro K' hK'; go_simp; refine hK' _ ?_; clear hK' K')
  refine LeftL.run (v := ?_) 9 rfl (by kernel_rfl) rfl (fun _ _ d _ _ h => by cases d <;> exact h) ?_ HS.out ?_; rotate_left; (· intro V hV; obtain ⟨q0, q1, q2, q3⟩ := HFX.out V hV; clear hV; go_simp; rfl); (intro K' hK'; go_simp; refine hK' _ ?_; clear hK' K')
  refine LeftL.run (v := ?_) 10 rfl (by kernel_rfl) rfl (fun _ _ d _ _ h => by cases d <;> exact h) ?_ HS.out ?_; rotate_left; (· intro V hV; obtain ⟨q0, q1, q2, q3⟩ := HFX.out V hV; clear hV; go_simp; rfl); (intro K' hK'; go_simp; refine hK' _ ?_; clear hK' K')
  refine LeftL.one 11 rfl (by kernel_rfl) ?_
  have c13 : W.cell? ⟨T, 13, none⟩ = some (.int .i64 g.x) := HTW.out.cell 13
  have c14 : W.cell? ⟨T, 14, none⟩ = some (.int .i64 g.y) := HTW.out.cell 14
  have c16 : W.cell? ⟨T, 16, none⟩ = some (.int .i64 g.time) := HTW.out.cell 16
  have c17 : W.cell? ⟨T, 17, none⟩ = some (.int .i64 g.fuel) := HTW.out.cell 17
  have f13 := HTW.out.free 13
  have f14 := HTW.out.free 14
  have f16 := HTW.out.free 16
  have f17 := HTW.out.free 17
  go_wp2_with fail
  clear HS
  have hS2 := (((Frm.refl W.heap.size [T] W).setCell (p := ⟨T, 13, none⟩) (.inl (by simp)) (.int .i64 l.tx)).setCell (p := ⟨T, 14, none⟩) (.inl (by simp)) (.int .i64 l.ty)).drew
  have HS := Lib.hid hS2
  clear hS2
  refine ⟨fun _ => HS.out, ?_⟩
  refine LeftL.run (v := ?_) 12 rfl (by kernel_rfl) rfl (fun _ _ d _ _ h => by cases d <;> exact h) ?_ HS.out ?_; rotate_left; (· intro V hV; obtain ⟨q0, q1, q2, q3⟩ := HFX.out V hV; clear hV; go_simp; rfl); (intro K' hK'; go_simp; refine hK' _ ?_; clear hK' K')
  refine LeftL.run (v := ?_) 13 rfl (by kernel_rfl) rfl (fun _ _ d _ _ h => by cases d <;> exact h) ?_ HS.out ?_; rotate_left; (· intro V hV; obtain ⟨q0, q1, q2, q3⟩ := HFX.out V hV; clear hV; go_simp; rfl); (intro K' hK'; go_simp; refine hK' _ ?_; clear hK' K')
  refine LeftL.one 14 rfl (by kernel_rfl) ?_
  go_wp2_with fail
  have hS3 := (((((Frm.refl W.heap.size [T] W).setCell (p := ⟨T, 13, none⟩) (.inl (by simp)) (.int .i64 l.tx)).setCell (p := ⟨T, 14, none⟩) (.inl (by simp)) (.int .i64 l.ty)).setCell (p := ⟨T, 16, none⟩) (.inl (by simp)) (.int .i64 l.leave))).drew
  clear HS
  have HS := Lib.hid hS3
  clear hS3
  refine ⟨fun _ => HS.out, ?_⟩
  refine LeftL.run (v := ?_) 15 rfl (by kernel_rfl) rfl (fun _ _ d _ _ h => by cases d <;> exact h) ?_ HS.out ?_; rotate_left; (· intro V hV; obtain ⟨q0, q1, q2, q3⟩ := HFX.out V hV; clear hV; go_simp; rfl); (intro K' hK'; go_simp; refine hK' _ ?_; clear hK' K')
  refine LeftL.run (v := ?_) 16 rfl (by kernel_rfl) rfl (fun _ _ d _ _ h => by cases d <;> exact h) ?_ HS.out ?_; rotate_left; (· intro V hV; obtain ⟨q0, q1, q2, q3⟩ := HFX.out V hV; clear hV; go_simp; rfl); (intro K' hK'; go_simp; refine hK' _ ?_; clear hK' K')
  refine LeftL.one 17 rfl (by kernel_rfl) ?_
  go_wp2_with fail
  have hS4 := (((((Frm.refl W.heap.size [T] W).setCell (p := ⟨T, 13, none⟩) (.inl (by simp)) (.int .i64 l.tx)).setCell (p := ⟨T, 14, none⟩) (.inl (by simp)) (.int .i64 l.ty)).setCell (p := ⟨T, 16, none⟩) (.inl (by simp)) (.int .i64 l.leave)).setCell (p := ⟨T, 17, none⟩) (.inl (by simp)) (.int .i64 l.fuel)).drew
  have hB4 := ((((HTW.out.set 13 (.int .i64 l.tx)).set 14 (.int .i64 l.ty)).set 16 (.int .i64 l.leave)).set 17 (.int .i64 l.fuel)).drew
  clear HS
  have HS := Lib.hid hS4
  have HB4 := Lib.hid hB4
  clear hB4 hS4
  refine ⟨fun _ => HS.out, ?_⟩
  refine LeftL.done (by kernel_rfl) ?_
  go_wp2_with fail
  go_end0
  exact ⟨⟨_, rfl⟩, HB4.out, (HF.out.narrow (by simp)).call HS.out HF.out.size (by simp)⟩

/-- Where a unit is behind i ways. -/
def gsq (u : UC) (R : Nat → WC) (g : GC) : Nat → GC
  | 0 => g
  | i + 1 => goneTo (legOf u (gsq u R g i) (R i))
def lsq (u : UC) (R : Nat → WC) (g : GC) (i : Nat) : LC := legOf u (gsq u R g i) (R i)
def ysq (u : UC) (n : Nat) (S : Nat → FC) (since : Int) (R : Nat → WC) (g : GC) (i : Nat) : Int := whyOf u n S since (gsq u R g i) (R i)
theorem gok_next {u : UC} {n : Nat} {S : Nat → FC} {since : Int} {g : GC} {wy : WC} (hu : UOK u) (hg : GOK g) (hw : wayB wy = true) (h : whyOf u n S since g wy = 0) : GOK (goneTo (legOf u g wy)) := by
  obtain ⟨_, i2, i3, i4, _, i6⟩ := leg_in hu hg hw
  have hb := burnsZ_in hu.burn (t := backOf u wy) (by omega)
  have hr := hu.reserve
  have hh : homeZ (legOf u g wy) (backOf u wy) = leaveZ u g wy + backOf u wy := rfl
  unfold whyOf at h
  rw [hh] at h
  have h1 : ¬ 1073741824 < leaveZ u g wy + backOf u wy := fun hc => by rw [if_pos hc] at h; omega
  rw [if_neg h1] at h
  have h2 : ¬ leftZ u g wy - burnsZ u.burn (backOf u wy) < u.reserve := fun hc => by rw [if_pos hc] at h; omega
  refine ⟨(wayB_in hw).1, ?_, ?_⟩
  · show 0 ≤ leaveZ u g wy ∧ leaveZ u g wy ≤ 1073741824
    omega
  · show 0 ≤ leftZ u g wy ∧ leftZ u g wy ≤ 1099511627776
    omega
theorem gok_at {u : UC} {n : Nat} {S : Nat → FC} {since : Int} {g : GC} {R : Nat → WC} (hu : UOK u) (hg : GOK g) : ∀ j, (∀ i, i < j → wayB (R i) = true) → (∀ i, i < j → ysq u n S since R g i = 0) → GOK (gsq u R g j)
  | 0, _, _ => hg
  | j + 1, hw, hy => gok_next hu (gok_at hu hg j (fun i hi => hw i (by omega)) (fun i hi => hy i (by omega))) (hw j (by omega)) (hy j (by omega))

theorem wpListIn_loadE {P : Program} {F : Fence} {n : Nat} {ops : Array Oper} {Q : Exit → Act → World → Prop} {a : Act} {w : World} {rest : List Oper} {o : Oper} (hgd : o.guard = none) (hF : ∀ f, F.fn f) {ty : TypeId} {x : Operand} (ho : o.op = .load ty x)
    {ad : Addr} {v : Value} (hx : a.eval x = .pointer (some ad)) (hl : (loadVar ty ad).run P w = .ok v w) (h : wpListIn F n P ops Q rest (a.put o.dst v) w) : wpListIn F n P ops Q (o :: rest) a w :=
  wpListIn_value hgd hF (fun c hc => by rw [ho] at hc; cases hc) (by unfold execOp; simp only [ho, hx, Instr.loadAt, Instr.sureAddr, Sem.run_bind, Sem.run_pure, Result.andThen_ok, hl]) h
attribute [local go_sem] Oper.semAt_some

set_option maxRecDepth 100000 in
set_option maxHeartbeats 4000000 in
/-- THE LEGS OF A ROUTE, one by one. -/
theorem iter_any (T p1 p2 N m l : Nat) (S0 : List Nat) (u : UC) (since : Int) (g0 : GC) (ad : Option Addr) (b off n cap : Nat) (S : Nat → FC) (rad : Option Addr) (rb roff rn rcap : Nat) (R : Nat → WC) (w0 W : World)
    (hf : Frm w0.heap.size [] w0 W) (hr : Rw w0 8 ad b off n fun i => (S i).cells) (hrr : Rw w0 3 rad rb roff rn fun i => (R i).cells) (hgl : Glob w0)
    (hT : Blk W T 103 (tripC u (.slice ad n cap) since g0)) (h1 : Blk W p1 35 [.slice rad rn rcap]) (h2 : Blk W p2 101 [.pointer (some ⟨T, 0, none⟩)])
    (hwT : w0.heap.size ≤ T) (hN : N ≤ W.heap.size) (hp : T < N ∧ p1 < N ∧ p2 < N ∧ T ≠ p1 ∧ T ≠ p2) (hn : T ∉ S0 ∧ p1 ∉ S0 ∧ p2 ∉ S0) (hS0 : ∀ x ∈ S0, w0.heap.size ≤ x)
    (hu : UOK u) (hg : GOK g0) (hw : ∀ i, i < rn → wayB (R i) = true) (hs : 0 ≤ since ∧ since ≤ 1073741824)
    (J Jx : Nat → World → Prop) (hJ : ∀ i A B, N ≤ A.heap.size → J i A → Frm A.heap.size [T] A B → J i B)
    (hY : ∀ i A0 A, i < rn → N ≤ A0.heap.size → J i A0 → Frm A0.heap.size [T] A0 A → YieldAt Fence.wide m Tryd.prog l #[.agg (lsq u R g0 i).cells.toArray, .int .i64 (ysq u n S since R g0 i)] A fun e A' =>
      KeepY N S0 A0.heap.size A A' ∧ ((decide (ysq u n S since R g0 i = 0) = true ∧ e = .returned (.bool true) ∧ J (i + 1) A') ∨ (decide (ysq u n S since R g0 i = 0) = false ∧ e = .returned (.bool false) ∧ Jx i A')))
    (h0 : J 0 W) :
    Calls Tryd.prog 123 #[.func (.yield l) #[] #[], .pointer (some ⟨p1, 0, none⟩), .pointer (some ⟨p2, 0, none⟩)] W fun e W' => (∃ v, e = .returned v) ∧ Frm N (T :: S0) W W' ∧
      ((J rn W' ∧ Blk W' T 103 (tripC u (.slice ad n cap) since (gsq u R g0 rn)) ∧ ∀ i, i < rn → ysq u n S since R g0 i = 0) ∨
        ∃ i, i < rn ∧ (∀ k, k < i → ysq u n S since R g0 k = 0) ∧ ysq u n S since R g0 i ≠ 0 ∧ Jx i W') := by
  have hf0 := Tryd.func123
  have hlen := hrr.len
  have hc1 := h1.cell 0
  have hc2 := h2.cell 0
  have HF := Lib.hid hf
  have HR := Lib.hid hr
  have HRR := Lib.hid hrr
  have HGL := Lib.hid hgl
  have HT := Lib.hid hT
  have H1 := Lib.hid h1
  have H2 := Lib.hid h2
  have HWT := Lib.hid hwT
  have HN := Lib.hid hN
  have HP := Lib.hid hp
  have HNN := Lib.hid hn
  have HS0 := Lib.hid hS0
  have HU := Lib.hid hu
  have HG := Lib.hid hg
  have HW := Lib.hid hw
  have HS := Lib.hid hs
  have HJ := Lib.hid hJ
  have HY := Lib.hid hY
  have H0 := Lib.hid h0
  clear h0 hY hJ hs hw hg hu hS0 hn hp hN hwT h2 h1 hT hgl hrr hr hf
  go_enter Tryd.func123, Tryd.ntmps123
  go_wp2_with fail
  go_loopw [10] (fun i10 wr => ∃ j : Nat, i10 = .int .i64 j ∧ j ≤ rn ∧ (∀ k, k < j → ysq u n S since R g0 k = 0) ∧ J j wr ∧ Blk wr T 103 (tripC u (.slice ad n cap) since (gsq u R g0 j)) ∧ Frm N (T :: S0) W wr) (fun i10 _ => rn - (intOf i10).toNat)
  case atStart => exact ⟨0, rfl, Nat.zero_le _, fun k hk => by omega, H0.out, HT.out, Frm.refl _ _ _⟩
  case round =>
    obtain ⟨j, rfl, hj, hno, hJj, hTj, hfr⟩ := hrel
    by_cases hjl : j < rn
    · have hjl' : (j : Int) < (rn : Int) := by omega
      have had := HRR.out.ad (by omega)
      subst had
      have f0 : Frm w0.heap.size [] w0 wr := HF.out.call hfr (by have := HWT.out; have := HP.out; omega) (fun x hx hm => by
        rcases List.mem_cons.1 hm with rfl | hm
        · have := HWT.out; omega
        · have := HS0.out x hm; omega)
      have k1 := hfr.blk H1.out HP.out.2.1 (by simpa using ⟨fun h => HP.out.2.2.2.1 h.symm, HNN.out.2.1⟩)
      have k2 := hfr.blk H2.out HP.out.2.2.1 (by simpa using ⟨fun h => HP.out.2.2.2.2 h.symm, HNN.out.2.2⟩)
      have hrw := HRR.out.frm f0 (Nat.le_refl _)
      obtain ⟨wy, hwy⟩ : ∃ wy, wy = R j := ⟨_, rfl⟩
      have hlo := hrw.load (P := Tryd.prog) Tryd.underlying51 rfl hjl info51
      rw [← hwy] at hlo
      have hwb : wayB wy = true := by rw [hwy]; exact HW.out j hjl
      obtain ⟨g, hgj⟩ : ∃ g, g = gsq u R g0 j := ⟨_, rfl⟩
      rw [← hgj] at hTj
      have hgk : GOK g := by rw [hgj]; exact gok_at (n := n) (S := S) (since := since) HU.out HG.out j (fun i hi => HW.out i (by omega)) hno
      obtain ⟨lg, hlg⟩ : ∃ lg, lg = lsq u R g0 j := ⟨_, rfl⟩
      obtain ⟨y, hy⟩ : ∃ y, y = ysq u n S since R g0 j := ⟨_, rfl⟩
      have hlg2 : legOf u g wy = lg := by rw [hlg, hgj, hwy]; rfl
      have hy2 : whyOf u n S since g wy = y := by rw [hy, hgj, hwy]; rfl
      have hgn : gsq u R g0 (j + 1) = goneTo lg := by rw [← hlg2, hgj, hwy]; rfl
      have hcz : wr.heap.size = wr.heap.size := rfl
      have hNr : N ≤ wr.heap.size := Nat.le_trans HN.out hfr.size
      have HFR := Lib.hid hfr
      have F0 := Lib.hid f0
      have K1 := Lib.hid k1
      have K2 := Lib.hid k2
      have HRW := Lib.hid hrw
      have HLO := Lib.hid hlo
      have HWB := Lib.hid hwb
      have HGK := Lib.hid hgk
      have HTJ := Lib.hid hTj
      have HJJ := Lib.hid hJj
      have HNO := Lib.hid hno
      have HWY := Lib.hid hwy
      have HGJ := Lib.hid hgj
      have HLG := Lib.hid hlg
      have HYY := Lib.hid hy
      have HLG2 := Lib.hid hlg2
      have HY2 := Lib.hid hy2
      have HGN := Lib.hid hgn
      have HNR := Lib.hid hNr
      clear hNr hgn hy2 hlg2 hy hlg hgj hwy hno hJj hTj hgk hwb hlo hrw k2 k1 f0 hfr
      go_wp2_with (first | (with_reducible refine atLoad 51 rfl ?_; refine wpList_loadE rfl rfl rfl HLO.out ?_) | (with_reducible refine atStore 51 rfl ?_; refine stop_ ?_))
      refine go_on ?_
      refine wpList_storeNew (P := Tryd.prog) (cs := wy.cells) rfl rfl rfl rfl rfl info51 (by simp [WC.cells, Value.oneCell']) ?_
      intro W1 hfW1 hbW1 hsz
      have c2 : W1.cell? ⟨p2, 0, none⟩ = some (.pointer (some ⟨T, 0, none⟩)) := (hfW1.blk K2.out K2.out.lt (by simp)).cell 0
      have hlo2 : (loadVar 51 ⟨wr.heap.size, 0, none⟩).run Tryd.prog W1 = .ok (.agg wy.cells.toArray) W1 := loadVarB hbW1 (P := Tryd.prog) Tryd.underlying51 rfl info51
      have hT1 := hfW1.blk HTJ.out HTJ.out.lt (by simp)
      have f1 : Frm w0.heap.size [] w0 W1 := F0.out.call hfW1 F0.out.size (by simp)
      have fr1 : Frm wr.heap.size [] wr W1 := hfW1
      clear hfW1 hbW1 hsz HTJ HRW F0
      have HLO2 := Lib.hid hlo2
      have HT1 := Lib.hid hT1
      have F1 := Lib.hid f1
      have FR1 := Lib.hid fr1
      clear fr1 f1 hT1 hlo2
      go_wp2_with (with_reducible refine atLoad 51 rfl ?_; refine wpList_loadE rfl rfl rfl HLO2.out ?_)
      refine (try_any T u since g wy ad b off n cap S W1 HT1.out (HR.out.frm F1.out (Nat.le_refl _)) (HGL.out.frm F1.out (Nat.le_refl _)) HU.out HGK.out HWB.out HS.out).mono ?_; rintro e w2 ⟨rfl, hf2⟩
      rw [HLG2.out, HY2.out]
      have hT2 := hf2.blk HT1.out HT1.out.lt (by simp)
      have fr2 : Frm wr.heap.size [] wr w2 := FR1.out.call hf2 FR1.out.size (by simp)
      clear hf2 HT1 FR1 F1 HLO2 c2
      have HT2 := Lib.hid hT2
      have FR2 := Lib.hid fr2
      clear fr2 hT2
      go_wp2_with (with_reducible refine atStore 49 rfl ?_; refine stop_ ?_)
      refine go_on ?_
      refine wpList_storeNew (P := Tryd.prog) (cs := lg.cells) rfl rfl rfl rfl rfl info49 (by simp [LC.cells, Value.oneCell']) ?_
      intro W3 hfW3 hbW3 hsz3
      have hT3 := hfW3.blk HT2.out HT2.out.lt (by simp)
      have fr3 : Frm wr.heap.size [] wr W3 := FR2.out.call hfW3 FR2.out.size (by simp)
      have hz2 : wr.heap.size ≤ w2.heap.size := FR2.out.size
      clear hfW3 HT2 FR2 hsz3
      obtain ⟨fn, tms, asg, bdy, hy1, hR1⟩ := HY.out j wr W3 hjl HNR.out HJJ.out (fr3.narrow (by simp))
      rw [← HLG.out, ← HYY.out] at hy1
      rw [← HYY.out] at hR1
      have hlo3 : (loadVar 49 ⟨w2.heap.size, 0, none⟩).run Tryd.prog W3 = .ok (.agg lg.cells.toArray) W3 := loadVarB hbW3 (P := Tryd.prog) Tryd.underlying49 rfl info49
      have HT3 := Lib.hid hT3
      have FR3 := Lib.hid fr3
      have HB3 := Lib.hid hbW3
      have HLO3 := Lib.hid hlo3
      have HR1 := Lib.hid hR1
      have HZ2 := Lib.hid hz2
      clear hz2 hR1 hlo3 hbW3 fr3 hT3
      go_upto_region 4 with fail
      refine (wpIn_wide (n := m + 1)).1 ?_
      refine wpIn_region_lit ?_
      refine wpListIn_value (v := .func (.yield l) #[] #[]) rfl (fun _ => trivial) (fun c h => by cases h) rfl ?_
      refine wpListIn_loadE rfl (fun _ => trivial) rfl rfl HLO3.out ?_
      gi_wp2
      refine HR1.out.mono ?_; rintro e w4 ⟨hf4, (⟨hc, rfl, hJ4⟩ | ⟨hc, rfl, hJx4⟩)⟩
      · have hy0 : y = 0 := by simpa using hc
        subst hy0
        have hN3 : N ≤ W3.heap.size := Nat.le_trans HNR.out FR3.out.size
        have hT4 := hf4.frm.blk HT3.out HP.out.1 HNN.out.1
        have hfr4 : Frm N (T :: S0) W w4 := (HFR.out.call (FR3.out) HNR.out (by simp)).trans (hf4.frm.narrow fun k hk => List.mem_cons_of_mem _ hk)
        have k24 : w4.cell? ⟨p2, 0, none⟩ = some (.pointer (some ⟨T, 0, none⟩)) := (hfr4.blk H2.out HP.out.2.2.1 (by simpa using ⟨fun h => HP.out.2.2.2.2 h.symm, HNN.out.2.2⟩)).cell 0
        have hb4 : Blk w4 w2.heap.size 49 lg.cells := (hf4.young _ HZ2.out HB3.out.lt).trans HB3.out
        have hlo4 : (loadVar 49 ⟨w2.heap.size, 0, none⟩).run Tryd.prog w4 = .ok (.agg lg.cells.toArray) w4 := loadVarB hb4 (P := Tryd.prog) Tryd.underlying49 rfl info49
        have hN4 : N ≤ w4.heap.size := Nat.le_trans hN3 hf4.frm.size
        have hno2 : ∀ k, k < j + 1 → ysq u n S since R g0 k = 0 := fun k hk => by
          rcases Nat.lt_or_ge k j with h | h
          · exact HNO.out k h
          · obtain rfl : k = j := by omega
            exact HYY.out.symm
        clear hf4 hb4 HT3 FR3 HB3 HLO3 HR1 HJJ HFR HNO HLO
        have HT4 := Lib.hid hT4
        have HFR4 := Lib.hid hfr4
        have HLO4 := Lib.hid hlo4
        have HJ4 := Lib.hid hJ4
        have HN4 := Lib.hid hN4
        have HNO2 := Lib.hid hno2
        clear hno2 hN4 hJ4 hlo4 hfr4 hT4
        gi_wp2
        go_wp2_with (with_reducible refine atLoad 49 rfl ?_; refine wpList_loadE rfl rfl rfl HLO4.out ?_)
        refine (go1_any T u _ since g lg w4 HT4.out).mono ?_; rintro e w5 ⟨⟨v5, rfl⟩, hT5, hf5⟩
        rw [← HGN.out] at hT5
        have hJ5 := HJ.out (j + 1) w4 w5 HN4.out HJ4.out hf5
        have hfr5 : Frm N (T :: S0) W w5 := HFR4.out.call hf5 HN4.out (fun x _ hx => by simp at hx; subst hx; simp)
        clear hf5 HT4 HJ4 HFR4
        have HT5 := Lib.hid hT5
        have HJ5 := Lib.hid hJ5
        have HFR5 := Lib.hid hfr5
        clear hfr5 hJ5 hT5
        go_wp2_with fail
        have hwr : wrap64 ((j : Int) + 1) = (j : Int) + 1 := IntWalk.wrap64_in _ (by have : rn ≤ 9223372036854775807 := hlen; omega)
        exact ⟨⟨j + 1, by rw [hwr]; simp, hjl, HNO2.out, HJ5.out, HT5.out, HFR5.out⟩, by rw [hwr]; simp [intOf]; omega⟩
      · have hy0 : y ≠ 0 := by simpa using hc
        have hfr4 : Frm N (T :: S0) W w4 := (HFR.out.call (FR3.out) HNR.out (by simp)).trans (hf4.frm.narrow fun k hk => List.mem_cons_of_mem _ hk)
        clear hf4 HT3 FR3 HB3 HLO3 HR1 HJJ HFR HLO
        have HFR4 := Lib.hid hfr4
        have HJX4 := Lib.hid hJx4
        clear hJx4 hfr4
        gi_wp2
        go_wp2_with fail
        refine bodyPost_ret (results_none Tryd.results123 _ _ _) rfl ?_
        exact ⟨⟨_, rfl⟩, HFR4.out, .inr ⟨j, hjl, HNO.out, by rw [← HYY.out]; exact hy0, HJX4.out⟩⟩
    · have hjl' : ¬ (j : Int) < (rn : Int) := by omega
      obtain rfl : j = rn := by omega
      have HNO := Lib.hid hno
      have HFR := Lib.hid hfr
      have HJJ := Lib.hid hJj
      have HTJ := Lib.hid hTj
      clear hTj hJj hfr hno
      go_wp2_with fail
      go_end0
      exact ⟨⟨_, rfl⟩, HFR.out, .inl ⟨HJJ.out, HTJ.out, HNO.out⟩⟩
end Go.Proofs.YtghkfopcjdkieaaDoor
