/-
  The plan of a route.
-/
import Derived.Test.YtghkfopcjdkieaaDoorU16
import Derived.RangeFuncBound
import Derived.Shelf.Abstract
namespace Go.Proofs.YtghkfopcjdkieaaDoor
set_option linter.all false
set_option linter.unusedSimpArgs false
set_option linter.unusedVariables false
open Go.RowKit Go.Shelf

set_option maxRecDepth 100000 in
set_option maxHeartbeats 4000000 in
theorem legs_any (T : Nat) (ra : Option Addr) (rn rcap : Nat) (w : World) :
    Calls Tryd.prog 94 #[.pointer (some ⟨T, 0, none⟩), .slice ra rn rcap] w fun e w' => e = .returned (.func (.func 123) #[] #[.pointer (some ⟨w.heap.size + 1, 0, none⟩), .pointer (some ⟨w.heap.size, 0, none⟩)]) ∧
      Blk w' (w.heap.size + 1) 35 [.slice ra rn rcap] ∧ Blk w' w.heap.size 101 [.pointer (some ⟨T, 0, none⟩)] ∧ Frm w.heap.size [] w w' := by
  have hf0 := Tryd.func94
  go_enter Tryd.func94, Tryd.ntmps94
  go_wp2_with fail
  go_ret
  exact ⟨rfl, Blk.new' _ 35 [.slice ra rn rcap] (by simp), (Blk.new w 101 [.pointer (some ⟨T, 0, none⟩)]).alloc _, ((Frm.refl _ _ w).alloc (Nat.le_refl _) _).alloc (by simp) _⟩

/-- The legs' cells, of the first n ways. -/
def legsC (u : UC) (R : Nat → WC) (g : GC) (n : Nat) : List Value := (List.range n).flatMap fun i => (lsq u R g i).cells
theorem legsC_succ (u : UC) (R : Nat → WC) (g : GC) (n : Nat) : legsC u R g (n + 1) = legsC u R g n ++ (lsq u R g n).cells := by
  simp [legsC, List.range_succ]
/-- The way home. -/
def homeLeg (u : UC) (g : GC) : LC :=
  ⟨g.x, g.y, u.bx, u.by_, g.time, g.time + takesZ u.speed g.x g.y u.bx u.by_, g.time + takesZ u.speed g.x g.y u.bx u.by_, g.fuel - burnsZ u.burn (takesZ u.speed g.x g.y u.bx u.by_)⟩

/-- What 'plan' has, behind i legs. -/
def PlanJ (c N : Nat) (u : UC) (R : Nat → WC) (g : GC) (i : Nat) (A : World) : Prop :=
  ∃ ov own, Blk A c 39 [ov] ∧ Sl A 49 8 ov i (legsC u R g i) own ∧ (∀ b, own = some b → N + 2 ≤ b) ∧ Blk A (c + 1) 3 [.int .i64 0] ∧ Blk A (c + 1 + 1) 3 [.int .i64 0] ∧ Blk A (c + 1 + 1 + 1) 30 [.int .i64 0]
def PlanX (c : Nat) (y : Nat → Int) (i : Nat) (A : World) : Prop :=
  Blk A c 39 [.slice none 0 0] ∧ Blk A (c + 1) 3 [.int .i64 i] ∧ Blk A (c + 1 + 1) 3 [.int .i64 (y i)] ∧ Blk A (c + 1 + 1 + 1) 30 [.int .i64 9]
theorem PlanJ.frm {c N T i : Nat} {u : UC} {R : Nat → WC} {g : GC} {A B : World} (h : PlanJ c N u R g i A) (hf : Frm A.heap.size [N + 1, T] A B) (hN : N + 2 ≤ A.heap.size) (hc : c + 3 < N) (hT : T < c) : PlanJ c N u R g i B := by
  obtain ⟨ov, own, h0, hs, ho, h1, h2, h3⟩ := h
  refine ⟨ov, own, hf.blk h0 h0.lt (by simp; omega), hs.frm hf hs.lt (fun b hb => by have := ho b hb; simp; omega), ho, hf.blk h1 h1.lt (by simp; omega), hf.blk h2 h2.lt (by simp; omega), hf.blk h3 h3.lt (by simp; omega)⟩
theorem PlanX.put {c L i : Nat} {y : Nat → Int} {A : World} {o : Obj} (h : PlanX c y i A) (hc : c + 3 < L) : PlanX c y i (A.putObj L o) := by
  obtain ⟨h0, h1, h2, h3⟩ := h
  exact ⟨(World.putObj_heap_other (by omega)).trans h0, (World.putObj_heap_other (by omega)).trans h1, (World.putObj_heap_other (by omega)).trans h2, (World.putObj_heap_other (by omega)).trans h3⟩
theorem info49x : (Tryd.prog.info? 49).map (fun i => (i.zero, i.size, i.bytes)) = some (some (.agg #[.int .i64 0, .int .i64 0, .int .i64 0, .int .i64 0, .int .i64 0, .int .i64 0, .int .i64 0, .int .i64 0]), 8, 64) := by kernel_rfl
theorem info_parts3 {i : TypeId} {z : Value} {s n : Nat} (h : (Tryd.prog.info? i).map (fun i => (i.zero, i.size, i.bytes)) = some (some z, s, n)) : ∃ i0, Tryd.prog.info? i = some i0 ∧ i0.zero = some z ∧ i0.size = s ∧ i0.bytes = n := by
  obtain ⟨i0, h0, h1⟩ := Option.map_eq_some_iff.1 h
  simp only [Prod.mk.injEq] at h1
  exact ⟨i0, h0, h1.1, h1.2.1, h1.2.2⟩
theorem keepY_of {B z : Nat} {S Sx : List Nat} {W W' : World} (h : Frm W.heap.size Sx W W') (hB : B ≤ W.heap.size) (h1 : ∀ x ∈ Sx, x < B → x ∈ S) (h2 : ∀ x ∈ Sx, x < z) : KeepY B S z W W' :=
  ⟨h.mono hB (fun k hk hm => h1 k hm hk), fun k hz hk => h.block k hk (fun hm => by have := h2 k hm; omega)⟩
theorem results_61 {w : World} {tmps : Array Value} {p4 p5 p6 p7 : Nat} {ad : Option Addr} {n cp : Nat} {x5 x6 x7 : Int} (h4 : tmps.getD 4 undef = .pointer (some ⟨p4, 0, none⟩)) (h5 : tmps.getD 5 undef = .pointer (some ⟨p5, 0, none⟩)) (h6 : tmps.getD 6 undef = .pointer (some ⟨p6, 0, none⟩)) (h7 : tmps.getD 7 undef = .pointer (some ⟨p7, 0, none⟩))
    (b4 : Blk w p4 39 [.slice ad n cp]) (b5 : Blk w p5 3 [.int .i64 x5]) (b6 : Blk w p6 3 [.int .i64 x6]) (b7 : Blk w p7 30 [.int .i64 x7]) :
    (results Tryd.f61 tmps).run Tryd.prog w = .ok (.tuple #[.slice ad n cp, .int .i64 x5, .int .i64 x6, .int .i64 x7]) w := by
  have c4 := b4.cell 0
  have c5 := b5.cell 0
  have c6 := b6.cell 0
  have c7 := b7.cell 0
  have e4 : tmps[4]?.getD undef = .pointer (some ⟨p4, 0, none⟩) := by simpa using h4
  have e5 : tmps[5]?.getD undef = .pointer (some ⟨p5, 0, none⟩) := by simpa using h5
  have e6 : tmps[6]?.getD undef = .pointer (some ⟨p6, 0, none⟩) := by simpa using h6
  have e7 : tmps[7]?.getD undef = .pointer (some ⟨p7, 0, none⟩) := by simpa using h7
  simp only [List.getElem?_cons_zero] at c4 c5 c6 c7
  simp [results, Tryd.results61, e4, e5, e6, e7, asAddr, go_sem, c4, c5, c6, c7]
def retOnly (Q : Exit → Act → World → Prop) : Exit → Act → World → Prop
  | .ret, a, w => Q .ret a w
  | _, _, _ => False
theorem retOnly_le {Q : Exit → Act → World → Prop} : ∀ e a w, retOnly Q e a w → Q e a w := fun e a w h => by
  cases e <;> first | exact h | exact h.elim
theorem namedCalls {P : Program} {f : FuncId} {args : Array Value} {w : World} {R : Ending → World → Prop} (h : ∀ W, W = w → Calls P f args W R) : Calls P f args w R := h w rfl
theorem noOut {K : Act → World → Prop} {Q : Exit → Act → World → Prop} (h : ¬ LetsOut Q) : ¬ LetsOut (Exit.then K Q) := fun ⟨a, w, hq⟩ => h ⟨a, w, hq⟩
theorem noOutB {id : Nat} {Q : Exit → Act → World → Prop} (h : ¬ LetsOut Q) : ¬ LetsOut (Exit.inBlock id Q) := fun ⟨a, w, hq⟩ => h ⟨a, w, hq⟩
theorem noOutR {w : World} {S0 : List Nat} {z : Nat} {J Jx : Nat → World → Prop} {cont : Nat → Bool} {i : Nat} {W : World} : ¬ LetsOut (roundQ w S0 z J Jx cont i W) := fun ⟨_, _, hq⟩ => hq
theorem noOutF : ¬ LetsOut (fun _ _ _ => False) := fun ⟨_, _, hq⟩ => hq

set_option maxRecDepth 100000 in
set_option maxHeartbeats 4000000 in
theorem plan_any (T : Nat) (u : UC) (since : Int) (g0 : GC) (ad : Option Addr) (b off n cap : Nat) (S : Nat → FC) (rad : Option Addr) (rb roff rn rcap : Nat) (R : Nat → WC) (w0 w : World)
    (hf : Frm w0.heap.size [] w0 w) (hr : Rw w0 8 ad b off n fun i => (S i).cells) (hrr : Rw w0 3 rad rb roff rn fun i => (R i).cells) (hgl : Glob w0)
    (hT : Blk w T 103 (tripC u (.slice ad n cap) since g0)) (hwT : w0.heap.size ≤ T)
    (hu : UOK u) (hg : GOK g0) (hw : ∀ i, i < rn → wayB (R i) = true) (hs : 0 ≤ since ∧ since ≤ 1073741824) (hrn : rn ≤ 100000) :
    Calls Tryd.prog 61 #[.pointer (some ⟨T, 0, none⟩), .slice rad rn rcap] w fun e w' => Frm w.heap.size [T] w w' ∧
      ((∃ ov own, e = .returned (.tuple #[ov, .int .i64 (-1), .int .i64 0, .int .i64 0]) ∧ Sl w' 49 8 ov (rn + 1) (legsC u R g0 rn ++ (homeLeg u (gsq u R g0 rn)).cells) own ∧ (∀ b, own = some b → w.heap.size ≤ b) ∧ ∀ i, i < rn → ysq u n S since R g0 i = 0) ∨
        ∃ i : Nat, i < rn ∧ (∀ k, k < i → ysq u n S since R g0 k = 0) ∧ ysq u n S since R g0 i ≠ 0 ∧ e = .returned (.tuple #[.slice none 0 0, .int .i64 i, .int .i64 (ysq u n S since R g0 i), .int .i64 9])) := by
  have hf0 := Tryd.func61
  have hTl := hT.lt
  refine (callsIn_wide (n := 1)).1 ?_
  refine callsIn_of_wp_marks Tryd.func61 rfl trivial ?_ rfl
  simp only [Tryd.ntmps61, List.size_toArray, List.length_cons, List.length_nil, Nat.reduceAdd, Nat.reduceSub, Array.replicate_succ, Array.replicate_zero, List.push_toArray, List.append_toArray, List.nil_append, List.cons_append]
  refine wpIn_mono (Q := retOnly _) ?_ retOnly_le
  refine wpIn_wide.2 ?_
  have HF := Lib.hid hf
  have HR := Lib.hid hr
  have HRR := Lib.hid hrr
  have HGL := Lib.hid hgl
  have HT := Lib.hid hT
  have HWT := Lib.hid hwT
  have HU := Lib.hid hu
  have HG := Lib.hid hg
  have HW := Lib.hid hw
  have HS := Lib.hid hs
  have HRN := Lib.hid hrn
  have HTL := Lib.hid hTl
  clear hTl hrn hs hw hg hu hwT hT hgl hrr hr hf
  go_wp2_with fail
  refine namedCalls ?_; intro W hW
  have hsz : W.heap.size = w.heap.size + 1 + 1 + 1 + 1 := by rw [hW]; simp
  have b4 : Blk W w.heap.size 39 [.slice none 0 0] := by rw [hW]; exact (((Blk.new w 39 [.slice none 0 0]).alloc _).alloc _).alloc _
  have b5 : Blk W (w.heap.size + 1) 3 [.int .i64 0] := by rw [hW]; exact ((Blk.new' _ 3 [.int .i64 0] (by simp)).alloc _).alloc _
  have b6 : Blk W (w.heap.size + 1 + 1) 3 [.int .i64 0] := by rw [hW]; exact (Blk.new' _ 3 [.int .i64 0] (by simp)).alloc _
  have b7 : Blk W (w.heap.size + 1 + 1 + 1) 30 [.int .i64 0] := by rw [hW]; exact Blk.new' _ 30 [.int .i64 0] (by simp)
  have hfW : Frm w.heap.size [] w W := by rw [hW]; repeat (first | with_reducible exact Frm.refl _ _ _ | with_reducible refine Frm.drewN ?_ | with_reducible refine Frm.drew ?_ | ((with_reducible refine Frm.setCell' ?_ ?_); · first | (left; simp; done) | (right; simp; done) | (right; simp; omega)) | ((with_reducible refine Frm.alloc' ?_ ?_); · first | exact Nat.le_refl _ | (simp; done) | (simp; omega)))
  clear hW
  refine (legs_any T rad rn rcap W).mono ?_; rintro e w1_0 ⟨rfl, hp1, hp2, hf1⟩
  have d4 := hf1.blk b4 b4.lt (by simp)
  have d5 := hf1.blk b5 b5.lt (by simp)
  have d6 := hf1.blk b6 b6.lt (by simp)
  have d7 := hf1.blk b7 b7.lt (by simp)
  have hfw1 : Frm w.heap.size [] w w1_0 := hfW.call hf1 hfW.size (by simp)
  have hN1 := hp1.lt
  clear b4 b5 b6 b7 hfW hf1
  have HP1 := Lib.hid hp1
  have HP2 := Lib.hid hp2
  have D4 := Lib.hid d4
  have D5 := Lib.hid d5
  have D6 := Lib.hid d6
  have D7 := Lib.hid d7
  have HFW1 := Lib.hid hfw1
  have HN1 := Lib.hid hN1
  have HSZ := Lib.hid hsz
  clear hsz hN1 hfw1 d7 d6 d5 d4 hp2 hp1
  go_wp2_with fail
  obtain ⟨c, hc⟩ : ∃ c, c = w.heap.size := ⟨_, rfl⟩
  obtain ⟨N, hN⟩ : ∃ N, N = w1_0.heap.size := ⟨_, rfl⟩
  rw [← hc] at D4 D5 D6 D7 HTL ⊢
  have hcN : c + 1 + 1 + 1 < N := by rw [hN]; exact D7.out.lt
  have hp1N : W.heap.size + 1 < N := by rw [hN]; exact HN1.out
  have hTc := HTL.out
  have hWc := HSZ.out
  rw [← hc] at hWc
  have HC := Lib.hid hc
  have HNE := Lib.hid hN
  have HWC := Lib.hid hWc
  clear hWc hN hc
  refine (wpIn_wide (n := 1)).1 ?_
  refine wp_rangeFunc_ret (m := 0) (gf := 123) (lb := #[.pointer (some ⟨W.heap.size + 1, 0, none⟩), .pointer (some ⟨W.heap.size, 0, none⟩)]) rfl (enters_of Tryd.func123 (by kernel_rfl) rfl)
    (fun i => #[.agg (lsq u R g0 i).cells.toArray, .int .i64 (ysq u n S since R g0 i)]) (fun i => rfl) rn (fun i => decide (ysq u n S since R g0 i = 0)) [T] [c, c + 1, c + 1 + 1, c + 1 + 1 + 1] (PlanJ c N u R g0) (PlanX c (ysq u n S since R g0))
    (fun o A => Frm N [T, c, c + 1, c + 1 + 1, c + 1 + 1 + 1] w1_0 A ∧ match o with
      | none => Blk A T 103 (tripC u (.slice ad n cap) since (gsq u R g0 rn)) ∧ ∀ i, i < rn → ysq u n S since R g0 i = 0
      | some i => i < rn ∧ (∀ k, k < i → ysq u n S since R g0 k = 0) ∧ ysq u n S since R g0 i ≠ 0)
    ?hS0 ?hST ?hJ ?hJx ?hR ?hiter ?h0 ?hround ?hdone ?hstop
  case hS0 => intro x hx; rw [← HNE.out]; simp at hx; omega
  case hST => intro x hx; rw [← HNE.out]; simp at hx; omega
  case hJ => intro i A B hA hJ hf; rw [← HNE.out] at hA hf; exact hJ.frm hf hA hcN hTc
  case hJx => intro i A o _ hX; rw [← HNE.out]; exact hX.put (by omega)
  case hR =>
    rintro i A o ⟨h1, h2⟩
    rw [← HNE.out]
    refine ⟨h1.putObj (.inr (by omega)) o, ?_⟩
    cases i with
    | none => exact ⟨(World.putObj_heap_other (by omega)).trans h2.1, h2.2⟩
    | some i => exact h2
  case hiter =>
    intro J' Jx' W2 hfW2 hN2 hJ' hY' h0'
    have hWc := HWC.out
    have hN := HNE.out
    have hc := HC.out
    rw [← HNE.out] at hfW2 hN2 hJ' hY'
    rw [← HNE.out]
    have hT1 := HFW1.out.blk HT.out HT.out.lt (by simp)
    refine callsIn_wide.2 ((iter_any T (W.heap.size + 1) W.heap.size N 0 (N + 1) [c, c + 1, c + 1 + 1, c + 1 + 1 + 1] u since g0 ad b off n cap S rad rb roff rn rcap R w0 W2
      (HF.out.call (HFW1.out.call hfW2 (by omega) (by simp)) HF.out.size (by simp)) HR.out HRR.out HGL.out (hfW2.blk hT1 (by omega) (by simp)) (hfW2.blk HP1.out (by omega) (by simp)) (hfW2.blk HP2.out (by omega) (by simp))
      HWT.out (by omega) ⟨by omega, by omega, by omega, by omega, by omega⟩ ⟨by simp; omega, by simp; omega, by simp; omega⟩ (fun x hx => by have := HF.out.size; have := HWT.out; simp at hx; omega) HU.out HG.out HW.out HS.out
      (fun i A => J' i A ∧ N + 2 ≤ A.heap.size) Jx' ?_ ?_ ⟨h0', hN2⟩).mono ?_)
    · rintro i A B _ ⟨hj, hz⟩ hf
      exact ⟨hJ' i A B hz hj hf, Nat.le_trans hz hf.size⟩
    · rintro i A0 A hi _ ⟨hj, hz⟩ hf
      refine (hY' i A0 A hi hz hj hf).mono ?_
      rintro e A' ⟨hk, (⟨h1, h2, h3⟩ | h)⟩
      · exact ⟨hk, .inl ⟨h1, h2, h3, Nat.le_trans (Nat.le_trans hz hf.size) hk.frm.size⟩⟩
      · exact ⟨hk, .inr h⟩
    · rintro e W3 ⟨hv, hf3, (⟨h1, h2, h3⟩ | ⟨i, h1, h2, h3, h4⟩)⟩
      · exact ⟨hv, .inl ⟨⟨(hfW2.narrow (by simp)).trans hf3, h2, h3⟩, h1.1⟩⟩
      · exact ⟨hv, .inr ⟨i, ⟨(hfW2.narrow (by simp)).trans hf3, h1, h2, h3⟩, h4⟩⟩
  case h0 =>
    intro W2 hf2 hz
    have hN := HNE.out
    rw [← HNE.out] at hf2
    exact ⟨_, none, hf2.blk D4.out (by omega) (by simp), Sl.nil _ _ _, by simp, hf2.blk D5.out (by omega) (by simp), hf2.blk D6.out (by omega) (by simp), hf2.blk D7.out (by omega) (by simp)⟩
  case hround =>
    intro i A0 W2 hi hz0 hj0 hf0 _
    rw [← HNE.out] at hz0
    rw [← HNE.out]
    obtain ⟨ov, own, j4, js, jo, j5, j6, j7⟩ := hj0
    refine wpIn_seq ?_
    refine regionIn_of (noOut (noOut noOutF)) rfl ?_
    obtain ⟨lg, hlg⟩ : ∃ lg, lg = lsq u R g0 i := ⟨_, rfl⟩
    obtain ⟨y, hy⟩ : ∃ y, y = ysq u n S since R g0 i := ⟨_, rfl⟩
    rw [← hlg, ← hy]
    have HLG := Lib.hid hlg
    have HY := Lib.hid hy
    clear hy hlg
    go_wp2_with (with_reducible refine atStore 49 rfl ?_; refine stop_ ?_)
    refine go_on ?_
    refine wpList_storeNew (P := Tryd.prog) (cs := lg.cells) rfl rfl rfl rfl rfl info49 (by simp [LC.cells, Value.oneCell']) ?_
    intro W3 hfW3 hbW3 hz3
    refine wpList_nil ?_
    dsimp only [Exit.then, Act.put]
    refine regionIn_of (noOut noOutF) rfl ?_
    go_wp2_with fail
    have hz2 : N + 2 ≤ W2.heap.size := Nat.le_trans hz0 hf0.size
    refine ⟨⟨hfW3.mono hz2 (by simp), fun k _ hk => hfW3.block k hk (by simp)⟩, ?_⟩
    intro o
    obtain ⟨W4, hW4⟩ : ∃ W4, W4 = W3.putObj (N + 1) o := ⟨_, rfl⟩
    have hf4 : Frm A0.heap.size [N + 1, T] A0 W4 := by rw [hW4]; exact ((hf0.narrow (by simp)).call hfW3 hf0.size (by simp)).putObj (.inl (by simp)) _
    have e4 := hf4.blk j4 j4.lt (by simp; omega)
    have e5 := hf4.blk j5 j5.lt (by simp; omega)
    have e6 := hf4.blk j6 j6.lt (by simp; omega)
    have e7 := hf4.blk j7 j7.lt (by simp; omega)
    have s4 := js.frm hf4 js.lt (fun b hb => by have := jo b hb; simp; omega)
    have b8 : Blk W4 W2.heap.size 49 lg.cells := by rw [hW4]; exact (World.putObj_heap_other (by omega)).trans hbW3
    have hz4 : A0.heap.size ≤ W2.heap.size := hf0.size
    have hlt := js.lt
    rw [← hW4]
    clear hW4 hf4 hfW3 hbW3 hz3 hf0 js j4 j5 j6 j7
    have E4 := Lib.hid e4
    have E5 := Lib.hid e5
    have E6 := Lib.hid e6
    have E7 := Lib.hid e7
    have S4 := Lib.hid s4
    have B8 := Lib.hid b8
    have HZ4 := Lib.hid hz4
    have HLT := Lib.hid hlt
    have JO := Lib.hid jo
    clear jo hlt hz4 b8 s4 e7 e6 e5 e4
    refine wpIn_block ?_
    refine wpIn_seq ?_
    refine wpIn_seq ?_
    refine regionIn_of (noOut (noOut (noOutB noOutR))) rfl ?_
    by_cases hy0 : y = 0
    · subst hy0
      go_wp2_with fail
      refine wpIn_cond_false rfl ?_
      refine wpIn_skip ?_
      dsimp only [Exit.then]
      refine regionIn_of (noOutB noOutR) rfl ?_
      obtain ⟨oa, ocap, rfl⟩ := S4.out.form
      have hz4 : N + 2 ≤ W4.heap.size := Nat.le_trans hz0 (Nat.le_trans HZ4.out (Nat.le_of_lt B8.out.lt))
      have c4 := E4.out.cell 0
      have f4 := E4.out.free 0
      have hlo8 : (loadVar 49 ⟨W2.heap.size, 0, none⟩).run Tryd.prog W4 = .ok (.agg #[.int .i64 lg.fx, .int .i64 lg.fy, .int .i64 lg.tx, .int .i64 lg.ty, .int .i64 lg.start, .int .i64 lg.arrive, .int .i64 lg.leave, .int .i64 lg.fuel]) W4 := loadVarB B8.out (P := Tryd.prog) Tryd.underlying49 rfl info49
      obtain ⟨i0, hi0, hz0', hz1, hz2⟩ := info_parts3 info49x
      have hcl : c < W4.heap.size := E4.out.lt
      have HLO8 := Lib.hid hlo8
      have HI0 := Lib.hid hi0
      have HZ0 := Lib.hid hz0'
      have HZ1 := Lib.hid hz1
      have HZ2 := Lib.hid hz2
      have HZW := Lib.hid hz4
      have HCL := Lib.hid hcl
      clear hcl hz4 hz2 hz1 hz0' hi0 hlo8
      go_wp2_with (first | (with_reducible refine atLoad 49 rfl ?_; refine wpList_loadE rfl rfl rfl HLO8.out ?_) | (at_builtin; refine wpList_append_sl _ rfl (.tmp 22) (.tmp 24) 39 rfl 49 i0 _ 8 64 Tryd.underlying39 HI0.out HZ0.out HZ1.out HZ2.out rfl _ i _ own rfl (S4.out.alloc _) ⟨W4.heap.size, 0, none⟩ 1 1 lg.cells rfl rfl (news_alloc _ lg.cells _) (by simp [LC.cells, Value.oneCell']) (by have := HRN.out; unfold maxLen; omega) (by have := HRN.out; omega) ?_; intro v1 w5 own1 hs1 hf1 ho1; obtain ⟨ad1, cp1, rfl⟩ := hs1.form; have HS1 := Lib.hid hs1; have HF1 := Lib.hid hf1; have HO1 := Lib.hid ho1; have hb1 := hf1.blk (E4.out.alloc _) (by have := HCL.out; simp; omega) (by intro hm; have := JO.out c (by simpa using hm); omega); have HB1 := Lib.hid hb1; clear hs1 hf1 ho1 hb1; have g6 := HB1.out.cell 0; have k6 := HB1.out.free 0; simp only [List.getElem?_cons_zero] at g6))
      have hjo : ∀ b, own1 = some b → N + 2 ≤ b := fun b hb => by
        rcases HO1.out with h | ⟨g, h, hg⟩
        · exact JO.out b (by rw [← h]; exact hb)
        · rw [hb] at h; cases h; have := HZW.out; simp at hg; omega
      have hF6 : Frm W4.heap.size (c :: own.toList) W4 (w5.setCell ⟨c, 0, none⟩ (.slice ad1 (i + 1) cp1)) := ((((Frm.refl W4.heap.size (c :: own.toList) W4).alloc (Nat.le_refl _) _).call HF1.out (by simp) (by simp +contextual)).setCell (.inl (by simp)) _)
      have hout : ∀ x, x < N + 2 → x ≠ c → x ∉ c :: own.toList := fun x hx hne hm => by
        rcases List.mem_cons.1 hm with h | h
        · exact hne h
        · have := JO.out x (by simpa using h); omega
      show KeepY (w1_0.heap.size + 2) _ _ _ _ ∧ _ ∧ PlanJ c N u R g0 (i + 1) _
      rw [← HNE.out]
      refine ⟨keepY_of hF6 HZW.out (fun x hx hlt => ?_) (fun x hx => ?_), by simp [← HY.out], .slice ad1 (i + 1) cp1, own1, HB1.out.set 0 _, ?_, hjo, ?_, ?_, ?_⟩
      · rcases List.mem_cons.1 hx with h | h
        · simp [h]
        · have := JO.out x (by simpa using h); omega
      · rcases List.mem_cons.1 hx with h | h
        · omega
        · exact HLT.out x (by simpa using h)
      · rw [legsC_succ, ← HLG.out]
        exact HS1.out.setCell _ _ (fun b hb => by have := hjo b hb; simp; omega)
      · exact hF6.blk E5.out E5.out.lt (hout _ (by omega) (by omega))
      · exact hF6.blk E6.out E6.out.lt (hout _ (by omega) (by omega))
      · exact hF6.blk E7.out E7.out.lt (hout _ (by omega) (by omega))
    · have hyb : (y != 0) = true := by simpa using hy0
      go_wp2_with fail
      refine wpIn_cond_true rfl ?_
      refine wpIn_seq ?_
      refine regionIn_of (noOut (noOut (noOutB noOutR))) rfl ?_
      obtain ⟨oa, ocap, rfl⟩ := S4.out.form
      have c4 := E4.out.cell 0
      have f4 := E4.out.free 0
      have c5 := E5.out.cell 0
      have f5 := E5.out.free 0
      have c6 := E6.out.cell 0
      have f6 := E6.out.free 0
      have c7 := E7.out.cell 0
      have f7 := E7.out.free 0
      go_wp2_with fail
      refine wpIn_ret ?_
      have hz4 : N + 2 ≤ W4.heap.size := Nat.le_trans hz0 (Nat.le_trans HZ4.out (Nat.le_of_lt B8.out.lt))
      have hF6 := ((((Frm.refl W4.heap.size [c, c + 1, c + 1 + 1, c + 1 + 1 + 1] W4).setCell (p := ⟨c, 0, none⟩) (.inl (by simp)) (.slice none 0 0)).setCell (p := ⟨c + 1, 0, none⟩) (.inl (by simp)) (.int .i64 i)).setCell (p := ⟨c + 1 + 1, 0, none⟩) (.inl (by simp)) (.int .i64 y)).setCell (p := ⟨c + 1 + 1 + 1, 0, none⟩) (.inl (by simp)) (.int .i64 9)
      show KeepY (w1_0.heap.size + 2) _ _ _ _ ∧ _ ∧ PlanX c (ysq u n S since R g0) i _
      rw [← HNE.out]
      refine ⟨keepY_of hF6 hz4 (fun x hx _ => hx) (fun x hx => by simp at hx; omega), by simpa [← HY.out] using hy0, ?_, ?_, ?_, ?_⟩
      · exact (((E4.out.set 0 _).other' (by dsimp only; omega)).other' (by dsimp only; omega)).other' (by dsimp only; omega)
      · exact (((E5.out.other' (by dsimp only; omega)).set 0 _).other' (by dsimp only; omega)).other' (by dsimp only; omega)
      · rw [← HY.out]; exact (((E6.out.other' (by dsimp only; omega)).other' (by dsimp only; omega)).set 0 _).other' (by dsimp only; omega)
      · exact (((E7.out.other' (by dsimp only; omega)).other' (by dsimp only; omega)).other' (by dsimp only; omega)).set 0 _
  case hdone =>
    rintro W2 ⟨hf2, hT2, hall⟩ ⟨ov, own, j4, js, jo, j5, j6, j7⟩ hD
    rw [← HNE.out] at hD ⊢
    obtain ⟨g, hgn⟩ : ∃ g, g = gsq u R g0 rn := ⟨_, rfl⟩
    rw [← hgn] at hT2
    have hgk : GOK g := by rw [hgn]; exact gok_at (n := n) (S := S) (since := since) HU.out HG.out rn HW.out hall
    obtain ⟨bk, hbk⟩ : ∃ bk, bk = takesZ u.speed g.x g.y u.bx u.by_ := ⟨_, rfl⟩
    have ibk := takesZ_in (speed := u.speed) HU.out.speed.1 hgk.place HU.out.base
    rw [← hbk] at ibk
    obtain ⟨bz, hbz⟩ : ∃ bz, bz = burnsZ u.burn bk := ⟨_, rfl⟩
    have ibz := burnsZ_in HU.out.burn (t := bk) (by omega)
    rw [← hbz] at ibz
    have hgt := hgk.time
    have hgf := hgk.fuel
    have hw1 : IntKind.i64.wrap (g.time + bk) = g.time + bk := IntWalk.i64_in _ (by omega)
    have hw2 : IntKind.i64.wrap (g.fuel - bz) = g.fuel - bz := IntWalk.i64_in _ (by omega)
    have hfx : ∀ V, Frm W2.heap.size [] W2 V → V.cell? ⟨T, 13, none⟩ = some (.int .i64 g.x) ∧ V.cell? ⟨T, 14, none⟩ = some (.int .i64 g.y) ∧ V.cell? ⟨T, 8, none⟩ = some (.int .i64 u.bx) ∧ V.cell? ⟨T, 9, none⟩ = some (.int .i64 u.by_) := fun V hV => by
      have hT' := hV.blk hT2 hT2.lt (by simp)
      exact ⟨hT'.cell 13, hT'.cell 14, hT'.cell 8, hT'.cell 9⟩
    have hlu : ∀ V, Frm W2.heap.size [] W2 V → (loadVar 25 ⟨T, 0, none⟩).run Tryd.prog V = .ok (.agg u.cells.toArray) V := fun V hV => load_unit (hV.blk hT2 hT2.lt (by simp))
    have HF2 := Lib.hid hf2
    have HT2 := Lib.hid hT2
    have J4 := Lib.hid j4
    have JS := Lib.hid js
    have JO := Lib.hid jo
    have J5 := Lib.hid j5
    have J6 := Lib.hid j6
    have J7 := Lib.hid j7
    have HD := Lib.hid hD
    have HFX := Lib.hid hfx
    have HLU := Lib.hid hlu
    have HBK := Lib.hid hbk
    have HBZ := Lib.hid hbz
    have HGN := Lib.hid hgn
    have HGK := Lib.hid hgk
    have HALL := Lib.hid hall
    have IBZ := Lib.hid ibz
    have HGT := Lib.hid hgt
    have HGF := Lib.hid hgf
    have IBK := Lib.hid ibk
    clear ibk hgf hgt ibz hall hgk hgn hbz hbk hlu hfx hD j7 j6 j5 jo js j4 hT2 hf2
    dsimp only [Exit.inBlock, Exit.then]
    go_upto_region 7 with fail
    refine wp_region_leftL (fun V => Frm W2.heap.size [] W2 V) 1000 (by kernel_rfl) ?_
    have hS : Frm W2.heap.size [] W2 W2.drew := (Frm.refl _ _ W2).drew
    have HS := Lib.hid hS
    clear hS
    refine LeftL.run (v := ?_) 0 rfl (by kernel_rfl) rfl (fun _ _ d _ _ h => by cases d <;> exact h) ?_ HS.out ?_; rotate_left; (· intro V hV; obtain ⟨q0, q1, q2, q3⟩ := HFX.out V hV; clear hV; go_simp; rfl); (intro K' hK'; go_simp; refine hK' _ ?_; clear hK' K')
    refine LeftL.run (v := ?_) 1 rfl (by kernel_rfl) rfl (fun _ _ d _ _ h => by cases d <;> exact h) ?_ HS.out ?_; rotate_left; (· intro V hV; obtain ⟨q0, q1, q2, q3⟩ := HFX.out V hV; clear hV; go_simp; rfl); (intro K' hK'; go_simp; refine hK' _ ?_; clear hK' K')
    refine LeftL.run (v := ?_) 2 rfl (by kernel_rfl) rfl (fun _ _ d _ _ h => by cases d <;> exact h) ?_ HS.out ?_; rotate_left; (· intro V hV; obtain ⟨q0, q1, q2, q3⟩ := HFX.out V hV; clear hV; go_simp; rfl); (intro K' hK'; go_simp; refine hK' _ ?_; clear hK' K')
    refine LeftL.take 3 rfl (by kernel_rfl) (fun _ _ d _ _ h => by cases d <;> exact h) (yields_loadE (ty := 25) rfl rfl rfl (HLU.out)) HS.out ?_; (intro K' hK'; go_simp; refine hK' _ ?_; clear hK' K')
    refine LeftL.run (v := ?_) 4 rfl (by kernel_rfl) rfl (fun _ _ d _ _ h => by cases d <;> exact h) ?_ HS.out ?_; rotate_left; (· intro V hV; obtain ⟨q0, q1, q2, q3⟩ := HFX.out V hV; clear hV; go_simp; rfl); (intro K' hK'; go_simp; refine hK' _ ?_; clear hK' K')
    refine LeftL.run (v := ?_) 5 rfl (by kernel_rfl) rfl (fun _ _ d _ _ h => by cases d <;> exact h) ?_ HS.out ?_; rotate_left; (· intro V hV; obtain ⟨q0, q1, q2, q3⟩ := HFX.out V hV; clear hV; go_simp; rfl); (intro K' hK'; go_simp; refine hK' _ ?_; clear hK' K')
    refine LeftL.run (v := ?_) 6 rfl (by kernel_rfl) rfl (fun _ _ d _ _ h => by cases d <;> exact h) ?_ HS.out ?_; rotate_left; (· intro V hV; obtain ⟨q0, q1, q2, q3⟩ := HFX.out V hV; clear hV; go_simp; rfl); (intro K' hK'; go_simp; refine hK' _ ?_; clear hK' K')
    refine LeftL.run (v := ?_) 7 rfl (by kernel_rfl) rfl (fun _ _ d _ _ h => by cases d <;> exact h) ?_ HS.out ?_; rotate_left; (· intro V hV; obtain ⟨q0, q1, q2, q3⟩ := HFX.out V hV; clear hV; go_simp; rfl); (intro K' hK'; go_simp; refine hK' _ ?_; clear hK' K')
    refine LeftL.run (v := ?_) 8 rfl (by kernel_rfl) rfl (fun _ _ d _ _ h => by cases d <;> exact h) ?_ HS.out ?_; rotate_left; (· intro V hV; obtain ⟨q0, q1, q2, q3⟩ := HFX.out V hV; clear hV; go_simp; rfl); (intro K' hK'; go_simp; refine hK' _ ?_; clear hK' K')
    refine LeftL.run (v := ?_) 9 rfl (by kernel_rfl) rfl (fun _ _ d _ _ h => by cases d <;> exact h) ?_ HS.out ?_; rotate_left; (· intro V hV; obtain ⟨q0, q1, q2, q3⟩ := HFX.out V hV; clear hV; go_simp; rfl); (intro K' hK'; go_simp; refine hK' _ ?_; clear hK' K')
    refine LeftL.run (v := ?_) 10 rfl (by kernel_rfl) rfl (fun _ _ d _ _ h => by cases d <;> exact h) ?_ HS.out ?_; rotate_left; (· intro V hV; obtain ⟨q0, q1, q2, q3⟩ := HFX.out V hV; clear hV; go_simp; rfl); (intro K' hK'; go_simp; refine hK' _ ?_; clear hK' K')
    refine LeftL.run (v := ?_) 11 rfl (by kernel_rfl) rfl (fun _ _ d _ _ h => by cases d <;> exact h) ?_ HS.out ?_; rotate_left; (· intro V hV; obtain ⟨q0, q1, q2, q3⟩ := HFX.out V hV; clear hV; go_simp; rfl); (intro K' hK'; go_simp; refine hK' _ ?_; clear hK' K')
    refine LeftL.run (v := ?_) 12 rfl (by kernel_rfl) rfl (fun _ _ d _ _ h => by cases d <;> exact h) ?_ HS.out ?_; rotate_left; (· intro V hV; obtain ⟨q0, q1, q2, q3⟩ := HFX.out V hV; clear hV; go_simp; rfl); (intro K' hK'; go_simp; refine hK' _ ?_; clear hK' K')
    refine LeftL.one 13 rfl (by kernel_rfl) ?_
    go_wp2_with fail
    refine (takes_any u _ _ _ _ _ HU.out.speed HGK.out.place HU.out.base).mono ?_; rintro e w1 ⟨rfl, hf1⟩
    have hS1 := HS.out.call hf1 HS.out.size (by simp)
    clear hf1 HS
    have HS := Lib.hid hS1
    clear hS1
    rw [← HBK.out]
    go_wp2_with fail
    first | refine ⟨fun _ => HS.out, ?_⟩ | refine ⟨HS.out, ?_⟩
    refine LeftL.one 14 rfl (by kernel_rfl) ?_
    go_wp2_with fail
    first | refine ⟨fun _ => HS.out, ?_⟩ | refine ⟨HS.out, ?_⟩
    refine LeftL.done (by kernel_rfl) ?_
    go_upto_region 8 with fail
    refine namedC ?_; intro W3 hW3
    have hs3 : Frm W2.heap.size [] W2 W3 := by rw [hW3]; exact HS.out
    clear HS hW3
    have hT3 := hs3.blk HT2.out HT2.out.lt (by simp)
    have hfx3 : ∀ V, Frm W3.heap.size [] W3 V → V.cell? ⟨T, 13, none⟩ = some (.int .i64 g.x) ∧ V.cell? ⟨T, 14, none⟩ = some (.int .i64 g.y) ∧ V.cell? ⟨T, 8, none⟩ = some (.int .i64 u.bx) ∧ V.cell? ⟨T, 9, none⟩ = some (.int .i64 u.by_) ∧ V.cell? ⟨T, 16, none⟩ = some (.int .i64 g.time) ∧ V.cell? ⟨T, 17, none⟩ = some (.int .i64 g.fuel) := fun V hV => by
      have hT' := hV.blk hT3 hT3.lt (by simp)
      exact ⟨hT'.cell 13, hT'.cell 14, hT'.cell 8, hT'.cell 9, hT'.cell 16, hT'.cell 17⟩
    have hlu3 : ∀ V, Frm W3.heap.size [] W3 V → (loadVar 25 ⟨T, 0, none⟩).run Tryd.prog V = .ok (.agg u.cells.toArray) V := fun V hV => load_unit (hV.blk hT3 hT3.lt (by simp))
    clear HFX HLU
    have HS3 := Lib.hid hs3
    have HT3 := Lib.hid hT3
    have HFX := Lib.hid hfx3
    have HLU := Lib.hid hlu3
    clear hlu3 hfx3 hT3 hs3
    go_cut [11] from 40 to 76 (fun s11 w' => ∃ k, s11 = .pointer (some ⟨k, 0, none⟩) ∧ W3.heap.size ≤ k ∧ Blk w' k 49 (LC.cells ⟨g.x, g.y, u.bx, u.by_, g.time, g.time + bk, g.time + bk, g.fuel - bz⟩) ∧ Frm W3.heap.size [] W3 w')
    case first =>
      refine wp_region_leftL (fun V => Frm W3.heap.size [] W3 V) 1000 (by kernel_rfl) ?_
      have hS : Frm W3.heap.size [] W3 W3.drew := (Frm.refl _ _ W3).drew
      have HS := Lib.hid hS
      clear hS
      refine LeftL.run (v := ?_) 0 rfl (by kernel_rfl) rfl (fun _ _ d _ _ h => by cases d <;> exact h) ?_ HS.out ?_; rotate_left; (· intro V hV; obtain ⟨q0, q1, q2, q3, q4, q5⟩ := HFX.out V hV; clear hV; go_simp; rfl); (intro K' hK'; go_simp; refine hK' _ ?_; clear hK' K')
      refine LeftL.run (v := ?_) 1 rfl (by kernel_rfl) rfl (fun _ _ d _ _ h => by cases d <;> exact h) ?_ HS.out ?_; rotate_left; (· intro V hV; obtain ⟨q0, q1, q2, q3, q4, q5⟩ := HFX.out V hV; clear hV; go_simp; rfl); (intro K' hK'; go_simp; refine hK' _ ?_; clear hK' K')
      refine LeftL.run (v := ?_) 2 rfl (by kernel_rfl) rfl (fun _ _ d _ _ h => by cases d <;> exact h) ?_ HS.out ?_; rotate_left; (· intro V hV; obtain ⟨q0, q1, q2, q3, q4, q5⟩ := HFX.out V hV; clear hV; go_simp; rfl); (intro K' hK'; go_simp; refine hK' _ ?_; clear hK' K')
      refine LeftL.run (v := ?_) 3 rfl (by kernel_rfl) rfl (fun _ _ d _ _ h => by cases d <;> exact h) ?_ HS.out ?_; rotate_left; (· intro V hV; obtain ⟨q0, q1, q2, q3, q4, q5⟩ := HFX.out V hV; clear hV; go_simp; rfl); (intro K' hK'; go_simp; refine hK' _ ?_; clear hK' K')
      refine LeftL.run (v := ?_) 4 rfl (by kernel_rfl) rfl (fun _ _ d _ _ h => by cases d <;> exact h) ?_ HS.out ?_; rotate_left; (· intro V hV; obtain ⟨q0, q1, q2, q3, q4, q5⟩ := HFX.out V hV; clear hV; go_simp; rfl); (intro K' hK'; go_simp; refine hK' _ ?_; clear hK' K')
      refine LeftL.run (v := ?_) 5 rfl (by kernel_rfl) rfl (fun _ _ d _ _ h => by cases d <;> exact h) ?_ HS.out ?_; rotate_left; (· intro V hV; obtain ⟨q0, q1, q2, q3, q4, q5⟩ := HFX.out V hV; clear hV; go_simp; rfl); (intro K' hK'; go_simp; refine hK' _ ?_; clear hK' K')
      refine LeftL.run (v := ?_) 6 rfl (by kernel_rfl) rfl (fun _ _ d _ _ h => by cases d <;> exact h) ?_ HS.out ?_; rotate_left; (· intro V hV; obtain ⟨q0, q1, q2, q3, q4, q5⟩ := HFX.out V hV; clear hV; go_simp; rfl); (intro K' hK'; go_simp; refine hK' _ ?_; clear hK' K')
      refine LeftL.run (v := ?_) 7 rfl (by kernel_rfl) rfl (fun _ _ d _ _ h => by cases d <;> exact h) ?_ HS.out ?_; rotate_left; (· intro V hV; obtain ⟨q0, q1, q2, q3, q4, q5⟩ := HFX.out V hV; clear hV; go_simp; rfl); (intro K' hK'; go_simp; refine hK' _ ?_; clear hK' K')
      refine LeftL.run (v := ?_) 8 rfl (by kernel_rfl) rfl (fun _ _ d _ _ h => by cases d <;> exact h) ?_ HS.out ?_; rotate_left; (· intro V hV; obtain ⟨q0, q1, q2, q3, q4, q5⟩ := HFX.out V hV; clear hV; go_simp; rfl); (intro K' hK'; go_simp; refine hK' _ ?_; clear hK' K')
      refine LeftL.run (v := ?_) 9 rfl (by kernel_rfl) rfl (fun _ _ d _ _ h => by cases d <;> exact h) ?_ HS.out ?_; rotate_left; (· intro V hV; obtain ⟨q0, q1, q2, q3, q4, q5⟩ := HFX.out V hV; clear hV; go_simp; rfl); (intro K' hK'; go_simp; refine hK' _ ?_; clear hK' K')
      refine LeftL.run (v := ?_) 10 rfl (by kernel_rfl) rfl (fun _ _ d _ _ h => by cases d <;> exact h) ?_ HS.out ?_; rotate_left; (· intro V hV; obtain ⟨q0, q1, q2, q3, q4, q5⟩ := HFX.out V hV; clear hV; go_simp; rfl); (intro K' hK'; go_simp; refine hK' _ ?_; clear hK' K')
      refine LeftL.run (v := ?_) 11 rfl (by kernel_rfl) rfl (fun _ _ d _ _ h => by cases d <;> exact h) ?_ HS.out ?_; rotate_left; (· intro V hV; obtain ⟨q0, q1, q2, q3, q4, q5⟩ := HFX.out V hV; clear hV; go_simp; rfl); (intro K' hK'; go_simp; refine hK' _ ?_; clear hK' K')
      refine LeftL.run (v := ?_) 12 rfl (by kernel_rfl) rfl (fun _ _ d _ _ h => by cases d <;> exact h) ?_ HS.out ?_; rotate_left; (· intro V hV; obtain ⟨q0, q1, q2, q3, q4, q5⟩ := HFX.out V hV; clear hV; go_simp; rfl); (intro K' hK'; go_simp; refine hK' _ ?_; clear hK' K')
      refine LeftL.run (v := ?_) 13 rfl (by kernel_rfl) rfl (fun _ _ d _ _ h => by cases d <;> exact h) ?_ HS.out ?_; rotate_left; (· intro V hV; obtain ⟨q0, q1, q2, q3, q4, q5⟩ := HFX.out V hV; clear hV; go_simp; rfl); (intro K' hK'; go_simp; refine hK' _ ?_; clear hK' K')
      refine LeftL.run (v := ?_) 14 rfl (by kernel_rfl) rfl (fun _ _ d _ _ h => by cases d <;> exact h) ?_ HS.out ?_; rotate_left; (· intro V hV; obtain ⟨q0, q1, q2, q3, q4, q5⟩ := HFX.out V hV; clear hV; go_simp; rfl); (intro K' hK'; go_simp; refine hK' _ ?_; clear hK' K')
      refine LeftL.run (v := ?_) 15 rfl (by kernel_rfl) rfl (fun _ _ d _ _ h => by cases d <;> exact h) ?_ HS.out ?_; rotate_left; (· intro V hV; obtain ⟨q0, q1, q2, q3, q4, q5⟩ := HFX.out V hV; clear hV; go_simp; rfl); (intro K' hK'; go_simp; refine hK' _ ?_; clear hK' K')
      refine LeftL.run (v := ?_) 16 rfl (by kernel_rfl) rfl (fun _ _ d _ _ h => by cases d <;> exact h) ?_ HS.out ?_; rotate_left; (· intro V hV; obtain ⟨q0, q1, q2, q3, q4, q5⟩ := HFX.out V hV; clear hV; go_simp; rfl); (intro K' hK'; go_simp; refine hK' _ ?_; clear hK' K')
      refine LeftL.run (v := ?_) 17 rfl (by kernel_rfl) rfl (fun _ _ d _ _ h => by cases d <;> exact h) ?_ HS.out ?_; rotate_left; (· intro V hV; obtain ⟨q0, q1, q2, q3, q4, q5⟩ := HFX.out V hV; clear hV; go_simp; rfl); (intro K' hK'; go_simp; refine hK' _ ?_; clear hK' K')
      refine LeftL.run (v := ?_) 18 rfl (by kernel_rfl) rfl (fun _ _ d _ _ h => by cases d <;> exact h) ?_ HS.out ?_; rotate_left; (· intro V hV; obtain ⟨q0, q1, q2, q3, q4, q5⟩ := HFX.out V hV; clear hV; go_simp; rfl); (intro K' hK'; go_simp; refine hK' _ ?_; clear hK' K')
      refine LeftL.run (v := ?_) 19 rfl (by kernel_rfl) rfl (fun _ _ d _ _ h => by cases d <;> exact h) ?_ HS.out ?_; rotate_left; (· intro V hV; obtain ⟨q0, q1, q2, q3, q4, q5⟩ := HFX.out V hV; clear hV; go_simp; rfl); (intro K' hK'; go_simp; refine hK' _ ?_; clear hK' K')
      refine LeftL.run (v := ?_) 20 rfl (by kernel_rfl) rfl (fun _ _ d _ _ h => by cases d <;> exact h) ?_ HS.out ?_; rotate_left; (· intro V hV; obtain ⟨q0, q1, q2, q3, q4, q5⟩ := HFX.out V hV; clear hV; go_simp; rfl); (intro K' hK'; go_simp; refine hK' _ ?_; clear hK' K')
      refine LeftL.run (v := ?_) 21 rfl (by kernel_rfl) rfl (fun _ _ d _ _ h => by cases d <;> exact h) ?_ HS.out ?_; rotate_left; (· intro V hV; obtain ⟨q0, q1, q2, q3, q4, q5⟩ := HFX.out V hV; clear hV; go_simp; rfl); (intro K' hK'; go_simp; refine hK' _ ?_; clear hK' K')
      refine LeftL.run (v := ?_) 22 rfl (by kernel_rfl) rfl (fun _ _ d _ _ h => by cases d <;> exact h) ?_ HS.out ?_; rotate_left; (· intro V hV; obtain ⟨q0, q1, q2, q3, q4, q5⟩ := HFX.out V hV; clear hV; go_simp; rfl); (intro K' hK'; go_simp; refine hK' _ ?_; clear hK' K')
      refine LeftL.run (v := ?_) 23 rfl (by kernel_rfl) rfl (fun _ _ d _ _ h => by cases d <;> exact h) ?_ HS.out ?_; rotate_left; (· intro V hV; obtain ⟨q0, q1, q2, q3, q4, q5⟩ := HFX.out V hV; clear hV; go_simp; rfl); (intro K' hK'; go_simp; refine hK' _ ?_; clear hK' K')
      refine LeftL.run (v := ?_) 24 rfl (by kernel_rfl) rfl (fun _ _ d _ _ h => by cases d <;> exact h) ?_ HS.out ?_; rotate_left; (· intro V hV; obtain ⟨q0, q1, q2, q3, q4, q5⟩ := HFX.out V hV; clear hV; go_simp; rfl); (intro K' hK'; go_simp; refine hK' _ ?_; clear hK' K')
      refine LeftL.run (v := ?_) 25 rfl (by kernel_rfl) rfl (fun _ _ d _ _ h => by cases d <;> exact h) ?_ HS.out ?_; rotate_left; (· intro V hV; obtain ⟨q0, q1, q2, q3, q4, q5⟩ := HFX.out V hV; clear hV; go_simp; rfl); (intro K' hK'; go_simp; refine hK' _ ?_; clear hK' K')
      refine LeftL.run (v := ?_) 26 rfl (by kernel_rfl) rfl (fun _ _ d _ _ h => by cases d <;> exact h) ?_ HS.out ?_; rotate_left; (· intro V hV; obtain ⟨q0, q1, q2, q3, q4, q5⟩ := HFX.out V hV; clear hV; go_simp; rfl); (intro K' hK'; go_simp; refine hK' _ ?_; clear hK' K')
      refine LeftL.run (v := ?_) 27 rfl (by kernel_rfl) rfl (fun _ _ d _ _ h => by cases d <;> exact h) ?_ HS.out ?_; rotate_left; (· intro V hV; obtain ⟨q0, q1, q2, q3, q4, q5⟩ := HFX.out V hV; clear hV; go_simp; rfl); (intro K' hK'; go_simp; refine hK' _ ?_; clear hK' K')
      refine LeftL.run (v := ?_) 28 rfl (by kernel_rfl) rfl (fun _ _ d _ _ h => by cases d <;> exact h) ?_ HS.out ?_; rotate_left; (· intro V hV; obtain ⟨q0, q1, q2, q3, q4, q5⟩ := HFX.out V hV; clear hV; go_simp; rfl); (intro K' hK'; go_simp; refine hK' _ ?_; clear hK' K')
      refine LeftL.run (v := ?_) 29 rfl (by kernel_rfl) rfl (fun _ _ d _ _ h => by cases d <;> exact h) ?_ HS.out ?_; rotate_left; (· intro V hV; obtain ⟨q0, q1, q2, q3, q4, q5⟩ := HFX.out V hV; clear hV; go_simp; rfl); (intro K' hK'; go_simp; refine hK' _ ?_; clear hK' K')
      refine LeftL.run (v := ?_) 30 rfl (by kernel_rfl) rfl (fun _ _ d _ _ h => by cases d <;> exact h) ?_ HS.out ?_; rotate_left; (· intro V hV; obtain ⟨q0, q1, q2, q3, q4, q5⟩ := HFX.out V hV; clear hV; go_simp; rfl); (intro K' hK'; go_simp; refine hK' _ ?_; clear hK' K')
      refine LeftL.run (v := ?_) 31 rfl (by kernel_rfl) rfl (fun _ _ d _ _ h => by cases d <;> exact h) ?_ HS.out ?_; rotate_left; (· intro V hV; obtain ⟨q0, q1, q2, q3, q4, q5⟩ := HFX.out V hV; clear hV; go_simp; rfl); (intro K' hK'; go_simp; refine hK' _ ?_; clear hK' K')
      refine LeftL.take 32 rfl (by kernel_rfl) (fun _ _ d _ _ h => by cases d <;> exact h) (yields_loadE (ty := 25) rfl rfl rfl (HLU.out)) HS.out ?_; (intro K' hK'; go_simp; refine hK' _ ?_; clear hK' K')
      refine LeftL.run (v := ?_) 33 rfl (by kernel_rfl) rfl (fun _ _ d _ _ h => by cases d <;> exact h) ?_ HS.out ?_; rotate_left; (· intro V hV; obtain ⟨q0, q1, q2, q3, q4, q5⟩ := HFX.out V hV; clear hV; go_simp; rfl); (intro K' hK'; go_simp; refine hK' _ ?_; clear hK' K')
      refine LeftL.two 34 37 rfl rfl (by kernel_rfl) ?_ ?_
      · go_wp2_with fail
        refine (burns_any u bk _ HU.out.burn (by have := IBK.out; omega)).mono ?_; rintro e w5 ⟨rfl, hf1⟩
        have hS1 := HS.out.call hf1 HS.out.size (by simp)
        clear hf1 HS
        have HS := Lib.hid hS1
        clear hS1
        rw [← HBZ.out]
        go_wp2_with fail
        first | refine ⟨fun _ => HS.out, ?_⟩ | refine ⟨HS.out, ?_⟩
        refine LeftL.run (v := ?_) 35 rfl (by kernel_rfl) rfl (fun _ _ d _ _ h => by cases d <;> exact h) ?_ HS.out ?_; rotate_left; (· intro V hV; obtain ⟨q0, q1, q2, q3, q4, q5⟩ := HFX.out V hV; clear hV; go_simp; rfl); (intro K' hK'; go_simp; refine hK' _ ?_; clear hK' K')
        refine LeftL.run (v := ?_) 36 rfl (by kernel_rfl) rfl (fun _ _ d _ _ h => by cases d <;> exact h) ?_ HS.out ?_; rotate_left; (· intro V hV; obtain ⟨q0, q1, q2, q3, q4, q5⟩ := HFX.out V hV; clear hV; go_simp; rfl); (intro K' hK'; go_simp; refine hK' _ ?_; clear hK' K')
        refine LeftL.one 37 rfl (by kernel_rfl) ?_
        go_wp2_with fail
        have hS2 := HS.out.alloc HS.out.size (.cells #[.int .i64 0, .int .i64 0, .int .i64 0, .int .i64 0, .int .i64 0, .int .i64 0, .int .i64 0, .int .i64 0] 49)
        have hB := Blk.new w5 49 [.int .i64 0, .int .i64 0, .int .i64 0, .int .i64 0, .int .i64 0, .int .i64 0, .int .i64 0, .int .i64 0]
        have hk2 : W3.heap.size ≤ w5.heap.size := HS.out.size
        clear HS
        have HS := Lib.hid hS2
        have HBN := Lib.hid hB
        have HKK2 := Lib.hid hk2
        clear hk2 hB hS2
        first | refine ⟨fun _ => HS.out, ?_⟩ | refine ⟨HS.out, ?_⟩
        refine LeftL.one 38 rfl (by kernel_rfl) ?_
        refine wpList_storeB (P := Tryd.prog) (ty := 49) (cs := LC.cells ⟨g.x, g.y, u.bx, u.by_, g.time, g.time + bk, g.time + bk, g.fuel - bz⟩) rfl rfl HBN.out rfl rfl rfl info49 (by simp [LC.cells, Value.oneCell']) ?_
        refine wpList_nil ?_
        have hS3 := HS.out.setRow (g := w5.heap.size) (.inr HKK2.out) (LC.cells ⟨g.x, g.y, u.bx, u.by_, g.time, g.time + bk, g.time + bk, g.fuel - bz⟩).toArray
        refine ⟨fun _ => hS3, ?_⟩
        refine LeftL.done (by kernel_rfl) ?_
        simp only [Act.put]
        go_wp2_with fail
        go_meet
        case rel => exact ⟨_, rfl, HKK2.out, HBN.out.row _, hS3⟩
      · go_wp2_with fail
        have hS2 := HS.out.alloc HS.out.size (.cells #[.int .i64 0, .int .i64 0, .int .i64 0, .int .i64 0, .int .i64 0, .int .i64 0, .int .i64 0, .int .i64 0] 49)
        have hB := Blk.new W3.drew 49 [.int .i64 0, .int .i64 0, .int .i64 0, .int .i64 0, .int .i64 0, .int .i64 0, .int .i64 0, .int .i64 0]
        have hk2 : W3.heap.size ≤ W3.drew.heap.size := HS.out.size
        clear HS
        have HS := Lib.hid hS2
        have HBN := Lib.hid hB
        have HKK2 := Lib.hid hk2
        clear hk2 hB hS2
        first | refine ⟨fun _ => HS.out, ?_⟩ | refine ⟨HS.out, ?_⟩
        refine LeftL.one 34 rfl (by kernel_rfl) ?_
        go_wp2_with fail
        refine (burns_any u bk _ HU.out.burn (by have := IBK.out; omega)).mono ?_; rintro e w5 ⟨rfl, hf1⟩
        have hS1 := HS.out.call hf1 HS.out.size (by simp)
        have hB := hf1.blk HBN.out HBN.out.lt (by simp)
        clear hf1 HS HBN
        have HS := Lib.hid hS1
        have HBN := Lib.hid hB
        clear hB hS1
        rw [← HBZ.out]
        go_wp2_with fail
        first | refine ⟨fun _ => HS.out, ?_⟩ | refine ⟨HS.out, ?_⟩
        refine LeftL.run (v := ?_) 35 rfl (by kernel_rfl) rfl (fun _ _ d _ _ h => by cases d <;> exact h) ?_ HS.out ?_; rotate_left; (· intro V hV; obtain ⟨q0, q1, q2, q3, q4, q5⟩ := HFX.out V hV; clear hV; go_simp; rfl); (intro K' hK'; go_simp; refine hK' _ ?_; clear hK' K')
        refine LeftL.run (v := ?_) 36 rfl (by kernel_rfl) rfl (fun _ _ d _ _ h => by cases d <;> exact h) ?_ HS.out ?_; rotate_left; (· intro V hV; obtain ⟨q0, q1, q2, q3, q4, q5⟩ := HFX.out V hV; clear hV; go_simp; rfl); (intro K' hK'; go_simp; refine hK' _ ?_; clear hK' K')
        refine LeftL.one 38 rfl (by kernel_rfl) ?_
        refine wpList_storeB (P := Tryd.prog) (ty := 49) (cs := LC.cells ⟨g.x, g.y, u.bx, u.by_, g.time, g.time + bk, g.time + bk, g.fuel - bz⟩) rfl rfl HBN.out rfl rfl rfl info49 (by simp [LC.cells, Value.oneCell']) ?_
        refine wpList_nil ?_
        have hS3 := HS.out.setRow (g := W3.drew.heap.size) (.inr HKK2.out) (LC.cells ⟨g.x, g.y, u.bx, u.by_, g.time, g.time + bk, g.time + bk, g.fuel - bz⟩).toArray
        refine ⟨fun _ => hS3, ?_⟩
        refine LeftL.done (by kernel_rfl) ?_
        simp only [Act.put]
        go_wp2_with fail
        go_meet
        case rel => exact ⟨_, rfl, HKK2.out, HBN.out.row _, hS3⟩
    obtain ⟨k11, rfl, hk11, hB11, hS11⟩ := hcut
    have f9 : Frm W2.heap.size [] W2 wc := HS3.out.call hS11 HS3.out.size (by simp)
    have hNW : N < W2.heap.size := (Array.getElem?_eq_some_iff.1 HD.out).1
    have hD9 := f9.at_ HD.out hNW (by simp)
    obtain ⟨oa, ocap, rfl⟩ := JS.out.form
    have e4 := f9.blk J4.out J4.out.lt (by simp)
    have e5 := f9.blk J5.out J5.out.lt (by simp)
    have e6 := f9.blk J6.out J6.out.lt (by simp)
    have e7 := f9.blk J7.out J7.out.lt (by simp)
    have s9 := JS.out.frm f9 JS.out.lt (by simp)
    have hL2 : N + 2 ≤ wc.heap.size ∨ own = none := by
      rcases ho : own with _ | b
      · exact .inr rfl
      · left; have := JO.out b ho; have := s9.lt b ho; omega
    have hf3 : Frm c [T] w w1_0 := by rw [HC.out]; exact HFW1.out.narrow (by simp)
    have hff : Frm c [T] w wc := (hf3.trans (HF2.out.mono (B' := c) (by omega) (fun k hk hm => by simp at hm ⊢; omega))).call f9 (by omega) (by simp)
    have c4 := e4.cell 0
    have g4 := e4.free 0
    have c5 := e5.cell 0
    have g5 := e5.free 0
    have c6 := e6.cell 0
    have g6 := e6.free 0
    have c7 := e7.cell 0
    have g7 := e7.free 0
    have hlo11 : (loadVar 49 ⟨k11, 0, none⟩).run Tryd.prog wc = .ok (.agg #[.int .i64 g.x, .int .i64 g.y, .int .i64 u.bx, .int .i64 u.by_, .int .i64 g.time, .int .i64 (g.time + bk), .int .i64 (g.time + bk), .int .i64 (g.fuel - bz)]) wc := loadVarB hB11 (P := Tryd.prog) Tryd.underlying49 rfl info49
    obtain ⟨i0, hi0, hz0', hz1, hz2⟩ := info_parts3 info49x
    have hcl : c < wc.heap.size := e4.lt
    clear hB11 hS11 hk11 hf3
    have HLO11 := Lib.hid hlo11
    have HI0 := Lib.hid hi0
    have HZ0 := Lib.hid hz0'
    have HZ1 := Lib.hid hz1
    have HZ2 := Lib.hid hz2
    have HCL := Lib.hid hcl
    have F9 := Lib.hid f9
    have HNW := Lib.hid hNW
    have HD9 := Lib.hid hD9
    have E4 := Lib.hid e4
    have E5 := Lib.hid e5
    have E6 := Lib.hid e6
    have E7 := Lib.hid e7
    have S9 := Lib.hid s9
    have HFF := Lib.hid hff
    clear hff s9 e7 e6 e5 e4 hD9 hNW f9 hcl hz2 hz1 hz0' hi0 hlo11
    go_wp2_with (first | (with_reducible refine atLoad 49 rfl ?_; refine wpList_loadE rfl rfl rfl HLO11.out ?_) | (at_builtin; refine wpList_append_sl _ rfl (.tmp 77) (.tmp 79) 39 rfl 49 i0 _ 8 64 Tryd.underlying39 HI0.out HZ0.out HZ1.out HZ2.out rfl _ rn _ own rfl (S9.out.alloc _) ⟨wc.heap.size, 0, none⟩ 1 1 (LC.cells ⟨g.x, g.y, u.bx, u.by_, g.time, g.time + bk, g.time + bk, g.fuel - bz⟩) rfl rfl (news_alloc _ (LC.cells ⟨g.x, g.y, u.bx, u.by_, g.time, g.time + bk, g.time + bk, g.fuel - bz⟩) _) (by simp [LC.cells, Value.oneCell']) (by have := HRN.out; unfold maxLen; omega) (by have := HRN.out; omega) ?_; intro v1 w5 own1 hs1 hf1 ho1; obtain ⟨ad1, cp1, rfl⟩ := hs1.form; have HS1 := Lib.hid hs1; have HF1 := Lib.hid hf1; have HO1 := Lib.hid ho1; have hb4 := hf1.blk (E4.out.alloc _) (by have := E4.out.lt; simp; omega) (by intro hm; have := JO.out (c) (by simpa using hm); omega); have HB4 := Lib.hid hb4; clear hb4; have y4 := HB4.out.cell 0; have k4 := HB4.out.free 0; simp only [List.getElem?_cons_zero] at y4; have hb5 := hf1.blk (E5.out.alloc _) (by have := E5.out.lt; simp; omega) (by intro hm; have := JO.out (c + 1) (by simpa using hm); omega); have HB5 := Lib.hid hb5; clear hb5; have y5 := HB5.out.cell 0; have k5 := HB5.out.free 0; simp only [List.getElem?_cons_zero] at y5; have hb6 := hf1.blk (E6.out.alloc _) (by have := E6.out.lt; simp; omega) (by intro hm; have := JO.out (c + 1 + 1) (by simpa using hm); omega); have HB6 := Lib.hid hb6; clear hb6; have y6 := HB6.out.cell 0; have k6 := HB6.out.free 0; simp only [List.getElem?_cons_zero] at y6; have hb7 := hf1.blk (E7.out.alloc _) (by have := E7.out.lt; simp; omega) (by intro hm; have := JO.out (c + 1 + 1 + 1) (by simpa using hm); omega); have HB7 := Lib.hid hb7; clear hb7; have y7 := HB7.out.cell 0; have k7 := HB7.out.free 0; simp only [List.getElem?_cons_zero] at y7; clear hs1 hf1 ho1))
    have hNc : N < wc.heap.size := Nat.lt_of_lt_of_le HNW.out F9.out.size
    have hjo : ∀ b, own1 = some b → N + 1 ≤ b := fun b hb => by
      rcases HO1.out with h | ⟨g, h, hg⟩
      · have := JO.out b (by rw [← h]; exact hb); omega
      · rw [hb] at h; cases h; simp at hg; omega
    have hF6 := (((((((Frm.refl wc.heap.size (c :: (c + 1) :: (c + 1 + 1) :: (c + 1 + 1 + 1) :: own.toList) wc).alloc (Nat.le_refl _) _).call HF1.out (by simp) (by simp +contextual)).setCell (p := ⟨c, 0, none⟩) (.inl (by simp)) (.slice ad1 (rn + 1) cp1)).setCell (p := ⟨c + 1, 0, none⟩) (.inl (by simp)) (.int .i64 (-1))).setCell (p := ⟨c + 1 + 1, 0, none⟩) (.inl (by simp)) (.int .i64 0)).setCell (p := ⟨c + 1 + 1 + 1, 0, none⟩) (.inl (by simp)) (.int .i64 0))
    have hout : ∀ x, x < N + 1 → x ≠ c → x ≠ c + 1 → x ≠ c + 1 + 1 → x ≠ c + 1 + 1 + 1 → x ∉ c :: (c + 1) :: (c + 1 + 1) :: (c + 1 + 1 + 1) :: own.toList := fun x hx h1 h2 h3 h4 hm => by
      simp only [List.mem_cons] at hm
      rcases hm with h | h | h | h | h
      · exact h1 h
      · exact h2 h
      · exact h3 h
      · exact h4 h
      · have := JO.out x (by simpa using h); omega
    have hD6 := hF6.at_ HD9.out hNc (hout N (by omega) (by omega) (by omega) (by omega) (by omega))
    have hfin : Frm c [T] w _ := HFF.out.trans (hF6.mono (B' := c) (by omega) (fun k hk hm => absurd hm (hout k (by omega) (by omega) (by omega) (by omega) (by omega))))
    have z4 := (((HB4.out.set 0 (.slice ad1 (rn + 1) cp1)).other' (a := ⟨c + 1, 0, none⟩) (v := .int .i64 (-1)) (by dsimp only; omega)).other' (a := ⟨c + 1 + 1, 0, none⟩) (v := .int .i64 0) (by dsimp only; omega)).other' (a := ⟨c + 1 + 1 + 1, 0, none⟩) (v := .int .i64 0) (by dsimp only; omega)
    have z5 := (((HB5.out.other' (a := ⟨c, 0, none⟩) (v := .slice ad1 (rn + 1) cp1) (by dsimp only; omega)).set 0 (.int .i64 (-1))).other' (a := ⟨c + 1 + 1, 0, none⟩) (v := .int .i64 0) (by dsimp only; omega)).other' (a := ⟨c + 1 + 1 + 1, 0, none⟩) (v := .int .i64 0) (by dsimp only; omega)
    have z6 := (((HB6.out.other' (a := ⟨c, 0, none⟩) (v := .slice ad1 (rn + 1) cp1) (by dsimp only; omega)).other' (a := ⟨c + 1, 0, none⟩) (v := .int .i64 (-1)) (by dsimp only; omega)).set 0 (.int .i64 0)).other' (a := ⟨c + 1 + 1 + 1, 0, none⟩) (v := .int .i64 0) (by dsimp only; omega)
    have z7 := (((HB7.out.other' (a := ⟨c, 0, none⟩) (v := .slice ad1 (rn + 1) cp1) (by dsimp only; omega)).other' (a := ⟨c + 1, 0, none⟩) (v := .int .i64 (-1)) (by dsimp only; omega)).other' (a := ⟨c + 1 + 1, 0, none⟩) (v := .int .i64 0) (by dsimp only; omega)).set 0 (.int .i64 0)
    have hsl := (((HS1.out.setCell ⟨c, 0, none⟩ (.slice ad1 (rn + 1) cp1) (fun b hb => by have := hjo b hb; dsimp only; omega)).setCell ⟨c + 1, 0, none⟩ (.int .i64 (-1)) (fun b hb => by have := hjo b hb; dsimp only; omega)).setCell ⟨c + 1 + 1, 0, none⟩ (.int .i64 0) (fun b hb => by have := hjo b hb; dsimp only; omega)).setCell ⟨c + 1 + 1 + 1, 0, none⟩ (.int .i64 0) (fun b hb => by have := hjo b hb; dsimp only; omega)
    have put : ∀ {b : Nat} (A : World) (o : Obj), b ≠ N → (A.putObj N o).heap[b]? = A.heap[b]? := fun A o hb => World.putObj_heap_other hb
    refine ⟨by simp, .inl ⟨_, _, rfl, run_takeDeferred hD6, ?_⟩⟩
    refine ⟨_, results_61 (p4 := c) (p5 := c + 1) (p6 := c + 1 + 1) (p7 := c + 1 + 1 + 1) rfl rfl rfl rfl ((put _ _ (by omega)).trans z4) ((put _ _ (by omega)).trans z5) ((put _ _ (by omega)).trans z6) ((put _ _ (by omega)).trans z7), ?_⟩
    rw [← HC.out]
    refine ⟨hfin.putObj (.inr (by omega)) _, .inl ⟨_, own1, rfl, ?_, fun b hb => by have := hjo b hb; omega, HALL.out⟩⟩
    have hhome : (homeLeg u (gsq u R g0 rn)).cells = LC.cells ⟨g.x, g.y, u.bx, u.by_, g.time, g.time + bk, g.time + bk, g.fuel - bz⟩ := by
      rw [← HGN.out, HBZ.out, HBK.out]; rfl
    rw [hhome]
    exact hsl.kept fun b hb => put _ _ (by have := hjo b hb; omega)
  case hstop =>
    rintro i W2 ⟨hf2, hi, hno, hy⟩ ⟨x4, x5, x6, x7⟩ hD
    rw [← HNE.out] at hD
    have hND : N < W2.heap.size := (Array.getElem?_eq_some_iff.1 hD).1
    have put : ∀ {b E : Nat} {cs : List Value} (o : Obj), b < N → Blk W2 b E cs → Blk (W2.putObj N o) b E cs := fun o hb h => (World.putObj_heap_other (by omega)).trans h
    have hf3 : Frm c [T] w w1_0 := by rw [HC.out]; exact HFW1.out.narrow (by simp)
    have hff : Frm c [T] w W2 := hf3.trans ((hf2.mono (B' := c) (by omega) (fun k hk hm => by simp at hm ⊢; omega)))
    rw [← HNE.out]
    dsimp only [Exit.inBlock, Exit.then]
    refine ⟨by simp, .inl ⟨_, _, rfl, run_takeDeferred hD, ?_⟩⟩
    refine ⟨_, results_61 (p4 := c) (p5 := c + 1) (p6 := c + 1 + 1) (p7 := c + 1 + 1 + 1) rfl rfl rfl rfl (put _ (by omega) x4) (put _ (by omega) x5) (put _ (by omega) x6) (put _ (by omega) x7), ?_⟩
    rw [← HC.out]
    exact ⟨hff.putObj (.inr (by omega)) _, .inr ⟨i, hi, hno, hy, rfl⟩⟩
end Go.Proofs.YtghkfopcjdkieaaDoor
