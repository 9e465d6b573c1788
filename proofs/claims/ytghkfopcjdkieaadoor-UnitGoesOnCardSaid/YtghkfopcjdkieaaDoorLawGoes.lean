/-
  A plan that is made again where one of its legs ends is what is left of it; the fuel of a plan.
-/
import Derived.Test.YtghkfopcjdkieaaDoorG1
import Derived.Test.YtghkfopcjdkieaaDoorA2
import Derived.Test.YtghkfopcjdkieaaDoorOpenT
namespace Go.Proofs.YtghkfopcjdkieaaDoor
open Go.ChangeShapes Go.WideShapes Go.ChangeAt Go.RowKit

attribute [local go_sem ↓ high] run_min_ run_max_ run_min2 run_max2
/-- What the statement reads. -/
structure GoEnv (V : World) (c : Nat) (u : UC) (start : Int) (ra : Option Addr) (rb roff rn rcap : Nat) (R : Nat → WC) (sa : Option Addr) (sb soff n cap : Nat) (S : Nat → FC) (b0 b1 : Int) : Prop where
  u : Blk V c 25 u.cells
  t : Blk V (c + 1) 37 (taskC start ra rn rcap sa n cap)
  b : Blk V (c + 2) 72 [.int .i64 b0, .int .i64 b1]
  r : Rw V 3 ra rb roff rn fun i => (R i).cells
  s : Rw V 8 sa sb soff n fun i => (S i).cells
theorem GoEnv.frm {V V' : World} {B c : Nat} {u : UC} {start : Int} {ra : Option Addr} {rb roff rn rcap : Nat} {R : Nat → WC} {sa : Option Addr} {sb soff n cap : Nat} {S : Nat → FC} {b0 b1 : Int}
    (h : GoEnv V c u start ra rb roff rn rcap R sa sb soff n cap S b0 b1) (hf : Frm B [] V V') (hB : V.heap.size ≤ B) : GoEnv V' c u start ra rb roff rn rcap R sa sb soff n cap S b0 b1 :=
  ⟨hf.blk h.u (Nat.lt_of_lt_of_le h.u.lt hB) (by simp), hf.blk h.t (Nat.lt_of_lt_of_le h.t.lt hB) (by simp), hf.blk h.b (Nat.lt_of_lt_of_le h.b.lt hB) (by simp), h.r.frm hf hB, h.s.frm hf hB⟩
/-- The rest of a row. -/
theorem Rw.rest {w : World} {size : Nat} {ad : Option Addr} {b off n : Nat} {f : Nat → List Value} (h : Rw w size ad b off n f) (k : Nat) (hk : k ≤ n) {cap : Nat} (hc : n ≤ cap) : Rw w size (if cap = k then ad else ad.map (·.add (k * size))) b (off + k * size) (n - k) fun i => f (k + i) := by
  refine ⟨fun h0 => ?_, by have := h.len; omega, fun i hi j v hv => ?_⟩
  · rw [h.ad (by omega), if_neg (by omega)]
    simp only [Option.map_some]
    congr 1
    unfold Addr.add
    split
    · rename_i e; rw [e, Nat.add_zero]
    · rfl
  · have := h.at_ (k + i) (by omega) j v hv
    rw [Nat.add_mul] at this
    rw [← this]
    congr 2
    omega
theorem wrapRem {x A : Int} (hA : 1 ≤ A) (hA2 : A ≤ 2000000000) : ∃ a b c : Int, x.tmod A = a ∧ IntKind.i64.wrap a = a ∧ IntKind.i64.wrap (a + A) = b ∧ b.tmod A = c ∧ IntKind.i64.wrap c = c ∧ 0 ≤ c ∧ c < A := by
  have h1 := Int.lt_tmod_of_pos x (show 0 < A by omega)
  have h2 := Int.tmod_lt_of_pos x (show 0 < A by omega)
  refine ⟨x.tmod A, x.tmod A + A, (x.tmod A + A).tmod A, rfl, IntWalk.i64_in _ (by omega), IntWalk.i64_in _ (by omega), rfl, ?_, Int.tmod_nonneg _ (by omega), Int.tmod_lt_of_pos _ (by omega)⟩
  have h3 := Int.tmod_nonneg A (show 0 ≤ x.tmod A + A by omega)
  have h4 := Int.tmod_lt_of_pos (x.tmod A + A) (show 0 < A by omega)
  exact IntWalk.i64_in _ (by omega)
theorem slice35 (a : Option Addr) (len cap k : Nat) (h : k ≤ len) (w : World) : (Instr.slice 35 (.slice a len cap) (some (.int .i64 k)) none none).run Tryd.prog w = .ok (.slice (if cap = k then a else a.map (·.add (k * 3))) (len - k) (cap - k)) w := by
  rw [run_slice_l (t := 35) (ht := by kernel_rfl) (h0 := by omega) (h1 := by omega)]
  have hs : (sizeOf (Tryd.prog.elem 35)).run Tryd.prog w = .ok 3 w := by
    obtain ⟨i, hi, hz⟩ := Option.map_eq_some_iff.1 info51
    rw [show Tryd.prog.elem 35 = 51 by kernel_rfl]
    simp [sizeOf, typeInfo, hi, hz]
  rw [hs]
  simp [sliced, Result.andThen]
theorem slice39 (a : Option Addr) (len cap k : Nat) (h : k ≤ len) (w : World) : (Instr.slice 39 (.slice a len cap) (some (.int .i64 k)) none none).run Tryd.prog w = .ok (.slice (if cap = k then a else a.map (·.add (k * 8))) (len - k) (cap - k)) w := by
  rw [run_slice_l (t := 39) (ht := by kernel_rfl) (h0 := by omega) (h1 := by omega)]
  have hs : (sizeOf (Tryd.prog.elem 39)).run Tryd.prog w = .ok 8 w := by
    obtain ⟨i, hi, hz⟩ := Option.map_eq_some_iff.1 info49
    rw [show Tryd.prog.elem 39 = 49 by kernel_rfl]
    simp [sizeOf, typeInfo, hi, hz]
  rw [hs]
  simp [sliced, Result.andThen]
theorem left_of {u : UC} {s : ByteArray} {n : Nat} {L : Nat → LC} {t : Int} {j : Nat} (hu : unitB u s = true) (hl : legsB n L = true) (h : atI n L t = some j) : leftR u s n L t = (leftF (L j) u.burn t, 0) := by
  unfold leftR
  rw [hu, hl, h]
  rfl

structure GoNums (at_ rn i k1 N : Nat) : Prop where
  ir : i < rn
  k : k1 = i + 1
  n : N = rn + 1
  kr : k1 ≤ rn
  iN : i < N
  nc : rn < N
  n30 : N ≤ 31
  pos : 0 < rn
  w1 : IntKind.i64.wrap ((rn : Int) + 1) = (N : Int) ∧ wrap64 ((rn : Int) + 1) = (N : Int)
  w2 : IntKind.i64.wrap (at_ : Int) = (at_ : Int) ∧ wrap64 (at_ : Int) = (at_ : Int)
  w3 : (at_ : Int).tmod (rn : Int) = (i : Int)
  w4 : IntKind.i64.wrap (i : Int) = (i : Int) ∧ wrap64 (i : Int) = (i : Int)
  w5 : IntKind.i64.wrap ((i : Int) + 1) = (k1 : Int) ∧ wrap64 ((i : Int) + 1) = (k1 : Int)
  w6 : IntKind.i64.wrap ((N : Int) - 1) = (rn : Int)
  r0 : ¬ (rn : Int) = 0
  rN : (rn : Int) < (N : Int)
  iNi : (i : Int) < (N : Int)
theorem go_nums {at_ rn : Nat} (hat : at_ < 256) (hrn : rn ≤ 30) (h0 : ¬ rn = 0) : ∃ i k1 N : Nat, GoNums at_ rn i k1 N := by
  have e2 : ∃ i : Nat, i < rn ∧ (at_ : Int).tmod (rn : Int) = (i : Int) := ⟨at_ % rn, Nat.mod_lt _ (by omega), by rw [Int.tmod_eq_emod_of_nonneg (Int.natCast_nonneg _), Int.natCast_emod]⟩
  obtain ⟨i, hir, e2⟩ := e2
  have key : ∀ x : Int, 0 ≤ x → x ≤ 1000 → IntKind.i64.wrap x = x ∧ wrap64 x = x := fun x h1 h2 => ⟨IntWalk.i64_in _ (by omega), IntWalk.wrap64_in _ (by omega)⟩
  refine ⟨i, i + 1, rn + 1, hir, rfl, rfl, hir, by omega, by omega, by omega, by omega, ?_, key _ (by omega) (by omega), e2, key _ (by omega) (by omega), ?_, ?_, by omega, by omega, by omega⟩
  · rw [Int.natCast_add]; exact key _ (by omega) (by omega)
  · rw [Int.natCast_add]; exact key _ (by omega) (by omega)
  · rw [Int.natCast_add, show ((rn : Int) + ((1 : Nat) : Int) - 1) = (rn : Int) by omega]; exact (key _ (by omega) (by omega)).1

set_option maxRecDepth 100000 in
set_option maxHeartbeats 16000000 in
theorem goes_walk (u : UC) (s : ByteArray) (hnm : u.name = .string s) (start : Int) (ra : Option Addr) (rb roff rn rcap : Nat) (R : Nat → WC) (sa : Option Addr) (sb soff n cap : Nat) (S : Nat → FC) (at_ : Nat) (hat : at_ < 256) (b0 b1 : Int) (w : World)
    (hrr : Rw w 3 ra rb roff rn fun i => (R i).cells) (hr : Rw w 8 sa sb soff n fun i => (S i).cells) (hrc : rn ≤ rcap) (hgl : Glob w) :
    Calls Tryd.prog 11 #[.agg u.cells.toArray, .agg (taskC start ra rn rcap sa n cap).toArray, .int .u8 at_, .agg #[.int .i64 b0, .int .i64 b1]] w fun e w' => e = .returned (.bool true) ∧ Frm w.heap.size [] w w' := by
  have hf0 := Tryd.func11
  have HR := Lib.hid hr
  have HRR := Lib.hid hrr
  have HGL := Lib.hid hgl
  have HNM := Lib.hid hnm
  have HRC := Lib.hid hrc
  clear hrc hnm hgl hrr hr
  go_enter Tryd.func11, Tryd.ntmps11
  go_upto_region 1 with fail
  refine namedC ?_; intro W hW
  have ha : Blk W w.heap.size 25 u.cells := by rw [hW]; repeat (first | exact Blk.new w 25 u.cells | refine Blk.alloc' ?_)
  have hb : Blk W (w.heap.size + 1) 37 (taskC start ra rn rcap sa n cap) := by rw [hW]; repeat (first | exact Blk.new' _ 37 _ (by simp) | refine Blk.alloc' ?_)
  have hb2 : Blk W (w.heap.size + 2) 72 [.int .i64 b0, .int .i64 b1] := by rw [hW]; exact Blk.new' _ 72 [.int .i64 b0, .int .i64 b1] (by simp)
  have hf : Frm w.heap.size [] w W := by rw [hW]; repeat (first | with_reducible exact Frm.refl _ _ _ | with_reducible refine Frm.drewN ?_ | with_reducible refine Frm.drew ?_ | ((with_reducible refine Frm.setCell' ?_ ?_); · first | (left; simp; done) | (right; simp; done) | (right; simp; omega)) | ((with_reducible refine Frm.alloc' ?_ ?_); · first | exact Nat.le_refl _ | (simp; done) | (simp; omega)))
  clear hW hf0
  have henv : GoEnv W w.heap.size u start ra rb roff rn rcap R sa sb soff n cap S b0 b1 := ⟨ha, hb, hb2, HRR.out.frm hf (Nat.le_refl _), HR.out.frm hf (Nat.le_refl _)⟩
  clear ha hb hb2
  have hsi := UC.info u
  have HSI := Lib.hid hsi
  have HE := Lib.hid henv
  have HF := Lib.hid hf
  clear hf henv hsi
  by_cases hg : 100 < s.size
  · have hgd : decide (100 < s.size) = true := by simp [hg]
    have HGD := Lib.hid hgd
    clear hgd
    go_wp2_with (first | (with_reducible refine atLoad 25 rfl ?_; refine wpList_loadB (ty := 25) rfl rfl HE.out.u rfl Tryd.underlying25 rfl HSI.out ?_) | (with_reducible refine atLoad 37 rfl ?_; refine wpList_loadGE rfl rfl rfl (load_task HE.out.t) ?_) | (go_at_call 15; refine (great_any u s HNM.out _).mono ?_; rintro e w1 ⟨rfl, hf1⟩; rw [HGD.out]; replace HE := Lib.hid (HE.out.frm hf1 (Nat.le_refl _)); replace HF := Lib.hid (HF.out.call hf1 HF.out.size (by simp)); clear hf1) | (go_at_call 23; refine (large_any start ra rn rcap sa n cap _).mono ?_; rintro e w2 ⟨rfl, hf1⟩; rw [HLD.out]; replace HE := Lib.hid (HE.out.frm hf1 (Nat.le_refl _)); replace HF := Lib.hid (HF.out.call hf1 HF.out.size (by simp)); clear hf1) | (go_at_call 16; refine (awake_any _ (HGL.out.frm HF.out (Nat.le_refl _))).mono ?_; rintro e w9 ⟨rfl, hf1⟩; replace HE := Lib.hid (HE.out.frm hf1 (Nat.le_refl _)); replace HF := Lib.hid (HF.out.call hf1 HF.out.size (by simp)); clear hf1))
    go_ret
    exact ⟨rfl, HF.out⟩
  have hgd : decide (100 < s.size) = false := by simp [hg]
  have HGD := Lib.hid hgd
  clear hgd
  by_cases hl : (decide (40 < rn) || decide (110 < n)) = true
  · have hld := hl
    clear hl
    have HLD := Lib.hid hld
    clear hld
    go_wp2_with (first | (with_reducible refine atLoad 25 rfl ?_; refine wpList_loadB (ty := 25) rfl rfl HE.out.u rfl Tryd.underlying25 rfl HSI.out ?_) | (with_reducible refine atLoad 37 rfl ?_; refine wpList_loadGE rfl rfl rfl (load_task HE.out.t) ?_) | (go_at_call 15; refine (great_any u s HNM.out _).mono ?_; rintro e w1 ⟨rfl, hf1⟩; rw [HGD.out]; replace HE := Lib.hid (HE.out.frm hf1 (Nat.le_refl _)); replace HF := Lib.hid (HF.out.call hf1 HF.out.size (by simp)); clear hf1) | (go_at_call 23; refine (large_any start ra rn rcap sa n cap _).mono ?_; rintro e w2 ⟨rfl, hf1⟩; rw [HLD.out]; replace HE := Lib.hid (HE.out.frm hf1 (Nat.le_refl _)); replace HF := Lib.hid (HF.out.call hf1 HF.out.size (by simp)); clear hf1) | (go_at_call 16; refine (awake_any _ (HGL.out.frm HF.out (Nat.le_refl _))).mono ?_; rintro e w9 ⟨rfl, hf1⟩; replace HE := Lib.hid (HE.out.frm hf1 (Nat.le_refl _)); replace HF := Lib.hid (HF.out.call hf1 HF.out.size (by simp)); clear hf1))
    go_ret
    exact ⟨rfl, HF.out⟩
  have hld : (decide (40 < rn) || decide (110 < n)) = false := by simpa using hl
  clear hl
  have HLD := Lib.hid hld
  clear hld
  go_upto_region 3 with (first | (with_reducible refine atLoad 25 rfl ?_; refine wpList_loadB (ty := 25) rfl rfl HE.out.u rfl Tryd.underlying25 rfl HSI.out ?_) | (with_reducible refine atLoad 37 rfl ?_; refine wpList_loadGE rfl rfl rfl (load_task HE.out.t) ?_) | (go_at_call 15; refine (great_any u s HNM.out _).mono ?_; rintro e w1 ⟨rfl, hf1⟩; rw [HGD.out]; replace HE := Lib.hid (HE.out.frm hf1 (Nat.le_refl _)); replace HF := Lib.hid (HF.out.call hf1 HF.out.size (by simp)); clear hf1) | (go_at_call 23; refine (large_any start ra rn rcap sa n cap _).mono ?_; rintro e w2 ⟨rfl, hf1⟩; rw [HLD.out]; replace HE := Lib.hid (HE.out.frm hf1 (Nat.le_refl _)); replace HF := Lib.hid (HF.out.call hf1 HF.out.size (by simp)); clear hf1))
  have a0 : w2.cell? ⟨w.heap.size + 1, 0, none⟩ = some (.int .i64 start) := HE.out.t.cell 0
  have a1 : w2.cell? ⟨w.heap.size + 1, 1, none⟩ = some (.slice ra rn rcap) := HE.out.t.cell 1
  have a2 : w2.cell? ⟨w.heap.size + 1, 2, none⟩ = some (.slice sa n cap) := HE.out.t.cell 2
  go_wp2_with (with_reducible refine atLoad 25 rfl ?_; refine wpList_loadB (ty := 25) rfl rfl HE.out.u rfl Tryd.underlying25 rfl HSI.out ?_)
  refine (Plan_any u s HNM.out start sa sb soff n cap S ra rb roff rn rcap R _ HE.out.s HE.out.r (HGL.out.frm HF.out (Nat.le_refl _))).mono ?_
  rintro e w3 ⟨hf1, hp1⟩
  clear a0 a1 a2
  replace HE := Lib.hid (HE.out.frm hf1 (Nat.le_refl _)); replace HF := Lib.hid (HF.out.call hf1 HF.out.size (by simp)); clear hf1
  rcases hp1 with ⟨_, rfl⟩ | ⟨_, _, rfl⟩ | ⟨hin, hr30, hys, ov, own, rfl, hsl, hown⟩ | ⟨_, _, i, _, _, _, rfl⟩
  · go_wp2_with (go_at_call 16; refine (awake_any _ (HGL.out.frm HF.out (Nat.le_refl _))).mono ?_; rintro e w9 ⟨rfl, hf1⟩; replace HE := Lib.hid (HE.out.frm hf1 (Nat.le_refl _)); replace HF := Lib.hid (HF.out.call hf1 HF.out.size (by simp)); clear hf1)
    go_ret
    exact ⟨rfl, HF.out⟩
  · go_wp2_with (go_at_call 16; refine (awake_any _ (HGL.out.frm HF.out (Nat.le_refl _))).mono ?_; rintro e w9 ⟨rfl, hf1⟩; replace HE := Lib.hid (HE.out.frm hf1 (Nat.le_refl _)); replace HF := Lib.hid (HF.out.call hf1 HF.out.size (by simp)); clear hf1)
    go_ret
    exact ⟨rfl, HF.out⟩
  rotate_left
  · go_wp2_with (go_at_call 16; refine (awake_any _ (HGL.out.frm HF.out (Nat.le_refl _))).mono ?_; rintro e w9 ⟨rfl, hf1⟩; replace HE := Lib.hid (HE.out.frm hf1 (Nat.le_refl _)); replace HF := Lib.hid (HF.out.call hf1 HF.out.size (by simp)); clear hf1)
    go_ret
    exact ⟨rfl, HF.out⟩
  unfold planIn at hin
  simp only [Bool.and_eq_true] at hin
  obtain ⟨⟨⟨hin1, hin2⟩, hin3⟩, hin4⟩ := hin
  have hu : UOK u := uok_of hin1
  have hst : 0 ≤ start ∧ start ≤ 1073741824 := by unfold timeB at hin4; exact inB_iff.1 hin4
  obtain ⟨g0, hg0⟩ : ∃ g, g = startG u start := ⟨_, rfl⟩
  have hmade : Made u n S start rn R g0 := by
    rw [hg0]
    exact ⟨hu, ⟨hu.base, hst, by have := hu.fuel; show 0 ≤ u.fuel ∧ u.fuel ≤ _; omega⟩, fun i hi => route_at hin3 hi, hys, hu.fuel.2⟩
  have hg0t : g0.time = start := by rw [hg0]; rfl
  have hg0f : g0.fuel = u.fuel := by rw [hg0]; rfl
  rw [← hg0] at hsl
  rw [planL_cells] at hsl
  obtain ⟨oc, hoc0, hoc⟩ : ∃ oc, rn + 1 ≤ oc ∧ ∃ a, ov = .slice a (rn + 1) oc := by
    obtain ⟨_, _, oc, e1, _, e2, _⟩ := hsl.pos (by omega)
    exact ⟨oc, e2, _, e1⟩
  obtain ⟨oa, ob, oo, ocap, rfl, hrw⟩ := hsl.rw (fun i => rfl)
  have hocap : rn + 1 ≤ ocap := by obtain ⟨a, e⟩ := hoc; cases e; exact hoc0
  clear hoc hoc0 hsl hown hys hin3 hin4 oc
  by_cases hr0 : rn = 0
  · have hm1 : ((rn : Int) = 0) := by omega
    have a1 : w3.cell? ⟨w.heap.size + 1, 1, none⟩ = some (.slice ra rn rcap) := HE.out.t.cell 1
    have HR0 := Lib.hid hr0
    clear hr0
    go_wp2_with (go_at_call 16; refine (awake_any _ (HGL.out.frm HF.out (Nat.le_refl _))).mono ?_; rintro e w9 ⟨rfl, hf1⟩; replace HE := Lib.hid (HE.out.frm hf1 (Nat.le_refl _)); replace HF := Lib.hid (HF.out.call hf1 HF.out.size (by simp)); clear hf1)
    go_ret
    exact ⟨rfl, HF.out⟩
  obtain ⟨i, k1, N, hnum⟩ := go_nums hat hr30 hr0
  have hoa := hrw.ad (Nat.succ_pos _)
  subst hoa
  obtain ⟨L, hL⟩ : ∃ L, L = planL u R g0 rn := ⟨_, rfl⟩
  have hls := hmade.legs hnum.pos
  have hch := hmade.chain hnum.pos
  have hfi := hmade.first hnum.pos
  have hag := hmade.again hin1 hin2 hr30 hg0t hnum.ir
  obtain ⟨jj, hjj, hgj⟩ := hmade.again_at hnum.pos hnum.ir
  rw [← hL, ← hnum.n] at hls hch hag hjj
  rw [← hL] at hfi hgj
  rw [← hnum.n, ← hL] at hrw
  rw [← hnum.n] at hocap ⊢
  rw [← hnum.k] at hag hgj
  have hr0i := hnum.r0
  obtain ⟨hNi, hNw⟩ := hnum.w1
  obtain ⟨e1, e1w⟩ := hnum.w2
  have e2 := hnum.w3
  obtain ⟨e3, e3w⟩ := hnum.w4
  obtain ⟨e4, e4w⟩ := hnum.w5
  have hkr := hnum.kr
  have hiNi := hnum.iNi
  have hiN := hnum.iN
  have hNc := hnum.nc
  have hN := hnum.n
  obtain ⟨lt, hlt⟩ : ∃ t, t = (L i).leave := ⟨_, rfl⟩
  rw [← hlt] at hag hjj hgj
  have HU := Lib.hid hu
  have HST := Lib.hid hst
  have HM := Lib.hid hmade
  have HG0T := Lib.hid hg0t
  have HG0F := Lib.hid hg0f
  have HI1 := Lib.hid hin1
  have HI2 := Lib.hid hin2
  have HR30 := Lib.hid hr30
  have HRW := Lib.hid hrw
  have HOCAP := Lib.hid hocap
  have HN := Lib.hid hN
  have HL := Lib.hid hL
  have HLS := Lib.hid hls
  have HCH := Lib.hid hch
  have HFI := Lib.hid hfi
  have HAG := Lib.hid hag
  have HJJ := Lib.hid hjj
  have HGJ := Lib.hid hgj
  have HKR := Lib.hid hkr
  have HNUM := Lib.hid hnum
  have HIN := Lib.hid hiN
  have HNC := Lib.hid hNc
  have HLT := Lib.hid hlt
  have HG0 := Lib.hid hg0
  have HR0 := Lib.hid hr0
  clear hr0 hg0 hlt hNc hiN hnum hkr hgj hjj hag hfi hch hls hL hN hocap hrw hr30 hin2 hin1 hg0f hg0t hmade hst hu
  have a1 : w3.cell? ⟨w.heap.size + 1, 1, none⟩ = some (.slice ra rn rcap) := HE.out.t.cell 1
  go_upto_region 9 with fail
  clear a1 e1 e1w e2 e3 e3w hNi hNw hr0i
  have hfx : ∀ V, Frm w3.heap.size [] w3 V → V.cell? ⟨w.heap.size + 1, 1, none⟩ = some (.slice ra rn rcap) ∧ V.cell? ⟨w.heap.size + 1, 2, none⟩ = some (.slice sa n cap) ∧ V.cell? ⟨ob, oo + i * 8 + 6, none⟩ = some (.int .i64 lt) := fun V hV => by
    have e := HE.out.frm hV (Nat.le_refl _)
    refine ⟨e.t.cell 1, e.t.cell 2, ?_⟩
    rw [HLT.out]; exact (HRW.out.frm hV (Nat.le_refl _)).at_ i HIN.out 6 _ rfl
  have hlu : ∀ V, Frm w3.heap.size [] w3 V → (loadVar 25 ⟨w.heap.size, 0, none⟩).run Tryd.prog V = .ok (.agg u.cells.toArray) V := fun V hV => loadVarB (HE.out.frm hV (Nat.le_refl _)).u Tryd.underlying25 rfl HSI.out
  have hsl : ∀ w, _ := fun w => slice35 ra rn rcap k1 HKR.out w
  obtain ⟨ra2, hra2⟩ : ∃ a, a = (if rcap = k1 then ra else ra.map (·.add (k1 * 3))) := ⟨_, rfl⟩
  obtain ⟨rn2, hrn2⟩ : ∃ m, m = rn - k1 := ⟨_, rfl⟩
  obtain ⟨rc2, hrc2⟩ : ∃ m, m = rcap - k1 := ⟨_, rfl⟩
  obtain ⟨R2, hR2⟩ : ∃ F : Nat → WC, F = fun k => R (k1 + k) := ⟨_, rfl⟩
  have hrw2 : Rw w3 3 ra2 rb (roff + k1 * 3) rn2 fun i => (R2 i).cells := by rw [hra2, hrn2, hR2]; exact HE.out.r.rest k1 HKR.out HRC.out
  have hag2 : againO u s N L lt n S rn2 R2 = none := by rw [hrn2, hR2]; exact HAG.out
  rw [← hra2, ← hrn2, ← hrc2] at hsl
  clear hrc2 hra2
  have HFX := Lib.hid hfx
  have HLU := Lib.hid hlu
  have HRW2 := Lib.hid hrw2
  have HAG2 := Lib.hid hag2
  have HRN2 := Lib.hid hrn2
  have HR2 := Lib.hid hR2
  clear hR2 hrn2 hag2 hrw2 hlu hfx
  refine wp_region_leftL (fun V => Frm w3.heap.size [] w3 V) 1000 (by kernel_rfl) ?_
  have hS : Frm w3.heap.size [] w3 w3.drew := (Frm.refl _ _ w3).drew
  have HS := Lib.hid hS
  clear hS
  refine LeftL.take 0 rfl (by kernel_rfl) (fun _ _ d _ _ h => by cases d <;> exact h) (yields_loadE (ty := 25) rfl rfl rfl (HLU.out)) HS.out ?_; (intro K' hK'; go_simp; refine hK' _ ?_; clear hK' K')
  first | (refine LeftL.run (v := ?_) 1 rfl (by kernel_rfl) rfl (fun _ _ d _ _ h => by cases d <;> exact h) ?_ HS.out ?_; rotate_left; (· intro V hV; obtain ⟨q0, q1, q2⟩ := HFX.out V hV; clear hV; go_simp; rfl); (intro K' hK'; go_simp; refine hK' _ ?_; clear hK' K')) | (refine LeftL.runG (v := ?_) 1 rfl (by kernel_rfl) rfl (fun _ _ d _ _ h => by cases d <;> exact h) ?_ HS.out ?_; rotate_left; (· intro V hV; obtain ⟨q0, q1, q2⟩ := HFX.out V hV; clear hV; go_simp; rfl); (intro K' hK'; go_simp; refine hK' _ ?_; clear hK' K')) | (refine LeftL.take (v := undef) 1 rfl (by kernel_rfl) (fun _ _ d _ _ h => by cases d <;> exact h) (.inr ⟨rfl, rfl⟩) HS.out ?_; (intro K' hK'; go_simp; refine hK' _ ?_; clear hK' K'))
  first | (refine LeftL.run (v := ?_) 2 rfl (by kernel_rfl) rfl (fun _ _ d _ _ h => by cases d <;> exact h) ?_ HS.out ?_; rotate_left; (· intro V hV; obtain ⟨q0, q1, q2⟩ := HFX.out V hV; clear hV; go_simp; rfl); (intro K' hK'; go_simp; refine hK' _ ?_; clear hK' K')) | (refine LeftL.runG (v := ?_) 2 rfl (by kernel_rfl) rfl (fun _ _ d _ _ h => by cases d <;> exact h) ?_ HS.out ?_; rotate_left; (· intro V hV; obtain ⟨q0, q1, q2⟩ := HFX.out V hV; clear hV; go_simp; rfl); (intro K' hK'; go_simp; refine hK' _ ?_; clear hK' K')) | (refine LeftL.take (v := undef) 2 rfl (by kernel_rfl) (fun _ _ d _ _ h => by cases d <;> exact h) (.inr ⟨rfl, rfl⟩) HS.out ?_; (intro K' hK'; go_simp; refine hK' _ ?_; clear hK' K'))
  first | (refine LeftL.run (v := ?_) 3 rfl (by kernel_rfl) rfl (fun _ _ d _ _ h => by cases d <;> exact h) ?_ HS.out ?_; rotate_left; (· intro V hV; obtain ⟨q0, q1, q2⟩ := HFX.out V hV; clear hV; go_simp; rfl); (intro K' hK'; go_simp; refine hK' _ ?_; clear hK' K')) | (refine LeftL.runG (v := ?_) 3 rfl (by kernel_rfl) rfl (fun _ _ d _ _ h => by cases d <;> exact h) ?_ HS.out ?_; rotate_left; (· intro V hV; obtain ⟨q0, q1, q2⟩ := HFX.out V hV; clear hV; go_simp; rfl); (intro K' hK'; go_simp; refine hK' _ ?_; clear hK' K')) | (refine LeftL.take (v := undef) 3 rfl (by kernel_rfl) (fun _ _ d _ _ h => by cases d <;> exact h) (.inr ⟨rfl, rfl⟩) HS.out ?_; (intro K' hK'; go_simp; refine hK' _ ?_; clear hK' K'))
  first | (refine LeftL.run (v := ?_) 4 rfl (by kernel_rfl) rfl (fun _ _ d _ _ h => by cases d <;> exact h) ?_ HS.out ?_; rotate_left; (· intro V hV; obtain ⟨q0, q1, q2⟩ := HFX.out V hV; clear hV; go_simp; rfl); (intro K' hK'; go_simp; refine hK' _ ?_; clear hK' K')) | (refine LeftL.runG (v := ?_) 4 rfl (by kernel_rfl) rfl (fun _ _ d _ _ h => by cases d <;> exact h) ?_ HS.out ?_; rotate_left; (· intro V hV; obtain ⟨q0, q1, q2⟩ := HFX.out V hV; clear hV; go_simp; rfl); (intro K' hK'; go_simp; refine hK' _ ?_; clear hK' K')) | (refine LeftL.take (v := undef) 4 rfl (by kernel_rfl) (fun _ _ d _ _ h => by cases d <;> exact h) (.inr ⟨rfl, rfl⟩) HS.out ?_; (intro K' hK'; go_simp; refine hK' _ ?_; clear hK' K'))
  first | (refine LeftL.run (v := ?_) 5 rfl (by kernel_rfl) rfl (fun _ _ d _ _ h => by cases d <;> exact h) ?_ HS.out ?_; rotate_left; (· intro V hV; obtain ⟨q0, q1, q2⟩ := HFX.out V hV; clear hV; go_simp; rfl); (intro K' hK'; go_simp; refine hK' _ ?_; clear hK' K')) | (refine LeftL.runG (v := ?_) 5 rfl (by kernel_rfl) rfl (fun _ _ d _ _ h => by cases d <;> exact h) ?_ HS.out ?_; rotate_left; (· intro V hV; obtain ⟨q0, q1, q2⟩ := HFX.out V hV; clear hV; go_simp; rfl); (intro K' hK'; go_simp; refine hK' _ ?_; clear hK' K')) | (refine LeftL.take (v := undef) 5 rfl (by kernel_rfl) (fun _ _ d _ _ h => by cases d <;> exact h) (.inr ⟨rfl, rfl⟩) HS.out ?_; (intro K' hK'; go_simp; refine hK' _ ?_; clear hK' K'))
  first | (refine LeftL.run (v := ?_) 6 rfl (by kernel_rfl) rfl (fun _ _ d _ _ h => by cases d <;> exact h) ?_ HS.out ?_; rotate_left; (· intro V hV; obtain ⟨q0, q1, q2⟩ := HFX.out V hV; clear hV; go_simp; rfl); (intro K' hK'; go_simp; refine hK' _ ?_; clear hK' K')) | (refine LeftL.runG (v := ?_) 6 rfl (by kernel_rfl) rfl (fun _ _ d _ _ h => by cases d <;> exact h) ?_ HS.out ?_; rotate_left; (· intro V hV; obtain ⟨q0, q1, q2⟩ := HFX.out V hV; clear hV; go_simp; rfl); (intro K' hK'; go_simp; refine hK' _ ?_; clear hK' K')) | (refine LeftL.take (v := undef) 6 rfl (by kernel_rfl) (fun _ _ d _ _ h => by cases d <;> exact h) (.inr ⟨rfl, rfl⟩) HS.out ?_; (intro K' hK'; go_simp; refine hK' _ ?_; clear hK' K'))
  first | (refine LeftL.run (v := ?_) 7 rfl (by kernel_rfl) rfl (fun _ _ d _ _ h => by cases d <;> exact h) ?_ HS.out ?_; rotate_left; (· intro V hV; obtain ⟨q0, q1, q2⟩ := HFX.out V hV; clear hV; go_simp; rfl); (intro K' hK'; go_simp; refine hK' _ ?_; clear hK' K')) | (refine LeftL.runG (v := ?_) 7 rfl (by kernel_rfl) rfl (fun _ _ d _ _ h => by cases d <;> exact h) ?_ HS.out ?_; rotate_left; (· intro V hV; obtain ⟨q0, q1, q2⟩ := HFX.out V hV; clear hV; go_simp; rfl); (intro K' hK'; go_simp; refine hK' _ ?_; clear hK' K')) | (refine LeftL.take (v := undef) 7 rfl (by kernel_rfl) (fun _ _ d _ _ h => by cases d <;> exact h) (.inr ⟨rfl, rfl⟩) HS.out ?_; (intro K' hK'; go_simp; refine hK' _ ?_; clear hK' K'))
  first | (refine LeftL.run (v := ?_) 8 rfl (by kernel_rfl) rfl (fun _ _ d _ _ h => by cases d <;> exact h) ?_ HS.out ?_; rotate_left; (· intro V hV; obtain ⟨q0, q1, q2⟩ := HFX.out V hV; clear hV; go_simp; rfl); (intro K' hK'; go_simp; refine hK' _ ?_; clear hK' K')) | (refine LeftL.runG (v := ?_) 8 rfl (by kernel_rfl) rfl (fun _ _ d _ _ h => by cases d <;> exact h) ?_ HS.out ?_; rotate_left; (· intro V hV; obtain ⟨q0, q1, q2⟩ := HFX.out V hV; clear hV; go_simp; rfl); (intro K' hK'; go_simp; refine hK' _ ?_; clear hK' K')) | (refine LeftL.take (v := undef) 8 rfl (by kernel_rfl) (fun _ _ d _ _ h => by cases d <;> exact h) (.inr ⟨rfl, rfl⟩) HS.out ?_; (intro K' hK'; go_simp; refine hK' _ ?_; clear hK' K'))
  first | (refine LeftL.run (v := ?_) 9 rfl (by kernel_rfl) rfl (fun _ _ d _ _ h => by cases d <;> exact h) ?_ HS.out ?_; rotate_left; (· intro V hV; obtain ⟨q0, q1, q2⟩ := HFX.out V hV; clear hV; go_simp; rfl); (intro K' hK'; go_simp; refine hK' _ ?_; clear hK' K')) | (refine LeftL.runG (v := ?_) 9 rfl (by kernel_rfl) rfl (fun _ _ d _ _ h => by cases d <;> exact h) ?_ HS.out ?_; rotate_left; (· intro V hV; obtain ⟨q0, q1, q2⟩ := HFX.out V hV; clear hV; go_simp; rfl); (intro K' hK'; go_simp; refine hK' _ ?_; clear hK' K')) | (refine LeftL.take (v := undef) 9 rfl (by kernel_rfl) (fun _ _ d _ _ h => by cases d <;> exact h) (.inr ⟨rfl, rfl⟩) HS.out ?_; (intro K' hK'; go_simp; refine hK' _ ?_; clear hK' K'))
  first | (refine LeftL.run (v := ?_) 10 rfl (by kernel_rfl) rfl (fun _ _ d _ _ h => by cases d <;> exact h) ?_ HS.out ?_; rotate_left; (· intro V hV; obtain ⟨q0, q1, q2⟩ := HFX.out V hV; clear hV; go_simp; rfl); (intro K' hK'; go_simp; refine hK' _ ?_; clear hK' K')) | (refine LeftL.runG (v := ?_) 10 rfl (by kernel_rfl) rfl (fun _ _ d _ _ h => by cases d <;> exact h) ?_ HS.out ?_; rotate_left; (· intro V hV; obtain ⟨q0, q1, q2⟩ := HFX.out V hV; clear hV; go_simp; rfl); (intro K' hK'; go_simp; refine hK' _ ?_; clear hK' K')) | (refine LeftL.take (v := undef) 10 rfl (by kernel_rfl) (fun _ _ d _ _ h => by cases d <;> exact h) (.inr ⟨rfl, rfl⟩) HS.out ?_; (intro K' hK'; go_simp; refine hK' _ ?_; clear hK' K'))
  first | (refine LeftL.run (v := ?_) 11 rfl (by kernel_rfl) rfl (fun _ _ d _ _ h => by cases d <;> exact h) ?_ HS.out ?_; rotate_left; (· intro V hV; obtain ⟨q0, q1, q2⟩ := HFX.out V hV; clear hV; go_simp; rfl); (intro K' hK'; go_simp; refine hK' _ ?_; clear hK' K')) | (refine LeftL.runG (v := ?_) 11 rfl (by kernel_rfl) rfl (fun _ _ d _ _ h => by cases d <;> exact h) ?_ HS.out ?_; rotate_left; (· intro V hV; obtain ⟨q0, q1, q2⟩ := HFX.out V hV; clear hV; go_simp; rfl); (intro K' hK'; go_simp; refine hK' _ ?_; clear hK' K')) | (refine LeftL.take (v := undef) 11 rfl (by kernel_rfl) (fun _ _ d _ _ h => by cases d <;> exact h) (.inr ⟨rfl, rfl⟩) HS.out ?_; (intro K' hK'; go_simp; refine hK' _ ?_; clear hK' K'))
  first | (refine LeftL.run (v := ?_) 12 rfl (by kernel_rfl) rfl (fun _ _ d _ _ h => by cases d <;> exact h) ?_ HS.out ?_; rotate_left; (· intro V hV; obtain ⟨q0, q1, q2⟩ := HFX.out V hV; clear hV; go_simp; rfl); (intro K' hK'; go_simp; refine hK' _ ?_; clear hK' K')) | (refine LeftL.runG (v := ?_) 12 rfl (by kernel_rfl) rfl (fun _ _ d _ _ h => by cases d <;> exact h) ?_ HS.out ?_; rotate_left; (· intro V hV; obtain ⟨q0, q1, q2⟩ := HFX.out V hV; clear hV; go_simp; rfl); (intro K' hK'; go_simp; refine hK' _ ?_; clear hK' K')) | (refine LeftL.take (v := undef) 12 rfl (by kernel_rfl) (fun _ _ d _ _ h => by cases d <;> exact h) (.inr ⟨rfl, rfl⟩) HS.out ?_; (intro K' hK'; go_simp; refine hK' _ ?_; clear hK' K'))
  first | (refine LeftL.run (v := ?_) 13 rfl (by kernel_rfl) rfl (fun _ _ d _ _ h => by cases d <;> exact h) ?_ HS.out ?_; rotate_left; (· intro V hV; obtain ⟨q0, q1, q2⟩ := HFX.out V hV; clear hV; go_simp; rfl); (intro K' hK'; go_simp; refine hK' _ ?_; clear hK' K')) | (refine LeftL.runG (v := ?_) 13 rfl (by kernel_rfl) rfl (fun _ _ d _ _ h => by cases d <;> exact h) ?_ HS.out ?_; rotate_left; (· intro V hV; obtain ⟨q0, q1, q2⟩ := HFX.out V hV; clear hV; go_simp; rfl); (intro K' hK'; go_simp; refine hK' _ ?_; clear hK' K')) | (refine LeftL.take (v := undef) 13 rfl (by kernel_rfl) (fun _ _ d _ _ h => by cases d <;> exact h) (.inr ⟨rfl, rfl⟩) HS.out ?_; (intro K' hK'; go_simp; refine hK' _ ?_; clear hK' K'))
  refine LeftL.one 14 rfl (by kernel_rfl) ?_
  go_wp2_with fail
  refine (again_any u s HNM.out (some ⟨ob, oo, none⟩) ob oo N ocap L lt ra2 rb (roff + k1 * 3) rn2 rc2 R2 sa sb soff n cap S _ (HRW.out.frm HS.out (Nat.le_refl _)) (HRW2.out.frm HS.out (Nat.le_refl _)) (HE.out.s.frm HS.out (Nat.le_refl _)) (HGL.out.frm (HF.out.call HS.out HF.out.size (by simp)) (Nat.le_refl _))).mono ?_
  intro e w4 hag
  obtain ⟨hf1, hm⟩ := hag
  rw [HAG2.out] at hm
  dsimp only at hm
  rw [HJJ.out] at hm
  dsimp only [Option.getD_some] at hm
  rw [HGJ.out] at hm
  obtain ⟨ov2, own2, rfl, hsl2, hown2⟩ := hm
  obtain ⟨oa2, ob2, oo2, oc2, rfl, hrwn⟩ := hsl2.rw (fun i => rfl)
  have hS1 := HS.out.call hf1 HS.out.size (by simp)
  clear hf1 HS hsl2 hown2 hsl
  have HS := Lib.hid hS1
  have HRWN := Lib.hid hrwn
  clear hrwn hS1
  go_wp2_with fail
  first | refine ⟨fun _ => HS.out, ?_⟩ | refine ⟨HS.out, ?_⟩
  first | (refine LeftL.run (v := ?_) 15 rfl (by kernel_rfl) rfl (fun _ _ d _ _ h => by cases d <;> exact h) ?_ HS.out ?_; rotate_left; (· intro V hV; obtain ⟨q0, q1, q2⟩ := HFX.out V hV; clear hV; go_simp; rfl); (intro K' hK'; go_simp; refine hK' _ ?_; clear hK' K')) | (refine LeftL.runG (v := ?_) 15 rfl (by kernel_rfl) rfl (fun _ _ d _ _ h => by cases d <;> exact h) ?_ HS.out ?_; rotate_left; (· intro V hV; obtain ⟨q0, q1, q2⟩ := HFX.out V hV; clear hV; go_simp; rfl); (intro K' hK'; go_simp; refine hK' _ ?_; clear hK' K')) | (refine LeftL.take (v := undef) 15 rfl (by kernel_rfl) (fun _ _ d _ _ h => by cases d <;> exact h) (.inr ⟨rfl, rfl⟩) HS.out ?_; (intro K' hK'; go_simp; refine hK' _ ?_; clear hK' K'))
  first | (refine LeftL.run (v := ?_) 16 rfl (by kernel_rfl) rfl (fun _ _ d _ _ h => by cases d <;> exact h) ?_ HS.out ?_; rotate_left; (· intro V hV; obtain ⟨q0, q1, q2⟩ := HFX.out V hV; clear hV; go_simp; rfl); (intro K' hK'; go_simp; refine hK' _ ?_; clear hK' K')) | (refine LeftL.runG (v := ?_) 16 rfl (by kernel_rfl) rfl (fun _ _ d _ _ h => by cases d <;> exact h) ?_ HS.out ?_; rotate_left; (· intro V hV; obtain ⟨q0, q1, q2⟩ := HFX.out V hV; clear hV; go_simp; rfl); (intro K' hK'; go_simp; refine hK' _ ?_; clear hK' K')) | (refine LeftL.take (v := undef) 16 rfl (by kernel_rfl) (fun _ _ d _ _ h => by cases d <;> exact h) (.inr ⟨rfl, rfl⟩) HS.out ?_; (intro K' hK'; go_simp; refine hK' _ ?_; clear hK' K'))
  first | (refine LeftL.run (v := ?_) 17 rfl (by kernel_rfl) rfl (fun _ _ d _ _ h => by cases d <;> exact h) ?_ HS.out ?_; rotate_left; (· intro V hV; obtain ⟨q0, q1, q2⟩ := HFX.out V hV; clear hV; go_simp; rfl); (intro K' hK'; go_simp; refine hK' _ ?_; clear hK' K')) | (refine LeftL.runG (v := ?_) 17 rfl (by kernel_rfl) rfl (fun _ _ d _ _ h => by cases d <;> exact h) ?_ HS.out ?_; rotate_left; (· intro V hV; obtain ⟨q0, q1, q2⟩ := HFX.out V hV; clear hV; go_simp; rfl); (intro K' hK'; go_simp; refine hK' _ ?_; clear hK' K')) | (refine LeftL.take (v := undef) 17 rfl (by kernel_rfl) (fun _ _ d _ _ h => by cases d <;> exact h) (.inr ⟨rfl, rfl⟩) HS.out ?_; (intro K' hK'; go_simp; refine hK' _ ?_; clear hK' K'))
  first | (refine LeftL.run (v := ?_) 18 rfl (by kernel_rfl) rfl (fun _ _ d _ _ h => by cases d <;> exact h) ?_ HS.out ?_; rotate_left; (· intro V hV; obtain ⟨q0, q1, q2⟩ := HFX.out V hV; clear hV; go_simp; rfl); (intro K' hK'; go_simp; refine hK' _ ?_; clear hK' K')) | (refine LeftL.runG (v := ?_) 18 rfl (by kernel_rfl) rfl (fun _ _ d _ _ h => by cases d <;> exact h) ?_ HS.out ?_; rotate_left; (· intro V hV; obtain ⟨q0, q1, q2⟩ := HFX.out V hV; clear hV; go_simp; rfl); (intro K' hK'; go_simp; refine hK' _ ?_; clear hK' K')) | (refine LeftL.take (v := undef) 18 rfl (by kernel_rfl) (fun _ _ d _ _ h => by cases d <;> exact h) (.inr ⟨rfl, rfl⟩) HS.out ?_; (intro K' hK'; go_simp; refine hK' _ ?_; clear hK' K'))
  first | (refine LeftL.run (v := ?_) 19 rfl (by kernel_rfl) rfl (fun _ _ d _ _ h => by cases d <;> exact h) ?_ HS.out ?_; rotate_left; (· intro V hV; obtain ⟨q0, q1, q2⟩ := HFX.out V hV; clear hV; go_simp; rfl); (intro K' hK'; go_simp; refine hK' _ ?_; clear hK' K')) | (refine LeftL.runG (v := ?_) 19 rfl (by kernel_rfl) rfl (fun _ _ d _ _ h => by cases d <;> exact h) ?_ HS.out ?_; rotate_left; (· intro V hV; obtain ⟨q0, q1, q2⟩ := HFX.out V hV; clear hV; go_simp; rfl); (intro K' hK'; go_simp; refine hK' _ ?_; clear hK' K')) | (refine LeftL.take (v := undef) 19 rfl (by kernel_rfl) (fun _ _ d _ _ h => by cases d <;> exact h) (.inr ⟨rfl, rfl⟩) HS.out ?_; (intro K' hK'; go_simp; refine hK' _ ?_; clear hK' K'))
  first | (refine LeftL.run (v := ?_) 20 rfl (by kernel_rfl) rfl (fun _ _ d _ _ h => by cases d <;> exact h) ?_ HS.out ?_; rotate_left; (· intro V hV; obtain ⟨q0, q1, q2⟩ := HFX.out V hV; clear hV; go_simp; rfl); (intro K' hK'; go_simp; refine hK' _ ?_; clear hK' K')) | (refine LeftL.runG (v := ?_) 20 rfl (by kernel_rfl) rfl (fun _ _ d _ _ h => by cases d <;> exact h) ?_ HS.out ?_; rotate_left; (· intro V hV; obtain ⟨q0, q1, q2⟩ := HFX.out V hV; clear hV; go_simp; rfl); (intro K' hK'; go_simp; refine hK' _ ?_; clear hK' K')) | (refine LeftL.take (v := undef) 20 rfl (by kernel_rfl) (fun _ _ d _ _ h => by cases d <;> exact h) (.inr ⟨rfl, rfl⟩) HS.out ?_; (intro K' hK'; go_simp; refine hK' _ ?_; clear hK' K'))
  first | (refine LeftL.run (v := ?_) 21 rfl (by kernel_rfl) rfl (fun _ _ d _ _ h => by cases d <;> exact h) ?_ HS.out ?_; rotate_left; (· intro V hV; obtain ⟨q0, q1, q2⟩ := HFX.out V hV; clear hV; go_simp; rfl); (intro K' hK'; go_simp; refine hK' _ ?_; clear hK' K')) | (refine LeftL.runG (v := ?_) 21 rfl (by kernel_rfl) rfl (fun _ _ d _ _ h => by cases d <;> exact h) ?_ HS.out ?_; rotate_left; (· intro V hV; obtain ⟨q0, q1, q2⟩ := HFX.out V hV; clear hV; go_simp; rfl); (intro K' hK'; go_simp; refine hK' _ ?_; clear hK' K')) | (refine LeftL.take (v := undef) 21 rfl (by kernel_rfl) (fun _ _ d _ _ h => by cases d <;> exact h) (.inr ⟨rfl, rfl⟩) HS.out ?_; (intro K' hK'; go_simp; refine hK' _ ?_; clear hK' K'))
  first | (refine LeftL.run (v := ?_) 22 rfl (by kernel_rfl) rfl (fun _ _ d _ _ h => by cases d <;> exact h) ?_ HS.out ?_; rotate_left; (· intro V hV; obtain ⟨q0, q1, q2⟩ := HFX.out V hV; clear hV; go_simp; rfl); (intro K' hK'; go_simp; refine hK' _ ?_; clear hK' K')) | (refine LeftL.runG (v := ?_) 22 rfl (by kernel_rfl) rfl (fun _ _ d _ _ h => by cases d <;> exact h) ?_ HS.out ?_; rotate_left; (· intro V hV; obtain ⟨q0, q1, q2⟩ := HFX.out V hV; clear hV; go_simp; rfl); (intro K' hK'; go_simp; refine hK' _ ?_; clear hK' K')) | (refine LeftL.take (v := undef) 22 rfl (by kernel_rfl) (fun _ _ d _ _ h => by cases d <;> exact h) (.inr ⟨rfl, rfl⟩) HS.out ?_; (intro K' hK'; go_simp; refine hK' _ ?_; clear hK' K'))
  first | (refine LeftL.run (v := ?_) 23 rfl (by kernel_rfl) rfl (fun _ _ d _ _ h => by cases d <;> exact h) ?_ HS.out ?_; rotate_left; (· intro V hV; obtain ⟨q0, q1, q2⟩ := HFX.out V hV; clear hV; go_simp; rfl); (intro K' hK'; go_simp; refine hK' _ ?_; clear hK' K')) | (refine LeftL.runG (v := ?_) 23 rfl (by kernel_rfl) rfl (fun _ _ d _ _ h => by cases d <;> exact h) ?_ HS.out ?_; rotate_left; (· intro V hV; obtain ⟨q0, q1, q2⟩ := HFX.out V hV; clear hV; go_simp; rfl); (intro K' hK'; go_simp; refine hK' _ ?_; clear hK' K')) | (refine LeftL.take (v := undef) 23 rfl (by kernel_rfl) (fun _ _ d _ _ h => by cases d <;> exact h) (.inr ⟨rfl, rfl⟩) HS.out ?_; (intro K' hK'; go_simp; refine hK' _ ?_; clear hK' K'))
  refine LeftL.done (by kernel_rfl) ?_
  replace HE := Lib.hid (HE.out.frm HS.out (Nat.le_refl _))
  replace HF := Lib.hid (HF.out.call HS.out HF.out.size (by simp))
  replace HRW := Lib.hid (HRW.out.frm HS.out (Nat.le_refl _))
  clear HS HFX HLU HRW2
  have hsl : ∀ w, _ := fun w => slice39 (some ⟨ob, oo, none⟩) N ocap k1 (by have := HKR.out; have := HN.out; omega) w
  obtain ⟨oa3, hoa3⟩ : ∃ a : Option Addr, a = (if ocap = k1 then (some ⟨ob, oo, none⟩ : Option Addr) else (some (⟨ob, oo, none⟩ : Addr)).map (·.add (k1 * 8))) := ⟨_, rfl⟩
  obtain ⟨N3, hN3⟩ : ∃ m, m = N - k1 := ⟨_, rfl⟩
  obtain ⟨oc3, hoc3⟩ : ∃ m, m = ocap - k1 := ⟨_, rfl⟩
  have hrw3 : Rw w4 8 oa3 ob (oo + k1 * 8) N3 fun i => (L (k1 + i)).cells := by rw [hoa3, hN3]; exact HRW.out.rest k1 (by have := HKR.out; have := HN.out; omega) (by have := HOCAP.out; have := HN.out; omega)
  have hn3 : rn2 + 1 = N3 := by have := HKR.out; have := HN.out; have := HRN2.out; omega
  have hall : ∀ k, k < rn2 + 1 → planL u R2 (gsq u R g0 k1) rn2 k = L (k1 + k) := fun k hk => by
    rw [HR2.out, HL.out, planL_rest u R g0 k1 rn2 k (by omega), show k1 + rn2 = rn by have := HKR.out; have := HRN2.out; omega]
  rw [← hoa3, ← hN3, ← hoc3] at hsl
  clear hoa3 hN3 hoc3
  have HRW3 := Lib.hid hrw3
  have HN3 := Lib.hid hn3
  have HALL := Lib.hid hall
  clear hall hn3 hrw3
  go_upto_region 12 with (go_at_call 26; refine (sameLegs_any oa2 ob2 oo2 (rn2 + 1) oc2 _ oa3 ob (oo + k1 * 8) N3 oc3 _ _ HRWN.out HRW3.out HN3.out HALL.out).mono ?_; rintro e w5 ⟨rfl, hf1⟩; replace HRW := Lib.hid (HRW.out.frm hf1 (Nat.le_refl _)); replace HE := Lib.hid (HE.out.frm hf1 (Nat.le_refl _)); replace HF := Lib.hid (HF.out.call hf1 HF.out.size (by simp)); clear hf1)
  clear HRWN HRW3 hsl
  obtain ⟨lend, hlend⟩ : ∃ t, t = (L rn).leave := ⟨_, rfl⟩
  have hok := legs_ok HLS.out HNC.out
  have hst := HST.out
  have hlm := HCH.out.leave_mono rn 0 (by rw [Nat.zero_add]; exact HNC.out)
  have hl0 := HCH.out.le 0 (by have := HNC.out; omega)
  have hf0 := HFI.out.1
  rw [HG0T.out] at hf0
  rw [Nat.zero_add, ← hlend] at hlm
  have hle1 : start ≤ lend ∧ lend ≤ 1073741824 := by have := hok.leave; rw [hlend]; omega
  obtain ⟨dl, hdl⟩ : ∃ d, d = lend - start := ⟨_, rfl⟩
  obtain ⟨A, hA⟩ : ∃ d, d = dl + 1 := ⟨_, rfl⟩
  have hA1 : 1 ≤ A ∧ A ≤ 2000000000 := by omega
  have ww1 : IntKind.i64.wrap (lend - start) = dl := by rw [hdl]; exact IntWalk.i64_in _ (by omega)
  have ww2 : IntKind.i64.wrap (dl + 1) = A := by rw [hA]; exact IntWalk.i64_in _ (by omega)
  have ww3 := HNUM.out.w6
  have hAn : ¬ A < 1 := by omega
  have hA0 : ¬ A = 0 := by omega
  have hrnN := HNUM.out.rN
  have hAend : start + A = lend + 1 := by omega
  clear hdl hA hlm hl0 hf0 hok hst
  have hfx : ∀ V, Frm w5.heap.size [] w5 V → V.cell? ⟨w.heap.size + 1, 0, none⟩ = some (.int .i64 start) ∧ V.cell? ⟨ob, oo + rn * 8 + 6, none⟩ = some (.int .i64 lend) := fun V hV => by
    have e := HE.out.frm hV (Nat.le_refl _)
    refine ⟨e.t.cell 0, ?_⟩
    rw [hlend]; exact (HRW.out.frm hV (Nat.le_refl _)).at_ rn HNC.out 6 _ rfl
  have HFX := Lib.hid hfx
  have HLE1 := Lib.hid hle1
  have HA1 := Lib.hid hA1
  have HAEND := Lib.hid hAend
  have HLEND := Lib.hid hlend
  clear hlend hAend hA1 hle1 hfx
  refine wp_region_leftL (fun V => Frm w5.heap.size [] w5 V) 1000 (by kernel_rfl) ?_
  have hS : Frm w5.heap.size [] w5 w5.drew := (Frm.refl _ _ w5).drew
  have HS := Lib.hid hS
  clear hS
  first | (refine LeftL.run (v := ?_) 0 rfl (by kernel_rfl) rfl (fun _ _ d _ _ h => by cases d <;> exact h) ?_ HS.out ?_; rotate_left; (· intro V hV; obtain ⟨q0, q1⟩ := HFX.out V hV; clear hV; go_simp; rfl); (intro K' hK'; go_simp; refine hK' _ ?_; clear hK' K')) | (refine LeftL.runG (v := ?_) 0 rfl (by kernel_rfl) rfl (fun _ _ d _ _ h => by cases d <;> exact h) ?_ HS.out ?_; rotate_left; (· intro V hV; obtain ⟨q0, q1⟩ := HFX.out V hV; clear hV; go_simp; rfl); (intro K' hK'; go_simp; refine hK' _ ?_; clear hK' K')) | (refine LeftL.take (v := undef) 0 rfl (by kernel_rfl) (fun _ _ d _ _ h => by cases d <;> exact h) (.inr ⟨rfl, rfl⟩) HS.out ?_; (intro K' hK'; go_simp; refine hK' _ ?_; clear hK' K'))
  first | (refine LeftL.run (v := ?_) 1 rfl (by kernel_rfl) rfl (fun _ _ d _ _ h => by cases d <;> exact h) ?_ HS.out ?_; rotate_left; (· intro V hV; obtain ⟨q0, q1⟩ := HFX.out V hV; clear hV; go_simp; rfl); (intro K' hK'; go_simp; refine hK' _ ?_; clear hK' K')) | (refine LeftL.runG (v := ?_) 1 rfl (by kernel_rfl) rfl (fun _ _ d _ _ h => by cases d <;> exact h) ?_ HS.out ?_; rotate_left; (· intro V hV; obtain ⟨q0, q1⟩ := HFX.out V hV; clear hV; go_simp; rfl); (intro K' hK'; go_simp; refine hK' _ ?_; clear hK' K')) | (refine LeftL.take (v := undef) 1 rfl (by kernel_rfl) (fun _ _ d _ _ h => by cases d <;> exact h) (.inr ⟨rfl, rfl⟩) HS.out ?_; (intro K' hK'; go_simp; refine hK' _ ?_; clear hK' K'))
  first | (refine LeftL.run (v := ?_) 2 rfl (by kernel_rfl) rfl (fun _ _ d _ _ h => by cases d <;> exact h) ?_ HS.out ?_; rotate_left; (· intro V hV; obtain ⟨q0, q1⟩ := HFX.out V hV; clear hV; go_simp; rfl); (intro K' hK'; go_simp; refine hK' _ ?_; clear hK' K')) | (refine LeftL.runG (v := ?_) 2 rfl (by kernel_rfl) rfl (fun _ _ d _ _ h => by cases d <;> exact h) ?_ HS.out ?_; rotate_left; (· intro V hV; obtain ⟨q0, q1⟩ := HFX.out V hV; clear hV; go_simp; rfl); (intro K' hK'; go_simp; refine hK' _ ?_; clear hK' K')) | (refine LeftL.take (v := undef) 2 rfl (by kernel_rfl) (fun _ _ d _ _ h => by cases d <;> exact h) (.inr ⟨rfl, rfl⟩) HS.out ?_; (intro K' hK'; go_simp; refine hK' _ ?_; clear hK' K'))
  first | (refine LeftL.run (v := ?_) 3 rfl (by kernel_rfl) rfl (fun _ _ d _ _ h => by cases d <;> exact h) ?_ HS.out ?_; rotate_left; (· intro V hV; obtain ⟨q0, q1⟩ := HFX.out V hV; clear hV; go_simp; rfl); (intro K' hK'; go_simp; refine hK' _ ?_; clear hK' K')) | (refine LeftL.runG (v := ?_) 3 rfl (by kernel_rfl) rfl (fun _ _ d _ _ h => by cases d <;> exact h) ?_ HS.out ?_; rotate_left; (· intro V hV; obtain ⟨q0, q1⟩ := HFX.out V hV; clear hV; go_simp; rfl); (intro K' hK'; go_simp; refine hK' _ ?_; clear hK' K')) | (refine LeftL.take (v := undef) 3 rfl (by kernel_rfl) (fun _ _ d _ _ h => by cases d <;> exact h) (.inr ⟨rfl, rfl⟩) HS.out ?_; (intro K' hK'; go_simp; refine hK' _ ?_; clear hK' K'))
  first | (refine LeftL.run (v := ?_) 4 rfl (by kernel_rfl) rfl (fun _ _ d _ _ h => by cases d <;> exact h) ?_ HS.out ?_; rotate_left; (· intro V hV; obtain ⟨q0, q1⟩ := HFX.out V hV; clear hV; go_simp; rfl); (intro K' hK'; go_simp; refine hK' _ ?_; clear hK' K')) | (refine LeftL.runG (v := ?_) 4 rfl (by kernel_rfl) rfl (fun _ _ d _ _ h => by cases d <;> exact h) ?_ HS.out ?_; rotate_left; (· intro V hV; obtain ⟨q0, q1⟩ := HFX.out V hV; clear hV; go_simp; rfl); (intro K' hK'; go_simp; refine hK' _ ?_; clear hK' K')) | (refine LeftL.take (v := undef) 4 rfl (by kernel_rfl) (fun _ _ d _ _ h => by cases d <;> exact h) (.inr ⟨rfl, rfl⟩) HS.out ?_; (intro K' hK'; go_simp; refine hK' _ ?_; clear hK' K'))
  first | (refine LeftL.run (v := ?_) 5 rfl (by kernel_rfl) rfl (fun _ _ d _ _ h => by cases d <;> exact h) ?_ HS.out ?_; rotate_left; (· intro V hV; obtain ⟨q0, q1⟩ := HFX.out V hV; clear hV; go_simp; rfl); (intro K' hK'; go_simp; refine hK' _ ?_; clear hK' K')) | (refine LeftL.runG (v := ?_) 5 rfl (by kernel_rfl) rfl (fun _ _ d _ _ h => by cases d <;> exact h) ?_ HS.out ?_; rotate_left; (· intro V hV; obtain ⟨q0, q1⟩ := HFX.out V hV; clear hV; go_simp; rfl); (intro K' hK'; go_simp; refine hK' _ ?_; clear hK' K')) | (refine LeftL.take (v := undef) 5 rfl (by kernel_rfl) (fun _ _ d _ _ h => by cases d <;> exact h) (.inr ⟨rfl, rfl⟩) HS.out ?_; (intro K' hK'; go_simp; refine hK' _ ?_; clear hK' K'))
  first | (refine LeftL.run (v := ?_) 6 rfl (by kernel_rfl) rfl (fun _ _ d _ _ h => by cases d <;> exact h) ?_ HS.out ?_; rotate_left; (· intro V hV; obtain ⟨q0, q1⟩ := HFX.out V hV; clear hV; go_simp; rfl); (intro K' hK'; go_simp; refine hK' _ ?_; clear hK' K')) | (refine LeftL.runG (v := ?_) 6 rfl (by kernel_rfl) rfl (fun _ _ d _ _ h => by cases d <;> exact h) ?_ HS.out ?_; rotate_left; (· intro V hV; obtain ⟨q0, q1⟩ := HFX.out V hV; clear hV; go_simp; rfl); (intro K' hK'; go_simp; refine hK' _ ?_; clear hK' K')) | (refine LeftL.take (v := undef) 6 rfl (by kernel_rfl) (fun _ _ d _ _ h => by cases d <;> exact h) (.inr ⟨rfl, rfl⟩) HS.out ?_; (intro K' hK'; go_simp; refine hK' _ ?_; clear hK' K'))
  first | (refine LeftL.run (v := ?_) 7 rfl (by kernel_rfl) rfl (fun _ _ d _ _ h => by cases d <;> exact h) ?_ HS.out ?_; rotate_left; (· intro V hV; obtain ⟨q0, q1⟩ := HFX.out V hV; clear hV; go_simp; rfl); (intro K' hK'; go_simp; refine hK' _ ?_; clear hK' K')) | (refine LeftL.runG (v := ?_) 7 rfl (by kernel_rfl) rfl (fun _ _ d _ _ h => by cases d <;> exact h) ?_ HS.out ?_; rotate_left; (· intro V hV; obtain ⟨q0, q1⟩ := HFX.out V hV; clear hV; go_simp; rfl); (intro K' hK'; go_simp; refine hK' _ ?_; clear hK' K')) | (refine LeftL.take (v := undef) 7 rfl (by kernel_rfl) (fun _ _ d _ _ h => by cases d <;> exact h) (.inr ⟨rfl, rfl⟩) HS.out ?_; (intro K' hK'; go_simp; refine hK' _ ?_; clear hK' K'))
  first | (refine LeftL.run (v := ?_) 8 rfl (by kernel_rfl) rfl (fun _ _ d _ _ h => by cases d <;> exact h) ?_ HS.out ?_; rotate_left; (· intro V hV; obtain ⟨q0, q1⟩ := HFX.out V hV; clear hV; go_simp; rfl); (intro K' hK'; go_simp; refine hK' _ ?_; clear hK' K')) | (refine LeftL.runG (v := ?_) 8 rfl (by kernel_rfl) rfl (fun _ _ d _ _ h => by cases d <;> exact h) ?_ HS.out ?_; rotate_left; (· intro V hV; obtain ⟨q0, q1⟩ := HFX.out V hV; clear hV; go_simp; rfl); (intro K' hK'; go_simp; refine hK' _ ?_; clear hK' K')) | (refine LeftL.take (v := undef) 8 rfl (by kernel_rfl) (fun _ _ d _ _ h => by cases d <;> exact h) (.inr ⟨rfl, rfl⟩) HS.out ?_; (intro K' hK'; go_simp; refine hK' _ ?_; clear hK' K'))
  first | (refine LeftL.run (v := ?_) 9 rfl (by kernel_rfl) rfl (fun _ _ d _ _ h => by cases d <;> exact h) ?_ HS.out ?_; rotate_left; (· intro V hV; obtain ⟨q0, q1⟩ := HFX.out V hV; clear hV; go_simp; rfl); (intro K' hK'; go_simp; refine hK' _ ?_; clear hK' K')) | (refine LeftL.runG (v := ?_) 9 rfl (by kernel_rfl) rfl (fun _ _ d _ _ h => by cases d <;> exact h) ?_ HS.out ?_; rotate_left; (· intro V hV; obtain ⟨q0, q1⟩ := HFX.out V hV; clear hV; go_simp; rfl); (intro K' hK'; go_simp; refine hK' _ ?_; clear hK' K')) | (refine LeftL.take (v := undef) 9 rfl (by kernel_rfl) (fun _ _ d _ _ h => by cases d <;> exact h) (.inr ⟨rfl, rfl⟩) HS.out ?_; (intro K' hK'; go_simp; refine hK' _ ?_; clear hK' K'))
  first | (refine LeftL.run (v := ?_) 10 rfl (by kernel_rfl) rfl (fun _ _ d _ _ h => by cases d <;> exact h) ?_ HS.out ?_; rotate_left; (· intro V hV; obtain ⟨q0, q1⟩ := HFX.out V hV; clear hV; go_simp; rfl); (intro K' hK'; go_simp; refine hK' _ ?_; clear hK' K')) | (refine LeftL.runG (v := ?_) 10 rfl (by kernel_rfl) rfl (fun _ _ d _ _ h => by cases d <;> exact h) ?_ HS.out ?_; rotate_left; (· intro V hV; obtain ⟨q0, q1⟩ := HFX.out V hV; clear hV; go_simp; rfl); (intro K' hK'; go_simp; refine hK' _ ?_; clear hK' K')) | (refine LeftL.take (v := undef) 10 rfl (by kernel_rfl) (fun _ _ d _ _ h => by cases d <;> exact h) (.inr ⟨rfl, rfl⟩) HS.out ?_; (intro K' hK'; go_simp; refine hK' _ ?_; clear hK' K'))
  first | (refine LeftL.run (v := ?_) 11 rfl (by kernel_rfl) rfl (fun _ _ d _ _ h => by cases d <;> exact h) ?_ HS.out ?_; rotate_left; (· intro V hV; obtain ⟨q0, q1⟩ := HFX.out V hV; clear hV; go_simp; rfl); (intro K' hK'; go_simp; refine hK' _ ?_; clear hK' K')) | (refine LeftL.runG (v := ?_) 11 rfl (by kernel_rfl) rfl (fun _ _ d _ _ h => by cases d <;> exact h) ?_ HS.out ?_; rotate_left; (· intro V hV; obtain ⟨q0, q1⟩ := HFX.out V hV; clear hV; go_simp; rfl); (intro K' hK'; go_simp; refine hK' _ ?_; clear hK' K')) | (refine LeftL.take (v := undef) 11 rfl (by kernel_rfl) (fun _ _ d _ _ h => by cases d <;> exact h) (.inr ⟨rfl, rfl⟩) HS.out ?_; (intro K' hK'; go_simp; refine hK' _ ?_; clear hK' K'))
  refine LeftL.done (by kernel_rfl) ?_
  go_upto_region 15 with fail
  refine namedC ?_; intro w6 hw6
  rw [← hw6] at HS
  clear hw6
  replace HE := Lib.hid (HE.out.frm HS.out (Nat.le_refl _))
  replace HF := Lib.hid (HF.out.call HS.out HF.out.size (by simp))
  replace HRW := Lib.hid (HRW.out.frm HS.out (Nat.le_refl _))
  clear HS HFX ww1 ww2 ww3
  have hfx : ∀ V, Frm w6.heap.size [] w6 V → V.cell? ⟨w.heap.size + 1, 0, none⟩ = some (.int .i64 start) ∧ V.cell? ⟨w.heap.size + 2, 0, none⟩ = some (.int .i64 b0) ∧ V.cell? ⟨w.heap.size + 2, 1, none⟩ = some (.int .i64 b1) := fun V hV => by
    have e := HE.out.frm hV (Nat.le_refl _)
    exact ⟨e.t.cell 0, e.b.cell 0, e.b.cell 1⟩
  obtain ⟨x1, y1, z1, p1, p2, p3, p4, p5, p6, p7⟩ := wrapRem (x := b0) HA1.out.1 HA1.out.2
  obtain ⟨x2, y2, z2, r1, r2, r3, r4, r5, r6, r7⟩ := wrapRem (x := b1) HA1.out.1 HA1.out.2
  obtain ⟨ta, hta⟩ : ∃ t, t = start + z1 := ⟨_, rfl⟩
  obtain ⟨tb, htb⟩ : ∃ t, t = start + z2 := ⟨_, rfl⟩
  have hst := HST.out
  have hle1 := HLE1.out
  have hae := HAEND.out
  have p8 : IntKind.i64.wrap (start + z1) = ta := by rw [hta]; exact IntWalk.i64_in _ (by omega)
  have r8 : IntKind.i64.wrap (start + z2) = tb := by rw [htb]; exact IntWalk.i64_in _ (by omega)
  have htab : start ≤ ta ∧ ta ≤ lend ∧ start ≤ tb ∧ tb ≤ lend := by omega
  clear hta htb p6 p7 r6 r7 hst hle1 hae
  have HFX := Lib.hid hfx
  have HTAB := Lib.hid htab
  clear htab hfx
  refine wp_region_leftL (fun V => Frm w6.heap.size [] w6 V) 1000 (by kernel_rfl) ?_
  have hS : Frm w6.heap.size [] w6 w6.drew := (Frm.refl _ _ w6).drew
  have HS := Lib.hid hS
  clear hS
  first | (refine LeftL.run (v := ?_) 0 rfl (by kernel_rfl) rfl (fun _ _ d _ _ h => by cases d <;> exact h) ?_ HS.out ?_; rotate_left; (· intro V hV; obtain ⟨q0, q1, q2⟩ := HFX.out V hV; clear hV; go_simp; rfl); (intro K' hK'; go_simp; refine hK' _ ?_; clear hK' K')) | (refine LeftL.runG (v := ?_) 0 rfl (by kernel_rfl) rfl (fun _ _ d _ _ h => by cases d <;> exact h) ?_ HS.out ?_; rotate_left; (· intro V hV; obtain ⟨q0, q1, q2⟩ := HFX.out V hV; clear hV; go_simp; rfl); (intro K' hK'; go_simp; refine hK' _ ?_; clear hK' K')) | (refine LeftL.take (v := undef) 0 rfl (by kernel_rfl) (fun _ _ d _ _ h => by cases d <;> exact h) (.inr ⟨rfl, rfl⟩) HS.out ?_; (intro K' hK'; go_simp; refine hK' _ ?_; clear hK' K'))
  first | (refine LeftL.run (v := ?_) 1 rfl (by kernel_rfl) rfl (fun _ _ d _ _ h => by cases d <;> exact h) ?_ HS.out ?_; rotate_left; (· intro V hV; obtain ⟨q0, q1, q2⟩ := HFX.out V hV; clear hV; go_simp; rfl); (intro K' hK'; go_simp; refine hK' _ ?_; clear hK' K')) | (refine LeftL.runG (v := ?_) 1 rfl (by kernel_rfl) rfl (fun _ _ d _ _ h => by cases d <;> exact h) ?_ HS.out ?_; rotate_left; (· intro V hV; obtain ⟨q0, q1, q2⟩ := HFX.out V hV; clear hV; go_simp; rfl); (intro K' hK'; go_simp; refine hK' _ ?_; clear hK' K')) | (refine LeftL.take (v := undef) 1 rfl (by kernel_rfl) (fun _ _ d _ _ h => by cases d <;> exact h) (.inr ⟨rfl, rfl⟩) HS.out ?_; (intro K' hK'; go_simp; refine hK' _ ?_; clear hK' K'))
  first | (refine LeftL.run (v := ?_) 2 rfl (by kernel_rfl) rfl (fun _ _ d _ _ h => by cases d <;> exact h) ?_ HS.out ?_; rotate_left; (· intro V hV; obtain ⟨q0, q1, q2⟩ := HFX.out V hV; clear hV; go_simp; rfl); (intro K' hK'; go_simp; refine hK' _ ?_; clear hK' K')) | (refine LeftL.runG (v := ?_) 2 rfl (by kernel_rfl) rfl (fun _ _ d _ _ h => by cases d <;> exact h) ?_ HS.out ?_; rotate_left; (· intro V hV; obtain ⟨q0, q1, q2⟩ := HFX.out V hV; clear hV; go_simp; rfl); (intro K' hK'; go_simp; refine hK' _ ?_; clear hK' K')) | (refine LeftL.take (v := undef) 2 rfl (by kernel_rfl) (fun _ _ d _ _ h => by cases d <;> exact h) (.inr ⟨rfl, rfl⟩) HS.out ?_; (intro K' hK'; go_simp; refine hK' _ ?_; clear hK' K'))
  first | (refine LeftL.run (v := ?_) 3 rfl (by kernel_rfl) rfl (fun _ _ d _ _ h => by cases d <;> exact h) ?_ HS.out ?_; rotate_left; (· intro V hV; obtain ⟨q0, q1, q2⟩ := HFX.out V hV; clear hV; go_simp; rfl); (intro K' hK'; go_simp; refine hK' _ ?_; clear hK' K')) | (refine LeftL.runG (v := ?_) 3 rfl (by kernel_rfl) rfl (fun _ _ d _ _ h => by cases d <;> exact h) ?_ HS.out ?_; rotate_left; (· intro V hV; obtain ⟨q0, q1, q2⟩ := HFX.out V hV; clear hV; go_simp; rfl); (intro K' hK'; go_simp; refine hK' _ ?_; clear hK' K')) | (refine LeftL.take (v := undef) 3 rfl (by kernel_rfl) (fun _ _ d _ _ h => by cases d <;> exact h) (.inr ⟨rfl, rfl⟩) HS.out ?_; (intro K' hK'; go_simp; refine hK' _ ?_; clear hK' K'))
  first | (refine LeftL.run (v := ?_) 4 rfl (by kernel_rfl) rfl (fun _ _ d _ _ h => by cases d <;> exact h) ?_ HS.out ?_; rotate_left; (· intro V hV; obtain ⟨q0, q1, q2⟩ := HFX.out V hV; clear hV; go_simp; rfl); (intro K' hK'; go_simp; refine hK' _ ?_; clear hK' K')) | (refine LeftL.runG (v := ?_) 4 rfl (by kernel_rfl) rfl (fun _ _ d _ _ h => by cases d <;> exact h) ?_ HS.out ?_; rotate_left; (· intro V hV; obtain ⟨q0, q1, q2⟩ := HFX.out V hV; clear hV; go_simp; rfl); (intro K' hK'; go_simp; refine hK' _ ?_; clear hK' K')) | (refine LeftL.take (v := undef) 4 rfl (by kernel_rfl) (fun _ _ d _ _ h => by cases d <;> exact h) (.inr ⟨rfl, rfl⟩) HS.out ?_; (intro K' hK'; go_simp; refine hK' _ ?_; clear hK' K'))
  first | (refine LeftL.run (v := ?_) 5 rfl (by kernel_rfl) rfl (fun _ _ d _ _ h => by cases d <;> exact h) ?_ HS.out ?_; rotate_left; (· intro V hV; obtain ⟨q0, q1, q2⟩ := HFX.out V hV; clear hV; go_simp; rfl); (intro K' hK'; go_simp; refine hK' _ ?_; clear hK' K')) | (refine LeftL.runG (v := ?_) 5 rfl (by kernel_rfl) rfl (fun _ _ d _ _ h => by cases d <;> exact h) ?_ HS.out ?_; rotate_left; (· intro V hV; obtain ⟨q0, q1, q2⟩ := HFX.out V hV; clear hV; go_simp; rfl); (intro K' hK'; go_simp; refine hK' _ ?_; clear hK' K')) | (refine LeftL.take (v := undef) 5 rfl (by kernel_rfl) (fun _ _ d _ _ h => by cases d <;> exact h) (.inr ⟨rfl, rfl⟩) HS.out ?_; (intro K' hK'; go_simp; refine hK' _ ?_; clear hK' K'))
  first | (refine LeftL.run (v := ?_) 6 rfl (by kernel_rfl) rfl (fun _ _ d _ _ h => by cases d <;> exact h) ?_ HS.out ?_; rotate_left; (· intro V hV; obtain ⟨q0, q1, q2⟩ := HFX.out V hV; clear hV; go_simp; rfl); (intro K' hK'; go_simp; refine hK' _ ?_; clear hK' K')) | (refine LeftL.runG (v := ?_) 6 rfl (by kernel_rfl) rfl (fun _ _ d _ _ h => by cases d <;> exact h) ?_ HS.out ?_; rotate_left; (· intro V hV; obtain ⟨q0, q1, q2⟩ := HFX.out V hV; clear hV; go_simp; rfl); (intro K' hK'; go_simp; refine hK' _ ?_; clear hK' K')) | (refine LeftL.take (v := undef) 6 rfl (by kernel_rfl) (fun _ _ d _ _ h => by cases d <;> exact h) (.inr ⟨rfl, rfl⟩) HS.out ?_; (intro K' hK'; go_simp; refine hK' _ ?_; clear hK' K'))
  first | (refine LeftL.run (v := ?_) 7 rfl (by kernel_rfl) rfl (fun _ _ d _ _ h => by cases d <;> exact h) ?_ HS.out ?_; rotate_left; (· intro V hV; obtain ⟨q0, q1, q2⟩ := HFX.out V hV; clear hV; go_simp; rfl); (intro K' hK'; go_simp; refine hK' _ ?_; clear hK' K')) | (refine LeftL.runG (v := ?_) 7 rfl (by kernel_rfl) rfl (fun _ _ d _ _ h => by cases d <;> exact h) ?_ HS.out ?_; rotate_left; (· intro V hV; obtain ⟨q0, q1, q2⟩ := HFX.out V hV; clear hV; go_simp; rfl); (intro K' hK'; go_simp; refine hK' _ ?_; clear hK' K')) | (refine LeftL.take (v := undef) 7 rfl (by kernel_rfl) (fun _ _ d _ _ h => by cases d <;> exact h) (.inr ⟨rfl, rfl⟩) HS.out ?_; (intro K' hK'; go_simp; refine hK' _ ?_; clear hK' K'))
  first | (refine LeftL.run (v := ?_) 8 rfl (by kernel_rfl) rfl (fun _ _ d _ _ h => by cases d <;> exact h) ?_ HS.out ?_; rotate_left; (· intro V hV; obtain ⟨q0, q1, q2⟩ := HFX.out V hV; clear hV; go_simp; rfl); (intro K' hK'; go_simp; refine hK' _ ?_; clear hK' K')) | (refine LeftL.runG (v := ?_) 8 rfl (by kernel_rfl) rfl (fun _ _ d _ _ h => by cases d <;> exact h) ?_ HS.out ?_; rotate_left; (· intro V hV; obtain ⟨q0, q1, q2⟩ := HFX.out V hV; clear hV; go_simp; rfl); (intro K' hK'; go_simp; refine hK' _ ?_; clear hK' K')) | (refine LeftL.take (v := undef) 8 rfl (by kernel_rfl) (fun _ _ d _ _ h => by cases d <;> exact h) (.inr ⟨rfl, rfl⟩) HS.out ?_; (intro K' hK'; go_simp; refine hK' _ ?_; clear hK' K'))
  first | (refine LeftL.run (v := ?_) 9 rfl (by kernel_rfl) rfl (fun _ _ d _ _ h => by cases d <;> exact h) ?_ HS.out ?_; rotate_left; (· intro V hV; obtain ⟨q0, q1, q2⟩ := HFX.out V hV; clear hV; go_simp; rfl); (intro K' hK'; go_simp; refine hK' _ ?_; clear hK' K')) | (refine LeftL.runG (v := ?_) 9 rfl (by kernel_rfl) rfl (fun _ _ d _ _ h => by cases d <;> exact h) ?_ HS.out ?_; rotate_left; (· intro V hV; obtain ⟨q0, q1, q2⟩ := HFX.out V hV; clear hV; go_simp; rfl); (intro K' hK'; go_simp; refine hK' _ ?_; clear hK' K')) | (refine LeftL.take (v := undef) 9 rfl (by kernel_rfl) (fun _ _ d _ _ h => by cases d <;> exact h) (.inr ⟨rfl, rfl⟩) HS.out ?_; (intro K' hK'; go_simp; refine hK' _ ?_; clear hK' K'))
  first | (refine LeftL.run (v := ?_) 10 rfl (by kernel_rfl) rfl (fun _ _ d _ _ h => by cases d <;> exact h) ?_ HS.out ?_; rotate_left; (· intro V hV; obtain ⟨q0, q1, q2⟩ := HFX.out V hV; clear hV; go_simp; rfl); (intro K' hK'; go_simp; refine hK' _ ?_; clear hK' K')) | (refine LeftL.runG (v := ?_) 10 rfl (by kernel_rfl) rfl (fun _ _ d _ _ h => by cases d <;> exact h) ?_ HS.out ?_; rotate_left; (· intro V hV; obtain ⟨q0, q1, q2⟩ := HFX.out V hV; clear hV; go_simp; rfl); (intro K' hK'; go_simp; refine hK' _ ?_; clear hK' K')) | (refine LeftL.take (v := undef) 10 rfl (by kernel_rfl) (fun _ _ d _ _ h => by cases d <;> exact h) (.inr ⟨rfl, rfl⟩) HS.out ?_; (intro K' hK'; go_simp; refine hK' _ ?_; clear hK' K'))
  first | (refine LeftL.run (v := ?_) 11 rfl (by kernel_rfl) rfl (fun _ _ d _ _ h => by cases d <;> exact h) ?_ HS.out ?_; rotate_left; (· intro V hV; obtain ⟨q0, q1, q2⟩ := HFX.out V hV; clear hV; go_simp; rfl); (intro K' hK'; go_simp; refine hK' _ ?_; clear hK' K')) | (refine LeftL.runG (v := ?_) 11 rfl (by kernel_rfl) rfl (fun _ _ d _ _ h => by cases d <;> exact h) ?_ HS.out ?_; rotate_left; (· intro V hV; obtain ⟨q0, q1, q2⟩ := HFX.out V hV; clear hV; go_simp; rfl); (intro K' hK'; go_simp; refine hK' _ ?_; clear hK' K')) | (refine LeftL.take (v := undef) 11 rfl (by kernel_rfl) (fun _ _ d _ _ h => by cases d <;> exact h) (.inr ⟨rfl, rfl⟩) HS.out ?_; (intro K' hK'; go_simp; refine hK' _ ?_; clear hK' K'))
  first | (refine LeftL.run (v := ?_) 12 rfl (by kernel_rfl) rfl (fun _ _ d _ _ h => by cases d <;> exact h) ?_ HS.out ?_; rotate_left; (· intro V hV; obtain ⟨q0, q1, q2⟩ := HFX.out V hV; clear hV; go_simp; rfl); (intro K' hK'; go_simp; refine hK' _ ?_; clear hK' K')) | (refine LeftL.runG (v := ?_) 12 rfl (by kernel_rfl) rfl (fun _ _ d _ _ h => by cases d <;> exact h) ?_ HS.out ?_; rotate_left; (· intro V hV; obtain ⟨q0, q1, q2⟩ := HFX.out V hV; clear hV; go_simp; rfl); (intro K' hK'; go_simp; refine hK' _ ?_; clear hK' K')) | (refine LeftL.take (v := undef) 12 rfl (by kernel_rfl) (fun _ _ d _ _ h => by cases d <;> exact h) (.inr ⟨rfl, rfl⟩) HS.out ?_; (intro K' hK'; go_simp; refine hK' _ ?_; clear hK' K'))
  first | (refine LeftL.run (v := ?_) 13 rfl (by kernel_rfl) rfl (fun _ _ d _ _ h => by cases d <;> exact h) ?_ HS.out ?_; rotate_left; (· intro V hV; obtain ⟨q0, q1, q2⟩ := HFX.out V hV; clear hV; go_simp; rfl); (intro K' hK'; go_simp; refine hK' _ ?_; clear hK' K')) | (refine LeftL.runG (v := ?_) 13 rfl (by kernel_rfl) rfl (fun _ _ d _ _ h => by cases d <;> exact h) ?_ HS.out ?_; rotate_left; (· intro V hV; obtain ⟨q0, q1, q2⟩ := HFX.out V hV; clear hV; go_simp; rfl); (intro K' hK'; go_simp; refine hK' _ ?_; clear hK' K')) | (refine LeftL.take (v := undef) 13 rfl (by kernel_rfl) (fun _ _ d _ _ h => by cases d <;> exact h) (.inr ⟨rfl, rfl⟩) HS.out ?_; (intro K' hK'; go_simp; refine hK' _ ?_; clear hK' K'))
  first | (refine LeftL.run (v := ?_) 14 rfl (by kernel_rfl) rfl (fun _ _ d _ _ h => by cases d <;> exact h) ?_ HS.out ?_; rotate_left; (· intro V hV; obtain ⟨q0, q1, q2⟩ := HFX.out V hV; clear hV; go_simp; rfl); (intro K' hK'; go_simp; refine hK' _ ?_; clear hK' K')) | (refine LeftL.runG (v := ?_) 14 rfl (by kernel_rfl) rfl (fun _ _ d _ _ h => by cases d <;> exact h) ?_ HS.out ?_; rotate_left; (· intro V hV; obtain ⟨q0, q1, q2⟩ := HFX.out V hV; clear hV; go_simp; rfl); (intro K' hK'; go_simp; refine hK' _ ?_; clear hK' K')) | (refine LeftL.take (v := undef) 14 rfl (by kernel_rfl) (fun _ _ d _ _ h => by cases d <;> exact h) (.inr ⟨rfl, rfl⟩) HS.out ?_; (intro K' hK'; go_simp; refine hK' _ ?_; clear hK' K'))
  first | (refine LeftL.run (v := ?_) 15 rfl (by kernel_rfl) rfl (fun _ _ d _ _ h => by cases d <;> exact h) ?_ HS.out ?_; rotate_left; (· intro V hV; obtain ⟨q0, q1, q2⟩ := HFX.out V hV; clear hV; go_simp; rfl); (intro K' hK'; go_simp; refine hK' _ ?_; clear hK' K')) | (refine LeftL.runG (v := ?_) 15 rfl (by kernel_rfl) rfl (fun _ _ d _ _ h => by cases d <;> exact h) ?_ HS.out ?_; rotate_left; (· intro V hV; obtain ⟨q0, q1, q2⟩ := HFX.out V hV; clear hV; go_simp; rfl); (intro K' hK'; go_simp; refine hK' _ ?_; clear hK' K')) | (refine LeftL.take (v := undef) 15 rfl (by kernel_rfl) (fun _ _ d _ _ h => by cases d <;> exact h) (.inr ⟨rfl, rfl⟩) HS.out ?_; (intro K' hK'; go_simp; refine hK' _ ?_; clear hK' K'))
  first | (refine LeftL.run (v := ?_) 16 rfl (by kernel_rfl) rfl (fun _ _ d _ _ h => by cases d <;> exact h) ?_ HS.out ?_; rotate_left; (· intro V hV; obtain ⟨q0, q1, q2⟩ := HFX.out V hV; clear hV; go_simp; rfl); (intro K' hK'; go_simp; refine hK' _ ?_; clear hK' K')) | (refine LeftL.runG (v := ?_) 16 rfl (by kernel_rfl) rfl (fun _ _ d _ _ h => by cases d <;> exact h) ?_ HS.out ?_; rotate_left; (· intro V hV; obtain ⟨q0, q1, q2⟩ := HFX.out V hV; clear hV; go_simp; rfl); (intro K' hK'; go_simp; refine hK' _ ?_; clear hK' K')) | (refine LeftL.take (v := undef) 16 rfl (by kernel_rfl) (fun _ _ d _ _ h => by cases d <;> exact h) (.inr ⟨rfl, rfl⟩) HS.out ?_; (intro K' hK'; go_simp; refine hK' _ ?_; clear hK' K'))
  first | (refine LeftL.run (v := ?_) 17 rfl (by kernel_rfl) rfl (fun _ _ d _ _ h => by cases d <;> exact h) ?_ HS.out ?_; rotate_left; (· intro V hV; obtain ⟨q0, q1, q2⟩ := HFX.out V hV; clear hV; go_simp; rfl); (intro K' hK'; go_simp; refine hK' _ ?_; clear hK' K')) | (refine LeftL.runG (v := ?_) 17 rfl (by kernel_rfl) rfl (fun _ _ d _ _ h => by cases d <;> exact h) ?_ HS.out ?_; rotate_left; (· intro V hV; obtain ⟨q0, q1, q2⟩ := HFX.out V hV; clear hV; go_simp; rfl); (intro K' hK'; go_simp; refine hK' _ ?_; clear hK' K')) | (refine LeftL.take (v := undef) 17 rfl (by kernel_rfl) (fun _ _ d _ _ h => by cases d <;> exact h) (.inr ⟨rfl, rfl⟩) HS.out ?_; (intro K' hK'; go_simp; refine hK' _ ?_; clear hK' K'))
  first | (refine LeftL.run (v := ?_) 18 rfl (by kernel_rfl) rfl (fun _ _ d _ _ h => by cases d <;> exact h) ?_ HS.out ?_; rotate_left; (· intro V hV; obtain ⟨q0, q1, q2⟩ := HFX.out V hV; clear hV; go_simp; rfl); (intro K' hK'; go_simp; refine hK' _ ?_; clear hK' K')) | (refine LeftL.runG (v := ?_) 18 rfl (by kernel_rfl) rfl (fun _ _ d _ _ h => by cases d <;> exact h) ?_ HS.out ?_; rotate_left; (· intro V hV; obtain ⟨q0, q1, q2⟩ := HFX.out V hV; clear hV; go_simp; rfl); (intro K' hK'; go_simp; refine hK' _ ?_; clear hK' K')) | (refine LeftL.take (v := undef) 18 rfl (by kernel_rfl) (fun _ _ d _ _ h => by cases d <;> exact h) (.inr ⟨rfl, rfl⟩) HS.out ?_; (intro K' hK'; go_simp; refine hK' _ ?_; clear hK' K'))
  first | (refine LeftL.run (v := ?_) 19 rfl (by kernel_rfl) rfl (fun _ _ d _ _ h => by cases d <;> exact h) ?_ HS.out ?_; rotate_left; (· intro V hV; obtain ⟨q0, q1, q2⟩ := HFX.out V hV; clear hV; go_simp; rfl); (intro K' hK'; go_simp; refine hK' _ ?_; clear hK' K')) | (refine LeftL.runG (v := ?_) 19 rfl (by kernel_rfl) rfl (fun _ _ d _ _ h => by cases d <;> exact h) ?_ HS.out ?_; rotate_left; (· intro V hV; obtain ⟨q0, q1, q2⟩ := HFX.out V hV; clear hV; go_simp; rfl); (intro K' hK'; go_simp; refine hK' _ ?_; clear hK' K')) | (refine LeftL.take (v := undef) 19 rfl (by kernel_rfl) (fun _ _ d _ _ h => by cases d <;> exact h) (.inr ⟨rfl, rfl⟩) HS.out ?_; (intro K' hK'; go_simp; refine hK' _ ?_; clear hK' K'))
  first | (refine LeftL.run (v := ?_) 20 rfl (by kernel_rfl) rfl (fun _ _ d _ _ h => by cases d <;> exact h) ?_ HS.out ?_; rotate_left; (· intro V hV; obtain ⟨q0, q1, q2⟩ := HFX.out V hV; clear hV; go_simp; rfl); (intro K' hK'; go_simp; refine hK' _ ?_; clear hK' K')) | (refine LeftL.runG (v := ?_) 20 rfl (by kernel_rfl) rfl (fun _ _ d _ _ h => by cases d <;> exact h) ?_ HS.out ?_; rotate_left; (· intro V hV; obtain ⟨q0, q1, q2⟩ := HFX.out V hV; clear hV; go_simp; rfl); (intro K' hK'; go_simp; refine hK' _ ?_; clear hK' K')) | (refine LeftL.take (v := undef) 20 rfl (by kernel_rfl) (fun _ _ d _ _ h => by cases d <;> exact h) (.inr ⟨rfl, rfl⟩) HS.out ?_; (intro K' hK'; go_simp; refine hK' _ ?_; clear hK' K'))
  first | (refine LeftL.run (v := ?_) 21 rfl (by kernel_rfl) rfl (fun _ _ d _ _ h => by cases d <;> exact h) ?_ HS.out ?_; rotate_left; (· intro V hV; obtain ⟨q0, q1, q2⟩ := HFX.out V hV; clear hV; go_simp; rfl); (intro K' hK'; go_simp; refine hK' _ ?_; clear hK' K')) | (refine LeftL.runG (v := ?_) 21 rfl (by kernel_rfl) rfl (fun _ _ d _ _ h => by cases d <;> exact h) ?_ HS.out ?_; rotate_left; (· intro V hV; obtain ⟨q0, q1, q2⟩ := HFX.out V hV; clear hV; go_simp; rfl); (intro K' hK'; go_simp; refine hK' _ ?_; clear hK' K')) | (refine LeftL.take (v := undef) 21 rfl (by kernel_rfl) (fun _ _ d _ _ h => by cases d <;> exact h) (.inr ⟨rfl, rfl⟩) HS.out ?_; (intro K' hK'; go_simp; refine hK' _ ?_; clear hK' K'))
  first | (refine LeftL.run (v := ?_) 22 rfl (by kernel_rfl) rfl (fun _ _ d _ _ h => by cases d <;> exact h) ?_ HS.out ?_; rotate_left; (· intro V hV; obtain ⟨q0, q1, q2⟩ := HFX.out V hV; clear hV; go_simp; rfl); (intro K' hK'; go_simp; refine hK' _ ?_; clear hK' K')) | (refine LeftL.runG (v := ?_) 22 rfl (by kernel_rfl) rfl (fun _ _ d _ _ h => by cases d <;> exact h) ?_ HS.out ?_; rotate_left; (· intro V hV; obtain ⟨q0, q1, q2⟩ := HFX.out V hV; clear hV; go_simp; rfl); (intro K' hK'; go_simp; refine hK' _ ?_; clear hK' K')) | (refine LeftL.take (v := undef) 22 rfl (by kernel_rfl) (fun _ _ d _ _ h => by cases d <;> exact h) (.inr ⟨rfl, rfl⟩) HS.out ?_; (intro K' hK'; go_simp; refine hK' _ ?_; clear hK' K'))
  first | (refine LeftL.run (v := ?_) 23 rfl (by kernel_rfl) rfl (fun _ _ d _ _ h => by cases d <;> exact h) ?_ HS.out ?_; rotate_left; (· intro V hV; obtain ⟨q0, q1, q2⟩ := HFX.out V hV; clear hV; go_simp; rfl); (intro K' hK'; go_simp; refine hK' _ ?_; clear hK' K')) | (refine LeftL.runG (v := ?_) 23 rfl (by kernel_rfl) rfl (fun _ _ d _ _ h => by cases d <;> exact h) ?_ HS.out ?_; rotate_left; (· intro V hV; obtain ⟨q0, q1, q2⟩ := HFX.out V hV; clear hV; go_simp; rfl); (intro K' hK'; go_simp; refine hK' _ ?_; clear hK' K')) | (refine LeftL.take (v := undef) 23 rfl (by kernel_rfl) (fun _ _ d _ _ h => by cases d <;> exact h) (.inr ⟨rfl, rfl⟩) HS.out ?_; (intro K' hK'; go_simp; refine hK' _ ?_; clear hK' K'))
  refine LeftL.done (by kernel_rfl) ?_
  go_upto_region 16 with fail
  refine namedC ?_; intro w7 hw7
  rw [← hw7] at HS
  clear hw7
  replace HE := Lib.hid (HE.out.frm HS.out (Nat.le_refl _))
  replace HF := Lib.hid (HF.out.call HS.out HF.out.size (by simp))
  replace HRW := Lib.hid (HRW.out.frm HS.out (Nat.le_refl _))
  clear HS HFX p1 p2 p3 p4 p5 p8 r1 r2 r3 r4 r5 r8
  have hf0 := HFI.out.1
  rw [HG0T.out] at hf0
  have hN1 : N - 1 = rn := by have := HN.out; omega
  obtain ⟨ja, hja⟩ := HCH.out.at_ex (by have := HNC.out; omega) (t := min ta tb) (by have := HTAB.out; omega) (by have := HTAB.out; rw [hN1, ← HLEND.out]; omega)
  obtain ⟨jb, hjb⟩ := HCH.out.at_ex (by have := HNC.out; omega) (t := max ta tb) (by have := HTAB.out; omega) (by have := HTAB.out; rw [hN1, ← HLEND.out]; omega)
  have hsa := atI_some hja
  have hsb := atI_some hjb
  obtain ⟨n1, hn1⟩ : ∃ x, x = leftF (L ja) u.burn (min ta tb) := ⟨_, rfl⟩
  obtain ⟨n2, hn2⟩ : ∃ x, x = leftF (L jb) u.burn (max ta tb) := ⟨_, rfl⟩
  have hge : n2 ≤ n1 := by rw [hn1, hn2]; exact HCH.out.left_mono (HCH.out.at_mono hja hjb (by omega)) hsb.1 hsa.2.2 hsb.2.1 (by omega)
  have hbu := HCH.out.left_burnt (F := u.fuel) (by rw [← HG0F.out]; exact HFI.out.2) hsa.1 (t := min ta tb)
  have hlow := leftF_ge (l := L ja) HCH.out.burn hsa.2.2
  have hlf := (legs_ok HLS.out hsa.1).fuel
  rw [← hn1] at hbu hlow
  rw [hf0] at hbu
  have e1 := left_of HI1.out HLS.out hja
  have e2 := left_of HI1.out HLS.out hjb
  rw [← hn1] at e1
  rw [← hn2] at e2
  have huf := HU.out.fuel
  have hub := HU.out.burn
  have htb := HTAB.out
  have hle1 := HLE1.out
  have hst := HST.out
  obtain ⟨q1, hq1⟩ : ∃ x, x = u.fuel - n1 := ⟨_, rfl⟩
  obtain ⟨q2, hq2⟩ : ∃ x, x = 3600 * q1 := ⟨_, rfl⟩
  obtain ⟨q3, hq3⟩ : ∃ x, x = min ta tb - start := ⟨_, rfl⟩
  obtain ⟨q4, hq4⟩ : ∃ x, x = u.burn * q3 := ⟨_, rfl⟩
  have h0 : 0 ≤ q4 := by rw [hq4]; exact Int.mul_nonneg hub.1 (by omega)
  have h1 : q4 ≤ 1048576 * 1073741824 := by rw [hq4]; exact Int.mul_le_mul hub.2 (by omega) (by omega) (by omega)
  rw [← hq1, ← hq2, ← hq3, ← hq4] at hbu
  have v1 : wrap64 (u.fuel - n1) = q1 := by rw [hq1]; exact IntWalk.wrap64_in _ (by omega)
  have v2 : wrap64 (3600 * q1) = q2 := by rw [hq2]; exact IntWalk.wrap64_in _ (by omega)
  have v3 : wrap64 (min ta tb - start) = q3 := by rw [hq3]; exact IntWalk.wrap64_in _ (by omega)
  have v4 : wrap64 (u.burn * q3) = q4 := by rw [← hq4]; exact IntWalk.wrap64_in _ (by omega)
  clear hq1 hq2 hq3 hq4 hub huf hlf hlow hn1 hn2 htb hle1 hst h0 h1 hf0 hsa hsb
  have E1 := Lib.hid e1
  have E2 := Lib.hid e2
  have HJA := Lib.hid hja
  have HJB := Lib.hid hjb
  clear hjb hja e2 e1
  go_wp2_with (with_reducible refine atLoad 25 rfl ?_; refine wpList_loadB (ty := 25) rfl rfl HE.out.u rfl Tryd.underlying25 rfl HSI.out ?_)
  refine (left_any u s HNM.out (some ⟨ob, oo, none⟩) ob oo N ocap L (min ta tb) _ HRW.out).mono ?_; rintro e w8 ⟨rfl, hf1⟩
  rw [E1.out]
  replace HRW := Lib.hid (HRW.out.frm hf1 (Nat.le_refl _))
  replace HE := Lib.hid (HE.out.frm hf1 (Nat.le_refl _)); replace HF := Lib.hid (HF.out.call hf1 HF.out.size (by simp)); clear hf1
  dsimp only
  go_wp2_with (with_reducible refine atLoad 25 rfl ?_; refine wpList_loadB (ty := 25) rfl rfl HE.out.u rfl Tryd.underlying25 rfl HSI.out ?_)
  refine (left_any u s HNM.out (some ⟨ob, oo, none⟩) ob oo N ocap L (max ta tb) _ HRW.out).mono ?_; rintro e wa ⟨rfl, hf1⟩
  rw [E2.out]
  replace HE := Lib.hid (HE.out.frm hf1 (Nat.le_refl _)); replace HF := Lib.hid (HF.out.call hf1 HF.out.size (by simp)); clear hf1
  dsimp only
  have k2 : wa.cell? ⟨w.heap.size, 2, none⟩ = some (.int .i64 u.fuel) := HE.out.u.cell 2
  have k3 : wa.cell? ⟨w.heap.size, 3, none⟩ = some (.int .i64 u.burn) := HE.out.u.cell 3
  have k4 : wa.cell? ⟨w.heap.size + 1, 0, none⟩ = some (.int .i64 start) := HE.out.t.cell 0
  go_wp2_with (go_at_call 16; refine (awake_any _ (HGL.out.frm HF.out (Nat.le_refl _))).mono ?_; rintro e w9 ⟨rfl, hf1⟩; replace HE := Lib.hid (HE.out.frm hf1 (Nat.le_refl _)); replace HF := Lib.hid (HF.out.call hf1 HF.out.size (by simp)); clear hf1)
  go_ret
  exact ⟨rfl, HF.out⟩

set_option maxRecDepth 100000
theorem cells72 : Tryd.prog.cellsOf 72 = 2 := by kernel_rfl
theorem leaves72 : Tryd.prog.cellTypes Tryd.prog.depth 72 = some [3, 3] := by kernel_rfl
theorem open_two {W : World} {v : Value} {r : Reach} {base : Nat} (hv : Value.okWide Tryd.prog W r base 72 v) : ∃ a b, v = .agg #[.int .i64 a, .int .i64 b] := by
  have hv' : ∃ cs, v = .agg cs ∧ cs.size = Tryd.prog.cellsOf 72 ∧ Row.okWide Tryd.prog W r base 72 cs := by simpa only [Value.okWide, Tryd.underlying72] using hv
  obtain ⟨⟨l⟩, rfl, hsz, ts, hts, _, hc⟩ := hv'
  rw [cells72] at hsz
  obtain rfl := Option.some.inj (leaves72.symm.trans hts)
  obtain ⟨a, b, rfl⟩ := list2 (show l.length = 2 from hsz)
  obtain ⟨_, ea, ha⟩ := hc 0 a rfl
  obtain ⟨_, eb, hb⟩ := hc 1 b rfl
  cases ea; cases eb
  obtain ⟨_, rfl⟩ := leaf_int ha
  obtain ⟨_, rfl⟩ := leaf_int hb
  exact ⟨_, _, rfl⟩
theorem wf_u8 {n : Int} (h : (Lit.int .u8 n).wf = true) : ∃ m : Nat, n = m ∧ m < 256 := by
  simp only [Lit.wf, Bool.and_eq_true, decide_eq_true_eq] at h
  have h1 : (0 : Int) ≤ n := h.1
  have h2 : n ≤ 255 := h.2
  exact ⟨n.toNat, by omega, by omega⟩
theorem open_u8 {H : Type} {enc : TypeId × Value → H} {W : World} {v : Value} {d : DataW H} {p : List MemPlace} {r : Reach} {base : Nat} (hv : Value.okWide Tryd.prog W r base 5 v) (h : DataW.Trod enc Tryd.prog W 0 (fun _ => true) true 5 v d p) :
    ∃ n : Nat, v = .int .u8 n ∧ n < 256 := by
  obtain ⟨n, rfl, _, _, hw⟩ := open_int Tryd.underlying5 hv h
  obtain ⟨m, rfl, hm⟩ := wf_u8 hw
  exact ⟨m, rfl, hm⟩
theorem task_le {H : Type} {enc : TypeId × Value → H} {W : World} {d : DataW H} {p : List MemPlace} {start : Int} {ra : Option Addr} {rn rcap : Nat} {sa : Option Addr} {n cap : Nat} (h : DataW.Trod enc Tryd.prog W 0 (fun _ => true) true 37 (.agg (taskC start ra rn rcap sa n cap).toArray) d p) : rn ≤ rcap := by
  obtain ⟨m, hm⟩ := h
  obtain ⟨xs, n', _, _, hl, hlen2, hf⟩ := DataW.trod_struct Tryd.underlying37 hm
  obtain ⟨y0, y1, y2, rfl⟩ := list3 (show xs.length = 3 from hlen2)
  have k1 := hf 1 _ rfl
  change DataW.trod enc Tryd.prog W 0 (fun _ => true) true n' 35 (List.take (Tryd.prog.cellsOf 35) (List.drop 1 [.int .i64 start, .slice ra rn rcap, .slice sa n cap])) = some y1 at k1
  rw [cells35] at k1
  simp only [List.drop_succ_cons, List.drop_zero, List.take_succ_cons, List.take_zero] at k1
  rcases Deep.open_slice Tryd.underlying35 (show DataW.trod enc Tryd.prog W 0 (fun _ => true) true n' 35 (Value.slice ra rn rcap).cells.toList = some (y1.1, y1.2) from k1) with ⟨h1, _⟩ | ⟨a, len, cap', m', n2, D, Pl, h1, hb, hle, hmax, hmm, hx, hel⟩
  · simp [Value.cells] at h1
    omega
  · simp [Value.cells] at h1
    omega

set_option maxRecDepth 100000 in
theorem unitGoesOn_lifted (os : Os) (started : os.Started) (H : Type) (enc : TypeId × Value → H) :
    ReturnsInHanded {} Tryd.checked os 11 .any (fun w args => (Rows.unitGoesOnSpec.pre enc Tryd.prog Tryd.f11 [] false w args ∧ laidMetH Tryd.prog laidR w) ∧ sizedMet enc Tryd.prog Tryd.f11 (OpenSpec.ofChange Rows.unitGoesOnSpec) false w args) (Rows.unitGoesOnSpec.post enc Tryd.prog Tryd.f11 false true false false) := by
  refine law_liftL (fn := Tryd.f11) (s := Rows.unitGoesOnSpec) started 4 (by kernel_rfl) Tryd.func11
      (ChangeSpec.witness_shaped (enc := enc) (C := Tryd.checked) (os := os) (X := fun w _ => laidMetH Tryd.prog laidR w) false (World.doorLaid Tryd.prog 400 os)
        #[.agg #[.string ByteArray.empty, .int .i64 0, .int .i64 0, .int .i64 0, .int .i64 0, .int .i64 0, .int .i64 0, .int .i64 0, .int .i64 0, .int .i64 0, .int .i64 0, .int .i64 0], .agg #[.int .i64 0, .slice none 0 0, .slice none 0 0], .int .u8 0, .agg #[.int .i64 0, .int .i64 0]] 8 rfl
        (World.shaped_of_RefB (by kernel_rfl) (by kernel_rfl)) (by kernel_rfl) (by kernel_rfl) (by kernel_rfl) (door_met os _))
      (by rw [Tryd.params11]; decide +kernel) (by rw [Tryd.params11]; rfl) (by kernel_rfl) rfl (fun ds h => by match ds, h with | [d1, d2, d3, d4], _ => rfl) ?_
  intro W base args ds ps hval hA hgl
  rw [Tryd.params11] at hA hval
  obtain ⟨v0, vs0, d0, ds0, p0, q0, hargs, rfl, rfl, h0, r0⟩ := trodAll_cons hA
  obtain ⟨v1, vs1, d1, ds1, p1, q1, rfl, rfl, rfl, h1, r1⟩ := trodAll_cons r0
  obtain ⟨v2, vs2, d2, ds2, p2, q2, rfl, rfl, rfl, h2, r2⟩ := trodAll_cons r1
  obtain ⟨v3, vs3, d3, ds3, p3, q3, rfl, rfl, rfl, h3, r3⟩ := trodAll_cons r2
  obtain ⟨rfl, rfl, rfl⟩ := trodAll_nil r3
  obtain rfl : args = #[v0, v1, v2, v3] := by cases args; simp_all
  obtain ⟨u, s, rfl, hnm⟩ := open_unit (hval 0 25 v0 rfl rfl)
  obtain ⟨start, ra, rb, roff, rn, rcap, R, sa, sb, soff, n, cap, S, rfl, hrr, hr⟩ := open_task (hval 1 37 v1 rfl rfl) h1
  obtain ⟨k, rfl, hk⟩ := open_u8 (hval 2 5 v2 rfl rfl) h2
  obtain ⟨b0, b1, rfl⟩ := open_two (hval 3 72 v3 rfl rfl)
  exact goes_walk u s hnm start ra rb roff rn rcap R sa sb soff n cap S k hk b0 b1 W hrr hr (task_le h1) hgl

theorem unitGoesOn_over : Rows.UnitGoesOnSaid :=
  OpenClaim.holds_of_wide 11 Tryd.f11 rfl rfl rfl rfl rfl rfl rfl ⟨rfl, rfl, rfl, rfl, rfl⟩ rfl rfl rfl rfl rfl (by kernel_rfl) Tryd.func11 (by kernel_rfl)
    (of_decide_eq_true (by kernel_rfl)) (by unfold Func.isWrapper; first | (rw [if_pos (by decide +kernel)]; kernel_rfl) | (rw [if_neg (by decide +kernel)]; exact ⟨rfl, rfl⟩))
    (fun os started H enc _ => unitGoesOn_lifted os started H enc)
end Go.Proofs.YtghkfopcjdkieaaDoor
