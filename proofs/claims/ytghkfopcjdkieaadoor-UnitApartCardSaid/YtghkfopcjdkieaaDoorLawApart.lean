/-
  Two units on the same level, whose boxes do not clash, are at no time so close that their margins touch.
-/
import Derived.Test.YtghkfopcjdkieaaDoorP2
namespace Go.Proofs.YtghkfopcjdkieaaDoor
open Go.ChangeShapes Go.WideShapes Go.ChangeAt Go.RowKit

/-- What the statement reads. -/
structure ApEnv (V : World) (c : Nat) (ua ub : UC) (pa : Option Addr) (ba oa na ca : Nat) (La : Nat → LC) (pb : Option Addr) (bb ob nb cb : Nat) (Lb : Nat → LC) (p q : Nat) (ta : Option Addr) (tb to_ tn : Nat) (T : Nat → Int) : Prop where
  a : Blk V c 62 (flightC ua pa na ca)
  b : Blk V (c + 1) 62 (flightC ub pb nb cb)
  p : Blk V (c + 2) 63 [.int .u8 p, .int .u8 q]
  la : Rw V 8 pa ba oa na fun i => (La i).cells
  lb : Rw V 8 pb bb ob nb fun i => (Lb i).cells
  t : Rw V 1 ta tb to_ tn fun i => [.int .i64 (T i)]
section
variable {V V' : World} {B c : Nat} {ua ub : UC} {pa : Option Addr} {ba oa na ca : Nat} {La : Nat → LC} {pb : Option Addr} {bb ob nb cb : Nat} {Lb : Nat → LC} {p q : Nat} {ta : Option Addr} {tb to_ tn : Nat} {T : Nat → Int}
theorem ApEnv.frm (h : ApEnv V c ua ub pa ba oa na ca La pb bb ob nb cb Lb p q ta tb to_ tn T) (hf : Frm B [] V V') (hB : V.heap.size ≤ B) : ApEnv V' c ua ub pa ba oa na ca La pb bb ob nb cb Lb p q ta tb to_ tn T :=
  ⟨hf.blk h.a (Nat.lt_of_lt_of_le h.a.lt hB) (by simp), hf.blk h.b (Nat.lt_of_lt_of_le h.b.lt hB) (by simp), hf.blk h.p (Nat.lt_of_lt_of_le h.p.lt hB) (by simp), h.la.frm hf hB, h.lb.frm hf hB, h.t.frm hf hB⟩
theorem ApEnv.cA (h : ApEnv V c ua ub pa ba oa na ca La pb bb ob nb cb Lb p q ta tb to_ tn T) : V.cell? ⟨c, 12, none⟩ = some (.slice pa na ca) := h.a.cell 12
theorem ApEnv.cB (h : ApEnv V c ua ub pa ba oa na ca La pb bb ob nb cb Lb p q ta tb to_ tn T) : V.cell? ⟨c + 1, 12, none⟩ = some (.slice pb nb cb) := h.b.cell 12
theorem ApEnv.lA (h : ApEnv V c ua ub pa ba oa na ca La pb bb ob nb cb Lb p q ta tb to_ tn T) : V.cell? ⟨c, 11, none⟩ = some (.int .i64 ua.level) := h.a.cell 11
theorem ApEnv.lB (h : ApEnv V c ua ub pa ba oa na ca La pb bb ob nb cb Lb p q ta tb to_ tn T) : V.cell? ⟨c + 1, 11, none⟩ = some (.int .i64 ub.level) := h.b.cell 11
theorem ApEnv.mA (h : ApEnv V c ua ub pa ba oa na ca La pb bb ob nb cb Lb p q ta tb to_ tn T) : V.cell? ⟨c, 10, none⟩ = some (.int .i64 ua.margin) := h.a.cell 10
theorem ApEnv.mB (h : ApEnv V c ua ub pa ba oa na ca La pb bb ob nb cb Lb p q ta tb to_ tn T) : V.cell? ⟨c + 1, 10, none⟩ = some (.int .i64 ub.margin) := h.b.cell 10
end

theorem boxesO_some {u : UC} {s : ByteArray} {n : Nat} {L : Nat → LC} {p z : Int} (h : boxesO u s n L p = some z) : z ≠ 0 := by
  unfold boxesO at h
  split at h
  · cases h; decide
  · split at h
    · cases h; decide
    · cases h
theorem boxesO_none {u : UC} {s : ByteArray} {n : Nat} {L : Nat → LC} {p : Int} (h : boxesO u s n L p = none) : unitB u s = true ∧ legsB n L = true := by
  unfold boxesO at h
  split at h
  · cases h
  · rename_i h1
    simpa using h1
theorem high_low1 {a T : Int} (hT : 0 < T) : -(-a / T) ≤ a / T + 1 := by
  have h1 := Int.lt_mul_ediv_self_add (x := a) (k := T) hT
  have h2 := Int.lt_mul_ediv_self_add (x := -a) (k := T) hT
  have h3 : T * 0 < T * (a / T + -a / T + 2) := by rw [Int.mul_add, Int.mul_add]; omega
  have := Int.lt_of_mul_lt_mul_left h3 (by omega)
  omega
theorem low_small {l : LC} {t : Int} (hB : LegOK l) (hst : l.start ≤ t) : smallP (lowZ l t).1 ∧ smallP (lowZ l t).2 ∧ smallP (highZ l t).1 ∧ smallP (highZ l t).2 := by
  have h0 := place_in (low_place hB hst)
  have h1 := low_high hB hst
  have h2 : (highZ l t).1 ≤ (lowZ l t).1 + 1 ∧ (highZ l t).2 ≤ (lowZ l t).2 + 1 := by
    unfold lowZ highZ
    by_cases ha : l.arrive ≤ t
    · rw [if_pos ha, if_pos ha]
      dsimp only
      omega
    · rw [if_neg ha, if_neg ha]
      have k1 := high_low1 (a := (l.tx - l.fx) * (t - l.start)) (T := l.arrive - l.start) (by omega)
      have k2 := high_low1 (a := (l.ty - l.fy) * (t - l.start)) (T := l.arrive - l.start) (by omega)
      dsimp only
      omega
  unfold smallP
  omega
theorem margin_of {u : UC} {s : ByteArray} (h : unitB u s = true) : 0 ≤ u.margin ∧ u.margin ≤ 100000 := by
  unfold unitB at h
  simp only [Bool.and_eq_true] at h
  have h6 := h.2.1.2
  unfold limB at h6
  exact inB_iff.1 h6
theorem boxes_no {l : List BC} {P : BC → Prop} (h : ∀ i, i < l.length → P (boxAt l i)) : ∀ a, a ∈ l → P a := fun a ha => by
  obtain ⟨i, hi, rfl⟩ := List.getElem_of_mem ha
  have := h i hi
  unfold boxAt at this
  rw [List.getElem?_eq_getElem hi] at this
  exact this
theorem atI_cases (n : Nat) (L : Nat → LC) (t : Int) (hl : legsB n L = true) : (whereZ n L t).2.2 ≠ 0 ∨ ∃ i, atI n L t = some i ∧ whereZ n L t = (lowZ (L i) t, highZ (L i) t, 0) := by
  unfold whereZ
  rw [if_pos hl]
  cases h : atI n L t with
  | none => exact .inl (by simp)
  | some i => exact .inr ⟨i, rfl, rfl⟩
structure PieceNums (p P m : Nat) : Prop where
  f1 : IntKind.i64.wrap (p : Int) = (p : Int) ∧ wrap64 (p : Int) = (p : Int)
  f2 : (p : Int).tmod 20 = (m : Int)
  f3 : IntKind.i64.wrap (m : Int) = (m : Int) ∧ wrap64 (m : Int) = (m : Int)
  f4 : IntKind.i64.wrap (1 + (m : Int)) = (P : Int) ∧ wrap64 (1 + (m : Int)) = (P : Int)
  pos : 0 < P
theorem piece_nums {p : Nat} (hp : p < 256) : ∃ P m : Nat, PieceNums p P m := by
  have key : ∀ x : Int, 0 ≤ x → x ≤ 1000 → IntKind.i64.wrap x = x ∧ wrap64 x = x := fun x h1 h2 => ⟨IntWalk.i64_in _ (by omega), IntWalk.wrap64_in _ (by omega)⟩
  refine ⟨1 + p % 20, p % 20, key _ (by omega) (by omega), by rw [Int.tmod_eq_emod_of_nonneg (by omega)]; omega, key _ (by omega) (by omega), ?_, by omega⟩
  rw [Int.natCast_add]
  exact key _ (by omega) (by omega)
theorem legs_mono {n : Nat} {L : Nat → LC} (h : legsB n L = true) : ∀ k, k < n → (L 0).start ≤ (L k).leave
  | 0, hk => by
    have := legs_ok h hk
    have h1 := this.arrive
    have h2 := this.leave
    omega
  | k + 1, hk => by
    have h0 := legs_mono h k (by omega)
    have this := legs_ok h hk
    have h1 := this.arrive
    have h2 := this.leave
    unfold legsB at h
    simp only [Bool.and_eq_true, List.all_eq_true, List.mem_range, Bool.or_eq_true, decide_eq_true_eq] at h
    have h3 := (h.2 (k + 1) hk).2
    rcases h3 with h3 | h3
    · omega
    · unfold joinB at h3
      simp only [Bool.and_eq_true, decide_eq_true_eq] at h3
      have h4 := h3.2
      rw [show k + 1 - 1 = k by omega] at h4
      omega
structure ApNums (st le A dl : Int) : Prop where
  w1 : IntKind.i64.wrap (le - st) = dl
  w2 : IntKind.i64.wrap (dl + 1) = A
  A1 : 1 ≤ A ∧ A ≤ 2000000000
  A0 : ¬ A = 0
  fin : st + A = le + 1
theorem ap_nums {st le : Int} (h0 : 0 ≤ st) (h1 : st ≤ le) (h2 : le ≤ 1073741824) : ∃ A dl, ApNums st le A dl :=
  ⟨le - st + 1, le - st, IntWalk.i64_in _ (by omega), IntWalk.i64_in _ (by omega), by omega, by omega, by omega⟩
structure ApRem (x A st a b c at_ : Int) : Prop where
  p1 : x.tmod A = a
  p2 : IntKind.i64.wrap a = a
  p3 : IntKind.i64.wrap (a + A) = b
  p4 : b.tmod A = c
  p5 : IntKind.i64.wrap c = c
  p6 : IntKind.i64.wrap (st + c) = at_
theorem ap_rem {x A st : Int} (hA : 1 ≤ A ∧ A ≤ 2000000000) (hs : 0 ≤ st ∧ st ≤ 1073741824) : ∃ a b c at_ : Int, ApRem x A st a b c at_ := by
  have h1 := Int.lt_tmod_of_pos x (show 0 < A by omega)
  have h2 := Int.tmod_lt_of_pos x (show 0 < A by omega)
  obtain ⟨y, hy⟩ : ∃ y, y = x.tmod A := ⟨_, rfl⟩
  rw [← hy] at h1 h2
  have h3 := Int.tmod_nonneg A (show 0 ≤ y + A by omega)
  have h4 := Int.tmod_lt_of_pos (y + A) (show 0 < A by omega)
  obtain ⟨z, hz⟩ : ∃ z, z = (y + A).tmod A := ⟨_, rfl⟩
  rw [← hz] at h3 h4
  refine ⟨y, y + A, z, st + z, hy.symm, ?_, ?_, hz.symm, ?_, ?_⟩
  · clear hy hz; exact IntWalk.i64_in _ (by omega)
  · clear hy hz; exact IntWalk.i64_in _ (by omega)
  · clear hy hz; exact IntWalk.i64_in _ (by omega)
  · clear hy hz; exact IntWalk.i64_in _ (by omega)
theorem wrapSucc {k n : Nat} (h : k < n) (hn : n ≤ 9223372036854775807) : IntKind.i64.wrap ((k : Int) + 1) = (k : Int) + 1 ∧ wrap64 ((k : Int) + 1) = (k : Int) + 1 := ⟨IntWalk.i64_in _ (by omega), IntWalk.wrap64_in _ (by omega)⟩
theorem meas_next6 {n j : Nat} (h : j < n) : n - ((j : Int) + 1).toNat < n - ((j : Int)).toNat := by omega

set_option maxRecDepth 100000 in
set_option maxHeartbeats 16000000 in
theorem apart_walk (ua ub : UC) (sa sb : ByteArray) (hna : ua.name = .string sa) (hnb : ub.name = .string sb) (pa : Option Addr) (ba oa na ca : Nat) (La : Nat → LC) (pb : Option Addr) (bb ob nb cb : Nat) (Lb : Nat → LC) (p q : Nat) (hp : p < 256) (hq : q < 256) (ta : Option Addr) (tb to_ tn tcap : Nat) (T : Nat → Int) (w : World)
    (hra : Rw w 8 pa ba oa na fun i => (La i).cells) (hrb : Rw w 8 pb bb ob nb fun i => (Lb i).cells) (hrt : Rw w 1 ta tb to_ tn fun i => [.int .i64 (T i)]) (hgl : Glob w) :
    Calls Tryd.prog 9 #[.agg (flightC ua pa na ca).toArray, .agg (flightC ub pb nb cb).toArray, .agg #[.int .u8 p, .int .u8 q], .slice ta tn tcap] w fun e w' => e = .returned (.bool true) ∧ Frm w.heap.size [] w w' := by
  have hf0 := Tryd.func9
  have HRA := Lib.hid hra
  have HRB := Lib.hid hrb
  have HRT := Lib.hid hrt
  have HGL := Lib.hid hgl
  have HNA := Lib.hid hna
  have HNB := Lib.hid hnb
  clear hnb hna hgl hrt hrb hra
  go_enter Tryd.func9, Tryd.ntmps9
  go_upto_region 1 with fail
  refine namedC ?_; intro W hW
  have ha : Blk W w.heap.size 62 (flightC ua pa na ca) := by rw [hW]; repeat (first | exact Blk.new w 62 (flightC ua pa na ca) | refine Blk.alloc' ?_)
  have hb : Blk W (w.heap.size + 1) 62 (flightC ub pb nb cb) := by rw [hW]; repeat (first | exact Blk.new' _ 62 (flightC ub pb nb cb) (by simp) | refine Blk.alloc' ?_)
  have hpq : Blk W (w.heap.size + 2) 63 [.int .u8 p, .int .u8 q] := by rw [hW]; repeat (first | exact Blk.new' _ 63 [.int .u8 p, .int .u8 q] (by simp) | refine Blk.alloc' ?_)
  have hf : Frm w.heap.size [] w W := by rw [hW]; repeat (first | with_reducible exact Frm.refl _ _ _ | with_reducible refine Frm.drewN ?_ | with_reducible refine Frm.drew ?_ | ((with_reducible refine Frm.setCell' ?_ ?_); · first | (left; simp; done) | (right; simp; done) | (right; simp; omega)) | ((with_reducible refine Frm.alloc' ?_ ?_); · first | exact Nat.le_refl _ | (simp; done) | (simp; omega)))
  clear hW hf0
  obtain ⟨c, hc⟩ : ∃ c, c = w.heap.size := ⟨_, rfl⟩
  rw [← hc] at ha hb hpq ⊢
  have henv : ApEnv W c ua ub pa ba oa na ca La pb bb ob nb cb Lb p q ta tb to_ tn T := ⟨ha, hb, hpq, HRA.out.frm hf (Nat.le_refl _), HRB.out.frm hf (Nat.le_refl _), HRT.out.frm hf (Nat.le_refl _)⟩
  clear ha hb hpq
  have HE := Lib.hid henv
  have HF := Lib.hid hf
  have HC := Lib.hid hc
  clear hc hf henv
  have cA : W.cell? ⟨c, 12, none⟩ = some (.slice pa na ca) := HE.out.cA; have cB : W.cell? ⟨c + 1, 12, none⟩ = some (.slice pb nb cb) := HE.out.cB; have lA : W.cell? ⟨c, 11, none⟩ = some (.int .i64 ua.level) := HE.out.lA; have lB : W.cell? ⟨c + 1, 11, none⟩ = some (.int .i64 ub.level) := HE.out.lB; have mA : W.cell? ⟨c, 10, none⟩ = some (.int .i64 ua.margin) := HE.out.mA; have mB : W.cell? ⟨c + 1, 10, none⟩ = some (.int .i64 ub.margin) := HE.out.mB; have pP : W.cell? ⟨c + 2, 0, none⟩ = some (.int .u8 p) := HE.out.p.cell 0; have pQ : W.cell? ⟨c + 2, 1, none⟩ = some (.int .u8 q) := HE.out.p.cell 1
  by_cases h1 : 100 < sa.size
  · have g : decide (100 < sa.size) = true := by simp [h1]
    have GA := Lib.hid g
    clear g
    go_wp2_with (first | (with_reducible refine atLoad 25 rfl ?_; first | refine wpList_loadE rfl rfl rfl (load_flight HE.out.a) ?_ | refine wpList_loadE rfl rfl rfl (load_flight HE.out.b) ?_ | refine wpList_loadGE rfl rfl rfl (load_flight HE.out.a) ?_ | refine wpList_loadGE rfl rfl rfl (load_flight HE.out.b) ?_) | (go_at_call 15; refine (great_any ua sa HNA.out _).mono ?_; rintro e w1 ⟨rfl, hf1⟩; simp only [GA.out]; replace HE := Lib.hid (HE.out.frm hf1 (Nat.le_refl _)); replace HF := Lib.hid (HF.out.call hf1 HF.out.size (by simp)); clear hf1; clear cA cB lA lB mA mB pP pQ; have cA : w1.cell? ⟨c, 12, none⟩ = some (.slice pa na ca) := HE.out.cA; have cB : w1.cell? ⟨c + 1, 12, none⟩ = some (.slice pb nb cb) := HE.out.cB; have lA : w1.cell? ⟨c, 11, none⟩ = some (.int .i64 ua.level) := HE.out.lA; have lB : w1.cell? ⟨c + 1, 11, none⟩ = some (.int .i64 ub.level) := HE.out.lB; have mA : w1.cell? ⟨c, 10, none⟩ = some (.int .i64 ua.margin) := HE.out.mA; have mB : w1.cell? ⟨c + 1, 10, none⟩ = some (.int .i64 ub.margin) := HE.out.mB; have pP : w1.cell? ⟨c + 2, 0, none⟩ = some (.int .u8 p) := HE.out.p.cell 0; have pQ : w1.cell? ⟨c + 2, 1, none⟩ = some (.int .u8 q) := HE.out.p.cell 1) | (go_at_call 15; refine (great_any ub sb HNB.out _).mono ?_; rintro e w2 ⟨rfl, hf1⟩; simp only [GB.out]; replace HE := Lib.hid (HE.out.frm hf1 (Nat.le_refl _)); replace HF := Lib.hid (HF.out.call hf1 HF.out.size (by simp)); clear hf1; clear cA cB lA lB mA mB pP pQ; have cA : w2.cell? ⟨c, 12, none⟩ = some (.slice pa na ca) := HE.out.cA; have cB : w2.cell? ⟨c + 1, 12, none⟩ = some (.slice pb nb cb) := HE.out.cB; have lA : w2.cell? ⟨c, 11, none⟩ = some (.int .i64 ua.level) := HE.out.lA; have lB : w2.cell? ⟨c + 1, 11, none⟩ = some (.int .i64 ub.level) := HE.out.lB; have mA : w2.cell? ⟨c, 10, none⟩ = some (.int .i64 ua.margin) := HE.out.mA; have mB : w2.cell? ⟨c + 1, 10, none⟩ = some (.int .i64 ub.margin) := HE.out.mB; have pP : w2.cell? ⟨c + 2, 0, none⟩ = some (.int .u8 p) := HE.out.p.cell 0; have pQ : w2.cell? ⟨c + 2, 1, none⟩ = some (.int .u8 q) := HE.out.p.cell 1) | (go_at_call 16; refine (awake_any _ (HGL.out.frm HF.out (Nat.le_refl _))).mono ?_; rintro e w9 ⟨rfl, hf1⟩; replace HF := Lib.hid (HF.out.call hf1 HF.out.size (by simp)); clear hf1))
    go_ret
    exact ⟨rfl, HF.out⟩
  have g : decide (100 < sa.size) = false := by simp [h1]
  have GA := Lib.hid g
  clear g
  by_cases h2 : 100 < sb.size
  · have g : decide (100 < sb.size) = true := by simp [h2]
    have GB := Lib.hid g
    clear g
    go_wp2_with (first | (with_reducible refine atLoad 25 rfl ?_; first | refine wpList_loadE rfl rfl rfl (load_flight HE.out.a) ?_ | refine wpList_loadE rfl rfl rfl (load_flight HE.out.b) ?_ | refine wpList_loadGE rfl rfl rfl (load_flight HE.out.a) ?_ | refine wpList_loadGE rfl rfl rfl (load_flight HE.out.b) ?_) | (go_at_call 15; refine (great_any ua sa HNA.out _).mono ?_; rintro e w1 ⟨rfl, hf1⟩; simp only [GA.out]; replace HE := Lib.hid (HE.out.frm hf1 (Nat.le_refl _)); replace HF := Lib.hid (HF.out.call hf1 HF.out.size (by simp)); clear hf1; clear cA cB lA lB mA mB pP pQ; have cA : w1.cell? ⟨c, 12, none⟩ = some (.slice pa na ca) := HE.out.cA; have cB : w1.cell? ⟨c + 1, 12, none⟩ = some (.slice pb nb cb) := HE.out.cB; have lA : w1.cell? ⟨c, 11, none⟩ = some (.int .i64 ua.level) := HE.out.lA; have lB : w1.cell? ⟨c + 1, 11, none⟩ = some (.int .i64 ub.level) := HE.out.lB; have mA : w1.cell? ⟨c, 10, none⟩ = some (.int .i64 ua.margin) := HE.out.mA; have mB : w1.cell? ⟨c + 1, 10, none⟩ = some (.int .i64 ub.margin) := HE.out.mB; have pP : w1.cell? ⟨c + 2, 0, none⟩ = some (.int .u8 p) := HE.out.p.cell 0; have pQ : w1.cell? ⟨c + 2, 1, none⟩ = some (.int .u8 q) := HE.out.p.cell 1) | (go_at_call 15; refine (great_any ub sb HNB.out _).mono ?_; rintro e w2 ⟨rfl, hf1⟩; simp only [GB.out]; replace HE := Lib.hid (HE.out.frm hf1 (Nat.le_refl _)); replace HF := Lib.hid (HF.out.call hf1 HF.out.size (by simp)); clear hf1; clear cA cB lA lB mA mB pP pQ; have cA : w2.cell? ⟨c, 12, none⟩ = some (.slice pa na ca) := HE.out.cA; have cB : w2.cell? ⟨c + 1, 12, none⟩ = some (.slice pb nb cb) := HE.out.cB; have lA : w2.cell? ⟨c, 11, none⟩ = some (.int .i64 ua.level) := HE.out.lA; have lB : w2.cell? ⟨c + 1, 11, none⟩ = some (.int .i64 ub.level) := HE.out.lB; have mA : w2.cell? ⟨c, 10, none⟩ = some (.int .i64 ua.margin) := HE.out.mA; have mB : w2.cell? ⟨c + 1, 10, none⟩ = some (.int .i64 ub.margin) := HE.out.mB; have pP : w2.cell? ⟨c + 2, 0, none⟩ = some (.int .u8 p) := HE.out.p.cell 0; have pQ : w2.cell? ⟨c + 2, 1, none⟩ = some (.int .u8 q) := HE.out.p.cell 1) | (go_at_call 16; refine (awake_any _ (HGL.out.frm HF.out (Nat.le_refl _))).mono ?_; rintro e w9 ⟨rfl, hf1⟩; replace HF := Lib.hid (HF.out.call hf1 HF.out.size (by simp)); clear hf1))
    go_ret
    exact ⟨rfl, HF.out⟩
  have g : decide (100 < sb.size) = false := by simp [h2]
  have GB := Lib.hid g
  clear g
  by_cases h3 : 60 < na
  · have h3' : (60 : Int) < (na : Int) := by omega
    go_wp2_with (first | (with_reducible refine atLoad 25 rfl ?_; first | refine wpList_loadE rfl rfl rfl (load_flight HE.out.a) ?_ | refine wpList_loadE rfl rfl rfl (load_flight HE.out.b) ?_ | refine wpList_loadGE rfl rfl rfl (load_flight HE.out.a) ?_ | refine wpList_loadGE rfl rfl rfl (load_flight HE.out.b) ?_) | (go_at_call 15; refine (great_any ua sa HNA.out _).mono ?_; rintro e w1 ⟨rfl, hf1⟩; simp only [GA.out]; replace HE := Lib.hid (HE.out.frm hf1 (Nat.le_refl _)); replace HF := Lib.hid (HF.out.call hf1 HF.out.size (by simp)); clear hf1; clear cA cB lA lB mA mB pP pQ; have cA : w1.cell? ⟨c, 12, none⟩ = some (.slice pa na ca) := HE.out.cA; have cB : w1.cell? ⟨c + 1, 12, none⟩ = some (.slice pb nb cb) := HE.out.cB; have lA : w1.cell? ⟨c, 11, none⟩ = some (.int .i64 ua.level) := HE.out.lA; have lB : w1.cell? ⟨c + 1, 11, none⟩ = some (.int .i64 ub.level) := HE.out.lB; have mA : w1.cell? ⟨c, 10, none⟩ = some (.int .i64 ua.margin) := HE.out.mA; have mB : w1.cell? ⟨c + 1, 10, none⟩ = some (.int .i64 ub.margin) := HE.out.mB; have pP : w1.cell? ⟨c + 2, 0, none⟩ = some (.int .u8 p) := HE.out.p.cell 0; have pQ : w1.cell? ⟨c + 2, 1, none⟩ = some (.int .u8 q) := HE.out.p.cell 1) | (go_at_call 15; refine (great_any ub sb HNB.out _).mono ?_; rintro e w2 ⟨rfl, hf1⟩; simp only [GB.out]; replace HE := Lib.hid (HE.out.frm hf1 (Nat.le_refl _)); replace HF := Lib.hid (HF.out.call hf1 HF.out.size (by simp)); clear hf1; clear cA cB lA lB mA mB pP pQ; have cA : w2.cell? ⟨c, 12, none⟩ = some (.slice pa na ca) := HE.out.cA; have cB : w2.cell? ⟨c + 1, 12, none⟩ = some (.slice pb nb cb) := HE.out.cB; have lA : w2.cell? ⟨c, 11, none⟩ = some (.int .i64 ua.level) := HE.out.lA; have lB : w2.cell? ⟨c + 1, 11, none⟩ = some (.int .i64 ub.level) := HE.out.lB; have mA : w2.cell? ⟨c, 10, none⟩ = some (.int .i64 ua.margin) := HE.out.mA; have mB : w2.cell? ⟨c + 1, 10, none⟩ = some (.int .i64 ub.margin) := HE.out.mB; have pP : w2.cell? ⟨c + 2, 0, none⟩ = some (.int .u8 p) := HE.out.p.cell 0; have pQ : w2.cell? ⟨c + 2, 1, none⟩ = some (.int .u8 q) := HE.out.p.cell 1) | (go_at_call 16; refine (awake_any _ (HGL.out.frm HF.out (Nat.le_refl _))).mono ?_; rintro e w9 ⟨rfl, hf1⟩; replace HF := Lib.hid (HF.out.call hf1 HF.out.size (by simp)); clear hf1))
    go_ret
    exact ⟨rfl, HF.out⟩
  have h3' : ¬ (60 : Int) < (na : Int) := by omega
  by_cases h4 : 60 < nb
  · have h4' : (60 : Int) < (nb : Int) := by omega
    go_wp2_with (first | (with_reducible refine atLoad 25 rfl ?_; first | refine wpList_loadE rfl rfl rfl (load_flight HE.out.a) ?_ | refine wpList_loadE rfl rfl rfl (load_flight HE.out.b) ?_ | refine wpList_loadGE rfl rfl rfl (load_flight HE.out.a) ?_ | refine wpList_loadGE rfl rfl rfl (load_flight HE.out.b) ?_) | (go_at_call 15; refine (great_any ua sa HNA.out _).mono ?_; rintro e w1 ⟨rfl, hf1⟩; simp only [GA.out]; replace HE := Lib.hid (HE.out.frm hf1 (Nat.le_refl _)); replace HF := Lib.hid (HF.out.call hf1 HF.out.size (by simp)); clear hf1; clear cA cB lA lB mA mB pP pQ; have cA : w1.cell? ⟨c, 12, none⟩ = some (.slice pa na ca) := HE.out.cA; have cB : w1.cell? ⟨c + 1, 12, none⟩ = some (.slice pb nb cb) := HE.out.cB; have lA : w1.cell? ⟨c, 11, none⟩ = some (.int .i64 ua.level) := HE.out.lA; have lB : w1.cell? ⟨c + 1, 11, none⟩ = some (.int .i64 ub.level) := HE.out.lB; have mA : w1.cell? ⟨c, 10, none⟩ = some (.int .i64 ua.margin) := HE.out.mA; have mB : w1.cell? ⟨c + 1, 10, none⟩ = some (.int .i64 ub.margin) := HE.out.mB; have pP : w1.cell? ⟨c + 2, 0, none⟩ = some (.int .u8 p) := HE.out.p.cell 0; have pQ : w1.cell? ⟨c + 2, 1, none⟩ = some (.int .u8 q) := HE.out.p.cell 1) | (go_at_call 15; refine (great_any ub sb HNB.out _).mono ?_; rintro e w2 ⟨rfl, hf1⟩; simp only [GB.out]; replace HE := Lib.hid (HE.out.frm hf1 (Nat.le_refl _)); replace HF := Lib.hid (HF.out.call hf1 HF.out.size (by simp)); clear hf1; clear cA cB lA lB mA mB pP pQ; have cA : w2.cell? ⟨c, 12, none⟩ = some (.slice pa na ca) := HE.out.cA; have cB : w2.cell? ⟨c + 1, 12, none⟩ = some (.slice pb nb cb) := HE.out.cB; have lA : w2.cell? ⟨c, 11, none⟩ = some (.int .i64 ua.level) := HE.out.lA; have lB : w2.cell? ⟨c + 1, 11, none⟩ = some (.int .i64 ub.level) := HE.out.lB; have mA : w2.cell? ⟨c, 10, none⟩ = some (.int .i64 ua.margin) := HE.out.mA; have mB : w2.cell? ⟨c + 1, 10, none⟩ = some (.int .i64 ub.margin) := HE.out.mB; have pP : w2.cell? ⟨c + 2, 0, none⟩ = some (.int .u8 p) := HE.out.p.cell 0; have pQ : w2.cell? ⟨c + 2, 1, none⟩ = some (.int .u8 q) := HE.out.p.cell 1) | (go_at_call 16; refine (awake_any _ (HGL.out.frm HF.out (Nat.le_refl _))).mono ?_; rintro e w9 ⟨rfl, hf1⟩; replace HF := Lib.hid (HF.out.call hf1 HF.out.size (by simp)); clear hf1))
    go_ret
    exact ⟨rfl, HF.out⟩
  have h4' : ¬ (60 : Int) < (nb : Int) := by omega
  by_cases h5 : 100 < tn
  · have h5' : (100 : Int) < (tn : Int) := by omega
    go_wp2_with (first | (with_reducible refine atLoad 25 rfl ?_; first | refine wpList_loadE rfl rfl rfl (load_flight HE.out.a) ?_ | refine wpList_loadE rfl rfl rfl (load_flight HE.out.b) ?_ | refine wpList_loadGE rfl rfl rfl (load_flight HE.out.a) ?_ | refine wpList_loadGE rfl rfl rfl (load_flight HE.out.b) ?_) | (go_at_call 15; refine (great_any ua sa HNA.out _).mono ?_; rintro e w1 ⟨rfl, hf1⟩; simp only [GA.out]; replace HE := Lib.hid (HE.out.frm hf1 (Nat.le_refl _)); replace HF := Lib.hid (HF.out.call hf1 HF.out.size (by simp)); clear hf1; clear cA cB lA lB mA mB pP pQ; have cA : w1.cell? ⟨c, 12, none⟩ = some (.slice pa na ca) := HE.out.cA; have cB : w1.cell? ⟨c + 1, 12, none⟩ = some (.slice pb nb cb) := HE.out.cB; have lA : w1.cell? ⟨c, 11, none⟩ = some (.int .i64 ua.level) := HE.out.lA; have lB : w1.cell? ⟨c + 1, 11, none⟩ = some (.int .i64 ub.level) := HE.out.lB; have mA : w1.cell? ⟨c, 10, none⟩ = some (.int .i64 ua.margin) := HE.out.mA; have mB : w1.cell? ⟨c + 1, 10, none⟩ = some (.int .i64 ub.margin) := HE.out.mB; have pP : w1.cell? ⟨c + 2, 0, none⟩ = some (.int .u8 p) := HE.out.p.cell 0; have pQ : w1.cell? ⟨c + 2, 1, none⟩ = some (.int .u8 q) := HE.out.p.cell 1) | (go_at_call 15; refine (great_any ub sb HNB.out _).mono ?_; rintro e w2 ⟨rfl, hf1⟩; simp only [GB.out]; replace HE := Lib.hid (HE.out.frm hf1 (Nat.le_refl _)); replace HF := Lib.hid (HF.out.call hf1 HF.out.size (by simp)); clear hf1; clear cA cB lA lB mA mB pP pQ; have cA : w2.cell? ⟨c, 12, none⟩ = some (.slice pa na ca) := HE.out.cA; have cB : w2.cell? ⟨c + 1, 12, none⟩ = some (.slice pb nb cb) := HE.out.cB; have lA : w2.cell? ⟨c, 11, none⟩ = some (.int .i64 ua.level) := HE.out.lA; have lB : w2.cell? ⟨c + 1, 11, none⟩ = some (.int .i64 ub.level) := HE.out.lB; have mA : w2.cell? ⟨c, 10, none⟩ = some (.int .i64 ua.margin) := HE.out.mA; have mB : w2.cell? ⟨c + 1, 10, none⟩ = some (.int .i64 ub.margin) := HE.out.mB; have pP : w2.cell? ⟨c + 2, 0, none⟩ = some (.int .u8 p) := HE.out.p.cell 0; have pQ : w2.cell? ⟨c + 2, 1, none⟩ = some (.int .u8 q) := HE.out.p.cell 1) | (go_at_call 16; refine (awake_any _ (HGL.out.frm HF.out (Nat.le_refl _))).mono ?_; rintro e w9 ⟨rfl, hf1⟩; replace HF := Lib.hid (HF.out.call hf1 HF.out.size (by simp)); clear hf1))
    go_ret
    exact ⟨rfl, HF.out⟩
  have h5' : ¬ (100 : Int) < (tn : Int) := by omega
  by_cases h6 : ua.level = ub.level
  rotate_left
  · go_wp2_with (first | (with_reducible refine atLoad 25 rfl ?_; first | refine wpList_loadE rfl rfl rfl (load_flight HE.out.a) ?_ | refine wpList_loadE rfl rfl rfl (load_flight HE.out.b) ?_ | refine wpList_loadGE rfl rfl rfl (load_flight HE.out.a) ?_ | refine wpList_loadGE rfl rfl rfl (load_flight HE.out.b) ?_) | (go_at_call 15; refine (great_any ua sa HNA.out _).mono ?_; rintro e w1 ⟨rfl, hf1⟩; simp only [GA.out]; replace HE := Lib.hid (HE.out.frm hf1 (Nat.le_refl _)); replace HF := Lib.hid (HF.out.call hf1 HF.out.size (by simp)); clear hf1; clear cA cB lA lB mA mB pP pQ; have cA : w1.cell? ⟨c, 12, none⟩ = some (.slice pa na ca) := HE.out.cA; have cB : w1.cell? ⟨c + 1, 12, none⟩ = some (.slice pb nb cb) := HE.out.cB; have lA : w1.cell? ⟨c, 11, none⟩ = some (.int .i64 ua.level) := HE.out.lA; have lB : w1.cell? ⟨c + 1, 11, none⟩ = some (.int .i64 ub.level) := HE.out.lB; have mA : w1.cell? ⟨c, 10, none⟩ = some (.int .i64 ua.margin) := HE.out.mA; have mB : w1.cell? ⟨c + 1, 10, none⟩ = some (.int .i64 ub.margin) := HE.out.mB; have pP : w1.cell? ⟨c + 2, 0, none⟩ = some (.int .u8 p) := HE.out.p.cell 0; have pQ : w1.cell? ⟨c + 2, 1, none⟩ = some (.int .u8 q) := HE.out.p.cell 1) | (go_at_call 15; refine (great_any ub sb HNB.out _).mono ?_; rintro e w2 ⟨rfl, hf1⟩; simp only [GB.out]; replace HE := Lib.hid (HE.out.frm hf1 (Nat.le_refl _)); replace HF := Lib.hid (HF.out.call hf1 HF.out.size (by simp)); clear hf1; clear cA cB lA lB mA mB pP pQ; have cA : w2.cell? ⟨c, 12, none⟩ = some (.slice pa na ca) := HE.out.cA; have cB : w2.cell? ⟨c + 1, 12, none⟩ = some (.slice pb nb cb) := HE.out.cB; have lA : w2.cell? ⟨c, 11, none⟩ = some (.int .i64 ua.level) := HE.out.lA; have lB : w2.cell? ⟨c + 1, 11, none⟩ = some (.int .i64 ub.level) := HE.out.lB; have mA : w2.cell? ⟨c, 10, none⟩ = some (.int .i64 ua.margin) := HE.out.mA; have mB : w2.cell? ⟨c + 1, 10, none⟩ = some (.int .i64 ub.margin) := HE.out.mB; have pP : w2.cell? ⟨c + 2, 0, none⟩ = some (.int .u8 p) := HE.out.p.cell 0; have pQ : w2.cell? ⟨c + 2, 1, none⟩ = some (.int .u8 q) := HE.out.p.cell 1) | (go_at_call 16; refine (awake_any _ (HGL.out.frm HF.out (Nat.le_refl _))).mono ?_; rintro e w9 ⟨rfl, hf1⟩; replace HF := Lib.hid (HF.out.call hf1 HF.out.size (by simp)); clear hf1))
    go_ret
    exact ⟨rfl, HF.out⟩
  go_upto_region 3 with (first | (with_reducible refine atLoad 25 rfl ?_; first | refine wpList_loadE rfl rfl rfl (load_flight HE.out.a) ?_ | refine wpList_loadE rfl rfl rfl (load_flight HE.out.b) ?_ | refine wpList_loadGE rfl rfl rfl (load_flight HE.out.a) ?_ | refine wpList_loadGE rfl rfl rfl (load_flight HE.out.b) ?_) | (go_at_call 15; refine (great_any ua sa HNA.out _).mono ?_; rintro e w1 ⟨rfl, hf1⟩; simp only [GA.out]; replace HE := Lib.hid (HE.out.frm hf1 (Nat.le_refl _)); replace HF := Lib.hid (HF.out.call hf1 HF.out.size (by simp)); clear hf1; clear cA cB lA lB mA mB pP pQ; have cA : w1.cell? ⟨c, 12, none⟩ = some (.slice pa na ca) := HE.out.cA; have cB : w1.cell? ⟨c + 1, 12, none⟩ = some (.slice pb nb cb) := HE.out.cB; have lA : w1.cell? ⟨c, 11, none⟩ = some (.int .i64 ua.level) := HE.out.lA; have lB : w1.cell? ⟨c + 1, 11, none⟩ = some (.int .i64 ub.level) := HE.out.lB; have mA : w1.cell? ⟨c, 10, none⟩ = some (.int .i64 ua.margin) := HE.out.mA; have mB : w1.cell? ⟨c + 1, 10, none⟩ = some (.int .i64 ub.margin) := HE.out.mB; have pP : w1.cell? ⟨c + 2, 0, none⟩ = some (.int .u8 p) := HE.out.p.cell 0; have pQ : w1.cell? ⟨c + 2, 1, none⟩ = some (.int .u8 q) := HE.out.p.cell 1) | (go_at_call 15; refine (great_any ub sb HNB.out _).mono ?_; rintro e w2 ⟨rfl, hf1⟩; simp only [GB.out]; replace HE := Lib.hid (HE.out.frm hf1 (Nat.le_refl _)); replace HF := Lib.hid (HF.out.call hf1 HF.out.size (by simp)); clear hf1; clear cA cB lA lB mA mB pP pQ; have cA : w2.cell? ⟨c, 12, none⟩ = some (.slice pa na ca) := HE.out.cA; have cB : w2.cell? ⟨c + 1, 12, none⟩ = some (.slice pb nb cb) := HE.out.cB; have lA : w2.cell? ⟨c, 11, none⟩ = some (.int .i64 ua.level) := HE.out.lA; have lB : w2.cell? ⟨c + 1, 11, none⟩ = some (.int .i64 ub.level) := HE.out.lB; have mA : w2.cell? ⟨c, 10, none⟩ = some (.int .i64 ua.margin) := HE.out.mA; have mB : w2.cell? ⟨c + 1, 10, none⟩ = some (.int .i64 ub.margin) := HE.out.mB; have pP : w2.cell? ⟨c + 2, 0, none⟩ = some (.int .u8 p) := HE.out.p.cell 0; have pQ : w2.cell? ⟨c + 2, 1, none⟩ = some (.int .u8 q) := HE.out.p.cell 1))
  clear h3' h4' h5'
  have hn3 : na ≤ 1000 ∧ nb ≤ 1000 := by omega
  have HN3 := Lib.hid hn3
  have H6 := Lib.hid h6
  clear h6 hn3
  clear h1 h2 h3 h4 h5
  obtain ⟨P, m, hP⟩ := piece_nums hp
  obtain ⟨Q, m2, hQ⟩ := piece_nums hq
  obtain ⟨f1, f5⟩ := hP.f1
  have f2 := hP.f2
  obtain ⟨f3, f6⟩ := hP.f3
  obtain ⟨f4, f7⟩ := hP.f4
  obtain ⟨k1, k5⟩ := hQ.f1
  have k2 := hQ.f2
  obtain ⟨k3, k6⟩ := hQ.f3
  obtain ⟨k4, k7⟩ := hQ.f4
  have hP0 := And.intro hP.pos hQ.pos
  clear hP hQ hp hq
  obtain ⟨o1, ho1⟩ : ∃ o, o = boxesO ua sa na La (P : Int) := ⟨_, rfl⟩
  obtain ⟨o2, ho2⟩ : ∃ o, o = boxesO ub sb nb Lb (Q : Int) := ⟨_, rfl⟩
  have HP0 := Lib.hid hP0
  have HO1 := Lib.hid ho1
  have HO2 := Lib.hid ho2
  clear ho2 ho1 hP0
  go_wp2_with (with_reducible refine atLoad 25 rfl ?_; first | refine wpList_loadE rfl rfl rfl (load_flight HE.out.a) ?_ | refine wpList_loadE rfl rfl rfl (load_flight HE.out.b) ?_ | refine wpList_loadGE rfl rfl rfl (load_flight HE.out.a) ?_ | refine wpList_loadGE rfl rfl rfl (load_flight HE.out.b) ?_)
  refine (boxes_any ua sa HNA.out pa ba oa na ca La (P : Int) _ HE.out.la HN3.out.1).mono ?_
  intro e w3 hp1
  have hp1 := boxesIs_of hp1
  rw [← HO1.out] at hp1
  obtain ⟨hf1, hp1⟩ := hp1
  replace HE := Lib.hid (HE.out.frm hf1 (Nat.le_refl _)); replace HF := Lib.hid (HF.out.call hf1 HF.out.size (by simp)); clear hf1; clear cA cB lA lB mA mB pP pQ; have cA : w3.cell? ⟨c, 12, none⟩ = some (.slice pa na ca) := HE.out.cA; have cB : w3.cell? ⟨c + 1, 12, none⟩ = some (.slice pb nb cb) := HE.out.cB; have lA : w3.cell? ⟨c, 11, none⟩ = some (.int .i64 ua.level) := HE.out.lA; have lB : w3.cell? ⟨c + 1, 11, none⟩ = some (.int .i64 ub.level) := HE.out.lB; have mA : w3.cell? ⟨c, 10, none⟩ = some (.int .i64 ua.margin) := HE.out.mA; have mB : w3.cell? ⟨c + 1, 10, none⟩ = some (.int .i64 ub.margin) := HE.out.mB; have pP : w3.cell? ⟨c + 2, 0, none⟩ = some (.int .u8 p) := HE.out.p.cell 0; have pQ : w3.cell? ⟨c + 2, 1, none⟩ = some (.int .u8 q) := HE.out.p.cell 1
  have key2 : ∀ V, BoxesIs ub nb Lb (Q : Int) (boxesO ub sb nb Lb (Q : Int)) V = BoxesIs ub nb Lb (Q : Int) o2 V := fun V => by rw [HO2.out]
  have KEY2 := Lib.hid key2
  clear key2
  cases o1 with
  | some z =>
    have hz := boxesO_some HO1.out.symm
    dsimp only at hp1
    subst hp1
    go_wp2_with (with_reducible refine atLoad 25 rfl ?_; first | refine wpList_loadE rfl rfl rfl (load_flight HE.out.a) ?_ | refine wpList_loadE rfl rfl rfl (load_flight HE.out.b) ?_ | refine wpList_loadGE rfl rfl rfl (load_flight HE.out.a) ?_ | refine wpList_loadGE rfl rfl rfl (load_flight HE.out.b) ?_)
    refine (boxes_any ub sb HNB.out pb bb ob nb cb Lb (Q : Int) _ HE.out.lb HN3.out.2).mono ?_
    intro e w4 hp2
    have hp2 := boxesIs_of hp2
    rw [KEY2.out] at hp2
    obtain ⟨hf1, hp2⟩ := hp2
    replace HE := Lib.hid (HE.out.frm hf1 (Nat.le_refl _)); replace HF := Lib.hid (HF.out.call hf1 HF.out.size (by simp)); clear hf1; clear cA cB lA lB mA mB pP pQ; have cA : w4.cell? ⟨c, 12, none⟩ = some (.slice pa na ca) := HE.out.cA; have cB : w4.cell? ⟨c + 1, 12, none⟩ = some (.slice pb nb cb) := HE.out.cB; have lA : w4.cell? ⟨c, 11, none⟩ = some (.int .i64 ua.level) := HE.out.lA; have lB : w4.cell? ⟨c + 1, 11, none⟩ = some (.int .i64 ub.level) := HE.out.lB; have mA : w4.cell? ⟨c, 10, none⟩ = some (.int .i64 ua.margin) := HE.out.mA; have mB : w4.cell? ⟨c + 1, 10, none⟩ = some (.int .i64 ub.margin) := HE.out.mB; have pP : w4.cell? ⟨c + 2, 0, none⟩ = some (.int .u8 p) := HE.out.p.cell 0; have pQ : w4.cell? ⟨c + 2, 1, none⟩ = some (.int .u8 q) := HE.out.p.cell 1
    cases o2 with
    | some z2 =>
      dsimp only at hp2
      subst hp2
      go_wp2_with (go_at_call 16; refine (awake_any _ (HGL.out.frm HF.out (Nat.le_refl _))).mono ?_; rintro e w9 ⟨rfl, hf1⟩; replace HF := Lib.hid (HF.out.call hf1 HF.out.size (by simp)); clear hf1)
      go_ret
      exact ⟨rfl, HF.out⟩
    | none =>
      obtain ⟨v2, own2, rfl, _, _⟩ := hp2
      go_wp2_with (go_at_call 16; refine (awake_any _ (HGL.out.frm HF.out (Nat.le_refl _))).mono ?_; rintro e w9 ⟨rfl, hf1⟩; replace HF := Lib.hid (HF.out.call hf1 HF.out.size (by simp)); clear hf1)
      go_ret
      exact ⟨rfl, HF.out⟩
  | none =>
    obtain ⟨hua, hla⟩ := boxesO_none HO1.out.symm
    obtain ⟨N1, hN1⟩ : ∃ N, N = (boxesOf ua La (P : Int).toNat na).length := ⟨_, rfl⟩
    obtain ⟨F1, hF1⟩ : ∃ F, F = boxAt (boxesOf ua La (P : Int).toNat na) := ⟨_, rfl⟩
    dsimp only at hp1
    rw [← hN1, ← hF1] at hp1
    obtain ⟨v1, own1, rfl, hsl, _⟩ := hp1
    obtain ⟨oa1, ob1, oo1, ocap1, rfl, hrw1⟩ := hsl.rw (fun i => rfl)
    clear hsl
    have HRW1 := Lib.hid hrw1
    have HN1 := Lib.hid hN1
    have HF1 := Lib.hid hF1
    have HUA := Lib.hid hua
    have HLA := Lib.hid hla
    clear hla hua hF1 hN1 hrw1
    go_wp2_with (with_reducible refine atLoad 25 rfl ?_; first | refine wpList_loadE rfl rfl rfl (load_flight HE.out.a) ?_ | refine wpList_loadE rfl rfl rfl (load_flight HE.out.b) ?_ | refine wpList_loadGE rfl rfl rfl (load_flight HE.out.a) ?_ | refine wpList_loadGE rfl rfl rfl (load_flight HE.out.b) ?_)
    refine (boxes_any ub sb HNB.out pb bb ob nb cb Lb (Q : Int) _ HE.out.lb HN3.out.2).mono ?_
    intro e w4 hp2
    have hp2 := boxesIs_of hp2
    rw [KEY2.out] at hp2
    obtain ⟨hf1, hp2⟩ := hp2
    replace HRW1 := Lib.hid (HRW1.out.frm hf1 (Nat.le_refl _))
    replace HE := Lib.hid (HE.out.frm hf1 (Nat.le_refl _)); replace HF := Lib.hid (HF.out.call hf1 HF.out.size (by simp)); clear hf1; clear cA cB lA lB mA mB pP pQ; have cA : w4.cell? ⟨c, 12, none⟩ = some (.slice pa na ca) := HE.out.cA; have cB : w4.cell? ⟨c + 1, 12, none⟩ = some (.slice pb nb cb) := HE.out.cB; have lA : w4.cell? ⟨c, 11, none⟩ = some (.int .i64 ua.level) := HE.out.lA; have lB : w4.cell? ⟨c + 1, 11, none⟩ = some (.int .i64 ub.level) := HE.out.lB; have mA : w4.cell? ⟨c, 10, none⟩ = some (.int .i64 ua.margin) := HE.out.mA; have mB : w4.cell? ⟨c + 1, 10, none⟩ = some (.int .i64 ub.margin) := HE.out.mB; have pP : w4.cell? ⟨c + 2, 0, none⟩ = some (.int .u8 p) := HE.out.p.cell 0; have pQ : w4.cell? ⟨c + 2, 1, none⟩ = some (.int .u8 q) := HE.out.p.cell 1
    cases o2 with
    | some z2 =>
      have hz := boxesO_some HO2.out.symm
      dsimp only at hp2
      subst hp2
      go_wp2_with (go_at_call 16; refine (awake_any _ (HGL.out.frm HF.out (Nat.le_refl _))).mono ?_; rintro e w9 ⟨rfl, hf1⟩; replace HF := Lib.hid (HF.out.call hf1 HF.out.size (by simp)); clear hf1)
      go_ret
      exact ⟨rfl, HF.out⟩
    | none =>
      obtain ⟨hub, hlb⟩ := boxesO_none HO2.out.symm
      obtain ⟨N2, hN2⟩ : ∃ N, N = (boxesOf ub Lb (Q : Int).toNat nb).length := ⟨_, rfl⟩
      obtain ⟨F2, hF2⟩ : ∃ F, F = boxAt (boxesOf ub Lb (Q : Int).toNat nb) := ⟨_, rfl⟩
      dsimp only at hp2
      rw [← hN2, ← hF2] at hp2
      obtain ⟨v2, own2, rfl, hsl, _⟩ := hp2
      obtain ⟨oa2, ob2, oo2, ocap2, rfl, hrw2⟩ := hsl.rw (fun i => rfl)
      clear hsl f1 f2 f3 f4 f5 f6 f7 k1 k2 k3 k4 k5 k6 k7
      have HRW2 := Lib.hid hrw2
      have HN2 := Lib.hid hN2
      have HF2 := Lib.hid hF2
      have HUB := Lib.hid hub
      have HLB := Lib.hid hlb
      clear hlb hub hF2 hN2 hrw2
      go_wp2_with fail
      refine (refLegs_any pa ba oa na ca La _ HE.out.la).mono ?_; rintro e w5 ⟨rfl, hf1⟩; simp only [HLA.out]; replace HRW1 := Lib.hid (HRW1.out.frm hf1 (Nat.le_refl _)); replace HRW2 := Lib.hid (HRW2.out.frm hf1 (Nat.le_refl _)); replace HE := Lib.hid (HE.out.frm hf1 (Nat.le_refl _)); replace HF := Lib.hid (HF.out.call hf1 HF.out.size (by simp)); clear hf1; clear cA cB lA lB mA mB pP pQ; have cA : w5.cell? ⟨c, 12, none⟩ = some (.slice pa na ca) := HE.out.cA; have cB : w5.cell? ⟨c + 1, 12, none⟩ = some (.slice pb nb cb) := HE.out.cB; have lA : w5.cell? ⟨c, 11, none⟩ = some (.int .i64 ua.level) := HE.out.lA; have lB : w5.cell? ⟨c + 1, 11, none⟩ = some (.int .i64 ub.level) := HE.out.lB; have mA : w5.cell? ⟨c, 10, none⟩ = some (.int .i64 ua.margin) := HE.out.mA; have mB : w5.cell? ⟨c + 1, 10, none⟩ = some (.int .i64 ub.margin) := HE.out.mB; have pP : w5.cell? ⟨c + 2, 0, none⟩ = some (.int .u8 p) := HE.out.p.cell 0; have pQ : w5.cell? ⟨c + 2, 1, none⟩ = some (.int .u8 q) := HE.out.p.cell 1
      go_wp2_with fail
      refine (refLegs_any pb bb ob nb cb Lb _ HE.out.lb).mono ?_; rintro e w6 ⟨rfl, hf1⟩; simp only [HLB.out]; replace HRW1 := Lib.hid (HRW1.out.frm hf1 (Nat.le_refl _)); replace HRW2 := Lib.hid (HRW2.out.frm hf1 (Nat.le_refl _)); replace HE := Lib.hid (HE.out.frm hf1 (Nat.le_refl _)); replace HF := Lib.hid (HF.out.call hf1 HF.out.size (by simp)); clear hf1; clear cA cB lA lB mA mB pP pQ; have cA : w6.cell? ⟨c, 12, none⟩ = some (.slice pa na ca) := HE.out.cA; have cB : w6.cell? ⟨c + 1, 12, none⟩ = some (.slice pb nb cb) := HE.out.cB; have lA : w6.cell? ⟨c, 11, none⟩ = some (.int .i64 ua.level) := HE.out.lA; have lB : w6.cell? ⟨c + 1, 11, none⟩ = some (.int .i64 ub.level) := HE.out.lB; have mA : w6.cell? ⟨c, 10, none⟩ = some (.int .i64 ua.margin) := HE.out.mA; have mB : w6.cell? ⟨c + 1, 10, none⟩ = some (.int .i64 ub.margin) := HE.out.mB; have pP : w6.cell? ⟨c + 2, 0, none⟩ = some (.int .u8 p) := HE.out.p.cell 0; have pQ : w6.cell? ⟨c + 2, 1, none⟩ = some (.int .u8 q) := HE.out.p.cell 1
      go_wp2_with fail
      refine (clash_any oa1 ob1 oo1 N1 ocap1 F1 oa2 ob2 oo2 N2 ocap2 F2 w6 HRW1.out HRW2.out).mono ?_
      rintro e w7 ⟨⟨r, r2, rfl, hr⟩, hf1⟩
      replace HE := Lib.hid (HE.out.frm hf1 (Nat.le_refl _)); replace HF := Lib.hid (HF.out.call hf1 HF.out.size (by simp)); clear hf1; clear cA cB lA lB mA mB pP pQ; have cA : w7.cell? ⟨c, 12, none⟩ = some (.slice pa na ca) := HE.out.cA; have cB : w7.cell? ⟨c + 1, 12, none⟩ = some (.slice pb nb cb) := HE.out.cB; have lA : w7.cell? ⟨c, 11, none⟩ = some (.int .i64 ua.level) := HE.out.lA; have lB : w7.cell? ⟨c + 1, 11, none⟩ = some (.int .i64 ub.level) := HE.out.lB; have mA : w7.cell? ⟨c, 10, none⟩ = some (.int .i64 ua.margin) := HE.out.mA; have mB : w7.cell? ⟨c + 1, 10, none⟩ = some (.int .i64 ub.margin) := HE.out.mB; have pP : w7.cell? ⟨c + 2, 0, none⟩ = some (.int .u8 p) := HE.out.p.cell 0; have pQ : w7.cell? ⟨c + 2, 1, none⟩ = some (.int .u8 q) := HE.out.p.cell 1
      rcases hr with ⟨rfl, rfl, hno⟩ | ⟨i, k, hi, hk, rfl, rfl, _⟩
      rotate_left
      · clear hi hk
        go_wp2_with (go_at_call 16; refine (awake_any _ (HGL.out.frm HF.out (Nat.le_refl _))).mono ?_; rintro e w9 ⟨rfl, hf1⟩; replace HF := Lib.hid (HF.out.call hf1 HF.out.size (by simp)); clear hf1)
        go_ret
        exact ⟨rfl, HF.out⟩
      have hno2 : ∀ a, a ∈ boxesOf ua La P na → ∀ b, b ∈ boxesOf ub Lb Q nb → meetB a b = false := by
        rw [HN1.out, HN2.out, HF1.out, HF2.out, Int.toNat_natCast, Int.toNat_natCast] at hno
        exact boxes_no (P := fun a => ∀ b, b ∈ boxesOf ub Lb Q nb → meetB a b = false) fun i hi => boxes_no (P := fun b => meetB (boxAt (boxesOf ua La P na) i) b = false) fun k hk => hno i hi k hk
      have hn0 : 0 < na := by have := HLA.out; unfold legsB at this; simp only [Bool.and_eq_true, decide_eq_true_eq] at this; exact this.1
      have hpa := HRA.out.ad hn0
      subst hpa
      clear cA cB lA lB mA mB pP pQ HRW1 HRW2 HN1 HN2 HF1 HF2 KEY2 HO1 HO2
      obtain ⟨e0, he0⟩ : ∃ e, na = e + 1 := ⟨na - 1, by omega⟩
      have hlm := legs_mono HLA.out e0 (by omega)
      have hok := (legs_ok HLA.out (show e0 < na by omega)).leave
      have hok0 := (legs_ok HLA.out hn0).start
      have hwe : IntKind.i64.wrap ((na : Int) - 1) = (e0 : Int) := by rw [IntWalk.i64_in _ (by have := HN3.out; omega)]; omega
      have hei : (e0 : Int) < (na : Int) := by omega
      have hen : e0 < na := by omega
      have hn0i : (0 : Int) < (na : Int) := by omega
      obtain ⟨st0, hst0⟩ : ∃ x, x = (La 0).start := ⟨_, rfl⟩
      obtain ⟨le0, hle0⟩ : ∃ x, x = (La e0).leave := ⟨_, rfl⟩
      rw [← hst0, ← hle0] at hlm
      rw [← hst0] at hok0
      rw [← hle0] at hok
      obtain ⟨A, dl, hA⟩ := ap_nums hok0.1 hlm hok.2
      have w1 := hA.w1
      have w2 := hA.w2
      have hA0 := hA.A0
      have hfx : ∀ V, Frm w7.heap.size [] w7 V → V.cell? ⟨c, 12, none⟩ = some (.slice (some ⟨ba, oa, none⟩) na ca) ∧ V.cell? ⟨ba, oa + e0 * 8 + 6, none⟩ = some (.int .i64 le0) ∧ V.cell? ⟨ba, oa + 4, none⟩ = some (.int .i64 st0) := fun V hV => by
        have e := HE.out.frm hV (Nat.le_refl _)
        refine ⟨e.cA, ?_, ?_⟩
        · rw [hle0]; exact e.la.at_ e0 hen 6 _ rfl
        · rw [hst0]; simpa using e.la.at_ 0 hn0 4 _ rfl
      clear he0 hlm hok
      have HA := Lib.hid hA
      have HNO2 := Lib.hid hno2
      have HST0 := Lib.hid hst0
      have HOK0 := Lib.hid hok0
      have HFX := Lib.hid hfx
      have HEN := Lib.hid hen
      clear hen hfx hok0 hst0 hno2 hA
      have HN0 := Lib.hid hn0
      clear hle0
      go_upto_region 10 with fail
      refine wp_region_leftL (fun V => Frm w7.heap.size [] w7 V) 1000 (by kernel_rfl) ?_
      have hS : Frm w7.heap.size [] w7 w7.drew := (Frm.refl _ _ w7).drew
      have HS := Lib.hid hS
      clear hS
      first | (refine LeftL.run (v := ?_) 0 rfl (by kernel_rfl) rfl (fun _ _ d _ _ h => by cases d <;> exact h) ?_ HS.out ?_; rotate_left; (· intro V hV; obtain ⟨q0, q1, q2⟩ := HFX.out V hV; clear hV; go_simp; rfl); (intro K' hK'; go_simp; refine hK' _ ?_; clear hK' K')) | (refine LeftL.runG (v := ?_) 0 rfl (by kernel_rfl) rfl (fun _ _ d _ _ h => by cases d <;> exact h) ?_ HS.out ?_; rotate_left; (· intro V hV; obtain ⟨q0, q1, q2⟩ := HFX.out V hV; clear hV; go_simp; rfl); (intro K' hK'; go_simp; refine hK' _ ?_; clear hK' K')) | (refine LeftL.take (v := undef) 0 rfl (by kernel_rfl) (fun _ _ d _ _ h => by cases d <;> exact h) (.inr ⟨rfl, rfl⟩) HS.out ?_; (intro K' hK'; go_simp; refine hK' _ ?_; clear hK' K'))
      first | (refine LeftL.run (v := ?_) 1 rfl (by kernel_rfl) rfl (fun _ _ d _ _ h => by cases d <;> exact h) ?_ HS.out ?_; rotate_left; (· intro V hV; obtain ⟨q0, q1, q2⟩ := HFX.out V hV; clear hV; go_simp; rfl); (intro K' hK'; go_simp; refine hK' _ ?_; clear hK' K')) | (refine LeftL.runG (v := ?_) 1 rfl (by kernel_rfl) rfl (fun _ _ d _ _ h => by cases d <;> exact h) ?_ HS.out ?_; rotate_left; (· intro V hV; obtain ⟨q0, q1, q2⟩ := HFX.out V hV; clear hV; go_simp; rfl); (intro K' hK'; go_simp; refine hK' _ ?_; clear hK' K')) | (refine LeftL.take (v := undef) 1 rfl (by kernel_rfl) (fun _ _ d _ _ h => by cases d <;> exact h) (.inr ⟨rfl, rfl⟩) HS.out ?_; (intro K' hK'; go_simp; refine hK' _ ?_; clear hK' K'))
      first | (refine LeftL.run (v := ?_) 2 rfl (by kernel_rfl) rfl (fun _ _ d _ _ h => by cases d <;> exact h) ?_ HS.out ?_; rotate_left; (· intro V hV; obtain ⟨q0, q1, q2⟩ := HFX.out V hV; clear hV; go_simp; rfl); (intro K' hK'; go_simp; refine hK' _ ?_; clear hK' K')) | (refine LeftL.runG (v := ?_) 2 rfl (by kernel_rfl) rfl (fun _ _ d _ _ h => by cases d <;> exact h) ?_ HS.out ?_; rotate_left; (· intro V hV; obtain ⟨q0, q1, q2⟩ := HFX.out V hV; clear hV; go_simp; rfl); (intro K' hK'; go_simp; refine hK' _ ?_; clear hK' K')) | (refine LeftL.take (v := undef) 2 rfl (by kernel_rfl) (fun _ _ d _ _ h => by cases d <;> exact h) (.inr ⟨rfl, rfl⟩) HS.out ?_; (intro K' hK'; go_simp; refine hK' _ ?_; clear hK' K'))
      first | (refine LeftL.run (v := ?_) 3 rfl (by kernel_rfl) rfl (fun _ _ d _ _ h => by cases d <;> exact h) ?_ HS.out ?_; rotate_left; (· intro V hV; obtain ⟨q0, q1, q2⟩ := HFX.out V hV; clear hV; go_simp; rfl); (intro K' hK'; go_simp; refine hK' _ ?_; clear hK' K')) | (refine LeftL.runG (v := ?_) 3 rfl (by kernel_rfl) rfl (fun _ _ d _ _ h => by cases d <;> exact h) ?_ HS.out ?_; rotate_left; (· intro V hV; obtain ⟨q0, q1, q2⟩ := HFX.out V hV; clear hV; go_simp; rfl); (intro K' hK'; go_simp; refine hK' _ ?_; clear hK' K')) | (refine LeftL.take (v := undef) 3 rfl (by kernel_rfl) (fun _ _ d _ _ h => by cases d <;> exact h) (.inr ⟨rfl, rfl⟩) HS.out ?_; (intro K' hK'; go_simp; refine hK' _ ?_; clear hK' K'))
      first | (refine LeftL.run (v := ?_) 4 rfl (by kernel_rfl) rfl (fun _ _ d _ _ h => by cases d <;> exact h) ?_ HS.out ?_; rotate_left; (· intro V hV; obtain ⟨q0, q1, q2⟩ := HFX.out V hV; clear hV; go_simp; rfl); (intro K' hK'; go_simp; refine hK' _ ?_; clear hK' K')) | (refine LeftL.runG (v := ?_) 4 rfl (by kernel_rfl) rfl (fun _ _ d _ _ h => by cases d <;> exact h) ?_ HS.out ?_; rotate_left; (· intro V hV; obtain ⟨q0, q1, q2⟩ := HFX.out V hV; clear hV; go_simp; rfl); (intro K' hK'; go_simp; refine hK' _ ?_; clear hK' K')) | (refine LeftL.take (v := undef) 4 rfl (by kernel_rfl) (fun _ _ d _ _ h => by cases d <;> exact h) (.inr ⟨rfl, rfl⟩) HS.out ?_; (intro K' hK'; go_simp; refine hK' _ ?_; clear hK' K'))
      first | (refine LeftL.run (v := ?_) 5 rfl (by kernel_rfl) rfl (fun _ _ d _ _ h => by cases d <;> exact h) ?_ HS.out ?_; rotate_left; (· intro V hV; obtain ⟨q0, q1, q2⟩ := HFX.out V hV; clear hV; go_simp; rfl); (intro K' hK'; go_simp; refine hK' _ ?_; clear hK' K')) | (refine LeftL.runG (v := ?_) 5 rfl (by kernel_rfl) rfl (fun _ _ d _ _ h => by cases d <;> exact h) ?_ HS.out ?_; rotate_left; (· intro V hV; obtain ⟨q0, q1, q2⟩ := HFX.out V hV; clear hV; go_simp; rfl); (intro K' hK'; go_simp; refine hK' _ ?_; clear hK' K')) | (refine LeftL.take (v := undef) 5 rfl (by kernel_rfl) (fun _ _ d _ _ h => by cases d <;> exact h) (.inr ⟨rfl, rfl⟩) HS.out ?_; (intro K' hK'; go_simp; refine hK' _ ?_; clear hK' K'))
      first | (refine LeftL.run (v := ?_) 6 rfl (by kernel_rfl) rfl (fun _ _ d _ _ h => by cases d <;> exact h) ?_ HS.out ?_; rotate_left; (· intro V hV; obtain ⟨q0, q1, q2⟩ := HFX.out V hV; clear hV; go_simp; rfl); (intro K' hK'; go_simp; refine hK' _ ?_; clear hK' K')) | (refine LeftL.runG (v := ?_) 6 rfl (by kernel_rfl) rfl (fun _ _ d _ _ h => by cases d <;> exact h) ?_ HS.out ?_; rotate_left; (· intro V hV; obtain ⟨q0, q1, q2⟩ := HFX.out V hV; clear hV; go_simp; rfl); (intro K' hK'; go_simp; refine hK' _ ?_; clear hK' K')) | (refine LeftL.take (v := undef) 6 rfl (by kernel_rfl) (fun _ _ d _ _ h => by cases d <;> exact h) (.inr ⟨rfl, rfl⟩) HS.out ?_; (intro K' hK'; go_simp; refine hK' _ ?_; clear hK' K'))
      first | (refine LeftL.run (v := ?_) 7 rfl (by kernel_rfl) rfl (fun _ _ d _ _ h => by cases d <;> exact h) ?_ HS.out ?_; rotate_left; (· intro V hV; obtain ⟨q0, q1, q2⟩ := HFX.out V hV; clear hV; go_simp; rfl); (intro K' hK'; go_simp; refine hK' _ ?_; clear hK' K')) | (refine LeftL.runG (v := ?_) 7 rfl (by kernel_rfl) rfl (fun _ _ d _ _ h => by cases d <;> exact h) ?_ HS.out ?_; rotate_left; (· intro V hV; obtain ⟨q0, q1, q2⟩ := HFX.out V hV; clear hV; go_simp; rfl); (intro K' hK'; go_simp; refine hK' _ ?_; clear hK' K')) | (refine LeftL.take (v := undef) 7 rfl (by kernel_rfl) (fun _ _ d _ _ h => by cases d <;> exact h) (.inr ⟨rfl, rfl⟩) HS.out ?_; (intro K' hK'; go_simp; refine hK' _ ?_; clear hK' K'))
      first | (refine LeftL.run (v := ?_) 8 rfl (by kernel_rfl) rfl (fun _ _ d _ _ h => by cases d <;> exact h) ?_ HS.out ?_; rotate_left; (· intro V hV; obtain ⟨q0, q1, q2⟩ := HFX.out V hV; clear hV; go_simp; rfl); (intro K' hK'; go_simp; refine hK' _ ?_; clear hK' K')) | (refine LeftL.runG (v := ?_) 8 rfl (by kernel_rfl) rfl (fun _ _ d _ _ h => by cases d <;> exact h) ?_ HS.out ?_; rotate_left; (· intro V hV; obtain ⟨q0, q1, q2⟩ := HFX.out V hV; clear hV; go_simp; rfl); (intro K' hK'; go_simp; refine hK' _ ?_; clear hK' K')) | (refine LeftL.take (v := undef) 8 rfl (by kernel_rfl) (fun _ _ d _ _ h => by cases d <;> exact h) (.inr ⟨rfl, rfl⟩) HS.out ?_; (intro K' hK'; go_simp; refine hK' _ ?_; clear hK' K'))
      first | (refine LeftL.run (v := ?_) 9 rfl (by kernel_rfl) rfl (fun _ _ d _ _ h => by cases d <;> exact h) ?_ HS.out ?_; rotate_left; (· intro V hV; obtain ⟨q0, q1, q2⟩ := HFX.out V hV; clear hV; go_simp; rfl); (intro K' hK'; go_simp; refine hK' _ ?_; clear hK' K')) | (refine LeftL.runG (v := ?_) 9 rfl (by kernel_rfl) rfl (fun _ _ d _ _ h => by cases d <;> exact h) ?_ HS.out ?_; rotate_left; (· intro V hV; obtain ⟨q0, q1, q2⟩ := HFX.out V hV; clear hV; go_simp; rfl); (intro K' hK'; go_simp; refine hK' _ ?_; clear hK' K')) | (refine LeftL.take (v := undef) 9 rfl (by kernel_rfl) (fun _ _ d _ _ h => by cases d <;> exact h) (.inr ⟨rfl, rfl⟩) HS.out ?_; (intro K' hK'; go_simp; refine hK' _ ?_; clear hK' K'))
      first | (refine LeftL.run (v := ?_) 10 rfl (by kernel_rfl) rfl (fun _ _ d _ _ h => by cases d <;> exact h) ?_ HS.out ?_; rotate_left; (· intro V hV; obtain ⟨q0, q1, q2⟩ := HFX.out V hV; clear hV; go_simp; rfl); (intro K' hK'; go_simp; refine hK' _ ?_; clear hK' K')) | (refine LeftL.runG (v := ?_) 10 rfl (by kernel_rfl) rfl (fun _ _ d _ _ h => by cases d <;> exact h) ?_ HS.out ?_; rotate_left; (· intro V hV; obtain ⟨q0, q1, q2⟩ := HFX.out V hV; clear hV; go_simp; rfl); (intro K' hK'; go_simp; refine hK' _ ?_; clear hK' K')) | (refine LeftL.take (v := undef) 10 rfl (by kernel_rfl) (fun _ _ d _ _ h => by cases d <;> exact h) (.inr ⟨rfl, rfl⟩) HS.out ?_; (intro K' hK'; go_simp; refine hK' _ ?_; clear hK' K'))
      first | (refine LeftL.run (v := ?_) 11 rfl (by kernel_rfl) rfl (fun _ _ d _ _ h => by cases d <;> exact h) ?_ HS.out ?_; rotate_left; (· intro V hV; obtain ⟨q0, q1, q2⟩ := HFX.out V hV; clear hV; go_simp; rfl); (intro K' hK'; go_simp; refine hK' _ ?_; clear hK' K')) | (refine LeftL.runG (v := ?_) 11 rfl (by kernel_rfl) rfl (fun _ _ d _ _ h => by cases d <;> exact h) ?_ HS.out ?_; rotate_left; (· intro V hV; obtain ⟨q0, q1, q2⟩ := HFX.out V hV; clear hV; go_simp; rfl); (intro K' hK'; go_simp; refine hK' _ ?_; clear hK' K')) | (refine LeftL.take (v := undef) 11 rfl (by kernel_rfl) (fun _ _ d _ _ h => by cases d <;> exact h) (.inr ⟨rfl, rfl⟩) HS.out ?_; (intro K' hK'; go_simp; refine hK' _ ?_; clear hK' K'))
      first | (refine LeftL.run (v := ?_) 12 rfl (by kernel_rfl) rfl (fun _ _ d _ _ h => by cases d <;> exact h) ?_ HS.out ?_; rotate_left; (· intro V hV; obtain ⟨q0, q1, q2⟩ := HFX.out V hV; clear hV; go_simp; rfl); (intro K' hK'; go_simp; refine hK' _ ?_; clear hK' K')) | (refine LeftL.runG (v := ?_) 12 rfl (by kernel_rfl) rfl (fun _ _ d _ _ h => by cases d <;> exact h) ?_ HS.out ?_; rotate_left; (· intro V hV; obtain ⟨q0, q1, q2⟩ := HFX.out V hV; clear hV; go_simp; rfl); (intro K' hK'; go_simp; refine hK' _ ?_; clear hK' K')) | (refine LeftL.take (v := undef) 12 rfl (by kernel_rfl) (fun _ _ d _ _ h => by cases d <;> exact h) (.inr ⟨rfl, rfl⟩) HS.out ?_; (intro K' hK'; go_simp; refine hK' _ ?_; clear hK' K'))
      first | (refine LeftL.run (v := ?_) 13 rfl (by kernel_rfl) rfl (fun _ _ d _ _ h => by cases d <;> exact h) ?_ HS.out ?_; rotate_left; (· intro V hV; obtain ⟨q0, q1, q2⟩ := HFX.out V hV; clear hV; go_simp; rfl); (intro K' hK'; go_simp; refine hK' _ ?_; clear hK' K')) | (refine LeftL.runG (v := ?_) 13 rfl (by kernel_rfl) rfl (fun _ _ d _ _ h => by cases d <;> exact h) ?_ HS.out ?_; rotate_left; (· intro V hV; obtain ⟨q0, q1, q2⟩ := HFX.out V hV; clear hV; go_simp; rfl); (intro K' hK'; go_simp; refine hK' _ ?_; clear hK' K')) | (refine LeftL.take (v := undef) 13 rfl (by kernel_rfl) (fun _ _ d _ _ h => by cases d <;> exact h) (.inr ⟨rfl, rfl⟩) HS.out ?_; (intro K' hK'; go_simp; refine hK' _ ?_; clear hK' K'))
      first | (refine LeftL.run (v := ?_) 14 rfl (by kernel_rfl) rfl (fun _ _ d _ _ h => by cases d <;> exact h) ?_ HS.out ?_; rotate_left; (· intro V hV; obtain ⟨q0, q1, q2⟩ := HFX.out V hV; clear hV; go_simp; rfl); (intro K' hK'; go_simp; refine hK' _ ?_; clear hK' K')) | (refine LeftL.runG (v := ?_) 14 rfl (by kernel_rfl) rfl (fun _ _ d _ _ h => by cases d <;> exact h) ?_ HS.out ?_; rotate_left; (· intro V hV; obtain ⟨q0, q1, q2⟩ := HFX.out V hV; clear hV; go_simp; rfl); (intro K' hK'; go_simp; refine hK' _ ?_; clear hK' K')) | (refine LeftL.take (v := undef) 14 rfl (by kernel_rfl) (fun _ _ d _ _ h => by cases d <;> exact h) (.inr ⟨rfl, rfl⟩) HS.out ?_; (intro K' hK'; go_simp; refine hK' _ ?_; clear hK' K'))
      first | (refine LeftL.run (v := ?_) 15 rfl (by kernel_rfl) rfl (fun _ _ d _ _ h => by cases d <;> exact h) ?_ HS.out ?_; rotate_left; (· intro V hV; obtain ⟨q0, q1, q2⟩ := HFX.out V hV; clear hV; go_simp; rfl); (intro K' hK'; go_simp; refine hK' _ ?_; clear hK' K')) | (refine LeftL.runG (v := ?_) 15 rfl (by kernel_rfl) rfl (fun _ _ d _ _ h => by cases d <;> exact h) ?_ HS.out ?_; rotate_left; (· intro V hV; obtain ⟨q0, q1, q2⟩ := HFX.out V hV; clear hV; go_simp; rfl); (intro K' hK'; go_simp; refine hK' _ ?_; clear hK' K')) | (refine LeftL.take (v := undef) 15 rfl (by kernel_rfl) (fun _ _ d _ _ h => by cases d <;> exact h) (.inr ⟨rfl, rfl⟩) HS.out ?_; (intro K' hK'; go_simp; refine hK' _ ?_; clear hK' K'))
      first | (refine LeftL.run (v := ?_) 16 rfl (by kernel_rfl) rfl (fun _ _ d _ _ h => by cases d <;> exact h) ?_ HS.out ?_; rotate_left; (· intro V hV; obtain ⟨q0, q1, q2⟩ := HFX.out V hV; clear hV; go_simp; rfl); (intro K' hK'; go_simp; refine hK' _ ?_; clear hK' K')) | (refine LeftL.runG (v := ?_) 16 rfl (by kernel_rfl) rfl (fun _ _ d _ _ h => by cases d <;> exact h) ?_ HS.out ?_; rotate_left; (· intro V hV; obtain ⟨q0, q1, q2⟩ := HFX.out V hV; clear hV; go_simp; rfl); (intro K' hK'; go_simp; refine hK' _ ?_; clear hK' K')) | (refine LeftL.take (v := undef) 16 rfl (by kernel_rfl) (fun _ _ d _ _ h => by cases d <;> exact h) (.inr ⟨rfl, rfl⟩) HS.out ?_; (intro K' hK'; go_simp; refine hK' _ ?_; clear hK' K'))
      refine LeftL.done (by kernel_rfl) ?_
      go_wp2_with fail
      replace HE := Lib.hid (HE.out.frm HS.out (Nat.le_refl _))
      replace HF := Lib.hid (HF.out.call HS.out HF.out.size (by simp))
      clear w1 w2 hwe hei HFX HS
      go_loopw [16] (fun s16 wr => ∃ k : Nat, s16 = .int .i64 k ∧ k ≤ tn ∧ ApEnv wr c ua ub (some ⟨ba, oa, none⟩) ba oa na ca La pb bb ob nb cb Lb p q ta tb to_ tn T ∧ Frm w.heap.size [] w wr) (fun s16 _ => tn - (intOf s16).toNat)
      case atStart => exact ⟨0, rfl, Nat.zero_le _, HE.out, HF.out⟩
      case round =>
        clear HE HF
        obtain ⟨k, rfl, hk, he, hf⟩ := hrel
        have HE := Lib.hid he
        have HF := Lib.hid hf
        clear hf he
        by_cases hkn : k < tn
        · have hkn' : (k : Int) < (tn : Int) := by omega
          have hta := HRT.out.ad (by omega)
          subst hta
          obtain ⟨x, hx⟩ : ∃ x, x = T k := ⟨_, rfl⟩
          obtain ⟨a, b, z, at_, hrem⟩ := ap_rem (x := x) HA.out.A1 HOK0.out
          obtain ⟨p1, p2, p3, p4, p5, p6⟩ := hrem
          have hfx : ∀ V, Frm wr.heap.size [] wr V → V.cell? ⟨c, 12, none⟩ = some (.slice (some ⟨ba, oa, none⟩) na ca) ∧ V.cell? ⟨ba, oa + 4, none⟩ = some (.int .i64 st0) ∧ V.cell? ⟨tb, to_ + k, none⟩ = some (.int .i64 x) := fun V hV => by
            have e := HE.out.frm hV (Nat.le_refl _)
            refine ⟨e.cA, ?_, ?_⟩
            · rw [HST0.out]; simpa using e.la.at_ 0 HN0.out 4 _ rfl
            · rw [hx]; simpa using e.t.at_ k hkn 0 _ rfl
          have HKN := Lib.hid hkn
          have HFX := Lib.hid hfx
          clear hfx hkn
          clear hx
          go_upto_region 14 with fail
          refine wp_region_leftL (fun V => Frm wr.heap.size [] wr V) 1000 (by kernel_rfl) ?_
          have hS : Frm wr.heap.size [] wr wr.drew := (Frm.refl _ _ wr).drew
          have HS := Lib.hid hS
          clear hS
          first | (refine LeftL.run (v := ?_) 0 rfl (by kernel_rfl) rfl (fun _ _ d _ _ h => by cases d <;> exact h) ?_ HS.out ?_; rotate_left; (· intro V hV; obtain ⟨q0, q1, q2⟩ := HFX.out V hV; clear hV; go_simp; rfl); (intro K' hK'; go_simp; refine hK' _ ?_; clear hK' K')) | (refine LeftL.runG (v := ?_) 0 rfl (by kernel_rfl) rfl (fun _ _ d _ _ h => by cases d <;> exact h) ?_ HS.out ?_; rotate_left; (· intro V hV; obtain ⟨q0, q1, q2⟩ := HFX.out V hV; clear hV; go_simp; rfl); (intro K' hK'; go_simp; refine hK' _ ?_; clear hK' K')) | (refine LeftL.take (v := undef) 0 rfl (by kernel_rfl) (fun _ _ d _ _ h => by cases d <;> exact h) (.inr ⟨rfl, rfl⟩) HS.out ?_; (intro K' hK'; go_simp; refine hK' _ ?_; clear hK' K'))
          first | (refine LeftL.run (v := ?_) 1 rfl (by kernel_rfl) rfl (fun _ _ d _ _ h => by cases d <;> exact h) ?_ HS.out ?_; rotate_left; (· intro V hV; obtain ⟨q0, q1, q2⟩ := HFX.out V hV; clear hV; go_simp; rfl); (intro K' hK'; go_simp; refine hK' _ ?_; clear hK' K')) | (refine LeftL.runG (v := ?_) 1 rfl (by kernel_rfl) rfl (fun _ _ d _ _ h => by cases d <;> exact h) ?_ HS.out ?_; rotate_left; (· intro V hV; obtain ⟨q0, q1, q2⟩ := HFX.out V hV; clear hV; go_simp; rfl); (intro K' hK'; go_simp; refine hK' _ ?_; clear hK' K')) | (refine LeftL.take (v := undef) 1 rfl (by kernel_rfl) (fun _ _ d _ _ h => by cases d <;> exact h) (.inr ⟨rfl, rfl⟩) HS.out ?_; (intro K' hK'; go_simp; refine hK' _ ?_; clear hK' K'))
          first | (refine LeftL.run (v := ?_) 2 rfl (by kernel_rfl) rfl (fun _ _ d _ _ h => by cases d <;> exact h) ?_ HS.out ?_; rotate_left; (· intro V hV; obtain ⟨q0, q1, q2⟩ := HFX.out V hV; clear hV; go_simp; rfl); (intro K' hK'; go_simp; refine hK' _ ?_; clear hK' K')) | (refine LeftL.runG (v := ?_) 2 rfl (by kernel_rfl) rfl (fun _ _ d _ _ h => by cases d <;> exact h) ?_ HS.out ?_; rotate_left; (· intro V hV; obtain ⟨q0, q1, q2⟩ := HFX.out V hV; clear hV; go_simp; rfl); (intro K' hK'; go_simp; refine hK' _ ?_; clear hK' K')) | (refine LeftL.take (v := undef) 2 rfl (by kernel_rfl) (fun _ _ d _ _ h => by cases d <;> exact h) (.inr ⟨rfl, rfl⟩) HS.out ?_; (intro K' hK'; go_simp; refine hK' _ ?_; clear hK' K'))
          first | (refine LeftL.run (v := ?_) 3 rfl (by kernel_rfl) rfl (fun _ _ d _ _ h => by cases d <;> exact h) ?_ HS.out ?_; rotate_left; (· intro V hV; obtain ⟨q0, q1, q2⟩ := HFX.out V hV; clear hV; go_simp; rfl); (intro K' hK'; go_simp; refine hK' _ ?_; clear hK' K')) | (refine LeftL.runG (v := ?_) 3 rfl (by kernel_rfl) rfl (fun _ _ d _ _ h => by cases d <;> exact h) ?_ HS.out ?_; rotate_left; (· intro V hV; obtain ⟨q0, q1, q2⟩ := HFX.out V hV; clear hV; go_simp; rfl); (intro K' hK'; go_simp; refine hK' _ ?_; clear hK' K')) | (refine LeftL.take (v := undef) 3 rfl (by kernel_rfl) (fun _ _ d _ _ h => by cases d <;> exact h) (.inr ⟨rfl, rfl⟩) HS.out ?_; (intro K' hK'; go_simp; refine hK' _ ?_; clear hK' K'))
          first | (refine LeftL.run (v := ?_) 4 rfl (by kernel_rfl) rfl (fun _ _ d _ _ h => by cases d <;> exact h) ?_ HS.out ?_; rotate_left; (· intro V hV; obtain ⟨q0, q1, q2⟩ := HFX.out V hV; clear hV; go_simp; rfl); (intro K' hK'; go_simp; refine hK' _ ?_; clear hK' K')) | (refine LeftL.runG (v := ?_) 4 rfl (by kernel_rfl) rfl (fun _ _ d _ _ h => by cases d <;> exact h) ?_ HS.out ?_; rotate_left; (· intro V hV; obtain ⟨q0, q1, q2⟩ := HFX.out V hV; clear hV; go_simp; rfl); (intro K' hK'; go_simp; refine hK' _ ?_; clear hK' K')) | (refine LeftL.take (v := undef) 4 rfl (by kernel_rfl) (fun _ _ d _ _ h => by cases d <;> exact h) (.inr ⟨rfl, rfl⟩) HS.out ?_; (intro K' hK'; go_simp; refine hK' _ ?_; clear hK' K'))
          first | (refine LeftL.run (v := ?_) 5 rfl (by kernel_rfl) rfl (fun _ _ d _ _ h => by cases d <;> exact h) ?_ HS.out ?_; rotate_left; (· intro V hV; obtain ⟨q0, q1, q2⟩ := HFX.out V hV; clear hV; go_simp; rfl); (intro K' hK'; go_simp; refine hK' _ ?_; clear hK' K')) | (refine LeftL.runG (v := ?_) 5 rfl (by kernel_rfl) rfl (fun _ _ d _ _ h => by cases d <;> exact h) ?_ HS.out ?_; rotate_left; (· intro V hV; obtain ⟨q0, q1, q2⟩ := HFX.out V hV; clear hV; go_simp; rfl); (intro K' hK'; go_simp; refine hK' _ ?_; clear hK' K')) | (refine LeftL.take (v := undef) 5 rfl (by kernel_rfl) (fun _ _ d _ _ h => by cases d <;> exact h) (.inr ⟨rfl, rfl⟩) HS.out ?_; (intro K' hK'; go_simp; refine hK' _ ?_; clear hK' K'))
          first | (refine LeftL.run (v := ?_) 6 rfl (by kernel_rfl) rfl (fun _ _ d _ _ h => by cases d <;> exact h) ?_ HS.out ?_; rotate_left; (· intro V hV; obtain ⟨q0, q1, q2⟩ := HFX.out V hV; clear hV; go_simp; rfl); (intro K' hK'; go_simp; refine hK' _ ?_; clear hK' K')) | (refine LeftL.runG (v := ?_) 6 rfl (by kernel_rfl) rfl (fun _ _ d _ _ h => by cases d <;> exact h) ?_ HS.out ?_; rotate_left; (· intro V hV; obtain ⟨q0, q1, q2⟩ := HFX.out V hV; clear hV; go_simp; rfl); (intro K' hK'; go_simp; refine hK' _ ?_; clear hK' K')) | (refine LeftL.take (v := undef) 6 rfl (by kernel_rfl) (fun _ _ d _ _ h => by cases d <;> exact h) (.inr ⟨rfl, rfl⟩) HS.out ?_; (intro K' hK'; go_simp; refine hK' _ ?_; clear hK' K'))
          first | (refine LeftL.run (v := ?_) 7 rfl (by kernel_rfl) rfl (fun _ _ d _ _ h => by cases d <;> exact h) ?_ HS.out ?_; rotate_left; (· intro V hV; obtain ⟨q0, q1, q2⟩ := HFX.out V hV; clear hV; go_simp; rfl); (intro K' hK'; go_simp; refine hK' _ ?_; clear hK' K')) | (refine LeftL.runG (v := ?_) 7 rfl (by kernel_rfl) rfl (fun _ _ d _ _ h => by cases d <;> exact h) ?_ HS.out ?_; rotate_left; (· intro V hV; obtain ⟨q0, q1, q2⟩ := HFX.out V hV; clear hV; go_simp; rfl); (intro K' hK'; go_simp; refine hK' _ ?_; clear hK' K')) | (refine LeftL.take (v := undef) 7 rfl (by kernel_rfl) (fun _ _ d _ _ h => by cases d <;> exact h) (.inr ⟨rfl, rfl⟩) HS.out ?_; (intro K' hK'; go_simp; refine hK' _ ?_; clear hK' K'))
          first | (refine LeftL.run (v := ?_) 8 rfl (by kernel_rfl) rfl (fun _ _ d _ _ h => by cases d <;> exact h) ?_ HS.out ?_; rotate_left; (· intro V hV; obtain ⟨q0, q1, q2⟩ := HFX.out V hV; clear hV; go_simp; rfl); (intro K' hK'; go_simp; refine hK' _ ?_; clear hK' K')) | (refine LeftL.runG (v := ?_) 8 rfl (by kernel_rfl) rfl (fun _ _ d _ _ h => by cases d <;> exact h) ?_ HS.out ?_; rotate_left; (· intro V hV; obtain ⟨q0, q1, q2⟩ := HFX.out V hV; clear hV; go_simp; rfl); (intro K' hK'; go_simp; refine hK' _ ?_; clear hK' K')) | (refine LeftL.take (v := undef) 8 rfl (by kernel_rfl) (fun _ _ d _ _ h => by cases d <;> exact h) (.inr ⟨rfl, rfl⟩) HS.out ?_; (intro K' hK'; go_simp; refine hK' _ ?_; clear hK' K'))
          first | (refine LeftL.run (v := ?_) 9 rfl (by kernel_rfl) rfl (fun _ _ d _ _ h => by cases d <;> exact h) ?_ HS.out ?_; rotate_left; (· intro V hV; obtain ⟨q0, q1, q2⟩ := HFX.out V hV; clear hV; go_simp; rfl); (intro K' hK'; go_simp; refine hK' _ ?_; clear hK' K')) | (refine LeftL.runG (v := ?_) 9 rfl (by kernel_rfl) rfl (fun _ _ d _ _ h => by cases d <;> exact h) ?_ HS.out ?_; rotate_left; (· intro V hV; obtain ⟨q0, q1, q2⟩ := HFX.out V hV; clear hV; go_simp; rfl); (intro K' hK'; go_simp; refine hK' _ ?_; clear hK' K')) | (refine LeftL.take (v := undef) 9 rfl (by kernel_rfl) (fun _ _ d _ _ h => by cases d <;> exact h) (.inr ⟨rfl, rfl⟩) HS.out ?_; (intro K' hK'; go_simp; refine hK' _ ?_; clear hK' K'))
          first | (refine LeftL.run (v := ?_) 10 rfl (by kernel_rfl) rfl (fun _ _ d _ _ h => by cases d <;> exact h) ?_ HS.out ?_; rotate_left; (· intro V hV; obtain ⟨q0, q1, q2⟩ := HFX.out V hV; clear hV; go_simp; rfl); (intro K' hK'; go_simp; refine hK' _ ?_; clear hK' K')) | (refine LeftL.runG (v := ?_) 10 rfl (by kernel_rfl) rfl (fun _ _ d _ _ h => by cases d <;> exact h) ?_ HS.out ?_; rotate_left; (· intro V hV; obtain ⟨q0, q1, q2⟩ := HFX.out V hV; clear hV; go_simp; rfl); (intro K' hK'; go_simp; refine hK' _ ?_; clear hK' K')) | (refine LeftL.take (v := undef) 10 rfl (by kernel_rfl) (fun _ _ d _ _ h => by cases d <;> exact h) (.inr ⟨rfl, rfl⟩) HS.out ?_; (intro K' hK'; go_simp; refine hK' _ ?_; clear hK' K'))
          first | (refine LeftL.run (v := ?_) 11 rfl (by kernel_rfl) rfl (fun _ _ d _ _ h => by cases d <;> exact h) ?_ HS.out ?_; rotate_left; (· intro V hV; obtain ⟨q0, q1, q2⟩ := HFX.out V hV; clear hV; go_simp; rfl); (intro K' hK'; go_simp; refine hK' _ ?_; clear hK' K')) | (refine LeftL.runG (v := ?_) 11 rfl (by kernel_rfl) rfl (fun _ _ d _ _ h => by cases d <;> exact h) ?_ HS.out ?_; rotate_left; (· intro V hV; obtain ⟨q0, q1, q2⟩ := HFX.out V hV; clear hV; go_simp; rfl); (intro K' hK'; go_simp; refine hK' _ ?_; clear hK' K')) | (refine LeftL.take (v := undef) 11 rfl (by kernel_rfl) (fun _ _ d _ _ h => by cases d <;> exact h) (.inr ⟨rfl, rfl⟩) HS.out ?_; (intro K' hK'; go_simp; refine hK' _ ?_; clear hK' K'))
          first | (refine LeftL.run (v := ?_) 12 rfl (by kernel_rfl) rfl (fun _ _ d _ _ h => by cases d <;> exact h) ?_ HS.out ?_; rotate_left; (· intro V hV; obtain ⟨q0, q1, q2⟩ := HFX.out V hV; clear hV; go_simp; rfl); (intro K' hK'; go_simp; refine hK' _ ?_; clear hK' K')) | (refine LeftL.runG (v := ?_) 12 rfl (by kernel_rfl) rfl (fun _ _ d _ _ h => by cases d <;> exact h) ?_ HS.out ?_; rotate_left; (· intro V hV; obtain ⟨q0, q1, q2⟩ := HFX.out V hV; clear hV; go_simp; rfl); (intro K' hK'; go_simp; refine hK' _ ?_; clear hK' K')) | (refine LeftL.take (v := undef) 12 rfl (by kernel_rfl) (fun _ _ d _ _ h => by cases d <;> exact h) (.inr ⟨rfl, rfl⟩) HS.out ?_; (intro K' hK'; go_simp; refine hK' _ ?_; clear hK' K'))
          first | (refine LeftL.run (v := ?_) 13 rfl (by kernel_rfl) rfl (fun _ _ d _ _ h => by cases d <;> exact h) ?_ HS.out ?_; rotate_left; (· intro V hV; obtain ⟨q0, q1, q2⟩ := HFX.out V hV; clear hV; go_simp; rfl); (intro K' hK'; go_simp; refine hK' _ ?_; clear hK' K')) | (refine LeftL.runG (v := ?_) 13 rfl (by kernel_rfl) rfl (fun _ _ d _ _ h => by cases d <;> exact h) ?_ HS.out ?_; rotate_left; (· intro V hV; obtain ⟨q0, q1, q2⟩ := HFX.out V hV; clear hV; go_simp; rfl); (intro K' hK'; go_simp; refine hK' _ ?_; clear hK' K')) | (refine LeftL.take (v := undef) 13 rfl (by kernel_rfl) (fun _ _ d _ _ h => by cases d <;> exact h) (.inr ⟨rfl, rfl⟩) HS.out ?_; (intro K' hK'; go_simp; refine hK' _ ?_; clear hK' K'))
          first | (refine LeftL.run (v := ?_) 14 rfl (by kernel_rfl) rfl (fun _ _ d _ _ h => by cases d <;> exact h) ?_ HS.out ?_; rotate_left; (· intro V hV; obtain ⟨q0, q1, q2⟩ := HFX.out V hV; clear hV; go_simp; rfl); (intro K' hK'; go_simp; refine hK' _ ?_; clear hK' K')) | (refine LeftL.runG (v := ?_) 14 rfl (by kernel_rfl) rfl (fun _ _ d _ _ h => by cases d <;> exact h) ?_ HS.out ?_; rotate_left; (· intro V hV; obtain ⟨q0, q1, q2⟩ := HFX.out V hV; clear hV; go_simp; rfl); (intro K' hK'; go_simp; refine hK' _ ?_; clear hK' K')) | (refine LeftL.take (v := undef) 14 rfl (by kernel_rfl) (fun _ _ d _ _ h => by cases d <;> exact h) (.inr ⟨rfl, rfl⟩) HS.out ?_; (intro K' hK'; go_simp; refine hK' _ ?_; clear hK' K'))
          first | (refine LeftL.run (v := ?_) 15 rfl (by kernel_rfl) rfl (fun _ _ d _ _ h => by cases d <;> exact h) ?_ HS.out ?_; rotate_left; (· intro V hV; obtain ⟨q0, q1, q2⟩ := HFX.out V hV; clear hV; go_simp; rfl); (intro K' hK'; go_simp; refine hK' _ ?_; clear hK' K')) | (refine LeftL.runG (v := ?_) 15 rfl (by kernel_rfl) rfl (fun _ _ d _ _ h => by cases d <;> exact h) ?_ HS.out ?_; rotate_left; (· intro V hV; obtain ⟨q0, q1, q2⟩ := HFX.out V hV; clear hV; go_simp; rfl); (intro K' hK'; go_simp; refine hK' _ ?_; clear hK' K')) | (refine LeftL.take (v := undef) 15 rfl (by kernel_rfl) (fun _ _ d _ _ h => by cases d <;> exact h) (.inr ⟨rfl, rfl⟩) HS.out ?_; (intro K' hK'; go_simp; refine hK' _ ?_; clear hK' K'))
          first | (refine LeftL.run (v := ?_) 16 rfl (by kernel_rfl) rfl (fun _ _ d _ _ h => by cases d <;> exact h) ?_ HS.out ?_; rotate_left; (· intro V hV; obtain ⟨q0, q1, q2⟩ := HFX.out V hV; clear hV; go_simp; rfl); (intro K' hK'; go_simp; refine hK' _ ?_; clear hK' K')) | (refine LeftL.runG (v := ?_) 16 rfl (by kernel_rfl) rfl (fun _ _ d _ _ h => by cases d <;> exact h) ?_ HS.out ?_; rotate_left; (· intro V hV; obtain ⟨q0, q1, q2⟩ := HFX.out V hV; clear hV; go_simp; rfl); (intro K' hK'; go_simp; refine hK' _ ?_; clear hK' K')) | (refine LeftL.take (v := undef) 16 rfl (by kernel_rfl) (fun _ _ d _ _ h => by cases d <;> exact h) (.inr ⟨rfl, rfl⟩) HS.out ?_; (intro K' hK'; go_simp; refine hK' _ ?_; clear hK' K'))
          refine LeftL.done (by kernel_rfl) ?_
          clear p1 p2 p3 p4 p5 p6 HFX
          go_upto_region 15 with fail
          refine namedC ?_; intro w8 hw8
          rw [← hw8] at HS
          have hf1 := HS.out
          clear hw8 HS
          replace HE := Lib.hid (HE.out.frm hf1 (Nat.le_refl _)); replace HF := Lib.hid (HF.out.call hf1 HF.out.size (by simp))
          clear hf1
          have cA : w8.cell? ⟨c, 12, none⟩ = some (.slice (some ⟨ba, oa, none⟩) na ca) := HE.out.cA; have cB : w8.cell? ⟨c + 1, 12, none⟩ = some (.slice pb nb cb) := HE.out.cB; have mA : w8.cell? ⟨c, 10, none⟩ = some (.int .i64 ua.margin) := HE.out.mA; have mB : w8.cell? ⟨c + 1, 10, none⟩ = some (.int .i64 ub.margin) := HE.out.mB
          go_wp2_with fail
          refine (where_any (some ⟨ba, oa, none⟩) ba oa na ca La at_ _ HE.out.la).mono ?_; rintro e w9 ⟨rfl, hf1⟩
          obtain ⟨q1, hq1⟩ : ∃ q, q = whereZ na La at_ := ⟨_, rfl⟩
          rw [← hq1]
          obtain ⟨⟨x1, y1⟩, ⟨x2, y2⟩, z1⟩ := q1
          dsimp only
          replace HE := Lib.hid (HE.out.frm hf1 (Nat.le_refl _)); replace HF := Lib.hid (HF.out.call hf1 HF.out.size (by simp))
          clear hf1 cA cB mA mB
          have HQ1 := Lib.hid hq1
          clear hq1
          go_wp2_with (with_reducible refine atStore 23 rfl ?_; refine stop_ ?_)
          refine go_on ?_
          obtain ⟨p18, hp18⟩ : ∃ p, p = w9.heap.size := ⟨_, rfl⟩
          refine wpList_storeNew2 (zs := [.int .i64 0, .int .i64 0]) (cs := [.int .i64 x1, .int .i64 y1]) (ds := [.int .i64 x2, .int .i64 y2]) rfl rfl rfl rfl rfl rfl rfl rfl rfl rfl rfl rfl (by kernel_rfl) (by simp [Value.oneCell']) (by simp [Value.oneCell']) ?_
          intro w10 hf1 b18 b19
          rw [← hp18] at b18 b19 ⊢
          replace HE := Lib.hid (HE.out.frm hf1 (Nat.le_refl _)); replace HF := Lib.hid (HF.out.call hf1 HF.out.size (by simp))
          clear hf1 hp18
          have cA : w10.cell? ⟨c, 12, none⟩ = some (.slice (some ⟨ba, oa, none⟩) na ca) := HE.out.cA; have cB : w10.cell? ⟨c + 1, 12, none⟩ = some (.slice pb nb cb) := HE.out.cB; have mA : w10.cell? ⟨c, 10, none⟩ = some (.int .i64 ua.margin) := HE.out.mA; have mB : w10.cell? ⟨c + 1, 10, none⟩ = some (.int .i64 ub.margin) := HE.out.mB
          have B18 := Lib.hid b18
          have B19 := Lib.hid b19
          clear b19 b18
          go_wp2_with fail
          refine (where_any pb bb ob nb cb Lb at_ _ HE.out.lb).mono ?_; rintro e w11 ⟨rfl, hf1⟩
          obtain ⟨q2, hq2⟩ : ∃ q, q = whereZ nb Lb at_ := ⟨_, rfl⟩
          rw [← hq2]
          obtain ⟨⟨x3, y3⟩, ⟨x4, y4⟩, z2⟩ := q2
          dsimp only
          replace HE := Lib.hid (HE.out.frm hf1 (Nat.le_refl _)); replace HF := Lib.hid (HF.out.call hf1 HF.out.size (by simp))
          have b18 := hf1.blk B18.out B18.out.lt (by simp)
          have b19 := hf1.blk B19.out B19.out.lt (by simp)
          clear hf1 cA cB mA mB B18 B19
          have HQ2 := Lib.hid hq2
          have B18 := Lib.hid b18
          have B19 := Lib.hid b19
          clear b19 b18 hq2
          go_wp2_with (with_reducible refine atStore 23 rfl ?_; refine stop_ ?_)
          refine go_on ?_
          obtain ⟨p21, hp21⟩ : ∃ p, p = w11.heap.size := ⟨_, rfl⟩
          refine wpList_storeNew2 (zs := [.int .i64 0, .int .i64 0]) (cs := [.int .i64 x3, .int .i64 y3]) (ds := [.int .i64 x4, .int .i64 y4]) rfl rfl rfl rfl rfl rfl rfl rfl rfl rfl rfl rfl (by kernel_rfl) (by simp [Value.oneCell']) (by simp [Value.oneCell']) ?_
          intro w12 hf1 b21 b22
          rw [← hp21] at b21 b22 ⊢
          replace HE := Lib.hid (HE.out.frm hf1 (Nat.le_refl _)); replace HF := Lib.hid (HF.out.call hf1 HF.out.size (by simp))
          have b18 := hf1.blk B18.out B18.out.lt (by simp)
          have b19 := hf1.blk B19.out B19.out.lt (by simp)
          clear hf1 hp21 B18 B19
          have cA : w12.cell? ⟨c, 12, none⟩ = some (.slice (some ⟨ba, oa, none⟩) na ca) := HE.out.cA; have cB : w12.cell? ⟨c + 1, 12, none⟩ = some (.slice pb nb cb) := HE.out.cB; have mA : w12.cell? ⟨c, 10, none⟩ = some (.int .i64 ua.margin) := HE.out.mA; have mB : w12.cell? ⟨c + 1, 10, none⟩ = some (.int .i64 ub.margin) := HE.out.mB
          have g0 : w12.cell? ⟨p18, 0, none⟩ = some (.int .i64 x1) := b18.cell 0
          have g1 : w12.cell? ⟨p18, 1, none⟩ = some (.int .i64 y1) := b18.cell 1
          have g2 : w12.cell? ⟨p18 + 1, 0, none⟩ = some (.int .i64 x2) := b19.cell 0
          have g3 : w12.cell? ⟨p18 + 1, 1, none⟩ = some (.int .i64 y2) := b19.cell 1
          have g4 : w12.cell? ⟨p21, 0, none⟩ = some (.int .i64 x3) := b21.cell 0
          have g5 : w12.cell? ⟨p21, 1, none⟩ = some (.int .i64 y3) := b21.cell 1
          have g6 : w12.cell? ⟨p21 + 1, 0, none⟩ = some (.int .i64 x4) := b22.cell 0
          have g7 : w12.cell? ⟨p21 + 1, 1, none⟩ = some (.int .i64 y4) := b22.cell 1
          clear b18 b19 b21 b22
          obtain ⟨hw1, hw2⟩ := wrapSucc HKN.out HRT.out.len
          have hms := meas_next6 HKN.out
          have HMS := Lib.hid hms
          clear hms
          by_cases hz : z1 = 0 ∧ z2 = 0
          · obtain ⟨rfl, rfl⟩ := hz
            have k1 := atI_cases na La at_ HLA.out
            have k2 := atI_cases nb Lb at_ HLB.out
            rw [← HQ1.out] at k1
            rw [← HQ2.out] at k2
            rcases k1 with k1 | ⟨i, hi, k1⟩
            · exact absurd rfl k1
            rcases k2 with k2 | ⟨j, hj, k2⟩
            · exact absurd rfl k2
            have hfar := apart_far (ua := ua) (ub := ub) HLA.out HLB.out HP0.out.1 HP0.out.2 H6.out HNO2.out hi hj
            have sa := atI_some hi
            have sb := atI_some hj
            have s1 := low_small (legs_ok HLA.out sa.1) sa.2.1
            have s2 := low_small (legs_ok HLB.out sb.1) sb.2.1
            have m1 := margin_of HUA.out
            have m2 := margin_of HUB.out
            obtain ⟨mm, hmm⟩ : ∃ m, m = ua.margin + ub.margin := ⟨_, rfl⟩
            have v1 : IntKind.i64.wrap (ua.margin + ub.margin) = mm := by rw [hmm]; exact IntWalk.i64_in _ (by clear hfar k1 k2 s1 s2; omega)
            have v2 : wrap64 (ua.margin + ub.margin) = mm := by rw [hmm]; exact IntWalk.wrap64_in _ (by clear hfar k1 k2 s1 s2; omega)
            rw [← hmm] at hfar
            have k1a := congrArg Prod.fst k1
            have k1b := congrArg (fun q => q.2.1) k1
            have k2a := congrArg Prod.fst k2
            have k2b := congrArg (fun q => q.2.1) k2
            dsimp only at k1a k1b k2a k2b
            rw [← k1a, ← k1b, ← k2a, ← k2b] at hfar
            rw [← k1a, ← k1b] at s1
            rw [← k2a, ← k2b] at s2
            clear k1 k2 k1a k1b k2a k2b m1 m2 hmm sa sb hi hj
            have HFAR := Lib.hid hfar
            have SM1 := Lib.hid s1
            have SM2 := Lib.hid s2
            clear s2 s1 hfar
            go_wp2_with (go_at_call 38; refine (far_any x1 y1 x2 y2 x3 y3 x4 y4 mm _ SM1.out SM2.out).mono ?_; rintro e wz ⟨rfl, hf1⟩; rw [HFAR.out]; replace HE := Lib.hid (HE.out.frm hf1 (Nat.le_refl _)); replace HF := Lib.hid (HF.out.call hf1 HF.out.size (by simp)); clear hf1)
            (try simp only [hw1, hw2]); exact ⟨⟨k + 1, by simp, HKN.out, HE.out, HF.out⟩, HMS.out⟩
          · by_cases hz1 : z1 = 0
            · have hz2 : ¬ z2 = 0 := fun h => hz ⟨hz1, h⟩
              subst hz1
              clear hz
              go_wp2_with fail
              (try simp only [hw1, hw2]); exact ⟨⟨k + 1, by simp, HKN.out, HE.out, HF.out⟩, HMS.out⟩
            · clear hz
              go_wp2_with fail
              (try simp only [hw1, hw2]); exact ⟨⟨k + 1, by simp, HKN.out, HE.out, HF.out⟩, HMS.out⟩
        · have hkn' : ¬ (k : Int) < (tn : Int) := by omega
          go_wp2_with (go_at_call 16; refine (awake_any _ (HGL.out.frm HF.out (Nat.le_refl _))).mono ?_; rintro e w9 ⟨rfl, hf1⟩; replace HF := Lib.hid (HF.out.call hf1 HF.out.size (by simp)); clear hf1)
          go_ret
          exact ⟨rfl, HF.out⟩

set_option maxRecDepth 100000
theorem open_ints64 {H : Type} {enc : TypeId × Value → H} {W : World} {v : Value} {d : DataW H} {p : List MemPlace} {r : Reach} {base : Nat} (hv : Value.okWide Tryd.prog W r base 64 v) (h : DataW.Trod enc Tryd.prog W 0 (fun _ => true) true 64 v d p) :
    ∃ ad len cap b off, ∃ L : Nat → Int, v = .slice ad len cap ∧ Rw W 1 ad b off len fun i => [.int .i64 (L i)] := by
  obtain ⟨av, lv, cv, rfl⟩ := okWide_slice Tryd.underlying64 hv
  obtain ⟨m, hm⟩ := h
  rcases Deep.open_slice Tryd.underlying64 hm with ⟨h1, _⟩ | ⟨a, len, cap, m', n, D, Pl, h1, hb, hle, hmax, hmm, hx, hel⟩
  · simp [Value.cells] at h1
    obtain ⟨rfl, rfl, rfl⟩ := h1
    exact ⟨none, 0, 0, 0, 0, fun _ => 0, rfl, ⟨fun h => absurd h (by omega), Nat.zero_le _, fun i hi => absurd hi (by omega)⟩⟩
  · simp [Value.cells] at h1
    obtain ⟨rfl, rfl, rfl⟩ := h1
    have hm' : m' = cv := by simpa using hmm
    subst hm'
    have each : ∀ i, i < lv → ∃ q : Int, ∀ k v, [Value.int .i64 q][k]? = some v → W.cell? (a.add (i * 1 + k)) = some v := by
      intro i hi
      obtain ⟨cs, hc, ht⟩ := hel i (by omega)
      rw [cells3] at hc
      obtain ⟨_, hlen, hcell⟩ := World.cells?_some hc
      obtain ⟨a0, e0, _, _⟩ := DataW.trod_int Tryd.underlying3 ht
      refine ⟨a0, fun k v hv => ?_⟩
      have hk : k < 1 := (List.getElem?_eq_some_iff.1 hv).1
      rw [← Deep.add_add, hcell k hk, e0]
      exact hv
    obtain ⟨f, hf⟩ := Deep.choose_lt each
    refine ⟨some a, lv, m', a.block, a.off, f, rfl, ⟨fun h0 => ?_, by omega, fun i hi k v hv => ?_⟩⟩
    · have g0 := hf 0 h0 0 _ rfl
      obtain ⟨hs, hlt⟩ := cell_spot (a := a) (by simpa [Addr.add] using g0)
      exact congrArg some (by cases a; simp only at hs; rw [hs])
    · have g0 := hf 0 (by omega) 0 _ rfl
      obtain ⟨hs, hlt⟩ := cell_spot (a := a) (by simpa [Addr.add] using g0)
      have q0 := hf i hi k v hv
      simp only [Addr.add_at hs, ← Nat.add_assoc] at q0
      exact q0

set_option maxRecDepth 100000 in
theorem unitApart_lifted (os : Os) (started : os.Started) (H : Type) (enc : TypeId × Value → H) :
    ReturnsInHanded {} Tryd.checked os 9 .any (fun w args => (Rows.unitApartSpec.pre enc Tryd.prog Tryd.f9 [] false w args ∧ laidMetH Tryd.prog laidR w) ∧ sizedMet enc Tryd.prog Tryd.f9 (OpenSpec.ofChange Rows.unitApartSpec) false w args) (Rows.unitApartSpec.post enc Tryd.prog Tryd.f9 false true false false) := by
  refine law_liftL (fn := Tryd.f9) (s := Rows.unitApartSpec) started 4 (by kernel_rfl) Tryd.func9
      (ChangeSpec.witness_shaped (enc := enc) (C := Tryd.checked) (os := os) (X := fun w _ => laidMetH Tryd.prog laidR w) false (World.doorLaid Tryd.prog 400 os)
        #[.agg #[.string ByteArray.empty, .int .i64 0, .int .i64 0, .int .i64 0, .int .i64 0, .int .i64 0, .int .i64 0, .int .i64 0, .int .i64 0, .int .i64 0, .int .i64 0, .int .i64 0, .slice none 0 0], .agg #[.string ByteArray.empty, .int .i64 0, .int .i64 0, .int .i64 0, .int .i64 0, .int .i64 0, .int .i64 0, .int .i64 0, .int .i64 0, .int .i64 0, .int .i64 0, .int .i64 0, .slice none 0 0], .agg #[.int .u8 0, .int .u8 0], .slice none 0 0] 8 rfl
        (World.shaped_of_RefB (by kernel_rfl) (by kernel_rfl)) (by kernel_rfl) (by kernel_rfl) (by kernel_rfl) (door_met os _))
      (by rw [Tryd.params9]; decide +kernel) (by rw [Tryd.params9]; rfl) (by kernel_rfl) rfl (fun ds h => by match ds, h with | [d1, d2, d3, d4], _ => rfl) ?_
  intro W base args ds ps hval hA hgl
  rw [Tryd.params9] at hA hval
  obtain ⟨v0, vs0, d0, ds0, p0, q0, hargs, rfl, rfl, h0, r0⟩ := trodAll_cons hA
  obtain ⟨v1, vs1, d1, ds1, p1, q1, rfl, rfl, rfl, h1, r1⟩ := trodAll_cons r0
  obtain ⟨v2, vs2, d2, ds2, p2, q2, rfl, rfl, rfl, h2, r2⟩ := trodAll_cons r1
  obtain ⟨v3, vs3, d3, ds3, p3, q3, rfl, rfl, rfl, h3, r3⟩ := trodAll_cons r2
  obtain ⟨rfl, rfl, rfl⟩ := trodAll_nil r3
  obtain rfl : args = #[v0, v1, v2, v3] := by cases args; simp_all
  obtain ⟨ua, sa, pa, ba, oa, na, ca, La, rfl, hna, hra⟩ := open_flight (hval 0 62 v0 rfl rfl) h0
  obtain ⟨ub, sb, pb, bb, ob, nb, cb, Lb, rfl, hnb, hrb⟩ := open_flight (hval 1 62 v1 rfl rfl) h1
  obtain ⟨p, q, rfl, hp, hq⟩ := open_pieces (hval 2 63 v2 rfl rfl) h2
  obtain ⟨ta, tn, tcap, tb, to_, T, rfl, hrt⟩ := open_ints64 (hval 3 64 v3 rfl rfl) h3
  exact apart_walk ua ub sa sb hna hnb pa ba oa na ca La pb bb ob nb cb Lb p q hp hq ta tb to_ tn tcap T W hra hrb hrt hgl

theorem unitApart_over : Rows.UnitApartSaid :=
  OpenClaim.holds_of_wide 9 Tryd.f9 rfl rfl rfl rfl rfl rfl rfl ⟨rfl, rfl, rfl, rfl, rfl⟩ rfl rfl rfl rfl rfl (by kernel_rfl) Tryd.func9 (by kernel_rfl)
    (of_decide_eq_true (by kernel_rfl)) (by unfold Func.isWrapper; first | (rw [if_pos (by decide +kernel)]; kernel_rfl) | (rw [if_neg (by decide +kernel)]; exact ⟨rfl, rfl⟩))
    (fun os started H enc _ => unitApart_lifted os started H enc)
end Go.Proofs.YtghkfopcjdkieaaDoor
