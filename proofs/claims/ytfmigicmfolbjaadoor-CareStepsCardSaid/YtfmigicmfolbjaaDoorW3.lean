/-
  Is the stability at least a number, by the document.
-/
import Derived.Test.YtfmigicmfolbjaaDoorW2
import Derived.Test.YtfmigicmfolbjaaDoorB20
namespace Go.Proofs.YtfmigicmfolbjaaDoor
set_option linter.all false
set_option linter.unusedSimpArgs false
set_option linter.unusedVariables false
open Go.RowKit
attribute [local go_sem ↓ high] run_min_ run_max_ run_min2 run_max2

theorem times_int (x n P : Int) (w : World) (hP : x * n = P) (hx : 0 ≤ x) (hn0 : 0 ≤ n) (hP1 : P < 42535295865117307932921825928971026432) (hn : n < 9223372036854775808) :
    Calls Tryd.prog 92 #[.agg (wideC x).toArray, .int .i64 n] w fun e w' => e = .returned (.agg (wideC P).toArray) ∧ Frm w.heap.size [] w w' := by
  have e : ((n.toNat : Nat) : Int) = n := by omega
  have := times_any x n.toNat P w (by rw [e]; exact hP) hx hP1 (by omega)
  rw [e] at this
  exact this
theorem tasL_succ (i : Nat) (L : Nat → Ta) : tasL (i + 1) L = tasL i L ++ [L i] := by simp [tasL, List.range_succ]
theorem tas_mem {n : Nat} {L : Nat → Ta} (h : ∀ i, i < n → TaOK (L i)) : ∀ t, t ∈ tasL n L → TaOK t := fun t ht => by
  unfold tasL at ht
  obtain ⟨i, hi, rfl⟩ := List.mem_map.1 ht
  exact h i (by simpa using hi)
/-- What there is behind i tanks. -/
structure StAt (h : Hu) (L : Nat → Ta) (i : Nat) (v d : Int) : Prop where
  ve : v = volZ h (tasL i L)
  de : d = downZ h (tasL i L)
  v1 : 1000000 ≤ v
  v2 : v ≤ 7000000000000
  d1 : 0 ≤ d
  d2 : d ≤ 1260000000000000000
theorem stAt {h : Hu} {L : Nat → Ta} {i n : Nat} (hh : HuOK h) (hl : ∀ i, i < n → TaOK (L i)) (hi : i ≤ n) (hn : n ≤ 6) : StAt h L i (volZ h (tasL i L)) (downZ h (tasL i L)) := by
  have hm : ∀ t, t ∈ tasL i L → TaOK t := tas_mem fun j hj => hl j (by omega)
  have hb := vol_bound hh hm (by simp [tasL]; omega)
  have hd := down_bound hh hm (by simp [tasL]; omega)
  exact ⟨rfl, rfl, hb.1, hb.2, hd.1, hd.2⟩
theorem stAt_succ {h : Hu} {L : Nat → Ta} {i n : Nat} {v d : Int} (hh : HuOK h) (hl : ∀ i, i < n → TaOK (L i)) (hi : i < n) (hn : n ≤ 6) (k : StAt h L i v d) : StAt h L (i + 1) (v + (L i).vol) (d + (L i).down) := by
  have := stAt hh hl (show i + 1 ≤ n from hi) hn
  rw [tasL_succ, volZ_snoc, downZ_snoc, ← k.ve, ← k.de] at this
  exact ⟨by rw [tasL_succ, volZ_snoc, ← k.ve], by rw [tasL_succ, downZ_snoc, ← k.de], this.v1, this.v2, this.d1, this.d2⟩
def LeastOK (m : Int) : Prop := -1152921504606846976 ≤ m ∧ m ≤ 20000
theorem stable_num {h : Hu} {L : Nat → Ta} {n : Nat} {v d m : Int} (hh : HuOK h) (k : StAt h L n v d) (hm : LeastOK m) :
    ∃ r P T : Int, r = h.meta_ - m ∧ P = (12 * v) * max r (-r) ∧ T = (12 * v) * r ∧ (-1152921504606866976 ≤ r ∧ r ≤ 1152921504606866976) ∧ 0 ≤ max r (-r) ∧ max r (-r) ≤ 1152921504606866976 ∧ 0 ≤ P ∧ P < 42535295865117307932921825928971026432 ∧ (r < 0 → T = -P) ∧ (¬ r < 0 → T = P) ∧ In126 P ∧ In126 T ∧ In126 (T - d) ∧ In126 d ∧ (0 ≤ hiW (T + -d) ↔ m ≤ stabZ h (tasL n L)) := by
  obtain ⟨r, hr⟩ : ∃ r, r = h.meta_ - m := ⟨_, rfl⟩
  obtain ⟨q, hq⟩ : ∃ q, q = max r (-r) := ⟨_, rfl⟩
  have hr1 : -1152921504606866976 ≤ r ∧ r ≤ 1152921504606866976 := by unfold LeastOK at hm; have := hh.2.1; omega
  have hq1 : 0 ≤ q ∧ q ≤ 1152921504606866976 := by omega
  have hP := mul_in (a := 12 * v) (b := q) (m := 84000000000000) (n := 1152921504606866976) ⟨by have := k.v1; omega, by have := k.v2; omega⟩ hq1
  obtain ⟨P, hPe⟩ : ∃ P, P = (12 * v) * q := ⟨_, rfl⟩
  rw [← hPe] at hP
  have hT1 : r < 0 → (12 * v) * r = -P := fun h0 => by
    have : q = -r := by omega
    rw [hPe, this, Int.mul_neg, Int.neg_neg]
  have hT2 : ¬ r < 0 → (12 * v) * r = P := fun h0 => by
    have : q = r := by omega
    rw [hPe, this]
  obtain ⟨T, hTe⟩ : ∃ T, T = (12 * v) * r := ⟨_, rfl⟩
  rw [← hTe] at hT1 hT2
  have hPT : T = P ∨ T = -P := by
    by_cases h0 : r < 0
    · exact .inr (hT1 h0)
    · exact .inl (hT2 h0)
  have k1 := k.d1
  have k2 := k.d2
  refine ⟨r, P, T, hr, by rw [← hq]; exact hPe, hTe, hr1, by rw [← hq]; exact hq1.1, by rw [← hq]; exact hq1.2, hP.1, by omega, hT1, hT2, by unfold In126; omega, by unfold In126; omega, by unfold In126; omega, by unfold In126; omega, ?_⟩
  rw [hi_nonneg]
  have hv : 0 < volZ h (tasL n L) := by rw [← k.ve]; have := k.v1; omega
  rw [stab_ge hv, ← k.ve, ← k.de, ← hr, Int.mul_comm r, ← hTe]
  omega
def st140 (V : World) (p : Nat) (x : Int) : Prop := Blk V p 140 (wideC x)
set_option maxRecDepth 100000 in
set_option maxHeartbeats 8000000 in
theorem stable_any (h : Hu) (hh : HuOK h) (ad : Option Addr) (b off n cap : Nat) (L : Nat → Ta) (hL : ∀ i, i < n → TaOK (L i)) (hn : n ≤ 6) (m : Int) (hm : LeastOK m) (w : World) (hr : Rw w 4 ad b off n fun i => (L i).cells) :
    Calls Tryd.prog 59 #[.agg h.cells.toArray, .slice ad n cap, .int .i64 m] w fun e w' => e = .returned (.bool (decide (m ≤ stabZ h (tasL n L)))) ∧ Frm w.heap.size [] w w' := by
  have hf0 := Tryd.func59
  obtain ⟨v0, hv0⟩ : ∃ v, v = 1000000 * h.tons := ⟨_, rfl⟩
  obtain ⟨d0, hd0⟩ : ∃ d, d = v0 * (12 * h.centre) := ⟨_, rfl⟩
  have hst0 : StAt h L 0 v0 d0 := by
    have := stAt hh hL (Nat.zero_le _) hn
    have e1 : volZ h (tasL 0 L) = v0 := by rw [hv0]; rfl
    have e2 : downZ h (tasL 0 L) = d0 := by
      rw [hd0, hv0, ← Int.mul_assoc]; rfl
    rw [e1, e2] at this
    exact this
  have hc1 := hh.2.2
  have hv1 := hst0.v1
  have hv2 := hst0.v2
  have hd1 := hst0.d2
  obtain ⟨cn, hcn⟩ : ∃ c, c = 12 * h.centre := ⟨_, rfl⟩
  rw [← hcn] at hd0
  have q1 : IntKind.i64.wrap (1000000 * h.tons) = v0 := by rw [hv0]; exact IntWalk.i64_in _ (by omega)
  have q1' : wrap64 (1000000 * h.tons) = v0 := by rw [hv0]; exact IntWalk.wrap64_in _ (by omega)
  have q2 : IntKind.i64.wrap (12 * h.centre) = cn := by rw [hcn]; exact IntWalk.i64_in _ (by omega)
  have q2' : wrap64 (12 * h.centre) = cn := by rw [hcn]; exact IntWalk.wrap64_in _ (by omega)
  have hlen : n ≤ maxLen := by unfold maxLen; omega
  have hof : ∀ V, Calls Tryd.prog 93 #[.int .i64 v0] V fun e w' => e = .returned (.agg (wideC v0).toArray) ∧ Frm V.heap.size [] V w' := fun V => of_any v0 V (by omega) (by omega)
  have hti : ∀ V, Calls Tryd.prog 92 #[.agg (wideC v0).toArray, .int .i64 cn] V fun e w' => e = .returned (.agg (wideC d0).toArray) ∧ Frm V.heap.size [] V w' := fun V => times_int v0 cn d0 V hd0.symm (by omega) (by omega) (by omega) (by omega)
  clear hv1 hv2 hd1 hd0 hc1 hcn hv0
  have HR := Lib.hid hr
  have HH := Lib.hid hh
  have HL := Lib.hid hL
  have HN := Lib.hid hn
  have HM := Lib.hid hm
  have HST0 := Lib.hid hst0
  have HOF := Lib.hid hof
  have HTI := Lib.hid hti
  clear hti hof hst0 hm hn hL hh hr
  go_enter Tryd.func59, Tryd.ntmps59
  go_upto_region 1 with fail
  refine namedC ?_; intro W hW
  obtain ⟨c, hc⟩ : ∃ c, c = w.heap.size := ⟨_, rfl⟩
  have k0 : Blk W c 41 h.cells := by rw [hW, hc]; exact Blk.new w 41 h.cells
  have hf : Frm w.heap.size [] w W := by rw [hW]; repeat (first | with_reducible exact Frm.refl _ _ _ | with_reducible refine Frm.drewN ?_ | with_reducible refine Frm.drew ?_ | ((with_reducible refine Frm.setCell' ?_ ?_); · first | (left; simp; done) | (right; simp; done) | (right; simp; omega)) | ((with_reducible refine Frm.alloc' ?_ ?_); · first | exact Nat.le_refl _ | (simp; done) | (simp; omega)))
  clear hW hf0
  rw [← hc]
  have a0 : W.cell? ⟨c, 0, none⟩ = some (.int .i64 h.tons) := k0.cell 0
  clear hc
  have K0 := Lib.hid k0
  have HF := Lib.hid hf
  clear hf k0
  go_upto_region 3 with fail
  clear a0 q1 q1'
  have hfx : ∀ V, Frm W.heap.size [] W V → V.cell? ⟨c, 2, none⟩ = some (.int .i64 h.centre) ∧ True := fun V hV => ⟨(hV.blk K0.out K0.out.lt (by simp)).cell 2, trivial⟩
  have HFX := Lib.hid hfx
  clear hfx
  go_cut [9] from 9 to 26 (fun s9 w' => ∃ p, s9 = .pointer (some ⟨p, 0, none⟩) ∧ st140 w' p d0 ∧ W.heap.size ≤ p ∧ Frm W.heap.size [] W w')
  case first =>
    refine wp_region_leftL (fun V => Frm W.heap.size [] W V) 7 (by kernel_rfl) ?_
    have hS : Frm W.heap.size [] W W.drew := (Frm.refl _ _ W).drew
    have HS := Lib.hid hS
    clear hS
    first | ((first | refine LeftL.tkF (v := ?_) 0 rfl HS.out ?_ ?_ | refine LeftL.tkG (v := ?_) 0 rfl HS.out ?_ ?_); rotate_left; (· intro V hV; obtain ⟨z1, z2⟩ := HFX.out V hV; clear hV; go_simp; rfl)) | refine LeftL.tkN 0 rfl HS.out ?_
    (intro K' hK'; go_simp; refine hK' _ ?_; clear hK' K')
    first | ((first | refine LeftL.tkF (v := ?_) 2 rfl HS.out ?_ ?_ | refine LeftL.tkG (v := ?_) 2 rfl HS.out ?_ ?_); rotate_left; (· intro V hV; obtain ⟨z1, z2⟩ := HFX.out V hV; clear hV; go_simp; rfl)) | refine LeftL.tkN 2 rfl HS.out ?_
    (intro K' hK'; go_simp; refine hK' _ ?_; clear hK' K')
    first | ((first | refine LeftL.tkF (v := ?_) 3 rfl HS.out ?_ ?_ | refine LeftL.tkG (v := ?_) 3 rfl HS.out ?_ ?_); rotate_left; (· intro V hV; obtain ⟨z1, z2⟩ := HFX.out V hV; clear hV; go_simp; rfl)) | refine LeftL.tkN 3 rfl HS.out ?_
    (intro K' hK'; go_simp; refine hK' _ ?_; clear hK' K')
    first | ((first | refine LeftL.tkF (v := ?_) 4 rfl HS.out ?_ ?_ | refine LeftL.tkG (v := ?_) 4 rfl HS.out ?_ ?_); rotate_left; (· intro V hV; obtain ⟨z1, z2⟩ := HFX.out V hV; clear hV; go_simp; rfl)) | refine LeftL.tkN 4 rfl HS.out ?_
    (intro K' hK'; go_simp; refine hK' _ ?_; clear hK' K')
    refine LeftL.two 1 6 rfl rfl (by kernel_rfl) ?_ ?_
    · go_wp2_with fail
      refine (HOF.out _).mono ?_; rintro e x1 ⟨rfl, hf1⟩
      have hS1 := HS.out.call hf1 HS.out.size (by simp)
      clear hf1 HS 
      have HS := Lib.hid hS1
      clear hS1
      go_wp2_with fail
      first | refine ⟨fun _ => HS.out, ?_⟩ | refine ⟨HS.out, ?_⟩
      refine LeftL.two 5 6 rfl rfl (by kernel_rfl) ?_ ?_
      · go_wp2_with fail
        refine (HTI.out _).mono ?_; rintro e x2 ⟨rfl, hf1⟩
        have hS1 := HS.out.call hf1 HS.out.size (by simp)
        clear hf1 HS 
        have HS := Lib.hid hS1
        clear hS1
        go_wp2_with fail
        first | refine ⟨fun _ => HS.out, ?_⟩ | refine ⟨HS.out, ?_⟩
        refine LeftL.one 6 rfl (by kernel_rfl) ?_
        go_wp2_with fail
        refine ⟨fun _ => HS.out.alloc HS.out.size _, ?_⟩
        refine namedLL ?_; intro U hU
        have kp : Blk U x2.heap.size 140 [.int .i64 0, .int .u64 0] := by rw [hU]; exact Blk.new' _ 140 [.int .i64 0, .int .u64 0] rfl
        have hS1 : Frm W.heap.size [] W U := by rw [hU]; exact HS.out.alloc HS.out.size _
        have hpl : W.heap.size ≤ x2.heap.size := HS.out.size
        obtain ⟨p, hp⟩ : ∃ p, p = x2.heap.size := ⟨_, rfl⟩
        rw [← hp] at kp hpl ⊢
        clear hU hp HS
        have KP := Lib.hid kp
        have HS := Lib.hid hS1
        have HPL := Lib.hid hpl
        clear hpl hS1 kp
        refine LeftL.one 7 rfl (by kernel_rfl) ?_
        refine wpList_storeB (P := Tryd.prog) (ty := 140) (cs := wideC d0) rfl rfl KP.out rfl rfl rfl info140 (wideC_one _) ?_
        have kq := KP.out.row (wideC d0)
        have hS1 := HS.out.setRow (g := p) (.inr HPL.out) (wideC d0).toArray
        refine wpList_nil ?_
        generalize World.setRow _ p (wideC d0).toArray = U2 at kq hS1 ⊢
        clear HS KP
        have KQ := Lib.hid kq
        have HS := Lib.hid hS1
        clear hS1 kq
        refine ⟨fun h => absurd rfl h, ?_⟩
        refine LeftL.done (by kernel_rfl) ?_
        go_wp2_with fail
        go_meet
        case rel => exact ⟨p, rfl, KQ.out, HPL.out, HS.out⟩
      · go_wp2_with fail
        refine ⟨fun _ => HS.out.alloc HS.out.size _, ?_⟩
        refine namedLL ?_; intro U hU
        have kp : Blk U x1.heap.size 140 [.int .i64 0, .int .u64 0] := by rw [hU]; exact Blk.new' _ 140 [.int .i64 0, .int .u64 0] rfl
        have hS1 : Frm W.heap.size [] W U := by rw [hU]; exact HS.out.alloc HS.out.size _
        have hpl : W.heap.size ≤ x1.heap.size := HS.out.size
        obtain ⟨p, hp⟩ : ∃ p, p = x1.heap.size := ⟨_, rfl⟩
        rw [← hp] at kp hpl ⊢
        clear hU hp HS
        have KP := Lib.hid kp
        have HS := Lib.hid hS1
        have HPL := Lib.hid hpl
        clear hpl hS1 kp
        refine LeftL.one 5 rfl (by kernel_rfl) ?_
        go_wp2_with fail
        refine (HTI.out _).mono ?_; rintro e x3 ⟨rfl, hf1⟩
        have hS1 := HS.out.call hf1 HS.out.size (by simp)
        have kp := hf1.blk KP.out KP.out.lt (by simp)
        clear hf1 HS KP
        have HS := Lib.hid hS1
        have KP := Lib.hid kp
        clear kp hS1
        go_wp2_with fail
        first | refine ⟨fun _ => HS.out, ?_⟩ | refine ⟨HS.out, ?_⟩
        refine LeftL.one 7 rfl (by kernel_rfl) ?_
        refine wpList_storeB (P := Tryd.prog) (ty := 140) (cs := wideC d0) rfl rfl KP.out rfl rfl rfl info140 (wideC_one _) ?_
        have kq := KP.out.row (wideC d0)
        have hS1 := HS.out.setRow (g := p) (.inr HPL.out) (wideC d0).toArray
        refine wpList_nil ?_
        generalize World.setRow _ p (wideC d0).toArray = U2 at kq hS1 ⊢
        clear HS KP
        have KQ := Lib.hid kq
        have HS := Lib.hid hS1
        clear hS1 kq
        refine ⟨fun h => absurd rfl h, ?_⟩
        refine LeftL.done (by kernel_rfl) ?_
        go_wp2_with fail
        go_meet
        case rel => exact ⟨p, rfl, KQ.out, HPL.out, HS.out⟩
    · go_wp2_with fail
      refine ⟨fun _ => HS.out.alloc HS.out.size _, ?_⟩
      refine namedLL ?_; intro U hU
      have kp : Blk U W.heap.size 140 [.int .i64 0, .int .u64 0] := by rw [hU]; exact Blk.new' _ 140 [.int .i64 0, .int .u64 0] rfl
      have hS1 : Frm W.heap.size [] W U := by rw [hU]; exact HS.out.alloc HS.out.size _
      have hpl : W.heap.size ≤ W.heap.size := Nat.le_refl _
      clear hU HS
      have KP := Lib.hid kp
      have HS := Lib.hid hS1
      have HPL := Lib.hid hpl
      clear hpl hS1 kp
      refine LeftL.one 1 rfl (by kernel_rfl) ?_
      go_wp2_with fail
      refine (HOF.out _).mono ?_; rintro e x4 ⟨rfl, hf1⟩
      have hS1 := HS.out.call hf1 HS.out.size (by simp)
      have kp := hf1.blk KP.out KP.out.lt (by simp)
      clear hf1 HS KP
      have HS := Lib.hid hS1
      have KP := Lib.hid kp
      clear kp hS1
      go_wp2_with fail
      first | refine ⟨fun _ => HS.out, ?_⟩ | refine ⟨HS.out, ?_⟩
      refine LeftL.one 5 rfl (by kernel_rfl) ?_
      go_wp2_with fail
      refine (HTI.out _).mono ?_; rintro e x5 ⟨rfl, hf1⟩
      have hS1 := HS.out.call hf1 HS.out.size (by simp)
      have kp := hf1.blk KP.out KP.out.lt (by simp)
      clear hf1 HS KP
      have HS := Lib.hid hS1
      have KP := Lib.hid kp
      clear kp hS1
      go_wp2_with fail
      first | refine ⟨fun _ => HS.out, ?_⟩ | refine ⟨HS.out, ?_⟩
      refine LeftL.one 7 rfl (by kernel_rfl) ?_
      refine wpList_storeB (P := Tryd.prog) (ty := 140) (cs := wideC d0) rfl rfl KP.out rfl rfl rfl info140 (wideC_one _) ?_
      have kq := KP.out.row (wideC d0)
      have hS1 := HS.out.setRow (g := W.heap.size) (.inr HPL.out) (wideC d0).toArray
      refine wpList_nil ?_
      generalize World.setRow _ W.heap.size (wideC d0).toArray = U2 at kq hS1 ⊢
      clear HS KP
      have KQ := Lib.hid kq
      have HS := Lib.hid hS1
      clear hS1 kq
      refine ⟨fun h => absurd rfl h, ?_⟩
      refine LeftL.done (by kernel_rfl) ?_
      go_wp2_with fail
      go_meet
      case rel => exact ⟨_, rfl, KQ.out, HPL.out, HS.out⟩
  obtain ⟨p, rfl, kp, hpl, hfc⟩ := hcut
  have k0 := hfc.blk K0.out K0.out.lt (by simp)
  have hf := HF.out.call hfc HF.out.size (by simp)
  have hpw : w.heap.size ≤ p := Nat.le_trans HF.out.size hpl
  have hpc : p ≠ c := by have := K0.out.lt; omega
  obtain ⟨W1, hW1⟩ : ∃ V, V = wc := ⟨_, rfl⟩
  rw [← hW1] at kp k0 hf ⊢
  clear hfc K0 HF HFX hpl hW1 HOF HTI q2 q2'
  unfold st140 at kp
  have K0 := Lib.hid k0
  have HF := Lib.hid hf
  have KP := Lib.hid kp
  have HPW := Lib.hid hpw
  have HPC := Lib.hid hpc
  clear hpc hpw kp hf k0
  go_wp2_with fail
  go_loopw [8, 10] (fun s8 s10 wr => ∃ (i : Nat) (v d : Int), s10 = .int .i64 i ∧ i ≤ n ∧ s8 = .int .i64 v ∧ StAt h L i v d ∧ Blk wr c 41 h.cells ∧ Blk wr p 140 (wideC d) ∧ Frm w.heap.size [] w wr) (fun _ s10 _ => n - (intOf s10).toNat)
  case atStart => exact ⟨0, v0, d0, rfl, Nat.zero_le _, rfl, HST0.out, K0.out, KP.out, HF.out⟩
  case round =>
    clear K0 KP HF HST0
    obtain ⟨i, v, d, rfl, hi, rfl, hst, k0, kp, hf⟩ := hrel
    by_cases hin : i < n
    rotate_left
    · have hi' : ¬ (i : Int) < (n : Int) := by omega
      obtain rfl : i = n := by omega
      obtain ⟨r, P, T, hr, hP, hT, hr1, hq0, hq1, hP0, hP1, hTn, hTp, iP, iT, iD, id, hres⟩ := stable_num HH.out hst HM.out
      obtain ⟨q, hq⟩ : ∃ q, q = max r (-r) := ⟨_, rfl⟩
      rw [← hq] at hP hq0 hq1
      have hv1 := hst.v1
      have hv2 := hst.v2
      have e1 : IntKind.i64.wrap (h.meta_ - m) = r := by rw [← hr]; exact IntWalk.i64_in _ (by omega)
      have e2 : wrap64 (h.meta_ - m) = r := by rw [← hr]; exact IntWalk.wrap64_in _ (by omega)
      have e3 : IntKind.i64.wrap (-r) = -r := IntWalk.i64_in _ (by omega)
      have e4 : wrap64 (-r) = -r := IntWalk.wrap64_in _ (by omega)
      have hqs := hq.symm
      have co : ∀ V, Calls Tryd.prog 93 #[.int .i64 v] V fun e w' => e = .returned (.agg (wideC v).toArray) ∧ Frm V.heap.size [] V w' := fun V => of_any v V (by omega) (by omega)
      have ct : ∀ V, Calls Tryd.prog 92 #[.agg (wideC v).toArray, .int .i64 12] V fun e w' => e = .returned (.agg (wideC (12 * v)).toArray) ∧ Frm V.heap.size [] V w' := fun V => times_int v 12 (12 * v) V (Int.mul_comm _ _) (by omega) (by omega) (by omega) (by omega)
      have ct2 : ∀ V, Calls Tryd.prog 92 #[.agg (wideC (12 * v)).toArray, .int .i64 q] V fun e w' => e = .returned (.agg (wideC P).toArray) ∧ Frm V.heap.size [] V w' := fun V => times_int (12 * v) q P V hP.symm (by omega) (by omega) hP1 (by omega)
      have cm : ∀ V, Calls Tryd.prog 95 #[.agg (wideC P).toArray] V fun e w' => e = .returned (.agg (wideC (-P)).toArray) ∧ Frm V.heap.size [] V w' := fun V => minus_any P V iP
      have cm2 : ∀ V, Calls Tryd.prog 95 #[.agg (wideC d).toArray] V fun e w' => e = .returned (.agg (wideC (-d)).toArray) ∧ Frm V.heap.size [] V w' := fun V => minus_any d V id
      have cpl : ∀ V, Calls Tryd.prog 94 #[.agg (wideC T).toArray, .agg (wideC (-d)).toArray] V fun e w' => e = .returned (.agg (wideC (T + -d)).toArray) ∧ Frm V.heap.size [] V w' := fun V => plus_any T (-d) V iT (by have := hst.d1; have := hst.d2; unfold In126; omega)
      have a1 : wr.cell? ⟨c, 1, none⟩ = some (.int .i64 h.meta_) := k0.cell 1
      clear hst hq hr hP hT hP0 hP1 iP iT iD id hv1 hv2 hq0 hq1 hr1
      have K0 := Lib.hid k0
      have KP := Lib.hid kp
      have HF := Lib.hid hf
      have CO := Lib.hid co
      have CT := Lib.hid ct
      have CT2 := Lib.hid ct2
      have CM := Lib.hid cm
      have CM2 := Lib.hid cm2
      have CPL := Lib.hid cpl
      have HTN := Lib.hid hTn
      have HTP := Lib.hid hTp
      have HRES := Lib.hid hres
      clear hres hTp hTn cpl cm2 cm ct2 ct co hf kp k0
      go_wp2_with (first | (with_reducible refine atStore 140 rfl ?_; refine stop_ ?_) | (go_at_call 93; refine (CO.out _).mono ?_; rintro e x1 ⟨rfl, hf1⟩; replace K0 := Lib.hid (hf1.blk K0.out K0.out.lt (by simp)); replace KP := Lib.hid (hf1.blk KP.out KP.out.lt (by simp)); replace HF := Lib.hid (HF.out.call hf1 HF.out.size (by simp)); clear hf1) | (go_at_call 92; refine (CT.out _).mono ?_; rintro e x1 ⟨rfl, hf1⟩; replace K0 := Lib.hid (hf1.blk K0.out K0.out.lt (by simp)); replace KP := Lib.hid (hf1.blk KP.out KP.out.lt (by simp)); replace HF := Lib.hid (HF.out.call hf1 HF.out.size (by simp)); clear hf1))
      refine go_on ?_
      refine wpList_storeNew (P := Tryd.prog) (cs := wideC (12 * v)) rfl rfl rfl rfl rfl info140 (wideC_one _) ?_
      intro V1 hf1 k13 _
      obtain ⟨g, hg⟩ : ∃ g, g = x1.heap.size := ⟨_, rfl⟩
      rw [← hg] at k13 ⊢
      have kp := hf1.blk KP.out KP.out.lt (by simp)
      have k0 := hf1.blk K0.out K0.out.lt (by simp)
      have hf := HF.out.call hf1 HF.out.size (by simp)
      have a1 : V1.cell? ⟨c, 1, none⟩ = some (.int .i64 h.meta_) := k0.cell 1
      dsimp only [Act.put]
      clear hf1 hg K0 KP HF CO CT
      have KP := Lib.hid kp
      have HF := Lib.hid hf
      have K13 := Lib.hid k13
      clear k13 hf kp
      go_wp2_with (first | (with_reducible refine atLoad 140 rfl ?_; refine wpList_loadE rfl rfl rfl (load_wide K13.out) ?_) | (with_reducible refine atStore 140 rfl ?_; refine stop_ ?_) | (go_at_call 92; refine (CT2.out _).mono ?_; rintro e x2 ⟨rfl, hf1⟩; replace KP := Lib.hid (hf1.blk KP.out KP.out.lt (by simp)); replace HF := Lib.hid (HF.out.call hf1 HF.out.size (by simp)); clear hf1))
      refine go_on ?_
      refine wpList_storeNew (P := Tryd.prog) (cs := wideC P) rfl rfl rfl rfl rfl info140 (wideC_one _) ?_
      intro V2 hf1 k15 _
      have hlg : w.heap.size ≤ x2.heap.size := HF.out.size
      have hgp : x2.heap.size ≠ p := by have := KP.out.lt; omega
      obtain ⟨g2, hg2⟩ : ∃ g, g = x2.heap.size := ⟨_, rfl⟩
      rw [← hg2] at k15 hlg hgp ⊢
      have kp := hf1.blk KP.out KP.out.lt (by simp)
      have hf := HF.out.call hf1 HF.out.size (by simp)
      dsimp only [Act.put]
      clear hf1 hg2 KP HF CT2 a1 K13
      have KP := Lib.hid kp
      have HF := Lib.hid hf
      have K15 := Lib.hid k15
      have HLG := Lib.hid hlg
      have HGP := Lib.hid hgp
      clear hgp hlg k15 hf kp
      by_cases hneg : r < 0
      · have hd : decide (r < 0) = true := decide_eq_true hneg
        have hT := HTN.out hneg
        go_wp2_with (first | (with_reducible refine atLoad 140 rfl ?_; refine wpList_loadE rfl rfl rfl (load_wide K15.out) ?_) | (with_reducible refine atStore 140 rfl ?_; refine stop_ ?_) | (go_at_call 95; refine (CM.out _).mono ?_; rintro e x3 ⟨rfl, hf1⟩; replace KP := Lib.hid (hf1.blk KP.out KP.out.lt (by simp)); replace K15 := Lib.hid (hf1.blk K15.out K15.out.lt (by simp)); replace HF := Lib.hid (HF.out.call hf1 HF.out.size (by simp)); clear hf1))
        refine go_on ?_
        refine wpList_storeB (P := Tryd.prog) (ty := 140) (cs := wideC (-P)) rfl rfl K15.out rfl rfl rfl info140 (wideC_one _) ?_
        have k15 := K15.out.row (wideC (-P))
        have kp := KP.out.row_other (g := g2) (wideC (-P)).toArray HGP.out
        have hf := HF.out.setRow (g := g2) (.inr HLG.out) (wideC (-P)).toArray
        generalize World.setRow _ g2 (wideC (-P)).toArray = V3 at k15 kp hf ⊢
        rw [← hT] at k15
        clear K15 KP HF hT hneg hd HTN HTP CM
        have KP := Lib.hid kp
        have HF := Lib.hid hf
        have K15 := Lib.hid k15
        clear k15 hf kp
        go_upto_region 17 with fail
        have hl15 : ∀ V, Frm V3.heap.size [] V3 V → (loadVar 140 ⟨g2, 0, none⟩).run Tryd.prog V = .ok (.agg (wideC T).toArray) V := fun V hV => load_wide (hV.blk K15.out K15.out.lt (by simp))
        have hlp : ∀ V, Frm V3.heap.size [] V3 V → (loadVar 140 ⟨p, 0, none⟩).run Tryd.prog V = .ok (.agg (wideC d).toArray) V := fun V hV => load_wide (hV.blk KP.out KP.out.lt (by simp))
        have HL15 := Lib.hid hl15
        have HLP := Lib.hid hlp
        clear hlp hl15
        refine wp_region_leftL (fun V => Frm V3.heap.size [] V3 V) 4 (by kernel_rfl) ?_
        have hS : Frm V3.heap.size [] V3 V3.drew := (Frm.refl _ _ V3).drew
        have HS := Lib.hid hS
        clear hS
        refine LeftL.take 0 rfl (by kernel_rfl) (fun _ _ d _ _ h => by cases d <;> exact h) (yields_loadE (ty := 140) rfl rfl rfl (HL15.out)) HS.out ?_; (intro K' hK'; go_simp; refine hK' _ ?_; clear hK' K')
        refine LeftL.take 1 rfl (by kernel_rfl) (fun _ _ d _ _ h => by cases d <;> exact h) (yields_loadE (ty := 140) rfl rfl rfl (HLP.out)) HS.out ?_; (intro K' hK'; go_simp; refine hK' _ ?_; clear hK' K')
        refine LeftL.one 2 rfl (by kernel_rfl) ?_
        go_wp2_with fail
        refine (CM2.out _).mono ?_; rintro e y1 ⟨rfl, hf1⟩
        have hS1 := HS.out.call hf1 HS.out.size (by simp)
        clear hf1 HS
        have HS := Lib.hid hS1
        clear hS1
        go_wp2_with fail
        first | refine ⟨fun _ => HS.out, ?_⟩ | refine ⟨HS.out, ?_⟩
        refine LeftL.one 3 rfl (by kernel_rfl) ?_
        go_wp2_with fail
        refine (CPL.out _).mono ?_; rintro e y2 ⟨rfl, hf1⟩
        have hS1 := HS.out.call hf1 HS.out.size (by simp)
        clear hf1 HS
        have HS := Lib.hid hS1
        clear hS1
        go_wp2_with fail
        first | refine ⟨fun _ => HS.out, ?_⟩ | refine ⟨HS.out, ?_⟩
        refine LeftL.one 4 rfl (by kernel_rfl) ?_
        have k15 := HS.out.blk K15.out K15.out.lt (by simp)
        have hf := HF.out.call HS.out HF.out.size (by simp)
        refine wpList_storeB (P := Tryd.prog) (ty := 140) (cs := wideC (T + -d)) rfl rfl k15 rfl rfl rfl info140 (wideC_one _) ?_
        refine wpList_nil ?_
        have k16 := k15.row (wideC (T + -d))
        have hf2 := hf.setRow (g := g2) (.inr HLG.out) (wideC (T + -d)).toArray
        generalize World.setRow _ g2 (wideC (T + -d)).toArray = V4 at k16 hf2 ⊢
        clear k15 hf HS HF K15 KP HL15 HLP
        obtain ⟨z, hz⟩ : ∃ z, z = hiW (T + -d) := ⟨_, rfl⟩
        have b0 : V4.cell? ⟨g2, 0, none⟩ = some (.int .i64 z) := by rw [hz]; exact k16.cell 0
        have hfin : decide (0 ≤ z) = decide (m ≤ stabZ h (tasL i L)) := by rw [hz]; exact decide_eq_decide.2 HRES.out
        clear k16 hz
        have HF := Lib.hid hf2
        have HFIN := Lib.hid hfin
        clear hfin hf2
        refine ⟨fun h => absurd rfl h, ?_⟩
        refine LeftL.done (by kernel_rfl) ?_
        go_wp2_with fail
        go_ret
        exact ⟨by rw [HFIN.out]; rfl, HF.out⟩
      · have hd : decide (r < 0) = false := decide_eq_false hneg
        have hT := HTP.out (by omega)
        have k15 := K15.out
        rw [← hT] at k15
        obtain ⟨V3, hV3⟩ : ∃ V, V = V2 := ⟨_, rfl⟩
        rw [← hV3] at k15 HF KP ⊢
        clear K15 hT HTN HTP CM hV3
        have K15 := Lib.hid k15
        clear k15
        go_upto_region 17 with fail
        have hl15 : ∀ V, Frm V3.heap.size [] V3 V → (loadVar 140 ⟨g2, 0, none⟩).run Tryd.prog V = .ok (.agg (wideC T).toArray) V := fun V hV => load_wide (hV.blk K15.out K15.out.lt (by simp))
        have hlp : ∀ V, Frm V3.heap.size [] V3 V → (loadVar 140 ⟨p, 0, none⟩).run Tryd.prog V = .ok (.agg (wideC d).toArray) V := fun V hV => load_wide (hV.blk KP.out KP.out.lt (by simp))
        have HL15 := Lib.hid hl15
        have HLP := Lib.hid hlp
        clear hlp hl15
        refine wp_region_leftL (fun V => Frm V3.heap.size [] V3 V) 4 (by kernel_rfl) ?_
        have hS : Frm V3.heap.size [] V3 V3.drew := (Frm.refl _ _ V3).drew
        have HS := Lib.hid hS
        clear hS
        refine LeftL.take 0 rfl (by kernel_rfl) (fun _ _ d _ _ h => by cases d <;> exact h) (yields_loadE (ty := 140) rfl rfl rfl (HL15.out)) HS.out ?_; (intro K' hK'; go_simp; refine hK' _ ?_; clear hK' K')
        refine LeftL.take 1 rfl (by kernel_rfl) (fun _ _ d _ _ h => by cases d <;> exact h) (yields_loadE (ty := 140) rfl rfl rfl (HLP.out)) HS.out ?_; (intro K' hK'; go_simp; refine hK' _ ?_; clear hK' K')
        refine LeftL.one 2 rfl (by kernel_rfl) ?_
        go_wp2_with fail
        refine (CM2.out _).mono ?_; rintro e y1 ⟨rfl, hf1⟩
        have hS1 := HS.out.call hf1 HS.out.size (by simp)
        clear hf1 HS
        have HS := Lib.hid hS1
        clear hS1
        go_wp2_with fail
        first | refine ⟨fun _ => HS.out, ?_⟩ | refine ⟨HS.out, ?_⟩
        refine LeftL.one 3 rfl (by kernel_rfl) ?_
        go_wp2_with fail
        refine (CPL.out _).mono ?_; rintro e y2 ⟨rfl, hf1⟩
        have hS1 := HS.out.call hf1 HS.out.size (by simp)
        clear hf1 HS
        have HS := Lib.hid hS1
        clear hS1
        go_wp2_with fail
        first | refine ⟨fun _ => HS.out, ?_⟩ | refine ⟨HS.out, ?_⟩
        refine LeftL.one 4 rfl (by kernel_rfl) ?_
        have k15 := HS.out.blk K15.out K15.out.lt (by simp)
        have hf := HF.out.call HS.out HF.out.size (by simp)
        refine wpList_storeB (P := Tryd.prog) (ty := 140) (cs := wideC (T + -d)) rfl rfl k15 rfl rfl rfl info140 (wideC_one _) ?_
        refine wpList_nil ?_
        have k16 := k15.row (wideC (T + -d))
        have hf2 := hf.setRow (g := g2) (.inr HLG.out) (wideC (T + -d)).toArray
        generalize World.setRow _ g2 (wideC (T + -d)).toArray = V4 at k16 hf2 ⊢
        clear k15 hf HS HF K15 KP HL15 HLP
        obtain ⟨z, hz⟩ : ∃ z, z = hiW (T + -d) := ⟨_, rfl⟩
        have b0 : V4.cell? ⟨g2, 0, none⟩ = some (.int .i64 z) := by rw [hz]; exact k16.cell 0
        have hfin : decide (0 ≤ z) = decide (m ≤ stabZ h (tasL i L)) := by rw [hz]; exact decide_eq_decide.2 HRES.out
        clear k16 hz
        have HF := Lib.hid hf2
        have HFIN := Lib.hid hfin
        clear hfin hf2
        refine ⟨fun h => absurd rfl h, ?_⟩
        refine LeftL.done (by kernel_rfl) ?_
        go_wp2_with fail
        go_ret
        exact ⟨by rw [HFIN.out]; rfl, HF.out⟩
    have hin' : (i : Int) < (n : Int) := by omega
    obtain ⟨w4, w5⟩ := wrapUp hin hlen
    have hms := meas_up hin
    have had := HR.out.ad (by omega)
    subst had
    have hlo : (loadVar 49 ⟨b, off + i * 4, none⟩).run Tryd.prog wr = .ok (.agg (L i).cells.toArray) wr := (HR.out.frm hf (Nat.le_refl _)).load (P := Tryd.prog) Tryd.underlying49 rfl hin info49
    have htk := HL.out i hin
    have hst2 := stAt_succ HH.out HL.out hin HN.out hst
    obtain ⟨t, ht⟩ : ∃ t, t = L i := ⟨_, rfl⟩
    rw [← ht] at hlo htk hst2
    have hvol := t.vol_in htk
    have hdown := t.down_in htk
    obtain ⟨tk1, tk2, tk3, tk4⟩ := htk
    obtain ⟨a1, ha1⟩ : ∃ z, z = t.long * t.wide := ⟨_, rfl⟩
    have ha1b := mul_in tk1 tk2
    rw [← ha1] at ha1b
    obtain ⟨a2, ha2⟩ : ∃ z, z = a1 * t.deep := ⟨_, rfl⟩
    have ha2v : a2 = t.vol := by rw [ha2, ha1]; rfl
    have ha2b := hvol
    rw [← ha2v] at ha2b
    obtain ⟨a3, ha3⟩ : ∃ z, z = a1 * t.wide := ⟨_, rfl⟩
    have ha3b := mul_in ha1b tk2
    rw [← ha3] at ha3b
    obtain ⟨a4, ha4⟩ : ∃ z, z = a3 * t.wide := ⟨_, rfl⟩
    have ha4b := mul_in ha3b tk2
    rw [← ha4] at ha4b
    obtain ⟨a5, ha5⟩ : ∃ z, z = 12 * t.floor := ⟨_, rfl⟩
    obtain ⟨a6, ha6⟩ : ∃ z, z = 6 * t.deep := ⟨_, rfl⟩
    obtain ⟨a7, ha7⟩ : ∃ z, z = a5 + a6 := ⟨_, rfl⟩
    obtain ⟨a8, ha8⟩ : ∃ z, z = a2 * a7 := ⟨_, rfl⟩
    have ha8b := mul_in ha2b (b := a7) (n := 180000) (by omega)
    rw [← ha8] at ha8b
    have hdn : t.down = a8 + a4 := by unfold Ta.down; rw [ha8, ha4, ha3, ha1, ha7, ha5, ha6, ha2v]
    rw [hdn] at hst2 hdown
    rw [← ha2v] at hst2
    have hv1 := hst.v1
    have hv2 := hst.v2
    have hd1 := hst.d1
    have hd2 := hst.d2
    have r1 : IntKind.i64.wrap (t.long * t.wide) = a1 := by rw [← ha1]; exact IntWalk.i64_in _ (by omega)
    have r2 : IntKind.i64.wrap (a1 * t.deep) = a2 := by rw [← ha2]; exact IntWalk.i64_in _ (by omega)
    have r3 : IntKind.i64.wrap (a1 * t.wide) = a3 := by rw [← ha3]; exact IntWalk.i64_in _ (by omega)
    have r4 : IntKind.i64.wrap (a3 * t.wide) = a4 := by rw [← ha4]; exact IntWalk.i64_in _ (by omega)
    have r5 : IntKind.i64.wrap (12 * t.floor) = a5 := by rw [← ha5]; exact IntWalk.i64_in _ (by omega)
    have r6 : IntKind.i64.wrap (6 * t.deep) = a6 := by rw [← ha6]; exact IntWalk.i64_in _ (by omega)
    have r7 : IntKind.i64.wrap (a5 + a6) = a7 := by rw [← ha7]; exact IntWalk.i64_in _ (by omega)
    have r8 : IntKind.i64.wrap (v + a2) = v + a2 := IntWalk.i64_in _ (by omega)
    have t1 : wrap64 (t.long * t.wide) = a1 := by rw [← ha1]; exact IntWalk.wrap64_in _ (by omega)
    have t2 : wrap64 (a1 * t.deep) = a2 := by rw [← ha2]; exact IntWalk.wrap64_in _ (by omega)
    have t3 : wrap64 (a1 * t.wide) = a3 := by rw [← ha3]; exact IntWalk.wrap64_in _ (by omega)
    have t4 : wrap64 (a3 * t.wide) = a4 := by rw [← ha4]; exact IntWalk.wrap64_in _ (by omega)
    have t5 : wrap64 (12 * t.floor) = a5 := by rw [← ha5]; exact IntWalk.wrap64_in _ (by omega)
    have t6 : wrap64 (6 * t.deep) = a6 := by rw [← ha6]; exact IntWalk.wrap64_in _ (by omega)
    have t7 : wrap64 (a5 + a6) = a7 := by rw [← ha7]; exact IntWalk.wrap64_in _ (by omega)
    have t8 : wrap64 (v + a2) = v + a2 := IntWalk.wrap64_in _ (by omega)
    have co1 : ∀ V, Calls Tryd.prog 93 #[.int .i64 a2] V fun e w' => e = .returned (.agg (wideC a2).toArray) ∧ Frm V.heap.size [] V w' := fun V => of_any a2 V (by omega) (by omega)
    have ct1 : ∀ V, Calls Tryd.prog 92 #[.agg (wideC a2).toArray, .int .i64 a7] V fun e w' => e = .returned (.agg (wideC a8).toArray) ∧ Frm V.heap.size [] V w' := fun V => times_int a2 a7 a8 V ha8.symm (by omega) (by omega) (by omega) (by omega)
    have cp1 : ∀ V, Calls Tryd.prog 94 #[.agg (wideC d).toArray, .agg (wideC a8).toArray] V fun e w' => e = .returned (.agg (wideC (d + a8)).toArray) ∧ Frm V.heap.size [] V w' := fun V => plus_any d a8 V (by unfold In126; omega) (by unfold In126; omega)
    have co2 : ∀ V, Calls Tryd.prog 93 #[.int .i64 a4] V fun e w' => e = .returned (.agg (wideC a4).toArray) ∧ Frm V.heap.size [] V w' := fun V => of_any a4 V (by omega) (by omega)
    have cp2 : ∀ V, Calls Tryd.prog 94 #[.agg (wideC (d + a8)).toArray, .agg (wideC a4).toArray] V fun e w' => e = .returned (.agg (wideC (d + (a8 + a4))).toArray) ∧ Frm V.heap.size [] V w' := fun V => by
      have := plus_any (d + a8) a4 V (by unfold In126; omega) (by unfold In126; omega)
      rw [Int.add_assoc] at this
      exact this
    clear ha1 ha1b ha2 ha2v ha2b ha3 ha3b ha4 ha4b ha5 ha6 ha7 ha8 ha8b hdn hv1 hv2 hd1 hd2 hvol hdown tk1 tk2 tk3 tk4 hst ht
    have K0 := Lib.hid k0
    have KP := Lib.hid kp
    have HF := Lib.hid hf
    have HLO := Lib.hid hlo
    have HST2 := Lib.hid hst2
    have CO1 := Lib.hid co1
    have CT1 := Lib.hid ct1
    have CP1 := Lib.hid cp1
    have CO2 := Lib.hid co2
    have CP2 := Lib.hid cp2
    have HMS := Lib.hid hms
    have HIN := Lib.hid hin
    clear hin hms cp2 co2 cp1 ct1 co1 hst2 hlo hf kp k0
    go_wp2_with (first | (with_reducible refine atLoad 49 rfl ?_; refine wpList_loadE rfl rfl rfl HLO.out ?_) | (with_reducible refine atStore 49 rfl ?_; refine stop_ ?_))
    refine go_on ?_
    refine wpList_storeNew (P := Tryd.prog) (cs := t.cells) rfl rfl rfl rfl rfl info49 (by simp [Ta.cells, Value.oneCell']) ?_
    intro V1 hf1 kt _
    obtain ⟨g, hg⟩ : ∃ g, g = wr.heap.size := ⟨_, rfl⟩
    rw [← hg] at kt ⊢
    have k0 := hf1.blk K0.out K0.out.lt (by simp)
    have kp := hf1.blk KP.out KP.out.lt (by simp)
    have hf := HF.out.call hf1 HF.out.size (by simp)
    have hgp : g ≠ p := by have := KP.out.lt; omega
    dsimp only [Act.put]
    have b0 : V1.cell? ⟨g, 0, none⟩ = some (.int .i64 t.long) := kt.cell 0
    have b1 : V1.cell? ⟨g, 1, none⟩ = some (.int .i64 t.wide) := kt.cell 1
    have b2 : V1.cell? ⟨g, 2, none⟩ = some (.int .i64 t.deep) := kt.cell 2
    clear hf1 hg K0 KP HF HLO
    have K0 := Lib.hid k0
    have KP := Lib.hid kp
    have HF := Lib.hid hf
    have KT := Lib.hid kt
    have HGP := Lib.hid hgp
    clear hgp kt hf kp k0
    go_upto_region 10 with fail
    clear b0 b1 b2
    have hfx : ∀ V, Frm V1.heap.size [] V1 V → V.cell? ⟨g, 2, none⟩ = some (.int .i64 t.deep) ∧ V.cell? ⟨g, 3, none⟩ = some (.int .i64 t.floor) := fun V hV => ⟨(hV.blk KT.out KT.out.lt (by simp)).cell 2, (hV.blk KT.out KT.out.lt (by simp)).cell 3⟩
    have hlp : ∀ V, Frm V1.heap.size [] V1 V → (loadVar 140 ⟨p, 0, none⟩).run Tryd.prog V = .ok (.agg (wideC d).toArray) V := fun V hV => load_wide (hV.blk KP.out KP.out.lt (by simp))
    have HFX := Lib.hid hfx
    have HLP := Lib.hid hlp
    clear hlp hfx
    refine wp_region_leftL (fun V => Frm V1.heap.size [] V1 V) 12 (by kernel_rfl) ?_
    have hS : Frm V1.heap.size [] V1 V1.drew := (Frm.refl _ _ V1).drew
    have HS := Lib.hid hS
    clear hS
    refine LeftL.take 0 rfl (by kernel_rfl) (fun _ _ d _ _ h => by cases d <;> exact h) (yields_loadE (ty := 140) rfl rfl rfl (HLP.out)) HS.out ?_; (intro K' hK'; go_simp; refine hK' _ ?_; clear hK' K')
    first | ((first | refine LeftL.tkF (v := ?_) 1 rfl HS.out ?_ ?_ | refine LeftL.tkG (v := ?_) 1 rfl HS.out ?_ ?_); rotate_left; (· intro V hV; obtain ⟨z1, z2⟩ := HFX.out V hV; clear hV; go_simp; rfl)) | refine LeftL.tkN 1 rfl HS.out ?_
    (intro K' hK'; go_simp; refine hK' _ ?_; clear hK' K')
    first | ((first | refine LeftL.tkF (v := ?_) 3 rfl HS.out ?_ ?_ | refine LeftL.tkG (v := ?_) 3 rfl HS.out ?_ ?_); rotate_left; (· intro V hV; obtain ⟨z1, z2⟩ := HFX.out V hV; clear hV; go_simp; rfl)) | refine LeftL.tkN 3 rfl HS.out ?_
    (intro K' hK'; go_simp; refine hK' _ ?_; clear hK' K')
    first | ((first | refine LeftL.tkF (v := ?_) 4 rfl HS.out ?_ ?_ | refine LeftL.tkG (v := ?_) 4 rfl HS.out ?_ ?_); rotate_left; (· intro V hV; obtain ⟨z1, z2⟩ := HFX.out V hV; clear hV; go_simp; rfl)) | refine LeftL.tkN 4 rfl HS.out ?_
    (intro K' hK'; go_simp; refine hK' _ ?_; clear hK' K')
    first | ((first | refine LeftL.tkF (v := ?_) 5 rfl HS.out ?_ ?_ | refine LeftL.tkG (v := ?_) 5 rfl HS.out ?_ ?_); rotate_left; (· intro V hV; obtain ⟨z1, z2⟩ := HFX.out V hV; clear hV; go_simp; rfl)) | refine LeftL.tkN 5 rfl HS.out ?_
    (intro K' hK'; go_simp; refine hK' _ ?_; clear hK' K')
    first | ((first | refine LeftL.tkF (v := ?_) 6 rfl HS.out ?_ ?_ | refine LeftL.tkG (v := ?_) 6 rfl HS.out ?_ ?_); rotate_left; (· intro V hV; obtain ⟨z1, z2⟩ := HFX.out V hV; clear hV; go_simp; rfl)) | refine LeftL.tkN 6 rfl HS.out ?_
    (intro K' hK'; go_simp; refine hK' _ ?_; clear hK' K')
    first | ((first | refine LeftL.tkF (v := ?_) 7 rfl HS.out ?_ ?_ | refine LeftL.tkG (v := ?_) 7 rfl HS.out ?_ ?_); rotate_left; (· intro V hV; obtain ⟨z1, z2⟩ := HFX.out V hV; clear hV; go_simp; rfl)) | refine LeftL.tkN 7 rfl HS.out ?_
    (intro K' hK'; go_simp; refine hK' _ ?_; clear hK' K')
    first | ((first | refine LeftL.tkF (v := ?_) 8 rfl HS.out ?_ ?_ | refine LeftL.tkG (v := ?_) 8 rfl HS.out ?_ ?_); rotate_left; (· intro V hV; obtain ⟨z1, z2⟩ := HFX.out V hV; clear hV; go_simp; rfl)) | refine LeftL.tkN 8 rfl HS.out ?_
    (intro K' hK'; go_simp; refine hK' _ ?_; clear hK' K')
    first | ((first | refine LeftL.tkF (v := ?_) 9 rfl HS.out ?_ ?_ | refine LeftL.tkG (v := ?_) 9 rfl HS.out ?_ ?_); rotate_left; (· intro V hV; obtain ⟨z1, z2⟩ := HFX.out V hV; clear hV; go_simp; rfl)) | refine LeftL.tkN 9 rfl HS.out ?_
    (intro K' hK'; go_simp; refine hK' _ ?_; clear hK' K')
    refine LeftL.one 2 rfl (by kernel_rfl) ?_
    go_wp2_with fail
    refine (CO1.out _).mono ?_; rintro e x6 ⟨rfl, hf1⟩
    have hS1 := HS.out.call hf1 HS.out.size (by simp)
    clear hf1 HS 
    have HS := Lib.hid hS1
    clear hS1
    go_wp2_with fail
    first | refine ⟨fun _ => HS.out, ?_⟩ | refine ⟨HS.out, ?_⟩
    refine LeftL.one 10 rfl (by kernel_rfl) ?_
    go_wp2_with fail
    refine (CT1.out _).mono ?_; rintro e x7 ⟨rfl, hf1⟩
    have hS1 := HS.out.call hf1 HS.out.size (by simp)
    clear hf1 HS 
    have HS := Lib.hid hS1
    clear hS1
    go_wp2_with fail
    first | refine ⟨fun _ => HS.out, ?_⟩ | refine ⟨HS.out, ?_⟩
    refine LeftL.one 11 rfl (by kernel_rfl) ?_
    go_wp2_with fail
    refine (CP1.out _).mono ?_; rintro e x8 ⟨rfl, hf1⟩
    have hS1 := HS.out.call hf1 HS.out.size (by simp)
    clear hf1 HS 
    have HS := Lib.hid hS1
    clear hS1
    go_wp2_with fail
    first | refine ⟨fun _ => HS.out, ?_⟩ | refine ⟨HS.out, ?_⟩
    refine LeftL.one 12 rfl (by kernel_rfl) ?_
    have kp := HS.out.blk KP.out KP.out.lt (by simp)
    have k0 := HS.out.blk K0.out K0.out.lt (by simp)
    have kt := HS.out.blk KT.out KT.out.lt (by simp)
    have hf := HF.out.call HS.out HF.out.size (by simp)
    clear HS HFX HLP KP K0 KT HF
    have KP := Lib.hid kp
    have K0 := Lib.hid k0
    have KT := Lib.hid kt
    have HF := Lib.hid hf
    clear hf kt k0 kp
    refine wpList_storeB (P := Tryd.prog) (ty := 140) (cs := wideC (d + a8)) rfl rfl KP.out rfl rfl rfl info140 (wideC_one _) ?_
    refine wpList_nil ?_
    have kp := KP.out.row (wideC (d + a8))
    have k0 := K0.out.row_other (g := p) (wideC (d + a8)).toArray HPC.out
    have kt := KT.out.row_other (g := p) (wideC (d + a8)).toArray HGP.out.symm
    have hf := HF.out.setRow (g := p) (.inr HPW.out) (wideC (d + a8)).toArray
    generalize World.setRow _ p (wideC (d + a8)).toArray = V2 at kp k0 kt hf ⊢
    clear KP K0 KT HF
    have KP := Lib.hid kp
    have K0 := Lib.hid k0
    have KT := Lib.hid kt
    have HF := Lib.hid hf
    clear hf kt k0 kp
    refine ⟨fun h => absurd rfl h, ?_⟩
    refine LeftL.done (by kernel_rfl) ?_
    go_upto_region 11 with fail
    have hfx : ∀ V, Frm V2.heap.size [] V2 V → V.cell? ⟨g, 0, none⟩ = some (.int .i64 t.long) ∧ V.cell? ⟨g, 1, none⟩ = some (.int .i64 t.wide) := fun V hV => ⟨(hV.blk KT.out KT.out.lt (by simp)).cell 0, (hV.blk KT.out KT.out.lt (by simp)).cell 1⟩
    have hlp : ∀ V, Frm V2.heap.size [] V2 V → (loadVar 140 ⟨p, 0, none⟩).run Tryd.prog V = .ok (.agg (wideC (d + a8)).toArray) V := fun V hV => load_wide (hV.blk KP.out KP.out.lt (by simp))
    have HFX := Lib.hid hfx
    have HLP := Lib.hid hlp
    clear hlp hfx
    refine wp_region_leftL (fun V => Frm V2.heap.size [] V2 V) 14 (by kernel_rfl) ?_
    have hS : Frm V2.heap.size [] V2 V2.drew := (Frm.refl _ _ V2).drew
    have HS := Lib.hid hS
    clear hS
    refine LeftL.take 0 rfl (by kernel_rfl) (fun _ _ d _ _ h => by cases d <;> exact h) (yields_loadE (ty := 140) rfl rfl rfl (HLP.out)) HS.out ?_; (intro K' hK'; go_simp; refine hK' _ ?_; clear hK' K')
    first | ((first | refine LeftL.tkF (v := ?_) 1 rfl HS.out ?_ ?_ | refine LeftL.tkG (v := ?_) 1 rfl HS.out ?_ ?_); rotate_left; (· intro V hV; obtain ⟨z1, z2⟩ := HFX.out V hV; clear hV; go_simp; rfl)) | refine LeftL.tkN 1 rfl HS.out ?_
    (intro K' hK'; go_simp; refine hK' _ ?_; clear hK' K')
    first | ((first | refine LeftL.tkF (v := ?_) 2 rfl HS.out ?_ ?_ | refine LeftL.tkG (v := ?_) 2 rfl HS.out ?_ ?_); rotate_left; (· intro V hV; obtain ⟨z1, z2⟩ := HFX.out V hV; clear hV; go_simp; rfl)) | refine LeftL.tkN 2 rfl HS.out ?_
    (intro K' hK'; go_simp; refine hK' _ ?_; clear hK' K')
    first | ((first | refine LeftL.tkF (v := ?_) 3 rfl HS.out ?_ ?_ | refine LeftL.tkG (v := ?_) 3 rfl HS.out ?_ ?_); rotate_left; (· intro V hV; obtain ⟨z1, z2⟩ := HFX.out V hV; clear hV; go_simp; rfl)) | refine LeftL.tkN 3 rfl HS.out ?_
    (intro K' hK'; go_simp; refine hK' _ ?_; clear hK' K')
    first | ((first | refine LeftL.tkF (v := ?_) 4 rfl HS.out ?_ ?_ | refine LeftL.tkG (v := ?_) 4 rfl HS.out ?_ ?_); rotate_left; (· intro V hV; obtain ⟨z1, z2⟩ := HFX.out V hV; clear hV; go_simp; rfl)) | refine LeftL.tkN 4 rfl HS.out ?_
    (intro K' hK'; go_simp; refine hK' _ ?_; clear hK' K')
    first | ((first | refine LeftL.tkF (v := ?_) 5 rfl HS.out ?_ ?_ | refine LeftL.tkG (v := ?_) 5 rfl HS.out ?_ ?_); rotate_left; (· intro V hV; obtain ⟨z1, z2⟩ := HFX.out V hV; clear hV; go_simp; rfl)) | refine LeftL.tkN 5 rfl HS.out ?_
    (intro K' hK'; go_simp; refine hK' _ ?_; clear hK' K')
    first | ((first | refine LeftL.tkF (v := ?_) 6 rfl HS.out ?_ ?_ | refine LeftL.tkG (v := ?_) 6 rfl HS.out ?_ ?_); rotate_left; (· intro V hV; obtain ⟨z1, z2⟩ := HFX.out V hV; clear hV; go_simp; rfl)) | refine LeftL.tkN 6 rfl HS.out ?_
    (intro K' hK'; go_simp; refine hK' _ ?_; clear hK' K')
    first | ((first | refine LeftL.tkF (v := ?_) 7 rfl HS.out ?_ ?_ | refine LeftL.tkG (v := ?_) 7 rfl HS.out ?_ ?_); rotate_left; (· intro V hV; obtain ⟨z1, z2⟩ := HFX.out V hV; clear hV; go_simp; rfl)) | refine LeftL.tkN 7 rfl HS.out ?_
    (intro K' hK'; go_simp; refine hK' _ ?_; clear hK' K')
    first | ((first | refine LeftL.tkF (v := ?_) 8 rfl HS.out ?_ ?_ | refine LeftL.tkG (v := ?_) 8 rfl HS.out ?_ ?_); rotate_left; (· intro V hV; obtain ⟨z1, z2⟩ := HFX.out V hV; clear hV; go_simp; rfl)) | refine LeftL.tkN 8 rfl HS.out ?_
    (intro K' hK'; go_simp; refine hK' _ ?_; clear hK' K')
    first | ((first | refine LeftL.tkF (v := ?_) 9 rfl HS.out ?_ ?_ | refine LeftL.tkG (v := ?_) 9 rfl HS.out ?_ ?_); rotate_left; (· intro V hV; obtain ⟨z1, z2⟩ := HFX.out V hV; clear hV; go_simp; rfl)) | refine LeftL.tkN 9 rfl HS.out ?_
    (intro K' hK'; go_simp; refine hK' _ ?_; clear hK' K')
    first | ((first | refine LeftL.tkF (v := ?_) 10 rfl HS.out ?_ ?_ | refine LeftL.tkG (v := ?_) 10 rfl HS.out ?_ ?_); rotate_left; (· intro V hV; obtain ⟨z1, z2⟩ := HFX.out V hV; clear hV; go_simp; rfl)) | refine LeftL.tkN 10 rfl HS.out ?_
    (intro K' hK'; go_simp; refine hK' _ ?_; clear hK' K')
    first | ((first | refine LeftL.tkF (v := ?_) 11 rfl HS.out ?_ ?_ | refine LeftL.tkG (v := ?_) 11 rfl HS.out ?_ ?_); rotate_left; (· intro V hV; obtain ⟨z1, z2⟩ := HFX.out V hV; clear hV; go_simp; rfl)) | refine LeftL.tkN 11 rfl HS.out ?_
    (intro K' hK'; go_simp; refine hK' _ ?_; clear hK' K')
    refine LeftL.one 12 rfl (by kernel_rfl) ?_
    go_wp2_with fail
    refine (CO2.out _).mono ?_; rintro e x9 ⟨rfl, hf1⟩
    have hS1 := HS.out.call hf1 HS.out.size (by simp)
    clear hf1 HS 
    have HS := Lib.hid hS1
    clear hS1
    go_wp2_with fail
    first | refine ⟨fun _ => HS.out, ?_⟩ | refine ⟨HS.out, ?_⟩
    refine LeftL.one 13 rfl (by kernel_rfl) ?_
    go_wp2_with fail
    refine (CP2.out _).mono ?_; rintro e x10 ⟨rfl, hf1⟩
    have hS1 := HS.out.call hf1 HS.out.size (by simp)
    clear hf1 HS 
    have HS := Lib.hid hS1
    clear hS1
    go_wp2_with fail
    first | refine ⟨fun _ => HS.out, ?_⟩ | refine ⟨HS.out, ?_⟩
    refine LeftL.one 14 rfl (by kernel_rfl) ?_
    have kp := HS.out.blk KP.out KP.out.lt (by simp)
    have k0 := HS.out.blk K0.out K0.out.lt (by simp)
    have hf := HF.out.call HS.out HF.out.size (by simp)
    clear HS HFX HLP KP K0 HF
    have KP := Lib.hid kp
    have K0 := Lib.hid k0
    have HF := Lib.hid hf
    clear hf k0 kp
    refine wpList_storeB (P := Tryd.prog) (ty := 140) (cs := wideC (d + (a8 + a4))) rfl rfl KP.out rfl rfl rfl info140 (wideC_one _) ?_
    refine wpList_nil ?_
    have kp := KP.out.row (wideC (d + (a8 + a4)))
    have k0 := K0.out.row_other (g := p) (wideC (d + (a8 + a4))).toArray HPC.out
    have hf := HF.out.setRow (g := p) (.inr HPW.out) (wideC (d + (a8 + a4))).toArray
    generalize World.setRow _ p (wideC (d + (a8 + a4))).toArray = V3 at kp k0 hf ⊢
    clear KP K0 HF
    have KP := Lib.hid kp
    have K0 := Lib.hid k0
    have HF := Lib.hid hf
    clear hf k0 kp
    refine ⟨fun h => absurd rfl h, ?_⟩
    refine LeftL.done (by kernel_rfl) ?_
    go_wp2_with fail
    (try simp only [w4, w5])
    exact ⟨⟨i + 1, v + a2, d + (a8 + a4), by simp, HIN.out, rfl, HST2.out, K0.out, KP.out, HF.out⟩, HMS.out⟩
end Go.Proofs.YtfmigicmfolbjaaDoor
