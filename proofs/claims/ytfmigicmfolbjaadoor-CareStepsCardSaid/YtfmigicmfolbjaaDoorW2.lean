/-
  The product of 128 bits.
-/
import Derived.Test.YtfmigicmfolbjaaDoorW1
namespace Go.Proofs.YtfmigicmfolbjaaDoor
set_option linter.all false
set_option linter.unusedSimpArgs false
set_option linter.unusedVariables false
open Go.RowKit

theorem times_step {a o P : Int} {m : Nat} (h : o + a * m = P) (ha : 0 ≤ a) (ho : 0 ≤ o) (hm : 0 < m) (hP : P < 42535295865117307932921825928971026432) :
    In126 a ∧ In126 o ∧ (m % 2 = 1 → (o + a) + (a + a) * ((m / 2 : Nat) : Int) = P) ∧ (m % 2 = 0 → o + (a + a) * ((m / 2 : Nat) : Int) = P) := by
  have h1 : a * 1 ≤ a * m := Int.mul_le_mul_of_nonneg_left (by omega) ha
  have h2 : (m : Int) = 2 * ((m / 2 : Nat) : Int) + ((m % 2 : Nat) : Int) := by omega
  refine ⟨by unfold In126; omega, by unfold In126; omega, fun e => ?_, fun e => ?_⟩
  · rw [e] at h2
    rw [h2] at h
    rw [← h]
    grind
  · rw [e] at h2
    rw [h2] at h
    rw [← h]
    grind
theorem rem2 (m : Nat) : Int.tmod (m : Int) 2 = ((m % 2 : Nat) : Int) := by
  rw [Int.tmod_eq_emod_of_nonneg (by omega)]; rfl
theorem quo2 (m : Nat) : Int.tdiv (m : Int) 2 = ((m / 2 : Nat) : Int) := by
  rw [Int.tdiv_eq_ediv_of_nonneg (by omega)]; rfl
theorem load_wide {w : World} {b : Nat} {x : Int} (h : Blk w b 140 (wideC x)) : (loadVar 140 ⟨b, 0, none⟩).run Tryd.prog w = .ok (.agg (wideC x).toArray) w :=
  loadVarB h (P := Tryd.prog) Tryd.underlying140 rfl info140
set_option maxRecDepth 100000 in
set_option maxHeartbeats 4000000 in
theorem times_any (x : Int) (n : Nat) (P : Int) (w : World) (hP : x * n = P) (hx : 0 ≤ x) (hP1 : P < 42535295865117307932921825928971026432) (hn : n < 9223372036854775808) :
    Calls Tryd.prog 92 #[.agg (wideC x).toArray, .int .i64 (n : Int)] w fun e w' => e = .returned (.agg (wideC P).toArray) ∧ Frm w.heap.size [] w w' := by
  have hf0 := Tryd.func92
  have HP := Lib.hid hP
  have HX := Lib.hid hx
  have HP1 := Lib.hid hP1
  clear hP1 hx hP
  go_enter Tryd.func92, Tryd.ntmps92
  go_upto_region 1 with fail
  refine namedC ?_; intro W hW
  obtain ⟨c, hc⟩ : ∃ c, c = w.heap.size := ⟨_, rfl⟩
  obtain ⟨r4, hr4⟩ : ∃ c, c = w.heap.size + 1 := ⟨_, rfl⟩
  have k2 : Blk W c 140 (wideC x) := by rw [hW, hc]; refine Blk.alloc' ?_; exact Blk.new w 140 (wideC x)
  have k4 : Blk W r4 140 [.int .i64 0, .int .u64 0] := by rw [hW, hr4]; exact Blk.new' _ 140 [.int .i64 0, .int .u64 0] (by simp)
  have hf : Frm w.heap.size [] w W := by rw [hW]; repeat (first | with_reducible exact Frm.refl _ _ _ | with_reducible refine Frm.drewN ?_ | with_reducible refine Frm.drew ?_ | ((with_reducible refine Frm.setCell' ?_ ?_); · first | (left; simp; done) | (right; simp; done) | (right; simp; omega)) | ((with_reducible refine Frm.alloc' ?_ ?_); · first | exact Nat.le_refl _ | (simp; done) | (simp; omega)))
  have hcw : w.heap.size ≤ c := by omega
  have h4w : w.heap.size ≤ r4 := by omega
  have n24 : c ≠ r4 := by omega
  clear hW hf0
  rw [← hr4, ← hc]
  clear hc hr4
  have K2 := Lib.hid k2
  have K4 := Lib.hid k4
  have HF := Lib.hid hf
  have HCW := Lib.hid hcw
  have H4W := Lib.hid h4w
  have N24 := Lib.hid n24
  clear n24 h4w hcw hf k4 k2
  go_wp2_with (with_reducible refine atStore 140 rfl ?_; refine stop_ ?_)
  refine go_on ?_
  refine wpList_storeNew (P := Tryd.prog) (cs := wideC 0) rfl rfl rfl rfl rfl info140 (wideC_one 0) ?_
  intro W1 hf1 k5 _
  obtain ⟨r5, hr5⟩ : ∃ c, c = W.heap.size := ⟨_, rfl⟩
  have h5w : w.heap.size ≤ r5 := by have := HF.out.size; omega
  have n25 : c ≠ r5 := by have := K2.out.lt; omega
  have n45 : r4 ≠ r5 := by have := K4.out.lt; omega
  rw [← hr5] at k5 ⊢
  have k2 := hf1.blk K2.out K2.out.lt (by simp)
  have k4 := hf1.blk K4.out K4.out.lt (by simp)
  have hf := HF.out.call hf1 HF.out.size (by simp)
  dsimp only [Act.put]
  clear hf1 hr5 K2 K4 HF
  have K2 := Lib.hid k2
  have K4 := Lib.hid k4
  have K5 := Lib.hid k5
  have HF := Lib.hid hf
  have H5W := Lib.hid h5w
  have N25 := Lib.hid n25
  have N45 := Lib.hid n45
  clear n45 n25 h5w hf k5 k4 k2
  go_wp2_with fail
  go_loopw [1] (fun s1 wr => ∃ (m : Nat) (a o : Int), s1 = .int .i64 m ∧ m ≤ n ∧ o + a * m = P ∧ 0 ≤ a ∧ 0 ≤ o ∧ Blk wr c 140 (wideC a) ∧ Blk wr r4 140 [.int .i64 0, .int .u64 0] ∧ Blk wr r5 140 (wideC o) ∧ Frm w.heap.size [] w wr) (fun s1 _ => (intOf s1).toNat)
  case atStart => exact ⟨n, x, 0, rfl, Nat.le_refl _, by rw [HP.out.symm]; omega, HX.out, Int.le_refl _, K2.out, K4.out, K5.out, HF.out⟩
  case round =>
    clear K2 K4 K5 HF
    obtain ⟨m, a, o, rfl, hmn, hinv, ha, ho, k2, k4, k5, hf⟩ := hrel
    by_cases hm : 0 < m
    rotate_left
    · have hm' : ¬ (0 : Int) < (m : Int) := by omega
      obtain rfl : m = 0 := by omega
      have ho : o = P := by rw [← hinv]; simp
      subst ho
      clear k2 hinv
      have K4 := Lib.hid k4
      have K5 := Lib.hid k5
      have HF := Lib.hid hf
      clear hf k5 k4
      go_wp2_with (first | (with_reducible refine atLoad 140 rfl ?_; refine wpList_loadE rfl rfl rfl (load_wide K5.out) ?_) | (with_reducible refine atStore 140 rfl ?_; refine stop_ ?_))
      refine go_on ?_
      refine wpList_storeB (P := Tryd.prog) (ty := 140) (cs := wideC o) rfl rfl K4.out rfl rfl rfl info140 (wideC_one _) ?_
      have hz := K4.out.row (wideC o)
      have hfz := HF.out.setRow (g := r4) (.inr H4W.out) (wideC o).toArray
      have HZ := Lib.hid hz
      have HFZ := Lib.hid hfz
      clear hfz hz
      go_wp2_with fail
      refine bodyPost_ret (results_c Tryd.results92 HZ.out rfl Tryd.underlying140 rfl info140) rfl ?_
      exact ⟨rfl, HFZ.out⟩
    have hm' : (0 : Int) < (m : Int) := by omega
    obtain ⟨ia, io, s1, s0⟩ := times_step hinv ha ho hm HP1.out
    have q1 := rem2 m
    have q2 := quo2 m
    have q3 : IntKind.i64.wrap ((m / 2 : Nat) : Int) = ((m / 2 : Nat) : Int) := IntWalk.i64_in _ (by omega)
    have q4 : IntKind.i64.wrap ((m % 2 : Nat) : Int) = ((m % 2 : Nat) : Int) := IntWalk.i64_in _ (by omega)
    have hms : (m / 2 : Nat) < m := by omega
    have hmn2 : m / 2 ≤ n := by omega
    have hpa : ∀ V, Calls Tryd.prog 94 #[.agg (wideC a).toArray, .agg (wideC a).toArray] V fun e w' => e = .returned (.agg (wideC (a + a)).toArray) ∧ Frm V.heap.size [] V w' := fun V => plus_any a a V ia ia
    have hpo : ∀ V, Calls Tryd.prog 94 #[.agg (wideC o).toArray, .agg (wideC a).toArray] V fun e w' => e = .returned (.agg (wideC (o + a)).toArray) ∧ Frm V.heap.size [] V w' := fun V => plus_any o a V io ia
    have haa : 0 ≤ a + a := by omega
    obtain ⟨m2, hm2⟩ : ∃ z, z = m / 2 := ⟨_, rfl⟩
    obtain ⟨r2, hr2⟩ : ∃ z, z = m % 2 := ⟨_, rfl⟩
    rw [← hm2] at q2 q3 s1 s0 hms hmn2
    rw [← hr2] at q1 q4 s1 s0
    clear hinv ia io hm2
    by_cases h1 : r2 = 1
    · have s2 := s1 h1
      have hoa : 0 ≤ o + a := by omega
      subst h1
      clear s1 s0 hr2
      have K2 := Lib.hid k2
      have K4 := Lib.hid k4
      have K5 := Lib.hid k5
      have HF := Lib.hid hf
      have HPA := Lib.hid hpa
      have HPO := Lib.hid hpo
      have HS2 := Lib.hid s2
      have HMS := Lib.hid hms
      have HMN2 := Lib.hid hmn2
      have HAA := Lib.hid haa
      have HOA := Lib.hid hoa
      have HO := Lib.hid ho
      have HA := Lib.hid ha
      have HM := Lib.hid hm
      have HMN := Lib.hid hmn
      clear hmn hm ha ho hoa haa hmn2 hms s2 hpo hpa hf k5 k4 k2
      go_wp2_with (first | (with_reducible refine atLoad 140 rfl ?_; first | refine wpList_loadE rfl rfl rfl (load_wide K5.out) ?_ | refine wpList_loadE rfl rfl rfl (load_wide K2.out) ?_) | (go_at_call 94; refine stop_ ?_))
      refine go_on ?_
      refine (HPO.out wr).mono ?_; rintro e w1 ⟨rfl, hf1⟩
      have k2 := hf1.blk K2.out K2.out.lt (by simp)
      have k4 := hf1.blk K4.out K4.out.lt (by simp)
      have k5 := hf1.blk K5.out K5.out.lt (by simp)
      have hf := HF.out.call hf1 HF.out.size (by simp)
      clear hf1 K2 K4 K5 HF HPO
      have K2 := Lib.hid k2
      have K4 := Lib.hid k4
      have K5 := Lib.hid k5
      have HF := Lib.hid hf
      clear hf k5 k4 k2
      go_wp2_with (with_reducible refine atStore 140 rfl ?_; refine stop_ ?_)
      refine go_on ?_
      refine wpList_storeB (P := Tryd.prog) (ty := 140) (cs := wideC (o + a)) rfl rfl K5.out rfl rfl rfl info140 (wideC_one _) ?_
      have k5 := K5.out.row (wideC (o + a))
      have k2 := K2.out.row_other (g := r5) (wideC (o + a)).toArray N25.out.symm
      have k4 := K4.out.row_other (g := r5) (wideC (o + a)).toArray N45.out.symm
      have hf := HF.out.setRow (g := r5) (.inr H5W.out) (wideC (o + a)).toArray
      generalize w1.setRow r5 (wideC (o + a)).toArray = w2 at k5 k2 k4 hf ⊢
      clear K2 K4 K5 HF
      have K2 := Lib.hid k2
      have K4 := Lib.hid k4
      have K5 := Lib.hid k5
      have HF := Lib.hid hf
      clear hf k5 k4 k2
      go_wp2_with (first | (with_reducible refine atLoad 140 rfl ?_; refine wpList_loadE rfl rfl rfl (load_wide K2.out) ?_) | (go_at_call 94; refine stop_ ?_))
      refine go_on ?_
      refine (HPA.out _).mono ?_; rintro e w3 ⟨rfl, hf1⟩
      have k2 := hf1.blk K2.out K2.out.lt (by simp)
      have k4 := hf1.blk K4.out K4.out.lt (by simp)
      have k5 := hf1.blk K5.out K5.out.lt (by simp)
      have hf := HF.out.call hf1 HF.out.size (by simp)
      clear hf1 K2 K4 K5 HF HPA
      have K2 := Lib.hid k2
      have K4 := Lib.hid k4
      have K5 := Lib.hid k5
      have HF := Lib.hid hf
      clear hf k5 k4 k2
      go_wp2_with (with_reducible refine atStore 140 rfl ?_; refine stop_ ?_)
      refine go_on ?_
      refine wpList_storeB (P := Tryd.prog) (ty := 140) (cs := wideC (a + a)) rfl rfl K2.out rfl rfl rfl info140 (wideC_one _) ?_
      have k2 := K2.out.row (wideC (a + a))
      have k5 := K5.out.row_other (g := c) (wideC (a + a)).toArray N25.out
      have k4 := K4.out.row_other (g := c) (wideC (a + a)).toArray N24.out
      have hf := HF.out.setRow (g := c) (.inr HCW.out) (wideC (a + a)).toArray
      generalize w3.setRow c (wideC (a + a)).toArray = w4 at k5 k2 k4 hf ⊢
      clear K2 K4 K5 HF
      have K2 := Lib.hid k2
      have K4 := Lib.hid k4
      have K5 := Lib.hid k5
      have HF := Lib.hid hf
      clear hf k5 k4 k2
      go_wp2_with fail
      exact ⟨⟨m2, a + a, o + a, rfl, HMN2.out, HS2.out, HAA.out, HOA.out, K2.out, K4.out, K5.out, HF.out⟩, HMS.out⟩
    · obtain rfl : r2 = 0 := by omega
      have s2 := s0 rfl
      clear s1 s0 hr2
      have HPA := Lib.hid hpa
      have HS2 := Lib.hid s2
      have HMS := Lib.hid hms
      have HMN2 := Lib.hid hmn2
      have HAA := Lib.hid haa
      have HO := Lib.hid ho
      have HA := Lib.hid ha
      have HM := Lib.hid hm
      have HMN := Lib.hid hmn
      clear hmn hm ha ho haa hmn2 hms s2 hpa
      have K2 := Lib.hid k2
      have K4 := Lib.hid k4
      have K5 := Lib.hid k5
      have HF := Lib.hid hf
      clear hf k5 k4 k2
      go_wp2_with (first | (with_reducible refine atLoad 140 rfl ?_; refine wpList_loadE rfl rfl rfl (load_wide K2.out) ?_) | (go_at_call 94; refine stop_ ?_))
      refine go_on ?_
      refine (HPA.out _).mono ?_; rintro e w3 ⟨rfl, hf1⟩
      have k2 := hf1.blk K2.out K2.out.lt (by simp)
      have k4 := hf1.blk K4.out K4.out.lt (by simp)
      have k5 := hf1.blk K5.out K5.out.lt (by simp)
      have hf := HF.out.call hf1 HF.out.size (by simp)
      clear hf1 K2 K4 K5 HF HPA
      have K2 := Lib.hid k2
      have K4 := Lib.hid k4
      have K5 := Lib.hid k5
      have HF := Lib.hid hf
      clear hf k5 k4 k2
      go_wp2_with (with_reducible refine atStore 140 rfl ?_; refine stop_ ?_)
      refine go_on ?_
      refine wpList_storeB (P := Tryd.prog) (ty := 140) (cs := wideC (a + a)) rfl rfl K2.out rfl rfl rfl info140 (wideC_one _) ?_
      have k2 := K2.out.row (wideC (a + a))
      have k5 := K5.out.row_other (g := c) (wideC (a + a)).toArray N25.out
      have k4 := K4.out.row_other (g := c) (wideC (a + a)).toArray N24.out
      have hf := HF.out.setRow (g := c) (.inr HCW.out) (wideC (a + a)).toArray
      generalize w3.setRow c (wideC (a + a)).toArray = w4 at k5 k2 k4 hf ⊢
      clear K2 K4 K5 HF
      have K2 := Lib.hid k2
      have K4 := Lib.hid k4
      have K5 := Lib.hid k5
      have HF := Lib.hid hf
      clear hf k5 k4 k2
      go_wp2_with fail
      exact ⟨⟨m2, a + a, o, rfl, HMN2.out, HS2.out, HAA.out, HO.out, K2.out, K4.out, K5.out, HF.out⟩, HMS.out⟩
end Go.Proofs.YtfmigicmfolbjaaDoor
