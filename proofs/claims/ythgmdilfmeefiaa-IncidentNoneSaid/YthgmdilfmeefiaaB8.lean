/-
  Texts J17, J18, J19, J20 of this claim, one behind the other.
-/
import Derived.Test.YthgmdilfmeefiaaB7
import Derived.WalkMore
namespace Go.Proofs.Ythgmdilfmeefiaa
set_option linter.all false
set_option linter.unusedSimpArgs false
set_option linter.unusedVariables false
open Go.RowKit

/-- The five lines, as a value. -/
def lnsC : List Value := [.int .i64 1, .func (.func 81) #[] #[], .int .i64 2, .func (.func 83) #[] #[], .int .i64 3, .func (.func 84) #[] #[], .int .i64 4, .func (.func 86) #[] #[], .int .i64 5, .func (.func 88) #[] #[]]
set_option maxRecDepth 100000 in
set_option maxHeartbeats 4000000 in
theorem lines_any (w : World) : Calls Try.prog 57 #[] w fun e w' => e = .returned (.agg lnsC.toArray) ∧ Frm w.heap.size [] w w' := by
  have hf0 := Try.func57
  have hi : (Try.prog.info? 108).map (fun i => i.size) = some 10 := by kernel_rfl
  go_enter Try.func57, Try.ntmps57
  go_wp2_with (with_reducible refine atStore 108 rfl ?_; refine stop_ ?_)
  refine go_on ?_
  refine wpList_storeNew (P := Try.prog) (cs := lnsC) rfl rfl rfl rfl rfl hi (by simp [lnsC, Value.oneCell']) ?_
  intro V hf1 b1 hz1
  have HF := Lib.hid hf1
  have B1 := Lib.hid b1
  clear b1 hf1
  go_wp2_with fail
  refine bodyPost_ret (results_c Try.results57 B1.out rfl Try.underlying108 rfl hi) rfl ?_
  exact ⟨rfl, HF.out⟩
set_option maxRecDepth 100000 in
set_option maxHeartbeats 8000000 in
theorem refCmp_any (wd dr : Int) (r1 r2 : Rep) (ad1 ad2 : Option Addr) (cap1 cap2 : Nat) (w : World) (hdr : 0 ≤ dr ∧ dr ≤ 100000) (ht1 : TimeOK r1.time) (ht2 : TimeOK r2.time) (hl1 : 1 ≤ r1.wh.length) (hl2 : 1 ≤ r2.wh.length) (ho1 : ∀ i, i < r1.wh.length → SpOK (spt r1.wh i)) (ho2 : ∀ i, i < r2.wh.length → SpOK (spt r2.wh i)) (b1 o1 b2 o2 : Nat) (hr1 : RwP w ad1 b1 o1 r1.wh.length r1.wh) (hr2 : RwP w ad2 b2 o2 r2.wh.length r2.wh) :
    Calls Try.prog 33 #[.agg (repC r1 ad1 cap1).toArray, .agg (repC r2 ad2 cap2).toArray, .int .i64 wd, .int .i64 dr] w fun e w' => e = .returned (.int .i64 (cmpZ wd dr r1 r2)) ∧ Frm w.heap.size [] w w' := by
  have hf0 := Try.func33
  obtain ⟨kind1, time1, src1, abt1, wh1, souls1, trust1⟩ := r1
  obtain ⟨kind2, time2, src2, abt2, wh2, souls2, trust2⟩ := r2
  obtain ⟨n1, hn1⟩ : ∃ n, n = wh1.length := ⟨_, rfl⟩
  obtain ⟨n2, hn2⟩ : ∃ n, n = wh2.length := ⟨_, rfl⟩
  have e1 : repC ⟨kind1, time1, src1, abt1, wh1, souls1, trust1⟩ ad1 cap1 = [.int .i64 kind1, .int .i64 time1, .string src1, .string abt1, .slice ad1 n1 cap1, .int .i64 souls1, .int .i64 trust1] := by rw [hn1]; rfl
  have e2 : repC ⟨kind2, time2, src2, abt2, wh2, souls2, trust2⟩ ad2 cap2 = [.int .i64 kind2, .int .i64 time2, .string src2, .string abt2, .slice ad2 n2 cap2, .int .i64 souls2, .int .i64 trust2] := by rw [hn2]; rfl
  rw [e1, e2]
  clear e1 e2
  dsimp only at ht1 ht2 hl1 hl2 ho1 ho2 hr1 hr2 ⊢
  rw [← hn1] at hl1 ho1 hr1
  rw [← hn2] at hl2 ho2 hr2
  obtain ⟨d, hd⟩ : ∃ d, d = distZ time1 time2 := ⟨_, rfl⟩
  have hcd : ∀ V, Calls Try.prog 61 #[.int .i64 time1, .int .i64 time2] V fun e w' => e = .returned (.int .i64 d) ∧ V = w' := fun V => by rw [hd]; exact apart_any time1 time2 ht1 ht2 V
  have hdb : 0 ≤ d ∧ d ≤ 1073741824 := by rw [hd]; unfold distZ; unfold TimeOK at ht1 ht2; omega
  obtain ⟨m, hm⟩ : ∃ m, m = dr * d := ⟨_, rfl⟩
  have hmb : -(100000 * 1073741824) ≤ m ∧ m ≤ 100000 * 1073741824 := by rw [hm]; exact mul_abs (by omega) (by omega) (by omega)
  have hm0 : 0 ≤ m := by rw [hm]; exact Int.mul_nonneg hdr.1 hdb.1
  obtain ⟨m3, hm3⟩ : ∃ x, x = m + 3599 := ⟨_, rfl⟩
  obtain ⟨q, hq⟩ : ∃ x, x = byZ dr (⟨kind1, time1, src1, abt1, wh1, souls1, trust1⟩ : Rep) (⟨kind2, time2, src2, abt2, wh2, souls2, trust2⟩ : Rep) := ⟨_, rfl⟩
  have hq2 : q = m3 / 3600 := by rw [hq]; unfold byZ; dsimp only; rw [← hd, ← hm, hm3]
  have hq3 : Int.tdiv m3 3600 = q := by rw [hq2]; exact Int.tdiv_eq_ediv_of_nonneg (by omega)
  have hqb : 0 ≤ q ∧ q ≤ 1099511627776 := by rw [hq2]; omega
  obtain ⟨v, hv⟩ : ∃ x, x = meetB wh1 wh2 q := ⟨_, rfl⟩
  have hcm : ∀ V, Frm w.heap.size [] w V → Calls Try.prog 62 #[.slice ad1 n1 cap1, .slice ad2 n2 cap2, .int .i64 q] V fun e w' => e = .returned (.bool v) ∧ Frm V.heap.size [] V w' := fun V hV => by
    rw [hv, ← close_meet wh1 wh2 hqb.1]; exact close_any ad1 b1 o1 n1 cap1 wh1 hn1 hl1 ho1 ad2 b2 o2 n2 cap2 wh2 hn2 hl2 ho2 q hqb V (hr1.frm hV (Nat.le_refl _)) (hr2.frm hV (Nat.le_refl _))
  obtain ⟨c, hc⟩ : ∃ c, c = cmpZ wd dr (⟨kind1, time1, src1, abt1, wh1, souls1, trust1⟩ : Rep) (⟨kind2, time2, src2, abt2, wh2, souls2, trust2⟩ : Rep) := ⟨_, rfl⟩
  have hc2 : c = if (decide (abt1.size ≠ 0) && decide (abt2.size ≠ 0)) = true then (if abt1 = abt2 then 1 else 2) else if wd < d then 3 else if v = true then 5 else 4 := by rw [hc, hd, hv, hq]; rfl
  rw [← hc]
  have e1 : IntKind.i64.wrap (dr * d) = m := by rw [← hm]; exact IntWalk.i64_in _ (by omega)
  have e2 : IntKind.i64.wrap (m + 3599) = m3 := by rw [← hm3]; exact IntWalk.i64_in _ (by omega)
  have e4 : IntKind.i64.wrap q = q := IntWalk.i64_in _ (by omega)
  have f1 : wrap64 (dr * d) = m := by rw [← hm]; exact IntWalk.wrap64_in _ (by omega)
  have f2 : wrap64 (m + 3599) = m3 := by rw [← hm3]; exact IntWalk.wrap64_in _ (by omega)
  have f4 : wrap64 q = q := IntWalk.wrap64_in _ (by omega)
  clear hd ht1 ht2 hdb hm hmb hm0 hm3 hq hq2 hqb hv hr1 hr2 hl1 hl2 ho1 ho2 hdr hc
  have HCD := Lib.hid hcd
  have HCM := Lib.hid hcm
  have HC := Lib.hid hc2
  have HN1 := Lib.hid hn1
  have HN2 := Lib.hid hn2
  clear hn2 hn1 hc2 hcm hcd
  go_enter Try.func33, Try.ntmps33
  go_upto_region 1 with fail
  refine namedC ?_; intro W hW
  have k1 : Blk W w.heap.size 24 [.int .i64 kind1, .int .i64 time1, .string src1, .string abt1, .slice ad1 n1 cap1, .int .i64 souls1, .int .i64 trust1] := by rw [hW]; refine Blk.alloc' ?_; exact Blk.new w 24 [.int .i64 kind1, .int .i64 time1, .string src1, .string abt1, .slice ad1 n1 cap1, .int .i64 souls1, .int .i64 trust1]
  have k2 : Blk W (w.heap.size + 1) 24 [.int .i64 kind2, .int .i64 time2, .string src2, .string abt2, .slice ad2 n2 cap2, .int .i64 souls2, .int .i64 trust2] := by rw [hW]; exact Blk.new' _ 24 [.int .i64 kind2, .int .i64 time2, .string src2, .string abt2, .slice ad2 n2 cap2, .int .i64 souls2, .int .i64 trust2] (by simp)
  have hf : Frm w.heap.size [] w W := by rw [hW]; repeat (first | with_reducible exact Frm.refl _ _ _ | with_reducible refine Frm.drewN ?_ | with_reducible refine Frm.drew ?_ | ((with_reducible refine Frm.setCell' ?_ ?_); · first | (left; simp; done) | (right; simp; done) | (right; simp; omega)) | ((with_reducible refine Frm.alloc' ?_ ?_); · first | exact Nat.le_refl _ | (simp; done) | (simp; omega)))
  clear hW hf0
  have c0 : W.cell? ⟨w.heap.size, 3, none⟩ = some (.string abt1) := k1.cell 3
  have c1 : W.cell? ⟨w.heap.size + 1, 3, none⟩ = some (.string abt2) := k2.cell 3
  have c2 : W.cell? ⟨w.heap.size, 1, none⟩ = some (.int .i64 time1) := k1.cell 1
  have c3 : W.cell? ⟨w.heap.size + 1, 1, none⟩ = some (.int .i64 time2) := k2.cell 1
  have c4 : W.cell? ⟨w.heap.size, 4, none⟩ = some (.slice ad1 n1 cap1) := k1.cell 4
  have c5 : W.cell? ⟨w.heap.size + 1, 4, none⟩ = some (.slice ad2 n2 cap2) := k2.cell 4
  clear k1 k2
  have HF := Lib.hid hf
  clear hf
  by_cases hb : abt1.size ≠ 0 ∧ abt2.size ≠ 0
  · have hl : ¬ abt1.toList = [] := lst_not hb.1
    have hl2 : abt1.toList.isEmpty = false := by simp [hl]
    have hk : ¬ abt2.toList = [] := lst_not hb.2
    have hk2 : abt2.toList.isEmpty = false := by simp [hk]
    by_cases ha : abt1 = abt2
    · subst ha
      go_wp2_with fail
      go_ret
      exact ⟨by rw [HC.out]; simp [hb.1], HF.out⟩
    · have hne : ¬ abt1.toList = abt2.toList := fun h => ha (lst_inj h)
      have hne2 : (abt1.toList == abt2.toList) = false := by simp [hne]
      go_wp2_with fail
      go_ret
      exact ⟨by rw [HC.out]; simp [hb.1, hb.2, ha], HF.out⟩
  have hc2 : c = if wd < d then 3 else if v = true then 5 else 4 := by rw [HC.out, if_neg (fun h => hb (by simpa using h))]
  clear HC
  have HC := Lib.hid hc2
  clear hc2
  by_cases h1 : abt1.size = 0
  · have hl : abt1.toList = [] := by rw [str_nil h1, Lib.toList_data]
    have hl2 : abt1.toList.isEmpty = true := by rw [hl]; rfl
    by_cases hw : wd < d
    · go_wp2_with (go_at_call 61; refine (HCD.out _).mono ?_; rintro e w' ⟨rfl, rfl⟩)
      go_ret
      exact ⟨by rw [HC.out, if_pos hw]; rfl, HF.out⟩
    go_wp2_with (go_at_call 61; refine (HCD.out _).mono ?_; rintro e w' ⟨rfl, rfl⟩)
    refine (HCM.out W HF.out).mono ?_; rintro e w1 ⟨rfl, hf1⟩
    have hf := HF.out.call hf1 HF.out.size (by simp)
    clear hf1 HF
    have HF := Lib.hid hf
    clear hf
    cases v
    · go_wp2_with fail
      go_ret
      exact ⟨by rw [HC.out, if_neg (by omega)]; rfl, HF.out⟩
    · go_wp2_with fail
      go_ret
      exact ⟨by rw [HC.out, if_neg (by omega)]; rfl, HF.out⟩
  have hl : ¬ abt1.toList = [] := lst_not h1
  have hl2 : abt1.toList.isEmpty = false := by simp [hl]
  have h2 : abt2.size = 0 := by omega
  have hk : abt2.toList = [] := by rw [str_nil h2, Lib.toList_data]
  have hk2 : abt2.toList.isEmpty = true := by rw [hk]; rfl
  by_cases hw : wd < d
  · go_wp2_with (go_at_call 61; refine (HCD.out _).mono ?_; rintro e w' ⟨rfl, rfl⟩)
    go_ret
    exact ⟨by rw [HC.out, if_pos hw]; rfl, HF.out⟩
  go_wp2_with (go_at_call 61; refine (HCD.out _).mono ?_; rintro e w' ⟨rfl, rfl⟩)
  refine (HCM.out W HF.out).mono ?_; rintro e w1 ⟨rfl, hf1⟩
  have hf := HF.out.call hf1 HF.out.size (by simp)
  clear hf1 HF
  have HF := Lib.hid hf
  clear hf
  cases v
  · go_wp2_with fail
    go_ret
    exact ⟨by rw [HC.out, if_neg (by omega)]; rfl, HF.out⟩
  · go_wp2_with fail
    go_ret
    exact ⟨by rw [HC.out, if_neg (by omega)]; rfl, HF.out⟩
end Go.Proofs.Ythgmdilfmeefiaa

namespace Go.Proofs.Ythgmdilfmeefiaa
set_option linter.all false
set_option linter.unusedSimpArgs false
set_option linter.unusedVariables false
open Go.RowKit
theorem under108 : Try.prog.underlying 108 = some (.array 5 107) := Try.underlying108
theorem index_ln0 (a b c d e f g h i j : Value) (w : World) : (Instr.index 108 (.agg #[a, b, c, d, e, f, g, h, i, j]) (.int .i64 0)).run Try.prog w = .ok (.agg #[a, b]) w := by
  simp [Instr.index, run_underlying under108, asIntOf, go_sem]
theorem index_ln1 (a b c d e f g h i j : Value) (w : World) : (Instr.index 108 (.agg #[a, b, c, d, e, f, g, h, i, j]) (.int .i64 1)).run Try.prog w = .ok (.agg #[c, d]) w := by
  simp [Instr.index, run_underlying under108, asIntOf, go_sem]
theorem index_ln2 (a b c d e f g h i j : Value) (w : World) : (Instr.index 108 (.agg #[a, b, c, d, e, f, g, h, i, j]) (.int .i64 2)).run Try.prog w = .ok (.agg #[e, f]) w := by
  simp [Instr.index, run_underlying under108, asIntOf, go_sem]
theorem index_ln3 (a b c d e f g h i j : Value) (w : World) : (Instr.index 108 (.agg #[a, b, c, d, e, f, g, h, i, j]) (.int .i64 3)).run Try.prog w = .ok (.agg #[g, h]) w := by
  simp [Instr.index, run_underlying under108, asIntOf, go_sem]
theorem index_ln4 (a b c d e f g h i j : Value) (w : World) : (Instr.index 108 (.agg #[a, b, c, d, e, f, g, h, i, j]) (.int .i64 4)).run Try.prog w = .ok (.agg #[i, j]) w := by
  simp [Instr.index, run_underlying under108, asIntOf, go_sem]
attribute [local go_sem] index_ln0 index_ln1 index_ln2 index_ln3 index_ln4
theorem info107 : (Try.prog.info? 107).map (fun i => i.size) = some 2 := by kernel_rfl
theorem load60 {w : World} {b : Nat} {cs : List Value} (h : Blk w b 60 cs) (hl : cs.length = 2) : (loadVar 60 ⟨b, 0, none⟩).run Try.prog w = .ok (.agg cs.toArray) w := loadVarB h (P := Try.prog) Try.underlying60 rfl (by rw [hl]; kernel_rfl)
set_option maxRecDepth 100000 in
set_option maxHeartbeats 8000000 in
theorem cmp_any (wd dr : Int) (r1 r2 : Rep) (ad1 ad2 : Option Addr) (cap1 cap2 : Nat) (w : World) (hdr : 0 ≤ dr ∧ dr ≤ 100000) (ht1 : TimeOK r1.time) (ht2 : TimeOK r2.time) (hl1 : 1 ≤ r1.wh.length) (hl2 : 1 ≤ r2.wh.length) (ho1 : ∀ i, i < r1.wh.length → SpOK (spt r1.wh i)) (ho2 : ∀ i, i < r2.wh.length → SpOK (spt r2.wh i)) (b1 o1 b2 o2 : Nat) (hr1 : RwP w ad1 b1 o1 r1.wh.length r1.wh) (hr2 : RwP w ad2 b2 o2 r2.wh.length r2.wh) :
    Calls Try.prog 31 #[.agg #[.int .i64 wd, .int .i64 dr], .agg (repC r1 ad1 cap1).toArray, .agg (repC r2 ad2 cap2).toArray] w fun e w' => e = .returned (.int .i64 (cmpZ wd dr r1 r2)) ∧ Frm w.heap.size [] w w' := by
  have hf0 := Try.func31
  obtain ⟨C1, hC1⟩ : ∃ c, c = repC r1 ad1 cap1 := ⟨_, rfl⟩
  obtain ⟨C2, hC2⟩ : ∃ c, c = repC r2 ad2 cap2 := ⟨_, rfl⟩
  obtain ⟨l1, h1⟩ : ∃ c, c = (bothN r1 r2 && decide (r1.abt = r2.abt)) := ⟨_, rfl⟩
  obtain ⟨l2, h2⟩ : ∃ c, c = bothN r1 r2 := ⟨_, rfl⟩
  obtain ⟨l3, h3⟩ : ∃ c, c = decide (wd < distZ r1.time r2.time) := ⟨_, rfl⟩
  obtain ⟨l4, h4⟩ : ∃ c, c = !meetB r1.wh r2.wh (byZ dr r1 r2) := ⟨_, rfl⟩
  have hl : ∀ V, Frm w.heap.size [] w V →
      (Calls Try.prog 81 #[.agg #[.int .i64 wd, .int .i64 dr], .agg C1.toArray, .agg C2.toArray] V fun e w' => e = .returned (.bool l1) ∧ Frm V.heap.size [] V w') ∧
      (Calls Try.prog 83 #[.agg #[.int .i64 wd, .int .i64 dr], .agg C1.toArray, .agg C2.toArray] V fun e w' => e = .returned (.bool l2) ∧ Frm V.heap.size [] V w') ∧
      (Calls Try.prog 84 #[.agg #[.int .i64 wd, .int .i64 dr], .agg C1.toArray, .agg C2.toArray] V fun e w' => e = .returned (.bool l3) ∧ Frm V.heap.size [] V w') ∧
      (Calls Try.prog 86 #[.agg #[.int .i64 wd, .int .i64 dr], .agg C1.toArray, .agg C2.toArray] V fun e w' => e = .returned (.bool l4) ∧ Frm V.heap.size [] V w') ∧
      (Calls Try.prog 88 #[.agg #[.int .i64 wd, .int .i64 dr], .agg C1.toArray, .agg C2.toArray] V fun e w' => e = .returned (.bool true) ∧ Frm V.heap.size [] V w') := fun V hV => by
    rw [h1, h2, h3, h4, hC1, hC2]
    exact ⟨line1_any wd dr r1 r2 ad1 ad2 cap1 cap2 V, line2_any wd dr r1 r2 ad1 ad2 cap1 cap2 V, line3_any wd dr r1 r2 ad1 ad2 cap1 cap2 V ht1 ht2, line4_any wd dr r1 r2 ad1 ad2 cap1 cap2 V hdr ht1 ht2 hl1 hl2 ho1 ho2 b1 o1 b2 o2 (hr1.frm hV (Nat.le_refl _)) (hr2.frm hV (Nat.le_refl _)), line5_any wd dr r1 r2 ad1 ad2 cap1 cap2 V⟩
  obtain ⟨c, hc⟩ : ∃ c, c = cmpZ wd dr r1 r2 := ⟨_, rfl⟩
  have hc2 : c = if l1 = true then 1 else if l2 = true then 2 else if l3 = true then 3 else if l4 = true then 4 else 5 := by
    rw [hc, h1, h2, h3, h4]
    unfold cmpZ
    cases bothN r1 r2 <;> by_cases ha : r1.abt = r2.abt <;> cases hme : meetB r1.wh r2.wh (byZ dr r1 r2) <;> simp [ha, hme]
  have hz1 : C1.length = 7 := by rw [hC1]; rfl
  have hz2 : C2.length = 7 := by rw [hC2]; rfl
  rw [← hc, ← hC1, ← hC2]
  clear h1 h2 h3 h4 hC1 hC2 hc hdr ht1 ht2 hl1 hl2 ho1 ho2 hr1 hr2
  have HL := Lib.hid hl
  have HC := Lib.hid hc2
  have HZ1 := Lib.hid hz1
  have HZ2 := Lib.hid hz2
  clear hz2 hz1 hc2 hl
  go_enter Try.func31, Try.ntmps31
  go_upto_region 1 with fail
  refine namedC ?_; intro W hW
  have k0 : Blk W w.heap.size 60 [.int .i64 wd, .int .i64 dr] := by rw [hW]; refine Blk.alloc' ?_; refine Blk.alloc' ?_; exact Blk.new w 60 [.int .i64 wd, .int .i64 dr]
  have k1 : Blk W (w.heap.size + 1) 24 C1 := by rw [hW]; refine Blk.alloc' ?_; exact Blk.new' _ 24 C1 (by simp)
  have k2 : Blk W (w.heap.size + 1 + 1) 24 C2 := by rw [hW]; exact Blk.new' _ 24 C2 (by simp)
  have hf : Frm w.heap.size [] w W := by rw [hW]; repeat (first | with_reducible exact Frm.refl _ _ _ | with_reducible refine Frm.drewN ?_ | with_reducible refine Frm.drew ?_ | ((with_reducible refine Frm.setCell' ?_ ?_); · first | (left; simp; done) | (right; simp; done) | (right; simp; omega)) | ((with_reducible refine Frm.alloc' ?_ ?_); · first | exact Nat.le_refl _ | (simp; done) | (simp; omega)))
  clear hW hf0
  have HF := Lib.hid hf
  have K0 := Lib.hid k0
  have K1 := Lib.hid k1
  have K2 := Lib.hid k2
  clear k2 k1 k0 hf
  go_step3
  go_wp2_with fail
  go_step3
  go_wp2_with fail
  refine (lines_any W).mono ?_; rintro e w1 ⟨rfl, hf1⟩
  have hf := HF.out.call hf1 HF.out.size (by simp)
  have k0 := hf1.blk K0.out K0.out.lt (by simp)
  have k1 := hf1.blk K1.out K1.out.lt (by simp)
  have k2 := hf1.blk K2.out K2.out.lt (by simp)
  clear hf1 HF K0 K1 K2
  unfold lnsC
  have HF := Lib.hid hf
  have K0 := Lib.hid k0
  have K1 := Lib.hid k1
  have K2 := Lib.hid k2
  clear k2 k1 k0 hf
  go_wp2_with fail
  go_loopw [11] (fun s11 wr => ∃ i : Nat, s11 = .int .i64 i ∧ i ≤ 4 ∧ (1 ≤ i → l1 = false) ∧ (2 ≤ i → l2 = false) ∧ (3 ≤ i → l3 = false) ∧ (4 ≤ i → l4 = false) ∧ Frm w.heap.size [] w wr ∧ Blk wr w.heap.size 60 [.int .i64 wd, .int .i64 dr] ∧ Blk wr (w.heap.size + 1) 24 C1 ∧ Blk wr (w.heap.size + 1 + 1) 24 C2) (fun s11 _ => 5 - (intOf s11).toNat)
  case atStart => exact ⟨0, rfl, by omega, by omega, by omega, by omega, by omega, HF.out, K0.out, K1.out, K2.out⟩
  case round =>
    obtain ⟨i, rfl, hi, g1, g2, g3, g4, hf, k0, k1, k2⟩ := hrel
    clear HF K0 K1 K2
    have h5 : i = 0 ∨ i = 1 ∨ i = 2 ∨ i = 3 ∨ i = 4 := by omega
    have HF := Lib.hid hf
    have K0 := Lib.hid k0
    have K1 := Lib.hid k1
    have K2 := Lib.hid k2
    have G1 := Lib.hid g1
    have G2 := Lib.hid g2
    have G3 := Lib.hid g3
    have G4 := Lib.hid g4
    clear g4 g3 g2 g1 k2 k1 k0 hf
    rcases h5 with rfl | rfl | rfl | rfl | rfl
    · go_wp2_with (with_reducible refine atStore 107 rfl ?_; refine stop_ ?_)
      refine go_on ?_
      refine wpList_storeNew (P := Try.prog) (cs := [.int .i64 1, .func (.func 81) #[] #[]]) rfl rfl rfl rfl rfl info107 (by simp [Value.oneCell']) ?_
      intro V1 hv1 k9 hz; clear hz
      obtain ⟨p9, hp9⟩ : ∃ p, p = wr.heap.size := ⟨_, rfl⟩
      have k0 := hv1.blk K0.out K0.out.lt (by simp)
      have k1 := hv1.blk K1.out K1.out.lt (by simp)
      have k2 := hv1.blk K2.out K2.out.lt (by simp)
      have hf := HF.out.call hv1 HF.out.size (by simp)
      rw [← hp9] at k9 ⊢
      dsimp only [Act.put]
      have c0 : V1.cell? ⟨p9, 0, none⟩ = some (.int .i64 1) := k9.cell 0
      have c1 : V1.cell? ⟨p9, 1, none⟩ = some (.func (.func 81) #[] #[]) := k9.cell 1
      clear hp9 hv1 HF K0 K1 K2 c0
      have HF := Lib.hid hf
      have K0 := Lib.hid k0
      have K1 := Lib.hid k1
      have K2 := Lib.hid k2
      have K9 := Lib.hid k9
      clear k9 k2 k1 k0 hf
      go_wp2_with (first | (with_reducible refine atLoad 24 rfl ?_; first | refine wpList_loadE rfl rfl rfl (load24 K1.out HZ1.out) ?_ | refine wpList_loadE rfl rfl rfl (load24 K2.out HZ2.out) ?_) | (with_reducible refine atLoad 60 rfl ?_; refine wpList_loadE rfl rfl rfl (load60 K0.out rfl) ?_))
      refine (HL.out V1 HF.out).1.mono ?_; rintro e w2 ⟨rfl, hf2⟩
      have hf := HF.out.call hf2 HF.out.size (by simp)
      have k0 := hf2.blk K0.out K0.out.lt (by simp)
      have k1 := hf2.blk K1.out K1.out.lt (by simp)
      have k2 := hf2.blk K2.out K2.out.lt (by simp)
      have k9 := hf2.blk K9.out K9.out.lt (by simp)
      have c0 : w2.cell? ⟨p9, 0, none⟩ = some (.int .i64 1) := k9.cell 0
      clear hf2 HF K0 K1 K2 K9 c1 k9
      have HF := Lib.hid hf
      have K0 := Lib.hid k0
      have K1 := Lib.hid k1
      have K2 := Lib.hid k2
      clear k2 k1 k0 hf
      cases l1
      · go_wp2_with fail
        exact ⟨⟨1, rfl, by omega, (by simp), (fun h => absurd h (by omega)), (fun h => absurd h (by omega)), (fun h => absurd h (by omega)), HF.out, K0.out, K1.out, K2.out⟩, by simp [intOf]⟩
      · go_wp2_with fail
        rw [Exit.noGoto_ret]
        go_ret
        exact ⟨by rw [HC.out]; rfl, HF.out⟩
    · go_wp2_with (with_reducible refine atStore 107 rfl ?_; refine stop_ ?_)
      refine go_on ?_
      refine wpList_storeNew (P := Try.prog) (cs := [.int .i64 2, .func (.func 83) #[] #[]]) rfl rfl rfl rfl rfl info107 (by simp [Value.oneCell']) ?_
      intro V1 hv1 k9 hz; clear hz
      obtain ⟨p9, hp9⟩ : ∃ p, p = wr.heap.size := ⟨_, rfl⟩
      have k0 := hv1.blk K0.out K0.out.lt (by simp)
      have k1 := hv1.blk K1.out K1.out.lt (by simp)
      have k2 := hv1.blk K2.out K2.out.lt (by simp)
      have hf := HF.out.call hv1 HF.out.size (by simp)
      rw [← hp9] at k9 ⊢
      dsimp only [Act.put]
      have c0 : V1.cell? ⟨p9, 0, none⟩ = some (.int .i64 2) := k9.cell 0
      have c1 : V1.cell? ⟨p9, 1, none⟩ = some (.func (.func 83) #[] #[]) := k9.cell 1
      clear hp9 hv1 HF K0 K1 K2 c0
      have HF := Lib.hid hf
      have K0 := Lib.hid k0
      have K1 := Lib.hid k1
      have K2 := Lib.hid k2
      have K9 := Lib.hid k9
      clear k9 k2 k1 k0 hf
      go_wp2_with (first | (with_reducible refine atLoad 24 rfl ?_; first | refine wpList_loadE rfl rfl rfl (load24 K1.out HZ1.out) ?_ | refine wpList_loadE rfl rfl rfl (load24 K2.out HZ2.out) ?_) | (with_reducible refine atLoad 60 rfl ?_; refine wpList_loadE rfl rfl rfl (load60 K0.out rfl) ?_))
      refine (HL.out V1 HF.out).2.1.mono ?_; rintro e w2 ⟨rfl, hf2⟩
      have hf := HF.out.call hf2 HF.out.size (by simp)
      have k0 := hf2.blk K0.out K0.out.lt (by simp)
      have k1 := hf2.blk K1.out K1.out.lt (by simp)
      have k2 := hf2.blk K2.out K2.out.lt (by simp)
      have k9 := hf2.blk K9.out K9.out.lt (by simp)
      have c0 : w2.cell? ⟨p9, 0, none⟩ = some (.int .i64 2) := k9.cell 0
      clear hf2 HF K0 K1 K2 K9 c1 k9
      have HF := Lib.hid hf
      have K0 := Lib.hid k0
      have K1 := Lib.hid k1
      have K2 := Lib.hid k2
      clear k2 k1 k0 hf
      cases l2
      · go_wp2_with fail
        exact ⟨⟨2, rfl, by omega, fun _ => G1.out (by omega), (by simp), (fun h => absurd h (by omega)), (fun h => absurd h (by omega)), HF.out, K0.out, K1.out, K2.out⟩, by simp [intOf]⟩
      · go_wp2_with fail
        rw [Exit.noGoto_ret]
        go_ret
        exact ⟨by rw [HC.out, G1.out (by omega)]; rfl, HF.out⟩
    · go_wp2_with (with_reducible refine atStore 107 rfl ?_; refine stop_ ?_)
      refine go_on ?_
      refine wpList_storeNew (P := Try.prog) (cs := [.int .i64 3, .func (.func 84) #[] #[]]) rfl rfl rfl rfl rfl info107 (by simp [Value.oneCell']) ?_
      intro V1 hv1 k9 hz; clear hz
      obtain ⟨p9, hp9⟩ : ∃ p, p = wr.heap.size := ⟨_, rfl⟩
      have k0 := hv1.blk K0.out K0.out.lt (by simp)
      have k1 := hv1.blk K1.out K1.out.lt (by simp)
      have k2 := hv1.blk K2.out K2.out.lt (by simp)
      have hf := HF.out.call hv1 HF.out.size (by simp)
      rw [← hp9] at k9 ⊢
      dsimp only [Act.put]
      have c0 : V1.cell? ⟨p9, 0, none⟩ = some (.int .i64 3) := k9.cell 0
      have c1 : V1.cell? ⟨p9, 1, none⟩ = some (.func (.func 84) #[] #[]) := k9.cell 1
      clear hp9 hv1 HF K0 K1 K2 c0
      have HF := Lib.hid hf
      have K0 := Lib.hid k0
      have K1 := Lib.hid k1
      have K2 := Lib.hid k2
      have K9 := Lib.hid k9
      clear k9 k2 k1 k0 hf
      go_wp2_with (first | (with_reducible refine atLoad 24 rfl ?_; first | refine wpList_loadE rfl rfl rfl (load24 K1.out HZ1.out) ?_ | refine wpList_loadE rfl rfl rfl (load24 K2.out HZ2.out) ?_) | (with_reducible refine atLoad 60 rfl ?_; refine wpList_loadE rfl rfl rfl (load60 K0.out rfl) ?_))
      refine (HL.out V1 HF.out).2.2.1.mono ?_; rintro e w2 ⟨rfl, hf2⟩
      have hf := HF.out.call hf2 HF.out.size (by simp)
      have k0 := hf2.blk K0.out K0.out.lt (by simp)
      have k1 := hf2.blk K1.out K1.out.lt (by simp)
      have k2 := hf2.blk K2.out K2.out.lt (by simp)
      have k9 := hf2.blk K9.out K9.out.lt (by simp)
      have c0 : w2.cell? ⟨p9, 0, none⟩ = some (.int .i64 3) := k9.cell 0
      clear hf2 HF K0 K1 K2 K9 c1 k9
      have HF := Lib.hid hf
      have K0 := Lib.hid k0
      have K1 := Lib.hid k1
      have K2 := Lib.hid k2
      clear k2 k1 k0 hf
      cases l3
      · go_wp2_with fail
        exact ⟨⟨3, rfl, by omega, fun _ => G1.out (by omega), fun _ => G2.out (by omega), (by simp), (fun h => absurd h (by omega)), HF.out, K0.out, K1.out, K2.out⟩, by simp [intOf]⟩
      · go_wp2_with fail
        rw [Exit.noGoto_ret]
        go_ret
        exact ⟨by rw [HC.out, G1.out (by omega), G2.out (by omega)]; rfl, HF.out⟩
    · go_wp2_with (with_reducible refine atStore 107 rfl ?_; refine stop_ ?_)
      refine go_on ?_
      refine wpList_storeNew (P := Try.prog) (cs := [.int .i64 4, .func (.func 86) #[] #[]]) rfl rfl rfl rfl rfl info107 (by simp [Value.oneCell']) ?_
      intro V1 hv1 k9 hz; clear hz
      obtain ⟨p9, hp9⟩ : ∃ p, p = wr.heap.size := ⟨_, rfl⟩
      have k0 := hv1.blk K0.out K0.out.lt (by simp)
      have k1 := hv1.blk K1.out K1.out.lt (by simp)
      have k2 := hv1.blk K2.out K2.out.lt (by simp)
      have hf := HF.out.call hv1 HF.out.size (by simp)
      rw [← hp9] at k9 ⊢
      dsimp only [Act.put]
      have c0 : V1.cell? ⟨p9, 0, none⟩ = some (.int .i64 4) := k9.cell 0
      have c1 : V1.cell? ⟨p9, 1, none⟩ = some (.func (.func 86) #[] #[]) := k9.cell 1
      clear hp9 hv1 HF K0 K1 K2 c0
      have HF := Lib.hid hf
      have K0 := Lib.hid k0
      have K1 := Lib.hid k1
      have K2 := Lib.hid k2
      have K9 := Lib.hid k9
      clear k9 k2 k1 k0 hf
      go_wp2_with (first | (with_reducible refine atLoad 24 rfl ?_; first | refine wpList_loadE rfl rfl rfl (load24 K1.out HZ1.out) ?_ | refine wpList_loadE rfl rfl rfl (load24 K2.out HZ2.out) ?_) | (with_reducible refine atLoad 60 rfl ?_; refine wpList_loadE rfl rfl rfl (load60 K0.out rfl) ?_))
      refine (HL.out V1 HF.out).2.2.2.1.mono ?_; rintro e w2 ⟨rfl, hf2⟩
      have hf := HF.out.call hf2 HF.out.size (by simp)
      have k0 := hf2.blk K0.out K0.out.lt (by simp)
      have k1 := hf2.blk K1.out K1.out.lt (by simp)
      have k2 := hf2.blk K2.out K2.out.lt (by simp)
      have k9 := hf2.blk K9.out K9.out.lt (by simp)
      have c0 : w2.cell? ⟨p9, 0, none⟩ = some (.int .i64 4) := k9.cell 0
      clear hf2 HF K0 K1 K2 K9 c1 k9
      have HF := Lib.hid hf
      have K0 := Lib.hid k0
      have K1 := Lib.hid k1
      have K2 := Lib.hid k2
      clear k2 k1 k0 hf
      cases l4
      · go_wp2_with fail
        exact ⟨⟨4, rfl, by omega, fun _ => G1.out (by omega), fun _ => G2.out (by omega), fun _ => G3.out (by omega), (by simp), HF.out, K0.out, K1.out, K2.out⟩, by simp [intOf]⟩
      · go_wp2_with fail
        rw [Exit.noGoto_ret]
        go_ret
        exact ⟨by rw [HC.out, G1.out (by omega), G2.out (by omega), G3.out (by omega)]; rfl, HF.out⟩
    · go_wp2_with (with_reducible refine atStore 107 rfl ?_; refine stop_ ?_)
      refine go_on ?_
      refine wpList_storeNew (P := Try.prog) (cs := [.int .i64 5, .func (.func 88) #[] #[]]) rfl rfl rfl rfl rfl info107 (by simp [Value.oneCell']) ?_
      intro V1 hv1 k9 hz; clear hz
      obtain ⟨p9, hp9⟩ : ∃ p, p = wr.heap.size := ⟨_, rfl⟩
      have k0 := hv1.blk K0.out K0.out.lt (by simp)
      have k1 := hv1.blk K1.out K1.out.lt (by simp)
      have k2 := hv1.blk K2.out K2.out.lt (by simp)
      have hf := HF.out.call hv1 HF.out.size (by simp)
      rw [← hp9] at k9 ⊢
      dsimp only [Act.put]
      have c0 : V1.cell? ⟨p9, 0, none⟩ = some (.int .i64 5) := k9.cell 0
      have c1 : V1.cell? ⟨p9, 1, none⟩ = some (.func (.func 88) #[] #[]) := k9.cell 1
      clear hp9 hv1 HF K0 K1 K2 c0
      have HF := Lib.hid hf
      have K0 := Lib.hid k0
      have K1 := Lib.hid k1
      have K2 := Lib.hid k2
      have K9 := Lib.hid k9
      clear k9 k2 k1 k0 hf
      go_wp2_with (first | (with_reducible refine atLoad 24 rfl ?_; first | refine wpList_loadE rfl rfl rfl (load24 K1.out HZ1.out) ?_ | refine wpList_loadE rfl rfl rfl (load24 K2.out HZ2.out) ?_) | (with_reducible refine atLoad 60 rfl ?_; refine wpList_loadE rfl rfl rfl (load60 K0.out rfl) ?_))
      refine (HL.out V1 HF.out).2.2.2.2.mono ?_; rintro e w2 ⟨rfl, hf2⟩
      have hf := HF.out.call hf2 HF.out.size (by simp)
      have k0 := hf2.blk K0.out K0.out.lt (by simp)
      have k1 := hf2.blk K1.out K1.out.lt (by simp)
      have k2 := hf2.blk K2.out K2.out.lt (by simp)
      have k9 := hf2.blk K9.out K9.out.lt (by simp)
      have c0 : w2.cell? ⟨p9, 0, none⟩ = some (.int .i64 5) := k9.cell 0
      clear hf2 HF K0 K1 K2 K9 c1 k9
      have HF := Lib.hid hf
      have K0 := Lib.hid k0
      have K1 := Lib.hid k1
      have K2 := Lib.hid k2
      clear k2 k1 k0 hf
      go_wp2_with fail
      rw [Exit.noGoto_ret]
      go_ret
      exact ⟨by rw [HC.out, G1.out (by omega), G2.out (by omega), G3.out (by omega), G4.out (by omega)]; rfl, HF.out⟩
end Go.Proofs.Ythgmdilfmeefiaa

namespace Go.Proofs.Ythgmdilfmeefiaa
set_option linter.all false
set_option linter.unusedSimpArgs false
set_option linter.unusedVariables false
open Go.RowKit

theorem rep_ok {r : Rep} (h : repB r = true) : TimeOK r.time ∧ 1 ≤ r.wh.length ∧ ∀ i, i < r.wh.length → SpOK (spt r.wh i) := by
  unfold repB at h
  simp only [Bool.and_eq_true] at h
  obtain ⟨⟨⟨⟨⟨⟨_, h2⟩, _⟩, _⟩, h5⟩, _⟩, _⟩ := h
  unfold areaB at h5
  simp only [Bool.and_eq_true, decide_eq_true_eq] at h5
  exact ⟨inB_iff.1 h2, h5.1.1.1, fun i hi => spt_ok h5.1.2 hi⟩
theorem rules_ok {a b : Int} (h : rulesB a b = true) : 0 ≤ b ∧ b ≤ 100000 := by
  unfold rulesB at h
  rw [Bool.and_eq_true] at h
  exact inB_iff.1 h.2
/-- What Compare answers. -/
def cmpA (r1 r2 : Rep) (wd dr : Int) : Int × Int := if (repB r1 && repB r2) = true then (if rulesB wd dr = true then (cmpZ wd dr r1 r2, 0) else (0, 4)) else (0, 2)
theorem info60 : (Try.prog.info? 60).map (fun i => i.size) = some 2 := by kernel_rfl
set_option maxRecDepth 100000 in
set_option maxHeartbeats 8000000 in
theorem refCompare_any (wd dr : Int) (r1 r2 : Rep) (ad1 ad2 : Option Addr) (cap1 cap2 : Nat) (w : World) (b1 o1 b2 o2 : Nat) (hr1 : RwP w ad1 b1 o1 r1.wh.length r1.wh) (hr2 : RwP w ad2 b2 o2 r2.wh.length r2.wh) :
    Calls Try.prog 12 #[.agg (repC r1 ad1 cap1).toArray, .agg (repC r2 ad2 cap2).toArray, .int .i64 wd, .int .i64 dr] w fun e w' => e = .returned (.tuple #[.int .i64 (cmpA r1 r2 wd dr).1, .int .i64 (cmpA r1 r2 wd dr).2]) ∧ Frm w.heap.size [] w w' := by
  have hf0 := Try.func12
  obtain ⟨C1, hC1⟩ : ∃ c, c = repC r1 ad1 cap1 := ⟨_, rfl⟩
  obtain ⟨C2, hC2⟩ : ∃ c, c = repC r2 ad2 cap2 := ⟨_, rfl⟩
  obtain ⟨v1, hv1⟩ : ∃ c, c = repB r1 := ⟨_, rfl⟩
  obtain ⟨v2, hv2⟩ : ∃ c, c = repB r2 := ⟨_, rfl⟩
  have h1 : ∀ V, Frm w.heap.size [] w V → Calls Try.prog 32 #[.agg C1.toArray] V fun e w' => e = .returned (.bool v1) ∧ Frm V.heap.size [] V w' := fun V hV => by rw [hC1, hv1]; exact refCheck_any r1 ad1 b1 o1 cap1 V (hr1.frm hV (Nat.le_refl _))
  have h2 : ∀ V, Frm w.heap.size [] w V → Calls Try.prog 32 #[.agg C2.toArray] V fun e w' => e = .returned (.bool v2) ∧ Frm V.heap.size [] V w' := fun V hV => by rw [hC2, hv2]; exact refCheck_any r2 ad2 b2 o2 cap2 V (hr2.frm hV (Nat.le_refl _))
  have hz1 : C1.length = 7 := by rw [hC1]; rfl
  have hz2 : C2.length = 7 := by rw [hC2]; rfl
  have hcm : v1 = true → v2 = true → rulesB wd dr = true → ∀ V, Frm w.heap.size [] w V → Calls Try.prog 33 #[.agg C1.toArray, .agg C2.toArray, .int .i64 wd, .int .i64 dr] V fun e w' => e = .returned (.int .i64 (cmpZ wd dr r1 r2)) ∧ Frm V.heap.size [] V w' := fun e1 e2 e3 V hV => by
    rw [hv1] at e1
    rw [hv2] at e2
    have x1 := rep_ok e1
    have x2 := rep_ok e2
    rw [hC1, hC2]
    exact refCmp_any wd dr r1 r2 ad1 ad2 cap1 cap2 V (rules_ok e3) x1.1 x2.1 x1.2.1 x2.2.1 x1.2.2 x2.2.2 b1 o1 b2 o2 (hr1.frm hV (Nat.le_refl _)) (hr2.frm hV (Nat.le_refl _))
  have ha : cmpA r1 r2 wd dr = if (v1 && v2) = true then (if rulesB wd dr = true then (cmpZ wd dr r1 r2, 0) else (0, 4)) else (0, 2) := by rw [hv1, hv2]; rfl
  rw [← hC1, ← hC2]
  clear hC1 hC2 hv1 hv2 hr1 hr2
  have H1 := Lib.hid h1
  have H2 := Lib.hid h2
  have HCM := Lib.hid hcm
  have HA := Lib.hid ha
  have HZ1 := Lib.hid hz1
  have HZ2 := Lib.hid hz2
  clear hz2 hz1 ha hcm h2 h1
  go_enter Try.func12, Try.ntmps12
  go_upto_region 1 with fail
  refine namedC ?_; intro W hW
  have k1 : Blk W w.heap.size 24 C1 := by rw [hW]; refine Blk.alloc' ?_; exact Blk.new w 24 C1
  have k2 : Blk W (w.heap.size + 1) 24 C2 := by rw [hW]; exact Blk.new' _ 24 C2 (by simp)
  have hf : Frm w.heap.size [] w W := by rw [hW]; repeat (first | with_reducible exact Frm.refl _ _ _ | with_reducible refine Frm.drewN ?_ | with_reducible refine Frm.drew ?_ | ((with_reducible refine Frm.setCell' ?_ ?_); · first | (left; simp; done) | (right; simp; done) | (right; simp; omega)) | ((with_reducible refine Frm.alloc' ?_ ?_); · first | exact Nat.le_refl _ | (simp; done) | (simp; omega)))
  clear hW hf0
  have HF := Lib.hid hf
  have K1 := Lib.hid k1
  have K2 := Lib.hid k2
  clear k2 k1 hf
  go_wp2_with (with_reducible refine atLoad 24 rfl ?_; first | refine wpList_loadGE rfl rfl rfl (load24 K1.out HZ1.out) ?_ | refine wpList_loadGE rfl rfl rfl (load24 K2.out HZ2.out) ?_)
  refine (H1.out W HF.out).mono ?_; rintro e w1 ⟨rfl, hf1⟩
  have hf := HF.out.call hf1 HF.out.size (by simp)
  have k1 := hf1.blk K1.out K1.out.lt (by simp)
  have k2 := hf1.blk K2.out K2.out.lt (by simp)
  clear hf1 HF K1 K2
  have HF := Lib.hid hf
  have K1 := Lib.hid k1
  have K2 := Lib.hid k2
  clear k2 k1 hf
  cases v1
  · go_wp2_with fail
    refine bodyPost_ret (v := .tuple #[.int .i64 0, .int .i64 2]) (by simp [results, Try.results12, go_sem]) rfl ?_
    exact ⟨by rw [HA.out]; rfl, HF.out⟩
  go_wp2_with (with_reducible refine atLoad 24 rfl ?_; first | refine wpList_loadGE rfl rfl rfl (load24 K1.out HZ1.out) ?_ | refine wpList_loadGE rfl rfl rfl (load24 K2.out HZ2.out) ?_)
  refine (H2.out w1 HF.out).mono ?_; rintro e w2 ⟨rfl, hf1⟩
  have hf := HF.out.call hf1 HF.out.size (by simp)
  have k1 := hf1.blk K1.out K1.out.lt (by simp)
  have k2 := hf1.blk K2.out K2.out.lt (by simp)
  clear hf1 HF K1 K2
  have HF := Lib.hid hf
  have K1 := Lib.hid k1
  have K2 := Lib.hid k2
  clear k2 k1 hf
  cases v2
  · go_wp2_with fail
    refine bodyPost_ret (v := .tuple #[.int .i64 0, .int .i64 2]) (by simp [results, Try.results12, go_sem]) rfl ?_
    exact ⟨by rw [HA.out]; rfl, HF.out⟩
  cases h3 : rulesB wd dr
  · have H3 := Lib.hid h3
    clear h3
    go_wp2_with (go_at_call 21; refine (refRules_any _ _ _).mono ?_; rintro e w' ⟨rfl, rfl⟩; rw [H3.out])
    refine bodyPost_ret (v := .tuple #[.int .i64 0, .int .i64 4]) (by simp [results, Try.results12, go_sem]) rfl ?_
    exact ⟨by rw [HA.out, H3.out]; rfl, HF.out⟩
  have hcm := HCM.out (by simp) (by simp) h3
  clear HCM
  have H3 := Lib.hid h3
  have HCM := Lib.hid hcm
  clear hcm h3
  go_wp2_with (first | (go_at_call 21; refine (refRules_any _ _ _).mono ?_; rintro e w' ⟨rfl, rfl⟩; rw [H3.out]) | (with_reducible refine atLoad 24 rfl ?_; first | refine wpList_loadGE rfl rfl rfl (load24 K1.out HZ1.out) ?_ | refine wpList_loadGE rfl rfl rfl (load24 K2.out HZ2.out) ?_))
  refine (HCM.out w2 HF.out).mono ?_; rintro e w3 ⟨rfl, hf1⟩
  have hf := HF.out.call hf1 HF.out.size (by simp)
  clear hf1 HF
  have HF := Lib.hid hf
  clear hf
  go_wp2_with fail
  refine bodyPost_ret (v := .tuple #[.int .i64 (cmpZ wd dr r1 r2), .int .i64 0]) (by simp [results, Try.results12, go_sem]) rfl ?_
  exact ⟨by rw [HA.out, H3.out]; rfl, HF.out⟩
end Go.Proofs.Ythgmdilfmeefiaa

namespace Go.Proofs.Ythgmdilfmeefiaa
set_option linter.all false
set_option linter.unusedSimpArgs false
set_option linter.unusedVariables false
open Go.RowKit

set_option maxRecDepth 100000 in
set_option maxHeartbeats 8000000 in
theorem compare_any (wd dr : Int) (r1 r2 : Rep) (ad1 ad2 : Option Addr) (cap1 cap2 : Nat) (w : World) (b1 o1 b2 o2 : Nat) (hr1 : RwP w ad1 b1 o1 r1.wh.length r1.wh) (hr2 : RwP w ad2 b2 o2 r2.wh.length r2.wh) :
    Calls Try.prog 11 #[.agg (repC r1 ad1 cap1).toArray, .agg (repC r2 ad2 cap2).toArray, .int .i64 wd, .int .i64 dr] w fun e w' => e = .returned (.tuple #[.int .i64 (cmpA r1 r2 wd dr).1, .int .i64 (cmpA r1 r2 wd dr).2]) ∧ Frm w.heap.size [] w w' := by
  have hf0 := Try.func11
  obtain ⟨C1, hC1⟩ : ∃ c, c = repC r1 ad1 cap1 := ⟨_, rfl⟩
  obtain ⟨C2, hC2⟩ : ∃ c, c = repC r2 ad2 cap2 := ⟨_, rfl⟩
  obtain ⟨v1, hv1⟩ : ∃ c, c = repB r1 := ⟨_, rfl⟩
  obtain ⟨v2, hv2⟩ : ∃ c, c = repB r2 := ⟨_, rfl⟩
  have h1 : ∀ V, Frm w.heap.size [] w V → Calls Try.prog 29 #[.agg C1.toArray] V fun e w' => e = .returned (.bool v1) ∧ Frm V.heap.size [] V w' := fun V hV => by rw [hC1, hv1]; exact check_any r1 ad1 b1 o1 cap1 V (hr1.frm hV (Nat.le_refl _))
  have h2 : ∀ V, Frm w.heap.size [] w V → Calls Try.prog 29 #[.agg C2.toArray] V fun e w' => e = .returned (.bool v2) ∧ Frm V.heap.size [] V w' := fun V hV => by rw [hC2, hv2]; exact check_any r2 ad2 b2 o2 cap2 V (hr2.frm hV (Nat.le_refl _))
  have hz1 : C1.length = 7 := by rw [hC1]; rfl
  have hz2 : C2.length = 7 := by rw [hC2]; rfl
  have hcm : v1 = true → v2 = true → rulesB wd dr = true → ∀ V, Frm w.heap.size [] w V → Calls Try.prog 31 #[.agg #[.int .i64 wd, .int .i64 dr], .agg C1.toArray, .agg C2.toArray] V fun e w' => e = .returned (.int .i64 (cmpZ wd dr r1 r2)) ∧ Frm V.heap.size [] V w' := fun e1 e2 e3 V hV => by
    rw [hv1] at e1
    rw [hv2] at e2
    have x1 := rep_ok e1
    have x2 := rep_ok e2
    rw [hC1, hC2]
    exact cmp_any wd dr r1 r2 ad1 ad2 cap1 cap2 V (rules_ok e3) x1.1 x2.1 x1.2.1 x2.2.1 x1.2.2 x2.2.2 b1 o1 b2 o2 (hr1.frm hV (Nat.le_refl _)) (hr2.frm hV (Nat.le_refl _))
  have ha : cmpA r1 r2 wd dr = if (v1 && v2) = true then (if rulesB wd dr = true then (cmpZ wd dr r1 r2, 0) else (0, 4)) else (0, 2) := by rw [hv1, hv2]; rfl
  rw [← hC1, ← hC2]
  clear hC1 hC2 hv1 hv2 hr1 hr2
  have H1 := Lib.hid h1
  have H2 := Lib.hid h2
  have HCM := Lib.hid hcm
  have HA := Lib.hid ha
  have HZ1 := Lib.hid hz1
  have HZ2 := Lib.hid hz2
  clear hz2 hz1 ha hcm h2 h1
  go_enter Try.func11, Try.ntmps11
  go_upto_region 1 with fail
  refine namedC ?_; intro W hW
  have k1 : Blk W w.heap.size 24 C1 := by rw [hW]; refine Blk.alloc' ?_; exact Blk.new w 24 C1
  have k2 : Blk W (w.heap.size + 1) 24 C2 := by rw [hW]; exact Blk.new' _ 24 C2 (by simp)
  have hf : Frm w.heap.size [] w W := by rw [hW]; repeat (first | with_reducible exact Frm.refl _ _ _ | with_reducible refine Frm.drewN ?_ | with_reducible refine Frm.drew ?_ | ((with_reducible refine Frm.setCell' ?_ ?_); · first | (left; simp; done) | (right; simp; done) | (right; simp; omega)) | ((with_reducible refine Frm.alloc' ?_ ?_); · first | exact Nat.le_refl _ | (simp; done) | (simp; omega)))
  clear hW hf0
  have HF := Lib.hid hf
  have K1 := Lib.hid k1
  have K2 := Lib.hid k2
  clear k2 k1 hf
  go_wp2_with (with_reducible refine atStore 60 rfl ?_; refine stop_ ?_)
  refine go_on ?_
  refine wpList_storeNew (P := Try.prog) (cs := [.int .i64 wd, .int .i64 dr]) rfl rfl rfl rfl rfl info60 (by simp [Value.oneCell']) ?_
  intro V1 hv1 k0 hz; clear hz
  obtain ⟨p0, hp0⟩ : ∃ p, p = W.heap.size := ⟨_, rfl⟩
  have k1 := hv1.blk K1.out K1.out.lt (by simp)
  have k2 := hv1.blk K2.out K2.out.lt (by simp)
  have hf := HF.out.call hv1 HF.out.size (by simp)
  rw [← hp0] at k0 ⊢
  dsimp only [Act.put]
  clear hp0 hv1 HF K1 K2
  have HF := Lib.hid hf
  have K1 := Lib.hid k1
  have K2 := Lib.hid k2
  have K0 := Lib.hid k0
  clear k0 k2 k1 hf
  go_wp2_with (with_reducible refine atLoad 24 rfl ?_; first | refine wpList_loadGE rfl rfl rfl (load24 K1.out HZ1.out) ?_ | refine wpList_loadGE rfl rfl rfl (load24 K2.out HZ2.out) ?_)
  refine (H1.out V1 HF.out).mono ?_; rintro e w1 ⟨rfl, hf1⟩
  have hf := HF.out.call hf1 HF.out.size (by simp)
  have k1 := hf1.blk K1.out K1.out.lt (by simp)
  have k0 := hf1.blk K0.out K0.out.lt (by simp)
  have k2 := hf1.blk K2.out K2.out.lt (by simp)
  clear hf1 HF K1 K2 K0
  have HF := Lib.hid hf
  have K1 := Lib.hid k1
  have K2 := Lib.hid k2
  have K0 := Lib.hid k0
  clear k0 k2 k1 hf
  cases v1
  · go_wp2_with fail
    refine bodyPost_ret (v := .tuple #[.int .i64 0, .int .i64 2]) (by simp [results, Try.results11, go_sem]) rfl ?_
    exact ⟨by rw [HA.out]; rfl, HF.out⟩
  go_wp2_with (with_reducible refine atLoad 24 rfl ?_; first | refine wpList_loadGE rfl rfl rfl (load24 K1.out HZ1.out) ?_ | refine wpList_loadGE rfl rfl rfl (load24 K2.out HZ2.out) ?_)
  refine (H2.out w1 HF.out).mono ?_; rintro e w2 ⟨rfl, hf1⟩
  have hf := HF.out.call hf1 HF.out.size (by simp)
  have k1 := hf1.blk K1.out K1.out.lt (by simp)
  have k0 := hf1.blk K0.out K0.out.lt (by simp)
  have k2 := hf1.blk K2.out K2.out.lt (by simp)
  clear hf1 HF K1 K2 K0
  have HF := Lib.hid hf
  have K1 := Lib.hid k1
  have K2 := Lib.hid k2
  have K0 := Lib.hid k0
  clear k0 k2 k1 hf
  cases v2
  · go_wp2_with fail
    refine bodyPost_ret (v := .tuple #[.int .i64 0, .int .i64 2]) (by simp [results, Try.results11, go_sem]) rfl ?_
    exact ⟨by rw [HA.out]; rfl, HF.out⟩
  go_wp2_with (first | (with_reducible refine atLoad 60 rfl ?_; refine wpList_loadGE rfl rfl rfl (load60 K0.out rfl) ?_) | (with_reducible refine atLoad 24 rfl ?_; first | refine wpList_loadGE rfl rfl rfl (load24 K1.out HZ1.out) ?_ | refine wpList_loadGE rfl rfl rfl (load24 K2.out HZ2.out) ?_))
  refine (valid_any wd dr w2).mono ?_; rintro e w4 ⟨rfl, hf1⟩
  have hf := HF.out.call hf1 HF.out.size (by simp)
  have k1 := hf1.blk K1.out K1.out.lt (by simp)
  have k2 := hf1.blk K2.out K2.out.lt (by simp)
  have k0 := hf1.blk K0.out K0.out.lt (by simp)
  clear hf1 HF K1 K2 K0
  have HF := Lib.hid hf
  have K1 := Lib.hid k1
  have K2 := Lib.hid k2
  have K0 := Lib.hid k0
  clear k0 k2 k1 hf
  cases h3 : rulesB wd dr
  · have H3 := Lib.hid h3
    clear h3
    go_wp2_with fail
    refine bodyPost_ret (v := .tuple #[.int .i64 0, .int .i64 4]) (by simp [results, Try.results11, go_sem]) rfl ?_
    exact ⟨by rw [HA.out, H3.out]; rfl, HF.out⟩
  have hcm := HCM.out (by simp) (by simp) h3
  clear HCM
  have H3 := Lib.hid h3
  have HCM := Lib.hid hcm
  clear hcm h3
  go_wp2_with (first | (with_reducible refine atLoad 60 rfl ?_; refine wpList_loadGE rfl rfl rfl (load60 K0.out rfl) ?_) | (with_reducible refine atLoad 24 rfl ?_; first | refine wpList_loadGE rfl rfl rfl (load24 K1.out HZ1.out) ?_ | refine wpList_loadGE rfl rfl rfl (load24 K2.out HZ2.out) ?_))
  refine (HCM.out w4 HF.out).mono ?_; rintro e w3 ⟨rfl, hf1⟩
  have hf := HF.out.call hf1 HF.out.size (by simp)
  clear hf1 HF
  have HF := Lib.hid hf
  clear hf
  go_wp2_with fail
  refine bodyPost_ret (v := .tuple #[.int .i64 (cmpZ wd dr r1 r2), .int .i64 0]) (by simp [results, Try.results11, go_sem]) rfl ?_
  exact ⟨by rw [HA.out, H3.out]; rfl, HF.out⟩
end Go.Proofs.Ythgmdilfmeefiaa
