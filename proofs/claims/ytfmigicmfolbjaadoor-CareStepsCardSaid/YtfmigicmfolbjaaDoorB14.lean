/-
  Texts S20, S21 of this claim, one behind the other.
-/
import Derived.Test.YtfmigicmfolbjaaDoorB13
namespace Go.Proofs.YtfmigicmfolbjaaDoor
set_option linter.all false
set_option linter.unusedSimpArgs false
set_option linter.unusedVariables false
open Go.RowKit Go.Shelf

theorem load_raw {w : World} {b : Nat} {q : RPos} {R : Raw} (h : Blk w b 66 (rawC q R)) : (loadVar 66 ⟨b, 0, none⟩).run Tryd.prog w = .ok (.agg (rawC q R).toArray) w :=
  loadVarB h (P := Tryd.prog) Tryd.underlying66 rfl (by kernel_rfl)
set_option maxRecDepth 100000 in
set_option maxHeartbeats 4000000 in
theorem checkSteps_any (q : RPos) (R : Raw) (w : World) (hr : RawAt w q R) (hg : Glob w) :
    Calls Tryd.prog 41 #[.agg (rawC q R).toArray] w fun e w' => e = .returned (.bool (plannedO R).isSome) ∧ Frm w.heap.size [] w w' := by
  have hf0 := Tryd.func41
  have HR := Lib.hid hr
  have HG := Lib.hid hg
  clear hg hr
  go_enter Tryd.func41, Tryd.ntmps41
  go_upto_region 1 with fail
  refine namedC ?_; intro W hW
  have hb : Blk W w.heap.size 66 (rawC q R) := by rw [hW]; exact Blk.new w 66 (rawC q R)
  have hf : Frm w.heap.size [] w W := by rw [hW]; repeat (first | with_reducible exact Frm.refl _ _ _ | with_reducible refine Frm.drewN ?_ | with_reducible refine Frm.drew ?_ | ((with_reducible refine Frm.setCell' ?_ ?_); · first | (left; simp; done) | (right; simp; done) | (right; simp; omega)) | ((with_reducible refine Frm.alloc' ?_ ?_); · first | exact Nat.le_refl _ | (simp; done) | (simp; omega)))
  clear hW hf0
  obtain ⟨c, hc⟩ : ∃ c, c = w.heap.size := ⟨_, rfl⟩
  rw [← hc] at hb ⊢
  have HB := Lib.hid hb
  have HF := Lib.hid hf
  have HC := Lib.hid hc
  clear hc hf hb
  go_wp2_with (with_reducible refine atLoad 66 rfl ?_; refine wpList_loadE rfl rfl rfl (load_raw HB.out) ?_)
  refine (planned_any q R W (HR.out.frm HF.out (Nat.le_refl _)) (HG.out.frm HF.out (Nat.le_refl _))).mono ?_; rintro e w1 ⟨hf1, hpl⟩
  have hf := HF.out.call hf1 HF.out.size (by simp)
  clear hf1 HF HB
  unfold PlannedIs at hpl
  cases hP : plannedO R with
  | none =>
    rw [hP] at hpl
    obtain rfl := hpl
    have HF := Lib.hid hf
    have HP := Lib.hid hP
    clear hP hf
    go_wp2_with fail
    go_ret
    exact ⟨by rw [HP.out]; rfl, HF.out⟩
  | some P =>
    rw [hP] at hpl
    obtain ⟨pb, q', rfl, hpa⟩ := hpl
    clear hpa
    have HF := Lib.hid hf
    have HP := Lib.hid hP
    clear hP hf
    go_wp2_with fail
    go_ret
    exact ⟨by rw [HP.out]; rfl, HF.out⟩

/-- All steps of a plan. -/
def allP (P : PL) : Nat := 2 ^ P.n - 1
theorem allP_lt (P : PL) : allP P < 2 ^ P.n := by
  have : 0 < 2 ^ P.n := Nat.pow_pos (by omega)
  unfold allP; omega
def endsB (P : PL) (f : Nat) : Bool := surelyB P f (allP P) (allP P)
/-- What ends, of the first k facts. -/
def endsL (P : PL) (k : Nat) : List Nat := (List.range k).filter (endsB P)
theorem endsL_succ (P : PL) (k : Nat) : endsL P (k + 1) = if endsB P k = true then endsL P k ++ [k] else endsL P k := by
  unfold endsL
  rw [List.range_succ, List.filter_append]
  cases h : endsB P k <;> simp [h]
theorem endsL_len (P : PL) (k : Nat) : (endsL P k).length ≤ k := by
  unfold endsL
  exact Nat.le_trans (List.length_filter_le _ _) (by simp)
/-- What a function answers that returns a list of numbers and a reason: a new list. -/
def EndsIs (R : Raw) (w w' : World) (e : Ending) : Prop := match plannedO R with
  | none => e = .returned (.tuple #[.slice none 0 0, .int .i64 2])
  | some P => ∃ v own, e = .returned (.tuple #[v, .int .i64 0]) ∧ Sl w' 3 1 v (endsL P 16).length (intsC (endsL P 16)) own ∧ ∀ b, own = some b → w.heap.size ≤ b
set_option maxRecDepth 100000 in
set_option maxHeartbeats 8000000 in
theorem ends_any (q : RPos) (R : Raw) (w : World) (hr : RawAt w q R) (hg : Glob w) :
    Calls Tryd.prog 35 #[.agg (rawC q R).toArray] w fun e w' => EndsIs R w w' e ∧ Frm w.heap.size [] w w' := by
  have hf0 := Tryd.func35
  obtain ⟨i0, hi0⟩ : ∃ i0, Tryd.prog.info? 3 = some i0 := ⟨_, rfl⟩
  have hzz : i0.zero = some (.int .i64 0) ∧ i0.size = 1 ∧ i0.bytes = 8 := by cases hi0; exact ⟨rfl, rfl, rfl⟩
  obtain ⟨hz0, hz1, hz2⟩ := hzz
  have HR := Lib.hid hr
  have HG := Lib.hid hg
  have HI0 := Lib.hid hi0
  have HZ0 := Lib.hid hz0
  have HZ1 := Lib.hid hz1
  have HZ2 := Lib.hid hz2
  clear hz2 hz1 hz0 hi0 hg hr
  go_enter Tryd.func35, Tryd.ntmps35
  go_upto_region 1 with fail
  refine namedC ?_; intro W hW
  have hb : Blk W w.heap.size 66 (rawC q R) := by rw [hW]; exact Blk.new w 66 (rawC q R)
  have hf : Frm w.heap.size [] w W := by rw [hW]; repeat (first | with_reducible exact Frm.refl _ _ _ | with_reducible refine Frm.drewN ?_ | with_reducible refine Frm.drew ?_ | ((with_reducible refine Frm.setCell' ?_ ?_); · first | (left; simp; done) | (right; simp; done) | (right; simp; omega)) | ((with_reducible refine Frm.alloc' ?_ ?_); · first | exact Nat.le_refl _ | (simp; done) | (simp; omega)))
  clear hW hf0
  obtain ⟨c, hc⟩ : ∃ c, c = w.heap.size := ⟨_, rfl⟩
  rw [← hc] at hb ⊢
  have HB := Lib.hid hb
  have HF := Lib.hid hf
  have HC := Lib.hid hc
  clear hc hf hb
  go_wp2_with (with_reducible refine atLoad 66 rfl ?_; refine wpList_loadE rfl rfl rfl (load_raw HB.out) ?_)
  refine (planned_any q R W (HR.out.frm HF.out (Nat.le_refl _)) (HG.out.frm HF.out (Nat.le_refl _))).mono ?_; rintro e w1 ⟨hf1, hpl⟩
  have hf := HF.out.call hf1 HF.out.size (by simp)
  clear hf1 HF HB
  unfold PlannedIs at hpl
  cases hP : plannedO R with
  | none =>
    rw [hP] at hpl
    obtain rfl := hpl
    have HF := Lib.hid hf
    have HP := Lib.hid hP
    clear hP hf
    go_wp2_with fail
    refine bodyPost_ret (v := .tuple #[.slice none 0 0, .int .i64 2]) (by simp [results, Tryd.results35, go_sem]) rfl ?_
    exact ⟨by unfold EndsIs; rw [HP.out], HF.out⟩
  | some P =>
    rw [hP] at hpl
    obtain ⟨pb, q', rfl, hpa⟩ := hpl
    have hok := planned_ok hP
    have HF := Lib.hid hf
    have HP := Lib.hid hP
    have HPA := Lib.hid hpa
    have HOK := Lib.hid hok
    clear hok hpa hP hf
    go_wp2_with fail
    go_loopw [6, 15] (fun s6 s15 wr => ∃ k : Nat, s15 = .int .i64 k ∧ k ≤ 16 ∧ (∃ own, Sl wr 3 1 s6 (endsL P k).length (intsC (endsL P k)) own ∧ ∀ b, own = some b → w1.heap.size ≤ b) ∧ Frm w1.heap.size [] w1 wr) (fun _ s15 _ => 16 - (intOf s15).toNat)
    case atStart => exact ⟨0, rfl, Nat.zero_le _, ⟨none, Sl.nil _ _ _, fun b hb => by cases hb⟩, Frm.refl _ _ _⟩
    case round =>
      obtain ⟨k, rfl, hk, ⟨own, hsl, hown⟩, hfr⟩ := hrel
      obtain ⟨ad, cp, rfl⟩ := hsl.form
      by_cases hkl : k < 16
      · have hkl' : (k : Int) < 16 := by omega
        have hms := meas_up hkl
        have hnx := endsL_succ P k
        have hle := endsL_len P k
        obtain ⟨w4x, w5x⟩ := wrapUp (n := 16) hkl (by unfold maxLen; omega)
        obtain ⟨j, hj⟩ : ∃ j, j = (endsL P k).length := ⟨_, rfl⟩
        rw [← hj] at hsl hle ⊢
        have hsu := surely_any pb q' P HOK.out k (allP P) (allP P) hkl (allP_lt P) (allP_lt P) wr (HPA.out.frm hfr (Nat.le_refl _)) (HG.out.frm (HF.out.call hfr HF.out.size (by simp)) (Nat.le_refl _))
        have hev := everything_any pb q' P HOK.out wr (HPA.out.frm hfr (Nat.le_refl _))
        have hea : 2 ^ P.n - 1 = allP P := rfl
        rw [hea] at hev
        obtain ⟨al, hal⟩ : ∃ a, a = allP P := ⟨_, rfl⟩
        have hbe : surelyB P k al al = endsB P k := by rw [hal]; rfl
        rw [← hal] at hev hsu
        rw [hbe] at hsu
        cases hE : endsB P k
        · rw [hE] at hsu
          rw [hE, if_neg (by simp)] at hnx
          have HSL := Lib.hid hsl
          have HOWN := Lib.hid hown
          have HFR := Lib.hid hfr
          have HKL := Lib.hid hkl
          have HMS := Lib.hid hms
          have HNX := Lib.hid hnx
          have HLE := Lib.hid hle
          have HJ := Lib.hid hj
          have HSU := Lib.hid hsu
          have HEV := Lib.hid hev
          have HAL := Lib.hid hal
          have HBE := Lib.hid hbe
          have HE := Lib.hid hE
          clear hE hbe hal hev hsu hj hle hnx hms hkl hfr hown hsl
          go_wp2_with (first | (go_at_call 69; refine HEV.out.mono ?_; rintro e1 w2 ⟨rfl, rfl⟩) | (go_at_call 72; refine HSU.out.mono ?_; rintro e1 w2 ⟨rfl, hf1⟩))
          have hf2 := HFR.out.call hf1 HFR.out.size (by simp)
          have hs2 := HSL.out.frm hf1 (fun b hb => HSL.out.lt b hb) (by simp)
          have hfin : ∃ k' : Nat, Value.int .i64 ((k : Int) + 1) = .int .i64 k' ∧ k' ≤ 16 ∧ (∃ own, Sl w2 3 1 (.slice ad j cp) (endsL P k').length (intsC (endsL P k')) own ∧ ∀ b, own = some b → w1.heap.size ≤ b) ∧ Frm w1.heap.size [] w1 w2 :=
            ⟨k + 1, by simp, HKL.out, ⟨own, by rw [HNX.out, ← HJ.out]; exact hs2, HOWN.out⟩, hf2⟩
          clear hf1 hf2 hs2
          have HFIN := Lib.hid hfin
          clear hfin
          go_wp2_with fail
          (try simp only [w4x, w5x])
          exact ⟨HFIN.out, HMS.out⟩
        · rw [hE] at hsu
          rw [hE, if_pos rfl] at hnx
          have HSL := Lib.hid hsl
          have HOWN := Lib.hid hown
          have HFR := Lib.hid hfr
          have HKL := Lib.hid hkl
          have HMS := Lib.hid hms
          have HNX := Lib.hid hnx
          have HLE := Lib.hid hle
          have HJ := Lib.hid hj
          have HSU := Lib.hid hsu
          have HEV := Lib.hid hev
          have HAL := Lib.hid hal
          have HBE := Lib.hid hbe
          have HE := Lib.hid hE
          clear hE hbe hal hev hsu hj hle hnx hms hkl hfr hown hsl
          go_wp2_with (first | (go_at_call 69; refine HEV.out.mono ?_; rintro e1 w2 ⟨rfl, rfl⟩) | (go_at_call 72; refine HSU.out.mono ?_; rintro e1 w2 ⟨rfl, hf1⟩) | (at_builtin; refine hold ?_; intro qG hG))
          have hf2 := HFR.out.call hf1 HFR.out.size (by simp)
          have hs2 := HSL.out.frm hf1 (fun b hb => HSL.out.lt b hb) (by simp)
          clear hf1 HSL
          have HF2 := Lib.hid hf2
          have HSL := Lib.hid hs2
          clear hs2 hf2
          go_wp2_with (at_builtin; refine hold ?_; intro qG hG)
          refine hG.1 ?_; clear hG qG
          refine wpList_append_sl _ rfl (.tmp 25) (.tmp 27) 26 rfl 3 i0 _ 1 8 Tryd.underlying26 HI0.out HZ0.out HZ1.out HZ2.out rfl _ j (intsC (endsL P k)) own rfl (HSL.out.alloc _) ⟨w2.heap.size, 0, none⟩ 1 1 [.int .i64 (k : Int)] rfl rfl (news_alloc _ [.int .i64 (k : Int)] _) (by simp [Value.oneCell']) (by have := HLE.out; have := HKL.out; unfold maxLen; omega) (by have := HLE.out; have := HKL.out; omega) ?_
          intro v2 w4 own1 hs1 hf1 ho1
          have hfr4 : Frm w1.heap.size [] w1 w4 := (HF2.out.alloc HF2.out.size _).call hf1 (by have := HF2.out.size; simp; omega) (fun x hx hm => by have := HOWN.out x (by simpa using hm); omega)
          have hown1 : ∀ b, own1 = some b → w1.heap.size ≤ b := fun b hb => by
            rcases ho1 with h | ⟨q, h, hq⟩
            · exact HOWN.out b (by rw [← h]; exact hb)
            · rw [hb] at h; cases h; have := HF2.out.size; simp at hq; omega
          have hs3 : Sl w4 3 1 v2 (j + 1) (intsC (endsL P (k + 1))) own1 := by rw [HNX.out, intsC_snoc]; exact hs1
          obtain ⟨ad1, cp1, rfl⟩ := hs3.form
          have hfin : ∃ k' : Nat, Value.int .i64 ((k : Int) + 1) = .int .i64 k' ∧ k' ≤ 16 ∧ (∃ own, Sl w4 3 1 (.slice ad1 (j + 1) cp1) (endsL P k').length (intsC (endsL P k')) own ∧ ∀ b, own = some b → w1.heap.size ≤ b) ∧ Frm w1.heap.size [] w1 w4 :=
            ⟨k + 1, by simp, HKL.out, ⟨own1, by rw [show (endsL P (k + 1)).length = j + 1 by rw [HNX.out, HJ.out]; simp]; exact hs3, hown1⟩, hfr4⟩
          clear hf1 ho1 hs1 hs3 hfr4 hown1
          have HFIN := Lib.hid hfin
          clear hfin
          go_wp2_with fail
          (try simp only [w4x, w5x])
          exact ⟨HFIN.out, HMS.out⟩
      · have hkl' : ¬ (k : Int) < 16 := by omega
        obtain rfl : k = 16 := by omega
        obtain ⟨j, hj⟩ : ∃ j, j = (endsL P 16).length := ⟨_, rfl⟩
        rw [← hj] at hsl ⊢
        have HSL := Lib.hid hsl
        have HOWN := Lib.hid hown
        have HFR := Lib.hid hfr
        have HJ := Lib.hid hj
        clear hj hfr hown hsl
        go_wp2_with fail
        refine bodyPost_ret (v := .tuple #[.slice ad j cp, .int .i64 0]) (by simp [results, Tryd.results35, go_sem]) rfl ?_
        refine ⟨by unfold EndsIs; rw [HP.out]; exact ⟨_, own, rfl, by rw [← HJ.out]; exact HSL.out, fun b hb => by have := HOWN.out b hb; have := HF.out.size; omega⟩, HF.out.call HFR.out HF.out.size (by simp)⟩
end Go.Proofs.YtfmigicmfolbjaaDoor

namespace Go.Proofs.YtfmigicmfolbjaaDoor
set_option linter.all false
set_option linter.unusedSimpArgs false
set_option linter.unusedVariables false
open Go.RowKit

/-- The bits of the one that the other has not. -/
def andN (a b : Nat) : Nat := (BitVec.ofNat 32 a &&& ~~~(BitVec.ofNat 32 b)).toNat
theorem andN_bit {a b : Nat} (ha : a < 4294967296) (i : Nat) : (andN a b).testBit i = (a.testBit i && !b.testBit i) := by
  unfold andN
  rw [BitVec.testBit_toNat, BitVec.getLsbD_and, BitVec.getLsbD_not, BitVec.getLsbD_ofNat, BitVec.getLsbD_ofNat]
  by_cases h : i < 32
  · simp [h]
  · have : a.testBit i = false := Nat.testBit_lt_two_pow (Nat.lt_of_lt_of_le ha (Nat.pow_le_pow_right (n := 2) (i := 32) (by omega) (by omega)))
    simp [h, this]
theorem andNot_u32 {x y : Nat} (hx : x < 4294967296) (hy : y < 4294967296) : bits BinOp.andNot IntKind.u32 (x : Int) (y : Int) = ((andN x y : Nat) : Int) := by
  have e : bits BinOp.andNot IntKind.u32 (x : Int) (y : Int) = IntKind.u32.wrap (((BitVec.ofInt 32 (x : Int) &&& ~~~(BitVec.ofInt 32 (y : Int))).toNat : Nat) : Int) := rfl
  rw [e, BitVec.ofInt_natCast, BitVec.ofInt_natCast]
  exact u32_nat (BitVec.isLt _)
theorem andN_lt {a b n : Nat} (hn : n ≤ 32) (ha : a < 2 ^ n) : andN a b < 2 ^ n := by
  have ha2 : a < 4294967296 := Nat.lt_of_lt_of_le ha (Nat.pow_le_pow_right (n := 2) (i := n) (by omega) hn)
  refine Nat.lt_pow_two_of_testBit _ fun i hi => ?_
  rw [andN_bit ha2, Nat.testBit_lt_two_pow (Nat.lt_of_lt_of_le ha (Nat.pow_le_pow_right (n := 2) (by omega) hi))]
  rfl
/-- The steps that may come ahead of one. -/
def maybeS (P : PL) (i : Nat) : Nat := andN (andN (allP P) (P.after i)) (0 ||| 1 <<< i)
theorem maybeS_lt {P : PL} (h : PLOK P) (i : Nat) : maybeS P i < 2 ^ P.n := andN_lt (by have := h.n; omega) (andN_lt (by have := h.n; omega) (allP_lt P))
theorem all_bit (P : PL) (i : Nat) : (allP P).testBit i = decide (i < P.n) := by
  unfold allP
  exact Nat.testBit_two_pow_sub_one _ _
theorem maybe_bit {P : PL} (h : PLOK P) (i j : Nat) : (maybeS P i).testBit j = (decide (j < P.n) && !(P.after i).testBit j && !decide (j = i)) := by
  have h32 : allP P < 4294967296 := Nat.lt_of_lt_of_le (allP_lt P) (Nat.pow_le_pow_right (n := 2) (i := P.n) (j := 32) (by omega) (by have := h.n; omega))
  have h1 : andN (allP P) (P.after i) < 4294967296 := Nat.lt_of_lt_of_le (andN_lt (n := P.n) (by have := h.n; omega) (allP_lt P)) (Nat.pow_le_pow_right (n := 2) (i := P.n) (j := 32) (by omega) (by have := h.n; omega))
  unfold maybeS
  rw [andN_bit h1, andN_bit h32, all_bit, Nat.zero_or, Nat.shiftLeft_eq, Nat.one_mul, Nat.testBit_two_pow]
  congr 2
  simp only [eq_comm]
def sureN (P : PL) (i f : Nat) : Bool := surelyB P f (P.before i) (maybeS P i)
/-- The first need of a step that is not surely met. -/
def badF (P : PL) (i : Nat) : Option Nat := (bitsOf 16 (P.need i)).find? fun f => !sureN P i f
def soundO (P : PL) : Option (Nat × Nat) := (List.range P.n).findSome? fun i => (badF P i).map fun f => (i, f)
theorem find_at {p : Nat → Bool} : ∀ (A : List Nat) (t : Nat), t < A.length → (∀ k, k < t → p (A.getD k 0) = false) → p (A.getD t 0) = true → A.find? p = some (A.getD t 0)
  | [], t, h, _, _ => by simp at h
  | x :: A, 0, _, _, h => by
    have h : p x = true := h
    simp [h]
  | x :: A, t + 1, h, h1, h2 => by
    have hx : p x = false := h1 0 (by omega)
    rw [List.find?_cons_of_neg (by simp [hx])]
    exact find_at A t (by simpa using h) (fun k hk => h1 (k + 1) (by omega)) h2
theorem find_no {p : Nat → Bool} (A : List Nat) (h : ∀ k, k < A.length → p (A.getD k 0) = false) : A.find? p = none := by
  rw [List.find?_eq_none]
  intro x hx
  obtain ⟨i, hi, rfl⟩ := List.getElem_of_mem hx
  have := h i hi
  simpa [List.getD_eq_getElem?_getD, hi] using this
theorem some_at {α : Type} {g : Nat → Option α} {n i : Nat} {x : α} (hi : i < n) (h1 : ∀ j, j < i → g j = none) (h2 : g i = some x) : (List.range n).findSome? g = some x := by
  induction n with
  | zero => omega
  | succ n ih =>
    rw [List.range_succ, List.findSome?_append]
    by_cases e : i < n
    · rw [ih e]; rfl
    · obtain rfl : i = n := by omega
      have : (List.range i).findSome? g = none := by
        rw [List.findSome?_eq_none_iff]
        intro j hj
        exact h1 j (by simpa using hj)
      rw [this]
      simp [h2]
theorem some_no {α : Type} {g : Nat → Option α} {n : Nat} (h : ∀ j, j < n → g j = none) : (List.range n).findSome? g = none := by
  rw [List.findSome?_eq_none_iff]
  intro j hj
  exact h j (by simpa using hj)
def SoundIs (R : Raw) (e : Ending) : Prop := match plannedO R with
  | none => e = .returned (.tuple #[.int .i64 (-1), .int .i64 (-1), .int .i64 2])
  | some P => match soundO P with
    | none => e = .returned (.tuple #[.int .i64 (-1), .int .i64 (-1), .int .i64 0])
    | some (i, f) => e = .returned (.tuple #[.int .i64 (i : Int), .int .i64 (f : Int), .int .i64 9])
end Go.Proofs.YtfmigicmfolbjaaDoor
