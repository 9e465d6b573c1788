/-
  Texts K7, T4, C1 of this claim, one behind the other.
-/
import Derived.Test.YtfmigicmfolbjaaDoorB2
namespace Go.Proofs.YtfmigicmfolbjaaDoor
set_option linter.all false
set_option linter.unusedSimpArgs false
set_option linter.unusedVariables false
open Go.RowKit

theorem u64_nat {x : Nat} (h : x < 18446744073709551616) : IntKind.u64.wrap (x : Int) = (x : Int) := by
  have e : IntKind.u64.wrap (x : Int) = (x : Int) % 18446744073709551616 := rfl
  rw [e]
  omega
theorem u32_nat {x : Nat} (h : x < 4294967296) : IntKind.u32.wrap (x : Int) = (x : Int) := by
  have e : IntKind.u32.wrap (x : Int) = (x : Int) % 4294967296 := rfl
  rw [e]
  omega
theorem and_u64 {x y : Nat} (hx : x < 18446744073709551616) (hy : y < 18446744073709551616) : bits BinOp.and IntKind.u64 (x : Int) (y : Int) = ((x &&& y : Nat) : Int) := by
  have e : bits BinOp.and IntKind.u64 (x : Int) (y : Int) = IntKind.u64.wrap (((BitVec.ofInt 64 (x : Int) &&& BitVec.ofInt 64 (y : Int)).toNat : Nat) : Int) := rfl
  rw [e, BitVec.toNat_and, BitVec.ofInt_natCast, BitVec.ofInt_natCast, BitVec.toNat_ofNat, BitVec.toNat_ofNat, Nat.mod_eq_of_lt (by omega), Nat.mod_eq_of_lt (by omega)]
  exact u64_nat (Nat.lt_of_le_of_lt Nat.and_le_left hx)
theorem and_u32 {x y : Nat} (hx : x < 4294967296) (hy : y < 4294967296) : bits BinOp.and IntKind.u32 (x : Int) (y : Int) = ((x &&& y : Nat) : Int) := by
  have e : bits BinOp.and IntKind.u32 (x : Int) (y : Int) = IntKind.u32.wrap (((BitVec.ofInt 32 (x : Int) &&& BitVec.ofInt 32 (y : Int)).toNat : Nat) : Int) := rfl
  rw [e, BitVec.toNat_and, BitVec.ofInt_natCast, BitVec.ofInt_natCast, BitVec.toNat_ofNat, BitVec.toNat_ofNat, Nat.mod_eq_of_lt (by omega), Nat.mod_eq_of_lt (by omega)]
  exact u32_nat (Nat.lt_of_le_of_lt Nat.and_le_left hx)
theorem or_u32 {x y : Nat} (hx : x < 4294967296) (hy : y < 4294967296) : bits BinOp.or IntKind.u32 (x : Int) (y : Int) = ((x ||| y : Nat) : Int) := by
  have e : bits BinOp.or IntKind.u32 (x : Int) (y : Int) = IntKind.u32.wrap (((BitVec.ofInt 32 (x : Int) ||| BitVec.ofInt 32 (y : Int)).toNat : Nat) : Int) := rfl
  rw [e, BitVec.toNat_or, BitVec.ofInt_natCast, BitVec.ofInt_natCast, BitVec.toNat_ofNat, BitVec.toNat_ofNat, Nat.mod_eq_of_lt (by omega), Nat.mod_eq_of_lt (by omega)]
  exact u32_nat (Nat.or_lt_two_pow (n := 32) hx hy)
/-- A bit, as the program asks it. -/
theorem bit_u64 {e i : Nat} (he : e < 18446744073709551616) : bits BinOp.and IntKind.u64 ((e : Int) / 2 ^ ((i : Int).toNat)) 1 = if e.testBit i = true then 1 else 0 := by
  have h1 : (e : Int) / 2 ^ ((i : Int).toNat) = ((e >>> i : Nat) : Int) := by
    rw [Int.toNat_natCast, Nat.shiftRight_eq_div_pow]
    simp
  have h2 := and_u64 (x := e >>> i) (y := 1) (Nat.lt_of_le_of_lt (by rw [Nat.shiftRight_eq_div_pow]; exact Nat.div_le_self _ _) he) (by omega)
  rw [h1]
  have h3 : ((1 : Nat) : Int) = 1 := rfl
  rw [h3] at h2
  rw [h2, shr_one]
  split <;> rfl
theorem bit_u32 {e i : Nat} (he : e < 4294967296) : bits BinOp.and IntKind.u32 ((e : Int) / 2 ^ ((i : Int).toNat)) 1 = if e.testBit i = true then 1 else 0 := by
  have h1 : (e : Int) / 2 ^ ((i : Int).toNat) = ((e >>> i : Nat) : Int) := by
    rw [Int.toNat_natCast, Nat.shiftRight_eq_div_pow]
    simp
  have h2 := and_u32 (x := e >>> i) (y := 1) (Nat.lt_of_le_of_lt (by rw [Nat.shiftRight_eq_div_pow]; exact Nat.div_le_self _ _) he) (by omega)
  rw [h1]
  have h3 : ((1 : Nat) : Int) = 1 := rfl
  rw [h3] at h2
  rw [h2, shr_one]
  split <;> rfl
end Go.Proofs.YtfmigicmfolbjaaDoor

namespace Go.Proofs.YtfmigicmfolbjaaDoor
set_option linter.all false
set_option linter.unusedSimpArgs false
set_option linter.unusedVariables false
open Go.RowKit

/-- The places of the laid tables. -/
def at64 (i : Nat) : Nat := 285870213051353865 * 2 ^ i % 18446744073709551616 / 288230376151711744
def at32 (i : Nat) : Nat := 125613361 * 2 ^ i % 4294967296 / 134217728
theorem at64_lt (i : Nat) : at64 i < 64 := by unfold at64; omega
theorem at32_lt (i : Nat) : at32 i < 32 := by unfold at32; omega
/-- The laid tables. -/
structure Glob (w : World) : Prop where
  h64 : ∀ i, i < 64 → w.cell? ⟨1, at64 i, none⟩ = some (.int .u8 (i : Int))
  h32 : ∀ i, i < 32 → w.cell? ⟨0, at32 i, none⟩ = some (.int .u8 (i : Int))
theorem Glob.frm {w w' : World} {B : Nat} (h : Glob w) (hf : Frm B [] w w') (hB : w.heap.size ≤ B) : Glob w' := by
  have hl := cell_lt (h.h64 0 (by omega))
  have hl2 := cell_lt (h.h32 0 (by omega))
  have hl' : 1 < B := by simp at hl; omega
  have hl2' : 0 < B := by simp at hl2; omega
  exact ⟨fun i hi => (hf.cell hl' (by simp)).trans (h.h64 i hi), fun i hi => (hf.cell hl2' (by simp)).trans (h.h32 i hi)⟩
theorem tz64_mul (i : Nat) (hi : i < 64) : IntKind.u64.wrap (((2 ^ i : Nat) : Int) * 285870213051353865) / 288230376151711744 = ((at64 i : Nat) : Int) := by
  have e : IntKind.u64.wrap (((2 ^ i : Nat) : Int) * 285870213051353865) = (((2 ^ i : Nat) : Int) * 285870213051353865) % 18446744073709551616 := rfl
  rw [e]
  unfold at64
  generalize 2 ^ i = p
  omega
theorem tz64_low (s i q : Nat) (hs : s = 2 ^ (i + 1) * q + 2 ^ i) (hlt : s < 18446744073709551616) : bits BinOp.and IntKind.u64 (s : Int) (IntKind.u64.wrap (-(s : Int))) = ((2 ^ i : Nat) : Int) := by
  have hp : 0 < 2 ^ i := Nat.pow_pos (by omega)
  have e : IntKind.u64.wrap (-(s : Int)) = (((18446744073709551616 - s : Nat)) : Int) := by
    have e1 : IntKind.u64.wrap (-(s : Int)) = (-(s : Int)) % 18446744073709551616 := rfl
    rw [e1]
    omega
  rw [e, and_u64 hlt (by omega)]
  have h := neg_low (n := 64) (i := i) (q := q) (by rw [← hs]; exact hlt)
  rw [← hs] at h
  exact congrArg (fun x : Nat => (x : Int)) h
set_option maxRecDepth 100000 in
set_option maxHeartbeats 4000000 in
theorem tz64_any (s i q : Nat) (hs : s = 2 ^ (i + 1) * q + 2 ^ i) (hlt : s < 18446744073709551616) (w : World) (hg : Glob w) :
    Calls Tryd.prog 110 #[.int .u64 (s : Int)] w fun e w' => e = .returned (.int .i64 (i : Int)) ∧ w = w' := by
  have hf0 := Tryd.func110
  have hp : 0 < 2 ^ i := Nat.pow_pos (by omega)
  have hi : i < 64 := low_lt (n := 64) (i := i) (q := q) (by omega)
  have hs0 : ((s : Int) == 0) = false := by
    have : 0 < s := by omega
    simp; omega
  have hE : IntKind.u64.wrap (bits BinOp.and IntKind.u64 (s : Int) (IntKind.u64.wrap (-(s : Int))) * 285870213051353865) / 288230376151711744 = ((at64 i : Nat) : Int) := by
    rw [tz64_low s i q hs hlt]; exact tz64_mul i hi
  have hk := at64_lt i
  have hc := hg.h64 i hi
  generalize at64 i = k at hE hk hc
  have hk0 : 0 ≤ (k : Int) := by omega
  have hk1 : (k : Int) < 64 := by omega
  have hw : wrap64 (i : Int) = (i : Int) := IntWalk.wrap64_in _ (by omega)
  clear hk
  have HS := Lib.hid hs
  have HLT := Lib.hid hlt
  have HG := Lib.hid hg
  have HP := Lib.hid hp
  have HI := Lib.hid hi
  clear hi hp hg hlt hs
  go_enter Tryd.func110, Tryd.ntmps110
  go_wp2_with fail
  go_ret
  exact ⟨by show Ending.returned (Value.int IntKind.i64 (wrap64 (i : Int))) = _; rw [hw], rfl⟩
theorem tz32_mul (i : Nat) (hi : i < 32) : IntKind.u32.wrap (((2 ^ i : Nat) : Int) * 125613361) / 134217728 = ((at32 i : Nat) : Int) := by
  have e : IntKind.u32.wrap (((2 ^ i : Nat) : Int) * 125613361) = (((2 ^ i : Nat) : Int) * 125613361) % 4294967296 := rfl
  rw [e]
  unfold at32
  generalize 2 ^ i = p
  omega
theorem tz32_low (s i q : Nat) (hs : s = 2 ^ (i + 1) * q + 2 ^ i) (hlt : s < 4294967296) : bits BinOp.and IntKind.u32 (s : Int) (IntKind.u32.wrap (-(s : Int))) = ((2 ^ i : Nat) : Int) := by
  have hp : 0 < 2 ^ i := Nat.pow_pos (by omega)
  have e : IntKind.u32.wrap (-(s : Int)) = (((4294967296 - s : Nat)) : Int) := by
    have e1 : IntKind.u32.wrap (-(s : Int)) = (-(s : Int)) % 4294967296 := rfl
    rw [e1]
    omega
  rw [e, and_u32 hlt (by omega)]
  have h := neg_low (n := 32) (i := i) (q := q) (by rw [← hs]; exact hlt)
  rw [← hs] at h
  exact congrArg (fun x : Nat => (x : Int)) h
set_option maxRecDepth 100000 in
set_option maxHeartbeats 4000000 in
theorem tz32_any (s i q : Nat) (hs : s = 2 ^ (i + 1) * q + 2 ^ i) (hlt : s < 4294967296) (w : World) (hg : Glob w) :
    Calls Tryd.prog 103 #[.int .u32 (s : Int)] w fun e w' => e = .returned (.int .i64 (i : Int)) ∧ w = w' := by
  have hf0 := Tryd.func103
  have hp : 0 < 2 ^ i := Nat.pow_pos (by omega)
  have hi : i < 32 := low_lt (n := 32) (i := i) (q := q) (by omega)
  have hs0 : ((s : Int) == 0) = false := by
    have : 0 < s := by omega
    simp; omega
  have hE : IntKind.u32.wrap (bits BinOp.and IntKind.u32 (s : Int) (IntKind.u32.wrap (-(s : Int))) * 125613361) / 134217728 = ((at32 i : Nat) : Int) := by
    rw [tz32_low s i q hs hlt]; exact tz32_mul i hi
  have hk := at32_lt i
  have hc := hg.h32 i hi
  have hE : bits BinOp.and IntKind.u32 (s : Int) (-(s : Int) % 4294967296) * 125613361 % 4294967296 / 134217728 = ((at32 i : Nat) : Int) := hE
  generalize at32 i = k at hE hk hc
  have hk0 : 0 ≤ (k : Int) := by omega
  have hk1 : (k : Int) < 32 := by omega
  have hw : wrap64 (i : Int) = (i : Int) := IntWalk.wrap64_in _ (by omega)
  clear hk
  have HS := Lib.hid hs
  have HLT := Lib.hid hlt
  have HG := Lib.hid hg
  have HP := Lib.hid hp
  have HI := Lib.hid hi
  clear hi hp hg hlt hs
  go_enter Tryd.func103, Tryd.ntmps103
  go_wp2_with fail
  go_ret
  exact ⟨by show Ending.returned (Value.int IntKind.i64 (wrap64 (i : Int))) = _; rw [hw], rfl⟩
set_option maxRecDepth 100000 in
set_option maxHeartbeats 4000000 in
theorem tz_any (s i q : Nat) (hs : s = 2 ^ (i + 1) * q + 2 ^ i) (hlt : s < 18446744073709551616) (w : World) (hg : Glob w) :
    Calls Tryd.prog 89 #[.int .u64 (s : Int)] w fun e w' => e = .returned (.int .i64 (i : Int)) ∧ w = w' := by
  have hf0 := Tryd.func89
  have HS := Lib.hid hs
  have HLT := Lib.hid hlt
  have HG := Lib.hid hg
  clear hg hlt hs
  go_enter Tryd.func89, Tryd.ntmps89
  go_wp2_with (go_at_call 110; refine (tz64_any s i q HS.out HLT.out _ HG.out).mono ?_; rintro e w' ⟨rfl, rfl⟩)
  refine bodyPost_ret (v := .int .i64 (i : Int)) (by simp [results, Tryd.results89, go_sem]) rfl ?_
  exact ⟨rfl, rfl⟩
end Go.Proofs.YtfmigicmfolbjaaDoor

namespace Go.Proofs.YtfmigicmfolbjaaDoor
set_option linter.all false
set_option linter.unusedSimpArgs false
set_option linter.unusedVariables false
open Go.RowKit

set_option maxHeartbeats 400000 in
theorem within_any (a b c : Int) (w : World) : Calls Tryd.prog 53 #[.int .i64 a, .int .i64 b, .int .i64 c] w fun e w' => e = .returned (.bool (inB a b c)) ∧ w = w' := by
  by_cases h1 : b ≤ a
  · by_cases h2 : a ≤ c
    · go_enter Tryd.func53, Tryd.ntmps53
      go_wp2
      go_ret
      exact ⟨by simp [inB, h1, h2], rfl⟩
    · go_enter Tryd.func53, Tryd.ntmps53
      go_wp2
      go_ret
      exact ⟨by simp [inB, h2], rfl⟩
  · go_enter Tryd.func53, Tryd.ntmps53
    go_wp2
    go_ret
    exact ⟨by simp [inB]; omega, rfl⟩
set_option maxHeartbeats 400000 in
theorem refIn_any (a b c : Int) (w : World) : Calls Tryd.prog 91 #[.int .i64 a, .int .i64 b, .int .i64 c] w fun e w' => e = .returned (.bool (inB a b c)) ∧ w = w' := by
  by_cases h1 : b ≤ a
  · by_cases h2 : a ≤ c
    · go_enter Tryd.func91, Tryd.ntmps91
      go_wp2
      go_ret
      exact ⟨by simp [inB, h1, h2], rfl⟩
    · go_enter Tryd.func91, Tryd.ntmps91
      go_wp2
      go_ret
      exact ⟨by simp [inB, h2], rfl⟩
  · go_enter Tryd.func91, Tryd.ntmps91
    go_wp2
    go_ret
    exact ⟨by simp [inB]; omega, rfl⟩
theorem refin_any (a b c : Int) (w : World) : Calls Tryd.prog 57 #[.int .i64 a, .int .i64 b, .int .i64 c] w fun e w' => e = .returned (.bool (inB a b c)) ∧ w = w' := by
  go_enter Tryd.func57, Tryd.ntmps57
  go_wp2_with (go_at_call 91; refine (refIn_any _ _ _ _).mono ?_; rintro e w' ⟨rfl, rfl⟩)
  go_ret
  exact ⟨rfl, rfl⟩
theorem floor_neg {n b : Int} (hb : 1 ≤ b) (h : n.tmod b < 0) : n.tdiv b - 1 = n / b := by
  have h1 := Int.tmod_eq_emod (a := n) (b := b)
  have h2 := Int.tdiv_eq_ediv (a := n) (b := b)
  have h3 := Int.emod_nonneg n (show b ≠ 0 by omega)
  by_cases hc : 0 ≤ n ∨ b ∣ n
  · rw [if_pos hc] at h1; omega
  · rw [if_neg hc, Int.sign_eq_one_of_pos (by omega)] at h2; omega
theorem floor_pos {n b : Int} (hb : 1 ≤ b) (h : ¬ n.tmod b < 0) : n.tdiv b = n / b := by
  have h1 := Int.tmod_eq_emod (a := n) (b := b)
  have h2 := Int.tdiv_eq_ediv (a := n) (b := b)
  have h3 := Int.emod_lt_of_pos n (show 0 < b by omega)
  by_cases hc : 0 ≤ n ∨ b ∣ n
  · rw [if_pos hc] at h2; omega
  · rw [if_neg hc] at h1; omega
theorem floor_in {n b : Int} (h0 : -4611686018427387904 ≤ n ∧ n ≤ 4611686018427387904) (b0 : 1 ≤ b) : -4611686018427387904 ≤ n / b ∧ n / b ≤ 4611686018427387904 := by
  constructor
  · have := Int.ediv_le_ediv (show 0 < b by omega) h0.1
    have h2 : (-4611686018427387904 : Int) ≤ -4611686018427387904 / b := by
      rw [Int.le_ediv_iff_mul_le (by omega)]
      omega
    omega
  · have := Int.ediv_le_self (a := 4611686018427387904) b (by omega)
    have h3 := Int.ediv_le_ediv (show 0 < b by omega) h0.2
    omega
set_option maxHeartbeats 4000000 in
/-- floor -/
theorem floor_any (n b : Int) (w : World) (h0 : -4611686018427387904 ≤ n ∧ n ≤ 4611686018427387904) (b0 : 1 ≤ b) (b1 : b ≤ 4611686018427387904) :
    Calls Tryd.prog 86 #[.int .i64 n, .int .i64 b] w fun e w' => e = .returned (.int .i64 (n / b)) ∧ w = w' := by
  have hf0 := Tryd.func86
  have hb : b ≠ 0 := by omega
  have hin := floor_in (b := b) h0 b0
  by_cases hn : n.tmod b < 0
  · go_enter Tryd.func86, Tryd.ntmps86
    go_wp2_with fail
    go_ret
    exact ⟨by simp [floor_neg b0 hn, IntWalk.wrap64_in _ (show -9223372036854775808 ≤ n / b ∧ n / b ≤ 9223372036854775807 by omega)], rfl⟩
  · have hn' := floor_pos b0 hn
    go_enter Tryd.func86, Tryd.ntmps86
    go_wp2_with fail
    go_ret
    exact ⟨by simp [hn'], rfl⟩
/-- Are numbers all from one to another one? -/
def allIn (F : Nat → Int) (n : Nat) (a b : Int) : Bool := (List.range n).all fun i => inB (F i) a b
theorem allIn_iff {F : Nat → Int} {n : Nat} {a b : Int} : allIn F n a b = true ↔ ∀ i, i < n → inB (F i) a b = true := by unfold allIn; simp
set_option maxRecDepth 100000 in
theorem allc_any (x a b : Int) (p q : Nat) (w : World) (ha : Blk w p 3 [.int .i64 a]) (hb : Blk w q 3 [.int .i64 b]) :
    Calls Tryd.prog 78 #[.int .i64 x, .pointer (some ⟨p, 0, none⟩), .pointer (some ⟨q, 0, none⟩)] w fun e w' => e = .returned (.bool (!inB x a b)) ∧ Frm w.heap.size [] w w' := by
  have c1 : w.cell? ⟨p, 0, none⟩ = some (.int .i64 a) := ha.cell 0
  have c2 : w.cell? ⟨q, 0, none⟩ = some (.int .i64 b) := hb.cell 0
  clear ha hb
  go_enter Tryd.func78, Tryd.ntmps78
  go_wp2_with (go_at_call 53; refine (within_any _ _ _ _).mono ?_; rintro e w' ⟨rfl, rfl⟩)
  go_ret
  exact ⟨rfl, Frm.refl _ _ _⟩
set_option maxRecDepth 100000 in
set_option maxHeartbeats 4000000 in
theorem indexI_any (g : FuncId) (caps : Array Value) (hen : Enters g) (ad : Option Addr) (b off len cap : Nat) (F : Nat → Int) (w : World) (hr : RwI w ad b off len F) (p : Nat → Bool)
    (hg : ∀ W, Frm w.heap.size [] w W → ∀ i, i < len → Calls Tryd.prog g (#[.int .i64 (F i)] ++ caps) W fun e w' => e = .returned (.bool (p i)) ∧ Frm W.heap.size [] W w') :
    Calls Tryd.prog 108 #[.slice ad len cap, .func (.func g) #[] caps] w fun e w' => (∃ r : Int, e = .returned (.int .i64 r) ∧ First p len r) ∧ Frm w.heap.size [] w w' := by
  have hen' : ∀ (args : Array Value) (W : World), (callFunc g args).run Tryd.prog W = .ok (.enter g args) W := hen.out
  have hl2 : (len : Int) ≤ 9223372036854775807 := by
    have : maxLen ≤ 9223372036854775807 := by decide
    have := hr.len
    omega
  have HR := Lib.hid hr
  have HG := Lib.hid hg
  clear hg hr
  clear hen
  go_enter Tryd.func108, Tryd.ntmps108
  go_wp2_with fail
  go_loopw [8] (fun i8 wr => ∃ j : Nat, i8 = .int .i64 j ∧ j ≤ len ∧ (∀ k, k < j → p k = false) ∧ Frm w.heap.size [] w wr) (fun i8 _ => len - (intOf i8).toNat)
  case atStart => exact ⟨0, rfl, Nat.zero_le _, fun k hk => by omega, by repeat (first | with_reducible exact Frm.refl _ _ _ | with_reducible refine Frm.drewN ?_ | with_reducible refine Frm.drew ?_ | ((with_reducible refine Frm.setCell' ?_ ?_); · first | (left; simp; done) | (right; simp; done) | (right; simp; omega)) | ((with_reducible refine Frm.alloc' ?_ ?_); · first | exact Nat.le_refl _ | (simp; done) | (simp; omega)))⟩
  case round =>
    obtain ⟨j, rfl, hj, hno, hfr⟩ := hrel
    by_cases hjl : j < len
    · have hjl' : (j : Int) < (len : Int) := by omega
      have had' := HR.out.ad (by omega)
      subst had'
      obtain ⟨x, hx⟩ : ∃ x, x = F j := ⟨_, rfl⟩
      have c1 : wr.cell? ⟨b, off + j, none⟩ = some (.int .i64 x) := by rw [hx]; exact (HR.out.frm hfr (Nat.le_refl _)).cellI hjl
      have hca := HG.out wr hfr j hjl
      rw [← hx] at hca
      cases hp : p j
      · rw [hp] at hca
        have hnx : ∀ k, k < j + 1 → p k = false := fun k hk => by
          rcases Nat.lt_or_ge k j with e | e
          · exact hno k e
          · obtain rfl : k = j := by omega
            exact hp
        have HNO := Lib.hid hno
        have HFR := Lib.hid hfr
        have HCA := Lib.hid hca
        have HP := Lib.hid hp
        have HJL := Lib.hid hjl
        have HNX := Lib.hid hnx
        have HX := Lib.hid hx
        clear hx hnx hjl hp hca hfr hno
        go_wp2_with fail
        refine HCA.out.mono ?_; rintro e w1 ⟨rfl, hf1⟩
        have hf2 : Frm w.heap.size [] w w1 := HFR.out.call hf1 HFR.out.size (by simp)
        clear hf1
        have HF2 := Lib.hid hf2
        clear hf2
        go_wp2_with fail
        exact ⟨⟨j + 1, by simp, HJL.out, HNX.out, HF2.out⟩, by have := HJL.out; simp [intOf]; omega⟩
      · rw [hp] at hca
        have HNO := Lib.hid hno
        have HFR := Lib.hid hfr
        have HCA := Lib.hid hca
        have HP := Lib.hid hp
        have HJL := Lib.hid hjl
        have HX := Lib.hid hx
        clear hx hjl hp hca hfr hno
        go_wp2_with fail
        refine HCA.out.mono ?_; rintro e w1 ⟨rfl, hf1⟩
        have hf2 : Frm w.heap.size [] w w1 := HFR.out.call hf1 HFR.out.size (by simp)
        clear hf1
        have HF2 := Lib.hid hf2
        clear hf2
        go_wp2_with fail
        go_ret
        exact ⟨⟨_, rfl, .inr ⟨j, HJL.out, rfl, HP.out, HNO.out⟩⟩, HF2.out⟩
    · have hjl' : ¬ (j : Int) < (len : Int) := by omega
      obtain rfl : j = len := by omega
      have HNO := Lib.hid hno
      have HFR := Lib.hid hfr
      clear hfr hno
      go_wp2_with fail
      go_ret
      exact ⟨⟨_, rfl, .inl ⟨rfl, HNO.out⟩⟩, HFR.out⟩
set_option maxRecDepth 100000 in
set_option maxHeartbeats 4000000 in
theorem contI_any (g : FuncId) (caps : Array Value) (hen : Enters g) (ad : Option Addr) (b off len cap : Nat) (F : Nat → Int) (w : World) (hr : RwI w ad b off len F) (p : Nat → Bool)
    (hg : ∀ W, Frm w.heap.size [] w W → ∀ i, i < len → Calls Tryd.prog g (#[.int .i64 (F i)] ++ caps) W fun e w' => e = .returned (.bool (p i)) ∧ Frm W.heap.size [] W w') :
    Calls Tryd.prog 77 #[.slice ad len cap, .func (.func g) #[] caps] w fun e w' => (∃ r : Int, e = .returned (.bool (decide (0 ≤ r))) ∧ First p len r) ∧ Frm w.heap.size [] w w' := by
  have hin := indexI_any g caps hen ad b off len cap F w hr p hg
  have HIN := Lib.hid hin
  clear hin
  clear hr hg hen
  go_enter Tryd.func77, Tryd.ntmps77
  go_wp2_with fail
  refine HIN.out.mono ?_; rintro e w1 ⟨⟨r, rfl, hr⟩, hf1⟩
  by_cases h0 : 0 ≤ r
  · have HR := Lib.hid hr
    have HF1 := Lib.hid hf1
    clear hf1 hr
    go_wp2_with fail
    go_ret
    exact ⟨⟨r, by first | rfl | (rw [decide_eq_true h0]; rfl), HR.out⟩, HF1.out⟩
  · have HR := Lib.hid hr
    have HF1 := Lib.hid hf1
    clear hf1 hr
    go_wp2_with fail
    go_ret
    exact ⟨⟨r, rfl, HR.out⟩, HF1.out⟩
set_option maxRecDepth 100000 in
set_option maxHeartbeats 4000000 in
theorem all_any (a b : Int) (ad : Option Addr) (bk off len cap : Nat) (F : Nat → Int) (w : World) (hr : RwI w ad bk off len F) :
    Calls Tryd.prog 44 #[.int .i64 a, .int .i64 b, .slice ad len cap] w fun e w' => e = .returned (.bool (allIn F len a b)) ∧ Frm w.heap.size [] w w' := by
  have hcl : Enters 78 := enters Tryd.func78 (by kernel_rfl) (by kernel_rfl)
  have HR := Lib.hid hr
  have HCL := Lib.hid hcl
  clear hcl hr
  go_enter Tryd.func44, Tryd.ntmps44
  go_upto_region 1 with fail
  refine namedC ?_; intro W hW
  have h1 : Blk W w.heap.size 3 [.int .i64 a] := by rw [hW]; repeat (first | exact Blk.new w 3 [.int .i64 a] | refine Blk.alloc' ?_)
  have h2 : Blk W (w.heap.size + 1) 3 [.int .i64 b] := by rw [hW]; exact Blk.new' _ 3 [.int .i64 b] (by simp)
  have hf : Frm w.heap.size [] w W := by rw [hW]; repeat (first | with_reducible exact Frm.refl _ _ _ | with_reducible refine Frm.drewN ?_ | with_reducible refine Frm.drew ?_ | ((with_reducible refine Frm.setCell' ?_ ?_); · first | (left; simp; done) | (right; simp; done) | (right; simp; omega)) | ((with_reducible refine Frm.alloc' ?_ ?_); · first | exact Nat.le_refl _ | (simp; done) | (simp; omega)))
  clear hW
  have hin := contI_any 78 #[.pointer (some ⟨w.heap.size, 0, none⟩), .pointer (some ⟨w.heap.size + 1, 0, none⟩)] HCL.out ad bk off len cap F W (HR.out.frm hf (Nat.le_refl _)) (fun i => !inB (F i) a b)
    (fun V hV i hi => allc_any (F i) a b _ _ V (hV.blk h1 h1.lt (by simp)) (hV.blk h2 h2.lt (by simp)))
  clear h1 h2
  have HF := Lib.hid hf
  have HIN := Lib.hid hin
  clear hin hf
  go_wp2_with fail
  refine HIN.out.mono ?_; rintro e w1 ⟨⟨r, rfl, hr⟩, hf1⟩
  have hfin := HF.out.call hf1 HF.out.size (by simp)
  have hres : (!(decide (0 ≤ r))) = allIn F len a b := by
    have := First.all hr
    rw [← allIn_iff] at this
    cases h1 : allIn F len a b
    · rw [h1] at this
      cases h2 : !(decide (0 ≤ r))
      · rfl
      · exact absurd (this.1 h2) (by simp)
    · exact this.2 h1
  have HRES := Lib.hid hres
  have HFIN := Lib.hid hfin
  clear hfin hres
  clear hf1 hr
  go_wp2_with fail
  go_ret
  exact ⟨by rw [← HRES.out]; rfl, HFIN.out⟩
set_option maxRecDepth 100000 in
set_option maxHeartbeats 4000000 in
/-- The last one. -/
theorem last_any (g : FuncId) (caps : Array Value) (hen : Enters g) (a b : Int) (p : Int → Bool) (w : World) (hab : a ≤ b) (h0 : -1000000000000 ≤ a) (h1 : b ≤ 1000000000000) (hpa : p a = true) (hmono : ∀ x y, a ≤ x → x ≤ y → y ≤ b → p y = true → p x = true)
    (hg : ∀ W, Frm w.heap.size [] w W → ∀ m, a ≤ m → m ≤ b → Calls Tryd.prog g (#[.int .i64 m] ++ caps) W fun e w' => e = .returned (.bool (p m)) ∧ Frm W.heap.size [] W w') :
    Calls Tryd.prog 48 #[.int .i64 a, .int .i64 b, .func (.func g) #[] caps] w fun e w' => (∃ r : Int, e = .returned (.int .i64 r) ∧ Last p a b r) ∧ Frm w.heap.size [] w w' := by
  have hen' : ∀ (args : Array Value) (W : World), (callFunc g args).run Tryd.prog W = .ok (.enter g args) W := hen.out
  have HG := Lib.hid hg
  have HM := Lib.hid hmono
  have HPA := Lib.hid hpa
  clear hpa hmono hg
  clear hen
  go_enter Tryd.func48, Tryd.ntmps48
  go_wp2_with fail
  go_loopw [0, 1] (fun s0 s1 wr => ∃ x y : Int, s0 = .int .i64 x ∧ s1 = .int .i64 y ∧ a ≤ x ∧ x ≤ y ∧ y ≤ b ∧ p x = true ∧ (∀ z, y < z → z ≤ b → p z = false) ∧ Frm w.heap.size [] w wr) (fun s0 s1 _ => (intOf s1 - intOf s0).toNat)
  case atStart => exact ⟨a, b, rfl, rfl, Int.le_refl _, hab, Int.le_refl _, HPA.out, fun z h1 h2 => absurd h1 (by omega), by repeat (first | with_reducible exact Frm.refl _ _ _ | with_reducible refine Frm.drewN ?_ | with_reducible refine Frm.drew ?_ | ((with_reducible refine Frm.setCell' ?_ ?_); · first | (left; simp; done) | (right; simp; done) | (right; simp; omega)) | ((with_reducible refine Frm.alloc' ?_ ?_); · first | exact Nat.le_refl _ | (simp; done) | (simp; omega)))⟩
  case round =>
    obtain ⟨x, y, rfl, rfl, hax, hxy, hyb, hpx, hno, hfr⟩ := hrel
    by_cases hlt : x < y
    · obtain ⟨m, hm⟩ : ∃ m, m = y - (y - x) / 2 := ⟨_, rfl⟩
      have w1 : wrap64 (y - x) = y - x := IntWalk.wrap64_in _ (by omega)
      have v1 : IntKind.i64.wrap (y - x) = y - x := IntWalk.i64_in _ (by omega)
      have w2 : (y - x).tdiv 2 = (y - x) / 2 := Int.tdiv_eq_ediv_of_nonneg (by omega)
      have w3 : wrap64 ((y - x) / 2) = (y - x) / 2 := IntWalk.wrap64_in _ (by omega)
      have v3 : IntKind.i64.wrap ((y - x) / 2) = (y - x) / 2 := IntWalk.i64_in _ (by omega)
      have w4 : wrap64 (y - (y - x) / 2) = m := by rw [← hm]; exact IntWalk.wrap64_in _ (by omega)
      have v4 : IntKind.i64.wrap (y - (y - x) / 2) = m := by rw [← hm]; exact IntWalk.i64_in _ (by omega)
      have w5 : wrap64 (m - 1) = m - 1 := IntWalk.wrap64_in _ (by omega)
      have v5 : IntKind.i64.wrap (m - 1) = m - 1 := IntWalk.i64_in _ (by omega)
      have hmx : x < m := by omega
      have hmy : m ≤ y := by omega
      have hca := HG.out wr hfr m (by omega) (by omega)
      clear hm
      have HRNG := Lib.hid (And.intro hax (And.intro hxy (And.intro hyb (And.intro hmx hmy))))
      clear hax hxy hyb hmx hmy
      cases hp : p m
      · rw [hp] at hca
        have HNO := Lib.hid hno
        have HFR := Lib.hid hfr
        have HCA := Lib.hid hca
        have HP := Lib.hid hp
        have HPX := Lib.hid hpx
        clear hpx hp hca hfr hno
        go_wp2_with fail
        refine HCA.out.mono ?_; rintro e w6 ⟨rfl, hf1⟩
        have hf2 : Frm w.heap.size [] w w6 := HFR.out.call hf1 HFR.out.size (by simp)
        clear hf1
        have HF2 := Lib.hid hf2
        clear hf2
        go_wp2_with fail
        (try simp only [w5, v5])
        obtain ⟨r1, r2, r3, r4, r5⟩ := HRNG.out
        refine ⟨⟨x, m - 1, rfl, rfl, r1, by omega, by omega, HPX.out, fun z hz1 hz2 => ?_, HF2.out⟩, by simp [intOf]; omega⟩
        cases hpz : p z
        · rfl
        · have := HM.out m z (by omega) (by omega) hz2 hpz
          rw [HP.out] at this
          cases this
      · rw [hp] at hca
        have HNO := Lib.hid hno
        have HFR := Lib.hid hfr
        have HCA := Lib.hid hca
        have HP := Lib.hid hp
        clear hp hca hfr hno
        go_wp2_with fail
        refine HCA.out.mono ?_; rintro e w6 ⟨rfl, hf1⟩
        have hf2 : Frm w.heap.size [] w w6 := HFR.out.call hf1 HFR.out.size (by simp)
        clear hf1
        have HF2 := Lib.hid hf2
        clear hf2
        go_wp2_with fail
        obtain ⟨r1, r2, r3, r4, r5⟩ := HRNG.out
        exact ⟨⟨m, y, rfl, rfl, by omega, r5, r3, HP.out, HNO.out, HF2.out⟩, by simp [intOf]; omega⟩
    · have hxy' : x = y := by omega
      subst hxy'
      have HNO := Lib.hid hno
      have HFR := Lib.hid hfr
      have HPX := Lib.hid hpx
      clear hpx hfr hno
      go_wp2_with fail
      go_ret
      exact ⟨⟨x, rfl, ⟨hax, hyb, HPX.out, HNO.out⟩⟩, HFR.out⟩
end Go.Proofs.YtfmigicmfolbjaaDoor
