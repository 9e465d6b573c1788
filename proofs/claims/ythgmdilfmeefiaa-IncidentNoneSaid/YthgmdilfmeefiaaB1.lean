/-
  Texts J1, J2, J3, J4, J5, J6 of this claim, one behind the other.
-/
import Derived.Test.YthgmdilfmeefiaaB0
import Derived.Lib.TrimUEq
import Derived.Lib.OthersKept
import Derived.Shelf.GgClosure.StringsIndexFunc
import Derived.Deep.LoopGhost
namespace Go.Proofs.Ythgmdilfmeefiaa
set_option linter.all false
set_option linter.unusedSimpArgs false
set_option linter.unusedVariables false

abbrev Spt := Int × Int
def spt (l : List Spt) (i : Nat) : Spt := l.getD i (0, 0)
def turnZ (a b c : Spt) : Int := (b.1 - a.1) * (c.2 - b.2) - (b.2 - a.2) * (c.1 - b.1)
def plcB (p : Spt) : Bool := inB p.1 (-16777216) 16777216 && inB p.2 (-16777216) 16777216
/-- Of a corner: it is turned to the left there, and no corner is to the right of its edge. -/
def cornB (l : List Spt) (i : Nat) : Bool := decide (0 < turnZ (spt l i) (spt l ((i + 1) % l.length)) (spt l ((i + 2) % l.length))) && (List.range l.length).all fun k => decide (0 ≤ turnZ (spt l i) (spt l ((i + 1) % l.length)) (spt l k))
def areaB (l : List Spt) : Bool := (decide (1 ≤ l.length) && decide (l.length ≤ 12)) && (l.all plcB) && (if l.length < 3 then decide (l.length = 1) || decide (spt l 0 ≠ spt l 1) else (List.range l.length).all (cornB l))
def sumZ (f : Nat → Int) : Nat → Int
  | 0 => 0
  | n + 1 => sumZ f n + f n
theorem sumZ_add (f g : Nat → Int) : ∀ n, sumZ (fun i => f i + g i) n = sumZ f n + sumZ g n
  | 0 => rfl
  | n + 1 => by have := sumZ_add f g n; simp only [sumZ]; omega
theorem sumZ_shift (g : Nat → Int) : ∀ n, sumZ (fun i => g (i + 1)) n = sumZ g n + g n - g 0
  | 0 => by simp [sumZ]
  | n + 1 => by have := sumZ_shift g n; simp only [sumZ]; omega
theorem sumZ_congr {f g : Nat → Int} : ∀ n, (∀ i, i < n → f i = g i) → sumZ f n = sumZ g n
  | 0, _ => rfl
  | n + 1, h => by simp only [sumZ]; rw [sumZ_congr n (fun i hi => h i (by omega)), h n (by omega)]
theorem sumZ_pos {f : Nat → Int} : ∀ n, (∀ i, i < n → 0 ≤ f i) → 0 ≤ sumZ f n
  | 0, _ => Int.le_refl _
  | n + 1, h => by have := sumZ_pos n (fun i hi => h i (by omega)); have := h n (by omega); simp only [sumZ]; omega
theorem sumZ_gt {f : Nat → Int} : ∀ n, (∀ i, i < n → 0 ≤ f i) → ∀ j, j < n → 0 < f j → 0 < sumZ f n
  | 0, _, j, hj, _ => absurd hj (by omega)
  | n + 1, h, j, hj, h0 => by
    simp only [sumZ]
    rcases Nat.lt_or_ge j n with h1 | h1
    · have := sumZ_gt n (fun i hi => h i (by omega)) j h1 h0
      have := h n (by omega)
      omega
    · obtain rfl : j = n := by omega
      have := sumZ_pos j (fun i hi => h i (by omega))
      omega
/-- Twice the area, as the document adds it. -/
def crossZ (a b : Spt) : Int := a.1 * b.2 - b.1 * a.2
def areaZ (l : List Spt) (k : Nat) : Int := sumZ (fun i => crossZ (spt l i) (spt l ((i + 1) % l.length))) k
theorem turn_cross (a b p : Spt) : turnZ a b p = crossZ a b + (crossZ b p - crossZ a p) := by
  unfold turnZ crossZ
  grind
theorem turn_cyc (a b c : Spt) : turnZ b c a = turnZ a b c := by
  unfold turnZ
  grind
/-- An area that is right at each corner goes round counterclockwise. -/
theorem area_sum {l : List Spt} (h3 : 3 ≤ l.length) (h : (List.range l.length).all (cornB l) = true) : 0 < areaZ l l.length := by
  obtain ⟨n, hn⟩ : ∃ n, n = l.length := ⟨_, rfl⟩
  have hc : ∀ i, i < n → 0 < turnZ (spt l i) (spt l ((i + 1) % n)) (spt l ((i + 2) % n)) ∧ ∀ k, k < n → 0 ≤ turnZ (spt l i) (spt l ((i + 1) % n)) (spt l k) := fun i hi => by
    rw [List.all_eq_true] at h
    have h1 := h i (by rw [← hn]; simpa using hi)
    unfold cornB at h1
    rw [Bool.and_eq_true, decide_eq_true_eq, List.all_eq_true, ← hn] at h1
    exact ⟨h1.1, fun k hk => by simpa using h1.2 k (by simpa using hk)⟩
  rw [← hn] at h3 ⊢
  have e : areaZ l n = sumZ (fun i => turnZ (spt l i) (spt l ((i + 1) % n)) (spt l 0)) n := by
    have h1 : sumZ (fun i => turnZ (spt l i) (spt l ((i + 1) % n)) (spt l 0)) n = sumZ (fun i => crossZ (spt l i) (spt l ((i + 1) % n)) + (crossZ (spt l ((i + 1) % n)) (spt l 0) + -crossZ (spt l (i % n)) (spt l 0))) n := by
      refine sumZ_congr n fun i hi => ?_
      rw [turn_cross, Nat.mod_eq_of_lt hi]
      omega
    rw [h1, sumZ_add, sumZ_add]
    have h2 : sumZ (fun i => crossZ (spt l ((i + 1) % n)) (spt l 0)) n = sumZ (fun i => crossZ (spt l (i % n)) (spt l 0)) n + crossZ (spt l (n % n)) (spt l 0) - crossZ (spt l (0 % n)) (spt l 0) := sumZ_shift (fun i => crossZ (spt l (i % n)) (spt l 0)) n
    have h3 : sumZ (fun i => -crossZ (spt l (i % n)) (spt l 0)) n = - sumZ (fun i => crossZ (spt l (i % n)) (spt l 0)) n := by
      have := sumZ_add (fun i => crossZ (spt l (i % n)) (spt l 0)) (fun i => -crossZ (spt l (i % n)) (spt l 0)) n
      have h0 : sumZ (fun i => crossZ (spt l (i % n)) (spt l 0) + -crossZ (spt l (i % n)) (spt l 0)) n = sumZ (fun _ => 0) n := sumZ_congr n fun i _ => by omega
      have hz : ∀ m, sumZ (fun _ => 0) m = 0 := fun m => by induction m with
        | zero => rfl
        | succ m ih => simp only [sumZ]; omega
      rw [h0, hz] at this
      omega
    rw [h2, h3, Nat.mod_self, Nat.zero_mod]
    unfold areaZ
    rw [← hn]
    omega
  rw [e]
  refine sumZ_gt n (fun i hi => (hc i hi).2 0 (by omega)) 1 (by omega) ?_
  have h0 := (hc 0 (by omega)).1
  rw [Nat.zero_add, Nat.mod_eq_of_lt (show 1 < n by omega), Nat.zero_add, Nat.mod_eq_of_lt (show 2 < n by omega)] at h0
  rw [show 1 + 1 = 2 from rfl, Nat.mod_eq_of_lt (show 2 < n by omega)]
  rw [turn_cyc]
  exact h0
/-- A string that is a name. -/
def letterB (c : Nat) : Bool := decide (97 ≤ c) && decide (c ≤ 122)
def charB (c : Nat) : Bool := letterB c || (decide (48 ≤ c) && decide (c ≤ 57)) || decide (c = 45)
def byteAt (s : ByteArray) (i : Nat) : Nat := (s.data.toList.getD i 0).toNat
def nameB (s : ByteArray) : Bool := inB s.size 1 32 && letterB (byteAt s 0) && (List.range s.size).all fun i => charB (byteAt s i)
structure Rep where
  kind : Int
  time : Int
  src : ByteArray
  abt : ByteArray
  wh : List Spt
  souls : Int
  trust : Int
def repB (r : Rep) : Bool := inB r.kind 1 4 && inB r.time 0 1073741824 && nameB r.src && ((decide (r.abt.size = 0) && decide (r.kind ≠ 1) && decide (r.kind ≠ 4)) || nameB r.abt) && areaB r.wh && inB r.souls (-1) 10000 && inB r.trust 0 1000
/-- The least box around the first k corners. -/
structure Bx where
  lx : Int
  ly : Int
  hx : Int
  hy : Int
def boxK (l : List Spt) : Nat → Bx
  | 0 => ⟨(spt l 0).1, (spt l 0).2, (spt l 0).1, (spt l 0).2⟩
  | k + 1 => ⟨min (boxK l k).lx (spt l k).1, min (boxK l k).ly (spt l k).2, max (boxK l k).hx (spt l k).1, max (boxK l k).hy (spt l k).2⟩
def boxL (l : List Spt) : Bx := boxK l l.length
theorem boxK_ok (l : List Spt) : ∀ k, (boxK l k).lx ≤ (boxK l k).hx ∧ (boxK l k).ly ≤ (boxK l k).hy
  | 0 => ⟨Int.le_refl _, Int.le_refl _⟩
  | k + 1 => by have := boxK_ok l k; simp only [boxK]; omega
def meetB (a b : List Spt) (n : Int) : Bool := decide ((boxL a).lx - n ≤ (boxL b).hx) && decide ((boxL b).lx ≤ (boxL a).hx + n) && decide ((boxL a).ly - n ≤ (boxL b).hy) && decide ((boxL b).ly ≤ (boxL a).hy + n)
def closeB (a b : List Spt) (n : Int) : Bool := decide (max ((boxL a).lx - n) (boxL b).lx ≤ min ((boxL a).hx + n) (boxL b).hx) && decide (max ((boxL a).ly - n) (boxL b).ly ≤ min ((boxL a).hy + n) (boxL b).hy)
theorem close_meet (a b : List Spt) {n : Int} (hn : 0 ≤ n) : closeB a b n = meetB a b n := by
  have h1 := boxK_ok a a.length
  have h2 := boxK_ok b b.length
  unfold closeB meetB boxL
  rw [Bool.eq_iff_iff]
  simp only [Bool.and_eq_true, decide_eq_true_eq]
  omega
theorem meet_symm (a b : List Spt) (n : Int) : meetB a b n = meetB b a n := by
  unfold meetB
  rw [Bool.eq_iff_iff]
  simp only [Bool.and_eq_true, decide_eq_true_eq]
  omega
def distZ (a b : Int) : Int := max (a - b) (b - a)
theorem dist_symm (a b : Int) : distZ a b = distZ b a := by unfold distZ; omega
theorem dist_pos (a b : Int) : 0 ≤ distZ a b := by unfold distZ; omega
def byZ (drift : Int) (a b : Rep) : Int := (drift * distZ a.time b.time + 3599) / 3600
def bothN (a b : Rep) : Bool := decide (a.abt.size ≠ 0) && decide (b.abt.size ≠ 0)
/-- What two reports are to each other. -/
def cmpZ (window drift : Int) (a b : Rep) : Int :=
  if bothN a b = true then (if a.abt = b.abt then 1 else 2)
  else if window < distZ a.time b.time then 3
  else if meetB a.wh b.wh (byZ drift a b) = true then 5 else 4
theorem cmp_symm (window drift : Int) (a b : Rep) : cmpZ window drift a b = cmpZ window drift b a := by
  have h1 : bothN a b = bothN b a := by unfold bothN; rw [Bool.and_comm]
  have h2 : byZ drift a b = byZ drift b a := by unfold byZ; rw [dist_symm]
  unfold cmpZ
  rw [h1, dist_symm, h2, meet_symm]
  by_cases h : a.abt = b.abt
  · simp [h]
  · have h3 : ¬ b.abt = a.abt := fun e => h e.symm
    simp [h, h3]
def rulesB (window drift : Int) : Bool := inB window 0 604800 && inB drift 0 100000
end Go.Proofs.Ythgmdilfmeefiaa

namespace Go.Proofs.Ythgmdilfmeefiaa
set_option linter.all false
set_option linter.unusedSimpArgs false
set_option linter.unusedVariables false

structure Prf where
  kind : Int
  rep : Int
  time : Int
  by_ : ByteArray
  wh : List Spt
  count : Int
structure BS where
  window : Int
  drift : Int
  reps : List Rep
  of : List Nat
  opn : List Bool
  prf : List Prf
def rep0 : Rep := ⟨0, 0, ⟨#[]⟩, ⟨#[]⟩, [], 0, 0⟩
def prf0 : Prf := ⟨0, 0, 0, ⟨#[]⟩, [], 0⟩
def BS.rp (s : BS) (j : Nat) : Rep := s.reps.getD j rep0
def BS.pf (s : BS) (j : Nat) : Prf := s.prf.getD j prf0
def BS.o (s : BS) (j : Nat) : Nat := s.of.getD j 0
/-- Has an incident a report to which another one is so? -/
def hasI (s : BS) (i : Int) (r : Rep) (is : Int) : Bool := (List.range s.reps.length).any fun j => decide ((s.o j : Int) = i) && decide (cmpZ s.window s.drift (s.rp j) r = is)
def mayB (s : BS) (r : Rep) (i : Nat) : Bool := s.opn.getD i false && hasI s i r 5 && !hasI s i r 2
def mayL (s : BS) (r : Rep) (k : Nat) : List Nat := (List.range k).filter (mayB s r)
/-- Which incident gets a report, and why. -/
def placeS (s : BS) (r : Rep) : Nat × Int := match (List.range s.opn.length).find? (fun (i : Nat) => hasI s i r 1) with
  | some i => (i, 1)
  | none => match mayL s r s.opn.length with
    | [] => (s.opn.length, 4)
    | [i] => (i, 2)
    | _ => (s.opn.length, 3)
def takenS (s : BS) (r : Rep) (at_ : Nat) : BS := { s with reps := s.reps ++ [r], of := s.of ++ [at_], opn := (if at_ = s.opn.length then s.opn ++ [true] else s.opn).set at_ true }
def tookS (s : BS) (r : Rep) : BS × Int × Int × Int :=
  if repB r = false then (s, 0, 0, 2)
  else if s.reps.length = 500 then (s, 0, 0, 6)
  else (takenS s r (placeS s r).1, (placeS s r).1, (placeS s r).2, 0)
def foundB (count : Int) (r : Rep) : Bool := decide (r.souls = 0) || decide (max 1 r.souls ≤ count)
def fitsB (s : BS) (p : Prf) (r : Rep) : Bool :=
  if p.kind = 1 then foundB p.count r
  else if p.kind = 2 then decide (r.kind = 1) && decide (r.abt = p.by_)
  else if p.kind = 3 then decide (r.kind = 4) && decide (p.by_ ≠ r.src) && decide (r.abt.size ≠ 0)
  else if p.kind = 4 then (decide (r.kind = 2) || decide (r.kind = 3)) && decide (p.by_ = r.src)
  else decide (r.kind = 3) && meetB r.wh p.wh 0 && decide (distZ r.time p.time ≤ s.window)
def rightB (p : Prf) (r : Rep) : Bool := inB p.kind 1 5 && inB p.time 0 1073741824 && decide (r.time ≤ p.time) && nameB p.by_ && areaB p.wh && inB p.count 0 10000
def proveS (s : BS) (p : Prf) : BS × Int :=
  if inB p.rep 0 ((s.reps.length : Int) - 1) = false then (s, 7)
  else if (rightB p (s.rp p.rep.toNat) && (decide (p.kind = 1) || decide (p.count = 0)) && fitsB s p (s.rp p.rep.toNat)) = false then (s, 2)
  else if s.prf.length = 500 then (s, 6)
  else ({ s with prf := s.prf ++ [p] }, 0)
def settleB (s : BS) (n : Nat) (p : Prf) : Bool := decide (p.rep = (n : Int)) || (decide (p.kind = 1) && decide (s.o p.rep.toNat = s.o n) && decide ((s.rp n).time ≤ p.time) && foundB p.count (s.rp n))
def settledB (s : BS) (n : Nat) : Bool := s.prf.any (settleB s n)
def ofL (s : BS) (i : Int) : List Nat := (List.range s.reps.length).filter fun j => decide ((s.o j : Int) = i)
def missL (s : BS) (i : Int) : List Nat := (List.range s.reps.length).filter fun j => decide ((s.o j : Int) = i) && !settledB s j
def thereB (s : BS) (i : Int) : Bool := inB i 0 ((s.opn.length : Int) - 1)
def closeS (s : BS) (i : Int) : BS × Int × Int :=
  if thereB s i = false then (s, -1, 7)
  else if s.opn.getD i.toNat false = false then (s, -1, 9)
  else match missL s i with
    | x :: _ => (s, x, 9)
    | [] => ({ s with opn := s.opn.set i.toNat false }, -1, 0)
def otherB (s : BS) (a b : Int) : Bool := (List.range s.reps.length).any fun j => decide ((s.o j : Int) = a) && hasI s b (s.rp j) 2
def joinedS (s : BS) (a b : Int) : BS := { s with of := s.of.map (fun (x : Nat) => if (x : Int) = b then a.toNat else x), opn := (s.opn.set a.toNat true).set b.toNat false }
def joinS (s : BS) (a b : Int) : BS × Int :=
  if ofL s a = [] ∨ ofL s b = [] then (s, 7)
  else if a = b then (s, 2)
  else if otherB s a b = true then (s, 9)
  else (joinedS s a b, 0)
def openL (s : BS) : List Nat := (List.range s.opn.length).filter fun i => s.opn.getD i false
structure Act_ where
  what : Int
  n : Int
  m : Int
  r : Rep
  p : Prf
def doS (s : BS) (x : Act_) : BS × Int × Int × Int :=
  if x.what = 1 then ((proveS s x.p).1, 0, 0, (proveS s x.p).2)
  else if x.what = 2 then ((closeS s x.n).1, (closeS s x.n).2.1, 0, (closeS s x.n).2.2)
  else if x.what = 3 then ((joinS s x.n x.m).1, 0, 0, (joinS s x.n x.m).2)
  else tookS s x.r
/-- What always holds of a book. -/
structure BInv (s : BS) : Prop where
  rules : rulesB s.window s.drift = true
  len : s.of.length = s.reps.length
  lt : ∀ j, j < s.reps.length → s.o j < s.opn.length
  ok : ∀ r, r ∈ s.reps → repB r = true
  opn : s.opn.length ≤ s.reps.length
  max : s.reps.length ≤ 500 ∧ s.prf.length ≤ 500
  prf : ∀ p, p ∈ s.prf → (0 ≤ p.rep ∧ p.rep < s.reps.length) ∧ rightB p (s.rp p.rep.toNat) = true
end Go.Proofs.Ythgmdilfmeefiaa

namespace Go.Proofs.Ythgmdilfmeefiaa
set_option linter.all false
set_option linter.unusedSimpArgs false
set_option linter.unusedVariables false
open Go.RowKit

set_option maxHeartbeats 400000 in
theorem withinI_any (a b c : Int) (w : World) : Calls Try.prog 38 #[.int .i64 a, .int .i64 b, .int .i64 c] w fun e w' => e = .returned (.bool (inB a b c)) ∧ w = w' := by
  by_cases h1 : b ≤ a
  · by_cases h2 : a ≤ c
    · go_enter Try.func38, Try.ntmps38
      go_wp2
      go_ret
      exact ⟨by simp [inB, h1, h2], rfl⟩
    · go_enter Try.func38, Try.ntmps38
      go_wp2
      go_ret
      exact ⟨by simp [inB]; omega, rfl⟩
  · go_enter Try.func38, Try.ntmps38
    go_wp2
    go_ret
    exact ⟨by simp [inB]; omega, rfl⟩
set_option maxHeartbeats 400000 in
theorem withinR_any (a b c : Int) (w : World) : Calls Try.prog 54 #[.int .i64 a, .int .i64 b, .int .i64 c] w fun e w' => e = .returned (.bool (inB a b c)) ∧ w = w' := by
  by_cases h1 : b ≤ a
  · by_cases h2 : a ≤ c
    · go_enter Try.func54, Try.ntmps54
      go_wp2
      go_ret
      exact ⟨by simp [inB, h1, h2], rfl⟩
    · go_enter Try.func54, Try.ntmps54
      go_wp2
      go_ret
      exact ⟨by simp [inB]; omega, rfl⟩
  · go_enter Try.func54, Try.ntmps54
    go_wp2
    go_ret
    exact ⟨by simp [inB]; omega, rfl⟩
set_option maxHeartbeats 400000 in
theorem refIn_any (a b c : Int) (w : World) : Calls Try.prog 41 #[.int .i64 a, .int .i64 b, .int .i64 c] w fun e w' => e = .returned (.bool (inB a b c)) ∧ w = w' := by
  by_cases h1 : b ≤ a
  · by_cases h2 : a ≤ c
    · go_enter Try.func41, Try.ntmps41
      go_wp2
      go_ret
      exact ⟨by simp [inB, h1, h2], rfl⟩
    · go_enter Try.func41, Try.ntmps41
      go_wp2
      go_ret
      exact ⟨by simp [inB]; omega, rfl⟩
  · go_enter Try.func41, Try.ntmps41
    go_wp2
    go_ret
    exact ⟨by simp [inB]; omega, rfl⟩
theorem refTime_any (a : Int) (w : World) : Calls Try.prog 59 #[.int .i64 a] w fun e w' => e = .returned (.bool (inB a 0 1073741824)) ∧ w = w' := by
  go_enter Try.func59, Try.ntmps59
  go_wp2_with (go_at_call 41; refine (refIn_any _ _ _ _).mono ?_; rintro e w' ⟨rfl, rfl⟩)
  go_ret
  exact ⟨rfl, rfl⟩
theorem nameB_ok {s : ByteArray} (h : inB s.size 1 32 = true) (hl : letterB (byteAt s 0) = true) {r : Bool} (hr : r = true ↔ ∀ i, i < s.size → charB (byteAt s i) = true) : nameB s = r := by
  unfold nameB
  rw [h, hl, Bool.true_and, Bool.true_and, Bool.eq_iff_iff, hr, List.all_eq_true]
  simp
theorem nameB_no {s : ByteArray} (hl : letterB (byteAt s 0) = false) : nameB s = false := by
  unfold nameB
  rw [hl, Bool.and_false, Bool.false_and]
theorem byteAt_at {s : ByteArray} {j : Nat} (hj : j < s.size) : byteAt s j = s[j].toNat := by
  unfold byteAt
  have hs : j < s.data.size := hj
  simp only [List.getD, Array.getElem?_toList, Array.getElem?_eq_getElem hs, Option.getD_some]
  rfl
theorem nameB_bad {s : ByteArray} {j : Nat} (hj : j < s.size) (hc : charB (byteAt s j) = false) : nameB s = false := by
  unfold nameB
  have : ((List.range s.size).all fun i => charB (byteAt s i)) = false := by
    rw [← Bool.not_eq_true, List.all_eq_true]
    intro h
    have := h j (by simpa using hj)
    rw [hc] at this
    cases this
  rw [this, Bool.and_false]
set_option maxRecDepth 100000 in
set_option maxHeartbeats 4000000 in
theorem refName_any (s : ByteArray) (w : World) : Calls Try.prog 58 #[.string s] w fun e w' => e = .returned (.bool (nameB s)) ∧ Frm w.heap.size [] w w' := by
  cases h : inB s.size 1 32
  · have HH := Lib.hid h
    clear h
    go_enter Try.func58, Try.ntmps58
    go_wp2_with (go_at_call 41; refine (refIn_any _ _ _ _).mono ?_; rintro e w' ⟨rfl, rfl⟩; rw [HH.out])
    go_ret
    exact ⟨by unfold nameB; rw [HH.out]; rfl, by repeat (first | with_reducible exact Frm.refl _ _ _ | with_reducible refine Frm.drewN ?_ | with_reducible refine Frm.drew ?_ | ((with_reducible refine Frm.setCell' ?_ ?_); · first | (left; simp; done) | (right; simp; done) | (right; simp; omega)) | ((with_reducible refine Frm.alloc' ?_ ?_); · first | exact Nat.le_refl _ | (simp; done) | (simp; omega)))⟩
  · obtain ⟨h1, h2⟩ := inB_iff.1 h
    have h0 : byteAt s 0 = s[0].toNat := by
      unfold byteAt
      have hs : 0 < s.data.size := by have : s.size = s.data.size := rfl; omega
      simp only [List.getD, Array.getElem?_toList, Array.getElem?_eq_getElem hs, Option.getD_some]
      rfl
    by_cases ha : 97 ≤ s[0].toNat
    · by_cases hb : s[0].toNat ≤ 122
      · have hl : letterB (byteAt s 0) = true := by rw [h0]; simp [letterB, ha, hb]
        have ha' : ¬ ((s[0].toNat : Nat) : Int) < 97 := by omega
        have hb' : ¬ (122 : Int) < ((s[0].toNat : Nat) : Int) := by omega
        have HH := Lib.hid h
        have HL := Lib.hid hl
        have H0 := Lib.hid h0
        clear h0 hl h
        go_enter Try.func58, Try.ntmps58
        go_wp2_with (go_at_call 41; refine (refIn_any _ _ _ _).mono ?_; rintro e w' ⟨rfl, rfl⟩; rw [HH.out])
        go_loopw [3] (fun i3 wr => ∃ j : Nat, i3 = .int .i64 j ∧ j ≤ s.size ∧ (∀ k, k < j → charB (byteAt s k) = true) ∧ Frm w.heap.size [] w wr) (fun i3 _ => s.size - (intOf i3).toNat)
        case atStart => exact ⟨0, rfl, Nat.zero_le _, fun k hk => by omega, by repeat (first | with_reducible exact Frm.refl _ _ _ | with_reducible refine Frm.drewN ?_ | with_reducible refine Frm.drew ?_ | ((with_reducible refine Frm.setCell' ?_ ?_); · first | (left; simp; done) | (right; simp; done) | (right; simp; omega)) | ((with_reducible refine Frm.alloc' ?_ ?_); · first | exact Nat.le_refl _ | (simp; done) | (simp; omega)))⟩
        case round =>
          obtain ⟨j, rfl, hj, hall, hfr⟩ := hrel
          by_cases hjl : j < s.size
          · have hjl' : (j : Int) < (s.size : Int) := by omega
            have hbj : byteAt s j = s[j].toNat := byteAt_at hjl
            have hyes : charB s[j].toNat = true → ∀ k, k < j + 1 → charB (byteAt s k) = true := fun hc k hk => by
              rcases Nat.lt_or_ge k j with e | e
              · exact hall k e
              · obtain rfl : k = j := by omega
                rw [hbj]; exact hc
            have hno : charB s[j].toNat = false → nameB s = false := fun hc => nameB_bad hjl (by rw [hbj]; exact hc)
            have HJL := Lib.hid hjl
            have HALL := Lib.hid hall
            have HFR := Lib.hid hfr
            have HBJ := Lib.hid hbj
            have HYES := Lib.hid hyes
            have HNO := Lib.hid hno
            clear hno hyes hbj hfr hall
            go_wp2_with fail
            all_goals try simp only [Bool.not_eq_eq_eq_not, Bool.not_true, Bool.not_false, decide_eq_false_iff_not, decide_eq_true_eq, bne_iff_ne, ne_eq, bne_eq_false_iff_eq] at *
            all_goals first
              | (refine ⟨⟨j + 1, by simp, HJL.out, HYES.out (by simp only [charB, letterB, Bool.or_eq_true, Bool.and_eq_true, decide_eq_true_eq]; omega), HFR.out⟩, by have := HJL.out; simp [intOf]; omega⟩)
              | (go_ret; exact ⟨by rw [HNO.out (by rw [← Bool.not_eq_true]; simp only [charB, letterB, Bool.or_eq_true, Bool.and_eq_true, decide_eq_true_eq]; omega)]; rfl, HFR.out⟩)
          · have hjl' : ¬ (j : Int) < (s.size : Int) := by omega
            obtain rfl : j = s.size := by omega
            have HALL := Lib.hid hall
            have HFR := Lib.hid hfr
            clear hfr hall
            go_wp2_with fail
            go_ret
            exact ⟨by rw [nameB_ok (r := true) HH.out HL.out (by simpa using HALL.out)]; rfl, HFR.out⟩
      · have hl : letterB (byteAt s 0) = false := by rw [h0]; simp [letterB]; omega
        have ha' : ¬ ((s[0].toNat : Nat) : Int) < 97 := by omega
        have hb' : (122 : Int) < ((s[0].toNat : Nat) : Int) := by omega
        have HH := Lib.hid h
        have HL := Lib.hid hl
        have H0 := Lib.hid h0
        clear h0 hl h
        go_enter Try.func58, Try.ntmps58
        go_wp2_with (go_at_call 41; refine (refIn_any _ _ _ _).mono ?_; rintro e w' ⟨rfl, rfl⟩; rw [HH.out])
        go_ret
        exact ⟨by rw [nameB_no HL.out]; rfl, by repeat (first | with_reducible exact Frm.refl _ _ _ | with_reducible refine Frm.drewN ?_ | with_reducible refine Frm.drew ?_ | ((with_reducible refine Frm.setCell' ?_ ?_); · first | (left; simp; done) | (right; simp; done) | (right; simp; omega)) | ((with_reducible refine Frm.alloc' ?_ ?_); · first | exact Nat.le_refl _ | (simp; done) | (simp; omega)))⟩
    · have hl : letterB (byteAt s 0) = false := by rw [h0]; simp [letterB]; omega
      have ha' : ((s[0].toNat : Nat) : Int) < 97 := by omega
      have HH := Lib.hid h
      have HL := Lib.hid hl
      have H0 := Lib.hid h0
      clear h0 hl h
      go_enter Try.func58, Try.ntmps58
      go_wp2_with (go_at_call 41; refine (refIn_any _ _ _ _).mono ?_; rintro e w' ⟨rfl, rfl⟩; rw [HH.out])
      go_ret
      exact ⟨by rw [nameB_no HL.out]; rfl, by repeat (first | with_reducible exact Frm.refl _ _ _ | with_reducible refine Frm.drewN ?_ | with_reducible refine Frm.drew ?_ | ((with_reducible refine Frm.setCell' ?_ ?_); · first | (left; simp; done) | (right; simp; done) | (right; simp; omega)) | ((with_reducible refine Frm.alloc' ?_ ?_); · first | exact Nat.le_refl _ | (simp; done) | (simp; omega)))⟩
/-- A rune that no name has. -/
def badR (c : Nat) : Bool := !charB c
theorem decode_good {s : ByteArray} {pos : Nat} (h : byteAt s pos < 128) : Utf8.decode s pos = (byteAt s pos, 1) := by
  rw [Lib.decode_N]
  exact Lib.decodeN_ascii _ _ _ _ _ h
theorem decodeN_great {n b0 b1 b2 b3 : Nat} (h : 128 ≤ b0) : 128 ≤ (Lib.decodeN n b0 b1 b2 b3).1 := by
  unfold Lib.decodeN
  rw [if_neg (by omega)]
  split
  · split <;> simp <;> omega
  · split
    · split <;> simp <;> omega
    · split
      · split <;> simp <;> omega
      · simp
theorem decode_great {s : ByteArray} {pos : Nat} (h : 128 ≤ byteAt s pos) : 128 ≤ (Utf8.decode s pos).1 := by
  rw [Lib.decode_N]
  exact decodeN_great h
theorem bad_great {c : Nat} (h : 128 ≤ c) : badR c = true := by
  unfold badR charB letterB
  simp
  omega
theorem idx_good {s : ByteArray} : ∀ (f pos : Nat), s.size ≤ pos + f → (0 ≤ Lib.idxFuncFrom badR true s f pos ↔ ¬ ∀ i, pos ≤ i → i < s.size → charB (byteAt s i) = true)
  | 0, pos, h => by
    unfold Lib.idxFuncFrom
    constructor
    · intro h0; omega
    · intro h0; exact absurd (fun i h1 h2 => by omega) h0
  | f + 1, pos, h => by
    unfold Lib.idxFuncFrom
    by_cases hp : pos < s.size
    · rw [if_pos hp]
      by_cases hb : charB (byteAt s pos) = true
      · have hlt : byteAt s pos < 128 := by
          unfold charB letterB at hb
          simp at hb
          omega
        rw [decode_good hlt]
        have hbr : badR (byteAt s pos) = false := by unfold badR; rw [hb]; rfl
        dsimp only
        rw [hbr, if_neg (by simp), idx_good f (pos + 1) (by omega)]
        constructor
        · intro h1 h2
          exact h1 fun i hi hs => h2 i (by omega) hs
        · intro h1 h2
          refine h1 fun i hi hs => ?_
          rcases Nat.lt_or_ge pos i with h3 | h3
          · exact h2 i h3 hs
          · obtain rfl : i = pos := by omega
            exact hb
      · have hbr : badR (Utf8.decode s pos).1 = true := by
          rcases Nat.lt_or_ge (byteAt s pos) 128 with h1 | h1
          · rw [decode_good h1]
            unfold badR
            simpa using hb
          · exact bad_great (decode_great h1)
        rw [if_pos hbr]
        constructor
        · intro _ h1
          exact hb (h1 pos (Nat.le_refl _) hp)
        · intro _; omega
    · rw [if_neg hp]
      constructor
      · intro h0; omega
      · intro h0; exact absurd (fun i h1 h2 => by omega) h0
theorem named_idx {s : ByteArray} (h : inB s.size 1 32 = true) (hl : letterB (byteAt s 0) = true) : nameB s = !decide (0 ≤ Lib.idxFunc badR true s) := by
  refine nameB_ok h hl ?_
  unfold Lib.idxFunc
  rw [Bool.not_eq_true', decide_eq_false_iff_not, idx_good s.size 0 (by omega)]
  constructor
  · intro h1 i hi
    exact Classical.not_not.1 h1 i (by omega) hi
  · intro h1 h2
    exact h2 fun i _ hi => h1 i hi
set_option maxHeartbeats 1000000 in
theorem rune_any (c : Nat) (w : World) : Calls Try.prog 75 #[.int .i32 (c : Int)] w fun e w' => e = .returned (.bool (badR c)) ∧ w = w' := by
  have hf0 := Try.func75
  have hd : badR c = !(((decide (97 ≤ c) && decide (c ≤ 122)) || (decide (48 ≤ c) && decide (c ≤ 57))) || decide (c = 45)) := rfl
  by_cases h1 : 97 ≤ c
  · by_cases h2 : c ≤ 122
    · have h1i : (97 : Int) ≤ (c : Int) := by omega
      have h2i : (c : Int) ≤ 122 := by omega
      have hb : badR c = false := by rw [hd]; simp only [decide_eq_true h1, decide_eq_true h2]; rfl
      clear hd
      have HB := Lib.hid hb
      clear hb
      go_enter Try.func75, Try.ntmps75
      go_wp2_with fail
      go_ret
      exact ⟨by rw [HB.out]; rfl, rfl⟩
    · by_cases h3 : 48 ≤ c
      · by_cases h4 : c ≤ 57
        · have h1i : (97 : Int) ≤ (c : Int) := by omega
          have h2i : ¬ (c : Int) ≤ 122 := by omega
          have h3i : (48 : Int) ≤ (c : Int) := by omega
          have h4i : (c : Int) ≤ 57 := by omega
          have hb : badR c = false := by rw [hd]; simp only [decide_eq_true h1, decide_eq_false h2, decide_eq_true h3, decide_eq_true h4]; rfl
          clear hd
          have HB := Lib.hid hb
          clear hb
          go_enter Try.func75, Try.ntmps75
          go_wp2_with fail
          go_ret
          exact ⟨by rw [HB.out]; rfl, rfl⟩
        · by_cases h5 : c = 45
          · have h1i : (97 : Int) ≤ (c : Int) := by omega
            have h2i : ¬ (c : Int) ≤ 122 := by omega
            have h3i : (48 : Int) ≤ (c : Int) := by omega
            have h4i : ¬ (c : Int) ≤ 57 := by omega
            subst h5
            have hb : badR 45 = false := by rw [hd]; simp only [decide_eq_true h1, decide_eq_false h2, decide_eq_true h3, decide_eq_false h4, decide_eq_true (rfl : 45 = 45)]; rfl
            clear hd
            have HB := Lib.hid hb
            clear hb
            go_enter Try.func75, Try.ntmps75
            go_wp2_with fail
            go_ret
            exact ⟨by rw [HB.out]; rfl, rfl⟩
          · have h1i : (97 : Int) ≤ (c : Int) := by omega
            have h2i : ¬ (c : Int) ≤ 122 := by omega
            have h3i : (48 : Int) ≤ (c : Int) := by omega
            have h4i : ¬ (c : Int) ≤ 57 := by omega
            have h5i : ((c : Int) == 45) = false := by simp; omega
            have hb : badR c = true := by rw [hd]; simp only [decide_eq_true h1, decide_eq_false h2, decide_eq_true h3, decide_eq_false h4, decide_eq_false h5]; rfl
            clear hd
            have HB := Lib.hid hb
            clear hb
            go_enter Try.func75, Try.ntmps75
            go_wp2_with fail
            go_ret
            exact ⟨by rw [HB.out]; rfl, rfl⟩
      · by_cases h5 : c = 45
        · have h1i : (97 : Int) ≤ (c : Int) := by omega
          have h2i : ¬ (c : Int) ≤ 122 := by omega
          have h3i : ¬ (48 : Int) ≤ (c : Int) := by omega
          subst h5
          have hb : badR 45 = false := by rw [hd]; simp only [decide_eq_true h1, decide_eq_false h2, decide_eq_false h3, decide_eq_true (rfl : 45 = 45)]; rfl
          clear hd
          have HB := Lib.hid hb
          clear hb
          go_enter Try.func75, Try.ntmps75
          go_wp2_with fail
          go_ret
          exact ⟨by rw [HB.out]; rfl, rfl⟩
        · have h1i : (97 : Int) ≤ (c : Int) := by omega
          have h2i : ¬ (c : Int) ≤ 122 := by omega
          have h3i : ¬ (48 : Int) ≤ (c : Int) := by omega
          have h5i : ((c : Int) == 45) = false := by simp; omega
          have hb : badR c = true := by rw [hd]; simp only [decide_eq_true h1, decide_eq_false h2, decide_eq_false h3, decide_eq_false h5]; rfl
          clear hd
          have HB := Lib.hid hb
          clear hb
          go_enter Try.func75, Try.ntmps75
          go_wp2_with fail
          go_ret
          exact ⟨by rw [HB.out]; rfl, rfl⟩
  · by_cases h3 : 48 ≤ c
    · by_cases h4 : c ≤ 57
      · have h1i : ¬ (97 : Int) ≤ (c : Int) := by omega
        have h3i : (48 : Int) ≤ (c : Int) := by omega
        have h4i : (c : Int) ≤ 57 := by omega
        have hb : badR c = false := by rw [hd]; simp only [decide_eq_false h1, decide_eq_true h3, decide_eq_true h4]; rfl
        clear hd
        have HB := Lib.hid hb
        clear hb
        go_enter Try.func75, Try.ntmps75
        go_wp2_with fail
        go_ret
        exact ⟨by rw [HB.out]; rfl, rfl⟩
      · by_cases h5 : c = 45
        · have h1i : ¬ (97 : Int) ≤ (c : Int) := by omega
          have h3i : (48 : Int) ≤ (c : Int) := by omega
          have h4i : ¬ (c : Int) ≤ 57 := by omega
          subst h5
          have hb : badR 45 = false := by rw [hd]; simp only [decide_eq_false h1, decide_eq_true h3, decide_eq_false h4, decide_eq_true (rfl : 45 = 45)]; rfl
          clear hd
          have HB := Lib.hid hb
          clear hb
          go_enter Try.func75, Try.ntmps75
          go_wp2_with fail
          go_ret
          exact ⟨by rw [HB.out]; rfl, rfl⟩
        · have h1i : ¬ (97 : Int) ≤ (c : Int) := by omega
          have h3i : (48 : Int) ≤ (c : Int) := by omega
          have h4i : ¬ (c : Int) ≤ 57 := by omega
          have h5i : ((c : Int) == 45) = false := by simp; omega
          have hb : badR c = true := by rw [hd]; simp only [decide_eq_false h1, decide_eq_true h3, decide_eq_false h4, decide_eq_false h5]; rfl
          clear hd
          have HB := Lib.hid hb
          clear hb
          go_enter Try.func75, Try.ntmps75
          go_wp2_with fail
          go_ret
          exact ⟨by rw [HB.out]; rfl, rfl⟩
    · by_cases h5 : c = 45
      · have h1i : ¬ (97 : Int) ≤ (c : Int) := by omega
        have h3i : ¬ (48 : Int) ≤ (c : Int) := by omega
        subst h5
        have hb : badR 45 = false := by rw [hd]; simp only [decide_eq_false h1, decide_eq_false h3, decide_eq_true (rfl : 45 = 45)]; rfl
        clear hd
        have HB := Lib.hid hb
        clear hb
        go_enter Try.func75, Try.ntmps75
        go_wp2_with fail
        go_ret
        exact ⟨by rw [HB.out]; rfl, rfl⟩
      · have h1i : ¬ (97 : Int) ≤ (c : Int) := by omega
        have h3i : ¬ (48 : Int) ≤ (c : Int) := by omega
        have h5i : ((c : Int) == 45) = false := by simp; omega
        have hb : badR c = true := by rw [hd]; simp only [decide_eq_false h1, decide_eq_false h3, decide_eq_false h5]; rfl
        clear hd
        have HB := Lib.hid hb
        clear hb
        go_enter Try.func75, Try.ntmps75
        go_wp2_with fail
        go_ret
        exact ⟨by rw [HB.out]; rfl, rfl⟩
end Go.Proofs.Ythgmdilfmeefiaa

namespace Go.Proofs.Ythgmdilfmeefiaa
set_option linter.all false
set_option linter.unusedSimpArgs false
set_option linter.unusedVariables false
open Go.RowKit

set_option maxRecDepth 100000 in
set_option maxHeartbeats 4000000 in
theorem indexR_any (s : ByteArray) (w : World) : Calls Try.prog 103 #[.string s, .func (.func 75) #[] #[], .bool true] w fun e w' => e = .returned (.int .i64 (Lib.idxFunc badR true s)) ∧ Frm w.heap.size [] w w' := by
  have hf0 := Try.func103
  have hcl : Enters 75 := enters Try.func75 (by kernel_rfl) (by kernel_rfl)
  go_enter Try.func103, Try.ntmps103
  go_wp2_with fail
  go_loopg [] s.size (fun gf wx => ∃ pos : Nat, wx.heap[w.heap.size]? = some (.stringIter s pos) ∧ Frm w.heap.size [] w wx ∧ Lib.idxFuncFrom badR true s gf pos = Lib.idxFunc badR true s ∧ s.size ≤ pos + gf)
  case atStart => exact ⟨0, World.iter_heap w s 0, (Frm.refl _ _ w).alloc (Nat.le_refl _) _, rfl, by omega⟩
  case round =>
    obtain ⟨pos, hit, hbw, hleft, hfu⟩ := hrel
    by_cases hps : pos < s.size
    · obtain ⟨g', rfl⟩ : ∃ g', gk = g' + 1 := ⟨gk - 1, by omega⟩
      have hnx : ∀ ty, (Instr.next (.pointer (some ⟨w.heap.size, 0, none⟩)) true ty).run Try.prog wr = _ := fun ty => Lib.run_next_any_at wr w.heap.size s pos ty hit hps
      have hwd := Lib.width_pos s pos
      obtain ⟨R, hR⟩ : ∃ R, (Utf8.decode s pos).1 = R := ⟨_, rfl⟩
      obtain ⟨K, hK⟩ : ∃ K, (Utf8.decode s pos).2 = K := ⟨_, rfl⟩
      simp only [Lib.idxFuncFrom, hps, if_true, hR, hK] at hleft
      rw [hR, hK] at hnx
      rw [hK] at hwd
      have hit2 := Lib.iterAt_heap wr w.heap.size s pos (pos + K) hit
      have hbw2 : Frm w.heap.size [] w (wr.iterAt w.heap.size s (pos + K)) := Frm.of_below (Lib.below_iterAt hbw.below (Nat.le_refl _) s (pos + K))
      obtain ⟨W, hWd⟩ : ∃ W, wr.iterAt w.heap.size s (pos + K) = W := ⟨_, rfl⟩
      rw [hWd] at hnx hit2 hbw2
      have cS := rune_any R W
      cases hsp : badR R
      · rw [hsp] at cS hleft
        rw [if_neg (by simp)] at hleft
        clear hsp hR hK hit hbw hWd
        go_wp2_with fail
        refine cS.mono ?_; rintro e W' ⟨rfl, rfl⟩
        go_wp2_with fail
        go_roundg g'
        case measure => omega
        case rel => exact ⟨pos + K, hit2, hbw2, hleft, by omega⟩
      · rw [hsp] at cS hleft
        rw [if_pos rfl] at hleft
        clear hsp hR hK hit hbw hWd
        go_wp2_with fail
        refine cS.mono ?_; rintro e W' ⟨rfl, rfl⟩
        go_wp2_with fail
        go_ret
        exact ⟨by rw [← hleft] <;> rfl, hbw2⟩
    · have hnx : ∀ ty, (Instr.next (.pointer (some ⟨w.heap.size, 0, none⟩)) true ty).run Try.prog wr = _ := fun ty => Lib.run_next_end_at wr w.heap.size s pos ty hit hps
      rw [Lib.idxFuncFrom_end badR true s gk pos hps] at hleft
      go_wp2_with fail
      go_ret
      exact ⟨by rw [← hleft] <;> rfl, hbw⟩
theorem indexF_any (s : ByteArray) (w : World) : Calls Try.prog 98 #[.string s, .func (.func 75) #[] #[]] w fun e w' => e = .returned (.int .i64 (Lib.idxFunc badR true s)) ∧ Frm w.heap.size [] w w' := by
  have hf0 := Try.func98
  go_enter Try.func98, Try.ntmps98
  go_wp2_with (go_at_call 103; refine (indexR_any _ _).mono ?_; rintro e w' ⟨rfl, hf1⟩)
  go_ret
  exact ⟨rfl, hf1⟩
theorem containsF_any (s : ByteArray) (w : World) : Calls Try.prog 74 #[.string s, .func (.func 75) #[] #[]] w fun e w' => e = .returned (.bool (decide (0 ≤ Lib.idxFunc badR true s))) ∧ Frm w.heap.size [] w w' := by
  have hf0 := Try.func74
  have hi := indexF_any s w
  obtain ⟨I, hI⟩ : ∃ I, I = Lib.idxFunc badR true s := ⟨_, rfl⟩
  rw [← hI] at hi ⊢
  clear hI
  go_enter Try.func74, Try.ntmps74
  go_wp2_with (go_at_call 98; refine hi.mono ?_; rintro e w' ⟨rfl, hf1⟩)
  go_ret
  exact ⟨rfl, hf1⟩
set_option maxRecDepth 100000 in
set_option maxHeartbeats 4000000 in
theorem named_any (s : ByteArray) (w : World) : Calls Try.prog 55 #[.string s] w fun e w' => e = .returned (.bool (nameB s)) ∧ Frm w.heap.size [] w w' := by
  cases h : inB s.size 1 32
  · have HH := Lib.hid h
    clear h
    go_enter Try.func55, Try.ntmps55
    go_wp2_with (go_at_call 54; refine (withinR_any _ _ _ _).mono ?_; rintro e w' ⟨rfl, rfl⟩; rw [HH.out])
    go_ret
    exact ⟨by unfold nameB; rw [HH.out]; rfl, by repeat (first | with_reducible exact Frm.refl _ _ _ | with_reducible refine Frm.drewN ?_ | with_reducible refine Frm.drew ?_ | ((with_reducible refine Frm.setCell' ?_ ?_); · first | (left; simp; done) | (right; simp; done) | (right; simp; omega)) | ((with_reducible refine Frm.alloc' ?_ ?_); · first | exact Nat.le_refl _ | (simp; done) | (simp; omega)))⟩
  · obtain ⟨h1, h2⟩ := inB_iff.1 h
    have h0 : byteAt s 0 = s[0].toNat := byteAt_at (by omega)
    have hc := containsF_any s w
    by_cases ha : 97 ≤ s[0].toNat
    · by_cases hb : s[0].toNat ≤ 122
      · have hl : letterB (byteAt s 0) = true := by rw [h0]; simp [letterB, ha, hb]
        have ha' : ¬ ((s[0].toNat : Nat) : Int) < 97 := by omega
        have hb' : ¬ (122 : Int) < ((s[0].toNat : Nat) : Int) := by omega
        have hn := named_idx h hl
        obtain ⟨bb, hbb⟩ : ∃ b, b = decide (0 ≤ Lib.idxFunc badR true s) := ⟨_, rfl⟩
        rw [← hbb] at hn hc
        clear hbb
        have HH := Lib.hid h
        have HL := Lib.hid hl
        have H0 := Lib.hid h0
        have HN := Lib.hid hn
        have HC := Lib.hid hc
        clear hc hn h0 hl h
        go_enter Try.func55, Try.ntmps55
        go_wp2_with (first | (go_at_call 54; refine (withinR_any _ _ _ _).mono ?_; rintro e w' ⟨rfl, rfl⟩; rw [HH.out]) | (go_at_call 74; refine HC.out.mono ?_; rintro e w' ⟨rfl, hf1⟩; have HF1 := Lib.hid hf1; clear hf1))
        go_ret
        exact ⟨by rw [HN.out]; rfl, HF1.out⟩
      · have hl : letterB (byteAt s 0) = false := by rw [h0]; simp [letterB]; omega
        have ha' : ¬ ((s[0].toNat : Nat) : Int) < 97 := by omega
        have hb' : (122 : Int) < ((s[0].toNat : Nat) : Int) := by omega
        clear hc
        have HH := Lib.hid h
        have HL := Lib.hid hl
        have H0 := Lib.hid h0
        clear h0 hl h
        go_enter Try.func55, Try.ntmps55
        go_wp2_with (go_at_call 54; refine (withinR_any _ _ _ _).mono ?_; rintro e w' ⟨rfl, rfl⟩; rw [HH.out])
        go_ret
        exact ⟨by rw [nameB_no HL.out]; rfl, by repeat (first | with_reducible exact Frm.refl _ _ _ | with_reducible refine Frm.drewN ?_ | with_reducible refine Frm.drew ?_ | ((with_reducible refine Frm.setCell' ?_ ?_); · first | (left; simp; done) | (right; simp; done) | (right; simp; omega)) | ((with_reducible refine Frm.alloc' ?_ ?_); · first | exact Nat.le_refl _ | (simp; done) | (simp; omega)))⟩
    · have hl : letterB (byteAt s 0) = false := by rw [h0]; simp [letterB]; omega
      have ha' : ((s[0].toNat : Nat) : Int) < 97 := by omega
      clear hc
      have HH := Lib.hid h
      have HL := Lib.hid hl
      have H0 := Lib.hid h0
      clear h0 hl h
      go_enter Try.func55, Try.ntmps55
      go_wp2_with (go_at_call 54; refine (withinR_any _ _ _ _).mono ?_; rintro e w' ⟨rfl, rfl⟩; rw [HH.out])
      go_ret
      exact ⟨by rw [nameB_no HL.out]; rfl, by repeat (first | with_reducible exact Frm.refl _ _ _ | with_reducible refine Frm.drewN ?_ | with_reducible refine Frm.drew ?_ | ((with_reducible refine Frm.setCell' ?_ ?_); · first | (left; simp; done) | (right; simp; done) | (right; simp; omega)) | ((with_reducible refine Frm.alloc' ?_ ?_); · first | exact Nat.le_refl _ | (simp; done) | (simp; omega)))⟩
end Go.Proofs.Ythgmdilfmeefiaa

namespace Go.Proofs.Ythgmdilfmeefiaa
set_option linter.all false
set_option linter.unusedSimpArgs false
set_option linter.unusedVariables false
open Go.RowKit

def spC (p : Spt) : List Value := [.int .i64 p.1, .int .i64 p.2]
theorem info71 : (Try.prog.info? 71).map (fun i => i.size) = some 2 := by kernel_rfl
theorem info71s (p : Spt) : (Try.prog.info? 71).map (fun i => i.size) = some (spC p).length := info71
theorem spC_one (p : Spt) : ∀ u ∈ spC p, u.oneCell' = true := by simp [spC, Value.oneCell']
/-- Places in memory. -/
abbrev RwP (w : World) (ad : Option Addr) (b off n : Nat) (L : List Spt) : Prop := Rw w 2 ad b off n fun i => spC (spt L i)
def SpOK (p : Spt) : Prop := (-16777216 ≤ p.1 ∧ p.1 ≤ 16777216) ∧ -16777216 ≤ p.2 ∧ p.2 ≤ 16777216
theorem plc_ok {p : Spt} (h : plcB p = true) : SpOK p := by
  unfold plcB at h
  rw [Bool.and_eq_true, inB_iff, inB_iff] at h
  exact h
theorem load_sp {w : World} {b : Nat} {p : Spt} (h : Blk w b 71 (spC p)) : (loadVar 71 ⟨b, 0, none⟩).run Try.prog w = .ok (.agg (spC p).toArray) w := loadVarB h (P := Try.prog) Try.underlying71 rfl (info71s p)
set_option maxRecDepth 100000 in
set_option maxHeartbeats 4000000 in
theorem placed_any (p : Spt) (w : World) : Calls Try.prog 78 #[.agg (spC p).toArray] w fun e w' => e = .returned (.bool (plcB p)) ∧ Frm w.heap.size [] w w' := by
  have hf0 := Try.func78
  obtain ⟨x, y⟩ := p
  show Calls Try.prog 78 #[.agg #[.int .i64 x, .int .i64 y]] w _
  have hd : plcB (x, y) = (inB x (-16777216) 16777216 && inB y (-16777216) 16777216) := rfl
  go_enter Try.func78, Try.ntmps78
  go_upto_region 1 with fail
  refine namedC ?_; intro W hW
  have k0 : Blk W w.heap.size 71 [.int .i64 x, .int .i64 y] := by rw [hW]; exact Blk.new w 71 [.int .i64 x, .int .i64 y]
  have hf : Frm w.heap.size [] w W := by rw [hW]; repeat (first | with_reducible exact Frm.refl _ _ _ | with_reducible refine Frm.drewN ?_ | with_reducible refine Frm.drew ?_ | ((with_reducible refine Frm.setCell' ?_ ?_); · first | (left; simp; done) | (right; simp; done) | (right; simp; omega)) | ((with_reducible refine Frm.alloc' ?_ ?_); · first | exact Nat.le_refl _ | (simp; done) | (simp; omega)))
  clear hW hf0
  have c0 : W.cell? ⟨w.heap.size, 0, none⟩ = some (.int .i64 x) := k0.cell 0
  have c1 : W.cell? ⟨w.heap.size, 1, none⟩ = some (.int .i64 y) := k0.cell 1
  clear k0
  have HF := Lib.hid hf
  have HD := Lib.hid hd
  clear hd hf
  go_wp2_with fail
  refine (withinR_any _ _ _ _).mono ?_; rintro e w' ⟨rfl, rfl⟩
  cases h1 : inB x (-16777216) 16777216
  · have H1 := Lib.hid h1
    clear h1
    go_wp2_with fail
    go_ret
    exact ⟨by rw [HD.out, H1.out]; rfl, HF.out⟩
  · have H1 := Lib.hid h1
    clear h1
    go_wp2_with fail
    refine (withinR_any _ _ _ _).mono ?_; rintro e w' ⟨rfl, rfl⟩
    obtain ⟨b2, hb2⟩ : ∃ b, b = inB y (-16777216) 16777216 := ⟨_, rfl⟩
    rw [← hb2]
    have HB2 := Lib.hid hb2
    clear hb2
    go_wp2_with fail
    go_ret
    exact ⟨by rw [HD.out, H1.out, ← HB2.out]; rfl, HF.out⟩
theorem mul_abs {a b m n : Int} (ha : -m ≤ a ∧ a ≤ m) (hb : -n ≤ b ∧ b ≤ n) (hm : 0 ≤ m) : -(m * n) ≤ a * b ∧ a * b ≤ m * n := by
  have hn : 0 ≤ n := by omega
  rcases Int.le_total 0 a with h1 | h1
  · rcases Int.le_total 0 b with h2 | h2
    · have := Int.mul_le_mul ha.2 hb.2 h2 hm
      have h3 := Int.mul_nonneg h1 h2
      have h4 := Int.mul_nonneg hm hn
      omega
    · have := Int.mul_le_mul ha.2 (show -b ≤ n by omega) (by omega) hm
      have h3 := Int.mul_nonneg h1 (show 0 ≤ -b by omega)
      have h4 := Int.mul_nonneg hm hn
      rw [Int.mul_neg] at this h3
      omega
  · rcases Int.le_total 0 b with h2 | h2
    · have := Int.mul_le_mul (show -a ≤ m by omega) hb.2 h2 hm
      have h3 := Int.mul_nonneg (show 0 ≤ -a by omega) h2
      have h4 := Int.mul_nonneg hm hn
      rw [Int.neg_mul] at this h3
      omega
    · have := Int.mul_le_mul (show -a ≤ m by omega) (show -b ≤ n by omega) (by omega) hm
      have h3 := Int.mul_nonneg (show 0 ≤ -a by omega) (show 0 ≤ -b by omega)
      have h4 := Int.mul_nonneg hm hn
      rw [Int.neg_mul_neg] at this h3
      omega
theorem turn_nums {a b c : Spt} (ha : SpOK a) (hb : SpOK b) (hc : SpOK c) : ∃ u v x y p q t : Int, u = b.1 - a.1 ∧ v = c.2 - b.2 ∧ x = b.2 - a.2 ∧ y = c.1 - b.1 ∧ p = u * v ∧ q = x * y ∧ t = p - q ∧ turnZ a b c = t ∧
    (-33554432 ≤ u ∧ u ≤ 33554432) ∧ (-33554432 ≤ v ∧ v ≤ 33554432) ∧ (-33554432 ≤ x ∧ x ≤ 33554432) ∧ (-33554432 ≤ y ∧ y ≤ 33554432) ∧ (-1125899906842624 ≤ p ∧ p ≤ 1125899906842624) ∧ (-1125899906842624 ≤ q ∧ q ≤ 1125899906842624) := by
  unfold SpOK at ha hb hc
  have h1 : -33554432 ≤ b.1 - a.1 ∧ b.1 - a.1 ≤ 33554432 := by omega
  have h2 : -33554432 ≤ c.2 - b.2 ∧ c.2 - b.2 ≤ 33554432 := by omega
  have h3 : -33554432 ≤ b.2 - a.2 ∧ b.2 - a.2 ≤ 33554432 := by omega
  have h4 : -33554432 ≤ c.1 - b.1 ∧ c.1 - b.1 ≤ 33554432 := by omega
  exact ⟨_, _, _, _, _, _, _, rfl, rfl, rfl, rfl, rfl, rfl, rfl, rfl, h1, h2, h3, h4, mul_abs h1 h2 (by omega), mul_abs h3 h4 (by omega)⟩
set_option maxRecDepth 100000 in
set_option maxHeartbeats 4000000 in
theorem turn_any (a b c : Spt) (w : World) (ha : SpOK a) (hb : SpOK b) (hc : SpOK c) : Calls Try.prog 79 #[.agg (spC a).toArray, .agg (spC b).toArray, .agg (spC c).toArray] w fun e w' => e = .returned (.int .i64 (turnZ a b c)) ∧ Frm w.heap.size [] w w' := by
  have hf0 := Try.func79
  obtain ⟨u, v, x, y, p, q, t, hu, hv, hx, hy, hp, hq, ht, htt, u1, v1, x1, y1, p1, q1⟩ := turn_nums ha hb hc
  obtain ⟨a0, a1⟩ := a
  obtain ⟨b0, b1⟩ := b
  obtain ⟨c0, c1⟩ := c
  dsimp only at hu hv hx hy
  show Calls Try.prog 79 #[.agg #[.int .i64 a0, .int .i64 a1], .agg #[.int .i64 b0, .int .i64 b1], .agg #[.int .i64 c0, .int .i64 c1]] w _
  have e1 : IntKind.i64.wrap (b0 - a0) = u := by rw [← hu]; exact IntWalk.i64_in _ (by omega)
  have e2 : IntKind.i64.wrap (c1 - b1) = v := by rw [← hv]; exact IntWalk.i64_in _ (by omega)
  have e3 : IntKind.i64.wrap (b1 - a1) = x := by rw [← hx]; exact IntWalk.i64_in _ (by omega)
  have e4 : IntKind.i64.wrap (c0 - b0) = y := by rw [← hy]; exact IntWalk.i64_in _ (by omega)
  have e5 : IntKind.i64.wrap (u * v) = p := by rw [← hp]; exact IntWalk.i64_in _ (by omega)
  have e6 : IntKind.i64.wrap (x * y) = q := by rw [← hq]; exact IntWalk.i64_in _ (by omega)
  have e7 : IntKind.i64.wrap (p - q) = t := by rw [← ht]; exact IntWalk.i64_in _ (by omega)
  have f1 : wrap64 (b0 - a0) = u := by rw [← hu]; exact IntWalk.wrap64_in _ (by omega)
  have f2 : wrap64 (c1 - b1) = v := by rw [← hv]; exact IntWalk.wrap64_in _ (by omega)
  have f3 : wrap64 (b1 - a1) = x := by rw [← hx]; exact IntWalk.wrap64_in _ (by omega)
  have f4 : wrap64 (c0 - b0) = y := by rw [← hy]; exact IntWalk.wrap64_in _ (by omega)
  have f5 : wrap64 (u * v) = p := by rw [← hp]; exact IntWalk.wrap64_in _ (by omega)
  have f6 : wrap64 (x * y) = q := by rw [← hq]; exact IntWalk.wrap64_in _ (by omega)
  have f7 : wrap64 (p - q) = t := by rw [← ht]; exact IntWalk.wrap64_in _ (by omega)
  clear hu hv hx hy hp hq ht u1 v1 x1 y1 p1 q1 ha hb hc
  have HTT := Lib.hid htt
  clear htt
  go_enter Try.func79, Try.ntmps79
  go_upto_region 1 with fail
  refine namedC ?_; intro W hW
  have k0 : Blk W w.heap.size 71 [.int .i64 a0, .int .i64 a1] := by rw [hW]; refine Blk.alloc' ?_; refine Blk.alloc' ?_; exact Blk.new w 71 [.int .i64 a0, .int .i64 a1]
  have k1 : Blk W (w.heap.size + 1) 71 [.int .i64 b0, .int .i64 b1] := by rw [hW]; refine Blk.alloc' ?_; exact Blk.new' _ 71 [.int .i64 b0, .int .i64 b1] (by simp)
  have k2 : Blk W (w.heap.size + 1 + 1) 71 [.int .i64 c0, .int .i64 c1] := by rw [hW]; exact Blk.new' _ 71 [.int .i64 c0, .int .i64 c1] (by simp)
  have hf : Frm w.heap.size [] w W := by rw [hW]; repeat (first | with_reducible exact Frm.refl _ _ _ | with_reducible refine Frm.drewN ?_ | with_reducible refine Frm.drew ?_ | ((with_reducible refine Frm.setCell' ?_ ?_); · first | (left; simp; done) | (right; simp; done) | (right; simp; omega)) | ((with_reducible refine Frm.alloc' ?_ ?_); · first | exact Nat.le_refl _ | (simp; done) | (simp; omega)))
  clear hW hf0
  have d0 : W.cell? ⟨w.heap.size, 0, none⟩ = some (.int .i64 a0) := k0.cell 0
  have d1 : W.cell? ⟨w.heap.size, 1, none⟩ = some (.int .i64 a1) := k0.cell 1
  have d2 : W.cell? ⟨w.heap.size + 1, 0, none⟩ = some (.int .i64 b0) := k1.cell 0
  have d3 : W.cell? ⟨w.heap.size + 1, 1, none⟩ = some (.int .i64 b1) := k1.cell 1
  have d4 : W.cell? ⟨w.heap.size + 1 + 1, 0, none⟩ = some (.int .i64 c0) := k2.cell 0
  have d5 : W.cell? ⟨w.heap.size + 1 + 1, 1, none⟩ = some (.int .i64 c1) := k2.cell 1
  clear k0 k1 k2
  have HF := Lib.hid hf
  clear hf
  go_wp2_with fail
  go_ret
  exact ⟨by rw [HTT.out]; rfl, HF.out⟩
set_option maxRecDepth 100000 in
set_option maxHeartbeats 4000000 in
theorem refTurn_any (a b c : Spt) (w : World) (ha : SpOK a) (hb : SpOK b) (hc : SpOK c) : Calls Try.prog 90 #[.agg (spC a).toArray, .agg (spC b).toArray, .agg (spC c).toArray] w fun e w' => e = .returned (.int .i64 (turnZ a b c)) ∧ Frm w.heap.size [] w w' := by
  have hf0 := Try.func90
  obtain ⟨u, v, x, y, p, q, t, hu, hv, hx, hy, hp, hq, ht, htt, u1, v1, x1, y1, p1, q1⟩ := turn_nums ha hb hc
  obtain ⟨a0, a1⟩ := a
  obtain ⟨b0, b1⟩ := b
  obtain ⟨c0, c1⟩ := c
  dsimp only at hu hv hx hy
  show Calls Try.prog 90 #[.agg #[.int .i64 a0, .int .i64 a1], .agg #[.int .i64 b0, .int .i64 b1], .agg #[.int .i64 c0, .int .i64 c1]] w _
  have e1 : IntKind.i64.wrap (b0 - a0) = u := by rw [← hu]; exact IntWalk.i64_in _ (by omega)
  have e2 : IntKind.i64.wrap (c1 - b1) = v := by rw [← hv]; exact IntWalk.i64_in _ (by omega)
  have e3 : IntKind.i64.wrap (b1 - a1) = x := by rw [← hx]; exact IntWalk.i64_in _ (by omega)
  have e4 : IntKind.i64.wrap (c0 - b0) = y := by rw [← hy]; exact IntWalk.i64_in _ (by omega)
  have e5 : IntKind.i64.wrap (u * v) = p := by rw [← hp]; exact IntWalk.i64_in _ (by omega)
  have e6 : IntKind.i64.wrap (x * y) = q := by rw [← hq]; exact IntWalk.i64_in _ (by omega)
  have e7 : IntKind.i64.wrap (p - q) = t := by rw [← ht]; exact IntWalk.i64_in _ (by omega)
  have f1 : wrap64 (b0 - a0) = u := by rw [← hu]; exact IntWalk.wrap64_in _ (by omega)
  have f2 : wrap64 (c1 - b1) = v := by rw [← hv]; exact IntWalk.wrap64_in _ (by omega)
  have f3 : wrap64 (b1 - a1) = x := by rw [← hx]; exact IntWalk.wrap64_in _ (by omega)
  have f4 : wrap64 (c0 - b0) = y := by rw [← hy]; exact IntWalk.wrap64_in _ (by omega)
  have f5 : wrap64 (u * v) = p := by rw [← hp]; exact IntWalk.wrap64_in _ (by omega)
  have f6 : wrap64 (x * y) = q := by rw [← hq]; exact IntWalk.wrap64_in _ (by omega)
  have f7 : wrap64 (p - q) = t := by rw [← ht]; exact IntWalk.wrap64_in _ (by omega)
  clear hu hv hx hy hp hq ht u1 v1 x1 y1 p1 q1 ha hb hc
  have HTT := Lib.hid htt
  clear htt
  go_enter Try.func90, Try.ntmps90
  go_upto_region 1 with fail
  refine namedC ?_; intro W hW
  have k0 : Blk W w.heap.size 71 [.int .i64 a0, .int .i64 a1] := by rw [hW]; refine Blk.alloc' ?_; refine Blk.alloc' ?_; exact Blk.new w 71 [.int .i64 a0, .int .i64 a1]
  have k1 : Blk W (w.heap.size + 1) 71 [.int .i64 b0, .int .i64 b1] := by rw [hW]; refine Blk.alloc' ?_; exact Blk.new' _ 71 [.int .i64 b0, .int .i64 b1] (by simp)
  have k2 : Blk W (w.heap.size + 1 + 1) 71 [.int .i64 c0, .int .i64 c1] := by rw [hW]; exact Blk.new' _ 71 [.int .i64 c0, .int .i64 c1] (by simp)
  have hf : Frm w.heap.size [] w W := by rw [hW]; repeat (first | with_reducible exact Frm.refl _ _ _ | with_reducible refine Frm.drewN ?_ | with_reducible refine Frm.drew ?_ | ((with_reducible refine Frm.setCell' ?_ ?_); · first | (left; simp; done) | (right; simp; done) | (right; simp; omega)) | ((with_reducible refine Frm.alloc' ?_ ?_); · first | exact Nat.le_refl _ | (simp; done) | (simp; omega)))
  clear hW hf0
  have d0 : W.cell? ⟨w.heap.size, 0, none⟩ = some (.int .i64 a0) := k0.cell 0
  have d1 : W.cell? ⟨w.heap.size, 1, none⟩ = some (.int .i64 a1) := k0.cell 1
  have d2 : W.cell? ⟨w.heap.size + 1, 0, none⟩ = some (.int .i64 b0) := k1.cell 0
  have d3 : W.cell? ⟨w.heap.size + 1, 1, none⟩ = some (.int .i64 b1) := k1.cell 1
  have d4 : W.cell? ⟨w.heap.size + 1 + 1, 0, none⟩ = some (.int .i64 c0) := k2.cell 0
  have d5 : W.cell? ⟨w.heap.size + 1 + 1, 1, none⟩ = some (.int .i64 c1) := k2.cell 1
  clear k0 k1 k2
  have HF := Lib.hid hf
  clear hf
  go_wp2_with fail
  go_ret
  exact ⟨by rw [HTT.out]; rfl, HF.out⟩
theorem First.none {p : Nat → Bool} {len : Nat} {r : Int} (h : First p len r) : decide (0 ≤ r) = (List.range len).any p := by
  rcases h with ⟨rfl, h⟩ | ⟨i, hi, rfl, h, _⟩
  · rw [decide_eq_false (by omega)]
    symm
    rw [List.any_eq_false]
    intro x hx
    rw [h x (by simpa using hx)]
    simp
  · rw [decide_eq_true (by omega)]
    symm
    rw [List.any_eq_true]
    exact ⟨i, by simpa using hi, h⟩
set_option maxRecDepth 100000 in
set_option maxHeartbeats 4000000 in
theorem indexP_any (g : FuncId) (caps : Array Value) (hen : Enters g) (ad : Option Addr) (b off len cap : Nat) (L : List Spt) (w : World) (hr : RwP w ad b off len L) (p : Nat → Bool)
    (hg : ∀ W, Frm w.heap.size [] w W → ∀ i, i < len → Calls Try.prog g (#[.agg (spC (spt L i)).toArray] ++ caps) W fun e w' => e = .returned (.bool (p i)) ∧ Frm W.heap.size [] W w') :
    Calls Try.prog 99 #[.slice ad len cap, .func (.func g) #[] caps] w fun e w' => (∃ r : Int, e = .returned (.int .i64 r) ∧ First p len r) ∧ Frm w.heap.size [] w w' := by
  have hen' : ∀ (args : Array Value) (W : World), (callFunc g args).run Try.prog W = .ok (.enter g args) W := hen.out
  have hl2 : (len : Int) ≤ 9223372036854775807 := by
    have : maxLen ≤ 9223372036854775807 := by decide
    have := hr.len
    omega
  have HR := Lib.hid hr
  have HG := Lib.hid hg
  clear hg hr
  clear hen
  go_enter Try.func99, Try.ntmps99
  go_wp2_with fail
  go_loopw [8] (fun i8 wr => ∃ j : Nat, i8 = .int .i64 j ∧ j ≤ len ∧ (∀ k, k < j → p k = false) ∧ Frm w.heap.size [] w wr) (fun i8 _ => len - (intOf i8).toNat)
  case atStart => exact ⟨0, rfl, Nat.zero_le _, fun k hk => by omega, by repeat (first | with_reducible exact Frm.refl _ _ _ | with_reducible refine Frm.drewN ?_ | with_reducible refine Frm.drew ?_ | ((with_reducible refine Frm.setCell' ?_ ?_); · first | (left; simp; done) | (right; simp; done) | (right; simp; omega)) | ((with_reducible refine Frm.alloc' ?_ ?_); · first | exact Nat.le_refl _ | (simp; done) | (simp; omega)))⟩
  case round =>
    obtain ⟨j, rfl, hj, hno, hfr⟩ := hrel
    by_cases hjl : j < len
    · have hjl' : (j : Int) < (len : Int) := by omega
      have had' := HR.out.ad (by omega)
      subst had'
      obtain ⟨x, hx⟩ : ∃ x, x = spt L j := ⟨_, rfl⟩
      have hlo : (loadVar 71 ⟨b, off + j * 2, none⟩).run Try.prog wr = .ok (.agg (spC x).toArray) wr := by rw [hx]; exact (HR.out.frm hfr (Nat.le_refl _)).load (P := Try.prog) Try.underlying71 rfl hjl (info71s _)
      have HLO := Lib.hid hlo; clear hlo
      have hca := HG.out wr hfr j hjl
      rw [← hx] at hca
      cases hp : p j
      · rw [hp] at hca
        have hnx : ∀ k, k < j + 1 → p k = false := fun k hk => by
          rcases Nat.lt_or_ge k j with e | e
          · exact hno k e
          · obtain rfl : k = j := by omega
            exact hp
        have HNO := Lib.hid hno
        have HFR := Lib.hid hfr
        have HCA := Lib.hid hca
        have HP := Lib.hid hp
        have HJL := Lib.hid hjl
        have HNX := Lib.hid hnx
        have HX := Lib.hid hx
        clear hx hnx hjl hp hca hfr hno
        go_wp2_with (with_reducible refine atLoad 71 rfl ?_; refine wpList_loadE rfl rfl rfl HLO.out ?_)
        refine HCA.out.mono ?_; rintro e w1 ⟨rfl, hf1⟩
        have hf2 : Frm w.heap.size [] w w1 := HFR.out.call hf1 HFR.out.size (by simp)
        clear hf1
        have HF2 := Lib.hid hf2
        clear hf2
        go_wp2_with fail
        exact ⟨⟨j + 1, by simp, HJL.out, HNX.out, HF2.out⟩, by have := HJL.out; simp [intOf]; omega⟩
      · rw [hp] at hca
        have HNO := Lib.hid hno
        have HFR := Lib.hid hfr
        have HCA := Lib.hid hca
        have HP := Lib.hid hp
        have HJL := Lib.hid hjl
        have HX := Lib.hid hx
        clear hx hjl hp hca hfr hno
        go_wp2_with (with_reducible refine atLoad 71 rfl ?_; refine wpList_loadE rfl rfl rfl HLO.out ?_)
        refine HCA.out.mono ?_; rintro e w1 ⟨rfl, hf1⟩
        have hf2 : Frm w.heap.size [] w w1 := HFR.out.call hf1 HFR.out.size (by simp)
        clear hf1
        have HF2 := Lib.hid hf2
        clear hf2
        go_wp2_with fail
        go_ret
        exact ⟨⟨_, rfl, .inr ⟨j, HJL.out, rfl, HP.out, HNO.out⟩⟩, HF2.out⟩
    · have hjl' : ¬ (j : Int) < (len : Int) := by omega
      obtain rfl : j = len := by omega
      have HNO := Lib.hid hno
      have HFR := Lib.hid hfr
      clear hfr hno
      go_wp2_with fail
      go_ret
      exact ⟨⟨_, rfl, .inl ⟨rfl, HNO.out⟩⟩, HFR.out⟩
set_option maxRecDepth 100000 in
set_option maxHeartbeats 4000000 in
theorem contP_any (g : FuncId) (caps : Array Value) (hen : Enters g) (ad : Option Addr) (b off len cap : Nat) (L : List Spt) (w : World) (hr : RwP w ad b off len L) (p : Nat → Bool)
    (hg : ∀ W, Frm w.heap.size [] w W → ∀ i, i < len → Calls Try.prog g (#[.agg (spC (spt L i)).toArray] ++ caps) W fun e w' => e = .returned (.bool (p i)) ∧ Frm W.heap.size [] W w') :
    Calls Try.prog 76 #[.slice ad len cap, .func (.func g) #[] caps] w fun e w' => (∃ r : Int, e = .returned (.bool (decide (0 ≤ r))) ∧ First p len r) ∧ Frm w.heap.size [] w w' := by
  have hin := indexP_any g caps hen ad b off len cap L w hr p hg
  have HIN := Lib.hid hin
  clear hin
  clear hr hg hen
  go_enter Try.func76, Try.ntmps76
  go_wp2_with fail
  refine HIN.out.mono ?_; rintro e w1 ⟨⟨r, rfl, hr⟩, hf1⟩
  by_cases h0 : 0 ≤ r
  · have HR := Lib.hid hr
    have HF1 := Lib.hid hf1
    clear hf1 hr
    go_wp2_with fail
    go_ret
    exact ⟨⟨r, by first | rfl | (rw [decide_eq_true h0]; rfl), HR.out⟩, HF1.out⟩
  · have HR := Lib.hid hr
    have HF1 := Lib.hid hf1
    clear hf1 hr
    go_wp2_with fail
    go_ret
    exact ⟨⟨r, rfl, HR.out⟩, HF1.out⟩

end Go.Proofs.Ythgmdilfmeefiaa

namespace Go.Proofs.Ythgmdilfmeefiaa
set_option linter.all false
set_option linter.unusedSimpArgs false
set_option linter.unusedVariables false
open Go.RowKit

theorem area_n {L : List Spt} {n : Nat} (hn : n = L.length) (h : inB (n : Int) 1 12 = false) : areaB L = false := by
  rw [inB_false] at h
  unfold areaB
  have : (decide (1 ≤ L.length) && decide (L.length ≤ 12)) = false := by
    rw [Bool.and_eq_false_iff, decide_eq_false_iff_not, decide_eq_false_iff_not]; omega
  rw [this, Bool.false_and, Bool.false_and]
theorem all_spt (L : List Spt) : (List.range L.length).any (fun i => !plcB (spt L i)) = !L.all plcB := by
  rw [Bool.eq_iff_iff]
  simp only [List.any_eq_true, List.mem_range, Bool.not_eq_true', List.all_eq_false]
  constructor
  · rintro ⟨i, hi, h⟩
    exact ⟨spt L i, by unfold spt; simp [List.getD_eq_getElem?_getD, hi], by simp [h]⟩
  · rintro ⟨p, hp, h⟩
    obtain ⟨i, hi, rfl⟩ := List.getElem_of_mem hp
    exact ⟨i, hi, by unfold spt; simpa [List.getD_eq_getElem?_getD, hi] using h⟩
theorem area_p {L : List Spt} (h : L.all plcB = false) : areaB L = false := by
  unfold areaB
  rw [h, Bool.and_false, Bool.false_and]
theorem area_12 {L : List Spt} (h1 : inB (L.length : Int) 1 12 = true) (h2 : L.all plcB = true) (h3 : L.length < 3) : areaB L = (decide (L.length = 1) || decide (spt L 0 ≠ spt L 1)) := by
  rw [inB_iff] at h1
  unfold areaB
  rw [h2, if_pos h3]
  have : (decide (1 ≤ L.length) && decide (L.length ≤ 12)) = true := by
    rw [Bool.and_eq_true, decide_eq_true_eq, decide_eq_true_eq]; omega
  rw [this]; rfl
theorem area_3 {L : List Spt} (h1 : inB (L.length : Int) 1 12 = true) (h2 : L.all plcB = true) (h3 : ¬ L.length < 3) : areaB L = (List.range L.length).all (cornB L) := by
  rw [inB_iff] at h1
  unfold areaB
  rw [h2, if_neg h3]
  have : (decide (1 ≤ L.length) && decide (L.length ≤ 12)) = true := by
    rw [Bool.and_eq_true, decide_eq_true_eq, decide_eq_true_eq]; omega
  rw [this]; rfl
theorem spt_ok {L : List Spt} (h : L.all plcB = true) {i : Nat} (hi : i < L.length) : SpOK (spt L i) := by
  rw [List.all_eq_true] at h
  exact plc_ok (h _ (by unfold spt; simp [List.getD_eq_getElem?_getD, hi]))
set_option maxHeartbeats 1000000 in
theorem notPlaced_any (p : Spt) (w : World) : Calls Try.prog 77 #[.agg (spC p).toArray] w fun e w' => e = .returned (.bool (!plcB p)) ∧ Frm w.heap.size [] w w' := by
  have hf0 := Try.func77
  go_enter Try.func77, Try.ntmps77
  go_upto_region 1 with fail
  refine namedC ?_; intro W hW
  have k0 : Blk W w.heap.size 71 (spC p) := by rw [hW]; exact Blk.new w 71 (spC p)
  have hf : Frm w.heap.size [] w W := by rw [hW]; repeat (first | with_reducible exact Frm.refl _ _ _ | with_reducible refine Frm.drewN ?_ | with_reducible refine Frm.drew ?_ | ((with_reducible refine Frm.setCell' ?_ ?_); · first | (left; simp; done) | (right; simp; done) | (right; simp; omega)) | ((with_reducible refine Frm.alloc' ?_ ?_); · first | exact Nat.le_refl _ | (simp; done) | (simp; omega)))
  clear hW hf0
  have HF := Lib.hid hf
  have K0 := Lib.hid k0
  clear k0 hf
  go_wp2_with (with_reducible refine atLoad 71 rfl ?_; refine wpList_loadE rfl rfl rfl (load_sp K0.out) ?_)
  refine (placed_any p W).mono ?_; rintro e w1 ⟨rfl, hf1⟩
  have hf := HF.out.call hf1 HF.out.size (by simp)
  obtain ⟨b, hb⟩ : ∃ b, b = plcB p := ⟨_, rfl⟩
  rw [← hb]
  have HF2 := Lib.hid hf
  have HB := Lib.hid hb
  clear hb hf
  go_wp2_with fail
  go_ret
  exact ⟨by rw [← HB.out]; rfl, HF2.out⟩
set_option maxHeartbeats 1000000 in
theorem right_any (a b c : Spt) (pa pb : Nat) (w : World) (ha : SpOK a) (hb : SpOK b) (hc : SpOK c) (ka : Blk w pa 71 (spC a)) (kb : Blk w pb 71 (spC b)) :
    Calls Try.prog 80 #[.agg (spC c).toArray, .pointer (some ⟨pa, 0, none⟩), .pointer (some ⟨pb, 0, none⟩)] w fun e w' => e = .returned (.bool (decide (turnZ a b c < 0))) ∧ Frm w.heap.size [] w w' := by
  have hf0 := Try.func80
  have HA := Lib.hid ha
  have HB := Lib.hid hb
  have HC := Lib.hid hc
  clear hc hb ha
  go_enter Try.func80, Try.ntmps80
  go_upto_region 1 with fail
  refine namedC ?_; intro W hW
  have k0 : Blk W w.heap.size 71 (spC c) := by rw [hW]; exact Blk.new w 71 (spC c)
  have hf : Frm w.heap.size [] w W := by rw [hW]; repeat (first | with_reducible exact Frm.refl _ _ _ | with_reducible refine Frm.drewN ?_ | with_reducible refine Frm.drew ?_ | ((with_reducible refine Frm.setCell' ?_ ?_); · first | (left; simp; done) | (right; simp; done) | (right; simp; omega)) | ((with_reducible refine Frm.alloc' ?_ ?_); · first | exact Nat.le_refl _ | (simp; done) | (simp; omega)))
  have ka := hf.blk ka ka.lt (by simp)
  have kb := hf.blk kb kb.lt (by simp)
  clear hW hf0
  have HF := Lib.hid hf
  have K0 := Lib.hid k0
  have KA := Lib.hid ka
  have KB := Lib.hid kb
  clear kb ka k0 hf
  go_wp2_with (first | (with_reducible refine atLoad 71 rfl ?_; first | refine wpList_loadE rfl rfl rfl (load_sp KA.out) ?_ | refine wpList_loadE rfl rfl rfl (load_sp KB.out) ?_ | refine wpList_loadE rfl rfl rfl (load_sp K0.out) ?_))
  refine (turn_any a b c W HA.out HB.out HC.out).mono ?_; rintro e w1 ⟨rfl, hf1⟩
  have hf := HF.out.call hf1 HF.out.size (by simp)
  obtain ⟨t, ht⟩ : ∃ z, z = turnZ a b c := ⟨_, rfl⟩
  rw [← ht]
  have HF2 := Lib.hid hf
  have HT := Lib.hid ht
  clear ht hf
  go_wp2_with fail
  go_ret
  exact ⟨by rw [← HT.out]; rfl, HF2.out⟩
/-- Does a corner lie to the right of an edge? -/
def rightOf (L : List Spt) (a b : Spt) : Bool := (List.range L.length).any fun i => decide (turnZ a b (spt L i) < 0)
theorem rightOf_any (ad : Option Addr) (b off n cap : Nat) (L : List Spt) (hn : n = L.length) (x y : Spt) (px py : Nat) (w : World) (hr : RwP w ad b off n L) (hl : ∀ i, i < n → SpOK (spt L i)) (hx : SpOK x) (hy : SpOK y) (kx : Blk w px 71 (spC x)) (ky : Blk w py 71 (spC y)) :
    Calls Try.prog 76 #[.slice ad n cap, .func (.func 80) #[] #[.pointer (some ⟨px, 0, none⟩), .pointer (some ⟨py, 0, none⟩)]] w fun e w' => e = .returned (.bool (rightOf L x y)) ∧ Frm w.heap.size [] w w' := by
  refine (contP_any 80 #[.pointer (some ⟨px, 0, none⟩), .pointer (some ⟨py, 0, none⟩)] (enters Try.func80 (by kernel_rfl) (by kernel_rfl)) ad b off n cap L w hr (fun i => decide (turnZ x y (spt L i) < 0)) (fun W hW i hi => right_any x y (spt L i) px py W hx hy (hl i hi) (hW.blk kx kx.lt (by simp)) (hW.blk ky ky.lt (by simp)))).mono ?_
  rintro e w' ⟨⟨r, rfl, hf⟩, h⟩
  exact ⟨by rw [hf.none, hn]; rfl, h⟩
theorem badPlace_any (ad : Option Addr) (b off n cap : Nat) (L : List Spt) (hn : n = L.length) (w : World) (hr : RwP w ad b off n L) :
    Calls Try.prog 76 #[.slice ad n cap, .func (.func 77) #[] #[]] w fun e w' => e = .returned (.bool (!L.all plcB)) ∧ Frm w.heap.size [] w w' := by
  refine (contP_any 77 #[] (enters Try.func77 (by kernel_rfl) (by kernel_rfl)) ad b off n cap L w hr (fun i => !plcB (spt L i)) (fun W hW i hi => notPlaced_any (spt L i) W)).mono ?_
  rintro e w' ⟨⟨r, rfl, hf⟩, h⟩
  exact ⟨by rw [hf.none, hn, all_spt], h⟩
theorem corn_eq (L : List Spt) (i : Nat) : cornB L i = (decide (0 < turnZ (spt L i) (spt L ((i + 1) % L.length)) (spt L ((i + 2) % L.length))) && !rightOf L (spt L i) (spt L ((i + 1) % L.length))) := by
  unfold cornB rightOf
  congr 1
  rw [Bool.eq_iff_iff]
  simp only [List.all_eq_true, List.mem_range, decide_eq_true_eq, Bool.not_eq_true', List.any_eq_false]
  constructor
  · intro h x hx; have := h x hx; omega
  · intro h x hx; have := h x hx; omega
end Go.Proofs.Ythgmdilfmeefiaa
