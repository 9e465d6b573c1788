/-
  Two units, whose boxes do not clash, are not close.
-/
import Derived.Test.YtghkfopcjdkieaaDoorU25
import Derived.Test.YtghkfopcjdkieaaDoorU24
namespace Go.Proofs.YtghkfopcjdkieaaDoor
open Go.RowKit

/-- A number between two others, so many parts of some on the way: it lies between what it is at two other parts. -/
theorem part_between {d T m1 m m2 : Int} (hT : 0 < T) (h1 : m1 ≤ m) (h2 : m ≤ m2) : min (d * m1 / T) (d * m2 / T) ≤ d * m / T ∧ d * m / T ≤ max (d * m1 / T) (d * m2 / T) := by
  rcases Int.le_total 0 d with h | h
  · have a := Int.ediv_le_ediv hT (Int.mul_le_mul_of_nonneg_left h1 h)
    have b := Int.ediv_le_ediv hT (Int.mul_le_mul_of_nonneg_left h2 h)
    omega
  · have a := Int.ediv_le_ediv hT (Int.mul_le_mul_of_nonpos_left h h1)
    have b := Int.ediv_le_ediv hT (Int.mul_le_mul_of_nonpos_left h h2)
    omega
theorem low_le_high {a T : Int} (hT : 0 < T) : a / T ≤ -(-a / T) := by
  have h1 := Int.mul_ediv_self_le (x := a) (k := T) (by omega)
  have h2 := Int.mul_ediv_self_le (x := -a) (k := T) (by omega)
  have h3 : T * (a / T + -a / T) ≤ T * 0 := by rw [Int.mul_add]; omega
  have := Int.le_of_mul_le_mul_left h3 hT
  omega
section
variable {l : LC}
/-- Where a unit is on its way, the end among it. -/
theorem lowZ_way (_ : LegOK l) (hlt : l.start < l.arrive) {m : Int} (hm : m ≤ l.arrive - l.start) : lowZ l (l.start + m) = (l.fx + (l.tx - l.fx) * m / (l.arrive - l.start), l.fy + (l.ty - l.fy) * m / (l.arrive - l.start)) := by
  unfold lowZ
  by_cases h : l.arrive ≤ l.start + m
  · rw [if_pos h]
    obtain rfl : m = l.arrive - l.start := by omega
    rw [Int.mul_ediv_cancel _ (by omega), Int.mul_ediv_cancel _ (by omega)]
    congr 1 <;> omega
  · rw [if_neg h, show l.start + m - l.start = m by omega]
theorem highZ_way (_ : LegOK l) (hlt : l.start < l.arrive) {m : Int} (hm : m ≤ l.arrive - l.start) : highZ l (l.start + m) = (l.fx - (-((l.tx - l.fx) * m)) / (l.arrive - l.start), l.fy - (-((l.ty - l.fy) * m)) / (l.arrive - l.start)) := by
  unfold highZ
  by_cases h : l.arrive ≤ l.start + m
  · rw [if_pos h]
    obtain rfl : m = l.arrive - l.start := by omega
    rw [Int.neg_mul_eq_neg_mul, Int.mul_ediv_cancel _ (by omega), Int.neg_mul_eq_neg_mul, Int.mul_ediv_cancel _ (by omega)]
    congr 1 <;> omega
  · rw [if_neg h, show l.start + m - l.start = m by omega]
/-- A box holds where a unit is. -/
structure Holds (u : UC) (b : BC) (l : LC) (t : Int) : Prop where
  time : b.from_ ≤ t ∧ t ≤ b.to_
  level : b.level = u.level
  x : b.lx + u.margin ≤ (lowZ l t).1 ∧ (highZ l t).1 ≤ b.hx - u.margin
  y : b.ly + u.margin ≤ (lowZ l t).2 ∧ (highZ l t).2 ≤ b.hy - u.margin
theorem low_high (h : LegOK l) {t : Int} (ht : l.start ≤ t) : (lowZ l t).1 ≤ (highZ l t).1 ∧ (lowZ l t).2 ≤ (highZ l t).2 := by
  by_cases ha : l.arrive ≤ t
  · unfold lowZ highZ
    rw [if_pos ha, if_pos ha]
    exact ⟨Int.le_refl _, Int.le_refl _⟩
  · have e : t = l.start + (t - l.start) := by omega
    rw [e, lowZ_way h (by omega) (by omega), highZ_way h (by omega) (by omega)]
    have h1 := low_le_high (a := (l.tx - l.fx) * (t - l.start)) (T := l.arrive - l.start) (by omega)
    have h2 := low_le_high (a := (l.ty - l.fy) * (t - l.start)) (T := l.arrive - l.start) (by omega)
    dsimp only
    omega
theorem piece_holds {u : UC} (h : LegOK l) (hlt : l.start < l.arrive) {p : Nat} (hp : 0 < p) {j : Nat} {m : Int} (h1 : (l.arrive - l.start) * j / p ≤ m) (h2 : m ≤ ceilZ ((l.arrive - l.start) * (j + 1)) p) (hm : m ≤ l.arrive - l.start) (hj : j < p) :
    Holds u (pieceBox u l p j) l (l.start + m) := by
  have hq : ceilZ ((l.arrive - l.start) * (j + 1)) p ≤ l.arrive - l.start := by
    unfold ceilZ
    have a : (l.arrive - l.start) * ((j : Int) + 1) ≤ (l.arrive - l.start) * (p : Int) := Int.mul_le_mul_of_nonneg_left (by omega) (by omega)
    have b : (l.arrive - l.start) * ((j : Int) + 1) + (p : Int) - 1 < (l.arrive - l.start + 1) * (p : Int) := by rw [Int.add_mul]; omega
    have := Int.ediv_lt_of_lt_mul (by omega) b
    omega
  have hF : pieceF l p j = l.start + (l.arrive - l.start) * j / p := rfl
  have hT : pieceT l p j = l.start + ceilZ ((l.arrive - l.start) * (j + 1)) p := rfl
  obtain ⟨m1, hm1⟩ : ∃ x, x = (l.arrive - l.start) * (j : Int) / (p : Int) := ⟨_, rfl⟩
  obtain ⟨m2, hm2⟩ : ∃ x, x = ceilZ ((l.arrive - l.start) * ((j : Int) + 1)) p := ⟨_, rfl⟩
  rw [← hm1] at h1 hF
  rw [← hm2] at h2 hT hq
  have b1 := part_between (d := l.tx - l.fx) (T := l.arrive - l.start) (by omega) h1 h2
  have b2 := part_between (d := l.ty - l.fy) (T := l.arrive - l.start) (by omega) h1 h2
  have b3 := part_between (d := -(l.tx - l.fx)) (T := l.arrive - l.start) (by omega) h1 h2
  have b4 := part_between (d := -(l.ty - l.fy)) (T := l.arrive - l.start) (by omega) h1 h2
  rw [Int.neg_mul, Int.neg_mul, Int.neg_mul] at b3 b4
  have e0 := lowZ_way h hlt hm
  have e1 := lowZ_way h hlt (m := m1) (by omega)
  have e2 := lowZ_way h hlt (m := m2) (by omega)
  have f0 := highZ_way h hlt hm
  have f1 := highZ_way h hlt (m := m1) (by omega)
  have f2 := highZ_way h hlt (m := m2) (by omega)
  refine ⟨?_, rfl, ?_, ?_⟩
  · show pieceF l p j ≤ _ ∧ _ ≤ pieceT l p j
    rw [hF, hT]
    omega
  · show min (lowZ l (pieceF l p j)).1 (lowZ l (pieceT l p j)).1 - u.margin + u.margin ≤ _ ∧ _ ≤ max (highZ l (pieceF l p j)).1 (highZ l (pieceT l p j)).1 + u.margin - u.margin
    rw [hF, hT, e0, e1, e2, f0, f1, f2]
    dsimp only
    omega
  · show min (lowZ l (pieceF l p j)).2 (lowZ l (pieceT l p j)).2 - u.margin + u.margin ≤ _ ∧ _ ≤ max (highZ l (pieceF l p j)).2 (highZ l (pieceT l p j)).2 + u.margin - u.margin
    rw [hF, hT, e0, e1, e2, f0, f1, f2]
    dsimp only
    omega
theorem stay_holds {u : UC} (_ : LegOK l) {t : Int} (ha : l.arrive ≤ t) (hl : t ≤ l.leave) : Holds u (stayBox u l) l t := by
  have e0 : lowZ l t = (l.tx, l.ty) := by unfold lowZ; rw [if_pos ha]
  have f0 : highZ l t = (l.tx, l.ty) := by unfold highZ; rw [if_pos ha]
  refine ⟨⟨ha, hl⟩, rfl, ?_, ?_⟩
  · rw [e0, f0]
    show l.tx - u.margin + u.margin ≤ l.tx ∧ l.tx ≤ l.tx + u.margin - u.margin
    omega
  · rw [e0, f0]
    show l.ty - u.margin + u.margin ≤ l.ty ∧ l.ty ≤ l.ty + u.margin - u.margin
    omega
theorem leg_holds {u : UC} (h : LegOK l) {p : Nat} (hp : 0 < p) {t : Int} (h0 : l.start ≤ t) (h1 : t ≤ l.leave) : ∃ b, b ∈ legBoxes u l p ∧ Holds u b l t := by
  have ha := h.arrive
  have hl := h.leave
  by_cases hs : stayB l = true ∧ l.arrive ≤ t
  · refine ⟨stayBox u l, ?_, stay_holds h hs.2 h1⟩
    unfold legBoxes
    rw [if_pos hs.1]
    simp
  · have hlt : l.start < l.arrive := by
      rcases Int.lt_or_le l.start l.arrive with hc | hc
      · exact hc
      · exfalso
        apply hs
        refine ⟨?_, by omega⟩
        unfold stayB
        simp only [Bool.or_eq_true, decide_eq_true_eq]
        omega
    have hta : t ≤ l.arrive := by
      rcases Int.lt_or_le l.arrive t with hc | hc
      · exfalso
        apply hs
        refine ⟨?_, by omega⟩
        unfold stayB
        simp only [Bool.or_eq_true, decide_eq_true_eq]
        omega
      · exact hc
    obtain ⟨T, hT⟩ : ∃ T, T = l.arrive - l.start := ⟨_, rfl⟩
    obtain ⟨m, hm⟩ : ∃ m, m = t - l.start := ⟨_, rfl⟩
    have key : ∃ j : Nat, j < p ∧ T * j ≤ m * p ∧ m * p ≤ T * (j + 1) := by
      by_cases he : m = T
      · refine ⟨p - 1, by omega, ?_, ?_⟩
        · rw [he]
          exact Int.mul_le_mul_of_nonneg_left (by omega) (by omega)
        · rw [he]
          exact Int.mul_le_mul_of_nonneg_left (by omega) (by omega)
      · have q0 : 0 ≤ m * p := Int.mul_nonneg (by omega) (by omega)
        have q1 : m * p / T < p := Int.ediv_lt_of_lt_mul (by omega) (by rw [Int.mul_comm]; exact Int.mul_lt_mul_of_pos_left (by omega) (by omega))
        have q2 : 0 ≤ m * p / T := Int.ediv_nonneg q0 (by omega)
        have q3 := Int.mul_ediv_self_le (x := m * p) (k := T) (by omega)
        have q4 := Int.lt_mul_ediv_self_add (x := m * p) (k := T) (by omega)
        refine ⟨(m * p / T).toNat, by omega, ?_, ?_⟩
        · rw [Int.toNat_of_nonneg q2]
          exact q3
        · rw [Int.toNat_of_nonneg q2, Int.mul_add]
          omega
    obtain ⟨j, hj, hk1, hk2⟩ := key
    refine ⟨pieceBox u l p j, ?_, ?_⟩
    · unfold legBoxes pieceN
      rw [if_pos hlt]
      simp only [List.mem_append, List.mem_map, List.mem_range]
      exact .inl ⟨j, hj, rfl⟩
    · rw [show t = l.start + m by omega]
      refine piece_holds h hlt hp ?_ ?_ (by omega) hj
      · rw [← hT]
        have := Int.ediv_le_ediv (show (0 : Int) < (p : Int) by omega) hk1
        rw [Int.mul_ediv_cancel _ (by omega)] at this
        exact this
      · rw [← hT]
        unfold ceilZ
        have : m * p / p ≤ (T * (j + 1) + p - 1) / p := Int.ediv_le_ediv (by omega) (by omega)
        rw [Int.mul_ediv_cancel _ (by omega)] at this
        exact this
end
theorem box_at {u : UC} {n p : Nat} {L : Nat → LC} {t : Int} {i : Nat} (hl : legsB n L = true) (hp : 0 < p) (hi : atI n L t = some i) : ∃ b, b ∈ boxesOf u L p n ∧ Holds u b (L i) t := by
  have hs := atI_some hi
  obtain ⟨b, hb, hh⟩ := leg_holds (u := u) (legs_ok hl hs.1) hp hs.2.1 hs.2.2
  refine ⟨b, ?_, hh⟩
  unfold boxesOf
  rw [List.mem_flatMap]
  exact ⟨i, by simpa using hs.1, hb⟩
/-- Is one of the coordinates surely apart? -/
def farB (pa qa pb qb : Int × Int) (n : Int) : Bool := decide (n < max (qa.1 - pb.1) (qb.1 - pa.1)) || decide (n < max (qa.2 - pb.2) (qb.2 - pa.2))
/-- THE LAW. -/
theorem apart_far {ua ub : UC} {na nb p q : Nat} {La Lb : Nat → LC} {t : Int} {i j : Nat} (hla : legsB na La = true) (hlb : legsB nb Lb = true) (hp : 0 < p) (hq : 0 < q) (hlev : ua.level = ub.level)
    (hno : ∀ a, a ∈ boxesOf ua La p na → ∀ b, b ∈ boxesOf ub Lb q nb → meetB a b = false) (hi : atI na La t = some i) (hj : atI nb Lb t = some j) :
    farB (lowZ (La i) t) (highZ (La i) t) (lowZ (Lb j) t) (highZ (Lb j) t) (ua.margin + ub.margin) = true := by
  obtain ⟨a, ha, ka⟩ := box_at (u := ua) hla hp hi
  obtain ⟨b, hb, kb⟩ := box_at (u := ub) hlb hq hj
  have h := hno a ha b hb
  have sa := atI_some hi
  have sb := atI_some hj
  have la := low_high (legs_ok hla sa.1) sa.2.1
  have lb := low_high (legs_ok hlb sb.1) sb.2.1
  have a1 := ka.time
  have a2 := ka.x
  have a3 := ka.y
  have b1 := kb.time
  have b2 := kb.x
  have b3 := kb.y
  unfold meetB at h
  rw [ka.level, kb.level, hlev] at h
  simp only [decide_true, Bool.true_and, Bool.and_eq_false_iff, overB, decide_eq_false_iff_not] at h
  unfold farB
  simp only [Bool.or_eq_true, decide_eq_true_eq]
  omega
end Go.Proofs.YtghkfopcjdkieaaDoor
