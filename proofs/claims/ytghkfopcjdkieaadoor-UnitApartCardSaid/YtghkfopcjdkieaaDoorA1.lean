/-
  What a unit plans anew.
-/
import Derived.Test.YtghkfopcjdkieaaDoorLawPlans
import Derived.Test.YtghkfopcjdkieaaDoorR3
namespace Go.Proofs.YtghkfopcjdkieaaDoor
open Go.RowKit

/-- A place on a way is a valid one. -/
theorem part_mid {a b n k : Int} (ha : -16777216 ≤ a ∧ a ≤ 16777216) (hb : -16777216 ≤ b ∧ b ≤ 16777216) (hn : 0 ≤ n ∧ n ≤ k) (hk : 1 ≤ k) : -16777216 ≤ a + (b - a) * n / k ∧ a + (b - a) * n / k ≤ 16777216 := by
  rcases Int.le_total 0 (b - a) with h | h
  · have h1 : 0 ≤ (b - a) * n := Int.mul_nonneg h hn.1
    have h2 : (b - a) * n ≤ (b - a) * k := Int.mul_le_mul_of_nonneg_left hn.2 h
    have h3 : 0 ≤ (b - a) * n / k := Int.ediv_nonneg h1 (by omega)
    have h4 : (b - a) * n / k ≤ (b - a) * k / k := Int.ediv_le_ediv (by omega) h2
    rw [Int.mul_ediv_cancel _ (by omega)] at h4
    omega
  · have h1 : (b - a) * n ≤ 0 := Int.mul_nonpos_of_nonpos_of_nonneg h hn.1
    have h2 : (b - a) * k ≤ (b - a) * n := Int.mul_le_mul_of_nonpos_left h hn.2
    have h3 : (b - a) * n / k ≤ 0 := by
      have := Int.ediv_le_ediv (show 0 < k by omega) h1
      simpa using this
    have h4 : (b - a) * k / k ≤ (b - a) * n / k := Int.ediv_le_ediv (by omega) h2
    rw [Int.mul_ediv_cancel _ (by omega)] at h4
    omega
theorem low_place {l : LC} {t : Int} (hB : LegOK l) (hst : l.start ≤ t) : placeB (lowZ l t).1 (lowZ l t).2 = true := by
  have pf := place_in hB.from_
  have pt := place_in hB.to_
  unfold lowZ
  by_cases h : l.arrive ≤ t
  · rw [if_pos h]; exact hB.to_
  · rw [if_neg h]
    have h1 := part_mid (n := t - l.start) (k := l.arrive - l.start) pf.1 pt.1 (by omega) (by omega)
    have h2 := part_mid (n := t - l.start) (k := l.arrive - l.start) pf.2 pt.2 (by omega) (by omega)
    unfold placeB
    rw [Bool.and_eq_true]
    exact ⟨inB_iff.2 h1, inB_iff.2 h2⟩
/-- Where a unit is, that plans anew. -/
def againG (u : UC) (l : LC) (t : Int) : GC := ⟨(lowZ l t).1, (lowZ l t).2, t, leftF l u.burn t⟩
theorem again_gok {u : UC} {l : LC} {t : Int} (hu : UOK u) (hB : LegOK l) (hst : l.start ≤ t) (htl : t ≤ l.leave) : GOK (againG u l t) := by
  have i1 := hB.start
  have i3 := hB.leave
  have i4 := hB.fuel
  have i5 := hu.burn
  refine ⟨low_place hB hst, ?_, ?_⟩
  · show 0 ≤ t ∧ t ≤ 1073741824
    omega
  · show 0 ≤ leftF l u.burn t ∧ leftF l u.burn t ≤ 1099511627776
    have h0 : 0 ≤ u.burn * (l.leave - t) := Int.mul_nonneg i5.1 (by omega)
    have h1 : u.burn * (l.leave - t) ≤ 1048576 * 1073741824 := Int.mul_le_mul i5.2 (by omega) (by omega) (by omega)
    unfold leftF
    omega
/-- Why a route ends early; none: it does not. -/
def stopO (u : UC) (n : Nat) (S : Nat → FC) (since : Int) (g : GC) (rn : Nat) (R : Nat → WC) : Option (Int × Int × Int) :=
  match (List.range rn).find? fun i => decide (ysq u n S since R g i ≠ 0) with
    | none => none
    | some i => some (i, ysq u n S since R g i, 9)
theorem stop_none {u : UC} {n : Nat} {S : Nat → FC} {since : Int} {g : GC} {rn : Nat} {R : Nat → WC} (h : ∀ i, i < rn → ysq u n S since R g i = 0) : stopO u n S since g rn R = none := by
  have hf : ((List.range rn).find? fun i => decide (ysq u n S since R g i ≠ 0)) = none := by
    rw [List.find?_eq_none]
    intro i hi
    simp [h i (by simpa using hi)]
  unfold stopO
  rw [hf]
theorem stop_some {u : UC} {n : Nat} {S : Nat → FC} {since : Int} {g : GC} {rn : Nat} {R : Nat → WC} {i : Nat} (hi : i < rn) (h : ∀ k, k < i → ysq u n S since R g k = 0) (hy : ysq u n S since R g i ≠ 0) : stopO u n S since g rn R = some ((i : Int), ysq u n S since R g i, 9) := by
  have hf : ((List.range rn).find? fun i => decide (ysq u n S since R g i ≠ 0)) = some i := by
    rw [List.find?_range_eq_some]
    refine ⟨by simpa using hy, by simpa using hi, fun j hj => ?_⟩
    simp [h j hj]
  unfold stopO
  rw [hf]
/-- Where a unit stays, when it has no more ways. -/
def hereW (g : GC) : WC := ⟨g.x, g.y, 0⟩
theorem here_ok {g : GC} (h : GOK g) : wayB (hereW g) = true := by
  unfold wayB hereW
  rw [Bool.and_eq_true]
  exact ⟨h.place, rfl⟩
/-- Behind the questions: why there is no plan; none: there is one. -/
def goO (u : UC) (m : Nat) (S : Nat → FC) (since : Int) (g : GC) (rn : Nat) (R : Nat → WC) : Option (Int × Int × Int) :=
  if rn = 0 ∧ whyOf u m S since g (hereW g) ≠ 0 then some (0, whyOf u m S since g (hereW g), 9) else stopO u m S since g rn R
/-- What 'Again' says; none: a plan. -/
def againO (u : UC) (s : ByteArray) (n : Nat) (L : Nat → LC) (t : Int) (m : Nat) (S : Nat → FC) (rn : Nat) (R : Nat → WC) : Option (Int × Int × Int) :=
  if (unitB u s && legsB n L && weatherB m S && routeB rn R) = false then some (-1, 0, 2)
  else match atI n L t with
    | none => some (-1, 0, 7)
    | some i => if 30 < rn then some (-1, 0, 3) else goO u m S (L 0).start (againG u (L i) t) rn R
def AgainIs (u : UC) (g : GC) (rn : Nat) (R : Nat → WC) (o : Option (Int × Int × Int)) (w w' : World) (e : Ending) : Prop :=
  Frm w.heap.size [] w w' ∧ match o with
    | some (i, y, z) => e = .returned (.tuple #[.slice none 0 0, .int .i64 i, .int .i64 y, .int .i64 z])
    | none => ∃ ov own, e = .returned (.tuple #[ov, .int .i64 (-1), .int .i64 0, .int .i64 0]) ∧ Sl w' 49 8 ov (rn + 1) ((List.range (rn + 1)).flatMap fun i => (planL u R g rn i).cells) own ∧ (∀ b, own = some b → w.heap.size ≤ b)
end Go.Proofs.YtghkfopcjdkieaaDoor
