/-
  A unit that has a plan comes home.
-/
import Derived.Test.YtghkfopcjdkieaaDoorLawPlans
namespace Go.Proofs.YtghkfopcjdkieaaDoor
set_option linter.all false
set_option linter.unusedSimpArgs false
set_option linter.unusedVariables false
open Go.RowKit

theorem why_zero {u : UC} {n : Nat} {S : Nat → FC} {since : Int} {g : GC} {w : WC} (h : whyOf u n S since g w = 0) :
    u.reserve ≤ leftZ u g w - burnsZ u.burn (backOf u w) ∧ homeZ (legOf u g w) (backOf u w) - since ≤ u.hours ∧ roughB u n S (legOf u g w) (backOf u w) = false := by
  unfold whyOf at h
  by_cases h1 : 1073741824 < homeZ (legOf u g w) (backOf u w)
  · rw [if_pos h1] at h; omega
  · rw [if_neg h1] at h
    by_cases h2 : leftZ u g w - burnsZ u.burn (backOf u w) < u.reserve
    · rw [if_pos h2] at h; omega
    · rw [if_neg h2] at h
      by_cases h3 : u.hours < homeZ (legOf u g w) (backOf u w) - since
      · rw [if_pos h3] at h; omega
      · rw [if_neg h3] at h
        cases h4 : roughB u n S (legOf u g w) (backOf u w)
        · exact ⟨by omega, by omega, rfl⟩
        · rw [if_pos h4] at h; omega
theorem bad_at {u : UC} {n : Nat} {S : Nat → FC} {ax ay bx by_ from_ to_ : Int} (h : badB u n S ax ay bx by_ from_ to_ = false) (k : Nat) (hk : k < n) : (concB (S k) ax ay bx by_ from_ to_ && !fineB u (S k)) = false := by
  unfold badB at h
  rw [List.any_eq_false] at h
  simpa using h k (by simpa using hk)
theorem way_zero : wayZ 0 = 0 := by kernel_rfl
theorem takes_zero {speed x y : Int} (hs : 1 ≤ speed) : takesZ speed x y x y = 0 := by
  have e : sqZ x y x y = 0 := by unfold sqZ; rw [Int.sub_self, Int.sub_self]; rfl
  unfold takesZ
  rw [e, way_zero]
  unfold ceilZ
  exact Int.ediv_eq_zero_of_lt (by omega) (by omega)
theorem burns_zero (b : Int) : burnsZ b 0 = 0 := by
  unfold burnsZ ceilZ
  rw [Int.mul_zero]
  rfl
/-- What a statement about a leg of a plan needs. -/
structure HomeLeg (u : UC) (rn n : Nat) (S : Nat → FC) (g : GC) (tx ty st : Int) (l : LC) : Prop where
  eq : l = ⟨g.x, g.y, tx, ty, g.time, g.time + takesZ u.speed g.x g.y tx ty, g.time + takesZ u.speed g.x g.y tx ty + st, g.fuel - burnsZ u.burn (g.time + takesZ u.speed g.x g.y tx ty + st - g.time)⟩
  gok : GOK g
  to_ : placeB tx ty = true
  stay : 0 ≤ st ∧ st ≤ 1073741824
  res : 0 < rn → u.reserve ≤ l.fuel - burnsZ u.burn (takesZ u.speed tx ty u.bx u.by_)
  wea : 0 < rn → ∀ k, k < n → (concB (S k) l.fx l.fy l.tx l.ty l.start l.leave && !fineB u (S k)) = false
theorem home_way {u : UC} {n : Nat} {S : Nat → FC} {since : Int} {rn : Nat} {R : Nat → WC} {g0 : GC} (hu : UOK u) (hg : GOK g0) (hw : ∀ i, i < rn → wayB (R i) = true) (hy : ∀ i, i < rn → ysq u n S since R g0 i = 0) {i : Nat} (hi : i < rn) :
    HomeLeg u rn n S (gsq u R g0 i) (R i).tx (R i).ty (R i).stay (planL u R g0 rn i) := by
  have hz := why_zero (hy i hi)
  have hwy := wayB_in (hw i hi)
  have hp : planL u R g0 rn i = legOf u (gsq u R g0 i) (R i) := by unfold planL; rw [if_pos hi]; rfl
  have hb := hz.2.2
  unfold roughB at hb
  rw [Bool.or_eq_false_iff] at hb
  refine ⟨by rw [hp]; rfl, gok_at hu hg i (fun j hj => hw j (by omega)) (fun j hj => hy j (by omega)), hwy.1, hwy.2, fun _ => ?_, fun _ k hk => ?_⟩
  · rw [hp]; exact hz.1
  · rw [hp]; exact bad_at hb.1 k hk
theorem home_last {u : UC} {n : Nat} {S : Nat → FC} {since : Int} {rn : Nat} {R : Nat → WC} {g0 : GC} (hu : UOK u) (hg : GOK g0) (hw : ∀ i, i < rn → wayB (R i) = true) (hy : ∀ i, i < rn → ysq u n S since R g0 i = 0) :
    HomeLeg u rn n S (gsq u R g0 rn) u.bx u.by_ 0 (planL u R g0 rn rn) ∧ (0 < rn → (planL u R g0 rn rn).leave - since ≤ u.hours) := by
  have hp : planL u R g0 rn rn = homeLeg u (gsq u R g0 rn) := by unfold planL; rw [if_neg (by omega)]
  have hgk := gok_at (since := since) (n := n) (S := S) hu hg rn hw hy
  have h0 : ∀ j, rn = j + 1 → (homeLeg u (gsq u R g0 rn)).fuel = leftZ u (gsq u R g0 j) (R j) - burnsZ u.burn (backOf u (R j)) ∧ (homeLeg u (gsq u R g0 rn)).leave = homeZ (legOf u (gsq u R g0 j) (R j)) (backOf u (R j)) ∧
      (homeLeg u (gsq u R g0 rn)).fx = (R j).tx ∧ (homeLeg u (gsq u R g0 rn)).fy = (R j).ty ∧ (homeLeg u (gsq u R g0 rn)).start = (legOf u (gsq u R g0 j) (R j)).leave := fun j hj => by
    subst hj
    exact ⟨rfl, rfl, rfl, rfl, rfl⟩
  rw [hp]
  refine ⟨⟨?_, hgk, hu.base, by omega, fun h => ?_, fun h k hk => ?_⟩, fun h => ?_⟩
  · unfold homeLeg
    rw [Int.add_zero]
    congr 1
    congr 2
    omega
  · obtain ⟨j, hj⟩ : ∃ j, rn = j + 1 := ⟨rn - 1, by omega⟩
    rw [(h0 j hj).1, takes_zero hu.speed.1, burns_zero, Int.sub_zero]
    exact (why_zero (hy j (by omega))).1
  · obtain ⟨j, hj⟩ : ∃ j, rn = j + 1 := ⟨rn - 1, by omega⟩
    have hb := (why_zero (hy j (by omega))).2.2
    unfold roughB at hb
    rw [Bool.or_eq_false_iff] at hb
    have := bad_at hb.2 k hk
    rw [(h0 j hj).2.1, (h0 j hj).2.2.1, (h0 j hj).2.2.2.1, (h0 j hj).2.2.2.2]
    exact this
  · obtain ⟨j, hj⟩ : ∃ j, rn = j + 1 := ⟨rn - 1, by omega⟩
    rw [(h0 j hj).2.1]
    exact (why_zero (hy j (by omega))).2.1
/-- Where a unit is behind so many legs of a plan. -/
def gh (u : UC) (R : Nat → WC) (g : GC) (rn : Nat) : Nat → GC
  | 0 => g
  | j + 1 => goneTo (planL u R g rn j)
theorem gh_at (u : UC) (R : Nat → WC) (g : GC) (rn : Nat) : ∀ j, j ≤ rn → gh u R g rn j = gsq u R g j
  | 0, _ => rfl
  | j + 1, h => by
    show goneTo (planL u R g rn j) = goneTo (legOf u (gsq u R g j) (R j))
    unfold planL
    rw [if_pos (by omega)]
    rfl

set_option maxRecDepth 100000 in
set_option maxHeartbeats 4000000 in
theorem hours_any (u : UC) (t : Int) (w : World) (hb0 : 0 ≤ u.burn ∧ u.burn ≤ 1048576) (ht : 0 ≤ t ∧ t ≤ 1000000000000) :
    Calls Tryd.prog 31 #[.agg u.cells.toArray, .int .i64 t] w fun e w' => e = .returned (.int .i64 (burnsZ u.burn t)) ∧ Frm w.heap.size [] w w' := by
  have hf0 := Tryd.func31
  obtain ⟨m, hm⟩ : ∃ m, m = u.burn * t := ⟨_, rfl⟩
  have h0 : 0 ≤ m := by rw [hm]; exact Int.mul_nonneg hb0.1 ht.1
  have h1 : m ≤ 1048576 * 1000000000000 := by rw [hm]; exact Int.mul_le_mul hb0.2 ht.2 ht.1 (by omega)
  have e1 : burnsZ u.burn t = (m + 3599) / 3600 := by
    unfold burnsZ ceilZ
    rw [← hm]
    congr 1
    omega
  have w1 : wrap64 (u.burn * t) = m := by rw [← hm]; exact IntWalk.wrap64_in _ (by omega)
  have w2 : wrap64 (m + 3599) = m + 3599 := IntWalk.wrap64_in _ (by omega)
  have w3 : (m + 3599).tdiv 3600 = (m + 3599) / 3600 := Int.tdiv_eq_ediv_of_nonneg (by omega)
  have w4 : wrap64 ((m + 3599) / 3600) = (m + 3599) / 3600 := IntWalk.wrap64_in _ (by omega)
  have v1 : IntKind.i64.wrap (u.burn * t) = m := by rw [← hm]; exact IntWalk.i64_in _ (by omega)
  have v2 : IntKind.i64.wrap (m + 3599) = m + 3599 := IntWalk.i64_in _ (by omega)
  have v4 : IntKind.i64.wrap ((m + 3599) / 3600) = (m + 3599) / 3600 := IntWalk.i64_in _ (by omega)
  rw [e1]
  clear hm h0 h1 e1 hb0 ht
  go_enter Tryd.func31, Tryd.ntmps31
  go_upto_region 1 with fail
  refine namedC ?_; intro W hW
  have hb : Blk W w.heap.size 25 u.cells := by rw [hW]; exact Blk.new w 25 u.cells
  have hf : Frm w.heap.size [] w W := by rw [hW]; repeat (first | with_reducible exact Frm.refl _ _ _ | with_reducible refine Frm.drewN ?_ | with_reducible refine Frm.drew ?_ | ((with_reducible refine Frm.setCell' ?_ ?_); · first | (left; simp; done) | (right; simp; done) | (right; simp; omega)) | ((with_reducible refine Frm.alloc' ?_ ?_); · first | exact Nat.le_refl _ | (simp; done) | (simp; omega)))
  clear hW hf0
  have c3 : W.cell? ⟨w.heap.size, 3, none⟩ = some (.int .i64 u.burn) := hb.cell 3
  clear hb
  have HF := Lib.hid hf
  clear hf
  go_wp2_with fail
  go_ret
  exact ⟨rfl, HF.out⟩
end Go.Proofs.YtghkfopcjdkieaaDoor
