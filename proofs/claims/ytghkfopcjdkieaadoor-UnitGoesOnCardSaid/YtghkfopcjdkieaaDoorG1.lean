/-
  A plan that is made again where one of its legs ends; the fuel of a plan.
-/
import Derived.Test.YtghkfopcjdkieaaDoorH1
import Derived.Test.YtghkfopcjdkieaaDoorA1
namespace Go.Proofs.YtghkfopcjdkieaaDoor
open Go.RowKit

/-- Legs that are joined. -/
structure Chain (n : Nat) (L : Nat → LC) (B : Int) : Prop where
  burn : 0 ≤ B
  le : ∀ i, i < n → (L i).start ≤ (L i).arrive ∧ (L i).arrive ≤ (L i).leave
  join : ∀ i, i + 1 < n → (L (i + 1)).start = (L i).leave
  fuel : ∀ i, i + 1 < n → (L (i + 1)).fuel = (L i).fuel - burnsZ B ((L (i + 1)).leave - (L (i + 1)).start)
theorem burnsZ_up {B t : Int} : B * t ≤ 3600 * burnsZ B t := by
  unfold burnsZ ceilZ
  omega
theorem floor3600 (x : Int) : 3600 * (x / 3600) ≤ x ∧ x < 3600 * (x / 3600) + 3600 := by omega
theorem leftF_le {l : LC} {B t : Int} : 3600 * (leftF l B t - l.fuel) ≤ B * (l.leave - t) := by
  unfold leftF
  have := floor3600 (B * (l.leave - t))
  omega
theorem leftF_ge {l : LC} {B t : Int} (hB : 0 ≤ B) (ht : t ≤ l.leave) : l.fuel ≤ leftF l B t := by
  unfold leftF
  have := floor3600 (B * (l.leave - t))
  have h0 : 0 ≤ B * (l.leave - t) := Int.mul_nonneg hB (by omega)
  omega
theorem leftF_anti {l : LC} {B t s : Int} (hB : 0 ≤ B) (h : t ≤ s) : leftF l B s ≤ leftF l B t := by
  unfold leftF
  have h1 : B * (l.leave - s) ≤ B * (l.leave - t) := Int.mul_le_mul_of_nonneg_left (by omega) hB
  have := Int.ediv_le_ediv (show (0 : Int) < 3600 by omega) h1
  omega
section
variable {n : Nat} {L : Nat → LC} {B : Int}
theorem Chain.leave_mono (h : Chain n L B) : ∀ d i, i + d < n → (L i).leave ≤ (L (i + d)).leave
  | 0, _, _ => Int.le_refl _
  | d + 1, i, hi => by
    have h1 := h.leave_mono d i (by omega)
    have h2 := h.join (i + d) (by omega)
    have h3 := h.le (i + (d + 1)) hi
    rw [show i + (d + 1) = i + d + 1 by omega] at h3 ⊢
    omega
theorem Chain.fuel_le (h : Chain n L B) (i : Nat) (hi : i + 1 < n) {t : Int} (ht : (L (i + 1)).start ≤ t) : leftF (L (i + 1)) B t ≤ (L i).fuel := by
  have h1 := h.fuel i hi
  have h2 := leftF_le (l := L (i + 1)) (B := B) (t := t)
  have h3 := burnsZ_up (B := B) (t := (L (i + 1)).leave - (L (i + 1)).start)
  have h4 : B * ((L (i + 1)).leave - t) ≤ B * ((L (i + 1)).leave - (L (i + 1)).start) := Int.mul_le_mul_of_nonneg_left (by omega) h.burn
  omega
theorem Chain.fuel_mono (h : Chain n L B) : ∀ d i, i + d < n → (L (i + d)).fuel ≤ (L i).fuel
  | 0, _, _ => Int.le_refl _
  | d + 1, i, hi => by
    have h1 := h.fuel_mono d i (by omega)
    have h2 := h.le (i + d + 1) hi
    have h3 := h.fuel_le (i + d) hi (t := (L (i + d + 1)).leave) (by omega)
    have h4 := leftF_ge (l := L (i + d + 1)) (t := (L (i + d + 1)).leave) h.burn (Int.le_refl _)
    rw [show i + (d + 1) = i + d + 1 by omega]
    omega
/-- THE FUEL NEVER RISES. -/
theorem Chain.left_mono (h : Chain n L B) {i j : Nat} (hij : i ≤ j) (hj : j < n) {t s : Int} (hi1 : t ≤ (L i).leave) (hj0 : (L j).start ≤ s) (hts : t ≤ s) : leftF (L j) B s ≤ leftF (L i) B t := by
  rcases Nat.eq_or_lt_of_le hij with e | hlt
  · subst e
    exact leftF_anti h.burn hts
  · obtain ⟨k, rfl⟩ : ∃ k, j = k + 1 := ⟨j - 1, by omega⟩
    have h1 := h.fuel_le k hj hj0
    have h2 := h.fuel_mono (k - i) i (by omega)
    rw [show i + (k - i) = k by omega] at h2
    have h3 := leftF_ge (l := L i) h.burn hi1
    omega
/-- AND IS NEVER MORE THAN WHAT HAS NOT BEEN BURNT. -/
theorem Chain.burnt (h : Chain n L B) {F : Int} (h0 : (L 0).fuel = F - burnsZ B ((L 0).leave - (L 0).start)) : ∀ j, j < n → B * ((L j).leave - (L 0).start) ≤ 3600 * (F - (L j).fuel)
  | 0, _ => by
    have := burnsZ_up (B := B) (t := (L 0).leave - (L 0).start)
    omega
  | j + 1, hj => by
    have h1 := h.burnt h0 j (by omega)
    have h2 := h.fuel j hj
    have h3 := burnsZ_up (B := B) (t := (L (j + 1)).leave - (L (j + 1)).start)
    have h4 := h.join j hj
    have h5 : B * ((L (j + 1)).leave - (L 0).start) = B * ((L (j + 1)).leave - (L (j + 1)).start) + B * ((L j).leave - (L 0).start) := by
      rw [← Int.mul_add, h4]
      congr 1
      omega
    omega
theorem Chain.left_burnt (h : Chain n L B) {F : Int} (h0 : (L 0).fuel = F - burnsZ B ((L 0).leave - (L 0).start)) {j : Nat} (hj : j < n) {t : Int} : B * (t - (L 0).start) ≤ 3600 * (F - leftF (L j) B t) := by
  have h1 := h.burnt h0 j hj
  have h2 := leftF_le (l := L j) (B := B) (t := t)
  have h3 : B * ((L j).leave - (L 0).start) = B * ((L j).leave - t) + B * (t - (L 0).start) := by
    rw [← Int.mul_add]
    congr 1
    omega
  omega
theorem atF_first {t : Int} : ∀ (k i j : Nat), atF L t i k = some j → ∀ q, i ≤ q → q < j → (L q).leave < t
  | 0, _, _, h, _, _, _ => by cases h
  | k + 1, i, j, h, q, h0, h1 => by
    unfold atF at h
    by_cases h2 : t < (L i).start
    · rw [if_pos h2] at h; cases h
    · rw [if_neg h2] at h
      by_cases h3 : t ≤ (L i).leave
      · rw [if_pos h3] at h
        cases h
        omega
      · rw [if_neg h3] at h
        rcases Nat.eq_or_lt_of_le h0 with e | h4
        · subst e; omega
        · exact atF_first k (i + 1) j h q h4 h1
theorem atI_first {t : Int} {j q : Nat} (h : atI n L t = some j) (hq : q < j) : (L q).leave < t := atF_first n 0 j h q (Nat.zero_le _) hq
theorem Chain.atF_ex (h : Chain n L B) {t : Int} : ∀ (k i : Nat), i + k + 1 = n → (L i).start ≤ t → t ≤ (L (n - 1)).leave → ∃ j, atF L t i (k + 1) = some j
  | 0, i, e, h0, h1 => by
    rw [show n - 1 = i by omega] at h1
    exact ⟨i, by unfold atF; rw [if_neg (by omega), if_pos h1]⟩
  | k + 1, i, e, h0, h1 => by
    unfold atF
    rw [if_neg (by omega)]
    by_cases h2 : t ≤ (L i).leave
    · exact ⟨i, by rw [if_pos h2]⟩
    · rw [if_neg h2]
      exact h.atF_ex k (i + 1) (by omega) (by have := h.join i (by omega); omega) h1
theorem Chain.at_ex (h : Chain n L B) (hn : 0 < n) {t : Int} (h0 : (L 0).start ≤ t) (h1 : t ≤ (L (n - 1)).leave) : ∃ j, atI n L t = some j := by
  obtain ⟨m, rfl⟩ : ∃ m, n = m + 1 := ⟨n - 1, by omega⟩
  exact h.atF_ex m 0 (by omega) h0 h1
theorem Chain.at_mono (_ : Chain n L B) {t s : Int} {i j : Nat} (hi : atI n L t = some i) (hj : atI n L s = some j) (hts : t ≤ s) : i ≤ j := by
  rcases Nat.lt_or_ge j i with h | h
  · have h1 := atI_first hi h
    have h2 := (atI_some hj).2.2
    omega
  · exact h
end

theorem why_time {u : UC} {n : Nat} {S : Nat → FC} {since : Int} {g : GC} {w : WC} (h : whyOf u n S since g w = 0) : homeZ (legOf u g w) (backOf u w) ≤ 1073741824 := by
  unfold whyOf at h
  by_cases h1 : 1073741824 < homeZ (legOf u g w) (backOf u w)
  · rw [if_pos h1] at h; omega
  · omega
theorem takes_same {speed x y u v : Int} (hs : 1 ≤ speed) (hp : placeB x y = true) (hq : placeB u v = true) (h : takesZ speed x y u v = 0) : x = u ∧ y = v := by
  have hq0 := sqZ_in hp hq
  have hr := wayZ_root hq0.2
  have hw := wayZ_in hq0.1 hq0.2
  have h0 : wayZ (sqZ x y u v) = 0 := by
    unfold takesZ ceilZ at h
    rcases Int.lt_or_le 0 (wayZ (sqZ x y u v)) with hp | hp
    · have h1 : speed / speed ≤ (wayZ (sqZ x y u v) * 3600 + speed - 1) / speed := Int.ediv_le_ediv (by omega) (by omega)
      rw [Int.ediv_self (by omega)] at h1
      omega
    · omega
  have h1 := hr.up
  rw [h0] at h1
  have h2 : sqZ x y u v = 0 := by omega
  unfold sqZ at h2
  have h3 := sq_nonneg (x - u)
  have h4 := sq_nonneg (y - v)
  have h5 : (x - u) * (x - u) = 0 := by omega
  have h6 : (y - v) * (y - v) = 0 := by omega
  have h7 : x - u = 0 := by rcases Int.mul_eq_zero.1 h5 with h | h <;> exact h
  have h8 : y - v = 0 := by rcases Int.mul_eq_zero.1 h6 with h | h <;> exact h
  omega

/-- A plan that was made. -/
structure Made (u : UC) (n : Nat) (S : Nat → FC) (start : Int) (rn : Nat) (R : Nat → WC) (g0 : GC) : Prop where
  uo : UOK u
  go : GOK g0
  wo : ∀ i, i < rn → wayB (R i) = true
  yo : ∀ i, i < rn → ysq u n S start R g0 i = 0
  fuel : g0.fuel ≤ 1073741824
section
variable {u : UC} {n : Nat} {S : Nat → FC} {start : Int} {rn : Nat} {R : Nat → WC} {g0 : GC}
theorem Made.gok (h : Made u n S start rn R g0) {i : Nat} (hi : i ≤ rn) : GOK (gsq u R g0 i) := gok_at h.uo h.go i (fun j hj => h.wo j (by omega)) (fun j hj => h.yo j (by omega))
theorem planL_lt {i : Nat} (hi : i < rn) : planL u R g0 rn i = legOf u (gsq u R g0 i) (R i) := by unfold planL; rw [if_pos hi]; rfl
theorem planL_last : planL u R g0 rn rn = homeLeg u (gsq u R g0 rn) := by unfold planL; rw [if_neg (by omega)]
theorem planL_gone {i : Nat} (hi : i < rn) : goneTo (planL u R g0 rn i) = gsq u R g0 (i + 1) := by rw [planL_lt hi]; rfl
theorem planL_from {i : Nat} (hi : i ≤ rn) : (planL u R g0 rn i).start = (gsq u R g0 i).time ∧ (planL u R g0 rn i).fx = (gsq u R g0 i).x ∧ (planL u R g0 rn i).fy = (gsq u R g0 i).y := by
  rcases Nat.eq_or_lt_of_le hi with e | h
  · subst e; rw [planL_last]; exact ⟨rfl, rfl, rfl⟩
  · rw [planL_lt h]; exact ⟨rfl, rfl, rfl⟩
/-- What is asked of each leg. -/
structure GoodLeg (u : UC) (g : GC) (l : LC) : Prop where
  ex : ∃ tx ty st, placeB tx ty = true ∧ 0 ≤ st ∧ l = ⟨g.x, g.y, tx, ty, g.time, g.time + takesZ u.speed g.x g.y tx ty, g.time + takesZ u.speed g.x g.y tx ty + st, g.fuel - burnsZ u.burn (g.time + takesZ u.speed g.x g.y tx ty + st - g.time)⟩
  leave : l.leave ≤ 1073741824
  fuel : 0 ≤ l.fuel
theorem Made.good (h : Made u n S start rn R g0) (h0 : 0 < rn) {i : Nat} (hi : i ≤ rn) : GoodLeg u (gsq u R g0 i) (planL u R g0 rn i) := by
  have hres := h.uo.reserve
  rcases Nat.eq_or_lt_of_le hi with e | hlt
  · subst e
    have k := (home_last h.uo h.go h.wo h.yo).1
    refine ⟨⟨_, _, _, k.to_, k.stay.1, k.eq⟩, ?_, ?_⟩
    · obtain ⟨j, rfl⟩ : ∃ j, i = j + 1 := ⟨i - 1, by omega⟩
      rw [planL_last]
      exact why_time (h.yo j (by omega))
    · have h1 := k.res h0
      rw [takes_zero h.uo.speed.1, burns_zero] at h1
      omega
  · have k := home_way h.uo h.go h.wo h.yo hlt
    have h1 := k.res h0
    have i7 := takesZ_in (speed := u.speed) h.uo.speed.1 k.to_ h.uo.base
    have i8 := burnsZ_in h.uo.burn (t := takesZ u.speed (R i).tx (R i).ty u.bx u.by_) (by omega)
    refine ⟨⟨_, _, _, k.to_, k.stay.1, k.eq⟩, ?_, by omega⟩
    have h2 := why_time (h.yo i hlt)
    have h3 : homeZ (legOf u (gsq u R g0 i) (R i)) (backOf u (R i)) = (legOf u (gsq u R g0 i) (R i)).leave + backOf u (R i) := rfl
    have h4 : backOf u (R i) = takesZ u.speed (R i).tx (R i).ty u.bx u.by_ := rfl
    rw [planL_lt hlt]
    omega
theorem Made.fuel_le (h : Made u n S start rn R g0) : ∀ i, i ≤ rn → (gsq u R g0 i).fuel ≤ 1073741824
  | 0, _ => h.fuel
  | i + 1, hi => by
    have h1 := h.fuel_le i (by omega)
    obtain ⟨_, _, _, _, i5, _⟩ := leg_in h.uo (h.gok (i := i) (by omega)) (h.wo i hi)
    have i6 := burnsZ_in h.uo.burn (t := leaveZ u (gsq u R g0 i) (R i) - (gsq u R g0 i).time) (by omega)
    show leftZ u (gsq u R g0 i) (R i) ≤ _
    unfold leftZ
    omega
theorem Made.legB (h : Made u n S start rn R g0) (h0 : 0 < rn) {i : Nat} (hi : i ≤ rn) : legB (planL u R g0 rn i) = true := by
  have k := h.good h0 hi
  have hg := h.gok hi
  have hf := h.fuel_le i hi
  obtain ⟨tx, ty, st, hp, hst, he⟩ := k.ex
  have h1 := k.leave
  have h2 := k.fuel
  have i1 := takesZ_in (speed := u.speed) h.uo.speed.1 hg.place hp
  have i6 := burnsZ_in h.uo.burn (t := (gsq u R g0 i).time + takesZ u.speed (gsq u R g0 i).x (gsq u R g0 i).y tx ty + st - (gsq u R g0 i).time) (by rw [he] at h1; dsimp only at h1; have := hg.time; omega)
  have hs := takes_same h.uo.speed.1 hg.place hp
  have ht := hg.time
  rw [he] at h1 h2
  dsimp only at h1 h2
  rw [he]
  unfold Go.Proofs.YtghkfopcjdkieaaDoor.legB
  simp only [Bool.and_eq_true, decide_eq_true_eq, timeB, inB_iff, Bool.not_eq_true', Bool.and_eq_false_iff, decide_eq_false_iff_not, Bool.not_eq_false']
  refine ⟨⟨⟨⟨⟨⟨⟨⟨hg.place, hp⟩, by omega⟩, by omega⟩, by omega⟩, by omega⟩, by omega⟩, ?_⟩, by omega⟩
  rcases Int.lt_or_le 0 (takesZ u.speed (gsq u R g0 i).x (gsq u R g0 i).y tx ty) with hlt | hle
  · exact .inl (by omega)
  · have := hs (by omega)
    exact .inr (by simp [this])
theorem Made.joinB (_ : Made u n S start rn R g0) {i : Nat} (hi : i < rn) : joinB (planL u R g0 rn i) (planL u R g0 rn (i + 1)) = true := by
  have h1 := planL_from (u := u) (R := R) (g0 := g0) (show i + 1 ≤ rn from hi)
  have h2 := planL_gone (u := u) (R := R) (g0 := g0) hi
  unfold Go.Proofs.YtghkfopcjdkieaaDoor.joinB
  rw [h1.1, h1.2.1, h1.2.2, ← h2]
  simp [goneTo]
theorem Made.legs (h : Made u n S start rn R g0) (h0 : 0 < rn) : legsB (rn + 1) (planL u R g0 rn) = true := by
  unfold legsB
  simp only [Bool.and_eq_true, decide_eq_true_eq, List.all_eq_true, List.mem_range, Bool.or_eq_true]
  refine ⟨by omega, fun i hi => ⟨h.legB h0 (by omega), ?_⟩⟩
  rcases Nat.eq_zero_or_pos i with e | hp
  · exact .inl e
  · obtain ⟨j, rfl⟩ : ∃ j, i = j + 1 := ⟨i - 1, by omega⟩
    exact .inr (h.joinB (by omega))
theorem Made.chain (h : Made u n S start rn R g0) (h0 : 0 < rn) : Chain (rn + 1) (planL u R g0 rn) u.burn := by
  refine ⟨h.uo.burn.1, fun i hi => ?_, fun i hi => ?_, fun i hi => ?_⟩
  · have := legs_ok (h.legs h0) hi
    exact ⟨this.arrive.1, this.leave.1⟩
  · have h1 := h.joinB (i := i) (by omega)
    unfold Go.Proofs.YtghkfopcjdkieaaDoor.joinB at h1
    simp only [Bool.and_eq_true, decide_eq_true_eq] at h1
    exact h1.2
  · obtain ⟨tx, ty, st, hp, hst, he⟩ := (h.good h0 (i := i + 1) (by omega)).ex
    have h2 := planL_gone (u := u) (R := R) (g0 := g0) (show i < rn by omega)
    have h3 : (planL u R g0 rn i).fuel = (gsq u R g0 (i + 1)).fuel := by rw [← h2]; rfl
    rw [h3, he]
theorem Made.first (h : Made u n S start rn R g0) (h0 : 0 < rn) : (planL u R g0 rn 0).start = g0.time ∧ (planL u R g0 rn 0).fuel = g0.fuel - burnsZ u.burn ((planL u R g0 rn 0).leave - (planL u R g0 rn 0).start) := by
  obtain ⟨tx, ty, st, hp, hst, he⟩ := (h.good h0 (i := 0) (by omega)).ex
  rw [he]
  exact ⟨rfl, rfl⟩

/-- Legs that take no time lead nowhere. -/
theorem Made.stays (h : Made u n S start rn R g0) (h0 : 0 < rn) {i : Nat} (hi : i < rn) (ht : (planL u R g0 rn (i + 1)).leave = (planL u R g0 rn i).leave) : goneTo (planL u R g0 rn (i + 1)) = goneTo (planL u R g0 rn i) := by
  have hc := h.chain h0
  have h1 := hc.join i (by omega)
  have h2 := hc.le (i + 1) (by omega)
  have h3 := hc.fuel i (by omega)
  obtain ⟨tx, ty, st, hp, hst, he⟩ := (h.good h0 (i := i + 1) (by omega)).ex
  have h4 := planL_gone (u := u) (R := R) (g0 := g0) hi
  have hg := h.gok (i := i + 1) (by omega)
  have h5 : takesZ u.speed (gsq u R g0 (i + 1)).x (gsq u R g0 (i + 1)).y tx ty = 0 := by
    have i1 := takesZ_in (speed := u.speed) h.uo.speed.1 hg.place hp
    rw [he] at h1 h2 ht
    dsimp only at h1 h2 ht
    omega
  have h6 := takes_same h.uo.speed.1 hg.place hp h5
  have h7 : (planL u R g0 rn (i + 1)).leave - (planL u R g0 rn (i + 1)).start = 0 := by omega
  rw [h7, burns_zero, Int.sub_zero] at h3
  rw [h4]
  have h8 : (gsq u R g0 (i + 1)).time = (planL u R g0 rn i).leave := by rw [← h4]; rfl
  have h9 : (gsq u R g0 (i + 1)).fuel = (planL u R g0 rn i).fuel := by rw [← h4]; rfl
  have e1 : (planL u R g0 rn (i + 1)).tx = tx ∧ (planL u R g0 rn (i + 1)).ty = ty := by rw [he]; exact ⟨rfl, rfl⟩
  unfold goneTo
  rw [e1.1, e1.2, ht, h3, ← h6.1, ← h6.2, ← h8, ← h9]
theorem Made.stays_to (h : Made u n S start rn R g0) (h0 : 0 < rn) (j : Nat) : ∀ d, j + d < rn → (planL u R g0 rn j).leave = (planL u R g0 rn (j + d)).leave → goneTo (planL u R g0 rn j) = goneTo (planL u R g0 rn (j + d))
  | 0, _, _ => rfl
  | d + 1, hd, ht => by
    have hc := h.chain h0
    have h1 := hc.leave_mono d j (by omega)
    have h2 := hc.leave_mono 1 (j + d) (by omega)
    rw [show j + (d + 1) = j + d + 1 by omega] at ht ⊢
    rw [h.stays_to h0 j d (by omega) (by omega), h.stays h0 (i := j + d) (by omega) (by omega)]
/-- Where a unit is that plans anew where a leg ends. -/
theorem Made.again_at (h : Made u n S start rn R g0) (h0 : 0 < rn) {i : Nat} (hi : i < rn) :
    ∃ j, atI (rn + 1) (planL u R g0 rn) (planL u R g0 rn i).leave = some j ∧ againG u (planL u R g0 rn j) (planL u R g0 rn i).leave = gsq u R g0 (i + 1) := by
  have hc := h.chain h0
  have h1 := hc.leave_mono (rn - i) i (by omega)
  have h2 := hc.leave_mono i 0 (by omega)
  have h3 := hc.le 0 (by omega)
  rw [show i + (rn - i) = rn + 1 - 1 by omega] at h1
  rw [Nat.zero_add] at h2
  obtain ⟨j, hj⟩ := hc.at_ex (by omega) (t := (planL u R g0 rn i).leave) (by omega) h1
  refine ⟨j, hj, ?_⟩
  have hs := atI_some hj
  have hji : j ≤ i := by
    rcases Nat.lt_or_ge i j with hlt | hge
    · have := atI_first hj hlt
      omega
    · exact hge
  have h4 := hc.leave_mono (i - j) j (by omega)
  rw [show j + (i - j) = i by omega] at h4
  have h5 : (planL u R g0 rn j).leave = (planL u R g0 rn i).leave := by omega
  have h6 := h.stays_to h0 j (i - j) (by omega) (by rw [show j + (i - j) = i by omega]; exact h5)
  rw [show j + (i - j) = i by omega] at h6
  rw [← planL_gone hi, ← h6, ← h5]
  have h7 := hc.le j hs.1
  unfold againG goneTo lowZ leftF
  rw [if_pos h7.2]
  simp
/-- The ways that are left. -/
theorem gsq_rest (u : UC) (R : Nat → WC) (g : GC) (i : Nat) : ∀ k, gsq u (fun k => R (i + k)) (gsq u R g i) k = gsq u R g (i + k)
  | 0 => rfl
  | k + 1 => by
    show goneTo (legOf u (gsq u (fun k => R (i + k)) (gsq u R g i) k) (R (i + k))) = _
    rw [gsq_rest u R g i k]
    rfl
theorem planL_rest (u : UC) (R : Nat → WC) (g : GC) (i m : Nat) : ∀ k, k ≤ m → planL u (fun k => R (i + k)) (gsq u R g i) m k = planL u R g (i + m) (i + k) := fun k hk => by
  rcases Nat.eq_or_lt_of_le hk with e | hlt
  · subst e
    rw [planL_last, planL_last, gsq_rest]
  · rw [planL_lt hlt, planL_lt (by omega), gsq_rest]
theorem overB_iff {a b c d : Int} : overB a b c d = true ↔ a ≤ d ∧ c ≤ b := by simp [overB]
/-- No way is left: it may stay where it is. -/
theorem Made.here (h : Made u n S start rn R g0) {i : Nat} (hi : rn = i + 1) : whyOf u n S start (gsq u R g0 rn) (hereW (gsq u R g0 rn)) = 0 := by
  subst hi
  have hy := h.yo i (by omega)
  have hz := why_zero hy
  have ht := why_time hy
  obtain ⟨g, hg⟩ : ∃ g, g = gsq u R g0 (i + 1) := ⟨_, rfl⟩
  obtain ⟨g1, hg1⟩ : ∃ g, g = gsq u R g0 i := ⟨_, rfl⟩
  have hge : g = ⟨(R i).tx, (R i).ty, leaveZ u g1 (R i), leftZ u g1 (R i)⟩ := by rw [hg, hg1]; rfl
  rw [← hg1] at hz ht
  rw [← hg]
  have tz : takesZ u.speed g.x g.y (hereW g).tx (hereW g).ty = 0 := takes_zero h.uo.speed.1
  have a1 : arriveZ u g (hereW g) = g.time := by unfold arriveZ; rw [tz, Int.add_zero]
  have a2 : leaveZ u g (hereW g) = g.time := by
    show arriveZ u g (hereW g) + 0 = _
    rw [a1, Int.add_zero]
  have a3 : leftZ u g (hereW g) = g.fuel := by
    unfold leftZ
    rw [a2, Int.sub_self, burns_zero, Int.sub_zero]
  have bk : backOf u (hereW g) = backOf u (R i) := by rw [hge]; rfl
  have hl : legOf u g (hereW g) = ⟨g.x, g.y, g.x, g.y, g.time, g.time, g.time, g.fuel⟩ := by
    unfold legOf
    rw [a1, a2, a3]
    rfl
  have e1 : homeZ (legOf u g (hereW g)) (backOf u (hereW g)) = homeZ (legOf u g1 (R i)) (backOf u (R i)) := by rw [hl, bk, hge]; rfl
  have e2 : leftZ u g (hereW g) = leftZ u g1 (R i) := by rw [a3, hge]
  have e3 : roughB u n S (legOf u g (hereW g)) (backOf u (hereW g)) = false := by
    have hr := hz.2.2
    unfold roughB at hr ⊢
    rw [Bool.or_eq_false_iff] at hr ⊢
    refine ⟨?_, ?_⟩
    · rw [hl]
      unfold badB
      rw [List.any_eq_false]
      intro k hk
      have hb := bad_at hr.1 k (by simpa using hk)
      intro hc
      rw [Bool.and_eq_true] at hc
      rw [hc.2, Bool.and_true] at hb
      have hc1 := hc.1
      unfold concB at hc1 hb
      simp only [Bool.and_eq_true, overB_iff] at hc1
      have hx : (legOf u g1 (R i)).tx = g.x ∧ (legOf u g1 (R i)).ty = g.y ∧ (legOf u g1 (R i)).leave = g.time := by rw [hge]; exact ⟨rfl, rfl, rfl⟩
      have hgk1 : GOK g1 := by rw [hg1]; exact h.gok (i := i) (by omega)
      have hin := leg_in h.uo hgk1 (h.wo i (by omega))
      have hst : (legOf u g1 (R i)).start ≤ (legOf u g1 (R i)).leave := by
        show g1.time ≤ leaveZ u g1 (R i)
        have := hin.2.2.2.2.1
        omega
      have : (overB (S k).from_ (S k).to_ (legOf u g1 (R i)).start (legOf u g1 (R i)).leave && overB (S k).lx (S k).hx (min (legOf u g1 (R i)).fx (legOf u g1 (R i)).tx) (max (legOf u g1 (R i)).fx (legOf u g1 (R i)).tx) && overB (S k).ly (S k).hy (min (legOf u g1 (R i)).fy (legOf u g1 (R i)).ty) (max (legOf u g1 (R i)).fy (legOf u g1 (R i)).ty)) = true := by
        simp only [Bool.and_eq_true, overB_iff]
        omega
      rw [this] at hb
      cases hb
    · have hb := hr.2
      rw [e1]
      have hx : (legOf u g1 (R i)).tx = (legOf u g (hereW g)).tx ∧ (legOf u g1 (R i)).ty = (legOf u g (hereW g)).ty ∧ (legOf u g1 (R i)).leave = (legOf u g (hereW g)).leave := by rw [hl, hge]; exact ⟨rfl, rfl, rfl⟩
      rw [← hx.1, ← hx.2.1, ← hx.2.2]
      exact hb
  unfold whyOf
  rw [e1, e2, e3, bk]
  rw [if_neg (by omega), if_neg (by omega), if_neg (by omega)]
  simp
/-- PLANNED ANEW where a leg ends: nothing is in the way. -/
theorem Made.again (h : Made u n S start rn R g0) {s : ByteArray} (hus : unitB u s = true) (hws : weatherB n S = true) (hrs : rn ≤ 30) (ht : g0.time = start) {i : Nat} (hi : i < rn) :
    againO u s (rn + 1) (planL u R g0 rn) (planL u R g0 rn i).leave n S (rn - (i + 1)) (fun k => R (i + 1 + k)) = none := by
  obtain ⟨j, hj, hg⟩ := h.again_at (by omega) hi
  have hr : routeB (rn - (i + 1)) (fun k => R (i + 1 + k)) = true := by
    unfold routeB
    rw [List.all_eq_true]
    intro k hk
    exact h.wo (i + 1 + k) (by have := List.mem_range.1 hk; omega)
  unfold againO
  rw [hus, hws, hr, h.legs (by omega), hj]
  simp only [Bool.and_self, Bool.true_eq_false, if_false]
  rw [if_neg (by omega), hg, (h.first (by omega)).1, ht]
  unfold goO
  rw [if_neg (fun hc => ?_)]
  · refine stop_none fun k hk => ?_
    have := h.yo (i + 1 + k) (by omega)
    unfold ysq at this ⊢
    rw [gsq_rest]
    exact this
  · have e : rn = i + 1 := by omega
    have h2 := h.here e
    rw [e] at h2
    exact hc.2 h2
end
end Go.Proofs.YtghkfopcjdkieaaDoor
