/-
  Texts K1, K2, K3, K4, K6 of this claim, one behind the other.
-/
namespace Go.Proofs.YtfmigicmfolbjaaDoor
set_option linter.all false
set_option linter.unusedSimpArgs false
set_option linter.unusedVariables false

/-- A ship aground. -/
structure Gr where
  draught : Int
  depth : Int
  tpc : Int
  pull : Int
  fric : Int
/-- Whether a ship comes off at a time, between two points of a tide. -/
def offP (g : Gr) (ta ha tb hb t : Int) : Bool := decide (((g.draught - g.depth - ha) * max 1 (tb - ta) - (hb - ha) * (t - ta)) * g.tpc * g.fric ≤ 10000 * g.pull * max 1 (tb - ta))
/-- It is a line. -/
theorem offP_line (g : Gr) (ta ha tb hb : Int) : ∃ al be : Int, ∀ t, offP g ta ha tb hb t = decide (al * t ≤ be) := by
  refine ⟨-((hb - ha) * (g.tpc * g.fric)), 10000 * g.pull * max 1 (tb - ta) - ((g.draught - g.depth - ha) * max 1 (tb - ta) + (hb - ha) * ta) * (g.tpc * g.fric), fun t => ?_⟩
  unfold offP
  generalize max 1 (tb - ta) = m
  have e : ((g.draught - g.depth - ha) * m - (hb - ha) * (t - ta)) * g.tpc * g.fric = ((g.draught - g.depth - ha) * m + (hb - ha) * ta) * (g.tpc * g.fric) + -((hb - ha) * (g.tpc * g.fric)) * t := by grind
  rw [e]
  congr 1
  apply propext
  constructor <;> intro h <;> omega
/-- A line between two times. -/
structure Line (o : Int → Bool) : Prop where
  line : ∃ al be : Int, ∀ t, o t = decide (al * t ≤ be)
theorem Line.cases {o : Int → Bool} (h : Line o) : (∀ x y, x ≤ y → o y = true → o x = true) ∨ (∀ x y, x ≤ y → o x = true → o y = true) := by
  obtain ⟨al, be, h⟩ := h.line
  rcases Int.le_total 0 al with ha | ha
  · refine .inl fun x y hxy hy => ?_
    rw [h, decide_eq_true_eq] at hy ⊢
    exact Int.le_trans (Int.mul_le_mul_of_nonneg_left hxy ha) hy
  · refine .inr fun x y hxy hx => ?_
    rw [h, decide_eq_true_eq] at hx ⊢
    exact Int.le_trans (Int.mul_le_mul_of_nonpos_left ha hxy) hx
theorem Line.down {o : Int → Bool} (h : Line o) {a b : Int} (hab : a ≤ b) (ha : o a = true) (hb : o b = false) : ∀ x y, x ≤ y → o y = true → o x = true := by
  rcases h.cases with h1 | h1
  · exact h1
  · exact absurd (h1 a b hab ha) (by rw [hb]; simp)
theorem Line.up {o : Int → Bool} (h : Line o) {a b : Int} (hab : a ≤ b) (ha : o a = false) (hb : o b = true) : ∀ x y, x ≤ y → o x = true → o y = true := by
  rcases h.cases with h1 | h1
  · exact absurd (h1 a b hab hb) (by rw [ha]; simp)
  · exact h1
theorem Line.both {o : Int → Bool} (h : Line o) {a b x : Int} (h1 : a ≤ x) (h2 : x ≤ b) (ha : o a = true) (hb : o b = true) : o x = true := by
  rcases h.cases with k | k
  · exact k x b h2 hb
  · exact k a x h1 ha
theorem Line.none {o : Int → Bool} (h : Line o) {a b x : Int} (h1 : a ≤ x) (h2 : x ≤ b) (ha : o a = false) (hb : o b = false) : o x = false := by
  cases hx : o x
  · rfl
  · rcases h.cases with k | k
    · exact absurd (k a x h1 hx) (by rw [ha]; simp)
    · exact absurd (k x b h2 hx) (by rw [hb]; simp)
/-- When something is: first, and as long as to end; within s and e. -/
structure Span (o : Int → Bool) (s e first end_ : Int) : Prop where
  lo : s ≤ first
  mid : first ≤ end_
  hi : end_ ≤ e
  no : ∀ t, s ≤ t → t < first → o t = false
  yes : ∀ t, first ≤ t → t ≤ end_ → o t = true
  stop : end_ < e → o (end_ + 1) = false
def Never (o : Int → Bool) (s e : Int) : Prop := ∀ t, s ≤ t → t ≤ e → o t = false
theorem Span.unique {o : Int → Bool} {s e f1 e1 f2 e2 : Int} (h : Span o s e f1 e1) (k : Span o s e f2 e2) : f1 = f2 ∧ e1 = e2 := by
  have hf : f1 = f2 := by
    rcases Int.lt_trichotomy f1 f2 with c | c | c
    · have := k.no f1 h.lo c; have := h.yes f1 (Int.le_refl _) h.mid; simp_all
    · exact c
    · have := h.no f2 k.lo c; have := k.yes f2 (Int.le_refl _) k.mid; simp_all
  refine ⟨hf, ?_⟩
  have m1 := h.mid
  have m2 := k.mid
  have i1 := h.hi
  have i2 := k.hi
  rcases Int.lt_trichotomy e1 e2 with c | c | c
  · have a := h.stop (by omega); have b := k.yes (e1 + 1) (by omega) (by omega); simp_all
  · exact c
  · have a := k.stop (by omega); have b := h.yes (e2 + 1) (by omega) (by omega); simp_all
theorem Never.not {o : Int → Bool} {s e f1 e1 : Int} (h : Never o s e) (k : Span o s e f1 e1) : False := by
  have a := h f1 k.lo (Int.le_trans k.mid k.hi)
  have b := k.yes f1 (Int.le_refl _) k.mid
  simp_all
/-- The greatest number from one to another one up to which something holds. -/
structure Last (p : Int → Bool) (a b r : Int) : Prop where
  lo : a ≤ r
  hi : r ≤ b
  yes : p r = true
  no : ∀ x, r < x → x ≤ b → p x = false
theorem Last.unique {p : Int → Bool} {a b r s : Int} (h : Last p a b r) (k : Last p a b s) : r = s := by
  rcases Int.lt_trichotomy r s with c | c | c
  · have := h.no s c k.hi; have := k.yes; simp_all
  · exact c
  · have := k.no r c h.hi; have := h.yes; simp_all
/-- The first one from which on something holds. -/
structure Turn (p : Int → Bool) (a b r : Int) : Prop where
  lo : a ≤ r
  hi : r ≤ b
  yes : p r = true
  no : ∀ x, a ≤ x → x < r → p x = false
/-- The piece of a tide in which a time lies. -/
theorem span_both {o : Int → Bool} (h : Line o) {a b : Int} (hab : a ≤ b) (ha : o a = true) (hb : o b = true) : Span o a b a b :=
  ⟨Int.le_refl _, hab, Int.le_refl _, fun t h1 h2 => absurd h1 (by omega), fun t h1 h2 => h.both h1 h2 ha hb, fun h => absurd h (by omega)⟩
theorem span_down {o : Int → Bool} (h : Line o) {a b r : Int} (hab : a ≤ b) (ha : o a = true) (hb : o b = false) (hr : Last o a b r) : Span o a b a r :=
  ⟨Int.le_refl _, hr.lo, hr.hi, fun t h1 h2 => absurd h1 (by omega), fun t h1 h2 => h.down hab ha hb t r h2 hr.yes, fun h => hr.no _ (by omega) (by omega)⟩
theorem span_up {o : Int → Bool} (h : Line o) {a b r : Int} (hab : a ≤ b) (ha : o a = false) (hb : o b = true) (hr : Last (fun t => !o t) a b r) : Span o a b (r + 1) b := by
  have hrb : r < b := by
    have h1 := hr.hi
    have h2 := hr.yes
    rcases Int.lt_or_eq_of_le h1 with c | c
    · exact c
    · subst c; rw [hb] at h2; simp at h2
  have hno : ∀ t, a ≤ t → t < r + 1 → o t = false := fun t h1 h2 => by
    cases ht : o t
    · rfl
    · have h3 := h.up hab ha hb t r (by omega) ht
      have h4 := hr.yes
      rw [h3] at h4
      simp at h4
  refine ⟨by have := hr.lo; omega, by omega, Int.le_refl _, hno, fun t h1 h2 => ?_, fun h => absurd h (by omega)⟩
  have := hr.no t (by omega) h2
  simpa using this
theorem turn_span {o : Int → Bool} (h : Line o) {a b r : Int} (hab : a ≤ b) (ha : o a = false) (hb : o b = true) (hr : Turn o a b r) : Span o a b r b :=
  ⟨hr.lo, hr.hi, Int.le_refl _, hr.no, fun t h1 h2 => h.up hab ha hb r t h1 hr.yes, fun h => absurd h (by omega)⟩
end Go.Proofs.YtfmigicmfolbjaaDoor

namespace Go.Proofs.YtfmigicmfolbjaaDoor
set_option linter.all false
set_option linter.unusedSimpArgs false
set_option linter.unusedVariables false

theorem rev_ind {α : Type} {motive : List α → Prop} (l : List α) (nil : motive []) (snoc : ∀ l x, motive l → motive (l ++ [x])) : motive l := by
  rw [← List.reverse_reverse l]
  generalize l.reverse = m
  induction m with
  | nil => exact nil
  | cons x m ih => rw [List.reverse_cons]; exact snoc _ _ ih
/-- Orders of n steps: which is ahead of which. -/
structure Ord (n : Nat) (A : Nat → Nat → Bool) : Prop where
  irr : ∀ i, i < n → A i i = false
  tr : ∀ i j k, A i j = true → A j k = true → A i k = true
  lt : ∀ i j, A i j = true → i < n ∧ j < n
/-- A beginning of a row. -/
inductive Lin (n : Nat) (A : Nat → Nat → Bool) : List Nat → Prop
  | nil : Lin n A []
  | snoc {l : List Nat} {i : Nat} : Lin n A l → i < n → i ∉ l → (∀ k, A k i = true → k ∈ l) → Lin n A (l ++ [i])
/-- What holds of a fact behind steps. -/
def holdsF (st : Bool) (adds takes : Nat → Bool) (l : List Nat) : Bool := l.foldl (fun s d => adds d || (s && !takes d)) st
theorem holdsF_snoc (st : Bool) (adds takes : Nat → Bool) (l : List Nat) (d : Nat) : holdsF st adds takes (l ++ [d]) = (adds d || (holdsF st adds takes l && !takes d)) := by simp [holdsF]
theorem holdsF_append (st : Bool) (adds takes : Nat → Bool) (l m : List Nat) : holdsF st adds takes (l ++ m) = holdsF (holdsF st adds takes l) adds takes m := by simp [holdsF]
theorem holdsF_keep {adds takes : Nat → Bool} : ∀ (m : List Nat) (st : Bool), st = true → (∀ x, x ∈ m → takes x = true → adds x = true) → holdsF st adds takes m = true
  | [], st, h, _ => h
  | d :: m, st, h, ht => by
    show holdsF (adds d || (st && !takes d)) adds takes m = true
    refine holdsF_keep m _ ?_ (fun x hx => ht x (by simp [hx]))
    subst h
    cases hd : adds d
    · cases hk : takes d
      · rfl
      · have := ht d (by simp) hk
        rw [hd] at this
        cases this
    · rfl
theorem holdsF_none {adds takes : Nat → Bool} : ∀ (m : List Nat), (∀ x, x ∈ m → adds x = false) → holdsF false adds takes m = false
  | [], _ => rfl
  | d :: m, h => by
    show holdsF (adds d || (false && !takes d)) adds takes m = false
    rw [h d (by simp)]
    exact holdsF_none m (fun x hx => h x (by simp [hx]))
theorem Lin.lt {n : Nat} {A : Nat → Nat → Bool} {l : List Nat} (h : Lin n A l) : ∀ x, x ∈ l → x < n := by
  induction h with
  | nil => intro x hx; cases hx
  | snoc _ hi _ _ ih => intro x hx; rcases List.mem_append.1 hx with hx | hx; exact ih x hx; simp at hx; omega
theorem Lin.nodup {n : Nat} {A : Nat → Nat → Bool} {l : List Nat} (h : Lin n A l) : l.Nodup := by
  induction h with
  | nil => simp
  | snoc _ _ hn _ ih =>
    rw [List.nodup_append]
    refine ⟨ih, by simp, fun x hx y hy => ?_⟩
    simp at hy
    subst hy
    intro e
    subst e
    exact hn hx
/-- A set of steps holds all that is ahead of its own. -/
def Down (A : Nat → Nat → Bool) (D : Nat → Prop) : Prop := ∀ k i, A k i = true → D i → D k
/-- How many of the first m numbers are so. -/
def cntB (p : Nat → Bool) (m : Nat) : Nat := ((List.range m).filter p).length
theorem cntB_le {p q : Nat → Bool} (m : Nat) (h : ∀ x, x < m → p x = true → q x = true) : cntB p m ≤ cntB q m := by
  induction m with
  | zero => simp [cntB]
  | succ m ih =>
    have i1 := ih (fun x hx => h x (by omega))
    have h2 := h m (by omega)
    unfold cntB at i1 ⊢
    rw [List.range_succ, List.filter_append, List.filter_append, List.length_append, List.length_append]
    cases hp : p m
    · simp [hp]; omega
    · simp [hp, h2 hp]; omega
theorem cntB_lt {p q : Nat → Bool} {m y : Nat} (hy : y < m) (h : ∀ x, x < m → p x = true → q x = true) (hp : p y = false) (hq : q y = true) : cntB p m < cntB q m := by
  induction m with
  | zero => omega
  | succ m ih =>
    unfold cntB at ih ⊢
    rw [List.range_succ, List.filter_append, List.filter_append, List.length_append, List.length_append]
    by_cases hym : y = m
    · subst hym
      have i1 := cntB_le (p := p) (q := q) y (fun x hx => h x (by omega))
      unfold cntB at i1
      simp [hp, hq]
      omega
    · have i1 := ih (by omega) (fun x hx => h x (by omega))
      have h2 := h m (by omega)
      cases hpm : p m
      · simp [hpm]; omega
      · simp [hpm, h2 hpm]; omega
theorem cntB_pos {p : Nat → Bool} {m : Nat} (h : 0 < cntB p m) : ∃ x, x < m ∧ p x = true := by
  unfold cntB at h
  obtain ⟨x, hx⟩ := List.exists_mem_of_length_pos h
  rw [List.mem_filter] at hx
  exact ⟨x, by simpa using hx.1, hx.2⟩
/-- There is one that can come next. -/
theorem next_in {n : Nat} {A : Nat → Nat → Bool} (ho : Ord n A) {D : Nat → Prop} (hD : Down A D) {l : List Nat} : ∀ (c x : Nat), cntB (fun y => A y x && decide (y ∉ l)) n ≤ c → x < n → D x → x ∉ l → ∃ i, i < n ∧ D i ∧ i ∉ l ∧ ∀ k, A k i = true → k ∈ l
  | 0, x, hc, hx, hd, hl => by
    refine ⟨x, hx, hd, hl, fun k hk => ?_⟩
    refine Decidable.byContradiction fun hkl => ?_
    have hkn := (ho.lt k x hk).1
    have : 0 < cntB (fun y => A y x && decide (y ∉ l)) n := Nat.lt_of_le_of_lt (Nat.zero_le _) (cntB_lt (p := fun _ => false) hkn (fun _ _ h => by cases h) rfl (by simp [hk, hkl]))
    omega
  | c + 1, x, hc, hx, hd, hl => by
    by_cases h0 : cntB (fun y => A y x && decide (y ∉ l)) n = 0
    · exact next_in ho hD 0 x (by omega) hx hd hl
    · obtain ⟨y, hy, hyp⟩ := cntB_pos (Nat.pos_of_ne_zero h0)
      simp only [Bool.and_eq_true, decide_eq_true_eq] at hyp
      refine next_in ho hD c y ?_ hy (hD y x hyp.1 hd) hyp.2
      have : cntB (fun z => A z y && decide (z ∉ l)) n < cntB (fun z => A z x && decide (z ∉ l)) n := by
        refine cntB_lt hy (fun z hz h => ?_) ?_ ?_
        · simp only [Bool.and_eq_true, decide_eq_true_eq] at h ⊢
          exact ⟨ho.tr z y x h.1 hyp.1, h.2⟩
        · simp [ho.irr y hy]
        · simp [hyp.1, hyp.2]
      omega
/-- A beginning goes on to all of a set. -/
theorem lin_fill {n : Nat} {A : Nat → Nat → Bool} (ho : Ord n A) {D : Nat → Prop} [DecidablePred D] (hD : Down A D) : ∀ (c : Nat) (l : List Nat), Lin n A l → cntB (fun y => decide (D y) && decide (y ∉ l)) n ≤ c → ∃ m, Lin n A (l ++ m) ∧ (∀ x, x ∈ m → D x ∧ x ∉ l) ∧ ∀ x, x < n → D x → x ∈ l ++ m
  | c, l, hl, hc => by
    by_cases h0 : ∃ x, x < n ∧ D x ∧ x ∉ l
    · obtain ⟨x, hx, hd, hxl⟩ := h0
      obtain ⟨i, hi, hdi, hil, hk⟩ := next_in ho hD _ x (Nat.le_refl _) hx hd hxl
      have hlt : cntB (fun y => decide (D y) && decide (y ∉ l ++ [i])) n < cntB (fun y => decide (D y) && decide (y ∉ l)) n := by
        refine cntB_lt hi (fun y _ h => ?_) (by simp) (by simp [hdi, hil])
        simp only [Bool.and_eq_true, decide_eq_true_eq, List.mem_append, not_or] at h ⊢
        exact ⟨h.1, h.2.1⟩
      match c, hc with
      | 0, hc => omega
      | c + 1, hc =>
        obtain ⟨m, h1, h2, h3⟩ := lin_fill ho hD c (l ++ [i]) (.snoc hl hi hil hk) (by omega)
        refine ⟨i :: m, by simpa using h1, fun y hy => ?_, fun y hy hdy => by simpa using h3 y hy hdy⟩
        rcases List.mem_cons.1 hy with rfl | hy
        · exact ⟨hdi, hil⟩
        · have := h2 y hy
          exact ⟨this.1, fun hyl => this.2 (by simp [hyl])⟩
    · refine ⟨[], by simpa using hl, fun x hx => (by cases hx), fun x hx hd => ?_⟩
      simp only [List.append_nil]
      exact Decidable.byContradiction fun hxl => h0 ⟨x, hx, hd, hxl⟩
theorem Lin.inv {n : Nat} {A : Nat → Nat → Bool} {l : List Nat} {i : Nat} (h : Lin n A (l ++ [i])) : Lin n A l ∧ i < n ∧ i ∉ l ∧ ∀ k, A k i = true → k ∈ l := by
  generalize hm : l ++ [i] = m at h
  cases h with
  | nil => simp at hm
  | snoc h1 h2 h3 h4 =>
    obtain ⟨rfl, e⟩ := List.append_inj' hm rfl
    simp at e
    subst e
    exact ⟨h1, h2, h3, h4⟩
theorem Lin.pre {n : Nat} {A : Nat → Nat → Bool} {a : List Nat} : ∀ (b : List Nat), Lin n A (a ++ b) → Lin n A a := by
  intro b
  induction b using rev_ind with
  | nil => intro h; simpa using h
  | snoc b x ih =>
    intro h
    rw [← List.append_assoc] at h
    exact ih h.inv.1
theorem lin_order {n : Nat} {A : Nat → Nat → Bool} (ho : Ord n A) {k t : List Nat} {c d : Nat} (hl : Lin n A (k ++ [c] ++ t)) (hcd : A c d = true) (hd : d ∈ k ++ [c]) : False := by
  have h1 := Lin.pre t hl
  have h2 := h1.inv
  rcases List.mem_append.1 hd with hd | hd
  · obtain ⟨a, b, rfl⟩ := List.append_of_mem hd
    have h3 : Lin n A (a ++ [d] ++ b) := by simpa using h2.1
    have h4 := (Lin.pre b h3).inv
    have h5 := h4.2.2.2 c hcd
    exact h2.2.2.1 (by simp [h5])
  · have : d = c := by simpa using hd
    subst this
    have := ho.irr d h2.2.1
    rw [hcd] at this
    cases this
/-- Whether a fact surely holds: as the program asks. B: what is surely done before; M: what may be. -/
def surelyP (n : Nat) (A : Nat → Nat → Bool) (st : Bool) (adds takes : Nat → Bool) (B M : Nat → Bool) : Prop :=
  (st = true ∨ ∃ d, d < n ∧ B d = true ∧ adds d = true) ∧ ∀ c, c < n → M c = true → takes c = true → ∃ d, d < n ∧ A c d = true ∧ B d = true ∧ adds d = true
/-- IT IS TRUE: behind each beginning that holds all of B, and of the others only such as may be. -/
theorem surely_sound {n : Nat} {A : Nat → Nat → Bool} (ho : Ord n A) {st : Bool} {adds takes B M : Nat → Bool} (h : surelyP n A st adds takes B M) {l : List Nat} (hl : Lin n A l) (hB : ∀ x, x < n → B x = true → x ∈ l) (hM : ∀ x, x ∈ l → M x = true) :
    holdsF st adds takes l = true := by
  -- the last one that takes it
  have key : ∀ (k : List Nat), (∃ t, l = k ++ t ∧ ∀ x, x ∈ t → takes x = true → adds x = true) → holdsF st adds takes l = true := by
    intro k
    induction k using rev_ind with
    | nil =>
      rintro ⟨t, rfl, ht⟩
      rcases h.1 with h1 | ⟨d, hd, hdB, hda⟩
      · exact holdsF_keep _ st h1 ht
      · obtain ⟨a, b, rfl⟩ := List.append_of_mem (hB d hd hdB)
        rw [show a ++ d :: b = (a ++ [d]) ++ b by simp, holdsF_append]
        refine holdsF_keep b _ ?_ (fun x hx => ht x (by simp [hx]))
        rw [holdsF_snoc, hda]
        rfl
    | snoc k c ih =>
      rintro ⟨t, rfl, ht⟩
      by_cases hc : takes c = true ∧ adds c = false
      · have hmem : c ∈ k ++ [c] ++ t := by simp
        obtain ⟨d, hd, hcd, hdB, hda⟩ := h.2 c (hl.lt c hmem) (hM c hmem) hc.1
        have hdt : d ∈ t := by
          have hdl := hB d hd hdB
          rw [List.mem_append] at hdl
          rcases hdl with hdl | hdl
          · exfalso
            -- d stands ahead of c, but c is ahead of d
            exact lin_order ho hl hcd hdl
          · exact hdl
        obtain ⟨a, b, rfl⟩ := List.append_of_mem hdt
        rw [show k ++ [c] ++ (a ++ d :: b) = (k ++ [c] ++ a ++ [d]) ++ b by simp, holdsF_append]
        refine holdsF_keep b _ ?_ (fun x hx => ht x (by simp [hx]))
        rw [holdsF_snoc, hda]
        rfl
      · refine ih ⟨c :: t, by simp, fun x hx hx2 => ?_⟩
        rcases List.mem_cons.1 hx with rfl | hx
        · cases ha : adds x
          · exact absurd ⟨hx2, ha⟩ hc
          · rfl
        · exact ht x hx hx2
  exact key l ⟨[], by simp, fun x hx => by cases hx⟩
theorem Lin.one {n : Nat} {A : Nat → Nat → Bool} {l : List Nat} {i : Nat} (h : Lin n A l) (hi : i < n) (hn : i ∉ l) (hk : ∀ k, A k i = true → k ∈ l) : Lin n A (l ++ [i]) := .snoc h hi hn hk
/-- AND NO MORE: where it is not so, a beginning that holds just what must be, and perhaps one more and what that needs, ends without it. -/
theorem surely_complete {n : Nat} {A : Nat → Nat → Bool} (ho : Ord n A) {st : Bool} {adds takes B M : Nat → Bool} (hat : ∀ d, d < n → takes d = true → adds d = false) (hB : ∀ k i, A k i = true → B i = true → B k = true)
    (h : ¬ surelyP n A st adds takes B M) : ∃ l, Lin n A l ∧ holdsF st adds takes l = false ∧ (∀ x, x < n → B x = true → x ∈ l) ∧ ((∀ x, x ∈ l → B x = true) ∨ ∃ c, c < n ∧ M c = true ∧ ∀ x, x ∈ l → B x = true ∨ x = c ∨ A x c = true) := by
  by_cases h1 : st = true ∨ ∃ d, d < n ∧ B d = true ∧ adds d = true
  · have h2 : ∃ c, c < n ∧ M c = true ∧ takes c = true ∧ ¬ ∃ d, d < n ∧ A c d = true ∧ B d = true ∧ adds d = true := by
      refine Classical.byContradiction fun hn => h ⟨h1, fun c hc hm ht => Classical.byContradiction fun hd => hn ⟨c, hc, hm, ht, hd⟩⟩
    obtain ⟨c, hc, hm, ht, hd⟩ := h2
    -- first what is not behind c
    have hD1 : Down A fun x => (A x c = true ∨ B x = true) ∧ A c x = false ∧ x ≠ c := by
      rintro k i hki ⟨h3, h4, h5⟩
      refine ⟨?_, ?_, ?_⟩
      · rcases h3 with h3 | h3
        · exact .inl (ho.tr k i c hki h3)
        · exact .inr (hB k i hki h3)
      · cases hck : A c k
        · rfl
        · rw [ho.tr c k i hck hki] at h4; cases h4
      · rintro rfl
        rw [hki] at h4
        cases h4
    obtain ⟨l1, k1, k2, k3⟩ := lin_fill ho hD1 _ [] .nil (Nat.le_refl _)
    rw [List.nil_append] at k1 k3
    have hc1 : c ∉ l1 := fun hx => (k2 c hx).1.2.2 rfl
    have k4 := k1.one hc hc1 (fun k hk => k3 k (ho.lt k c hk).1 ⟨.inl hk, by
      cases hck : A c k
      · refine ⟨rfl, ?_⟩
        rintro rfl
        rw [ho.irr k hc] at hk
        cases hk
      · have := ho.tr c k c hck hk
        rw [ho.irr c hc] at this
        cases this⟩)
    have hD2 : Down A fun x => A x c = true ∨ B x = true ∨ x = c := by
      rintro k i hki (h3 | h3 | rfl)
      · exact .inl (ho.tr k i c hki h3)
      · exact .inr (.inl (hB k i hki h3))
      · exact .inl hki
    obtain ⟨m, m1, m2, m3⟩ := lin_fill ho hD2 _ (l1 ++ [c]) k4 (Nat.le_refl _)
    refine ⟨l1 ++ [c] ++ m, m1, ?_, fun x hx hb => m3 x hx (.inr (.inl hb)), .inr ⟨c, hc, hm, fun x hx => ?_⟩⟩
    · rw [holdsF_append, holdsF_snoc, ht, hat c hc ht]
      simp only [Bool.not_true, Bool.and_false, Bool.or_false]
      refine holdsF_none m fun x hx => ?_
      obtain ⟨h3, h4⟩ := m2 x hx
      have hxn := m1.lt x (by simp [hx])
      simp only [List.mem_append, List.mem_cons, List.not_mem_nil, or_false, not_or] at h4
      have hcx : A c x = true := by
        cases hcx : A c x
        · exfalso
          refine h4.1 (k3 x hxn ⟨?_, hcx, h4.2⟩)
          rcases h3 with h3 | h3 | h3
          · exact .inl h3
          · exact .inr h3
          · exact absurd h3 h4.2
        · rfl
      have hbx : B x = true := by
        rcases h3 with h3 | h3 | h3
        · have := ho.tr c x c hcx h3; rw [ho.irr c hc] at this; cases this
        · exact h3
        · exact absurd h3 h4.2
      cases ha : adds x
      · rfl
      · exact absurd ⟨x, hxn, hcx, hbx, ha⟩ hd
    · rw [List.mem_append] at hx
      rcases hx with hx | hx
      · rw [List.mem_append] at hx
        rcases hx with hx | hx
        · rcases (k2 x hx).1.1 with h3 | h3
          · exact .inr (.inr h3)
          · exact .inl h3
        · exact .inr (.inl (by simpa using hx))
      · rcases (m2 x hx).1 with h3 | h3 | h3
        · exact .inr (.inr h3)
        · exact .inl h3
        · exact .inr (.inl h3)
  · have hs : st = false := by cases st; rfl; exact absurd (.inl rfl) h1
    obtain ⟨l1, k1, k2, k3⟩ := lin_fill ho (D := fun x => B x = true) hB _ [] .nil (Nat.le_refl _)
    rw [List.nil_append] at k1 k3
    refine ⟨l1, k1, ?_, k3, .inl fun x hx => (k2 x hx).1⟩
    subst hs
    refine holdsF_none l1 fun x hx => ?_
    cases ha : adds x
    · rfl
    · exact absurd (.inr ⟨x, k1.lt x hx, (k2 x hx).1, ha⟩) h1
/-- All rows. -/
def IsRow (n : Nat) (A : Nat → Nat → Bool) (r : List Nat) : Prop := Lin n A r ∧ r.length = n
theorem len_le_of_nodup {n : Nat} : ∀ {l : List Nat}, l.Nodup → (∀ x, x ∈ l → x < n) → l.length ≤ n := by
  intro l hn hl
  have := hn.length_le_of_subset (l₂ := List.range n) (fun x hx => by simpa using hl x hx)
  simpa using this
theorem full_of_len {n : Nat} {l : List Nat} (hn : l.Nodup) (hl : ∀ x, x ∈ l → x < n) (hlen : l.length = n) : ∀ x, x < n → x ∈ l := by
  intro x hx
  refine Classical.byContradiction fun hxl => ?_
  have := len_le_of_nodup (n := n) (l := x :: l) (List.nodup_cons.2 ⟨hxl, hn⟩) (fun y hy => by rcases List.mem_cons.1 hy with rfl | hy; exact hx; exact hl y hy)
  simp at this
  omega
theorem lin_row {n : Nat} {A : Nat → Nat → Bool} (ho : Ord n A) {l : List Nat} (hl : Lin n A l) : ∃ m, IsRow n A (l ++ m) := by
  obtain ⟨m, h1, _, h3⟩ := lin_fill ho (D := fun _ => True) (fun _ _ _ _ => trivial) _ l hl (Nat.le_refl _)
  refine ⟨m, h1, ?_⟩
  have a := len_le_of_nodup h1.nodup h1.lt
  have b := (List.nodup_range (n := n)).length_le_of_subset (l₂ := l ++ m) (fun x hx => h3 x (by simpa using hx) trivial)
  simp only [List.length_range] at b
  omega
/-- What is done before step i in a row; all of it, if it is not there. -/
def beforeI (i : Nat) (r : List Nat) : List Nat := r.takeWhile fun x => x != i
/-- THE LAW OF A NEED: in each row the fact holds just ahead of step i, if and only if the program says so. -/
theorem need_iff {n : Nat} {A : Nat → Nat → Bool} (ho : Ord n A) {st : Bool} {adds takes : Nat → Bool} (hat : ∀ d, d < n → takes d = true → adds d = false) {i : Nat} (hi : i < n) :
    (∀ r, IsRow n A r → holdsF st adds takes (beforeI i r) = true) ↔ surelyP n A st adds takes (fun x => A x i) (fun c => !A i c && !decide (c = i)) := by
  have split : ∀ (r : List Nat), i ∈ r → ∃ b, r = beforeI i r ++ i :: b ∧ i ∉ beforeI i r := by
    intro r hr
    induction r with
    | nil => cases hr
    | cons x r ih =>
      unfold beforeI at ih ⊢
      by_cases hx : x = i
      · subst hx
        exact ⟨r, by simp, by simp⟩
      · obtain ⟨b, h1, h2⟩ := ih (by rcases List.mem_cons.1 hr with rfl | h; exact absurd rfl hx; exact h)
        rw [List.takeWhile_cons_of_pos (by simpa using hx)]
        exact ⟨b, by rw [List.cons_append, ← h1], by simp [Ne.symm hx, h2]⟩
  constructor
  · intro hall
    refine Classical.byContradiction fun hn => ?_
    obtain ⟨l, h1, h2, h3, h4⟩ := surely_complete ho hat (fun k j hkj hj => ho.tr k j i hkj hj) hn
    have hil : i ∉ l := by
      intro hx
      have hii := ho.irr i hi
      rcases h4 with h4 | ⟨c, hc, hm, h4⟩
      · have := h4 i hx; rw [hii] at this; cases this
      · simp only [Bool.and_eq_true, Bool.not_eq_true', decide_eq_false_iff_not] at hm
        rcases h4 i hx with h5 | h5 | h5
        · rw [hii] at h5; cases h5
        · exact hm.2 h5.symm
        · rw [hm.1] at h5; cases h5
    have h5 := h1.one hi hil (fun k hk => h3 k (ho.lt k i hk).1 hk)
    obtain ⟨m, hrow⟩ := lin_row ho h5
    have h6 := hall _ hrow
    have e : beforeI i (l ++ [i] ++ m) = l := by
      unfold beforeI
      rw [List.append_assoc, List.takeWhile_append_of_pos (by intro x hx; simp; rintro rfl; exact hil hx)]
      simp
    rw [e, h2] at h6
    cases h6
  · intro hs r hr
    obtain ⟨b, h1, h2⟩ := split r (full_of_len hr.1.nodup hr.1.lt hr.2 i hi)
    have hlin : Lin n A (beforeI i r ++ [i] ++ b) := by
      have := hr.1
      rw [h1] at this
      simpa using this
    have h3 := (Lin.pre b hlin).inv
    refine surely_sound ho hs h3.1 (fun x hx hb => h3.2.2.2 x hb) (fun x hx => ?_)
    have hxi : x ≠ i := fun e => h2 (e ▸ hx)
    have hix : A i x = false := by
      cases hix : A i x
      · rfl
      · exfalso
        obtain ⟨a, a2, ha⟩ := List.append_of_mem hx
        have h4 : Lin n A (a ++ [x] ++ a2) := by
          have := h3.1
          rw [ha] at this
          simpa using this
        have := (Lin.pre a2 h4).inv.2.2.2 i hix
        exact h2 (by rw [ha]; simp [this])
    simp [hix, hxi]
/-- THE LAW OF THE END. -/
theorem end_iff {n : Nat} {A : Nat → Nat → Bool} (ho : Ord n A) {st : Bool} {adds takes : Nat → Bool} (hat : ∀ d, d < n → takes d = true → adds d = false) :
    (∀ r, IsRow n A r → holdsF st adds takes r = true) ↔ surelyP n A st adds takes (fun _ => true) (fun _ => true) := by
  constructor
  · intro hall
    refine Classical.byContradiction fun hn => ?_
    obtain ⟨l, h1, h2, h3, _⟩ := surely_complete ho hat (fun _ _ _ _ => rfl) hn
    have hl : l.length = n := by
      have a := len_le_of_nodup h1.nodup h1.lt
      have b := (List.nodup_range (n := n)).length_le_of_subset (l₂ := l) (fun x hx => h3 x (by simpa using hx) rfl)
      simp only [List.length_range] at b
      omega
    have := hall l ⟨h1, hl⟩
    rw [h2] at this
    cases this
  · intro hs r hr
    exact surely_sound ho hs hr.1 (fun x hx _ => full_of_len hr.1.nodup hr.1.lt hr.2 x hx) (fun _ _ => rfl)
end Go.Proofs.YtfmigicmfolbjaaDoor

namespace Go.Proofs.YtfmigicmfolbjaaDoor
set_option linter.all false
set_option linter.unusedSimpArgs false
set_option linter.unusedVariables false

/-- An integer's two halves. -/
def hiW (x : Int) : Int := x / 18446744073709551616
def loW (x : Int) : Int := x % 18446744073709551616
def In128 (x : Int) : Prop := -170141183460469231731687303715884105728 ≤ x ∧ x < 170141183460469231731687303715884105728
theorem loW_in (x : Int) : 0 ≤ loW x ∧ loW x < 18446744073709551616 := by unfold loW; omega
theorem hiW_in {x : Int} (h : In128 x) : -9223372036854775808 ≤ hiW x ∧ hiW x < 9223372036854775808 := by unfold In128 at h; unfold hiW; omega
theorem hilo (x : Int) : hiW x * 18446744073709551616 + loW x = x := by unfold hiW loW; omega
/-- The sum of two: where the lower halves run over, one more. -/
theorem plus_lo (x y : Int) : (loW x + loW y) % 18446744073709551616 = loW (x + y) := by unfold loW; omega
theorem plus_hi (x y : Int) : hiW (x + y) = if loW (x + y) < loW x then hiW x + hiW y + 1 else hiW x + hiW y := by
  unfold hiW loW
  split <;> omega
theorem minus_lo (x : Int) : (18446744073709551615 - loW x + 1) % 18446744073709551616 = loW (-x) := by unfold loW; omega
theorem not_hi (x : Int) : -1 - hiW x = hiW (-1 - x) := by unfold hiW; omega
theorem not_lo (x : Int) : 18446744073709551615 - loW x = loW (-1 - x) := by unfold loW; omega
theorem hi_nonneg (x : Int) : (0 ≤ hiW x) ↔ 0 ≤ x := by unfold hiW; omega

/-- A hull, and a tank. -/
structure Hu where
  tons : Int
  meta_ : Int
  centre : Int
structure Ta where
  long : Int
  wide : Int
  deep : Int
  floor : Int
def Ta.vol (t : Ta) : Int := t.long * t.wide * t.deep
def Ta.down (t : Ta) : Int := t.vol * (12 * t.floor + 6 * t.deep) + t.long * t.wide * t.wide * t.wide
def volZ (h : Hu) (l : List Ta) : Int := l.foldl (fun s t => s + t.vol) (1000000 * h.tons)
def downZ (h : Hu) (l : List Ta) : Int := l.foldl (fun s t => s + t.down) (1000000 * h.tons * 12 * h.centre)
def stabZ (h : Hu) (l : List Ta) : Int := (12 * volZ h l * h.meta_ - downZ h l) / (12 * volZ h l)
def HuOK (h : Hu) : Prop := (1 ≤ h.tons ∧ h.tons ≤ 1000000) ∧ (0 ≤ h.meta_ ∧ h.meta_ ≤ 10000) ∧ 0 ≤ h.centre ∧ h.centre ≤ 10000
def TaOK (t : Ta) : Prop := (0 ≤ t.long ∧ t.long ≤ 10000) ∧ (0 ≤ t.wide ∧ t.wide ≤ 10000) ∧ (0 ≤ t.deep ∧ t.deep ≤ 10000) ∧ 0 ≤ t.floor ∧ t.floor ≤ 10000
theorem mul_in {a b m n : Int} (ha : 0 ≤ a ∧ a ≤ m) (hb : 0 ≤ b ∧ b ≤ n) : 0 ≤ a * b ∧ a * b ≤ m * n :=
  ⟨Int.mul_nonneg ha.1 hb.1, Int.mul_le_mul ha.2 hb.2 hb.1 (Int.le_trans ha.1 ha.2)⟩
theorem Ta.vol_in {t : Ta} (h : TaOK t) : 0 ≤ t.vol ∧ t.vol ≤ 1000000000000 := mul_in (mul_in h.1 h.2.1) h.2.2.1
theorem Ta.down_in {t : Ta} (h : TaOK t) : 0 ≤ t.down ∧ t.down ≤ 190000000000000000 := by
  have h1 := mul_in (t.vol_in h) (b := 12 * t.floor + 6 * t.deep) (n := 180000) (by have := h.2.2; omega)
  have h2 := mul_in (mul_in (mul_in h.1 h.2.1) h.2.1) h.2.1
  unfold Ta.down
  omega
theorem volZ_in {h : Hu} (hh : HuOK h) : ∀ (l : List Ta) (s : Int), (∀ t, t ∈ l → TaOK t) → 0 < s → s < l.foldl (fun s t => s + t.vol) s + 1 ∧ l.foldl (fun s t => s + t.vol) s ≤ s + 1000000000000 * l.length
  | [], s, _, hs => by simp; omega
  | t :: l, s, hl, hs => by
    have h1 := t.vol_in (hl t (by simp))
    have h2 := volZ_in hh l (s + t.vol) (fun x hx => hl x (by simp [hx])) (by omega)
    simp only [List.foldl_cons, List.length_cons]
    omega
theorem downZ_in : ∀ (l : List Ta) (s : Int), (∀ t, t ∈ l → TaOK t) → 0 ≤ s → s ≤ l.foldl (fun s t => s + t.down) s ∧ l.foldl (fun s t => s + t.down) s ≤ s + 190000000000000000 * l.length
  | [], s, _, hs => by simp
  | t :: l, s, hl, hs => by
    have h1 := t.down_in (hl t (by simp))
    have h2 := downZ_in l (s + t.down) (fun x hx => hl x (by simp [hx])) (by omega)
    simp only [List.foldl_cons, List.length_cons]
    omega
/-- The stability is at least a number. -/
theorem stab_ge {h : Hu} {l : List Ta} (hv : 0 < volZ h l) (m : Int) : m ≤ stabZ h l ↔ 0 ≤ (h.meta_ - m) * (12 * volZ h l) - downZ h l := by
  unfold stabZ
  rw [Int.le_ediv_iff_mul_le (by omega)]
  have e : (h.meta_ - m) * (12 * volZ h l) = 12 * volZ h l * h.meta_ - m * (12 * volZ h l) := by grind
  rw [e]
  omega
end Go.Proofs.YtfmigicmfolbjaaDoor

namespace Go.Proofs.YtfmigicmfolbjaaDoor
set_option linter.all false
set_option linter.unusedSimpArgs false
set_option linter.unusedVariables false

/-- The bits of a number, rising. -/
def bitsOf (n e : Nat) : List Nat := (List.range n).filter fun i => e.testBit i
/-- Number by number. -/
def lexLt : List Nat → List Nat → Bool
  | a :: as, b :: bs => if a = b then lexLt as bs else decide (a < b)
  | _, _ => false
def beforeL (a b : List Nat) : Bool := if a.length = b.length then lexLt a b else decide (a.length < b.length)
def drainS (n : Nat) (good : Nat → Bool) (s : Option (List Nat)) (e : Nat) : Option (List Nat) :=
  if good e = true then (match s with
    | none => some (bitsOf n e)
    | some b => if beforeL (bitsOf n e) b = true then some (bitsOf n e) else some b)
  else s
def drainF (n : Nat) (good : Nat → Bool) (m : Nat) : Option (List Nat) := (List.range m).foldl (drainS n good) none
theorem drainF_succ (n : Nat) (good : Nat → Bool) (m : Nat) : drainF n good (m + 1) = drainS n good (drainF n good m) m := by simp [drainF, List.range_succ]
theorem beforeL_len {a b : List Nat} (h : beforeL a b = true) : a.length ≤ b.length := by
  unfold beforeL at h
  split at h
  · omega
  · have := of_decide_eq_true h; omega
theorem not_beforeL_len {a b : List Nat} (h : ¬ beforeL a b = true) : b.length ≤ a.length := by
  unfold beforeL at h
  split at h
  · omega
  · have : ¬ a.length < b.length := by simpa using h
    omega
/-- What it finds. -/
def DrainIs (n : Nat) (good : Nat → Bool) (m : Nat) : Option (List Nat) → Prop
  | none => ∀ e, e < m → good e = false
  | some b => (∃ e, e < m ∧ good e = true ∧ b = bitsOf n e) ∧ ∀ e, e < m → good e = true → b.length ≤ (bitsOf n e).length
theorem drain_is (n : Nat) (good : Nat → Bool) : ∀ m, DrainIs n good m (drainF n good m)
  | 0 => fun e he => absurd he (by omega)
  | m + 1 => by
    have ih := drain_is n good m
    rw [drainF_succ]
    generalize drainF n good m = s at ih ⊢
    unfold drainS
    by_cases hg : good m = true
    · rw [if_pos hg]
      cases s with
      | none =>
        refine ⟨⟨m, by omega, hg, rfl⟩, fun e he heg => ?_⟩
        rcases Nat.lt_or_ge e m with h | h
        · have := ih e h
          rw [heg] at this
          cases this
        · obtain rfl : e = m := by omega
          exact Nat.le_refl _
      | some b =>
        obtain ⟨⟨e0, he0, hg0, rfl⟩, hall⟩ := ih
        show DrainIs n good (m + 1) (if beforeL (bitsOf n m) (bitsOf n e0) = true then some (bitsOf n m) else some (bitsOf n e0))
        by_cases hb : beforeL (bitsOf n m) (bitsOf n e0) = true
        · rw [if_pos hb]
          refine ⟨⟨m, by omega, hg, rfl⟩, fun e he heg => ?_⟩
          rcases Nat.lt_or_ge e m with h | h
          · exact Nat.le_trans (beforeL_len hb) (hall e h heg)
          · obtain rfl : e = m := by omega
            exact Nat.le_refl _
        · rw [if_neg hb]
          refine ⟨⟨e0, by omega, hg0, rfl⟩, fun e he heg => ?_⟩
          rcases Nat.lt_or_ge e m with h | h
          · exact hall e h heg
          · obtain rfl : e = m := by omega
            exact not_beforeL_len hb
    · rw [if_neg hg]
      have hgm : good m = false := by simpa using hg
      cases s with
      | none =>
        intro e he
        rcases Nat.lt_or_ge e m with h | h
        · exact ih e h
        · obtain rfl : e = m := by omega
          exact hgm
      | some b =>
        obtain ⟨⟨e0, he0, hg0, rfl⟩, hall⟩ := ih
        refine ⟨⟨e0, by omega, hg0, rfl⟩, fun e he heg => ?_⟩
        rcases Nat.lt_or_ge e m with h | h
        · exact hall e h heg
        · obtain rfl : e = m := by omega
          rw [heg] at hgm
          cases hgm
end Go.Proofs.YtfmigicmfolbjaaDoor

namespace Go.Proofs.YtfmigicmfolbjaaDoor
set_option linter.all false
set_option linter.unusedSimpArgs false
set_option linter.unusedVariables false

/-- The lowest bit, and what is above it. -/
theorem low_bit : ∀ (s : Nat), 0 < s → ∃ i q, s = 2 ^ (i + 1) * q + 2 ^ i
  | s, h => by
    rcases Nat.mod_two_eq_zero_or_one s with h2 | h2
    · obtain ⟨i, q, hq⟩ := low_bit (s / 2) (by omega)
      refine ⟨i + 1, q, ?_⟩
      have : s = 2 * (s / 2) := by omega
      rw [this, hq, Nat.mul_add, Nat.pow_succ 2 (i + 1), Nat.pow_succ 2 i]
      grind
    · exact ⟨0, s / 2, by simp; omega⟩
theorem low_test {i q : Nat} (j : Nat) : (2 ^ (i + 1) * q + 2 ^ i).testBit j = if j < i then false else if j = i then true else q.testBit (j - (i + 1)) := by
  rw [Nat.testBit_two_pow_mul_add q (Nat.pow_lt_pow_right (by omega) (by omega)), Nat.testBit_two_pow]
  by_cases h1 : j < i
  · rw [if_pos (by omega), if_pos h1]; simp; omega
  · rw [if_neg h1]
    by_cases h2 : j = i
    · subst h2; rw [if_pos (by omega)]; simp
    · rw [if_neg (by omega), if_neg h2]
theorem low_pred {i q : Nat} (j : Nat) : (2 ^ (i + 1) * q + 2 ^ i - 1).testBit j = if j < i then true else if j = i then false else q.testBit (j - (i + 1)) := by
  have hp : 0 < 2 ^ i := Nat.pow_pos (by omega)
  have hlt : 2 ^ i - 1 < 2 ^ (i + 1) := by rw [Nat.pow_succ]; omega
  rw [show 2 ^ (i + 1) * q + 2 ^ i - 1 = 2 ^ (i + 1) * q + (2 ^ i - 1) by omega, Nat.testBit_two_pow_mul_add q hlt, Nat.testBit_two_pow_sub_one]
  by_cases h1 : j < i
  · rw [if_pos (by omega), if_pos h1]; simpa using h1
  · rw [if_neg h1]
    by_cases h2 : j = i
    · subst h2; rw [if_pos (by omega)]; simp
    · rw [if_neg (by omega), if_neg h2]
/-- The set without its least number. -/
theorem pop_low {i q : Nat} : (2 ^ (i + 1) * q + 2 ^ i) &&& (2 ^ (i + 1) * q + 2 ^ i - 1) = 2 ^ (i + 1) * q := by
  apply Nat.eq_of_testBit_eq
  intro j
  rw [Nat.testBit_and, low_test, low_pred, Nat.testBit_two_pow_mul]
  by_cases h1 : j < i
  · simp [h1]; omega
  · by_cases h2 : j = i
    · subst h2; simp; omega
    · simp [h1, h2]; omega
theorem pop_test {i q : Nat} (j : Nat) : (2 ^ (i + 1) * q).testBit j = ((2 ^ (i + 1) * q + 2 ^ i).testBit j && decide (j ≠ i)) := by
  rw [low_test, Nat.testBit_two_pow_mul]
  by_cases h1 : j < i
  · simp [h1]; omega
  · by_cases h2 : j = i
    · subst h2; simp; omega
    · simp [h1, h2]; omega
theorem bitsOf_zero (n : Nat) : bitsOf n 0 = [] := by unfold bitsOf; simp
theorem bitsOf_pop {n i q : Nat} (hi : i < n) : bitsOf n (2 ^ (i + 1) * q + 2 ^ i) = i :: bitsOf n (2 ^ (i + 1) * q) := by
  unfold bitsOf
  have hr : List.range n = List.range i ++ i :: List.range' (i + 1) (n - (i + 1)) := by
    rw [List.range_eq_range', List.range_eq_range']
    have : List.range' 0 n = List.range' 0 i ++ List.range' i (n - i) := by
      have := List.range'_append (s := 0) (m := i) (n := n - i) (step := 1)
      simp only [Nat.one_mul, Nat.zero_add] at this
      rw [this]; congr 1; omega
    rw [this, show n - i = (n - (i + 1)) + 1 by omega, List.range'_succ]
  rw [hr, List.filter_append, List.filter_append, List.filter_cons, List.filter_cons]
  have h1 : (List.range i).filter (fun j => (2 ^ (i + 1) * q + 2 ^ i).testBit j) = [] := by
    rw [List.filter_eq_nil_iff]
    intro j hj
    rw [low_test]
    simp at hj
    simp [hj]
  have h2 : (List.range i).filter (fun j => (2 ^ (i + 1) * q).testBit j) = [] := by
    rw [List.filter_eq_nil_iff]
    intro j hj
    rw [pop_test, low_test]
    simp at hj
    simp [hj]
  rw [h1, h2, List.nil_append, List.nil_append, if_pos (by rw [low_test]; simp), if_neg (by rw [pop_test]; simp)]
  congr 1
  apply List.filter_congr
  intro j hj
  rw [pop_test]
  have : j ≠ i := by
    rw [List.mem_range'] at hj
    obtain ⟨k, _, rfl⟩ := hj
    omega
  simp [this]
theorem bitsOf_mem {n e j : Nat} : j ∈ bitsOf n e ↔ j < n ∧ e.testBit j = true := by unfold bitsOf; simp
theorem low_lt {n i q : Nat} (h : 2 ^ (i + 1) * q + 2 ^ i < 2 ^ n) : i < n := by
  refine Classical.byContradiction fun hn => ?_
  have : 2 ^ n ≤ 2 ^ i := Nat.pow_le_pow_right (by omega) (by omega)
  omega
/-- The negative of a number, and with it: the lowest bit. -/
theorem neg_low {n i q : Nat} (h : 2 ^ (i + 1) * q + 2 ^ i < 2 ^ n) : (2 ^ (i + 1) * q + 2 ^ i) &&& (2 ^ n - (2 ^ (i + 1) * q + 2 ^ i)) = 2 ^ i := by
  have hp : 0 < 2 ^ i := Nat.pow_pos (by omega)
  apply Nat.eq_of_testBit_eq
  intro j
  rw [show 2 ^ n - (2 ^ (i + 1) * q + 2 ^ i) = 2 ^ n - ((2 ^ (i + 1) * q + 2 ^ i - 1) + 1) by omega, Nat.testBit_and, Nat.testBit_two_pow_sub_succ (by omega), low_test, low_pred, Nat.testBit_two_pow]
  have hin := low_lt h
  by_cases h1 : j < i
  · simp [h1]; omega
  · by_cases h2 : j = i
    · subst h2; simp [hin]
    · have h3 : (i == j) = false := by simp; omega
      have h4 : decide (i = j) = false := by simp; omega
      simp only [h1, h2, h4, if_false]
      cases q.testBit (j - (i + 1)) <;> simp
theorem or_test (s i j : Nat) : (s ||| 1 <<< i).testBit j = (s.testBit j || decide (j = i)) := by
  rw [Nat.testBit_or, Nat.shiftLeft_eq, Nat.one_mul, Nat.testBit_two_pow]
  congr 1
  exact decide_eq_decide.2 ⟨fun h => h.symm, fun h => h.symm⟩
theorem shr_one (s i : Nat) : (s >>> i) &&& 1 = if s.testBit i = true then 1 else 0 := by
  rw [Nat.testBit_eq_decide_div_mod_eq, Nat.and_one_is_mod, Nat.shiftRight_eq_div_pow]
  rcases Nat.mod_two_eq_zero_or_one (s / 2 ^ i) with h | h <;> simp [h]
end Go.Proofs.YtfmigicmfolbjaaDoor
