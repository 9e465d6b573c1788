/-
  Keeps: plain.
-/
import Derived.Test.YthgmdilfmeefiaaJ45
namespace Go.Proofs.Ythgmdilfmeefiaa
set_option linter.all false
set_option linter.unusedSimpArgs false
set_option linter.unusedVariables false
open Go.RowKit

theorem bothN_iff {a b : Rep} : bothN a b = true ↔ a.abt.size ≠ 0 ∧ b.abt.size ≠ 0 := by unfold bothN; simp
theorem cmp_one {wd dr : Int} {a b : Rep} : cmpZ wd dr a b = 1 ↔ a.abt.size ≠ 0 ∧ b.abt.size ≠ 0 ∧ a.abt = b.abt := by
  unfold cmpZ
  by_cases h : bothN a b = true
  · rw [if_pos h]
    have := bothN_iff.1 h
    by_cases e : a.abt = b.abt
    · rw [if_pos e]; exact ⟨fun _ => ⟨this.1, this.2, e⟩, fun _ => rfl⟩
    · rw [if_neg e]; exact ⟨fun h => by omega, fun h => absurd h.2.2 e⟩
  · rw [if_neg h]
    constructor
    · intro h1
      split at h1
      · omega
      · split at h1 <;> omega
    · intro h1; exact absurd (bothN_iff.2 ⟨h1.1, h1.2.1⟩) h
theorem cmp_two {wd dr : Int} {a b : Rep} : cmpZ wd dr a b = 2 ↔ a.abt.size ≠ 0 ∧ b.abt.size ≠ 0 ∧ a.abt ≠ b.abt := by
  unfold cmpZ
  by_cases h : bothN a b = true
  · rw [if_pos h]
    have := bothN_iff.1 h
    by_cases e : a.abt = b.abt
    · rw [if_pos e]; exact ⟨fun h => by omega, fun h => absurd e h.2.2⟩
    · rw [if_neg e]; exact ⟨fun _ => ⟨this.1, this.2, e⟩, fun _ => rfl⟩
  · rw [if_neg h]
    constructor
    · intro h1
      split at h1
      · omega
      · split at h1 <;> omega
    · intro h1; exact absurd (bothN_iff.2 ⟨h1.1, h1.2.1⟩) h
theorem has_iff {s : BS} {i : Int} {r : Rep} {is : Int} : hasI s i r is = true ↔ ∃ j, j < s.reps.length ∧ (s.o j : Int) = i ∧ cmpZ s.window s.drift (s.rp j) r = is := by
  unfold hasI
  simp
/-- No two reports of an incident are about different ones; reports about the same are in the same incident. -/
structure KInv (s : BS) : Prop where
  k1 : ∀ a b, a < s.reps.length → b < s.reps.length → s.o a = s.o b → (s.rp a).abt.size ≠ 0 → (s.rp b).abt.size ≠ 0 → (s.rp a).abt = (s.rp b).abt
  k2 : ∀ a b, a < s.reps.length → b < s.reps.length → (s.rp a).abt.size ≠ 0 → (s.rp a).abt = (s.rp b).abt → s.o a = s.o b
theorem empty_k (wd dr : Int) : KInv (emptyS wd dr) := ⟨fun a b ha => absurd ha (by simp [emptyS]), fun a b ha => absurd ha (by simp [emptyS])⟩
theorem place_same {s : BS} (hs : BInv s) {r : Rep} {j : Nat} (hj : j < s.reps.length) (hc : cmpZ s.window s.drift (s.rp j) r = 1) : (placeS s r).2 = 1 := by
  have hh : hasI s (s.o j : Int) r 1 = true := has_iff.2 ⟨j, hj, rfl, hc⟩
  unfold placeS
  split
  · rfl
  · rename_i hn
    exfalso
    rw [List.find?_eq_none] at hn
    exact hn (s.o j) (by simpa using hs.lt j hj) hh
theorem took_k {s : BS} (hs : BInv s) (h : KInv s) (r : Rep) : KInv (takenS s r (placeS s r).1) := by
  have hw := place_why hs r
  obtain ⟨n, hn⟩ : ∃ n, n = (placeS s r).1 := ⟨_, rfl⟩
  rw [← hn] at hw ⊢
  have hlt : ∀ a, a < (takenS s r n).reps.length → a < s.reps.length ∨ a = s.reps.length := fun a ha => by rw [taken_len] at ha; omega
  -- an old report of n and the new one
  have key1 : ∀ a, a < s.reps.length → s.o a = n → (s.rp a).abt.size ≠ 0 → r.abt.size ≠ 0 → (s.rp a).abt = r.abt := fun a ha hoa h1 h2 => by
    rcases hw with ⟨_, hh⟩ | ⟨hy, _, hh⟩ | ⟨_, hh⟩
    · obtain ⟨y, hy, hoy, hc⟩ := has_iff.1 hh
      obtain ⟨c1, c2, c3⟩ := cmp_one.1 hc
      rw [← c3]
      exact h.k1 a y ha hy (by omega) h1 c1
    · rcases Decidable.em ((s.rp a).abt = r.abt) with e | e
      · exact e
      · exfalso
        have h2' : hasI s (n : Int) r 2 = true := has_iff.2 ⟨a, ha, by omega, cmp_two.2 ⟨h1, h2, e⟩⟩
        -- it was alone: none is another
        have hno : hasI s (n : Int) r 2 = false := by
          have hp : ∀ c, placeS s r = c → c.2 = 2 → hasI s (c.1 : Int) r 2 = false := fun c e he => by
            unfold placeS at e
            split at e
            · subst e; simp at he
            · split at e
              · subst e; simp at he
              · rename_i i hi
                subst e
                have hm : i ∈ mayL s r s.opn.length := by rw [hi]; simp
                unfold mayL at hm
                simp only [List.mem_filter, List.mem_range] at hm
                have hm2 := hm.2
                unfold mayB at hm2
                simp only [Bool.and_eq_true, Bool.not_eq_true'] at hm2
                exact hm2.2
              · subst e; simp at he
          have := hp _ rfl hy
          rw [← hn] at this
          exact this
        rw [hno] at h2'
        cases h2'
    · exfalso
      have : a ∈ ofL s (n : Int) := of_mem.2 ⟨ha, by omega⟩
      rw [hh] at this
      cases this
  have key2 : ∀ a, a < s.reps.length → (s.rp a).abt.size ≠ 0 → (s.rp a).abt = r.abt → s.o a = n := fun a ha h1 he => by
    have h2 : r.abt.size ≠ 0 := by rw [← he]; exact h1
    have hp := place_same hs ha (cmp_one.2 ⟨h1, h2, he⟩)
    rcases hw with ⟨_, hh⟩ | ⟨hy, _⟩ | ⟨hy, _⟩
    · obtain ⟨y, hy, hoy, hc⟩ := has_iff.1 hh
      obtain ⟨c1, c2, c3⟩ := cmp_one.1 hc
      have := h.k2 a y ha hy h1 (by rw [he, c3])
      omega
    · omega
    · omega
  refine ⟨fun a b ha hb ho h1 h2 => ?_, fun a b ha hb h1 he => ?_⟩
  · rcases hlt a ha with ha | rfl <;> rcases hlt b hb with hb | rfl
    · rw [taken_rp s r n ha] at h1 ⊢
      rw [taken_rp s r n hb] at h2 ⊢
      rw [taken_o hs r n ha, taken_o hs r n hb] at ho
      exact h.k1 a b ha hb ho h1 h2
    · rw [taken_rp s r n ha] at h1 ⊢
      rw [taken_rpn] at h2 ⊢
      rw [taken_o hs r n ha, taken_on hs] at ho
      exact key1 a ha ho h1 h2
    · rw [taken_rpn] at h1 ⊢
      rw [taken_rp s r n hb] at h2 ⊢
      rw [taken_o hs r n hb, taken_on hs] at ho
      exact (key1 b hb ho.symm h2 h1).symm
    · rfl
  · rcases hlt a ha with ha | rfl <;> rcases hlt b hb with hb | rfl
    · rw [taken_rp s r n ha] at h1 he
      rw [taken_rp s r n hb] at he
      rw [taken_o hs r n ha, taken_o hs r n hb]
      exact h.k2 a b ha hb h1 he
    · rw [taken_rp s r n ha] at h1 he
      rw [taken_rpn] at he
      rw [taken_o hs r n ha, taken_on hs]
      exact key2 a ha h1 he
    · rw [taken_rpn] at h1 he
      rw [taken_rp s r n hb] at he
      rw [taken_o hs r n hb, taken_on hs]
      exact (key2 b hb (by rw [← he]; exact h1) he.symm).symm
    · rfl
theorem join_k {s : BS} (hs : BInv s) (h : KInv s) (a b : Int) : KInv (joinS s a b).1 := by
  unfold joinS
  split
  · exact h
  · rename_i hne
    split
    · exact h
    · rename_i hab
      split
      · exact h
      · rename_i hot
        simp only [not_or] at hne
        have ha := of_range hs hne.1
        have hb := of_range hs hne.2
        obtain ⟨x, rfl⟩ : ∃ x : Nat, a = (x : Int) := ⟨a.toNat, by omega⟩
        obtain ⟨y, rfl⟩ : ∃ x : Nat, b = (x : Int) := ⟨b.toNat, by omega⟩
        have ho : ∀ j, j < s.reps.length → (joinedS s (x : Int) (y : Int)).o j = if s.o j = y then x else s.o j := fun j hj => by
          have hm := map_o hs (joinF x (y : Int)) hj
          rw [joined_eq]
          have e : BS.o { ({ s with of := s.of.map (joinF x (y : Int)) } : BS) with opn := (s.opn.set x true).set y false } j = ({ s with of := s.of.map (joinF x (y : Int)) } : BS).o j := rfl
          rw [e, hm]
          unfold joinF
          by_cases e : s.o j = y
          · rw [if_pos e, if_pos (by omega)]
          · rw [if_neg e, if_neg (by omega)]
        have hno : ∀ p q, p < s.reps.length → q < s.reps.length → s.o p = x → s.o q = y → (s.rp p).abt.size ≠ 0 → (s.rp q).abt.size ≠ 0 → (s.rp p).abt = (s.rp q).abt := fun p q hp hq h1 h2 h3 h4 => by
          rcases Decidable.em ((s.rp p).abt = (s.rp q).abt) with e | e
          · exact e
          · exfalso
            apply hot
            exact other_yes hp (by omega) (has_iff.2 ⟨q, hq, by omega, cmp_two.2 ⟨h4, h3, fun e2 => e e2.symm⟩⟩)
        refine ⟨fun p q hp hq hpq h1 h2 => ?_, fun p q hp hq h1 he => ?_⟩
        · have hp : p < s.reps.length := hp
          have hq : q < s.reps.length := hq
          rw [ho p hp, ho q hq] at hpq
          have h1 : (s.rp p).abt.size ≠ 0 := h1
          have h2 : (s.rp q).abt.size ≠ 0 := h2
          show (s.rp p).abt = (s.rp q).abt
          by_cases e1 : s.o p = y <;> by_cases e2 : s.o q = y
          · exact h.k1 p q hp hq (by omega) h1 h2
          · rw [if_pos e1, if_neg e2] at hpq
            exact (hno q p hq hp hpq.symm e1 h2 h1).symm
          · rw [if_neg e1, if_pos e2] at hpq
            exact hno p q hp hq hpq e2 h1 h2
          · rw [if_neg e1, if_neg e2] at hpq
            exact h.k1 p q hp hq hpq h1 h2
        · have hp : p < s.reps.length := hp
          have hq : q < s.reps.length := hq
          rw [ho p hp, ho q hq, h.k2 p q hp hq h1 he]
theorem do_k {s : BS} (hs : BInv s) (h : KInv s) (x : Act_) : KInv (doS s x).1 := by
  unfold doS
  split
  · dsimp only
    unfold proveS
    split
    · exact h
    · split
      · exact h
      · split
        · exact h
        · exact ⟨h.k1, h.k2⟩
  · split
    · dsimp only
      unfold closeS
      split
      · exact h
      · split
        · exact h
        · split
          · exact h
          · exact ⟨h.k1, h.k2⟩
    · split
      · exact join_k hs h _ _
      · unfold tookS
        split
        · exact h
        · split
          · exact h
          · exact took_k hs h _
/-- How many reports and incidents there are behind a call. -/
theorem do_lens (s : BS) (x : Act_) : ((doS s x).2.2.2 = 0 ∧ ¬ (1 ≤ x.what ∧ x.what ≤ 3)) ∨ (doS s x).1.reps.length = s.reps.length ∧ (doS s x).1.opn.length = s.opn.length := by
  by_cases hw : 1 ≤ x.what ∧ x.what ≤ 3
  · right
    unfold doS
    split
    · dsimp only
      unfold proveS
      split
      · exact ⟨rfl, rfl⟩
      · split
        · exact ⟨rfl, rfl⟩
        · split <;> exact ⟨rfl, rfl⟩
    · split
      · dsimp only
        unfold closeS
        split
        · exact ⟨rfl, rfl⟩
        · split
          · exact ⟨rfl, rfl⟩
          · split
            · exact ⟨rfl, rfl⟩
            · exact ⟨rfl, by simp⟩
      · split
        · dsimp only
          unfold joinS
          split
          · exact ⟨rfl, rfl⟩
          · split
            · exact ⟨rfl, rfl⟩
            · split
              · exact ⟨rfl, rfl⟩
              · exact ⟨rfl, by simp [joinedS]⟩
        · omega
  · by_cases hf : (doS s x).2.2.2 = 0
    · exact .inl ⟨hf, hw⟩
    · right
      have hd : doS s x = tookS s x.r := by unfold doS; rw [if_neg (by omega), if_neg (by omega), if_neg (by omega)]
      rw [hd] at hf ⊢
      unfold tookS at hf ⊢
      split at hf
      · rename_i h1; rw [if_pos h1]; exact ⟨rfl, rfl⟩
      · rename_i h1
        split at hf
        · rename_i h2; rw [if_neg h1, if_pos h2]; exact ⟨rfl, rfl⟩
        · exact absurd rfl hf
/-- How many reports the first incidents have. -/
def cntK (s : BS) : Nat → Nat
  | 0 => 0
  | k + 1 => cntK s k + (ofL s (k : Int)).length
theorem cntK_is (s : BS) (k : Nat) : cntK s k = ((List.range s.reps.length).filter fun j => decide (s.o j < k)).length := by
  induction k with
  | zero =>
    have : (List.range s.reps.length).filter (fun j => decide (s.o j < 0)) = [] := by rw [List.filter_eq_nil_iff]; simp
    rw [this]; rfl
  | succ k ih =>
    unfold cntK
    rw [ih]
    unfold ofL
    generalize s.reps.length = n
    induction n with
    | zero => rfl
    | succ n ih2 =>
      simp only [List.range_succ, List.filter_append, List.length_append]
      have h3 : ([n].filter fun j => decide (s.o j < k)).length + ([n].filter fun j => decide ((s.o j : Int) = (k : Int))).length = ([n].filter fun j => decide (s.o j < k + 1)).length := by
        rcases Nat.lt_trichotomy (s.o n) k with h | h | h
        · have h1 : ¬ (s.o n : Int) = (k : Int) := by omega
          simp [h, h1, show s.o n < k + 1 by omega]
        · simp [h]
        · have h1 : ¬ (s.o n : Int) = (k : Int) := by omega
          simp [h1, show ¬ s.o n < k by omega, show ¬ s.o n < k + 1 by omega]
      omega
theorem cntK_all {s : BS} (hs : BInv s) {k : Nat} (hk : s.opn.length ≤ k) : cntK s k = s.reps.length := by
  rw [cntK_is, List.filter_eq_self.2]
  · simp
  · intro j hj
    have := hs.lt j (by simpa using hj)
    simp
    omega
theorem reports_len {s : BS} (hs : BInv s) (i : Nat) : (reportsS s (i : Int)).1 = ofL s (i : Int) := by
  unfold reportsS
  split
  · rfl
  · rename_i h
    symm
    dsimp only
    unfold ofL
    rw [List.filter_eq_nil_iff]
    intro j hj
    have h1 := hs.lt j (by simpa using hj)
    have h2 : thereB s (i : Int) = false := by simpa using h
    unfold thereB at h2
    rw [inB_false] at h2
    simp
    omega
theorem of_sorted (s : BS) (i : Int) {a b : Nat} (hab : a < b) (hb : b < (ofL s i).length) : (ofL s i).getD a 0 < (ofL s i).getD b 0 := by
  have hp : (ofL s i).Pairwise (· < ·) := by
    unfold ofL
    exact List.Pairwise.filter _ List.pairwise_lt_range
  rw [List.getD_eq_getElem?_getD, List.getD_eq_getElem?_getD, List.getElem?_eq_getElem (by omega), List.getElem?_eq_getElem hb]
  exact List.pairwise_iff_getElem.1 hp a b (by omega) hb hab
end Go.Proofs.Ythgmdilfmeefiaa
