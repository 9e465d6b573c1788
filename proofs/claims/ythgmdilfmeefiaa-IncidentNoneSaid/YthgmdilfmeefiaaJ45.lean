/-
  Near: plain.
-/
import Derived.Test.YthgmdilfmeefiaaJ44
namespace Go.Proofs.Ythgmdilfmeefiaa
set_option linter.all false
set_option linter.unusedSimpArgs false
set_option linter.unusedVariables false
open Go.RowKit

theorem took_ok {s : BS} {x : Act_} (hw : ¬ (1 ≤ x.what ∧ x.what ≤ 3)) (hf : (doS s x).2.2.2 = 0) : repB x.r = true ∧ s.reps.length ≠ 500 ∧ doS s x = (takenS s x.r (placeS s x.r).1, ((placeS s x.r).1 : Int), (placeS s x.r).2, 0) := by
  have hd : doS s x = tookS s x.r := by unfold doS; rw [if_neg (by omega), if_neg (by omega), if_neg (by omega)]
  rw [hd] at hf ⊢
  unfold tookS at hf ⊢
  split at hf
  · cases hf
  · rename_i h1
    split at hf
    · cases hf
    · rename_i h2
      rw [if_neg h1, if_neg h2]
      exact ⟨by simpa using h1, h2, rfl⟩
theorem taken_o {s : BS} (h : BInv s) (r : Rep) (n : Nat) {j : Nat} (hj : j < s.reps.length) : (takenS s r n).o j = s.o j := by
  unfold BS.o takenS
  simp [List.getD_eq_getElem?_getD, List.getElem?_append_left (show j < s.of.length by rw [h.len]; exact hj)]
theorem taken_on {s : BS} (h : BInv s) (r : Rep) (n : Nat) : (takenS s r n).o s.reps.length = n := by
  unfold BS.o takenS
  rw [← h.len]
  simp [List.getD_eq_getElem?_getD]
theorem taken_len (s : BS) (r : Rep) (n : Nat) : (takenS s r n).reps.length = s.reps.length + 1 := by simp [takenS]
theorem taken_rp (s : BS) (r : Rep) (n : Nat) {j : Nat} (hj : j < s.reps.length) : (takenS s r n).rp j = s.rp j := rp_snoc s r _ _ hj
theorem taken_rpn (s : BS) (r : Rep) (n : Nat) : (takenS s r n).rp s.reps.length = r := rp_new s r _ _
theorem filter_range_congr {n : Nat} {f g : Nat → Bool} (h : ∀ i, i < n → f i = g i) : (List.range n).filter f = (List.range n).filter g :=
  List.filter_congr (fun x hx => h x (by simpa using hx))
theorem of_taken {s : BS} (h : BInv s) (r : Rep) (n : Nat) : ofL (takenS s r n) (n : Int) = ofL s (n : Int) ++ [s.reps.length] := by
  unfold ofL
  rw [taken_len, List.range_succ, List.filter_append]
  congr 1
  · exact filter_range_congr fun j hj => by rw [taken_o h r n hj]
  · simp [taken_on h r n]
theorem has_of {s : BS} (i : Int) (r : Rep) (is : Int) : hasI s i r is = (ofL s i).any fun j => decide (cmpZ s.window s.drift (s.rp j) r = is) := by
  unfold hasI ofL
  rw [List.any_filter]
theorem place_lt {s : BS} {r : Rep} (h : (placeS s r).2 = 1 ∨ (placeS s r).2 = 2) : (placeS s r).1 < s.opn.length := by
  unfold placeS at h ⊢
  split
  · rename_i i hi
    have := List.mem_of_find?_eq_some hi
    simpa using this
  · rename_i hn
    rw [hn] at h
    dsimp only at h
    split
    · rename_i e; rw [e] at h; simp at h
    · rename_i i e
      have hm : i ∈ mayL s r s.opn.length := by rw [e]; simp
      unfold mayL at hm
      simp at hm
      exact hm.1
    · rename_i l h1 h2
      exfalso
      split at h
      · rename_i e; exact h1 e
      · rename_i i e; exact h2 i e
      · simp at h
/-- Why a report was taken: claimed: one about the same is there; alone: one is near, and none is about the same; else it is alone in an incident. -/
theorem place_why {s : BS} (hs : BInv s) (r : Rep) : ((placeS s r).2 = 1 ∧ hasI s (placeS s r).1 r 1 = true) ∨ ((placeS s r).2 = 2 ∧ hasI s (placeS s r).1 r 5 = true ∧ hasI s (placeS s r).1 r 1 = false) ∨ (((placeS s r).2 = 3 ∨ (placeS s r).2 = 4) ∧ ofL s (placeS s r).1 = []) := by
  have hnil : ofL s (s.opn.length : Int) = [] := by
    unfold ofL
    rw [List.filter_eq_nil_iff]
    intro j hj
    have := hs.lt j (by simpa using hj)
    simp
    omega
  have hc : ∀ c, placeS s r = c → (c.2 = 1 ∧ hasI s c.1 r 1 = true) ∨ (c.2 = 2 ∧ hasI s c.1 r 5 = true ∧ hasI s c.1 r 1 = false) ∨ ((c.2 = 3 ∨ c.2 = 4) ∧ ofL s c.1 = []) := fun c e => by
    unfold placeS at e
    split at e
    · rename_i i hi
      subst e
      have := List.find?_some hi
      exact .inl ⟨rfl, this⟩
    · rename_i hn
      split at e
      · subst e; exact .inr (.inr ⟨.inr rfl, hnil⟩)
      · rename_i i he
        subst e
        have hm : i ∈ mayL s r s.opn.length := by rw [he]; simp
        unfold mayL at hm
        simp only [List.mem_filter, List.mem_range] at hm
        have hm2 := hm.2
        unfold mayB at hm2
        simp only [Bool.and_eq_true, Bool.not_eq_true'] at hm2
        rw [List.find?_eq_none] at hn
        have := hn i (by simpa using hm.1)
        exact .inr (.inl ⟨rfl, hm2.1.2, by simpa using this⟩)
      · subst e; exact .inr (.inr ⟨.inl rfl, hnil⟩)
  exact hc _ rfl
theorem cmpA_ok {r1 r2 : Rep} {wd dr : Int} (h1 : repB r1 = true) (h2 : repB r2 = true) (hr : rulesB wd dr = true) : cmpA r1 r2 wd dr = (cmpZ wd dr r1 r2, 0) := by
  unfold cmpA
  rw [h1, h2, hr]
  rfl
theorem take_there {s : BS} (hs : BInv s) (r : Rep) {n : Nat} (hn : n ≤ s.opn.length) : thereB (takenS s r n) (n : Int) = true := by
  unfold thereB
  rw [inB_iff]
  have : (takenS s r n).opn.length = if n = s.opn.length then s.opn.length + 1 else s.opn.length := by
    unfold takenS
    by_cases e : n = s.opn.length <;> simp [e]
  rw [this]
  split <;> omega
theorem do_rules (s : BS) (x : Act_) : (doS s x).1.window = s.window ∧ (doS s x).1.drift = s.drift := by
  unfold doS
  split
  · unfold proveS; split
    · exact ⟨rfl, rfl⟩
    · split
      · exact ⟨rfl, rfl⟩
      · split <;> exact ⟨rfl, rfl⟩
  · split
    · unfold closeS; split
      · exact ⟨rfl, rfl⟩
      · split
        · exact ⟨rfl, rfl⟩
        · split <;> exact ⟨rfl, rfl⟩
    · split
      · unfold joinS; split
        · exact ⟨rfl, rfl⟩
        · split
          · exact ⟨rfl, rfl⟩
          · split <;> exact ⟨rfl, rfl⟩
      · unfold tookS; split
        · exact ⟨rfl, rfl⟩
        · split <;> exact ⟨rfl, rfl⟩
theorem report_yes {w : World} {k : Nat} {s : BS} {m : Mem} (h : BookAt w k s m) {y : Nat} (hy : y < s.reps.length) :
    Calls Try.prog 17 #[.pointer (some ⟨k, 0, none⟩), .int .i64 (y : Int)] w fun e w' => (∃ b' o' c', e = .returned (.tuple #[.agg (repC (s.rp y) (some ⟨b', o', none⟩) c').toArray, .int .i64 (s.o y : Int), .int .i64 0]) ∧ SlP w' (.slice (some ⟨b', o', none⟩) (s.rp y).wh.length c') (s.rp y).wh (some b') ∧ w.heap.size ≤ b') ∧ Frm w.heap.size [] w w' := by
  refine (report_call h (y : Int)).mono ?_
  rintro e w' ⟨h1, h2⟩
  have hin : inB (y : Int) 0 ((s.reps.length : Int) - 1) = true := by rw [inB_iff]; omega
  rw [if_pos hin, Int.toNat_natCast] at h1
  exact ⟨h1, h2⟩
def anyK (f : Nat → Bool) (l : List Nat) (j : Nat) : Bool := (l.take j).any f
theorem anyK_succ (f : Nat → Bool) (l : List Nat) {j : Nat} (hj : j < l.length) : anyK f l (j + 1) = (anyK f l j || f (l.getD j 0)) := by
  unfold anyK
  rw [List.take_succ, List.any_append, List.getElem?_eq_getElem hj]
  simp [List.getD_eq_getElem?_getD, List.getElem?_eq_getElem hj]
theorem anyK_all (f : Nat → Bool) (l : List Nat) : anyK f l l.length = l.any f := by unfold anyK; rw [List.take_length]
end Go.Proofs.Ythgmdilfmeefiaa
