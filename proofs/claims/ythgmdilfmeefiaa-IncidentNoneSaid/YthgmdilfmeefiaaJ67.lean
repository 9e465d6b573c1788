/-
  A report of a book, its corners in memory of its own; lists of corners.
-/
import Derived.Test.YthgmdilfmeefiaaJ63
import Derived.Test.YthgmdilfmeefiaaJ65
import Derived.Test.YthgmdilfmeefiaaJ66
namespace Go.Proofs.Ythgmdilfmeefiaa
set_option linter.all false
set_option linter.unusedSimpArgs false
set_option linter.unusedVariables false
open Go.RowKit

/-- A report, or none, with memory that is no one's. -/
theorem report_far {w : World} {k : Nat} {s : BS} {m : Mem} (h : BookAt w k s m) (i : Int) :
    Calls Try.prog 17 #[.pointer (some ⟨k, 0, none⟩), .int .i64 i] w fun e w' => (∃ (R : List Value) (ad : Option Addr) (n cap : Nat) (cs : List Value) (own : Option Nat) (o c : Int), e = .returned (.tuple #[.agg R.toArray, .int .i64 o, .int .i64 c]) ∧ R.length = 7 ∧ (∀ u ∈ R, u.oneCell' = true) ∧ R[4]? = some (.slice ad n cap) ∧ Sl w' 71 2 (.slice ad n cap) n cs own ∧ ∀ b, own = some b → w.heap.size ≤ b) ∧ Frm w.heap.size [] w w' := by
  refine (report_call h i).mono ?_
  rintro e w' ⟨he, hf⟩
  refine ⟨?_, hf⟩
  by_cases hin : inB i 0 ((s.reps.length : Int) - 1) = true
  · rw [if_pos hin] at he
    obtain ⟨b, o, c, rfl, hs, hb⟩ := he
    exact ⟨repC (s.rp i.toNat) (some ⟨b, o, none⟩) c, some ⟨b, o, none⟩, _, c, _, some b, _, _, rfl, rfl, by simp [repC, Value.oneCell'], rfl, hs, fun q hq => by cases hq; exact hb⟩
  · rw [if_neg hin] at he
    subst he
    exact ⟨zeroR, none, 0, 0, [], none, _, _, rfl, rfl, by simp [zeroR, Value.oneCell'], rfl, Sl.nil _ _ _, fun q hq => by cases hq⟩
theorem spots_one (L : List Spt) (n : Nat) : ∀ u ∈ (List.range n).flatMap (fun i => spC (spt L i)), u.oneCell' = true := by
  intro u hu
  simp only [List.mem_flatMap] at hu
  obtain ⟨i, _, hi⟩ := hu
  simp only [spC, List.mem_cons, List.not_mem_nil, or_false] at hi
  rcases hi with rfl | rfl <;> rfl
/-- A slice's rows, and whose they are. -/
theorem Sl.rwo {w : World} {E size : Nat} {v : Value} {n : Nat} {own : Option Nat} {f : Nat → List Value} (h : Sl w E size v n ((List.range n).flatMap f) own) (hf : ∀ i, (f i).length = size) :
    ∃ ad b off cap, v = .slice ad n cap ∧ Rw w size ad b off n f ∧ (0 < n → own = some b) := by
  obtain ⟨ad, b, off, cap, e, hr⟩ := Sl.rw h hf
  refine ⟨ad, b, off, cap, e, hr, fun h0 => ?_⟩
  obtain ⟨b2, o2, c2, e2, ho, _, _⟩ := h.pos h0
  rw [e] at e2
  have := hr.ad h0
  subst this
  cases e2
  exact ho
def zeroAct (j : Int) : Act_ := ⟨j, 0, 0, rep0, prf0⟩
def zeroPos : APos := ⟨none, 0, 0, 0, none, 0, 0, 0⟩
end Go.Proofs.Ythgmdilfmeefiaa
