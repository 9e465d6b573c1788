/-
  Whether any unit and weather are valid, and any way, are the document's (UnitChecks; the card): for every input; the variable that the row lists starts as the program's text lays it.
-/
import Derived.Test.YtghkfopcjdkieaaDoorLawChecks
import Derived.Test.YtghkfopcjdkieaaDoorTie
import Derived.Test.YtghkfopcjdkieaaDoorCards
import Derived.SevenTiedAt
namespace Go.Proofs.YtghkfopcjdkieaaDoor
open Go

/-- The statement. -/
theorem unitChecks_proved : Rows.UnitChecksCardSaid :=
  Claim7.holds_tied_plain_at .later [] [.data] true _ false
    unitChecks_over (fun _ h => by cases h) (by kernel_rfl) (fun _ h => by cases h) unitChecks_row_tie rfl ⟨rfl, rfl⟩ (by kernel_rfl) rfl
    (fun f fn hf hfn => by
      obtain rfl : f = 3 := Option.some.inj ((show Tryd.prog.funcNamed "cresset/cressetlaw09.UnitChecks" = some 3 by kernel_rfl).symm.trans hf) |>.symm
      obtain rfl : fn = Tryd.f3 := (Option.some.inj (Tryd.func3.symm.trans hfn)).symm
      exact ⟨by kernel_rfl, fun j t ht => by
        rw [Tryd.params3] at ht
        have hm : t ∈ [25, 26, 27] := by simpa using Array.mem_of_getElem? ht
        have hall : ([25, 26, 27].all fun u => !Tryd.prog.wantsStandIn u) = true := by kernel_rfl
        exact (show Tryd.prog.wantsStandIn t = false by simpa using List.all_eq_true.1 hall t hm)⟩)
    (by kernel_rfl)
end Go.Proofs.YtghkfopcjdkieaaDoor
