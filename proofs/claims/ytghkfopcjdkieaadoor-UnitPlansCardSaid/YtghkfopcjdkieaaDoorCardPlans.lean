/-
  The plan of any unit is the document's, or why there is none (UnitPlans; the card): for every input; the variable that the row lists starts as the program's text lays it.
-/
import Derived.Test.YtghkfopcjdkieaaDoorLawPlans
import Derived.Test.YtghkfopcjdkieaaDoorTie
import Derived.Test.YtghkfopcjdkieaaDoorCards
import Derived.SevenTiedAt
namespace Go.Proofs.YtghkfopcjdkieaaDoor
open Go

/-- The statement. -/
theorem unitPlans_proved : Rows.UnitPlansCardSaid :=
  Claim7.holds_tied_plain_at .later [] [.data] true _ false
    unitPlans_over (fun _ h => by cases h) (by kernel_rfl) (fun _ h => by cases h) unitPlans_row_tie rfl ⟨rfl, rfl⟩ (by kernel_rfl) rfl
    (fun f fn hf hfn => by
      obtain rfl : f = 4 := Option.some.inj ((show Tryd.prog.funcNamed "cresset/cressetlaw09.UnitPlans" = some 4 by kernel_rfl).symm.trans hf) |>.symm
      obtain rfl : fn = Tryd.f4 := (Option.some.inj (Tryd.func4.symm.trans hfn)).symm
      exact ⟨by kernel_rfl, fun j t ht => by
        rw [Tryd.params4] at ht
        have hm : t ∈ [25, 37] := by simpa using Array.mem_of_getElem? ht
        have hall : ([25, 37].all fun u => !Tryd.prog.wantsStandIn u) = true := by kernel_rfl
        exact (show Tryd.prog.wantsStandIn t = false by simpa using List.all_eq_true.1 hall t hm)⟩)
    (by kernel_rfl)
end Go.Proofs.YtghkfopcjdkieaaDoor
