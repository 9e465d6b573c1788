/-
  In any row of a plan that is sound each need is met; and the facts that end hold behind it (CareOrders; the card): for every input; the variables that the row lists start as the program's text lays them.
-/
import Derived.Test.YtfmigicmfolbjaaDoorLawOrders
import Derived.Test.YtfmigicmfolbjaaDoorTie
import Derived.Test.YtfmigicmfolbjaaDoorCards
import Derived.SevenTiedAt
namespace Go.Proofs.YtfmigicmfolbjaaDoor
set_option linter.all false
set_option linter.unusedSimpArgs false
set_option linter.unusedVariables false
open Go

/-- The statement. -/
theorem careOrders_proved : Rows.CareOrdersCardSaid :=
  Claim7.holds_tied_plain_at .later [] [.data, .data] true _ false
    careOrders_over (fun _ h => by cases h) (by kernel_rfl) (fun _ h => by cases h) careOrders_row_tie rfl ⟨rfl, rfl⟩ (by kernel_rfl) rfl
    (fun f fn hf hfn => by
      obtain rfl : f = 9 := Option.some.inj ((show Tryd.prog.funcNamed "cresset/cressetlaw11.CareOrders" = some 9 by kernel_rfl).symm.trans hf) |>.symm
      obtain rfl : fn = Tryd.f9 := (Option.some.inj (Tryd.func9.symm.trans hfn)).symm
      exact ⟨by kernel_rfl, fun j t ht => by
        rw [Tryd.params9] at ht
        have hm : t ∈ [66, 67] := by simpa using Array.mem_of_getElem? ht
        have hall : ([66, 67].all fun u => !Tryd.prog.wantsStandIn u) = true := by kernel_rfl
        exact (show Tryd.prog.wantsStandIn t = false by simpa using List.all_eq_true.1 hall t hm)⟩)
    (by kernel_rfl)
end Go.Proofs.YtfmigicmfolbjaaDoor
