/-
  A ship is off at each time from the first one to the last one, and neither ahead of it nor just behind it; with a greater pull and in deeper water it comes off no later (CareTides; the card): for every input; the variables that the row lists start as the program's text lays them.
-/
import Derived.Test.YtfmigicmfolbjaaDoorLawTides
import Derived.Test.YtfmigicmfolbjaaDoorTie
import Derived.Test.YtfmigicmfolbjaaDoorCards
import Derived.SevenTiedAt
namespace Go.Proofs.YtfmigicmfolbjaaDoor
set_option linter.all false
set_option linter.unusedSimpArgs false
set_option linter.unusedVariables false
open Go

/-- The statement. -/
theorem careTides_proved : Rows.CareTidesCardSaid :=
  Claim7.holds_tied_plain_at .later [] [.data, .data] true _ false
    careTides_over (fun _ h => by cases h) (by kernel_rfl) (fun _ h => by cases h) careTides_row_tie rfl ⟨rfl, rfl⟩ (by kernel_rfl) rfl
    (fun f fn hf hfn => by
      obtain rfl : f = 8 := Option.some.inj ((show Tryd.prog.funcNamed "cresset/cressetlaw11.CareTides" = some 8 by kernel_rfl).symm.trans hf) |>.symm
      obtain rfl : fn = Tryd.f8 := (Option.some.inj (Tryd.func8.symm.trans hfn)).symm
      exact ⟨by kernel_rfl, fun j t ht => by
        rw [Tryd.params8] at ht
        have hm : t ∈ [52, 53, 3, 57] := by simpa using Array.mem_of_getElem? ht
        have hall : ([52, 53, 3, 57].all fun u => !Tryd.prog.wantsStandIn u) = true := by kernel_rfl
        exact (show Tryd.prog.wantsStandIn t = false by simpa using List.all_eq_true.1 hall t hm)⟩)
    (by kernel_rfl)
end Go.Proofs.YtfmigicmfolbjaaDoor
