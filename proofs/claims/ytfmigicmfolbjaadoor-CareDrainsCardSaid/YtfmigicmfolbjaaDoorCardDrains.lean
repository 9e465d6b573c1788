/-
  With the tanks empty that Drain names the stability is at least what was asked for, and that with any fewer ones empty it is not (CareDrains; the card): for every input; the variables that the row lists start as the program's text lays them.
-/
import Derived.Test.YtfmigicmfolbjaaDoorLawDrains
import Derived.Test.YtfmigicmfolbjaaDoorTie
import Derived.Test.YtfmigicmfolbjaaDoorCards
import Derived.SevenTiedAt
namespace Go.Proofs.YtfmigicmfolbjaaDoor
set_option linter.all false
set_option linter.unusedSimpArgs false
set_option linter.unusedVariables false
open Go

/-- The statement. -/
theorem careDrains_proved : Rows.CareDrainsCardSaid :=
  Claim7.holds_tied_plain_at .later [] [.data, .data] true _ false
    careDrains_over (fun _ h => by cases h) (by kernel_rfl) (fun _ h => by cases h) careDrains_row_tie rfl ⟨rfl, rfl⟩ (by kernel_rfl) rfl
    (fun f fn hf hfn => by
      obtain rfl : f = 6 := Option.some.inj ((show Tryd.prog.funcNamed "cresset/cressetlaw11.CareDrains" = some 6 by kernel_rfl).symm.trans hf) |>.symm
      obtain rfl : fn = Tryd.f6 := (Option.some.inj (Tryd.func6.symm.trans hfn)).symm
      exact ⟨by kernel_rfl, fun j t ht => by
        rw [Tryd.params6] at ht
        have hm : t ∈ [41, 42, 3, 5] := by simpa using Array.mem_of_getElem? ht
        have hall : ([41, 42, 3, 5].all fun u => !Tryd.prog.wantsStandIn u) = true := by kernel_rfl
        exact (show Tryd.prog.wantsStandIn t = false by simpa using List.all_eq_true.1 hall t hm)⟩)
    (by kernel_rfl)
end Go.Proofs.YtfmigicmfolbjaaDoor
