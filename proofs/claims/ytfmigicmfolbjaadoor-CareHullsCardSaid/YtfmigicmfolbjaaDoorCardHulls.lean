/-
  The stability of any hull with water in any tanks, and which tanks have to be empty, are the document's, or why that is not said (CareHulls; the card): for every input; the variables that the row lists start as the program's text lays them.
-/
import Derived.Test.YtfmigicmfolbjaaDoorLawHulls
import Derived.Test.YtfmigicmfolbjaaDoorTie
import Derived.Test.YtfmigicmfolbjaaDoorCards
import Derived.SevenTiedAt
namespace Go.Proofs.YtfmigicmfolbjaaDoor
set_option linter.all false
set_option linter.unusedSimpArgs false
set_option linter.unusedVariables false
open Go

/-- The statement. -/
theorem careHulls_proved : Rows.CareHullsCardSaid :=
  Claim7.holds_tied_plain_at .later [] [.data, .data] true _ false
    careHulls_over (fun _ h => by cases h) (by kernel_rfl) (fun _ h => by cases h) careHulls_row_tie rfl ⟨rfl, rfl⟩ (by kernel_rfl) rfl
    (fun f fn hf hfn => by
      obtain rfl : f = 5 := Option.some.inj ((show Tryd.prog.funcNamed "cresset/cressetlaw11.CareHulls" = some 5 by kernel_rfl).symm.trans hf) |>.symm
      obtain rfl : fn = Tryd.f5 := (Option.some.inj (Tryd.func5.symm.trans hfn)).symm
      exact ⟨by kernel_rfl, fun j t ht => by
        rw [Tryd.params5] at ht
        have hm : t ∈ [41, 42, 3] := by simpa using Array.mem_of_getElem? ht
        have hall : ([41, 42, 3].all fun u => !Tryd.prog.wantsStandIn u) = true := by kernel_rfl
        exact (show Tryd.prog.wantsStandIn t = false by simpa using List.all_eq_true.1 hall t hm)⟩)
    (by kernel_rfl)
end Go.Proofs.YtfmigicmfolbjaaDoor
