/-
  With one more order what is sound stays sound, and what ends still does (CareMore; the card): for every input; the variables that the row lists start as the program's text lays them.
-/
import Derived.Test.YtfmigicmfolbjaaDoorLawMore
import Derived.Test.YtfmigicmfolbjaaDoorTie
import Derived.Test.YtfmigicmfolbjaaDoorCards
import Derived.SevenTiedAt
namespace Go.Proofs.YtfmigicmfolbjaaDoor
set_option linter.all false
set_option linter.unusedSimpArgs false
set_option linter.unusedVariables false
open Go

/-- The statement. -/
theorem careMore_proved : Rows.CareMoreCardSaid :=
  Claim7.holds_tied_plain_at .later [] [.data, .data] true _ false
    careMore_over (fun _ h => by cases h) (by kernel_rfl) (fun _ h => by cases h) careMore_row_tie rfl ⟨rfl, rfl⟩ (by kernel_rfl) rfl
    (fun f fn hf hfn => by
      obtain rfl : f = 10 := Option.some.inj ((show Tryd.prog.funcNamed "cresset/cressetlaw11.CareMore" = some 10 by kernel_rfl).symm.trans hf) |>.symm
      obtain rfl : fn = Tryd.f10 := (Option.some.inj (Tryd.func10.symm.trans hfn)).symm
      exact ⟨by kernel_rfl, fun j t ht => by
        rw [Tryd.params10] at ht
        have hm : t ∈ [66, 78] := by simpa using Array.mem_of_getElem? ht
        have hall : ([66, 78].all fun u => !Tryd.prog.wantsStandIn u) = true := by kernel_rfl
        exact (show Tryd.prog.wantsStandIn t = false by simpa using List.all_eq_true.1 hall t hm)⟩)
    (by kernel_rfl)
end Go.Proofs.YtfmigicmfolbjaaDoor
