/-
  The space that any legs take is the document's, or why that is not said (UnitBoxes; the card): for every input; the variable that the row lists starts as the program's text lays it.
-/
import Derived.Test.YtghkfopcjdkieaaDoorLawBoxes
import Derived.Test.YtghkfopcjdkieaaDoorTie
import Derived.Test.YtghkfopcjdkieaaDoorCards
import Derived.SevenTiedAt
namespace Go.Proofs.YtghkfopcjdkieaaDoor
open Go

/-- The statement. -/
theorem unitBoxes_proved : Rows.UnitBoxesCardSaid :=
  Claim7.holds_tied_plain_at .later [] [.data] true _ false
    unitBoxes_over (fun _ h => by cases h) (by kernel_rfl) (fun _ h => by cases h) unitBoxes_row_tie rfl ⟨rfl, rfl⟩ (by kernel_rfl) rfl
    (fun f fn hf hfn => by
      obtain rfl : f = 8 := Option.some.inj ((show Tryd.prog.funcNamed "cresset/cressetlaw09.UnitBoxes" = some 8 by kernel_rfl).symm.trans hf) |>.symm
      obtain rfl : fn = Tryd.f8 := (Option.some.inj (Tryd.func8.symm.trans hfn)).symm
      exact ⟨by kernel_rfl, fun j t ht => by
        rw [Tryd.params8] at ht
        have hm : t ∈ [25, 39, 3] := by simpa using Array.mem_of_getElem? ht
        have hall : ([25, 39, 3].all fun u => !Tryd.prog.wantsStandIn u) = true := by kernel_rfl
        exact (show Tryd.prog.wantsStandIn t = false by simpa using List.all_eq_true.1 hall t hm)⟩)
    (by kernel_rfl)
end Go.Proofs.YtghkfopcjdkieaaDoor
