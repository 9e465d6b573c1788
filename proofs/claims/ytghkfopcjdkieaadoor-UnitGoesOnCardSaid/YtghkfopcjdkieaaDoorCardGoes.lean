/-
  A plan that is made again where one of its legs ends is what is left of it; and the fuel of a plan never rises, and is never more than what has not been burnt (UnitGoesOn; the card): for every input; the variable that the row lists starts as the program's text lays it.
-/
import Derived.Test.YtghkfopcjdkieaaDoorLawGoes
import Derived.Test.YtghkfopcjdkieaaDoorTie
import Derived.Test.YtghkfopcjdkieaaDoorCards
import Derived.SevenTiedAt
namespace Go.Proofs.YtghkfopcjdkieaaDoor
open Go

/-- The statement. -/
theorem unitGoesOn_proved : Rows.UnitGoesOnCardSaid :=
  Claim7.holds_tied_plain_at .later [] [.data] true _ false
    unitGoesOn_over (fun _ h => by cases h) (by kernel_rfl) (fun _ h => by cases h) unitGoesOn_row_tie rfl ⟨rfl, rfl⟩ (by kernel_rfl) rfl
    (fun f fn hf hfn => by
      obtain rfl : f = 11 := Option.some.inj ((show Tryd.prog.funcNamed "cresset/cressetlaw09.UnitGoesOn" = some 11 by kernel_rfl).symm.trans hf) |>.symm
      obtain rfl : fn = Tryd.f11 := (Option.some.inj (Tryd.func11.symm.trans hfn)).symm
      exact ⟨by kernel_rfl, fun j t ht => by
        rw [Tryd.params11] at ht
        have hm : t ∈ [25, 37, 5, 72] := by simpa using Array.mem_of_getElem? ht
        have hall : ([25, 37, 5, 72].all fun u => !Tryd.prog.wantsStandIn u) = true := by kernel_rfl
        exact (show Tryd.prog.wantsStandIn t = false by simpa using List.all_eq_true.1 hall t hm)⟩)
    (by kernel_rfl)
end Go.Proofs.YtghkfopcjdkieaaDoor
