/-
  DERIVED. GIVEN WITH THE SEED: THE CARDS: each row of YtghkfopcjdkieaaDoorRows.lean that lists a variable, with what it lists TIED to the program's text (the seventh form; the later family's looks); each row that meets fmt, with fmt's text TOLD by the authors' own Lean function (tested against real Go, not proved from fmt's source: count such statements apart). THE CARD IS WHAT COUNTS. Prove the row's statement (the work); the ties are given (YtghkfopcjdkieaaDoorTie.lean); close each card by the builder's one call (the guide's Derived/Test/ToyasCard.lean, 'card_holds'). Laid BY PROGRAM, IN A SANDBOX (cutbox-door.mjs). By AI agents, Wed Nov 11 2026. No macro, syntax, notation, axiom, sorry.
-/
import Derived.Test.YtghkfopcjdkieaaDoorRows
import GoSem.ClaimSeven
namespace Go.Proofs.YtghkfopcjdkieaaDoor
namespace Rows

/-- THE TIED CARD OF 'cressetlaw09.UnitChecks'. -/
def unitChecksCard : Claim7 := { stood := { row := unitChecksRow, standIns := [], harness := (true, "5e6a4818e8d7d888c3f25250f92ae55eb703b4b72e8a58f1ef1b7c08c030986b"), looks := false }, kinds := [], alts := [], laidByText := true, laidKinds := [.data], laidTests := true, laidLooks := .later }
def UnitChecksCardSaid : Prop := Claim7.holds Tryd.pinned (.plain (OpenSpec.ofChange unitChecksSpec)) unitChecksCard

/-- THE TIED CARD OF 'cressetlaw09.UnitPlans'. -/
def unitPlansCard : Claim7 := { stood := { row := unitPlansRow, standIns := [], harness := (true, "5e6a4818e8d7d888c3f25250f92ae55eb703b4b72e8a58f1ef1b7c08c030986b"), looks := false }, kinds := [], alts := [], laidByText := true, laidKinds := [.data], laidTests := true, laidLooks := .later }
def UnitPlansCardSaid : Prop := Claim7.holds Tryd.pinned (.plain (OpenSpec.ofChange unitPlansSpec)) unitPlansCard

/-- THE TIED CARD OF 'cressetlaw09.UnitWheres'. -/
def unitWheresCard : Claim7 := { stood := { row := unitWheresRow, standIns := [], harness := (true, "5e6a4818e8d7d888c3f25250f92ae55eb703b4b72e8a58f1ef1b7c08c030986b"), looks := false }, kinds := [], alts := [], laidByText := true, laidKinds := [.data], laidTests := true, laidLooks := .later }
def UnitWheresCardSaid : Prop := Claim7.holds Tryd.pinned (.plain (OpenSpec.ofChange unitWheresSpec)) unitWheresCard

/-- THE TIED CARD OF 'cressetlaw09.UnitHome'. -/
def unitHomeCard : Claim7 := { stood := { row := unitHomeRow, standIns := [], harness := (true, "5e6a4818e8d7d888c3f25250f92ae55eb703b4b72e8a58f1ef1b7c08c030986b"), looks := false }, kinds := [], alts := [], laidByText := true, laidKinds := [.data], laidTests := true, laidLooks := .later }
def UnitHomeCardSaid : Prop := Claim7.holds Tryd.pinned (.plain (OpenSpec.ofChange unitHomeSpec)) unitHomeCard

/-- THE TIED CARD OF 'cressetlaw09.UnitTriangle'. -/
def unitTriangleCard : Claim7 := { stood := { row := unitTriangleRow, standIns := [], harness := (true, "5e6a4818e8d7d888c3f25250f92ae55eb703b4b72e8a58f1ef1b7c08c030986b"), looks := false }, kinds := [], alts := [], laidByText := true, laidKinds := [.data], laidTests := true, laidLooks := .later }
def UnitTriangleCardSaid : Prop := Claim7.holds Tryd.pinned (.plain (OpenSpec.ofChange unitTriangleSpec)) unitTriangleCard

/-- THE TIED CARD OF 'cressetlaw09.UnitBoxes'. -/
def unitBoxesCard : Claim7 := { stood := { row := unitBoxesRow, standIns := [], harness := (true, "5e6a4818e8d7d888c3f25250f92ae55eb703b4b72e8a58f1ef1b7c08c030986b"), looks := false }, kinds := [], alts := [], laidByText := true, laidKinds := [.data], laidTests := true, laidLooks := .later }
def UnitBoxesCardSaid : Prop := Claim7.holds Tryd.pinned (.plain (OpenSpec.ofChange unitBoxesSpec)) unitBoxesCard

/-- THE TIED CARD OF 'cressetlaw09.UnitApart'. -/
def unitApartCard : Claim7 := { stood := { row := unitApartRow, standIns := [], harness := (true, "5e6a4818e8d7d888c3f25250f92ae55eb703b4b72e8a58f1ef1b7c08c030986b"), looks := false }, kinds := [], alts := [], laidByText := true, laidKinds := [.data], laidTests := true, laidLooks := .later }
def UnitApartCardSaid : Prop := Claim7.holds Tryd.pinned (.plain (OpenSpec.ofChange unitApartSpec)) unitApartCard

/-- THE TIED CARD OF 'cressetlaw09.UnitAgains'. -/
def unitAgainsCard : Claim7 := { stood := { row := unitAgainsRow, standIns := [], harness := (true, "5e6a4818e8d7d888c3f25250f92ae55eb703b4b72e8a58f1ef1b7c08c030986b"), looks := false }, kinds := [], alts := [], laidByText := true, laidKinds := [.data], laidTests := true, laidLooks := .later }
def UnitAgainsCardSaid : Prop := Claim7.holds Tryd.pinned (.plain (OpenSpec.ofChange unitAgainsSpec)) unitAgainsCard

/-- THE TIED CARD OF 'cressetlaw09.UnitGoesOn'. -/
def unitGoesOnCard : Claim7 := { stood := { row := unitGoesOnRow, standIns := [], harness := (true, "5e6a4818e8d7d888c3f25250f92ae55eb703b4b72e8a58f1ef1b7c08c030986b"), looks := false }, kinds := [], alts := [], laidByText := true, laidKinds := [.data], laidTests := true, laidLooks := .later }
def UnitGoesOnCardSaid : Prop := Claim7.holds Tryd.pinned (.plain (OpenSpec.ofChange unitGoesOnSpec)) unitGoesOnCard

/-- THE TIED CARD OF 'cressetlaw09.UnitAssigns'. -/
def unitAssignsCard : Claim7 := { stood := { row := unitAssignsRow, standIns := [], harness := (true, "5e6a4818e8d7d888c3f25250f92ae55eb703b4b72e8a58f1ef1b7c08c030986b"), looks := false }, kinds := [], alts := [], laidByText := true, laidKinds := [.data], laidTests := true, laidLooks := .later }
def UnitAssignsCardSaid : Prop := Claim7.holds Tryd.pinned (.plain (OpenSpec.ofChange unitAssignsSpec)) unitAssignsCard

/-- THE TIED CARD OF 'cressetlaw09.UnitBest'. -/
def unitBestCard : Claim7 := { stood := { row := unitBestRow, standIns := [], harness := (true, "5e6a4818e8d7d888c3f25250f92ae55eb703b4b72e8a58f1ef1b7c08c030986b"), looks := false }, kinds := [], alts := [], laidByText := true, laidKinds := [.data], laidTests := true, laidLooks := .later }
def UnitBestCardSaid : Prop := Claim7.holds Tryd.pinned (.plain (OpenSpec.ofChange unitBestSpec)) unitBestCard

/-- THE TIED CARD OF 'cressetlaw09.UnitOwns'. -/
def unitOwnsCard : Claim7 := { stood := { row := unitOwnsRow, standIns := [], harness := (true, "5e6a4818e8d7d888c3f25250f92ae55eb703b4b72e8a58f1ef1b7c08c030986b"), looks := false }, kinds := [], alts := [], laidByText := true, laidKinds := [.data], laidTests := true, laidLooks := .later }
def UnitOwnsCardSaid : Prop := Claim7.holds Tryd.pinned (.plain (OpenSpec.ofChange unitOwnsSpec)) unitOwnsCard

/-- THE SECOND FORM's CARD OF 'cressetlaw09.UnitChecks'. -/
def unitChecksUptoCard : Claim7 := { stood := { row := unitChecksUptoRow, standIns := [], harness := (true, "5e6a4818e8d7d888c3f25250f92ae55eb703b4b72e8a58f1ef1b7c08c030986b"), looks := false }, kinds := [], alts := [], laidByText := true, laidKinds := [.data], laidTests := true, laidLooks := .later }
def UnitChecksUptoCardSaid : Prop := Claim7.holds Tryd.pinned (.plain (OpenSpec.upto unitChecksSpec)) unitChecksUptoCard

/-- THE SECOND FORM's CARD OF 'cressetlaw09.UnitPlans'. -/
def unitPlansUptoCard : Claim7 := { stood := { row := unitPlansUptoRow, standIns := [], harness := (true, "5e6a4818e8d7d888c3f25250f92ae55eb703b4b72e8a58f1ef1b7c08c030986b"), looks := false }, kinds := [], alts := [], laidByText := true, laidKinds := [.data], laidTests := true, laidLooks := .later }
def UnitPlansUptoCardSaid : Prop := Claim7.holds Tryd.pinned (.plain (OpenSpec.upto unitPlansSpec)) unitPlansUptoCard

/-- THE SECOND FORM's CARD OF 'cressetlaw09.UnitWheres'. -/
def unitWheresUptoCard : Claim7 := { stood := { row := unitWheresUptoRow, standIns := [], harness := (true, "5e6a4818e8d7d888c3f25250f92ae55eb703b4b72e8a58f1ef1b7c08c030986b"), looks := false }, kinds := [], alts := [], laidByText := true, laidKinds := [.data], laidTests := true, laidLooks := .later }
def UnitWheresUptoCardSaid : Prop := Claim7.holds Tryd.pinned (.plain (OpenSpec.upto unitWheresSpec)) unitWheresUptoCard

/-- THE SECOND FORM's CARD OF 'cressetlaw09.UnitHome'. -/
def unitHomeUptoCard : Claim7 := { stood := { row := unitHomeUptoRow, standIns := [], harness := (true, "5e6a4818e8d7d888c3f25250f92ae55eb703b4b72e8a58f1ef1b7c08c030986b"), looks := false }, kinds := [], alts := [], laidByText := true, laidKinds := [.data], laidTests := true, laidLooks := .later }
def UnitHomeUptoCardSaid : Prop := Claim7.holds Tryd.pinned (.plain (OpenSpec.upto unitHomeSpec)) unitHomeUptoCard

/-- THE SECOND FORM's CARD OF 'cressetlaw09.UnitTriangle'. -/
def unitTriangleUptoCard : Claim7 := { stood := { row := unitTriangleUptoRow, standIns := [], harness := (true, "5e6a4818e8d7d888c3f25250f92ae55eb703b4b72e8a58f1ef1b7c08c030986b"), looks := false }, kinds := [], alts := [], laidByText := true, laidKinds := [.data], laidTests := true, laidLooks := .later }
def UnitTriangleUptoCardSaid : Prop := Claim7.holds Tryd.pinned (.plain (OpenSpec.upto unitTriangleSpec)) unitTriangleUptoCard

/-- THE SECOND FORM's CARD OF 'cressetlaw09.UnitBoxes'. -/
def unitBoxesUptoCard : Claim7 := { stood := { row := unitBoxesUptoRow, standIns := [], harness := (true, "5e6a4818e8d7d888c3f25250f92ae55eb703b4b72e8a58f1ef1b7c08c030986b"), looks := false }, kinds := [], alts := [], laidByText := true, laidKinds := [.data], laidTests := true, laidLooks := .later }
def UnitBoxesUptoCardSaid : Prop := Claim7.holds Tryd.pinned (.plain (OpenSpec.upto unitBoxesSpec)) unitBoxesUptoCard

/-- THE SECOND FORM's CARD OF 'cressetlaw09.UnitApart'. -/
def unitApartUptoCard : Claim7 := { stood := { row := unitApartUptoRow, standIns := [], harness := (true, "5e6a4818e8d7d888c3f25250f92ae55eb703b4b72e8a58f1ef1b7c08c030986b"), looks := false }, kinds := [], alts := [], laidByText := true, laidKinds := [.data], laidTests := true, laidLooks := .later }
def UnitApartUptoCardSaid : Prop := Claim7.holds Tryd.pinned (.plain (OpenSpec.upto unitApartSpec)) unitApartUptoCard

/-- THE SECOND FORM's CARD OF 'cressetlaw09.UnitAgains'. -/
def unitAgainsUptoCard : Claim7 := { stood := { row := unitAgainsUptoRow, standIns := [], harness := (true, "5e6a4818e8d7d888c3f25250f92ae55eb703b4b72e8a58f1ef1b7c08c030986b"), looks := false }, kinds := [], alts := [], laidByText := true, laidKinds := [.data], laidTests := true, laidLooks := .later }
def UnitAgainsUptoCardSaid : Prop := Claim7.holds Tryd.pinned (.plain (OpenSpec.upto unitAgainsSpec)) unitAgainsUptoCard

/-- THE SECOND FORM's CARD OF 'cressetlaw09.UnitGoesOn'. -/
def unitGoesOnUptoCard : Claim7 := { stood := { row := unitGoesOnUptoRow, standIns := [], harness := (true, "5e6a4818e8d7d888c3f25250f92ae55eb703b4b72e8a58f1ef1b7c08c030986b"), looks := false }, kinds := [], alts := [], laidByText := true, laidKinds := [.data], laidTests := true, laidLooks := .later }
def UnitGoesOnUptoCardSaid : Prop := Claim7.holds Tryd.pinned (.plain (OpenSpec.upto unitGoesOnSpec)) unitGoesOnUptoCard

/-- THE SECOND FORM's CARD OF 'cressetlaw09.UnitAssigns'. -/
def unitAssignsUptoCard : Claim7 := { stood := { row := unitAssignsUptoRow, standIns := [], harness := (true, "5e6a4818e8d7d888c3f25250f92ae55eb703b4b72e8a58f1ef1b7c08c030986b"), looks := false }, kinds := [], alts := [], laidByText := true, laidKinds := [.data], laidTests := true, laidLooks := .later }
def UnitAssignsUptoCardSaid : Prop := Claim7.holds Tryd.pinned (.plain (OpenSpec.upto unitAssignsSpec)) unitAssignsUptoCard

/-- THE SECOND FORM's CARD OF 'cressetlaw09.UnitBest'. -/
def unitBestUptoCard : Claim7 := { stood := { row := unitBestUptoRow, standIns := [], harness := (true, "5e6a4818e8d7d888c3f25250f92ae55eb703b4b72e8a58f1ef1b7c08c030986b"), looks := false }, kinds := [], alts := [], laidByText := true, laidKinds := [.data], laidTests := true, laidLooks := .later }
def UnitBestUptoCardSaid : Prop := Claim7.holds Tryd.pinned (.plain (OpenSpec.upto unitBestSpec)) unitBestUptoCard

/-- THE SECOND FORM's CARD OF 'cressetlaw09.UnitOwns'. -/
def unitOwnsUptoCard : Claim7 := { stood := { row := unitOwnsUptoRow, standIns := [], harness := (true, "5e6a4818e8d7d888c3f25250f92ae55eb703b4b72e8a58f1ef1b7c08c030986b"), looks := false }, kinds := [], alts := [], laidByText := true, laidKinds := [.data], laidTests := true, laidLooks := .later }
def UnitOwnsUptoCardSaid : Prop := Claim7.holds Tryd.pinned (.plain (OpenSpec.upto unitOwnsSpec)) unitOwnsUptoCard
end Rows
end Go.Proofs.YtghkfopcjdkieaaDoor
