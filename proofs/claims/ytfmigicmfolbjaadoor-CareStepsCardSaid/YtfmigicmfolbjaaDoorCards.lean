/-
  DERIVED. GIVEN WITH THE SEED: THE CARDS: each row of YtfmigicmfolbjaaDoorRows.lean that lists a variable, with what it lists TIED to the program's text (the seventh form; the later family's looks); each row that meets fmt, with fmt's text TOLD by the authors' own Lean function (tested against real Go, not proved from fmt's source: count such statements apart). THE CARD IS WHAT COUNTS. Prove the row's statement (the work); the ties are given (YtfmigicmfolbjaaDoorTie.lean); close each card by the builder's one call (the guide's Derived/Test/ToyasCard.lean, 'card_holds'). Laid BY PROGRAM, IN A SANDBOX (cutbox-door.mjs). By AI agents, Wed Nov 11 2026. No macro, syntax, notation, axiom, sorry.
-/
import Derived.Test.YtfmigicmfolbjaaDoorRows
import GoSem.ClaimSeven
namespace Go.Proofs.YtfmigicmfolbjaaDoor
namespace Rows

/-- THE TIED CARD OF 'cressetlaw11.CareLifts'. -/
def careLiftsCard : Claim7 := { stood := { row := careLiftsRow, standIns := [], harness := (true, "524274dc50c254b937d7d2181f95886850ec24e20bee0d86d1f85e7d33de2ece"), looks := false }, kinds := [], alts := [], laidByText := true, laidKinds := [.data, .data], laidTests := true, laidLooks := .later }
def CareLiftsCardSaid : Prop := Claim7.holds Tryd.pinned (.plain (OpenSpec.ofChange careLiftsSpec)) careLiftsCard

/-- THE TIED CARD OF 'cressetlaw11.CareTows'. -/
def careTowsCard : Claim7 := { stood := { row := careTowsRow, standIns := [], harness := (true, "524274dc50c254b937d7d2181f95886850ec24e20bee0d86d1f85e7d33de2ece"), looks := false }, kinds := [], alts := [], laidByText := true, laidKinds := [.data, .data], laidTests := true, laidLooks := .later }
def CareTowsCardSaid : Prop := Claim7.holds Tryd.pinned (.plain (OpenSpec.ofChange careTowsSpec)) careTowsCard

/-- THE TIED CARD OF 'cressetlaw11.CareHulls'. -/
def careHullsCard : Claim7 := { stood := { row := careHullsRow, standIns := [], harness := (true, "524274dc50c254b937d7d2181f95886850ec24e20bee0d86d1f85e7d33de2ece"), looks := false }, kinds := [], alts := [], laidByText := true, laidKinds := [.data, .data], laidTests := true, laidLooks := .later }
def CareHullsCardSaid : Prop := Claim7.holds Tryd.pinned (.plain (OpenSpec.ofChange careHullsSpec)) careHullsCard

/-- THE TIED CARD OF 'cressetlaw11.CareDrains'. -/
def careDrainsCard : Claim7 := { stood := { row := careDrainsRow, standIns := [], harness := (true, "524274dc50c254b937d7d2181f95886850ec24e20bee0d86d1f85e7d33de2ece"), looks := false }, kinds := [], alts := [], laidByText := true, laidKinds := [.data, .data], laidTests := true, laidLooks := .later }
def CareDrainsCardSaid : Prop := Claim7.holds Tryd.pinned (.plain (OpenSpec.ofChange careDrainsSpec)) careDrainsCard

/-- THE TIED CARD OF 'cressetlaw11.CareFloats'. -/
def careFloatsCard : Claim7 := { stood := { row := careFloatsRow, standIns := [], harness := (true, "524274dc50c254b937d7d2181f95886850ec24e20bee0d86d1f85e7d33de2ece"), looks := false }, kinds := [], alts := [], laidByText := true, laidKinds := [.data, .data], laidTests := true, laidLooks := .later }
def CareFloatsCardSaid : Prop := Claim7.holds Tryd.pinned (.plain (OpenSpec.ofChange careFloatsSpec)) careFloatsCard

/-- THE TIED CARD OF 'cressetlaw11.CareTides'. -/
def careTidesCard : Claim7 := { stood := { row := careTidesRow, standIns := [], harness := (true, "524274dc50c254b937d7d2181f95886850ec24e20bee0d86d1f85e7d33de2ece"), looks := false }, kinds := [], alts := [], laidByText := true, laidKinds := [.data, .data], laidTests := true, laidLooks := .later }
def CareTidesCardSaid : Prop := Claim7.holds Tryd.pinned (.plain (OpenSpec.ofChange careTidesSpec)) careTidesCard

/-- THE TIED CARD OF 'cressetlaw11.CareOrders'. -/
def careOrdersCard : Claim7 := { stood := { row := careOrdersRow, standIns := [], harness := (true, "524274dc50c254b937d7d2181f95886850ec24e20bee0d86d1f85e7d33de2ece"), looks := false }, kinds := [], alts := [], laidByText := true, laidKinds := [.data, .data], laidTests := true, laidLooks := .later }
def CareOrdersCardSaid : Prop := Claim7.holds Tryd.pinned (.plain (OpenSpec.ofChange careOrdersSpec)) careOrdersCard

/-- THE TIED CARD OF 'cressetlaw11.CareMore'. -/
def careMoreCard : Claim7 := { stood := { row := careMoreRow, standIns := [], harness := (true, "524274dc50c254b937d7d2181f95886850ec24e20bee0d86d1f85e7d33de2ece"), looks := false }, kinds := [], alts := [], laidByText := true, laidKinds := [.data, .data], laidTests := true, laidLooks := .later }
def CareMoreCardSaid : Prop := Claim7.holds Tryd.pinned (.plain (OpenSpec.ofChange careMoreSpec)) careMoreCard

/-- THE TIED CARD OF 'cressetlaw11.CareOwns'. -/
def careOwnsCard : Claim7 := { stood := { row := careOwnsRow, standIns := [], harness := (true, "524274dc50c254b937d7d2181f95886850ec24e20bee0d86d1f85e7d33de2ece"), looks := false }, kinds := [], alts := [], laidByText := true, laidKinds := [.data, .data], laidTests := true, laidLooks := .later }
def CareOwnsCardSaid : Prop := Claim7.holds Tryd.pinned (.plain (OpenSpec.ofChange careOwnsSpec)) careOwnsCard

/-- THE TIED CARD OF 'cressetlaw11.CareSteps'. -/
def careStepsCard : Claim7 := { stood := { row := careStepsRow, standIns := [], harness := (true, "524274dc50c254b937d7d2181f95886850ec24e20bee0d86d1f85e7d33de2ece"), looks := false }, kinds := [], alts := [], laidByText := true, laidKinds := [.data, .data], laidTests := true, laidLooks := .later }
def CareStepsCardSaid : Prop := Claim7.holds Tryd.pinned (.plain (OpenSpec.ofChange careStepsSpec)) careStepsCard

/-- THE SECOND FORM's CARD OF 'cressetlaw11.CareLifts'. -/
def careLiftsUptoCard : Claim7 := { stood := { row := careLiftsUptoRow, standIns := [], harness := (true, "524274dc50c254b937d7d2181f95886850ec24e20bee0d86d1f85e7d33de2ece"), looks := false }, kinds := [], alts := [], laidByText := true, laidKinds := [.data, .data], laidTests := true, laidLooks := .later }
def CareLiftsUptoCardSaid : Prop := Claim7.holds Tryd.pinned (.plain (OpenSpec.upto careLiftsSpec)) careLiftsUptoCard

/-- THE SECOND FORM's CARD OF 'cressetlaw11.CareTows'. -/
def careTowsUptoCard : Claim7 := { stood := { row := careTowsUptoRow, standIns := [], harness := (true, "524274dc50c254b937d7d2181f95886850ec24e20bee0d86d1f85e7d33de2ece"), looks := false }, kinds := [], alts := [], laidByText := true, laidKinds := [.data, .data], laidTests := true, laidLooks := .later }
def CareTowsUptoCardSaid : Prop := Claim7.holds Tryd.pinned (.plain (OpenSpec.upto careTowsSpec)) careTowsUptoCard

/-- THE SECOND FORM's CARD OF 'cressetlaw11.CareHulls'. -/
def careHullsUptoCard : Claim7 := { stood := { row := careHullsUptoRow, standIns := [], harness := (true, "524274dc50c254b937d7d2181f95886850ec24e20bee0d86d1f85e7d33de2ece"), looks := false }, kinds := [], alts := [], laidByText := true, laidKinds := [.data, .data], laidTests := true, laidLooks := .later }
def CareHullsUptoCardSaid : Prop := Claim7.holds Tryd.pinned (.plain (OpenSpec.upto careHullsSpec)) careHullsUptoCard

/-- THE SECOND FORM's CARD OF 'cressetlaw11.CareDrains'. -/
def careDrainsUptoCard : Claim7 := { stood := { row := careDrainsUptoRow, standIns := [], harness := (true, "524274dc50c254b937d7d2181f95886850ec24e20bee0d86d1f85e7d33de2ece"), looks := false }, kinds := [], alts := [], laidByText := true, laidKinds := [.data, .data], laidTests := true, laidLooks := .later }
def CareDrainsUptoCardSaid : Prop := Claim7.holds Tryd.pinned (.plain (OpenSpec.upto careDrainsSpec)) careDrainsUptoCard

/-- THE SECOND FORM's CARD OF 'cressetlaw11.CareFloats'. -/
def careFloatsUptoCard : Claim7 := { stood := { row := careFloatsUptoRow, standIns := [], harness := (true, "524274dc50c254b937d7d2181f95886850ec24e20bee0d86d1f85e7d33de2ece"), looks := false }, kinds := [], alts := [], laidByText := true, laidKinds := [.data, .data], laidTests := true, laidLooks := .later }
def CareFloatsUptoCardSaid : Prop := Claim7.holds Tryd.pinned (.plain (OpenSpec.upto careFloatsSpec)) careFloatsUptoCard

/-- THE SECOND FORM's CARD OF 'cressetlaw11.CareTides'. -/
def careTidesUptoCard : Claim7 := { stood := { row := careTidesUptoRow, standIns := [], harness := (true, "524274dc50c254b937d7d2181f95886850ec24e20bee0d86d1f85e7d33de2ece"), looks := false }, kinds := [], alts := [], laidByText := true, laidKinds := [.data, .data], laidTests := true, laidLooks := .later }
def CareTidesUptoCardSaid : Prop := Claim7.holds Tryd.pinned (.plain (OpenSpec.upto careTidesSpec)) careTidesUptoCard

/-- THE SECOND FORM's CARD OF 'cressetlaw11.CareOrders'. -/
def careOrdersUptoCard : Claim7 := { stood := { row := careOrdersUptoRow, standIns := [], harness := (true, "524274dc50c254b937d7d2181f95886850ec24e20bee0d86d1f85e7d33de2ece"), looks := false }, kinds := [], alts := [], laidByText := true, laidKinds := [.data, .data], laidTests := true, laidLooks := .later }
def CareOrdersUptoCardSaid : Prop := Claim7.holds Tryd.pinned (.plain (OpenSpec.upto careOrdersSpec)) careOrdersUptoCard

/-- THE SECOND FORM's CARD OF 'cressetlaw11.CareMore'. -/
def careMoreUptoCard : Claim7 := { stood := { row := careMoreUptoRow, standIns := [], harness := (true, "524274dc50c254b937d7d2181f95886850ec24e20bee0d86d1f85e7d33de2ece"), looks := false }, kinds := [], alts := [], laidByText := true, laidKinds := [.data, .data], laidTests := true, laidLooks := .later }
def CareMoreUptoCardSaid : Prop := Claim7.holds Tryd.pinned (.plain (OpenSpec.upto careMoreSpec)) careMoreUptoCard

/-- THE SECOND FORM's CARD OF 'cressetlaw11.CareOwns'. -/
def careOwnsUptoCard : Claim7 := { stood := { row := careOwnsUptoRow, standIns := [], harness := (true, "524274dc50c254b937d7d2181f95886850ec24e20bee0d86d1f85e7d33de2ece"), looks := false }, kinds := [], alts := [], laidByText := true, laidKinds := [.data, .data], laidTests := true, laidLooks := .later }
def CareOwnsUptoCardSaid : Prop := Claim7.holds Tryd.pinned (.plain (OpenSpec.upto careOwnsSpec)) careOwnsUptoCard

/-- THE SECOND FORM's CARD OF 'cressetlaw11.CareSteps'. -/
def careStepsUptoCard : Claim7 := { stood := { row := careStepsUptoRow, standIns := [], harness := (true, "524274dc50c254b937d7d2181f95886850ec24e20bee0d86d1f85e7d33de2ece"), looks := false }, kinds := [], alts := [], laidByText := true, laidKinds := [.data, .data], laidTests := true, laidLooks := .later }
def CareStepsUptoCardSaid : Prop := Claim7.holds Tryd.pinned (.plain (OpenSpec.upto careStepsSpec)) careStepsUptoCard
end Rows
end Go.Proofs.YtfmigicmfolbjaaDoor
