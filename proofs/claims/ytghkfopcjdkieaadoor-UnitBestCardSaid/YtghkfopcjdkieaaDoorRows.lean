/-
  NARROWER THAN 'FOR EVERY INPUT', by the rows' own cells (each row's printed sentence says how): UnitChecks: laid · UnitPlans: laid · UnitWheres: laid · UnitHome: laid · UnitTriangle: laid · UnitBoxes: laid · UnitApart: laid · UnitAgains: laid · UnitGoesOn: laid · UnitAssigns: laid · UnitBest: laid · UnitOwns: laid.
  DERIVED. THE GIVEN ROWS OF THIS SEAT. 12 by the template 'for every input the law returns true; each argument reads behind the call as it read before'; 0 by the template 'total and deterministic' (their statements: YtghkfopcjdkieaaDoorTotals.lean).
  GIVEN WITH THE SEED: the statements are not yours to turn. If you find one false, say at which input.
  Laid BY PROGRAM, IN A SANDBOX (cutbox-rows.mjs): the forced cells as the released guide's own fill.sh prints them over the translation 7314c65726743a73… (all of the seat's roots in one cut). By AI agents, Wed Nov 11 2026. No macro, syntax, notation, axiom, sorry.
-/
import Derived.Test.YtghkfopcjdkieaaDoorChecked
import GoSem.Claim
import GoSem.ClaimJoined
import GoSem.ClaimMapViews
import Derived.JoinedTies
import Derived.KernelRfl
namespace Go.Proofs.YtghkfopcjdkieaaDoor
/- THE CELL 'sum', in the pinned program and in every row, IS THE sha256 OF THE DUMP (.gsa) THAT YtghkfopcjdkieaaDoorProg.lean LOADS. Nothing in Lean hashes anything: it is a label: what it is worth is what the hold of that sum in a sandbox is worth. -/
noncomputable def Tryd.pinned : Pinned := { name := "ytghkfopcjdkieaadoor", sum := "7314c65726743a73a450d25c4904212be670ed64b3a794991d7f17100dc38a26", checked := Tryd.checked }
namespace Rows
def none {H : Type} : Left H := { results := [], args := [] }

/- WHAT THE LISTED PACKAGE-LEVEL VARIABLES READ AS WHEN THE CALL BEGINS. Each datum BY PROGRAM (the guide's laid-datum.mjs) off the statement by which the dump's own 'gosem.cut.vars' lays the variable. In a bare row this is a premise. The card (YtghkfopcjdkieaaDoorCards.lean) ties it to the program's text. -/
def laid_cresset_unit_reasons {H : Type} : DataW H := .agg [.lit (.int .i64 4), .lit (.int .i64 1), .lit (.int .i64 2), .lit (.int .i64 3)]

/-- 'cressetlaw09.UnitChecks': WHATEVER THE INPUT: true; the input reads as it did. -/
def unitChecksSpec : ChangeSpec := { name := "unitChecks", fn := fun _ => fun
  | [d1, d2, d3] => { results := [.lit (.bool true)], args := [d1, d2, d3] }
  | _ => none }
def unitChecksRow : OpenClaim := { program := "ytghkfopcjdkieaadoor", sum := "7314c65726743a73a450d25c4904212be670ed64b3a794991d7f17100dc38a26", func := "cresset/cressetlaw09.UnitChecks", spec := "unitChecks", unfollowed := true, recurses := true, named := ["cresset/unit.reasons"], apart := false, laid := [("cresset/unit.reasons", laid_cresset_unit_reasons)] }
def UnitChecksSaid : Prop := unitChecksRow.holds Tryd.pinned (OpenSpec.ofChange unitChecksSpec)

/-- ITS FALSE NEIGHBOUR: 'it returns false'. Refute it at one input. -/
def unitChecksWrong : ChangeSpec := { name := "unitChecks", fn := fun _ => fun
  | [d1, d2, d3] => { results := [.lit (.bool false)], args := [d1, d2, d3] }
  | _ => none }
def UnitChecksWrongFalsely : Prop := unitChecksRow.holds Tryd.pinned (OpenSpec.ofChange unitChecksWrong)

/-- 'cressetlaw09.UnitPlans': WHATEVER THE INPUT: true; the input reads as it did. -/
def unitPlansSpec : ChangeSpec := { name := "unitPlans", fn := fun _ => fun
  | [d1, d2] => { results := [.lit (.bool true)], args := [d1, d2] }
  | _ => none }
def unitPlansRow : OpenClaim := { program := "ytghkfopcjdkieaadoor", sum := "7314c65726743a73a450d25c4904212be670ed64b3a794991d7f17100dc38a26", func := "cresset/cressetlaw09.UnitPlans", spec := "unitPlans", unfollowed := true, recurses := true, named := ["cresset/unit.reasons"], apart := false, laid := [("cresset/unit.reasons", laid_cresset_unit_reasons)] }
def UnitPlansSaid : Prop := unitPlansRow.holds Tryd.pinned (OpenSpec.ofChange unitPlansSpec)

/-- ITS FALSE NEIGHBOUR: 'it returns false'. Refute it at one input. -/
def unitPlansWrong : ChangeSpec := { name := "unitPlans", fn := fun _ => fun
  | [d1, d2] => { results := [.lit (.bool false)], args := [d1, d2] }
  | _ => none }
def UnitPlansWrongFalsely : Prop := unitPlansRow.holds Tryd.pinned (OpenSpec.ofChange unitPlansWrong)

/-- 'cressetlaw09.UnitWheres': WHATEVER THE INPUT: true; the input reads as it did. -/
def unitWheresSpec : ChangeSpec := { name := "unitWheres", fn := fun _ => fun
  | [d1, d2, d3] => { results := [.lit (.bool true)], args := [d1, d2, d3] }
  | _ => none }
def unitWheresRow : OpenClaim := { program := "ytghkfopcjdkieaadoor", sum := "7314c65726743a73a450d25c4904212be670ed64b3a794991d7f17100dc38a26", func := "cresset/cressetlaw09.UnitWheres", spec := "unitWheres", unfollowed := true, recurses := true, named := ["cresset/unit.reasons"], apart := false, laid := [("cresset/unit.reasons", laid_cresset_unit_reasons)] }
def UnitWheresSaid : Prop := unitWheresRow.holds Tryd.pinned (OpenSpec.ofChange unitWheresSpec)

/-- ITS FALSE NEIGHBOUR: 'it returns false'. Refute it at one input. -/
def unitWheresWrong : ChangeSpec := { name := "unitWheres", fn := fun _ => fun
  | [d1, d2, d3] => { results := [.lit (.bool false)], args := [d1, d2, d3] }
  | _ => none }
def UnitWheresWrongFalsely : Prop := unitWheresRow.holds Tryd.pinned (OpenSpec.ofChange unitWheresWrong)

/-- 'cressetlaw09.UnitHome': WHATEVER THE INPUT: true; the input reads as it did. -/
def unitHomeSpec : ChangeSpec := { name := "unitHome", fn := fun _ => fun
  | [d1, d2] => { results := [.lit (.bool true)], args := [d1, d2] }
  | _ => none }
def unitHomeRow : OpenClaim := { program := "ytghkfopcjdkieaadoor", sum := "7314c65726743a73a450d25c4904212be670ed64b3a794991d7f17100dc38a26", func := "cresset/cressetlaw09.UnitHome", spec := "unitHome", unfollowed := true, recurses := true, named := ["cresset/unit.reasons"], apart := false, laid := [("cresset/unit.reasons", laid_cresset_unit_reasons)] }
def UnitHomeSaid : Prop := unitHomeRow.holds Tryd.pinned (OpenSpec.ofChange unitHomeSpec)

/-- ITS FALSE NEIGHBOUR: 'it returns false'. Refute it at one input. -/
def unitHomeWrong : ChangeSpec := { name := "unitHome", fn := fun _ => fun
  | [d1, d2] => { results := [.lit (.bool false)], args := [d1, d2] }
  | _ => none }
def UnitHomeWrongFalsely : Prop := unitHomeRow.holds Tryd.pinned (OpenSpec.ofChange unitHomeWrong)

/-- 'cressetlaw09.UnitTriangle': WHATEVER THE INPUT: true; the input reads as it did. -/
def unitTriangleSpec : ChangeSpec := { name := "unitTriangle", fn := fun _ => fun
  | [d1, d2, d3] => { results := [.lit (.bool true)], args := [d1, d2, d3] }
  | _ => none }
def unitTriangleRow : OpenClaim := { program := "ytghkfopcjdkieaadoor", sum := "7314c65726743a73a450d25c4904212be670ed64b3a794991d7f17100dc38a26", func := "cresset/cressetlaw09.UnitTriangle", spec := "unitTriangle", unfollowed := true, recurses := true, named := ["cresset/unit.reasons"], apart := false, laid := [("cresset/unit.reasons", laid_cresset_unit_reasons)] }
def UnitTriangleSaid : Prop := unitTriangleRow.holds Tryd.pinned (OpenSpec.ofChange unitTriangleSpec)

/-- ITS FALSE NEIGHBOUR: 'it returns false'. Refute it at one input. -/
def unitTriangleWrong : ChangeSpec := { name := "unitTriangle", fn := fun _ => fun
  | [d1, d2, d3] => { results := [.lit (.bool false)], args := [d1, d2, d3] }
  | _ => none }
def UnitTriangleWrongFalsely : Prop := unitTriangleRow.holds Tryd.pinned (OpenSpec.ofChange unitTriangleWrong)

/-- 'cressetlaw09.UnitBoxes': WHATEVER THE INPUT: true; the input reads as it did. -/
def unitBoxesSpec : ChangeSpec := { name := "unitBoxes", fn := fun _ => fun
  | [d1, d2, d3] => { results := [.lit (.bool true)], args := [d1, d2, d3] }
  | _ => none }
def unitBoxesRow : OpenClaim := { program := "ytghkfopcjdkieaadoor", sum := "7314c65726743a73a450d25c4904212be670ed64b3a794991d7f17100dc38a26", func := "cresset/cressetlaw09.UnitBoxes", spec := "unitBoxes", unfollowed := true, recurses := true, named := ["cresset/unit.reasons"], apart := false, laid := [("cresset/unit.reasons", laid_cresset_unit_reasons)] }
def UnitBoxesSaid : Prop := unitBoxesRow.holds Tryd.pinned (OpenSpec.ofChange unitBoxesSpec)

/-- ITS FALSE NEIGHBOUR: 'it returns false'. Refute it at one input. -/
def unitBoxesWrong : ChangeSpec := { name := "unitBoxes", fn := fun _ => fun
  | [d1, d2, d3] => { results := [.lit (.bool false)], args := [d1, d2, d3] }
  | _ => none }
def UnitBoxesWrongFalsely : Prop := unitBoxesRow.holds Tryd.pinned (OpenSpec.ofChange unitBoxesWrong)

/-- 'cressetlaw09.UnitApart': WHATEVER THE INPUT: true; the input reads as it did. -/
def unitApartSpec : ChangeSpec := { name := "unitApart", fn := fun _ => fun
  | [d1, d2, d3, d4] => { results := [.lit (.bool true)], args := [d1, d2, d3, d4] }
  | _ => none }
def unitApartRow : OpenClaim := { program := "ytghkfopcjdkieaadoor", sum := "7314c65726743a73a450d25c4904212be670ed64b3a794991d7f17100dc38a26", func := "cresset/cressetlaw09.UnitApart", spec := "unitApart", unfollowed := true, recurses := true, named := ["cresset/unit.reasons"], apart := false, laid := [("cresset/unit.reasons", laid_cresset_unit_reasons)] }
def UnitApartSaid : Prop := unitApartRow.holds Tryd.pinned (OpenSpec.ofChange unitApartSpec)

/-- ITS FALSE NEIGHBOUR: 'it returns false'. Refute it at one input. -/
def unitApartWrong : ChangeSpec := { name := "unitApart", fn := fun _ => fun
  | [d1, d2, d3, d4] => { results := [.lit (.bool false)], args := [d1, d2, d3, d4] }
  | _ => none }
def UnitApartWrongFalsely : Prop := unitApartRow.holds Tryd.pinned (OpenSpec.ofChange unitApartWrong)

/-- 'cressetlaw09.UnitAgains': WHATEVER THE INPUT: true; the input reads as it did. -/
def unitAgainsSpec : ChangeSpec := { name := "unitAgains", fn := fun _ => fun
  | [d1, d2, d3] => { results := [.lit (.bool true)], args := [d1, d2, d3] }
  | _ => none }
def unitAgainsRow : OpenClaim := { program := "ytghkfopcjdkieaadoor", sum := "7314c65726743a73a450d25c4904212be670ed64b3a794991d7f17100dc38a26", func := "cresset/cressetlaw09.UnitAgains", spec := "unitAgains", unfollowed := true, recurses := true, named := ["cresset/unit.reasons"], apart := false, laid := [("cresset/unit.reasons", laid_cresset_unit_reasons)] }
def UnitAgainsSaid : Prop := unitAgainsRow.holds Tryd.pinned (OpenSpec.ofChange unitAgainsSpec)

/-- ITS FALSE NEIGHBOUR: 'it returns false'. Refute it at one input. -/
def unitAgainsWrong : ChangeSpec := { name := "unitAgains", fn := fun _ => fun
  | [d1, d2, d3] => { results := [.lit (.bool false)], args := [d1, d2, d3] }
  | _ => none }
def UnitAgainsWrongFalsely : Prop := unitAgainsRow.holds Tryd.pinned (OpenSpec.ofChange unitAgainsWrong)

/-- 'cressetlaw09.UnitGoesOn': WHATEVER THE INPUT: true; the input reads as it did. -/
def unitGoesOnSpec : ChangeSpec := { name := "unitGoesOn", fn := fun _ => fun
  | [d1, d2, d3, d4] => { results := [.lit (.bool true)], args := [d1, d2, d3, d4] }
  | _ => none }
def unitGoesOnRow : OpenClaim := { program := "ytghkfopcjdkieaadoor", sum := "7314c65726743a73a450d25c4904212be670ed64b3a794991d7f17100dc38a26", func := "cresset/cressetlaw09.UnitGoesOn", spec := "unitGoesOn", unfollowed := true, recurses := true, named := ["cresset/unit.reasons"], apart := false, laid := [("cresset/unit.reasons", laid_cresset_unit_reasons)] }
def UnitGoesOnSaid : Prop := unitGoesOnRow.holds Tryd.pinned (OpenSpec.ofChange unitGoesOnSpec)

/-- ITS FALSE NEIGHBOUR: 'it returns false'. Refute it at one input. -/
def unitGoesOnWrong : ChangeSpec := { name := "unitGoesOn", fn := fun _ => fun
  | [d1, d2, d3, d4] => { results := [.lit (.bool false)], args := [d1, d2, d3, d4] }
  | _ => none }
def UnitGoesOnWrongFalsely : Prop := unitGoesOnRow.holds Tryd.pinned (OpenSpec.ofChange unitGoesOnWrong)

/-- 'cressetlaw09.UnitAssigns': WHATEVER THE INPUT: true; the input reads as it did. -/
def unitAssignsSpec : ChangeSpec := { name := "unitAssigns", fn := fun _ => fun
  | [d] => { results := [.lit (.bool true)], args := [d] }
  | _ => none }
def unitAssignsRow : OpenClaim := { program := "ytghkfopcjdkieaadoor", sum := "7314c65726743a73a450d25c4904212be670ed64b3a794991d7f17100dc38a26", func := "cresset/cressetlaw09.UnitAssigns", spec := "unitAssigns", unfollowed := true, recurses := true, named := ["cresset/unit.reasons"], apart := false, laid := [("cresset/unit.reasons", laid_cresset_unit_reasons)] }
def UnitAssignsSaid : Prop := unitAssignsRow.holds Tryd.pinned (OpenSpec.ofChange unitAssignsSpec)

/-- ITS FALSE NEIGHBOUR: 'it returns false'. Refute it at one input. -/
def unitAssignsWrong : ChangeSpec := { name := "unitAssigns", fn := fun _ => fun
  | [d] => { results := [.lit (.bool false)], args := [d] }
  | _ => none }
def UnitAssignsWrongFalsely : Prop := unitAssignsRow.holds Tryd.pinned (OpenSpec.ofChange unitAssignsWrong)

/-- 'cressetlaw09.UnitBest': WHATEVER THE INPUT: true; the input reads as it did. -/
def unitBestSpec : ChangeSpec := { name := "unitBest", fn := fun _ => fun
  | [d1, d2] => { results := [.lit (.bool true)], args := [d1, d2] }
  | _ => none }
def unitBestRow : OpenClaim := { program := "ytghkfopcjdkieaadoor", sum := "7314c65726743a73a450d25c4904212be670ed64b3a794991d7f17100dc38a26", func := "cresset/cressetlaw09.UnitBest", spec := "unitBest", unfollowed := true, recurses := true, named := ["cresset/unit.reasons"], apart := false, laid := [("cresset/unit.reasons", laid_cresset_unit_reasons)] }
def UnitBestSaid : Prop := unitBestRow.holds Tryd.pinned (OpenSpec.ofChange unitBestSpec)

/-- ITS FALSE NEIGHBOUR: 'it returns false'. Refute it at one input. -/
def unitBestWrong : ChangeSpec := { name := "unitBest", fn := fun _ => fun
  | [d1, d2] => { results := [.lit (.bool false)], args := [d1, d2] }
  | _ => none }
def UnitBestWrongFalsely : Prop := unitBestRow.holds Tryd.pinned (OpenSpec.ofChange unitBestWrong)

/-- 'cressetlaw09.UnitOwns': WHATEVER THE INPUT: true; the input reads as it did. -/
def unitOwnsSpec : ChangeSpec := { name := "unitOwns", fn := fun _ => fun
  | [d1, d2, d3] => { results := [.lit (.bool true)], args := [d1, d2, d3] }
  | _ => none }
def unitOwnsRow : OpenClaim := { program := "ytghkfopcjdkieaadoor", sum := "7314c65726743a73a450d25c4904212be670ed64b3a794991d7f17100dc38a26", func := "cresset/cressetlaw09.UnitOwns", spec := "unitOwns", unfollowed := true, recurses := true, named := ["cresset/unit.reasons"], apart := false, laid := [("cresset/unit.reasons", laid_cresset_unit_reasons)] }
def UnitOwnsSaid : Prop := unitOwnsRow.holds Tryd.pinned (OpenSpec.ofChange unitOwnsSpec)

/-- ITS FALSE NEIGHBOUR: 'it returns false'. Refute it at one input. -/
def unitOwnsWrong : ChangeSpec := { name := "unitOwns", fn := fun _ => fun
  | [d1, d2, d3] => { results := [.lit (.bool false)], args := [d1, d2, d3] }
  | _ => none }
def UnitOwnsWrongFalsely : Prop := unitOwnsRow.holds Tryd.pinned (OpenSpec.ofChange unitOwnsWrong)

/- THE SECOND FORM. 'bulk': how many values and letters a reading holds, each counted each time it is reached (what is shared counts as often as it is met; a slice's spare places count too). A statement '..UptoSaid' is the law's where the arguments, and the package variables that the reading takes, are together of bulk at most 1048576: NARROWER than '..Said'. Prove '..Said' where nothing that the law and all that it calls make is longer than what came in: it says more and counts as full. Else prove '..UptoSaid'. A law counts once. -/
mutual
def uptoBulk {H : Type} : DataW H → Nat
  | .lit (.string bytes) => bytes.length + 1
  | .lit _ => 1
  | .nil => 1
  | .ptr d => uptoBulk d + 1
  | .slice elems spare => uptoBulkAll elems + uptoBulkAll spare + 1
  | .agg parts => uptoBulkAll parts + 1
  | .iface _ d => uptoBulk d + 1
  | .map entries => uptoBulkEntries entries + 1
  | .held _ => 1
def uptoBulkAll {H : Type} : List (DataW H) → Nat
  | [] => 0
  | d :: r => uptoBulk d + uptoBulkAll r
def uptoBulkEntries {H : Type} : List (Lit × DataW H) → Nat
  | [] => 0
  | x :: r => uptoBulkEntry x + uptoBulkEntries r
def uptoBulkEntry {H : Type} : Lit × DataW H → Nat
  | (.string bytes, d) => bytes.length + uptoBulk d + 1
  | (_, d) => uptoBulk d + 1
 end
def uptoSmall : (H : Type) → List (DataW H) → Bool := fun _ ds => decide (uptoBulkAll ds ≤ 1048576)
def OpenSpec.upto (s : _root_.Go.ChangeSpec) : _root_.Go.OpenSpec := { _root_.Go.OpenSpec.ofChange s with cond := some uptoSmall }

/-- 'cressetlaw09.UnitChecks', WHERE WHAT IT READS IS OF BULK AT MOST 1048576: true; the input reads as it did. -/
def unitChecksUptoRow : OpenClaim := { program := "ytghkfopcjdkieaadoor", sum := "7314c65726743a73a450d25c4904212be670ed64b3a794991d7f17100dc38a26", func := "cresset/cressetlaw09.UnitChecks", spec := "unitChecks", unfollowed := true, recurses := true, named := ["cresset/unit.reasons"], apart := false, laid := [("cresset/unit.reasons", laid_cresset_unit_reasons)], narrowed := true }
def UnitChecksUptoSaid : Prop := unitChecksUptoRow.holds Tryd.pinned (OpenSpec.upto unitChecksSpec)

/-- 'cressetlaw09.UnitPlans', WHERE WHAT IT READS IS OF BULK AT MOST 1048576: true; the input reads as it did. -/
def unitPlansUptoRow : OpenClaim := { program := "ytghkfopcjdkieaadoor", sum := "7314c65726743a73a450d25c4904212be670ed64b3a794991d7f17100dc38a26", func := "cresset/cressetlaw09.UnitPlans", spec := "unitPlans", unfollowed := true, recurses := true, named := ["cresset/unit.reasons"], apart := false, laid := [("cresset/unit.reasons", laid_cresset_unit_reasons)], narrowed := true }
def UnitPlansUptoSaid : Prop := unitPlansUptoRow.holds Tryd.pinned (OpenSpec.upto unitPlansSpec)

/-- 'cressetlaw09.UnitWheres', WHERE WHAT IT READS IS OF BULK AT MOST 1048576: true; the input reads as it did. -/
def unitWheresUptoRow : OpenClaim := { program := "ytghkfopcjdkieaadoor", sum := "7314c65726743a73a450d25c4904212be670ed64b3a794991d7f17100dc38a26", func := "cresset/cressetlaw09.UnitWheres", spec := "unitWheres", unfollowed := true, recurses := true, named := ["cresset/unit.reasons"], apart := false, laid := [("cresset/unit.reasons", laid_cresset_unit_reasons)], narrowed := true }
def UnitWheresUptoSaid : Prop := unitWheresUptoRow.holds Tryd.pinned (OpenSpec.upto unitWheresSpec)

/-- 'cressetlaw09.UnitHome', WHERE WHAT IT READS IS OF BULK AT MOST 1048576: true; the input reads as it did. -/
def unitHomeUptoRow : OpenClaim := { program := "ytghkfopcjdkieaadoor", sum := "7314c65726743a73a450d25c4904212be670ed64b3a794991d7f17100dc38a26", func := "cresset/cressetlaw09.UnitHome", spec := "unitHome", unfollowed := true, recurses := true, named := ["cresset/unit.reasons"], apart := false, laid := [("cresset/unit.reasons", laid_cresset_unit_reasons)], narrowed := true }
def UnitHomeUptoSaid : Prop := unitHomeUptoRow.holds Tryd.pinned (OpenSpec.upto unitHomeSpec)

/-- 'cressetlaw09.UnitTriangle', WHERE WHAT IT READS IS OF BULK AT MOST 1048576: true; the input reads as it did. -/
def unitTriangleUptoRow : OpenClaim := { program := "ytghkfopcjdkieaadoor", sum := "7314c65726743a73a450d25c4904212be670ed64b3a794991d7f17100dc38a26", func := "cresset/cressetlaw09.UnitTriangle", spec := "unitTriangle", unfollowed := true, recurses := true, named := ["cresset/unit.reasons"], apart := false, laid := [("cresset/unit.reasons", laid_cresset_unit_reasons)], narrowed := true }
def UnitTriangleUptoSaid : Prop := unitTriangleUptoRow.holds Tryd.pinned (OpenSpec.upto unitTriangleSpec)

/-- 'cressetlaw09.UnitBoxes', WHERE WHAT IT READS IS OF BULK AT MOST 1048576: true; the input reads as it did. -/
def unitBoxesUptoRow : OpenClaim := { program := "ytghkfopcjdkieaadoor", sum := "7314c65726743a73a450d25c4904212be670ed64b3a794991d7f17100dc38a26", func := "cresset/cressetlaw09.UnitBoxes", spec := "unitBoxes", unfollowed := true, recurses := true, named := ["cresset/unit.reasons"], apart := false, laid := [("cresset/unit.reasons", laid_cresset_unit_reasons)], narrowed := true }
def UnitBoxesUptoSaid : Prop := unitBoxesUptoRow.holds Tryd.pinned (OpenSpec.upto unitBoxesSpec)

/-- 'cressetlaw09.UnitApart', WHERE WHAT IT READS IS OF BULK AT MOST 1048576: true; the input reads as it did. -/
def unitApartUptoRow : OpenClaim := { program := "ytghkfopcjdkieaadoor", sum := "7314c65726743a73a450d25c4904212be670ed64b3a794991d7f17100dc38a26", func := "cresset/cressetlaw09.UnitApart", spec := "unitApart", unfollowed := true, recurses := true, named := ["cresset/unit.reasons"], apart := false, laid := [("cresset/unit.reasons", laid_cresset_unit_reasons)], narrowed := true }
def UnitApartUptoSaid : Prop := unitApartUptoRow.holds Tryd.pinned (OpenSpec.upto unitApartSpec)

/-- 'cressetlaw09.UnitAgains', WHERE WHAT IT READS IS OF BULK AT MOST 1048576: true; the input reads as it did. -/
def unitAgainsUptoRow : OpenClaim := { program := "ytghkfopcjdkieaadoor", sum := "7314c65726743a73a450d25c4904212be670ed64b3a794991d7f17100dc38a26", func := "cresset/cressetlaw09.UnitAgains", spec := "unitAgains", unfollowed := true, recurses := true, named := ["cresset/unit.reasons"], apart := false, laid := [("cresset/unit.reasons", laid_cresset_unit_reasons)], narrowed := true }
def UnitAgainsUptoSaid : Prop := unitAgainsUptoRow.holds Tryd.pinned (OpenSpec.upto unitAgainsSpec)

/-- 'cressetlaw09.UnitGoesOn', WHERE WHAT IT READS IS OF BULK AT MOST 1048576: true; the input reads as it did. -/
def unitGoesOnUptoRow : OpenClaim := { program := "ytghkfopcjdkieaadoor", sum := "7314c65726743a73a450d25c4904212be670ed64b3a794991d7f17100dc38a26", func := "cresset/cressetlaw09.UnitGoesOn", spec := "unitGoesOn", unfollowed := true, recurses := true, named := ["cresset/unit.reasons"], apart := false, laid := [("cresset/unit.reasons", laid_cresset_unit_reasons)], narrowed := true }
def UnitGoesOnUptoSaid : Prop := unitGoesOnUptoRow.holds Tryd.pinned (OpenSpec.upto unitGoesOnSpec)

/-- 'cressetlaw09.UnitAssigns', WHERE WHAT IT READS IS OF BULK AT MOST 1048576: true; the input reads as it did. -/
def unitAssignsUptoRow : OpenClaim := { program := "ytghkfopcjdkieaadoor", sum := "7314c65726743a73a450d25c4904212be670ed64b3a794991d7f17100dc38a26", func := "cresset/cressetlaw09.UnitAssigns", spec := "unitAssigns", unfollowed := true, recurses := true, named := ["cresset/unit.reasons"], apart := false, laid := [("cresset/unit.reasons", laid_cresset_unit_reasons)], narrowed := true }
def UnitAssignsUptoSaid : Prop := unitAssignsUptoRow.holds Tryd.pinned (OpenSpec.upto unitAssignsSpec)

/-- 'cressetlaw09.UnitBest', WHERE WHAT IT READS IS OF BULK AT MOST 1048576: true; the input reads as it did. -/
def unitBestUptoRow : OpenClaim := { program := "ytghkfopcjdkieaadoor", sum := "7314c65726743a73a450d25c4904212be670ed64b3a794991d7f17100dc38a26", func := "cresset/cressetlaw09.UnitBest", spec := "unitBest", unfollowed := true, recurses := true, named := ["cresset/unit.reasons"], apart := false, laid := [("cresset/unit.reasons", laid_cresset_unit_reasons)], narrowed := true }
def UnitBestUptoSaid : Prop := unitBestUptoRow.holds Tryd.pinned (OpenSpec.upto unitBestSpec)

/-- 'cressetlaw09.UnitOwns', WHERE WHAT IT READS IS OF BULK AT MOST 1048576: true; the input reads as it did. -/
def unitOwnsUptoRow : OpenClaim := { program := "ytghkfopcjdkieaadoor", sum := "7314c65726743a73a450d25c4904212be670ed64b3a794991d7f17100dc38a26", func := "cresset/cressetlaw09.UnitOwns", spec := "unitOwns", unfollowed := true, recurses := true, named := ["cresset/unit.reasons"], apart := false, laid := [("cresset/unit.reasons", laid_cresset_unit_reasons)], narrowed := true }
def UnitOwnsUptoSaid : Prop := unitOwnsUptoRow.holds Tryd.pinned (OpenSpec.upto unitOwnsSpec)

end Rows
end Go.Proofs.YtghkfopcjdkieaaDoor
