/-
  NARROWER THAN 'FOR EVERY INPUT', by the rows' own cells (each row's printed sentence says how): CareLifts: laid · CareTows: laid · CareHulls: laid · CareDrains: laid · CareFloats: laid · CareTides: laid · CareOrders: laid · CareMore: laid · CareOwns: laid · CareSteps: laid.
  DERIVED. THE GIVEN ROWS OF THIS SEAT. 10 by the template 'for every input the law returns true; each argument reads behind the call as it read before'; 0 by the template 'total and deterministic' (their statements: YtfmigicmfolbjaaDoorTotals.lean).
  GIVEN WITH THE SEED: the statements are not yours to turn. If you find one false, say at which input.
  Laid BY PROGRAM, IN A SANDBOX (cutbox-rows.mjs): the forced cells as the released guide's own fill.sh prints them over the translation 51f32535f77944a2… (all of the seat's roots in one cut). By AI agents, Wed Nov 11 2026. No macro, syntax, notation, axiom, sorry.
-/
import Derived.Test.YtfmigicmfolbjaaDoorChecked
import GoSem.Claim
import GoSem.ClaimJoined
import GoSem.ClaimMapViews
import Derived.JoinedTies
import Derived.KernelRfl
namespace Go.Proofs.YtfmigicmfolbjaaDoor
/- THE CELL 'sum', in the pinned program and in every row, IS THE sha256 OF THE DUMP (.gsa) THAT YtfmigicmfolbjaaDoorProg.lean LOADS. Nothing in Lean hashes anything: it is a label: what it is worth is what the hold of that sum in a sandbox is worth. -/
noncomputable def Tryd.pinned : Pinned := { name := "ytfmigicmfolbjaadoor", sum := "51f32535f77944a2722c375f95b8e93ca41c3e4618b448e9584892d2e1e458de", checked := Tryd.checked }
namespace Rows
def none {H : Type} : Left H := { results := [], args := [] }

/- WHAT THE LISTED PACKAGE-LEVEL VARIABLES READ AS WHEN THE CALL BEGINS. Each datum BY PROGRAM (the guide's laid-datum.mjs) off the statement by which the dump's own 'gosem.cut.vars' lays the variable. In a bare row this is a premise. The card (YtfmigicmfolbjaaDoorCards.lean) ties it to the program's text. -/
def laid_math_bits_deBruijn32tab {H : Type} : DataW H := .agg [.lit (.int .u8 0), .lit (.int .u8 1), .lit (.int .u8 28), .lit (.int .u8 2), .lit (.int .u8 29), .lit (.int .u8 14), .lit (.int .u8 24), .lit (.int .u8 3), .lit (.int .u8 30), .lit (.int .u8 22), .lit (.int .u8 20), .lit (.int .u8 15), .lit (.int .u8 25), .lit (.int .u8 17), .lit (.int .u8 4), .lit (.int .u8 8), .lit (.int .u8 31), .lit (.int .u8 27), .lit (.int .u8 13), .lit (.int .u8 23), .lit (.int .u8 21), .lit (.int .u8 19), .lit (.int .u8 16), .lit (.int .u8 7), .lit (.int .u8 26), .lit (.int .u8 12), .lit (.int .u8 18), .lit (.int .u8 6), .lit (.int .u8 11), .lit (.int .u8 5), .lit (.int .u8 10), .lit (.int .u8 9)]
def laid_math_bits_deBruijn64tab {H : Type} : DataW H := .agg [.lit (.int .u8 0), .lit (.int .u8 1), .lit (.int .u8 56), .lit (.int .u8 2), .lit (.int .u8 57), .lit (.int .u8 49), .lit (.int .u8 28), .lit (.int .u8 3), .lit (.int .u8 61), .lit (.int .u8 58), .lit (.int .u8 42), .lit (.int .u8 50), .lit (.int .u8 38), .lit (.int .u8 29), .lit (.int .u8 17), .lit (.int .u8 4), .lit (.int .u8 62), .lit (.int .u8 47), .lit (.int .u8 59), .lit (.int .u8 36), .lit (.int .u8 45), .lit (.int .u8 43), .lit (.int .u8 51), .lit (.int .u8 22), .lit (.int .u8 53), .lit (.int .u8 39), .lit (.int .u8 33), .lit (.int .u8 30), .lit (.int .u8 24), .lit (.int .u8 18), .lit (.int .u8 12), .lit (.int .u8 5), .lit (.int .u8 63), .lit (.int .u8 55), .lit (.int .u8 48), .lit (.int .u8 27), .lit (.int .u8 60), .lit (.int .u8 41), .lit (.int .u8 37), .lit (.int .u8 16), .lit (.int .u8 46), .lit (.int .u8 35), .lit (.int .u8 44), .lit (.int .u8 21), .lit (.int .u8 52), .lit (.int .u8 32), .lit (.int .u8 23), .lit (.int .u8 11), .lit (.int .u8 54), .lit (.int .u8 26), .lit (.int .u8 40), .lit (.int .u8 15), .lit (.int .u8 34), .lit (.int .u8 20), .lit (.int .u8 31), .lit (.int .u8 10), .lit (.int .u8 25), .lit (.int .u8 14), .lit (.int .u8 19), .lit (.int .u8 9), .lit (.int .u8 13), .lit (.int .u8 8), .lit (.int .u8 7), .lit (.int .u8 6)]

/-- 'cressetlaw11.CareLifts': WHATEVER THE INPUT: true; the input reads as it did. -/
def careLiftsSpec : ChangeSpec := { name := "careLifts", fn := fun _ => fun
  | [d1, d2] => { results := [.lit (.bool true)], args := [d1, d2] }
  | _ => none }
def careLiftsRow : OpenClaim := { program := "ytfmigicmfolbjaadoor", sum := "51f32535f77944a2722c375f95b8e93ca41c3e4618b448e9584892d2e1e458de", func := "cresset/cressetlaw11.CareLifts", spec := "careLifts", unfollowed := true, recurses := true, named := ["math/bits.deBruijn32tab", "math/bits.deBruijn64tab"], apart := false, laid := [("math/bits.deBruijn32tab", laid_math_bits_deBruijn32tab), ("math/bits.deBruijn64tab", laid_math_bits_deBruijn64tab)] }
def CareLiftsSaid : Prop := careLiftsRow.holds Tryd.pinned (OpenSpec.ofChange careLiftsSpec)

/-- ITS FALSE NEIGHBOUR: 'it returns false'. Refute it at one input. -/
def careLiftsWrong : ChangeSpec := { name := "careLifts", fn := fun _ => fun
  | [d1, d2] => { results := [.lit (.bool false)], args := [d1, d2] }
  | _ => none }
def CareLiftsWrongFalsely : Prop := careLiftsRow.holds Tryd.pinned (OpenSpec.ofChange careLiftsWrong)

/-- 'cressetlaw11.CareTows': WHATEVER THE INPUT: true; the input reads as it did. -/
def careTowsSpec : ChangeSpec := { name := "careTows", fn := fun _ => fun
  | [d1, d2, d3] => { results := [.lit (.bool true)], args := [d1, d2, d3] }
  | _ => none }
def careTowsRow : OpenClaim := { program := "ytfmigicmfolbjaadoor", sum := "51f32535f77944a2722c375f95b8e93ca41c3e4618b448e9584892d2e1e458de", func := "cresset/cressetlaw11.CareTows", spec := "careTows", unfollowed := true, recurses := true, named := ["math/bits.deBruijn32tab", "math/bits.deBruijn64tab"], apart := false, laid := [("math/bits.deBruijn32tab", laid_math_bits_deBruijn32tab), ("math/bits.deBruijn64tab", laid_math_bits_deBruijn64tab)] }
def CareTowsSaid : Prop := careTowsRow.holds Tryd.pinned (OpenSpec.ofChange careTowsSpec)

/-- ITS FALSE NEIGHBOUR: 'it returns false'. Refute it at one input. -/
def careTowsWrong : ChangeSpec := { name := "careTows", fn := fun _ => fun
  | [d1, d2, d3] => { results := [.lit (.bool false)], args := [d1, d2, d3] }
  | _ => none }
def CareTowsWrongFalsely : Prop := careTowsRow.holds Tryd.pinned (OpenSpec.ofChange careTowsWrong)

/-- 'cressetlaw11.CareHulls': WHATEVER THE INPUT: true; the input reads as it did. -/
def careHullsSpec : ChangeSpec := { name := "careHulls", fn := fun _ => fun
  | [d1, d2, d3] => { results := [.lit (.bool true)], args := [d1, d2, d3] }
  | _ => none }
def careHullsRow : OpenClaim := { program := "ytfmigicmfolbjaadoor", sum := "51f32535f77944a2722c375f95b8e93ca41c3e4618b448e9584892d2e1e458de", func := "cresset/cressetlaw11.CareHulls", spec := "careHulls", unfollowed := true, recurses := true, named := ["math/bits.deBruijn32tab", "math/bits.deBruijn64tab"], apart := false, laid := [("math/bits.deBruijn32tab", laid_math_bits_deBruijn32tab), ("math/bits.deBruijn64tab", laid_math_bits_deBruijn64tab)] }
def CareHullsSaid : Prop := careHullsRow.holds Tryd.pinned (OpenSpec.ofChange careHullsSpec)

/-- ITS FALSE NEIGHBOUR: 'it returns false'. Refute it at one input. -/
def careHullsWrong : ChangeSpec := { name := "careHulls", fn := fun _ => fun
  | [d1, d2, d3] => { results := [.lit (.bool false)], args := [d1, d2, d3] }
  | _ => none }
def CareHullsWrongFalsely : Prop := careHullsRow.holds Tryd.pinned (OpenSpec.ofChange careHullsWrong)

/-- 'cressetlaw11.CareDrains': WHATEVER THE INPUT: true; the input reads as it did. -/
def careDrainsSpec : ChangeSpec := { name := "careDrains", fn := fun _ => fun
  | [d1, d2, d3, d4] => { results := [.lit (.bool true)], args := [d1, d2, d3, d4] }
  | _ => none }
def careDrainsRow : OpenClaim := { program := "ytfmigicmfolbjaadoor", sum := "51f32535f77944a2722c375f95b8e93ca41c3e4618b448e9584892d2e1e458de", func := "cresset/cressetlaw11.CareDrains", spec := "careDrains", unfollowed := true, recurses := true, named := ["math/bits.deBruijn32tab", "math/bits.deBruijn64tab"], apart := false, laid := [("math/bits.deBruijn32tab", laid_math_bits_deBruijn32tab), ("math/bits.deBruijn64tab", laid_math_bits_deBruijn64tab)] }
def CareDrainsSaid : Prop := careDrainsRow.holds Tryd.pinned (OpenSpec.ofChange careDrainsSpec)

/-- ITS FALSE NEIGHBOUR: 'it returns false'. Refute it at one input. -/
def careDrainsWrong : ChangeSpec := { name := "careDrains", fn := fun _ => fun
  | [d1, d2, d3, d4] => { results := [.lit (.bool false)], args := [d1, d2, d3, d4] }
  | _ => none }
def CareDrainsWrongFalsely : Prop := careDrainsRow.holds Tryd.pinned (OpenSpec.ofChange careDrainsWrong)

/-- 'cressetlaw11.CareFloats': WHATEVER THE INPUT: true; the input reads as it did. -/
def careFloatsSpec : ChangeSpec := { name := "careFloats", fn := fun _ => fun
  | [d1, d2, d3] => { results := [.lit (.bool true)], args := [d1, d2, d3] }
  | _ => none }
def careFloatsRow : OpenClaim := { program := "ytfmigicmfolbjaadoor", sum := "51f32535f77944a2722c375f95b8e93ca41c3e4618b448e9584892d2e1e458de", func := "cresset/cressetlaw11.CareFloats", spec := "careFloats", unfollowed := true, recurses := true, named := ["math/bits.deBruijn32tab", "math/bits.deBruijn64tab"], apart := false, laid := [("math/bits.deBruijn32tab", laid_math_bits_deBruijn32tab), ("math/bits.deBruijn64tab", laid_math_bits_deBruijn64tab)] }
def CareFloatsSaid : Prop := careFloatsRow.holds Tryd.pinned (OpenSpec.ofChange careFloatsSpec)

/-- ITS FALSE NEIGHBOUR: 'it returns false'. Refute it at one input. -/
def careFloatsWrong : ChangeSpec := { name := "careFloats", fn := fun _ => fun
  | [d1, d2, d3] => { results := [.lit (.bool false)], args := [d1, d2, d3] }
  | _ => none }
def CareFloatsWrongFalsely : Prop := careFloatsRow.holds Tryd.pinned (OpenSpec.ofChange careFloatsWrong)

/-- 'cressetlaw11.CareTides': WHATEVER THE INPUT: true; the input reads as it did. -/
def careTidesSpec : ChangeSpec := { name := "careTides", fn := fun _ => fun
  | [d1, d2, d3, d4, d5] => { results := [.lit (.bool true)], args := [d1, d2, d3, d4, d5] }
  | _ => none }
def careTidesRow : OpenClaim := { program := "ytfmigicmfolbjaadoor", sum := "51f32535f77944a2722c375f95b8e93ca41c3e4618b448e9584892d2e1e458de", func := "cresset/cressetlaw11.CareTides", spec := "careTides", unfollowed := true, recurses := true, named := ["math/bits.deBruijn32tab", "math/bits.deBruijn64tab"], apart := false, laid := [("math/bits.deBruijn32tab", laid_math_bits_deBruijn32tab), ("math/bits.deBruijn64tab", laid_math_bits_deBruijn64tab)] }
def CareTidesSaid : Prop := careTidesRow.holds Tryd.pinned (OpenSpec.ofChange careTidesSpec)

/-- ITS FALSE NEIGHBOUR: 'it returns false'. Refute it at one input. -/
def careTidesWrong : ChangeSpec := { name := "careTides", fn := fun _ => fun
  | [d1, d2, d3, d4, d5] => { results := [.lit (.bool false)], args := [d1, d2, d3, d4, d5] }
  | _ => none }
def CareTidesWrongFalsely : Prop := careTidesRow.holds Tryd.pinned (OpenSpec.ofChange careTidesWrong)

/-- 'cressetlaw11.CareOrders': WHATEVER THE INPUT: true; the input reads as it did. -/
def careOrdersSpec : ChangeSpec := { name := "careOrders", fn := fun _ => fun
  | [d1, d2] => { results := [.lit (.bool true)], args := [d1, d2] }
  | _ => none }
def careOrdersRow : OpenClaim := { program := "ytfmigicmfolbjaadoor", sum := "51f32535f77944a2722c375f95b8e93ca41c3e4618b448e9584892d2e1e458de", func := "cresset/cressetlaw11.CareOrders", spec := "careOrders", unfollowed := true, recurses := true, named := ["math/bits.deBruijn32tab", "math/bits.deBruijn64tab"], apart := false, laid := [("math/bits.deBruijn32tab", laid_math_bits_deBruijn32tab), ("math/bits.deBruijn64tab", laid_math_bits_deBruijn64tab)] }
def CareOrdersSaid : Prop := careOrdersRow.holds Tryd.pinned (OpenSpec.ofChange careOrdersSpec)

/-- ITS FALSE NEIGHBOUR: 'it returns false'. Refute it at one input. -/
def careOrdersWrong : ChangeSpec := { name := "careOrders", fn := fun _ => fun
  | [d1, d2] => { results := [.lit (.bool false)], args := [d1, d2] }
  | _ => none }
def CareOrdersWrongFalsely : Prop := careOrdersRow.holds Tryd.pinned (OpenSpec.ofChange careOrdersWrong)

/-- 'cressetlaw11.CareMore': WHATEVER THE INPUT: true; the input reads as it did. -/
def careMoreSpec : ChangeSpec := { name := "careMore", fn := fun _ => fun
  | [d1, d2] => { results := [.lit (.bool true)], args := [d1, d2] }
  | _ => none }
def careMoreRow : OpenClaim := { program := "ytfmigicmfolbjaadoor", sum := "51f32535f77944a2722c375f95b8e93ca41c3e4618b448e9584892d2e1e458de", func := "cresset/cressetlaw11.CareMore", spec := "careMore", unfollowed := true, recurses := true, named := ["math/bits.deBruijn32tab", "math/bits.deBruijn64tab"], apart := false, laid := [("math/bits.deBruijn32tab", laid_math_bits_deBruijn32tab), ("math/bits.deBruijn64tab", laid_math_bits_deBruijn64tab)] }
def CareMoreSaid : Prop := careMoreRow.holds Tryd.pinned (OpenSpec.ofChange careMoreSpec)

/-- ITS FALSE NEIGHBOUR: 'it returns false'. Refute it at one input. -/
def careMoreWrong : ChangeSpec := { name := "careMore", fn := fun _ => fun
  | [d1, d2] => { results := [.lit (.bool false)], args := [d1, d2] }
  | _ => none }
def CareMoreWrongFalsely : Prop := careMoreRow.holds Tryd.pinned (OpenSpec.ofChange careMoreWrong)

/-- 'cressetlaw11.CareOwns': WHATEVER THE INPUT: true; the input reads as it did. -/
def careOwnsSpec : ChangeSpec := { name := "careOwns", fn := fun _ => fun
  | [d1, d2, d3, d4] => { results := [.lit (.bool true)], args := [d1, d2, d3, d4] }
  | _ => none }
def careOwnsRow : OpenClaim := { program := "ytfmigicmfolbjaadoor", sum := "51f32535f77944a2722c375f95b8e93ca41c3e4618b448e9584892d2e1e458de", func := "cresset/cressetlaw11.CareOwns", spec := "careOwns", unfollowed := true, recurses := true, named := ["math/bits.deBruijn32tab", "math/bits.deBruijn64tab"], apart := false, laid := [("math/bits.deBruijn32tab", laid_math_bits_deBruijn32tab), ("math/bits.deBruijn64tab", laid_math_bits_deBruijn64tab)] }
def CareOwnsSaid : Prop := careOwnsRow.holds Tryd.pinned (OpenSpec.ofChange careOwnsSpec)

/-- ITS FALSE NEIGHBOUR: 'it returns false'. Refute it at one input. -/
def careOwnsWrong : ChangeSpec := { name := "careOwns", fn := fun _ => fun
  | [d1, d2, d3, d4] => { results := [.lit (.bool false)], args := [d1, d2, d3, d4] }
  | _ => none }
def CareOwnsWrongFalsely : Prop := careOwnsRow.holds Tryd.pinned (OpenSpec.ofChange careOwnsWrong)

/-- 'cressetlaw11.CareSteps': WHATEVER THE INPUT: true; the input reads as it did. -/
def careStepsSpec : ChangeSpec := { name := "careSteps", fn := fun _ => fun
  | [d] => { results := [.lit (.bool true)], args := [d] }
  | _ => none }
def careStepsRow : OpenClaim := { program := "ytfmigicmfolbjaadoor", sum := "51f32535f77944a2722c375f95b8e93ca41c3e4618b448e9584892d2e1e458de", func := "cresset/cressetlaw11.CareSteps", spec := "careSteps", unfollowed := true, recurses := true, named := ["math/bits.deBruijn32tab", "math/bits.deBruijn64tab"], apart := false, laid := [("math/bits.deBruijn32tab", laid_math_bits_deBruijn32tab), ("math/bits.deBruijn64tab", laid_math_bits_deBruijn64tab)] }
def CareStepsSaid : Prop := careStepsRow.holds Tryd.pinned (OpenSpec.ofChange careStepsSpec)

/-- ITS FALSE NEIGHBOUR: 'it returns false'. Refute it at one input. -/
def careStepsWrong : ChangeSpec := { name := "careSteps", fn := fun _ => fun
  | [d] => { results := [.lit (.bool false)], args := [d] }
  | _ => none }
def CareStepsWrongFalsely : Prop := careStepsRow.holds Tryd.pinned (OpenSpec.ofChange careStepsWrong)

/- THE SECOND FORM. 'bulk': how many values and letters a reading holds, each counted each time it is reached (what is shared counts as often as it is met; a slice's spare places count too). A statement '..UptoSaid' is the law's where the arguments, and the package variables that the reading takes, are together of bulk at most 1048576: NARROWER than '..Said'. Prove '..Said' where nothing that the law and all that it calls make is longer than what came in: it says more and counts as full. Else prove '..UptoSaid'. A law counts once. -/
mutual
def uptoBulk {H : Type} : DataW H → Nat
  | .lit (.string bytes) => bytes.length + 1
  | .lit _ => 1
  | .nil => 1
  | .ptr d => uptoBulk d + 1
  | .slice elems spare => uptoBulkAll elems + uptoBulkAll spare + 1
  | .agg parts => uptoBulkAll parts + 1
  | .iface _ d => uptoBulk d + 1
  | .map entries => uptoBulkEntries entries + 1
  | .held _ => 1
def uptoBulkAll {H : Type} : List (DataW H) → Nat
  | [] => 0
  | d :: r => uptoBulk d + uptoBulkAll r
def uptoBulkEntries {H : Type} : List (Lit × DataW H) → Nat
  | [] => 0
  | x :: r => uptoBulkEntry x + uptoBulkEntries r
def uptoBulkEntry {H : Type} : Lit × DataW H → Nat
  | (.string bytes, d) => bytes.length + uptoBulk d + 1
  | (_, d) => uptoBulk d + 1
 end
def uptoSmall : (H : Type) → List (DataW H) → Bool := fun _ ds => decide (uptoBulkAll ds ≤ 1048576)
def OpenSpec.upto (s : _root_.Go.ChangeSpec) : _root_.Go.OpenSpec := { _root_.Go.OpenSpec.ofChange s with cond := some uptoSmall }

/-- 'cressetlaw11.CareLifts', WHERE WHAT IT READS IS OF BULK AT MOST 1048576: true; the input reads as it did. -/
def careLiftsUptoRow : OpenClaim := { program := "ytfmigicmfolbjaadoor", sum := "51f32535f77944a2722c375f95b8e93ca41c3e4618b448e9584892d2e1e458de", func := "cresset/cressetlaw11.CareLifts", spec := "careLifts", unfollowed := true, recurses := true, named := ["math/bits.deBruijn32tab", "math/bits.deBruijn64tab"], apart := false, laid := [("math/bits.deBruijn32tab", laid_math_bits_deBruijn32tab), ("math/bits.deBruijn64tab", laid_math_bits_deBruijn64tab)], narrowed := true }
def CareLiftsUptoSaid : Prop := careLiftsUptoRow.holds Tryd.pinned (OpenSpec.upto careLiftsSpec)

/-- 'cressetlaw11.CareTows', WHERE WHAT IT READS IS OF BULK AT MOST 1048576: true; the input reads as it did. -/
def careTowsUptoRow : OpenClaim := { program := "ytfmigicmfolbjaadoor", sum := "51f32535f77944a2722c375f95b8e93ca41c3e4618b448e9584892d2e1e458de", func := "cresset/cressetlaw11.CareTows", spec := "careTows", unfollowed := true, recurses := true, named := ["math/bits.deBruijn32tab", "math/bits.deBruijn64tab"], apart := false, laid := [("math/bits.deBruijn32tab", laid_math_bits_deBruijn32tab), ("math/bits.deBruijn64tab", laid_math_bits_deBruijn64tab)], narrowed := true }
def CareTowsUptoSaid : Prop := careTowsUptoRow.holds Tryd.pinned (OpenSpec.upto careTowsSpec)

/-- 'cressetlaw11.CareHulls', WHERE WHAT IT READS IS OF BULK AT MOST 1048576: true; the input reads as it did. -/
def careHullsUptoRow : OpenClaim := { program := "ytfmigicmfolbjaadoor", sum := "51f32535f77944a2722c375f95b8e93ca41c3e4618b448e9584892d2e1e458de", func := "cresset/cressetlaw11.CareHulls", spec := "careHulls", unfollowed := true, recurses := true, named := ["math/bits.deBruijn32tab", "math/bits.deBruijn64tab"], apart := false, laid := [("math/bits.deBruijn32tab", laid_math_bits_deBruijn32tab), ("math/bits.deBruijn64tab", laid_math_bits_deBruijn64tab)], narrowed := true }
def CareHullsUptoSaid : Prop := careHullsUptoRow.holds Tryd.pinned (OpenSpec.upto careHullsSpec)

/-- 'cressetlaw11.CareDrains', WHERE WHAT IT READS IS OF BULK AT MOST 1048576: true; the input reads as it did. -/
def careDrainsUptoRow : OpenClaim := { program := "ytfmigicmfolbjaadoor", sum := "51f32535f77944a2722c375f95b8e93ca41c3e4618b448e9584892d2e1e458de", func := "cresset/cressetlaw11.CareDrains", spec := "careDrains", unfollowed := true, recurses := true, named := ["math/bits.deBruijn32tab", "math/bits.deBruijn64tab"], apart := false, laid := [("math/bits.deBruijn32tab", laid_math_bits_deBruijn32tab), ("math/bits.deBruijn64tab", laid_math_bits_deBruijn64tab)], narrowed := true }
def CareDrainsUptoSaid : Prop := careDrainsUptoRow.holds Tryd.pinned (OpenSpec.upto careDrainsSpec)

/-- 'cressetlaw11.CareFloats', WHERE WHAT IT READS IS OF BULK AT MOST 1048576: true; the input reads as it did. -/
def careFloatsUptoRow : OpenClaim := { program := "ytfmigicmfolbjaadoor", sum := "51f32535f77944a2722c375f95b8e93ca41c3e4618b448e9584892d2e1e458de", func := "cresset/cressetlaw11.CareFloats", spec := "careFloats", unfollowed := true, recurses := true, named := ["math/bits.deBruijn32tab", "math/bits.deBruijn64tab"], apart := false, laid := [("math/bits.deBruijn32tab", laid_math_bits_deBruijn32tab), ("math/bits.deBruijn64tab", laid_math_bits_deBruijn64tab)], narrowed := true }
def CareFloatsUptoSaid : Prop := careFloatsUptoRow.holds Tryd.pinned (OpenSpec.upto careFloatsSpec)

/-- 'cressetlaw11.CareTides', WHERE WHAT IT READS IS OF BULK AT MOST 1048576: true; the input reads as it did. -/
def careTidesUptoRow : OpenClaim := { program := "ytfmigicmfolbjaadoor", sum := "51f32535f77944a2722c375f95b8e93ca41c3e4618b448e9584892d2e1e458de", func := "cresset/cressetlaw11.CareTides", spec := "careTides", unfollowed := true, recurses := true, named := ["math/bits.deBruijn32tab", "math/bits.deBruijn64tab"], apart := false, laid := [("math/bits.deBruijn32tab", laid_math_bits_deBruijn32tab), ("math/bits.deBruijn64tab", laid_math_bits_deBruijn64tab)], narrowed := true }
def CareTidesUptoSaid : Prop := careTidesUptoRow.holds Tryd.pinned (OpenSpec.upto careTidesSpec)

/-- 'cressetlaw11.CareOrders', WHERE WHAT IT READS IS OF BULK AT MOST 1048576: true; the input reads as it did. -/
def careOrdersUptoRow : OpenClaim := { program := "ytfmigicmfolbjaadoor", sum := "51f32535f77944a2722c375f95b8e93ca41c3e4618b448e9584892d2e1e458de", func := "cresset/cressetlaw11.CareOrders", spec := "careOrders", unfollowed := true, recurses := true, named := ["math/bits.deBruijn32tab", "math/bits.deBruijn64tab"], apart := false, laid := [("math/bits.deBruijn32tab", laid_math_bits_deBruijn32tab), ("math/bits.deBruijn64tab", laid_math_bits_deBruijn64tab)], narrowed := true }
def CareOrdersUptoSaid : Prop := careOrdersUptoRow.holds Tryd.pinned (OpenSpec.upto careOrdersSpec)

/-- 'cressetlaw11.CareMore', WHERE WHAT IT READS IS OF BULK AT MOST 1048576: true; the input reads as it did. -/
def careMoreUptoRow : OpenClaim := { program := "ytfmigicmfolbjaadoor", sum := "51f32535f77944a2722c375f95b8e93ca41c3e4618b448e9584892d2e1e458de", func := "cresset/cressetlaw11.CareMore", spec := "careMore", unfollowed := true, recurses := true, named := ["math/bits.deBruijn32tab", "math/bits.deBruijn64tab"], apart := false, laid := [("math/bits.deBruijn32tab", laid_math_bits_deBruijn32tab), ("math/bits.deBruijn64tab", laid_math_bits_deBruijn64tab)], narrowed := true }
def CareMoreUptoSaid : Prop := careMoreUptoRow.holds Tryd.pinned (OpenSpec.upto careMoreSpec)

/-- 'cressetlaw11.CareOwns', WHERE WHAT IT READS IS OF BULK AT MOST 1048576: true; the input reads as it did. -/
def careOwnsUptoRow : OpenClaim := { program := "ytfmigicmfolbjaadoor", sum := "51f32535f77944a2722c375f95b8e93ca41c3e4618b448e9584892d2e1e458de", func := "cresset/cressetlaw11.CareOwns", spec := "careOwns", unfollowed := true, recurses := true, named := ["math/bits.deBruijn32tab", "math/bits.deBruijn64tab"], apart := false, laid := [("math/bits.deBruijn32tab", laid_math_bits_deBruijn32tab), ("math/bits.deBruijn64tab", laid_math_bits_deBruijn64tab)], narrowed := true }
def CareOwnsUptoSaid : Prop := careOwnsUptoRow.holds Tryd.pinned (OpenSpec.upto careOwnsSpec)

/-- 'cressetlaw11.CareSteps', WHERE WHAT IT READS IS OF BULK AT MOST 1048576: true; the input reads as it did. -/
def careStepsUptoRow : OpenClaim := { program := "ytfmigicmfolbjaadoor", sum := "51f32535f77944a2722c375f95b8e93ca41c3e4618b448e9584892d2e1e458de", func := "cresset/cressetlaw11.CareSteps", spec := "careSteps", unfollowed := true, recurses := true, named := ["math/bits.deBruijn32tab", "math/bits.deBruijn64tab"], apart := false, laid := [("math/bits.deBruijn32tab", laid_math_bits_deBruijn32tab), ("math/bits.deBruijn64tab", laid_math_bits_deBruijn64tab)], narrowed := true }
def CareStepsUptoSaid : Prop := careStepsUptoRow.holds Tryd.pinned (OpenSpec.upto careStepsSpec)

end Rows
end Go.Proofs.YtfmigicmfolbjaaDoor
