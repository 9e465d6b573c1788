/-
  No cell of these rows narrows 'for every input' (looked for: loops, veiled, ifaces, maps, wideKeys, modest, calm, conditions, laid).
  DERIVED. THE GIVEN ROWS OF THIS SEAT. 6 by the template 'for every input the law returns true; each argument reads behind the call as it read before'; 0 by the template 'total and deterministic' (their statements: YthgmdilfmeefiaaTotals.lean).
  GIVEN WITH THE SEED: the statements are not yours to turn. If you find one false, say at which input.
  Laid BY PROGRAM, IN A SANDBOX (cutbox-rows.mjs): the forced cells as the released guide's own fill.sh prints them over the translation 3c4c8e23c923340a… (all of the seat's roots in one cut). By AI agents, Wed Nov 11 2026. No macro, syntax, notation, axiom, sorry.
-/
import Derived.Test.YthgmdilfmeefiaaChecked
import GoSem.Claim
import GoSem.ClaimJoined
import GoSem.ClaimMapViews
import Derived.JoinedTies
import Derived.KernelRfl
namespace Go.Proofs.Ythgmdilfmeefiaa
/- THE CELL 'sum', in the pinned program and in every row, IS THE sha256 OF THE DUMP (.gsa) THAT YthgmdilfmeefiaaProg.lean LOADS. Nothing in Lean hashes anything: it is a label: what it is worth is what the hold of that sum in a sandbox is worth. -/
noncomputable def Try.pinned : Pinned := { name := "ythgmdilfmeefiaa", sum := "3c4c8e23c923340a40e2bafbb155f914da82724a790b96a49201226a30461865", checked := Try.checked }
namespace Rows
def none {H : Type} : Left H := { results := [], args := [] }

/-- 'cressetlaw05.IncidentCompares': WHATEVER THE INPUT: true; the input reads as it did. -/
def incidentComparesSpec : ChangeSpec := { name := "incidentCompares", fn := fun _ => fun
  | [d1, d2, d3, d4] => { results := [.lit (.bool true)], args := [d1, d2, d3, d4] }
  | _ => none }
def incidentComparesRow : OpenClaim := { program := "ythgmdilfmeefiaa", sum := "3c4c8e23c923340a40e2bafbb155f914da82724a790b96a49201226a30461865", func := "cresset/cressetlaw05.IncidentCompares", spec := "incidentCompares", unfollowed := true, recurses := true, apart := false }
def IncidentComparesSaid : Prop := incidentComparesRow.holds Try.pinned (OpenSpec.ofChange incidentComparesSpec)

/-- ITS FALSE NEIGHBOUR: 'it returns false'. Refute it at one input. -/
def incidentComparesWrong : ChangeSpec := { name := "incidentCompares", fn := fun _ => fun
  | [d1, d2, d3, d4] => { results := [.lit (.bool false)], args := [d1, d2, d3, d4] }
  | _ => none }
def IncidentComparesWrongFalsely : Prop := incidentComparesRow.holds Try.pinned (OpenSpec.ofChange incidentComparesWrong)

/-- 'cressetlaw05.IncidentKeeps': WHATEVER THE INPUT: true; the input reads as it did. -/
def incidentKeepsSpec : ChangeSpec := { name := "incidentKeeps", fn := fun _ => fun
  | [d1, d2, d3] => { results := [.lit (.bool true)], args := [d1, d2, d3] }
  | _ => none }
def incidentKeepsRow : OpenClaim := { program := "ythgmdilfmeefiaa", sum := "3c4c8e23c923340a40e2bafbb155f914da82724a790b96a49201226a30461865", func := "cresset/cressetlaw05.IncidentKeeps", spec := "incidentKeeps", unfollowed := true, recurses := true, apart := false }
def IncidentKeepsSaid : Prop := incidentKeepsRow.holds Try.pinned (OpenSpec.ofChange incidentKeepsSpec)

/-- ITS FALSE NEIGHBOUR: 'it returns false'. Refute it at one input. -/
def incidentKeepsWrong : ChangeSpec := { name := "incidentKeeps", fn := fun _ => fun
  | [d1, d2, d3] => { results := [.lit (.bool false)], args := [d1, d2, d3] }
  | _ => none }
def IncidentKeepsWrongFalsely : Prop := incidentKeepsRow.holds Try.pinned (OpenSpec.ofChange incidentKeepsWrong)

/-- 'cressetlaw05.IncidentNear': WHATEVER THE INPUT: true; the input reads as it did. -/
def incidentNearSpec : ChangeSpec := { name := "incidentNear", fn := fun _ => fun
  | [d1, d2, d3] => { results := [.lit (.bool true)], args := [d1, d2, d3] }
  | _ => none }
def incidentNearRow : OpenClaim := { program := "ythgmdilfmeefiaa", sum := "3c4c8e23c923340a40e2bafbb155f914da82724a790b96a49201226a30461865", func := "cresset/cressetlaw05.IncidentNear", spec := "incidentNear", unfollowed := true, recurses := true, apart := false }
def IncidentNearSaid : Prop := incidentNearRow.holds Try.pinned (OpenSpec.ofChange incidentNearSpec)

/-- ITS FALSE NEIGHBOUR: 'it returns false'. Refute it at one input. -/
def incidentNearWrong : ChangeSpec := { name := "incidentNear", fn := fun _ => fun
  | [d1, d2, d3] => { results := [.lit (.bool false)], args := [d1, d2, d3] }
  | _ => none }
def IncidentNearWrongFalsely : Prop := incidentNearRow.holds Try.pinned (OpenSpec.ofChange incidentNearWrong)

/-- 'cressetlaw05.IncidentSilence': WHATEVER THE INPUT: true; the input reads as it did. -/
def incidentSilenceSpec : ChangeSpec := { name := "incidentSilence", fn := fun _ => fun
  | [d1, d2, d3] => { results := [.lit (.bool true)], args := [d1, d2, d3] }
  | _ => none }
def incidentSilenceRow : OpenClaim := { program := "ythgmdilfmeefiaa", sum := "3c4c8e23c923340a40e2bafbb155f914da82724a790b96a49201226a30461865", func := "cresset/cressetlaw05.IncidentSilence", spec := "incidentSilence", unfollowed := true, recurses := true, apart := false }
def IncidentSilenceSaid : Prop := incidentSilenceRow.holds Try.pinned (OpenSpec.ofChange incidentSilenceSpec)

/-- ITS FALSE NEIGHBOUR: 'it returns false'. Refute it at one input. -/
def incidentSilenceWrong : ChangeSpec := { name := "incidentSilence", fn := fun _ => fun
  | [d1, d2, d3] => { results := [.lit (.bool false)], args := [d1, d2, d3] }
  | _ => none }
def IncidentSilenceWrongFalsely : Prop := incidentSilenceRow.holds Try.pinned (OpenSpec.ofChange incidentSilenceWrong)

/-- 'cressetlaw05.IncidentPlays': WHATEVER THE INPUT: true; the input reads as it did. -/
def incidentPlaysSpec : ChangeSpec := { name := "incidentPlays", fn := fun _ => fun
  | [d1, d2, d3] => { results := [.lit (.bool true)], args := [d1, d2, d3] }
  | _ => none }
def incidentPlaysRow : OpenClaim := { program := "ythgmdilfmeefiaa", sum := "3c4c8e23c923340a40e2bafbb155f914da82724a790b96a49201226a30461865", func := "cresset/cressetlaw05.IncidentPlays", spec := "incidentPlays", unfollowed := true, recurses := true, apart := false }
def IncidentPlaysSaid : Prop := incidentPlaysRow.holds Try.pinned (OpenSpec.ofChange incidentPlaysSpec)

/-- ITS FALSE NEIGHBOUR: 'it returns false'. Refute it at one input. -/
def incidentPlaysWrong : ChangeSpec := { name := "incidentPlays", fn := fun _ => fun
  | [d1, d2, d3] => { results := [.lit (.bool false)], args := [d1, d2, d3] }
  | _ => none }
def IncidentPlaysWrongFalsely : Prop := incidentPlaysRow.holds Try.pinned (OpenSpec.ofChange incidentPlaysWrong)

/-- 'cressetlaw05.IncidentNone': WHATEVER THE INPUT: true; the input reads as it did. -/
def incidentNoneSpec : ChangeSpec := { name := "incidentNone", fn := fun _ => fun
  | [d1, d2, d3] => { results := [.lit (.bool true)], args := [d1, d2, d3] }
  | _ => none }
def incidentNoneRow : OpenClaim := { program := "ythgmdilfmeefiaa", sum := "3c4c8e23c923340a40e2bafbb155f914da82724a790b96a49201226a30461865", func := "cresset/cressetlaw05.IncidentNone", spec := "incidentNone", unfollowed := true, recurses := true, apart := false }
def IncidentNoneSaid : Prop := incidentNoneRow.holds Try.pinned (OpenSpec.ofChange incidentNoneSpec)

/-- ITS FALSE NEIGHBOUR: 'it returns false'. Refute it at one input. -/
def incidentNoneWrong : ChangeSpec := { name := "incidentNone", fn := fun _ => fun
  | [d1, d2, d3] => { results := [.lit (.bool false)], args := [d1, d2, d3] }
  | _ => none }
def IncidentNoneWrongFalsely : Prop := incidentNoneRow.holds Try.pinned (OpenSpec.ofChange incidentNoneWrong)

/- THE SECOND FORM. 'bulk': how many values and letters a reading holds, each counted each time it is reached (what is shared counts as often as it is met; a slice's spare places count too). A statement '..UptoSaid' is the law's where the arguments, and the package variables that the reading takes, are together of bulk at most 1048576: NARROWER than '..Said'. Prove '..Said' where nothing that the law and all that it calls make is longer than what came in: it says more and counts as full. Else prove '..UptoSaid'. A law counts once. -/
mutual
def uptoBulk {H : Type} : DataW H → Nat
  | .lit (.string bytes) => bytes.length + 1
  | .lit _ => 1
  | .nil => 1
  | .ptr d => uptoBulk d + 1
  | .slice elems spare => uptoBulkAll elems + uptoBulkAll spare + 1
  | .agg parts => uptoBulkAll parts + 1
  | .iface _ d => uptoBulk d + 1
  | .map entries => uptoBulkEntries entries + 1
  | .held _ => 1
def uptoBulkAll {H : Type} : List (DataW H) → Nat
  | [] => 0
  | d :: r => uptoBulk d + uptoBulkAll r
def uptoBulkEntries {H : Type} : List (Lit × DataW H) → Nat
  | [] => 0
  | x :: r => uptoBulkEntry x + uptoBulkEntries r
def uptoBulkEntry {H : Type} : Lit × DataW H → Nat
  | (.string bytes, d) => bytes.length + uptoBulk d + 1
  | (_, d) => uptoBulk d + 1
 end
def uptoSmall : (H : Type) → List (DataW H) → Bool := fun _ ds => decide (uptoBulkAll ds ≤ 1048576)
def OpenSpec.upto (s : _root_.Go.ChangeSpec) : _root_.Go.OpenSpec := { _root_.Go.OpenSpec.ofChange s with cond := some uptoSmall }

/-- 'cressetlaw05.IncidentCompares', WHERE WHAT IT READS IS OF BULK AT MOST 1048576: true; the input reads as it did. -/
def incidentComparesUptoRow : OpenClaim := { program := "ythgmdilfmeefiaa", sum := "3c4c8e23c923340a40e2bafbb155f914da82724a790b96a49201226a30461865", func := "cresset/cressetlaw05.IncidentCompares", spec := "incidentCompares", unfollowed := true, recurses := true, apart := false, narrowed := true }
def IncidentComparesUptoSaid : Prop := incidentComparesUptoRow.holds Try.pinned (OpenSpec.upto incidentComparesSpec)

/-- 'cressetlaw05.IncidentKeeps', WHERE WHAT IT READS IS OF BULK AT MOST 1048576: true; the input reads as it did. -/
def incidentKeepsUptoRow : OpenClaim := { program := "ythgmdilfmeefiaa", sum := "3c4c8e23c923340a40e2bafbb155f914da82724a790b96a49201226a30461865", func := "cresset/cressetlaw05.IncidentKeeps", spec := "incidentKeeps", unfollowed := true, recurses := true, apart := false, narrowed := true }
def IncidentKeepsUptoSaid : Prop := incidentKeepsUptoRow.holds Try.pinned (OpenSpec.upto incidentKeepsSpec)

/-- 'cressetlaw05.IncidentNear', WHERE WHAT IT READS IS OF BULK AT MOST 1048576: true; the input reads as it did. -/
def incidentNearUptoRow : OpenClaim := { program := "ythgmdilfmeefiaa", sum := "3c4c8e23c923340a40e2bafbb155f914da82724a790b96a49201226a30461865", func := "cresset/cressetlaw05.IncidentNear", spec := "incidentNear", unfollowed := true, recurses := true, apart := false, narrowed := true }
def IncidentNearUptoSaid : Prop := incidentNearUptoRow.holds Try.pinned (OpenSpec.upto incidentNearSpec)

/-- 'cressetlaw05.IncidentSilence', WHERE WHAT IT READS IS OF BULK AT MOST 1048576: true; the input reads as it did. -/
def incidentSilenceUptoRow : OpenClaim := { program := "ythgmdilfmeefiaa", sum := "3c4c8e23c923340a40e2bafbb155f914da82724a790b96a49201226a30461865", func := "cresset/cressetlaw05.IncidentSilence", spec := "incidentSilence", unfollowed := true, recurses := true, apart := false, narrowed := true }
def IncidentSilenceUptoSaid : Prop := incidentSilenceUptoRow.holds Try.pinned (OpenSpec.upto incidentSilenceSpec)

/-- 'cressetlaw05.IncidentPlays', WHERE WHAT IT READS IS OF BULK AT MOST 1048576: true; the input reads as it did. -/
def incidentPlaysUptoRow : OpenClaim := { program := "ythgmdilfmeefiaa", sum := "3c4c8e23c923340a40e2bafbb155f914da82724a790b96a49201226a30461865", func := "cresset/cressetlaw05.IncidentPlays", spec := "incidentPlays", unfollowed := true, recurses := true, apart := false, narrowed := true }
def IncidentPlaysUptoSaid : Prop := incidentPlaysUptoRow.holds Try.pinned (OpenSpec.upto incidentPlaysSpec)

/-- 'cressetlaw05.IncidentNone', WHERE WHAT IT READS IS OF BULK AT MOST 1048576: true; the input reads as it did. -/
def incidentNoneUptoRow : OpenClaim := { program := "ythgmdilfmeefiaa", sum := "3c4c8e23c923340a40e2bafbb155f914da82724a790b96a49201226a30461865", func := "cresset/cressetlaw05.IncidentNone", spec := "incidentNone", unfollowed := true, recurses := true, apart := false, narrowed := true }
def IncidentNoneUptoSaid : Prop := incidentNoneUptoRow.holds Try.pinned (OpenSpec.upto incidentNoneSpec)

end Rows
end Go.Proofs.Ythgmdilfmeefiaa
