/-
  NARROWER THAN 'FOR EVERY INPUT', by the rows' own cells (each row's printed sentence says how): SegReads: laid · SegFull: laid · SegAcks: laid · SegEpochs: laid · VolEpochs: laid.
  DERIVED. THE GIVEN ROWS OF THIS SEAT. 5 by the template 'for every input the law returns true; each argument reads behind the call as it read before'; 0 by the template 'total and deterministic' (their statements: YtefaghnlmmgpcaaGreatDoorTotals.lean).
  GIVEN WITH THE SEED: the statements are not yours to turn. If you find one false, say at which input.
  Laid BY PROGRAM, IN A SANDBOX (cutbox-rows.mjs): the forced cells as the released guide's own fill.sh prints them over the translation b04e89d59f8892ce… (all of the seat's roots in one cut). By AI agents, Wed Nov 11 2026. No macro, syntax, notation, axiom, sorry.
-/
import Derived.Test.YtefaghnlmmgpcaaGreatDoorChecked
import GoSem.Claim
import GoSem.ClaimJoined
import GoSem.ClaimMapViews
import Derived.JoinedTies
import Derived.KernelRfl
namespace Go.Proofs.YtefaghnlmmgpcaaGreatDoor
/- THE CELL 'sum', in the pinned program and in every row, IS THE sha256 OF THE DUMP (.gsa) THAT YtefaghnlmmgpcaaGreatDoorProg.lean LOADS. Nothing in Lean hashes anything: it is a label: what it is worth is what the hold of that sum in a sandbox is worth. -/
noncomputable def Tryz.pinned : Pinned := { name := "ytefaghnlmmgpcaagreatdoor", sum := "b04e89d59f8892cea5a70352b75edae17e5e8382de15c5e861778dfde0de9da9", checked := Tryz.checked }
namespace Rows
def none {H : Type} : Left H := { results := [], args := [] }

/- WHAT THE LISTED PACKAGE-LEVEL VARIABLES READ AS WHEN THE CALL BEGINS. Each datum BY PROGRAM (the guide's laid-datum.mjs) off the statement by which the dump's own 'gosem.cut.vars' lays the variable. In a bare row this is a premise. The card (YtefaghnlmmgpcaaGreatDoorCards.lean) ties it to the program's text. -/
def laid_sextet_api_ErrEnd {H : Type} : DataW H := .iface "*errors.errorString" (.ptr (.agg [.lit (.string [105, 116, 32, 101, 110, 100, 115, 32, 116, 111, 111, 32, 101, 97, 114, 108, 121])]))
def laid_sextet_api_ErrShape {H : Type} : DataW H := .iface "*errors.errorString" (.ptr (.agg [.lit (.string [110, 111, 116, 32, 97, 115, 32, 105, 116, 32, 104, 97, 115, 32, 116, 111, 32, 98, 101])]))
def laid_sextet_api_ErrMany {H : Type} : DataW H := .iface "*errors.errorString" (.ptr (.agg [.lit (.string [116, 111, 111, 32, 109, 97, 110, 121])]))
def laid_sextet_api_ErrRange {H : Type} : DataW H := .iface "*errors.errorString" (.ptr (.agg [.lit (.string [97, 32, 110, 117, 109, 98, 101, 114, 32, 111, 117, 116, 32, 111, 102, 32, 105, 116, 115, 32, 114, 97, 110, 103, 101])]))
def laid_sextet_api_ErrKind {H : Type} : DataW H := .iface "*errors.errorString" (.ptr (.agg [.lit (.string [110, 111, 32, 115, 117, 99, 104, 32, 107, 105, 110, 100])]))
def laid_sextet_api_ErrNone {H : Type} : DataW H := .iface "*errors.errorString" (.ptr (.agg [.lit (.string [116, 104, 101, 114, 101, 32, 105, 115, 32, 110, 111, 110, 101])]))
def laid_sextet_api_ErrThere {H : Type} : DataW H := .iface "*errors.errorString" (.ptr (.agg [.lit (.string [116, 104, 101, 114, 101, 32, 105, 115, 32, 111, 110, 101])]))
def laid_sextet_api_ErrFull {H : Type} : DataW H := .iface "*errors.errorString" (.ptr (.agg [.lit (.string [116, 104, 101, 114, 101, 32, 105, 115, 32, 110, 111, 32, 114, 111, 111, 109])]))
def laid_sextet_api_ErrCrash {H : Type} : DataW H := .iface "*errors.errorString" (.ptr (.agg [.lit (.string [105, 116, 32, 105, 115, 32, 100, 111, 119, 110])]))
def laid_sextet_api_ErrState {H : Type} : DataW H := .iface "*errors.errorString" (.ptr (.agg [.lit (.string [110, 111, 116, 32, 105, 110, 32, 116, 104, 105, 115, 32, 115, 116, 97, 116, 101])]))
def laid_sextet_api_ErrSum {H : Type} : DataW H := .iface "*errors.errorString" (.ptr (.agg [.lit (.string [116, 104, 101, 32, 115, 117, 109, 32, 105, 115, 32, 97, 110, 111, 116, 104, 101, 114, 32, 111, 110, 101])]))
def laid_sextet_api_ErrConflict {H : Type} : DataW H := .iface "*errors.errorString" (.ptr (.agg [.lit (.string [97, 110, 111, 116, 104, 101, 114, 32, 111, 110, 101, 32, 119, 114, 105, 116, 101, 115, 32, 116, 104, 97, 116])]))
def laid_sextet_api_ErrWaits {H : Type} : DataW H := .iface "*errors.errorString" (.ptr (.agg [.lit (.string [105, 116, 32, 119, 97, 105, 116, 115, 32, 102, 111, 114, 32, 97, 32, 112, 97, 103, 101])]))
def laid_sextet_api_ErrLimit {H : Type} : DataW H := .iface "*errors.errorString" (.ptr (.agg [.lit (.string [116, 111, 111, 32, 102, 97, 114, 32, 97, 104, 101, 97, 100, 32, 111, 102, 32, 119, 104, 97, 116, 32, 105, 115, 32, 100, 117, 114, 97, 98, 108, 101])]))
def laid_sextet_api_ErrFenced {H : Type} : DataW H := .iface "*errors.errorString" (.ptr (.agg [.lit (.string [97, 32, 108, 97, 116, 101, 114, 32, 111, 110, 101, 32, 119, 114, 105, 116, 101, 115])]))
def laid_sextet_api_ErrWord {H : Type} : DataW H := .iface "*errors.errorString" (.ptr (.agg [.lit (.string [110, 111, 32, 115, 117, 99, 104, 32, 119, 111, 114, 100])]))
def laid_sextet_api_ErrNumber {H : Type} : DataW H := .iface "*errors.errorString" (.ptr (.agg [.lit (.string [110, 111, 32, 115, 117, 99, 104, 32, 110, 117, 109, 98, 101, 114])]))

/-- 'sextetlaw13.SegReads': WHATEVER THE INPUT: true; the input reads as it did. -/
def segReadsSpec : ChangeSpec := { name := "segReads", fn := fun _ => fun
  | [d1, d2, d3, d4, d5] => { results := [.lit (.bool true)], args := [d1, d2, d3, d4, d5] }
  | _ => none }
def segReadsRow : OpenClaim := { program := "ytefaghnlmmgpcaagreatdoor", sum := "b04e89d59f8892cea5a70352b75edae17e5e8382de15c5e861778dfde0de9da9", func := "sextet/sextetlaw13.SegReads", spec := "segReads", inPlace := ["slices.overlaps[sextet/api.Redo]", "slices.overlaps[sextet/api.Entry]"], unfollowed := true, recurses := true, named := ["sextet/api.ErrRange", "sextet/api.ErrFull", "sextet/api.ErrCrash", "sextet/api.ErrEnd", "sextet/api.ErrShape", "sextet/api.ErrMany", "sextet/api.ErrThere", "sextet/api.ErrKind", "sextet/api.ErrState", "sextet/api.ErrNone"], apart := false, laid := [("sextet/api.ErrEnd", laid_sextet_api_ErrEnd), ("sextet/api.ErrShape", laid_sextet_api_ErrShape), ("sextet/api.ErrMany", laid_sextet_api_ErrMany), ("sextet/api.ErrRange", laid_sextet_api_ErrRange), ("sextet/api.ErrKind", laid_sextet_api_ErrKind), ("sextet/api.ErrNone", laid_sextet_api_ErrNone), ("sextet/api.ErrThere", laid_sextet_api_ErrThere), ("sextet/api.ErrFull", laid_sextet_api_ErrFull), ("sextet/api.ErrCrash", laid_sextet_api_ErrCrash), ("sextet/api.ErrState", laid_sextet_api_ErrState)] }
def SegReadsSaid : Prop := segReadsRow.holds Tryz.pinned (OpenSpec.ofChange segReadsSpec)

/-- ITS FALSE NEIGHBOUR: 'it returns false'. Refute it at one input. -/
def segReadsWrong : ChangeSpec := { name := "segReads", fn := fun _ => fun
  | [d1, d2, d3, d4, d5] => { results := [.lit (.bool false)], args := [d1, d2, d3, d4, d5] }
  | _ => none }
def SegReadsWrongFalsely : Prop := segReadsRow.holds Tryz.pinned (OpenSpec.ofChange segReadsWrong)

/-- 'sextetlaw13.SegFull': WHATEVER THE INPUT: true; the input reads as it did. -/
def segFullSpec : ChangeSpec := { name := "segFull", fn := fun _ => fun
  | [d1, d2] => { results := [.lit (.bool true)], args := [d1, d2] }
  | _ => none }
def segFullRow : OpenClaim := { program := "ytefaghnlmmgpcaagreatdoor", sum := "b04e89d59f8892cea5a70352b75edae17e5e8382de15c5e861778dfde0de9da9", func := "sextet/sextetlaw13.SegFull", spec := "segFull", inPlace := ["slices.overlaps[sextet/api.Redo]", "slices.overlaps[sextet/api.Entry]"], unfollowed := true, recurses := true, named := ["sextet/api.ErrRange", "sextet/api.ErrFull", "sextet/api.ErrCrash", "sextet/api.ErrEnd", "sextet/api.ErrShape", "sextet/api.ErrMany", "sextet/api.ErrThere", "sextet/api.ErrKind", "sextet/api.ErrState", "sextet/api.ErrNone", "sextet/api.ErrSum", "sextet/api.ErrConflict", "sextet/api.ErrWaits", "sextet/api.ErrLimit", "sextet/api.ErrFenced", "sextet/api.ErrWord", "sextet/api.ErrNumber"], apart := false, laid := [("sextet/api.ErrEnd", laid_sextet_api_ErrEnd), ("sextet/api.ErrSum", laid_sextet_api_ErrSum), ("sextet/api.ErrShape", laid_sextet_api_ErrShape), ("sextet/api.ErrMany", laid_sextet_api_ErrMany), ("sextet/api.ErrRange", laid_sextet_api_ErrRange), ("sextet/api.ErrKind", laid_sextet_api_ErrKind), ("sextet/api.ErrNone", laid_sextet_api_ErrNone), ("sextet/api.ErrThere", laid_sextet_api_ErrThere), ("sextet/api.ErrFull", laid_sextet_api_ErrFull), ("sextet/api.ErrCrash", laid_sextet_api_ErrCrash), ("sextet/api.ErrState", laid_sextet_api_ErrState), ("sextet/api.ErrConflict", laid_sextet_api_ErrConflict), ("sextet/api.ErrWaits", laid_sextet_api_ErrWaits), ("sextet/api.ErrLimit", laid_sextet_api_ErrLimit), ("sextet/api.ErrFenced", laid_sextet_api_ErrFenced), ("sextet/api.ErrWord", laid_sextet_api_ErrWord), ("sextet/api.ErrNumber", laid_sextet_api_ErrNumber)] }
def SegFullSaid : Prop := segFullRow.holds Tryz.pinned (OpenSpec.ofChange segFullSpec)

/-- ITS FALSE NEIGHBOUR: 'it returns false'. Refute it at one input. -/
def segFullWrong : ChangeSpec := { name := "segFull", fn := fun _ => fun
  | [d1, d2] => { results := [.lit (.bool false)], args := [d1, d2] }
  | _ => none }
def SegFullWrongFalsely : Prop := segFullRow.holds Tryz.pinned (OpenSpec.ofChange segFullWrong)

/-- 'sextetlaw13.SegAcks': WHATEVER THE INPUT: true; the input reads as it did. -/
def segAcksSpec : ChangeSpec := { name := "segAcks", fn := fun _ => fun
  | [d] => { results := [.lit (.bool true)], args := [d] }
  | _ => none }
def segAcksRow : OpenClaim := { program := "ytefaghnlmmgpcaagreatdoor", sum := "b04e89d59f8892cea5a70352b75edae17e5e8382de15c5e861778dfde0de9da9", func := "sextet/sextetlaw13.SegAcks", spec := "segAcks", inPlace := ["slices.overlaps[sextet/api.Redo]", "slices.overlaps[sextet/api.Entry]"], unfollowed := true, recurses := true, named := ["sextet/api.ErrRange", "sextet/api.ErrFull", "sextet/api.ErrCrash", "sextet/api.ErrEnd", "sextet/api.ErrShape", "sextet/api.ErrMany", "sextet/api.ErrThere", "sextet/api.ErrKind", "sextet/api.ErrState", "sextet/api.ErrNone"], apart := false, laid := [("sextet/api.ErrEnd", laid_sextet_api_ErrEnd), ("sextet/api.ErrShape", laid_sextet_api_ErrShape), ("sextet/api.ErrMany", laid_sextet_api_ErrMany), ("sextet/api.ErrRange", laid_sextet_api_ErrRange), ("sextet/api.ErrKind", laid_sextet_api_ErrKind), ("sextet/api.ErrNone", laid_sextet_api_ErrNone), ("sextet/api.ErrThere", laid_sextet_api_ErrThere), ("sextet/api.ErrFull", laid_sextet_api_ErrFull), ("sextet/api.ErrCrash", laid_sextet_api_ErrCrash), ("sextet/api.ErrState", laid_sextet_api_ErrState)] }
def SegAcksSaid : Prop := segAcksRow.holds Tryz.pinned (OpenSpec.ofChange segAcksSpec)

/-- ITS FALSE NEIGHBOUR: 'it returns false'. Refute it at one input. -/
def segAcksWrong : ChangeSpec := { name := "segAcks", fn := fun _ => fun
  | [d] => { results := [.lit (.bool false)], args := [d] }
  | _ => none }
def SegAcksWrongFalsely : Prop := segAcksRow.holds Tryz.pinned (OpenSpec.ofChange segAcksWrong)

/-- 'sextetlaw13.SegEpochs': WHATEVER THE INPUT: true; the input reads as it did. -/
def segEpochsSpec : ChangeSpec := { name := "segEpochs", fn := fun _ => fun
  | [d1, d2, d3] => { results := [.lit (.bool true)], args := [d1, d2, d3] }
  | _ => none }
def segEpochsRow : OpenClaim := { program := "ytefaghnlmmgpcaagreatdoor", sum := "b04e89d59f8892cea5a70352b75edae17e5e8382de15c5e861778dfde0de9da9", func := "sextet/sextetlaw13.SegEpochs", spec := "segEpochs", inPlace := ["slices.overlaps[sextet/api.Redo]", "slices.overlaps[sextet/api.Entry]"], unfollowed := true, recurses := true, named := ["sextet/api.ErrRange", "sextet/api.ErrFull", "sextet/api.ErrCrash", "sextet/api.ErrEnd", "sextet/api.ErrShape", "sextet/api.ErrMany", "sextet/api.ErrThere", "sextet/api.ErrKind", "sextet/api.ErrState", "sextet/api.ErrNone"], apart := false, laid := [("sextet/api.ErrEnd", laid_sextet_api_ErrEnd), ("sextet/api.ErrShape", laid_sextet_api_ErrShape), ("sextet/api.ErrMany", laid_sextet_api_ErrMany), ("sextet/api.ErrRange", laid_sextet_api_ErrRange), ("sextet/api.ErrKind", laid_sextet_api_ErrKind), ("sextet/api.ErrNone", laid_sextet_api_ErrNone), ("sextet/api.ErrThere", laid_sextet_api_ErrThere), ("sextet/api.ErrFull", laid_sextet_api_ErrFull), ("sextet/api.ErrCrash", laid_sextet_api_ErrCrash), ("sextet/api.ErrState", laid_sextet_api_ErrState)] }
def SegEpochsSaid : Prop := segEpochsRow.holds Tryz.pinned (OpenSpec.ofChange segEpochsSpec)

/-- ITS FALSE NEIGHBOUR: 'it returns false'. Refute it at one input. -/
def segEpochsWrong : ChangeSpec := { name := "segEpochs", fn := fun _ => fun
  | [d1, d2, d3] => { results := [.lit (.bool false)], args := [d1, d2, d3] }
  | _ => none }
def SegEpochsWrongFalsely : Prop := segEpochsRow.holds Tryz.pinned (OpenSpec.ofChange segEpochsWrong)

/-- 'sextetlaw19.VolEpochs': WHATEVER THE INPUT: true; the input reads as it did. -/
def volEpochsSpec : ChangeSpec := { name := "volEpochs", fn := fun _ => fun
  | [d1, d2, d3] => { results := [.lit (.bool true)], args := [d1, d2, d3] }
  | _ => none }
def volEpochsRow : OpenClaim := { program := "ytefaghnlmmgpcaagreatdoor", sum := "b04e89d59f8892cea5a70352b75edae17e5e8382de15c5e861778dfde0de9da9", func := "sextet/sextetlaw19.VolEpochs", spec := "volEpochs", inPlace := ["slices.overlaps[sextet/api.Redo]"], unfollowed := true, recurses := true, named := ["sextet/api.ErrMany", "sextet/api.ErrState", "sextet/api.ErrThere", "sextet/api.ErrRange", "sextet/api.ErrShape", "sextet/api.ErrFull", "sextet/api.ErrCrash", "sextet/api.ErrEnd", "sextet/api.ErrKind", "sextet/api.ErrFenced", "sextet/api.ErrSum", "sextet/api.ErrNone", "sextet/api.ErrConflict", "sextet/api.ErrWaits", "sextet/api.ErrLimit", "sextet/api.ErrWord", "sextet/api.ErrNumber"], apart := false, laid := [("sextet/api.ErrEnd", laid_sextet_api_ErrEnd), ("sextet/api.ErrSum", laid_sextet_api_ErrSum), ("sextet/api.ErrShape", laid_sextet_api_ErrShape), ("sextet/api.ErrMany", laid_sextet_api_ErrMany), ("sextet/api.ErrRange", laid_sextet_api_ErrRange), ("sextet/api.ErrKind", laid_sextet_api_ErrKind), ("sextet/api.ErrNone", laid_sextet_api_ErrNone), ("sextet/api.ErrThere", laid_sextet_api_ErrThere), ("sextet/api.ErrFull", laid_sextet_api_ErrFull), ("sextet/api.ErrCrash", laid_sextet_api_ErrCrash), ("sextet/api.ErrState", laid_sextet_api_ErrState), ("sextet/api.ErrConflict", laid_sextet_api_ErrConflict), ("sextet/api.ErrWaits", laid_sextet_api_ErrWaits), ("sextet/api.ErrLimit", laid_sextet_api_ErrLimit), ("sextet/api.ErrFenced", laid_sextet_api_ErrFenced), ("sextet/api.ErrWord", laid_sextet_api_ErrWord), ("sextet/api.ErrNumber", laid_sextet_api_ErrNumber)] }
def VolEpochsSaid : Prop := volEpochsRow.holds Tryz.pinned (OpenSpec.ofChange volEpochsSpec)

/-- ITS FALSE NEIGHBOUR: 'it returns false'. Refute it at one input. -/
def volEpochsWrong : ChangeSpec := { name := "volEpochs", fn := fun _ => fun
  | [d1, d2, d3] => { results := [.lit (.bool false)], args := [d1, d2, d3] }
  | _ => none }
def VolEpochsWrongFalsely : Prop := volEpochsRow.holds Tryz.pinned (OpenSpec.ofChange volEpochsWrong)

/- THE SECOND FORM. 'bulk': how many values and letters a reading holds, each counted each time it is reached (what is shared counts as often as it is met; a slice's spare places count too). A statement '..UptoSaid' is the law's where the arguments, and the package variables that the reading takes, are together of bulk at most 1048576: NARROWER than '..Said'. Prove '..Said' where nothing that the law and all that it calls make is longer than what came in: it says more and counts as full. Else prove '..UptoSaid'. A law counts once. -/
mutual
def uptoBulk {H : Type} : DataW H → Nat
  | .lit (.string bytes) => bytes.length + 1
  | .lit _ => 1
  | .nil => 1
  | .ptr d => uptoBulk d + 1
  | .slice elems spare => uptoBulkAll elems + uptoBulkAll spare + 1
  | .agg parts => uptoBulkAll parts + 1
  | .iface _ d => uptoBulk d + 1
  | .map entries => uptoBulkEntries entries + 1
  | .held _ => 1
def uptoBulkAll {H : Type} : List (DataW H) → Nat
  | [] => 0
  | d :: r => uptoBulk d + uptoBulkAll r
def uptoBulkEntries {H : Type} : List (Lit × DataW H) → Nat
  | [] => 0
  | x :: r => uptoBulkEntry x + uptoBulkEntries r
def uptoBulkEntry {H : Type} : Lit × DataW H → Nat
  | (.string bytes, d) => bytes.length + uptoBulk d + 1
  | (_, d) => uptoBulk d + 1
 end
def uptoSmall : (H : Type) → List (DataW H) → Bool := fun _ ds => decide (uptoBulkAll ds ≤ 1048576)
def OpenSpec.upto (s : _root_.Go.ChangeSpec) : _root_.Go.OpenSpec := { _root_.Go.OpenSpec.ofChange s with cond := some uptoSmall }

/-- 'sextetlaw13.SegReads', WHERE WHAT IT READS IS OF BULK AT MOST 1048576: true; the input reads as it did. -/
def segReadsUptoRow : OpenClaim := { program := "ytefaghnlmmgpcaagreatdoor", sum := "b04e89d59f8892cea5a70352b75edae17e5e8382de15c5e861778dfde0de9da9", func := "sextet/sextetlaw13.SegReads", spec := "segReads", inPlace := ["slices.overlaps[sextet/api.Redo]", "slices.overlaps[sextet/api.Entry]"], unfollowed := true, recurses := true, named := ["sextet/api.ErrRange", "sextet/api.ErrFull", "sextet/api.ErrCrash", "sextet/api.ErrEnd", "sextet/api.ErrShape", "sextet/api.ErrMany", "sextet/api.ErrThere", "sextet/api.ErrKind", "sextet/api.ErrState", "sextet/api.ErrNone"], apart := false, laid := [("sextet/api.ErrEnd", laid_sextet_api_ErrEnd), ("sextet/api.ErrShape", laid_sextet_api_ErrShape), ("sextet/api.ErrMany", laid_sextet_api_ErrMany), ("sextet/api.ErrRange", laid_sextet_api_ErrRange), ("sextet/api.ErrKind", laid_sextet_api_ErrKind), ("sextet/api.ErrNone", laid_sextet_api_ErrNone), ("sextet/api.ErrThere", laid_sextet_api_ErrThere), ("sextet/api.ErrFull", laid_sextet_api_ErrFull), ("sextet/api.ErrCrash", laid_sextet_api_ErrCrash), ("sextet/api.ErrState", laid_sextet_api_ErrState)], narrowed := true }
def SegReadsUptoSaid : Prop := segReadsUptoRow.holds Tryz.pinned (OpenSpec.upto segReadsSpec)

/-- 'sextetlaw13.SegFull', WHERE WHAT IT READS IS OF BULK AT MOST 1048576: true; the input reads as it did. -/
def segFullUptoRow : OpenClaim := { program := "ytefaghnlmmgpcaagreatdoor", sum := "b04e89d59f8892cea5a70352b75edae17e5e8382de15c5e861778dfde0de9da9", func := "sextet/sextetlaw13.SegFull", spec := "segFull", inPlace := ["slices.overlaps[sextet/api.Redo]", "slices.overlaps[sextet/api.Entry]"], unfollowed := true, recurses := true, named := ["sextet/api.ErrRange", "sextet/api.ErrFull", "sextet/api.ErrCrash", "sextet/api.ErrEnd", "sextet/api.ErrShape", "sextet/api.ErrMany", "sextet/api.ErrThere", "sextet/api.ErrKind", "sextet/api.ErrState", "sextet/api.ErrNone", "sextet/api.ErrSum", "sextet/api.ErrConflict", "sextet/api.ErrWaits", "sextet/api.ErrLimit", "sextet/api.ErrFenced", "sextet/api.ErrWord", "sextet/api.ErrNumber"], apart := false, laid := [("sextet/api.ErrEnd", laid_sextet_api_ErrEnd), ("sextet/api.ErrSum", laid_sextet_api_ErrSum), ("sextet/api.ErrShape", laid_sextet_api_ErrShape), ("sextet/api.ErrMany", laid_sextet_api_ErrMany), ("sextet/api.ErrRange", laid_sextet_api_ErrRange), ("sextet/api.ErrKind", laid_sextet_api_ErrKind), ("sextet/api.ErrNone", laid_sextet_api_ErrNone), ("sextet/api.ErrThere", laid_sextet_api_ErrThere), ("sextet/api.ErrFull", laid_sextet_api_ErrFull), ("sextet/api.ErrCrash", laid_sextet_api_ErrCrash), ("sextet/api.ErrState", laid_sextet_api_ErrState), ("sextet/api.ErrConflict", laid_sextet_api_ErrConflict), ("sextet/api.ErrWaits", laid_sextet_api_ErrWaits), ("sextet/api.ErrLimit", laid_sextet_api_ErrLimit), ("sextet/api.ErrFenced", laid_sextet_api_ErrFenced), ("sextet/api.ErrWord", laid_sextet_api_ErrWord), ("sextet/api.ErrNumber", laid_sextet_api_ErrNumber)], narrowed := true }
def SegFullUptoSaid : Prop := segFullUptoRow.holds Tryz.pinned (OpenSpec.upto segFullSpec)

/-- 'sextetlaw13.SegAcks', WHERE WHAT IT READS IS OF BULK AT MOST 1048576: true; the input reads as it did. -/
def segAcksUptoRow : OpenClaim := { program := "ytefaghnlmmgpcaagreatdoor", sum := "b04e89d59f8892cea5a70352b75edae17e5e8382de15c5e861778dfde0de9da9", func := "sextet/sextetlaw13.SegAcks", spec := "segAcks", inPlace := ["slices.overlaps[sextet/api.Redo]", "slices.overlaps[sextet/api.Entry]"], unfollowed := true, recurses := true, named := ["sextet/api.ErrRange", "sextet/api.ErrFull", "sextet/api.ErrCrash", "sextet/api.ErrEnd", "sextet/api.ErrShape", "sextet/api.ErrMany", "sextet/api.ErrThere", "sextet/api.ErrKind", "sextet/api.ErrState", "sextet/api.ErrNone"], apart := false, laid := [("sextet/api.ErrEnd", laid_sextet_api_ErrEnd), ("sextet/api.ErrShape", laid_sextet_api_ErrShape), ("sextet/api.ErrMany", laid_sextet_api_ErrMany), ("sextet/api.ErrRange", laid_sextet_api_ErrRange), ("sextet/api.ErrKind", laid_sextet_api_ErrKind), ("sextet/api.ErrNone", laid_sextet_api_ErrNone), ("sextet/api.ErrThere", laid_sextet_api_ErrThere), ("sextet/api.ErrFull", laid_sextet_api_ErrFull), ("sextet/api.ErrCrash", laid_sextet_api_ErrCrash), ("sextet/api.ErrState", laid_sextet_api_ErrState)], narrowed := true }
def SegAcksUptoSaid : Prop := segAcksUptoRow.holds Tryz.pinned (OpenSpec.upto segAcksSpec)

/-- 'sextetlaw13.SegEpochs', WHERE WHAT IT READS IS OF BULK AT MOST 1048576: true; the input reads as it did. -/
def segEpochsUptoRow : OpenClaim := { program := "ytefaghnlmmgpcaagreatdoor", sum := "b04e89d59f8892cea5a70352b75edae17e5e8382de15c5e861778dfde0de9da9", func := "sextet/sextetlaw13.SegEpochs", spec := "segEpochs", inPlace := ["slices.overlaps[sextet/api.Redo]", "slices.overlaps[sextet/api.Entry]"], unfollowed := true, recurses := true, named := ["sextet/api.ErrRange", "sextet/api.ErrFull", "sextet/api.ErrCrash", "sextet/api.ErrEnd", "sextet/api.ErrShape", "sextet/api.ErrMany", "sextet/api.ErrThere", "sextet/api.ErrKind", "sextet/api.ErrState", "sextet/api.ErrNone"], apart := false, laid := [("sextet/api.ErrEnd", laid_sextet_api_ErrEnd), ("sextet/api.ErrShape", laid_sextet_api_ErrShape), ("sextet/api.ErrMany", laid_sextet_api_ErrMany), ("sextet/api.ErrRange", laid_sextet_api_ErrRange), ("sextet/api.ErrKind", laid_sextet_api_ErrKind), ("sextet/api.ErrNone", laid_sextet_api_ErrNone), ("sextet/api.ErrThere", laid_sextet_api_ErrThere), ("sextet/api.ErrFull", laid_sextet_api_ErrFull), ("sextet/api.ErrCrash", laid_sextet_api_ErrCrash), ("sextet/api.ErrState", laid_sextet_api_ErrState)], narrowed := true }
def SegEpochsUptoSaid : Prop := segEpochsUptoRow.holds Tryz.pinned (OpenSpec.upto segEpochsSpec)

/-- 'sextetlaw19.VolEpochs', WHERE WHAT IT READS IS OF BULK AT MOST 1048576: true; the input reads as it did. -/
def volEpochsUptoRow : OpenClaim := { program := "ytefaghnlmmgpcaagreatdoor", sum := "b04e89d59f8892cea5a70352b75edae17e5e8382de15c5e861778dfde0de9da9", func := "sextet/sextetlaw19.VolEpochs", spec := "volEpochs", inPlace := ["slices.overlaps[sextet/api.Redo]"], unfollowed := true, recurses := true, named := ["sextet/api.ErrMany", "sextet/api.ErrState", "sextet/api.ErrThere", "sextet/api.ErrRange", "sextet/api.ErrShape", "sextet/api.ErrFull", "sextet/api.ErrCrash", "sextet/api.ErrEnd", "sextet/api.ErrKind", "sextet/api.ErrFenced", "sextet/api.ErrSum", "sextet/api.ErrNone", "sextet/api.ErrConflict", "sextet/api.ErrWaits", "sextet/api.ErrLimit", "sextet/api.ErrWord", "sextet/api.ErrNumber"], apart := false, laid := [("sextet/api.ErrEnd", laid_sextet_api_ErrEnd), ("sextet/api.ErrSum", laid_sextet_api_ErrSum), ("sextet/api.ErrShape", laid_sextet_api_ErrShape), ("sextet/api.ErrMany", laid_sextet_api_ErrMany), ("sextet/api.ErrRange", laid_sextet_api_ErrRange), ("sextet/api.ErrKind", laid_sextet_api_ErrKind), ("sextet/api.ErrNone", laid_sextet_api_ErrNone), ("sextet/api.ErrThere", laid_sextet_api_ErrThere), ("sextet/api.ErrFull", laid_sextet_api_ErrFull), ("sextet/api.ErrCrash", laid_sextet_api_ErrCrash), ("sextet/api.ErrState", laid_sextet_api_ErrState), ("sextet/api.ErrConflict", laid_sextet_api_ErrConflict), ("sextet/api.ErrWaits", laid_sextet_api_ErrWaits), ("sextet/api.ErrLimit", laid_sextet_api_ErrLimit), ("sextet/api.ErrFenced", laid_sextet_api_ErrFenced), ("sextet/api.ErrWord", laid_sextet_api_ErrWord), ("sextet/api.ErrNumber", laid_sextet_api_ErrNumber)], narrowed := true }
def VolEpochsUptoSaid : Prop := volEpochsUptoRow.holds Tryz.pinned (OpenSpec.upto volEpochsSpec)

end Rows
end Go.Proofs.YtefaghnlmmgpcaaGreatDoor
