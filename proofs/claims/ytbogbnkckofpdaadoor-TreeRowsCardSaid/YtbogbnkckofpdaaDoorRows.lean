/-
  NARROWER THAN 'FOR EVERY INPUT', by the rows' own cells (each row's printed sentence says how): UndoOrder: laid · UndoBounds: laid · UndoSpoilt: laid · TreeShares: laid · ScanFrom: laid · ScanTwice: laid · ScanPrefix: laid · TreeCheck: laid · TreeValues: laid · TreeMakes: laid · TreeRows: laid.
  DERIVED. THE GIVEN ROWS OF THIS SEAT. 11 by the template 'for every input the law returns true; each argument reads behind the call as it read before'; 0 by the template 'total and deterministic' (their statements: YtbogbnkckofpdaaDoorTotals.lean).
  GIVEN WITH THE SEED: the statements are not yours to turn. If you find one false, say at which input.
  Laid BY PROGRAM, IN A SANDBOX (cutbox-rows.mjs): the forced cells as the released guide's own fill.sh prints them over the translation 159635e68af0603a… (all of the seat's roots in one cut). By AI agents, Wed Nov 11 2026. No macro, syntax, notation, axiom, sorry.
-/
import Derived.Test.YtbogbnkckofpdaaDoorChecked
import GoSem.Claim
import GoSem.ClaimJoined
import GoSem.ClaimMapViews
import Derived.JoinedTies
import Derived.KernelRfl
namespace Go.Proofs.YtbogbnkckofpdaaDoor
/- THE CELL 'sum', in the pinned program and in every row, IS THE sha256 OF THE DUMP (.gsa) THAT YtbogbnkckofpdaaDoorProg.lean LOADS. Nothing in Lean hashes anything: it is a label: what it is worth is what the hold of that sum in a sandbox is worth. -/
noncomputable def Tryd.pinned : Pinned := { name := "ytbogbnkckofpdaadoor", sum := "159635e68af0603ae6b15d6eb212ec55536ac321ba86b777bf6a9175c6ff6db4", checked := Tryd.checked }
namespace Rows
def none {H : Type} : Left H := { results := [], args := [] }

/- WHAT THE LISTED PACKAGE-LEVEL VARIABLES READ AS WHEN THE CALL BEGINS. Each datum BY PROGRAM (the guide's laid-datum.mjs) off the statement by which the dump's own 'gosem.cut.vars' lays the variable. In a bare row this is a premise. The card (YtbogbnkckofpdaaDoorCards.lean) ties it to the program's text. -/
def laid_sextet_api_ErrRange {H : Type} : DataW H := .iface "*errors.errorString" (.ptr (.agg [.lit (.string [97, 32, 110, 117, 109, 98, 101, 114, 32, 111, 117, 116, 32, 111, 102, 32, 105, 116, 115, 32, 114, 97, 110, 103, 101])]))
def laid_sextet_api_ErrEnd {H : Type} : DataW H := .iface "*errors.errorString" (.ptr (.agg [.lit (.string [105, 116, 32, 101, 110, 100, 115, 32, 116, 111, 111, 32, 101, 97, 114, 108, 121])]))
def laid_sextet_api_ErrSum {H : Type} : DataW H := .iface "*errors.errorString" (.ptr (.agg [.lit (.string [116, 104, 101, 32, 115, 117, 109, 32, 105, 115, 32, 97, 110, 111, 116, 104, 101, 114, 32, 111, 110, 101])]))
def laid_sextet_api_ErrShape {H : Type} : DataW H := .iface "*errors.errorString" (.ptr (.agg [.lit (.string [110, 111, 116, 32, 97, 115, 32, 105, 116, 32, 104, 97, 115, 32, 116, 111, 32, 98, 101])]))
def laid_sextet_api_ErrMany {H : Type} : DataW H := .iface "*errors.errorString" (.ptr (.agg [.lit (.string [116, 111, 111, 32, 109, 97, 110, 121])]))
def laid_sextet_api_ErrKind {H : Type} : DataW H := .iface "*errors.errorString" (.ptr (.agg [.lit (.string [110, 111, 32, 115, 117, 99, 104, 32, 107, 105, 110, 100])]))
def laid_sextet_api_ErrNone {H : Type} : DataW H := .iface "*errors.errorString" (.ptr (.agg [.lit (.string [116, 104, 101, 114, 101, 32, 105, 115, 32, 110, 111, 110, 101])]))
def laid_sextet_api_ErrThere {H : Type} : DataW H := .iface "*errors.errorString" (.ptr (.agg [.lit (.string [116, 104, 101, 114, 101, 32, 105, 115, 32, 111, 110, 101])]))
def laid_sextet_api_ErrFull {H : Type} : DataW H := .iface "*errors.errorString" (.ptr (.agg [.lit (.string [116, 104, 101, 114, 101, 32, 105, 115, 32, 110, 111, 32, 114, 111, 111, 109])]))
def laid_sextet_api_ErrCrash {H : Type} : DataW H := .iface "*errors.errorString" (.ptr (.agg [.lit (.string [105, 116, 32, 105, 115, 32, 100, 111, 119, 110])]))
def laid_sextet_api_ErrState {H : Type} : DataW H := .iface "*errors.errorString" (.ptr (.agg [.lit (.string [110, 111, 116, 32, 105, 110, 32, 116, 104, 105, 115, 32, 115, 116, 97, 116, 101])]))
def laid_sextet_api_ErrConflict {H : Type} : DataW H := .iface "*errors.errorString" (.ptr (.agg [.lit (.string [97, 110, 111, 116, 104, 101, 114, 32, 111, 110, 101, 32, 119, 114, 105, 116, 101, 115, 32, 116, 104, 97, 116])]))
def laid_sextet_api_ErrWaits {H : Type} : DataW H := .iface "*errors.errorString" (.ptr (.agg [.lit (.string [105, 116, 32, 119, 97, 105, 116, 115, 32, 102, 111, 114, 32, 97, 32, 112, 97, 103, 101])]))
def laid_sextet_api_ErrLimit {H : Type} : DataW H := .iface "*errors.errorString" (.ptr (.agg [.lit (.string [116, 111, 111, 32, 102, 97, 114, 32, 97, 104, 101, 97, 100, 32, 111, 102, 32, 119, 104, 97, 116, 32, 105, 115, 32, 100, 117, 114, 97, 98, 108, 101])]))
def laid_sextet_api_ErrFenced {H : Type} : DataW H := .iface "*errors.errorString" (.ptr (.agg [.lit (.string [97, 32, 108, 97, 116, 101, 114, 32, 111, 110, 101, 32, 119, 114, 105, 116, 101, 115])]))
def laid_sextet_api_ErrWord {H : Type} : DataW H := .iface "*errors.errorString" (.ptr (.agg [.lit (.string [110, 111, 32, 115, 117, 99, 104, 32, 119, 111, 114, 100])]))
def laid_sextet_api_ErrNumber {H : Type} : DataW H := .iface "*errors.errorString" (.ptr (.agg [.lit (.string [110, 111, 32, 115, 117, 99, 104, 32, 110, 117, 109, 98, 101, 114])]))

/-- 'sextetlaw23.UndoOrder': WHATEVER THE INPUT: true; the input reads as it did. -/
def undoOrderSpec : ChangeSpec := { name := "undoOrder", fn := fun _ => fun
  | [d1, d2, d3, d4, d5] => { results := [.lit (.bool true)], args := [d1, d2, d3, d4, d5] }
  | _ => none }
def undoOrderRow : OpenClaim := { program := "ytbogbnkckofpdaadoor", sum := "159635e68af0603ae6b15d6eb212ec55536ac321ba86b777bf6a9175c6ff6db4", func := "sextet/sextetlaw23.UndoOrder", spec := "undoOrder", named := ["sextet/api.ErrRange"], apart := false, laid := [("sextet/api.ErrRange", laid_sextet_api_ErrRange)] }
def UndoOrderSaid : Prop := undoOrderRow.holds Tryd.pinned (OpenSpec.ofChange undoOrderSpec)

/-- ITS FALSE NEIGHBOUR: 'it returns false'. Refute it at one input. -/
def undoOrderWrong : ChangeSpec := { name := "undoOrder", fn := fun _ => fun
  | [d1, d2, d3, d4, d5] => { results := [.lit (.bool false)], args := [d1, d2, d3, d4, d5] }
  | _ => none }
def UndoOrderWrongFalsely : Prop := undoOrderRow.holds Tryd.pinned (OpenSpec.ofChange undoOrderWrong)

/-- 'sextetlaw23.UndoBounds': WHATEVER THE INPUT: true; the input reads as it did. -/
def undoBoundsSpec : ChangeSpec := { name := "undoBounds", fn := fun _ => fun
  | [d1, d2, d3, d4, d5] => { results := [.lit (.bool true)], args := [d1, d2, d3, d4, d5] }
  | _ => none }
def undoBoundsRow : OpenClaim := { program := "ytbogbnkckofpdaadoor", sum := "159635e68af0603ae6b15d6eb212ec55536ac321ba86b777bf6a9175c6ff6db4", func := "sextet/sextetlaw23.UndoBounds", spec := "undoBounds", named := ["sextet/api.ErrRange", "sextet/api.ErrEnd", "sextet/api.ErrSum", "sextet/api.ErrShape", "sextet/api.ErrMany", "sextet/api.ErrKind", "sextet/api.ErrNone", "sextet/api.ErrThere", "sextet/api.ErrFull", "sextet/api.ErrCrash", "sextet/api.ErrState", "sextet/api.ErrConflict", "sextet/api.ErrWaits", "sextet/api.ErrLimit", "sextet/api.ErrFenced", "sextet/api.ErrWord", "sextet/api.ErrNumber"], apart := false, laid := [("sextet/api.ErrEnd", laid_sextet_api_ErrEnd), ("sextet/api.ErrSum", laid_sextet_api_ErrSum), ("sextet/api.ErrShape", laid_sextet_api_ErrShape), ("sextet/api.ErrMany", laid_sextet_api_ErrMany), ("sextet/api.ErrRange", laid_sextet_api_ErrRange), ("sextet/api.ErrKind", laid_sextet_api_ErrKind), ("sextet/api.ErrNone", laid_sextet_api_ErrNone), ("sextet/api.ErrThere", laid_sextet_api_ErrThere), ("sextet/api.ErrFull", laid_sextet_api_ErrFull), ("sextet/api.ErrCrash", laid_sextet_api_ErrCrash), ("sextet/api.ErrState", laid_sextet_api_ErrState), ("sextet/api.ErrConflict", laid_sextet_api_ErrConflict), ("sextet/api.ErrWaits", laid_sextet_api_ErrWaits), ("sextet/api.ErrLimit", laid_sextet_api_ErrLimit), ("sextet/api.ErrFenced", laid_sextet_api_ErrFenced), ("sextet/api.ErrWord", laid_sextet_api_ErrWord), ("sextet/api.ErrNumber", laid_sextet_api_ErrNumber)] }
def UndoBoundsSaid : Prop := undoBoundsRow.holds Tryd.pinned (OpenSpec.ofChange undoBoundsSpec)

/-- ITS FALSE NEIGHBOUR: 'it returns false'. Refute it at one input. -/
def undoBoundsWrong : ChangeSpec := { name := "undoBounds", fn := fun _ => fun
  | [d1, d2, d3, d4, d5] => { results := [.lit (.bool false)], args := [d1, d2, d3, d4, d5] }
  | _ => none }
def UndoBoundsWrongFalsely : Prop := undoBoundsRow.holds Tryd.pinned (OpenSpec.ofChange undoBoundsWrong)

/-- 'sextetlaw23.UndoSpoilt': WHATEVER THE INPUT: true; the input reads as it did. -/
def undoSpoiltSpec : ChangeSpec := { name := "undoSpoilt", fn := fun _ => fun
  | [d1, d2, d3, d4] => { results := [.lit (.bool true)], args := [d1, d2, d3, d4] }
  | _ => none }
def undoSpoiltRow : OpenClaim := { program := "ytbogbnkckofpdaadoor", sum := "159635e68af0603ae6b15d6eb212ec55536ac321ba86b777bf6a9175c6ff6db4", func := "sextet/sextetlaw23.UndoSpoilt", spec := "undoSpoilt", named := ["sextet/api.ErrRange", "sextet/api.ErrShape", "sextet/api.ErrEnd", "sextet/api.ErrSum", "sextet/api.ErrMany", "sextet/api.ErrKind", "sextet/api.ErrNone", "sextet/api.ErrThere", "sextet/api.ErrFull", "sextet/api.ErrCrash", "sextet/api.ErrState", "sextet/api.ErrConflict", "sextet/api.ErrWaits", "sextet/api.ErrLimit", "sextet/api.ErrFenced", "sextet/api.ErrWord", "sextet/api.ErrNumber"], apart := false, laid := [("sextet/api.ErrEnd", laid_sextet_api_ErrEnd), ("sextet/api.ErrSum", laid_sextet_api_ErrSum), ("sextet/api.ErrShape", laid_sextet_api_ErrShape), ("sextet/api.ErrMany", laid_sextet_api_ErrMany), ("sextet/api.ErrRange", laid_sextet_api_ErrRange), ("sextet/api.ErrKind", laid_sextet_api_ErrKind), ("sextet/api.ErrNone", laid_sextet_api_ErrNone), ("sextet/api.ErrThere", laid_sextet_api_ErrThere), ("sextet/api.ErrFull", laid_sextet_api_ErrFull), ("sextet/api.ErrCrash", laid_sextet_api_ErrCrash), ("sextet/api.ErrState", laid_sextet_api_ErrState), ("sextet/api.ErrConflict", laid_sextet_api_ErrConflict), ("sextet/api.ErrWaits", laid_sextet_api_ErrWaits), ("sextet/api.ErrLimit", laid_sextet_api_ErrLimit), ("sextet/api.ErrFenced", laid_sextet_api_ErrFenced), ("sextet/api.ErrWord", laid_sextet_api_ErrWord), ("sextet/api.ErrNumber", laid_sextet_api_ErrNumber)] }
def UndoSpoiltSaid : Prop := undoSpoiltRow.holds Tryd.pinned (OpenSpec.ofChange undoSpoiltSpec)

/-- ITS FALSE NEIGHBOUR: 'it returns false'. Refute it at one input. -/
def undoSpoiltWrong : ChangeSpec := { name := "undoSpoilt", fn := fun _ => fun
  | [d1, d2, d3, d4] => { results := [.lit (.bool false)], args := [d1, d2, d3, d4] }
  | _ => none }
def UndoSpoiltWrongFalsely : Prop := undoSpoiltRow.holds Tryd.pinned (OpenSpec.ofChange undoSpoiltWrong)

/-- 'sextetlaw21.TreeShares': WHATEVER THE INPUT: true; the input reads as it did. -/
def treeSharesSpec : ChangeSpec := { name := "treeShares", fn := fun _ => fun
  | [d1, d2] => { results := [.lit (.bool true)], args := [d1, d2] }
  | _ => none }
def treeSharesRow : OpenClaim := { program := "ytbogbnkckofpdaadoor", sum := "159635e68af0603ae6b15d6eb212ec55536ac321ba86b777bf6a9175c6ff6db4", func := "sextet/sextetlaw21.TreeShares", spec := "treeShares", inPlace := ["slices.overlaps[sextet/api.Entry]", "internal/bytealg.Compare"], unfollowed := true, recurses := true, named := ["sextet/api.ErrRange", "sextet/api.ErrKind", "sextet/api.ErrMany", "sextet/api.ErrShape", "sextet/api.ErrWaits", "sextet/api.ErrFull"], apart := false, laid := [("sextet/api.ErrShape", laid_sextet_api_ErrShape), ("sextet/api.ErrMany", laid_sextet_api_ErrMany), ("sextet/api.ErrRange", laid_sextet_api_ErrRange), ("sextet/api.ErrKind", laid_sextet_api_ErrKind), ("sextet/api.ErrFull", laid_sextet_api_ErrFull), ("sextet/api.ErrWaits", laid_sextet_api_ErrWaits)] }
def TreeSharesSaid : Prop := treeSharesRow.holds Tryd.pinned (OpenSpec.ofChange treeSharesSpec)

/-- ITS FALSE NEIGHBOUR: 'it returns false'. Refute it at one input. -/
def treeSharesWrong : ChangeSpec := { name := "treeShares", fn := fun _ => fun
  | [d1, d2] => { results := [.lit (.bool false)], args := [d1, d2] }
  | _ => none }
def TreeSharesWrongFalsely : Prop := treeSharesRow.holds Tryd.pinned (OpenSpec.ofChange treeSharesWrong)

/-- 'sextetlaw22.ScanFrom': WHATEVER THE INPUT: true; the input reads as it did. -/
def scanFromSpec : ChangeSpec := { name := "scanFrom", fn := fun _ => fun
  | [d1, d2] => { results := [.lit (.bool true)], args := [d1, d2] }
  | _ => none }
def scanFromRow : OpenClaim := { program := "ytbogbnkckofpdaadoor", sum := "159635e68af0603ae6b15d6eb212ec55536ac321ba86b777bf6a9175c6ff6db4", func := "sextet/sextetlaw22.ScanFrom", spec := "scanFrom", inPlace := ["slices.overlaps[sextet/api.Entry]", "internal/bytealg.Compare"], unfollowed := true, recurses := true, named := ["sextet/api.ErrRange", "sextet/api.ErrKind", "sextet/api.ErrMany", "sextet/api.ErrShape", "sextet/api.ErrWaits", "sextet/api.ErrFull"], apart := false, laid := [("sextet/api.ErrShape", laid_sextet_api_ErrShape), ("sextet/api.ErrMany", laid_sextet_api_ErrMany), ("sextet/api.ErrRange", laid_sextet_api_ErrRange), ("sextet/api.ErrKind", laid_sextet_api_ErrKind), ("sextet/api.ErrFull", laid_sextet_api_ErrFull), ("sextet/api.ErrWaits", laid_sextet_api_ErrWaits)] }
def ScanFromSaid : Prop := scanFromRow.holds Tryd.pinned (OpenSpec.ofChange scanFromSpec)

/-- ITS FALSE NEIGHBOUR: 'it returns false'. Refute it at one input. -/
def scanFromWrong : ChangeSpec := { name := "scanFrom", fn := fun _ => fun
  | [d1, d2] => { results := [.lit (.bool false)], args := [d1, d2] }
  | _ => none }
def ScanFromWrongFalsely : Prop := scanFromRow.holds Tryd.pinned (OpenSpec.ofChange scanFromWrong)

/-- 'sextetlaw22.ScanTwice': WHATEVER THE INPUT: true; the input reads as it did. -/
def scanTwiceSpec : ChangeSpec := { name := "scanTwice", fn := fun _ => fun
  | [d] => { results := [.lit (.bool true)], args := [d] }
  | _ => none }
def scanTwiceRow : OpenClaim := { program := "ytbogbnkckofpdaadoor", sum := "159635e68af0603ae6b15d6eb212ec55536ac321ba86b777bf6a9175c6ff6db4", func := "sextet/sextetlaw22.ScanTwice", spec := "scanTwice", inPlace := ["slices.overlaps[sextet/api.Entry]", "internal/bytealg.Compare"], unfollowed := true, recurses := true, named := ["sextet/api.ErrRange", "sextet/api.ErrKind", "sextet/api.ErrMany", "sextet/api.ErrShape", "sextet/api.ErrWaits", "sextet/api.ErrFull", "sextet/api.ErrEnd", "sextet/api.ErrSum", "sextet/api.ErrNone", "sextet/api.ErrThere", "sextet/api.ErrCrash", "sextet/api.ErrState", "sextet/api.ErrConflict", "sextet/api.ErrLimit", "sextet/api.ErrFenced", "sextet/api.ErrWord", "sextet/api.ErrNumber"], apart := false, laid := [("sextet/api.ErrEnd", laid_sextet_api_ErrEnd), ("sextet/api.ErrSum", laid_sextet_api_ErrSum), ("sextet/api.ErrShape", laid_sextet_api_ErrShape), ("sextet/api.ErrMany", laid_sextet_api_ErrMany), ("sextet/api.ErrRange", laid_sextet_api_ErrRange), ("sextet/api.ErrKind", laid_sextet_api_ErrKind), ("sextet/api.ErrNone", laid_sextet_api_ErrNone), ("sextet/api.ErrThere", laid_sextet_api_ErrThere), ("sextet/api.ErrFull", laid_sextet_api_ErrFull), ("sextet/api.ErrCrash", laid_sextet_api_ErrCrash), ("sextet/api.ErrState", laid_sextet_api_ErrState), ("sextet/api.ErrConflict", laid_sextet_api_ErrConflict), ("sextet/api.ErrWaits", laid_sextet_api_ErrWaits), ("sextet/api.ErrLimit", laid_sextet_api_ErrLimit), ("sextet/api.ErrFenced", laid_sextet_api_ErrFenced), ("sextet/api.ErrWord", laid_sextet_api_ErrWord), ("sextet/api.ErrNumber", laid_sextet_api_ErrNumber)] }
def ScanTwiceSaid : Prop := scanTwiceRow.holds Tryd.pinned (OpenSpec.ofChange scanTwiceSpec)

/-- ITS FALSE NEIGHBOUR: 'it returns false'. Refute it at one input. -/
def scanTwiceWrong : ChangeSpec := { name := "scanTwice", fn := fun _ => fun
  | [d] => { results := [.lit (.bool false)], args := [d] }
  | _ => none }
def ScanTwiceWrongFalsely : Prop := scanTwiceRow.holds Tryd.pinned (OpenSpec.ofChange scanTwiceWrong)

/-- 'sextetlaw22.ScanPrefix': WHATEVER THE INPUT: true; the input reads as it did. -/
def scanPrefixSpec : ChangeSpec := { name := "scanPrefix", fn := fun _ => fun
  | [d1, d2, d3] => { results := [.lit (.bool true)], args := [d1, d2, d3] }
  | _ => none }
def scanPrefixRow : OpenClaim := { program := "ytbogbnkckofpdaadoor", sum := "159635e68af0603ae6b15d6eb212ec55536ac321ba86b777bf6a9175c6ff6db4", func := "sextet/sextetlaw22.ScanPrefix", spec := "scanPrefix", inPlace := ["slices.overlaps[sextet/api.Entry]", "internal/bytealg.Compare"], unfollowed := true, recurses := true, named := ["sextet/api.ErrRange", "sextet/api.ErrKind", "sextet/api.ErrMany", "sextet/api.ErrShape", "sextet/api.ErrWaits", "sextet/api.ErrFull"], apart := false, laid := [("sextet/api.ErrShape", laid_sextet_api_ErrShape), ("sextet/api.ErrMany", laid_sextet_api_ErrMany), ("sextet/api.ErrRange", laid_sextet_api_ErrRange), ("sextet/api.ErrKind", laid_sextet_api_ErrKind), ("sextet/api.ErrFull", laid_sextet_api_ErrFull), ("sextet/api.ErrWaits", laid_sextet_api_ErrWaits)] }
def ScanPrefixSaid : Prop := scanPrefixRow.holds Tryd.pinned (OpenSpec.ofChange scanPrefixSpec)

/-- ITS FALSE NEIGHBOUR: 'it returns false'. Refute it at one input. -/
def scanPrefixWrong : ChangeSpec := { name := "scanPrefix", fn := fun _ => fun
  | [d1, d2, d3] => { results := [.lit (.bool false)], args := [d1, d2, d3] }
  | _ => none }
def ScanPrefixWrongFalsely : Prop := scanPrefixRow.holds Tryd.pinned (OpenSpec.ofChange scanPrefixWrong)

/-- 'sextetlaw21.TreeCheck': WHATEVER THE INPUT: true; the input reads as it did. -/
def treeCheckSpec : ChangeSpec := { name := "treeCheck", fn := fun _ => fun
  | [d1, d2, d3] => { results := [.lit (.bool true)], args := [d1, d2, d3] }
  | _ => none }
def treeCheckRow : OpenClaim := { program := "ytbogbnkckofpdaadoor", sum := "159635e68af0603ae6b15d6eb212ec55536ac321ba86b777bf6a9175c6ff6db4", func := "sextet/sextetlaw21.TreeCheck", spec := "treeCheck", inPlace := ["slices.overlaps[sextet/api.Entry]", "internal/bytealg.Compare"], unfollowed := true, recurses := true, named := ["sextet/api.ErrRange", "sextet/api.ErrKind", "sextet/api.ErrMany", "sextet/api.ErrShape", "sextet/api.ErrWaits", "sextet/api.ErrFull", "sextet/api.ErrEnd", "sextet/api.ErrSum", "sextet/api.ErrNone", "sextet/api.ErrThere", "sextet/api.ErrCrash", "sextet/api.ErrState", "sextet/api.ErrConflict", "sextet/api.ErrLimit", "sextet/api.ErrFenced", "sextet/api.ErrWord", "sextet/api.ErrNumber"], apart := false, laid := [("sextet/api.ErrEnd", laid_sextet_api_ErrEnd), ("sextet/api.ErrSum", laid_sextet_api_ErrSum), ("sextet/api.ErrShape", laid_sextet_api_ErrShape), ("sextet/api.ErrMany", laid_sextet_api_ErrMany), ("sextet/api.ErrRange", laid_sextet_api_ErrRange), ("sextet/api.ErrKind", laid_sextet_api_ErrKind), ("sextet/api.ErrNone", laid_sextet_api_ErrNone), ("sextet/api.ErrThere", laid_sextet_api_ErrThere), ("sextet/api.ErrFull", laid_sextet_api_ErrFull), ("sextet/api.ErrCrash", laid_sextet_api_ErrCrash), ("sextet/api.ErrState", laid_sextet_api_ErrState), ("sextet/api.ErrConflict", laid_sextet_api_ErrConflict), ("sextet/api.ErrWaits", laid_sextet_api_ErrWaits), ("sextet/api.ErrLimit", laid_sextet_api_ErrLimit), ("sextet/api.ErrFenced", laid_sextet_api_ErrFenced), ("sextet/api.ErrWord", laid_sextet_api_ErrWord), ("sextet/api.ErrNumber", laid_sextet_api_ErrNumber)] }
def TreeCheckSaid : Prop := treeCheckRow.holds Tryd.pinned (OpenSpec.ofChange treeCheckSpec)

/-- ITS FALSE NEIGHBOUR: 'it returns false'. Refute it at one input. -/
def treeCheckWrong : ChangeSpec := { name := "treeCheck", fn := fun _ => fun
  | [d1, d2, d3] => { results := [.lit (.bool false)], args := [d1, d2, d3] }
  | _ => none }
def TreeCheckWrongFalsely : Prop := treeCheckRow.holds Tryd.pinned (OpenSpec.ofChange treeCheckWrong)

/-- 'sextetlaw21.TreeValues': WHATEVER THE INPUT: true; the input reads as it did. -/
def treeValuesSpec : ChangeSpec := { name := "treeValues", fn := fun _ => fun
  | [d1, d2, d3, d4] => { results := [.lit (.bool true)], args := [d1, d2, d3, d4] }
  | _ => none }
def treeValuesRow : OpenClaim := { program := "ytbogbnkckofpdaadoor", sum := "159635e68af0603ae6b15d6eb212ec55536ac321ba86b777bf6a9175c6ff6db4", func := "sextet/sextetlaw21.TreeValues", spec := "treeValues", inPlace := ["slices.overlaps[sextet/api.Entry]", "internal/bytealg.Compare"], unfollowed := true, recurses := true, named := ["sextet/api.ErrRange", "sextet/api.ErrKind", "sextet/api.ErrMany", "sextet/api.ErrShape", "sextet/api.ErrWaits", "sextet/api.ErrFull"], apart := false, laid := [("sextet/api.ErrShape", laid_sextet_api_ErrShape), ("sextet/api.ErrMany", laid_sextet_api_ErrMany), ("sextet/api.ErrRange", laid_sextet_api_ErrRange), ("sextet/api.ErrKind", laid_sextet_api_ErrKind), ("sextet/api.ErrFull", laid_sextet_api_ErrFull), ("sextet/api.ErrWaits", laid_sextet_api_ErrWaits)] }
def TreeValuesSaid : Prop := treeValuesRow.holds Tryd.pinned (OpenSpec.ofChange treeValuesSpec)

/-- ITS FALSE NEIGHBOUR: 'it returns false'. Refute it at one input. -/
def treeValuesWrong : ChangeSpec := { name := "treeValues", fn := fun _ => fun
  | [d1, d2, d3, d4] => { results := [.lit (.bool false)], args := [d1, d2, d3, d4] }
  | _ => none }
def TreeValuesWrongFalsely : Prop := treeValuesRow.holds Tryd.pinned (OpenSpec.ofChange treeValuesWrong)

/-- 'sextetlaw21.TreeMakes': WHATEVER THE INPUT: true; the input reads as it did. -/
def treeMakesSpec : ChangeSpec := { name := "treeMakes", fn := fun _ => fun
  | [d] => { results := [.lit (.bool true)], args := [d] }
  | _ => none }
def treeMakesRow : OpenClaim := { program := "ytbogbnkckofpdaadoor", sum := "159635e68af0603ae6b15d6eb212ec55536ac321ba86b777bf6a9175c6ff6db4", func := "sextet/sextetlaw21.TreeMakes", spec := "treeMakes", inPlace := ["slices.overlaps[sextet/api.Entry]", "internal/bytealg.Compare"], unfollowed := true, recurses := true, named := ["sextet/api.ErrRange", "sextet/api.ErrKind", "sextet/api.ErrMany", "sextet/api.ErrShape", "sextet/api.ErrWaits", "sextet/api.ErrFull", "sextet/api.ErrEnd", "sextet/api.ErrSum", "sextet/api.ErrNone", "sextet/api.ErrThere", "sextet/api.ErrCrash", "sextet/api.ErrState", "sextet/api.ErrConflict", "sextet/api.ErrLimit", "sextet/api.ErrFenced", "sextet/api.ErrWord", "sextet/api.ErrNumber"], apart := false, laid := [("sextet/api.ErrEnd", laid_sextet_api_ErrEnd), ("sextet/api.ErrSum", laid_sextet_api_ErrSum), ("sextet/api.ErrShape", laid_sextet_api_ErrShape), ("sextet/api.ErrMany", laid_sextet_api_ErrMany), ("sextet/api.ErrRange", laid_sextet_api_ErrRange), ("sextet/api.ErrKind", laid_sextet_api_ErrKind), ("sextet/api.ErrNone", laid_sextet_api_ErrNone), ("sextet/api.ErrThere", laid_sextet_api_ErrThere), ("sextet/api.ErrFull", laid_sextet_api_ErrFull), ("sextet/api.ErrCrash", laid_sextet_api_ErrCrash), ("sextet/api.ErrState", laid_sextet_api_ErrState), ("sextet/api.ErrConflict", laid_sextet_api_ErrConflict), ("sextet/api.ErrWaits", laid_sextet_api_ErrWaits), ("sextet/api.ErrLimit", laid_sextet_api_ErrLimit), ("sextet/api.ErrFenced", laid_sextet_api_ErrFenced), ("sextet/api.ErrWord", laid_sextet_api_ErrWord), ("sextet/api.ErrNumber", laid_sextet_api_ErrNumber)] }
def TreeMakesSaid : Prop := treeMakesRow.holds Tryd.pinned (OpenSpec.ofChange treeMakesSpec)

/-- ITS FALSE NEIGHBOUR: 'it returns false'. Refute it at one input. -/
def treeMakesWrong : ChangeSpec := { name := "treeMakes", fn := fun _ => fun
  | [d] => { results := [.lit (.bool false)], args := [d] }
  | _ => none }
def TreeMakesWrongFalsely : Prop := treeMakesRow.holds Tryd.pinned (OpenSpec.ofChange treeMakesWrong)

/-- 'sextetlaw21.TreeRows': WHATEVER THE INPUT: true; the input reads as it did. -/
def treeRowsSpec : ChangeSpec := { name := "treeRows", fn := fun _ => fun
  | [d1, d2, d3] => { results := [.lit (.bool true)], args := [d1, d2, d3] }
  | _ => none }
def treeRowsRow : OpenClaim := { program := "ytbogbnkckofpdaadoor", sum := "159635e68af0603ae6b15d6eb212ec55536ac321ba86b777bf6a9175c6ff6db4", func := "sextet/sextetlaw21.TreeRows", spec := "treeRows", inPlace := ["slices.overlaps[sextet/api.Entry]", "internal/bytealg.Compare"], unfollowed := true, recurses := true, named := ["sextet/api.ErrRange", "sextet/api.ErrKind", "sextet/api.ErrMany", "sextet/api.ErrShape", "sextet/api.ErrWaits", "sextet/api.ErrFull"], apart := false, laid := [("sextet/api.ErrShape", laid_sextet_api_ErrShape), ("sextet/api.ErrMany", laid_sextet_api_ErrMany), ("sextet/api.ErrRange", laid_sextet_api_ErrRange), ("sextet/api.ErrKind", laid_sextet_api_ErrKind), ("sextet/api.ErrFull", laid_sextet_api_ErrFull), ("sextet/api.ErrWaits", laid_sextet_api_ErrWaits)] }
def TreeRowsSaid : Prop := treeRowsRow.holds Tryd.pinned (OpenSpec.ofChange treeRowsSpec)

/-- ITS FALSE NEIGHBOUR: 'it returns false'. Refute it at one input. -/
def treeRowsWrong : ChangeSpec := { name := "treeRows", fn := fun _ => fun
  | [d1, d2, d3] => { results := [.lit (.bool false)], args := [d1, d2, d3] }
  | _ => none }
def TreeRowsWrongFalsely : Prop := treeRowsRow.holds Tryd.pinned (OpenSpec.ofChange treeRowsWrong)

/- THE SECOND FORM. 'bulk': how many values and letters a reading holds, each counted each time it is reached (what is shared counts as often as it is met; a slice's spare places count too). A statement '..UptoSaid' is the law's where the arguments, and the package variables that the reading takes, are together of bulk at most 1048576: NARROWER than '..Said'. Prove '..Said' where nothing that the law and all that it calls make is longer than what came in: it says more and counts as full. Else prove '..UptoSaid'. A law counts once. -/
mutual
def uptoBulk {H : Type} : DataW H → Nat
  | .lit (.string bytes) => bytes.length + 1
  | .lit _ => 1
  | .nil => 1
  | .ptr d => uptoBulk d + 1
  | .slice elems spare => uptoBulkAll elems + uptoBulkAll spare + 1
  | .agg parts => uptoBulkAll parts + 1
  | .iface _ d => uptoBulk d + 1
  | .map entries => uptoBulkEntries entries + 1
  | .held _ => 1
def uptoBulkAll {H : Type} : List (DataW H) → Nat
  | [] => 0
  | d :: r => uptoBulk d + uptoBulkAll r
def uptoBulkEntries {H : Type} : List (Lit × DataW H) → Nat
  | [] => 0
  | x :: r => uptoBulkEntry x + uptoBulkEntries r
def uptoBulkEntry {H : Type} : Lit × DataW H → Nat
  | (.string bytes, d) => bytes.length + uptoBulk d + 1
  | (_, d) => uptoBulk d + 1
 end
def uptoSmall : (H : Type) → List (DataW H) → Bool := fun _ ds => decide (uptoBulkAll ds ≤ 1048576)
def OpenSpec.upto (s : _root_.Go.ChangeSpec) : _root_.Go.OpenSpec := { _root_.Go.OpenSpec.ofChange s with cond := some uptoSmall }

/-- 'sextetlaw23.UndoOrder', WHERE WHAT IT READS IS OF BULK AT MOST 1048576: true; the input reads as it did. -/
def undoOrderUptoRow : OpenClaim := { program := "ytbogbnkckofpdaadoor", sum := "159635e68af0603ae6b15d6eb212ec55536ac321ba86b777bf6a9175c6ff6db4", func := "sextet/sextetlaw23.UndoOrder", spec := "undoOrder", named := ["sextet/api.ErrRange"], apart := false, laid := [("sextet/api.ErrRange", laid_sextet_api_ErrRange)], narrowed := true }
def UndoOrderUptoSaid : Prop := undoOrderUptoRow.holds Tryd.pinned (OpenSpec.upto undoOrderSpec)

/-- 'sextetlaw23.UndoBounds', WHERE WHAT IT READS IS OF BULK AT MOST 1048576: true; the input reads as it did. -/
def undoBoundsUptoRow : OpenClaim := { program := "ytbogbnkckofpdaadoor", sum := "159635e68af0603ae6b15d6eb212ec55536ac321ba86b777bf6a9175c6ff6db4", func := "sextet/sextetlaw23.UndoBounds", spec := "undoBounds", named := ["sextet/api.ErrRange", "sextet/api.ErrEnd", "sextet/api.ErrSum", "sextet/api.ErrShape", "sextet/api.ErrMany", "sextet/api.ErrKind", "sextet/api.ErrNone", "sextet/api.ErrThere", "sextet/api.ErrFull", "sextet/api.ErrCrash", "sextet/api.ErrState", "sextet/api.ErrConflict", "sextet/api.ErrWaits", "sextet/api.ErrLimit", "sextet/api.ErrFenced", "sextet/api.ErrWord", "sextet/api.ErrNumber"], apart := false, laid := [("sextet/api.ErrEnd", laid_sextet_api_ErrEnd), ("sextet/api.ErrSum", laid_sextet_api_ErrSum), ("sextet/api.ErrShape", laid_sextet_api_ErrShape), ("sextet/api.ErrMany", laid_sextet_api_ErrMany), ("sextet/api.ErrRange", laid_sextet_api_ErrRange), ("sextet/api.ErrKind", laid_sextet_api_ErrKind), ("sextet/api.ErrNone", laid_sextet_api_ErrNone), ("sextet/api.ErrThere", laid_sextet_api_ErrThere), ("sextet/api.ErrFull", laid_sextet_api_ErrFull), ("sextet/api.ErrCrash", laid_sextet_api_ErrCrash), ("sextet/api.ErrState", laid_sextet_api_ErrState), ("sextet/api.ErrConflict", laid_sextet_api_ErrConflict), ("sextet/api.ErrWaits", laid_sextet_api_ErrWaits), ("sextet/api.ErrLimit", laid_sextet_api_ErrLimit), ("sextet/api.ErrFenced", laid_sextet_api_ErrFenced), ("sextet/api.ErrWord", laid_sextet_api_ErrWord), ("sextet/api.ErrNumber", laid_sextet_api_ErrNumber)], narrowed := true }
def UndoBoundsUptoSaid : Prop := undoBoundsUptoRow.holds Tryd.pinned (OpenSpec.upto undoBoundsSpec)

/-- 'sextetlaw23.UndoSpoilt', WHERE WHAT IT READS IS OF BULK AT MOST 1048576: true; the input reads as it did. -/
def undoSpoiltUptoRow : OpenClaim := { program := "ytbogbnkckofpdaadoor", sum := "159635e68af0603ae6b15d6eb212ec55536ac321ba86b777bf6a9175c6ff6db4", func := "sextet/sextetlaw23.UndoSpoilt", spec := "undoSpoilt", named := ["sextet/api.ErrRange", "sextet/api.ErrShape", "sextet/api.ErrEnd", "sextet/api.ErrSum", "sextet/api.ErrMany", "sextet/api.ErrKind", "sextet/api.ErrNone", "sextet/api.ErrThere", "sextet/api.ErrFull", "sextet/api.ErrCrash", "sextet/api.ErrState", "sextet/api.ErrConflict", "sextet/api.ErrWaits", "sextet/api.ErrLimit", "sextet/api.ErrFenced", "sextet/api.ErrWord", "sextet/api.ErrNumber"], apart := false, laid := [("sextet/api.ErrEnd", laid_sextet_api_ErrEnd), ("sextet/api.ErrSum", laid_sextet_api_ErrSum), ("sextet/api.ErrShape", laid_sextet_api_ErrShape), ("sextet/api.ErrMany", laid_sextet_api_ErrMany), ("sextet/api.ErrRange", laid_sextet_api_ErrRange), ("sextet/api.ErrKind", laid_sextet_api_ErrKind), ("sextet/api.ErrNone", laid_sextet_api_ErrNone), ("sextet/api.ErrThere", laid_sextet_api_ErrThere), ("sextet/api.ErrFull", laid_sextet_api_ErrFull), ("sextet/api.ErrCrash", laid_sextet_api_ErrCrash), ("sextet/api.ErrState", laid_sextet_api_ErrState), ("sextet/api.ErrConflict", laid_sextet_api_ErrConflict), ("sextet/api.ErrWaits", laid_sextet_api_ErrWaits), ("sextet/api.ErrLimit", laid_sextet_api_ErrLimit), ("sextet/api.ErrFenced", laid_sextet_api_ErrFenced), ("sextet/api.ErrWord", laid_sextet_api_ErrWord), ("sextet/api.ErrNumber", laid_sextet_api_ErrNumber)], narrowed := true }
def UndoSpoiltUptoSaid : Prop := undoSpoiltUptoRow.holds Tryd.pinned (OpenSpec.upto undoSpoiltSpec)

/-- 'sextetlaw21.TreeShares', WHERE WHAT IT READS IS OF BULK AT MOST 1048576: true; the input reads as it did. -/
def treeSharesUptoRow : OpenClaim := { program := "ytbogbnkckofpdaadoor", sum := "159635e68af0603ae6b15d6eb212ec55536ac321ba86b777bf6a9175c6ff6db4", func := "sextet/sextetlaw21.TreeShares", spec := "treeShares", inPlace := ["slices.overlaps[sextet/api.Entry]", "internal/bytealg.Compare"], unfollowed := true, recurses := true, named := ["sextet/api.ErrRange", "sextet/api.ErrKind", "sextet/api.ErrMany", "sextet/api.ErrShape", "sextet/api.ErrWaits", "sextet/api.ErrFull"], apart := false, laid := [("sextet/api.ErrShape", laid_sextet_api_ErrShape), ("sextet/api.ErrMany", laid_sextet_api_ErrMany), ("sextet/api.ErrRange", laid_sextet_api_ErrRange), ("sextet/api.ErrKind", laid_sextet_api_ErrKind), ("sextet/api.ErrFull", laid_sextet_api_ErrFull), ("sextet/api.ErrWaits", laid_sextet_api_ErrWaits)], narrowed := true }
def TreeSharesUptoSaid : Prop := treeSharesUptoRow.holds Tryd.pinned (OpenSpec.upto treeSharesSpec)

/-- 'sextetlaw22.ScanFrom', WHERE WHAT IT READS IS OF BULK AT MOST 1048576: true; the input reads as it did. -/
def scanFromUptoRow : OpenClaim := { program := "ytbogbnkckofpdaadoor", sum := "159635e68af0603ae6b15d6eb212ec55536ac321ba86b777bf6a9175c6ff6db4", func := "sextet/sextetlaw22.ScanFrom", spec := "scanFrom", inPlace := ["slices.overlaps[sextet/api.Entry]", "internal/bytealg.Compare"], unfollowed := true, recurses := true, named := ["sextet/api.ErrRange", "sextet/api.ErrKind", "sextet/api.ErrMany", "sextet/api.ErrShape", "sextet/api.ErrWaits", "sextet/api.ErrFull"], apart := false, laid := [("sextet/api.ErrShape", laid_sextet_api_ErrShape), ("sextet/api.ErrMany", laid_sextet_api_ErrMany), ("sextet/api.ErrRange", laid_sextet_api_ErrRange), ("sextet/api.ErrKind", laid_sextet_api_ErrKind), ("sextet/api.ErrFull", laid_sextet_api_ErrFull), ("sextet/api.ErrWaits", laid_sextet_api_ErrWaits)], narrowed := true }
def ScanFromUptoSaid : Prop := scanFromUptoRow.holds Tryd.pinned (OpenSpec.upto scanFromSpec)

/-- 'sextetlaw22.ScanTwice', WHERE WHAT IT READS IS OF BULK AT MOST 1048576: true; the input reads as it did. -/
def scanTwiceUptoRow : OpenClaim := { program := "ytbogbnkckofpdaadoor", sum := "159635e68af0603ae6b15d6eb212ec55536ac321ba86b777bf6a9175c6ff6db4", func := "sextet/sextetlaw22.ScanTwice", spec := "scanTwice", inPlace := ["slices.overlaps[sextet/api.Entry]", "internal/bytealg.Compare"], unfollowed := true, recurses := true, named := ["sextet/api.ErrRange", "sextet/api.ErrKind", "sextet/api.ErrMany", "sextet/api.ErrShape", "sextet/api.ErrWaits", "sextet/api.ErrFull", "sextet/api.ErrEnd", "sextet/api.ErrSum", "sextet/api.ErrNone", "sextet/api.ErrThere", "sextet/api.ErrCrash", "sextet/api.ErrState", "sextet/api.ErrConflict", "sextet/api.ErrLimit", "sextet/api.ErrFenced", "sextet/api.ErrWord", "sextet/api.ErrNumber"], apart := false, laid := [("sextet/api.ErrEnd", laid_sextet_api_ErrEnd), ("sextet/api.ErrSum", laid_sextet_api_ErrSum), ("sextet/api.ErrShape", laid_sextet_api_ErrShape), ("sextet/api.ErrMany", laid_sextet_api_ErrMany), ("sextet/api.ErrRange", laid_sextet_api_ErrRange), ("sextet/api.ErrKind", laid_sextet_api_ErrKind), ("sextet/api.ErrNone", laid_sextet_api_ErrNone), ("sextet/api.ErrThere", laid_sextet_api_ErrThere), ("sextet/api.ErrFull", laid_sextet_api_ErrFull), ("sextet/api.ErrCrash", laid_sextet_api_ErrCrash), ("sextet/api.ErrState", laid_sextet_api_ErrState), ("sextet/api.ErrConflict", laid_sextet_api_ErrConflict), ("sextet/api.ErrWaits", laid_sextet_api_ErrWaits), ("sextet/api.ErrLimit", laid_sextet_api_ErrLimit), ("sextet/api.ErrFenced", laid_sextet_api_ErrFenced), ("sextet/api.ErrWord", laid_sextet_api_ErrWord), ("sextet/api.ErrNumber", laid_sextet_api_ErrNumber)], narrowed := true }
def ScanTwiceUptoSaid : Prop := scanTwiceUptoRow.holds Tryd.pinned (OpenSpec.upto scanTwiceSpec)

/-- 'sextetlaw22.ScanPrefix', WHERE WHAT IT READS IS OF BULK AT MOST 1048576: true; the input reads as it did. -/
def scanPrefixUptoRow : OpenClaim := { program := "ytbogbnkckofpdaadoor", sum := "159635e68af0603ae6b15d6eb212ec55536ac321ba86b777bf6a9175c6ff6db4", func := "sextet/sextetlaw22.ScanPrefix", spec := "scanPrefix", inPlace := ["slices.overlaps[sextet/api.Entry]", "internal/bytealg.Compare"], unfollowed := true, recurses := true, named := ["sextet/api.ErrRange", "sextet/api.ErrKind", "sextet/api.ErrMany", "sextet/api.ErrShape", "sextet/api.ErrWaits", "sextet/api.ErrFull"], apart := false, laid := [("sextet/api.ErrShape", laid_sextet_api_ErrShape), ("sextet/api.ErrMany", laid_sextet_api_ErrMany), ("sextet/api.ErrRange", laid_sextet_api_ErrRange), ("sextet/api.ErrKind", laid_sextet_api_ErrKind), ("sextet/api.ErrFull", laid_sextet_api_ErrFull), ("sextet/api.ErrWaits", laid_sextet_api_ErrWaits)], narrowed := true }
def ScanPrefixUptoSaid : Prop := scanPrefixUptoRow.holds Tryd.pinned (OpenSpec.upto scanPrefixSpec)

/-- 'sextetlaw21.TreeCheck', WHERE WHAT IT READS IS OF BULK AT MOST 1048576: true; the input reads as it did. -/
def treeCheckUptoRow : OpenClaim := { program := "ytbogbnkckofpdaadoor", sum := "159635e68af0603ae6b15d6eb212ec55536ac321ba86b777bf6a9175c6ff6db4", func := "sextet/sextetlaw21.TreeCheck", spec := "treeCheck", inPlace := ["slices.overlaps[sextet/api.Entry]", "internal/bytealg.Compare"], unfollowed := true, recurses := true, named := ["sextet/api.ErrRange", "sextet/api.ErrKind", "sextet/api.ErrMany", "sextet/api.ErrShape", "sextet/api.ErrWaits", "sextet/api.ErrFull", "sextet/api.ErrEnd", "sextet/api.ErrSum", "sextet/api.ErrNone", "sextet/api.ErrThere", "sextet/api.ErrCrash", "sextet/api.ErrState", "sextet/api.ErrConflict", "sextet/api.ErrLimit", "sextet/api.ErrFenced", "sextet/api.ErrWord", "sextet/api.ErrNumber"], apart := false, laid := [("sextet/api.ErrEnd", laid_sextet_api_ErrEnd), ("sextet/api.ErrSum", laid_sextet_api_ErrSum), ("sextet/api.ErrShape", laid_sextet_api_ErrShape), ("sextet/api.ErrMany", laid_sextet_api_ErrMany), ("sextet/api.ErrRange", laid_sextet_api_ErrRange), ("sextet/api.ErrKind", laid_sextet_api_ErrKind), ("sextet/api.ErrNone", laid_sextet_api_ErrNone), ("sextet/api.ErrThere", laid_sextet_api_ErrThere), ("sextet/api.ErrFull", laid_sextet_api_ErrFull), ("sextet/api.ErrCrash", laid_sextet_api_ErrCrash), ("sextet/api.ErrState", laid_sextet_api_ErrState), ("sextet/api.ErrConflict", laid_sextet_api_ErrConflict), ("sextet/api.ErrWaits", laid_sextet_api_ErrWaits), ("sextet/api.ErrLimit", laid_sextet_api_ErrLimit), ("sextet/api.ErrFenced", laid_sextet_api_ErrFenced), ("sextet/api.ErrWord", laid_sextet_api_ErrWord), ("sextet/api.ErrNumber", laid_sextet_api_ErrNumber)], narrowed := true }
def TreeCheckUptoSaid : Prop := treeCheckUptoRow.holds Tryd.pinned (OpenSpec.upto treeCheckSpec)

/-- 'sextetlaw21.TreeValues', WHERE WHAT IT READS IS OF BULK AT MOST 1048576: true; the input reads as it did. -/
def treeValuesUptoRow : OpenClaim := { program := "ytbogbnkckofpdaadoor", sum := "159635e68af0603ae6b15d6eb212ec55536ac321ba86b777bf6a9175c6ff6db4", func := "sextet/sextetlaw21.TreeValues", spec := "treeValues", inPlace := ["slices.overlaps[sextet/api.Entry]", "internal/bytealg.Compare"], unfollowed := true, recurses := true, named := ["sextet/api.ErrRange", "sextet/api.ErrKind", "sextet/api.ErrMany", "sextet/api.ErrShape", "sextet/api.ErrWaits", "sextet/api.ErrFull"], apart := false, laid := [("sextet/api.ErrShape", laid_sextet_api_ErrShape), ("sextet/api.ErrMany", laid_sextet_api_ErrMany), ("sextet/api.ErrRange", laid_sextet_api_ErrRange), ("sextet/api.ErrKind", laid_sextet_api_ErrKind), ("sextet/api.ErrFull", laid_sextet_api_ErrFull), ("sextet/api.ErrWaits", laid_sextet_api_ErrWaits)], narrowed := true }
def TreeValuesUptoSaid : Prop := treeValuesUptoRow.holds Tryd.pinned (OpenSpec.upto treeValuesSpec)

/-- 'sextetlaw21.TreeMakes', WHERE WHAT IT READS IS OF BULK AT MOST 1048576: true; the input reads as it did. -/
def treeMakesUptoRow : OpenClaim := { program := "ytbogbnkckofpdaadoor", sum := "159635e68af0603ae6b15d6eb212ec55536ac321ba86b777bf6a9175c6ff6db4", func := "sextet/sextetlaw21.TreeMakes", spec := "treeMakes", inPlace := ["slices.overlaps[sextet/api.Entry]", "internal/bytealg.Compare"], unfollowed := true, recurses := true, named := ["sextet/api.ErrRange", "sextet/api.ErrKind", "sextet/api.ErrMany", "sextet/api.ErrShape", "sextet/api.ErrWaits", "sextet/api.ErrFull", "sextet/api.ErrEnd", "sextet/api.ErrSum", "sextet/api.ErrNone", "sextet/api.ErrThere", "sextet/api.ErrCrash", "sextet/api.ErrState", "sextet/api.ErrConflict", "sextet/api.ErrLimit", "sextet/api.ErrFenced", "sextet/api.ErrWord", "sextet/api.ErrNumber"], apart := false, laid := [("sextet/api.ErrEnd", laid_sextet_api_ErrEnd), ("sextet/api.ErrSum", laid_sextet_api_ErrSum), ("sextet/api.ErrShape", laid_sextet_api_ErrShape), ("sextet/api.ErrMany", laid_sextet_api_ErrMany), ("sextet/api.ErrRange", laid_sextet_api_ErrRange), ("sextet/api.ErrKind", laid_sextet_api_ErrKind), ("sextet/api.ErrNone", laid_sextet_api_ErrNone), ("sextet/api.ErrThere", laid_sextet_api_ErrThere), ("sextet/api.ErrFull", laid_sextet_api_ErrFull), ("sextet/api.ErrCrash", laid_sextet_api_ErrCrash), ("sextet/api.ErrState", laid_sextet_api_ErrState), ("sextet/api.ErrConflict", laid_sextet_api_ErrConflict), ("sextet/api.ErrWaits", laid_sextet_api_ErrWaits), ("sextet/api.ErrLimit", laid_sextet_api_ErrLimit), ("sextet/api.ErrFenced", laid_sextet_api_ErrFenced), ("sextet/api.ErrWord", laid_sextet_api_ErrWord), ("sextet/api.ErrNumber", laid_sextet_api_ErrNumber)], narrowed := true }
def TreeMakesUptoSaid : Prop := treeMakesUptoRow.holds Tryd.pinned (OpenSpec.upto treeMakesSpec)

/-- 'sextetlaw21.TreeRows', WHERE WHAT IT READS IS OF BULK AT MOST 1048576: true; the input reads as it did. -/
def treeRowsUptoRow : OpenClaim := { program := "ytbogbnkckofpdaadoor", sum := "159635e68af0603ae6b15d6eb212ec55536ac321ba86b777bf6a9175c6ff6db4", func := "sextet/sextetlaw21.TreeRows", spec := "treeRows", inPlace := ["slices.overlaps[sextet/api.Entry]", "internal/bytealg.Compare"], unfollowed := true, recurses := true, named := ["sextet/api.ErrRange", "sextet/api.ErrKind", "sextet/api.ErrMany", "sextet/api.ErrShape", "sextet/api.ErrWaits", "sextet/api.ErrFull"], apart := false, laid := [("sextet/api.ErrShape", laid_sextet_api_ErrShape), ("sextet/api.ErrMany", laid_sextet_api_ErrMany), ("sextet/api.ErrRange", laid_sextet_api_ErrRange), ("sextet/api.ErrKind", laid_sextet_api_ErrKind), ("sextet/api.ErrFull", laid_sextet_api_ErrFull), ("sextet/api.ErrWaits", laid_sextet_api_ErrWaits)], narrowed := true }
def TreeRowsUptoSaid : Prop := treeRowsUptoRow.holds Tryd.pinned (OpenSpec.upto treeRowsSpec)

end Rows
end Go.Proofs.YtbogbnkckofpdaaDoor
