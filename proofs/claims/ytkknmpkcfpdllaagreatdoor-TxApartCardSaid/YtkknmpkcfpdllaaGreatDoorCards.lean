/-
  DERIVED. GIVEN WITH THE SEED: THE CARDS: each row of YtkknmpkcfpdllaaGreatDoorRows.lean that lists a variable, with what it lists TIED to the program's text (the seventh form; the later family's looks); each row that meets fmt, with fmt's text TOLD by the authors' own Lean function (tested against real Go, not proved from fmt's source: count such statements apart). THE CARD IS WHAT COUNTS. Prove the row's statement (the work); the ties are given (YtkknmpkcfpdllaaGreatDoorTie.lean); close each card by the builder's one call (the guide's Derived/Test/ToyasCard.lean, 'card_holds'). Laid BY PROGRAM, IN A SANDBOX (cutbox-door.mjs). By AI agents, Wed Nov 11 2026. No macro, syntax, notation, axiom, sorry.
-/
import Derived.Test.YtkknmpkcfpdllaaGreatDoorRows
import GoSem.ClaimSeven
namespace Go.Proofs.YtkknmpkcfpdllaaGreatDoor
namespace Rows

/-- THE TIED CARD OF 'sextetlaw23.UndoFinds'. -/
def undoFindsCard : Claim7 := { stood := { row := undoFindsRow, standIns := [], harness := (true, "d259f5f2fab16aefc6ff5e2b98bbe2b714ca229676fd87503b2b19f85bcfb0fa"), looks := true }, kinds := [], alts := [], laidByText := true, laidKinds := [.sentinel, .sentinel, .sentinel, .sentinel, .sentinel, .sentinel, .sentinel, .sentinel, .sentinel, .sentinel, .sentinel, .sentinel, .sentinel, .sentinel, .sentinel, .sentinel, .sentinel], laidTests := true, laidLooks := .later }
def UndoFindsCardSaid : Prop := Claim7.holds Tryz.pinned (.plain (OpenSpec.ofChange undoFindsSpec)) undoFindsCard

/-- THE TIED CARD OF 'sextetlaw22.ScanWaits'. -/
def scanWaitsCard : Claim7 := { stood := { row := scanWaitsRow, standIns := [], harness := (true, "d259f5f2fab16aefc6ff5e2b98bbe2b714ca229676fd87503b2b19f85bcfb0fa"), looks := true }, kinds := [], alts := [], laidByText := true, laidKinds := [.sentinel, .sentinel, .sentinel, .sentinel, .sentinel, .sentinel, .sentinel, .sentinel, .sentinel, .sentinel, .sentinel, .sentinel, .sentinel, .sentinel, .sentinel, .sentinel, .sentinel], laidTests := true, laidLooks := .later }
def ScanWaitsCardSaid : Prop := Claim7.holds Tryz.pinned (.plain (OpenSpec.ofChange scanWaitsSpec)) scanWaitsCard

/-- THE TIED CARD OF 'sextetlaw21.TreeWaits'. -/
def treeWaitsCard : Claim7 := { stood := { row := treeWaitsRow, standIns := [], harness := (true, "d259f5f2fab16aefc6ff5e2b98bbe2b714ca229676fd87503b2b19f85bcfb0fa"), looks := true }, kinds := [], alts := [], laidByText := true, laidKinds := [.sentinel, .sentinel, .sentinel, .sentinel, .sentinel, .sentinel, .sentinel, .sentinel, .sentinel, .sentinel, .sentinel, .sentinel, .sentinel, .sentinel, .sentinel, .sentinel, .sentinel], laidTests := true, laidLooks := .later }
def TreeWaitsCardSaid : Prop := Claim7.holds Tryz.pinned (.plain (OpenSpec.ofChange treeWaitsSpec)) treeWaitsCard

/-- THE TIED CARD OF 'sextetlaw24.TxNumbers'. -/
def txNumbersCard : Claim7 := { stood := { row := txNumbersRow, standIns := [], harness := (true, "d259f5f2fab16aefc6ff5e2b98bbe2b714ca229676fd87503b2b19f85bcfb0fa"), looks := true }, kinds := [], alts := [], laidByText := true, laidKinds := [.sentinel, .sentinel, .sentinel, .sentinel, .sentinel, .sentinel, .sentinel, .sentinel, .sentinel, .sentinel, .sentinel, .sentinel, .sentinel, .sentinel, .sentinel, .sentinel, .sentinel], laidTests := true, laidLooks := .later }
def TxNumbersCardSaid : Prop := Claim7.holds Tryz.pinned (.plain (OpenSpec.ofChange txNumbersSpec)) txNumbersCard

/-- THE TIED CARD OF 'sextetlaw24.TxBounds'. -/
def txBoundsCard : Claim7 := { stood := { row := txBoundsRow, standIns := [], harness := (true, "d259f5f2fab16aefc6ff5e2b98bbe2b714ca229676fd87503b2b19f85bcfb0fa"), looks := true }, kinds := [], alts := [], laidByText := true, laidKinds := [.sentinel, .sentinel, .sentinel, .sentinel, .sentinel, .sentinel, .sentinel, .sentinel, .sentinel, .sentinel, .sentinel, .sentinel, .sentinel, .sentinel, .sentinel, .sentinel, .sentinel], laidTests := true, laidLooks := .later }
def TxBoundsCardSaid : Prop := Claim7.holds Tryz.pinned (.plain (OpenSpec.ofChange txBoundsSpec)) txBoundsCard

/-- THE TIED CARD OF 'sextetlaw24.TxConflicts'. -/
def txConflictsCard : Claim7 := { stood := { row := txConflictsRow, standIns := [], harness := (true, "d259f5f2fab16aefc6ff5e2b98bbe2b714ca229676fd87503b2b19f85bcfb0fa"), looks := true }, kinds := [], alts := [], laidByText := true, laidKinds := [.sentinel, .sentinel, .sentinel, .sentinel, .sentinel, .sentinel, .sentinel, .sentinel, .sentinel, .sentinel, .sentinel, .sentinel, .sentinel, .sentinel, .sentinel, .sentinel, .sentinel], laidTests := true, laidLooks := .later }
def TxConflictsCardSaid : Prop := Claim7.holds Tryz.pinned (.plain (OpenSpec.ofChange txConflictsSpec)) txConflictsCard

/-- THE TIED CARD OF 'sextetlaw24.TxOwn'. -/
def txOwnCard : Claim7 := { stood := { row := txOwnRow, standIns := [], harness := (true, "d259f5f2fab16aefc6ff5e2b98bbe2b714ca229676fd87503b2b19f85bcfb0fa"), looks := true }, kinds := [], alts := [], laidByText := true, laidKinds := [.sentinel, .sentinel, .sentinel, .sentinel, .sentinel, .sentinel, .sentinel, .sentinel, .sentinel, .sentinel, .sentinel, .sentinel, .sentinel, .sentinel, .sentinel, .sentinel, .sentinel], laidTests := true, laidLooks := .later }
def TxOwnCardSaid : Prop := Claim7.holds Tryz.pinned (.plain (OpenSpec.ofChange txOwnSpec)) txOwnCard

/-- THE TIED CARD OF 'sextetlaw24.TxScans'. -/
def txScansCard : Claim7 := { stood := { row := txScansRow, standIns := [], harness := (true, "d259f5f2fab16aefc6ff5e2b98bbe2b714ca229676fd87503b2b19f85bcfb0fa"), looks := true }, kinds := [], alts := [], laidByText := true, laidKinds := [.sentinel, .sentinel, .sentinel, .sentinel, .sentinel, .sentinel, .sentinel, .sentinel, .sentinel, .sentinel, .sentinel, .sentinel, .sentinel, .sentinel, .sentinel, .sentinel, .sentinel], laidTests := true, laidLooks := .later }
def TxScansCardSaid : Prop := Claim7.holds Tryz.pinned (.plain (OpenSpec.ofChange txScansSpec)) txScansCard

/-- THE TIED CARD OF 'sextetlaw24.TxApart'. -/
def txApartCard : Claim7 := { stood := { row := txApartRow, standIns := [], harness := (true, "d259f5f2fab16aefc6ff5e2b98bbe2b714ca229676fd87503b2b19f85bcfb0fa"), looks := true }, kinds := [], alts := [], laidByText := true, laidKinds := [.sentinel, .sentinel, .sentinel, .sentinel, .sentinel, .sentinel, .sentinel, .sentinel, .sentinel, .sentinel, .sentinel, .sentinel, .sentinel, .sentinel, .sentinel, .sentinel, .sentinel], laidTests := true, laidLooks := .later }
def TxApartCardSaid : Prop := Claim7.holds Tryz.pinned (.plain (OpenSpec.ofChange txApartSpec)) txApartCard

/-- THE SECOND FORM's CARD OF 'sextetlaw23.UndoFinds'. -/
def undoFindsUptoCard : Claim7 := { stood := { row := undoFindsUptoRow, standIns := [], harness := (true, "d259f5f2fab16aefc6ff5e2b98bbe2b714ca229676fd87503b2b19f85bcfb0fa"), looks := true }, kinds := [], alts := [], laidByText := true, laidKinds := [.sentinel, .sentinel, .sentinel, .sentinel, .sentinel, .sentinel, .sentinel, .sentinel, .sentinel, .sentinel, .sentinel, .sentinel, .sentinel, .sentinel, .sentinel, .sentinel, .sentinel], laidTests := true, laidLooks := .later }
def UndoFindsUptoCardSaid : Prop := Claim7.holds Tryz.pinned (.plain (OpenSpec.upto undoFindsSpec)) undoFindsUptoCard

/-- THE SECOND FORM's CARD OF 'sextetlaw22.ScanWaits'. -/
def scanWaitsUptoCard : Claim7 := { stood := { row := scanWaitsUptoRow, standIns := [], harness := (true, "d259f5f2fab16aefc6ff5e2b98bbe2b714ca229676fd87503b2b19f85bcfb0fa"), looks := true }, kinds := [], alts := [], laidByText := true, laidKinds := [.sentinel, .sentinel, .sentinel, .sentinel, .sentinel, .sentinel, .sentinel, .sentinel, .sentinel, .sentinel, .sentinel, .sentinel, .sentinel, .sentinel, .sentinel, .sentinel, .sentinel], laidTests := true, laidLooks := .later }
def ScanWaitsUptoCardSaid : Prop := Claim7.holds Tryz.pinned (.plain (OpenSpec.upto scanWaitsSpec)) scanWaitsUptoCard

/-- THE SECOND FORM's CARD OF 'sextetlaw21.TreeWaits'. -/
def treeWaitsUptoCard : Claim7 := { stood := { row := treeWaitsUptoRow, standIns := [], harness := (true, "d259f5f2fab16aefc6ff5e2b98bbe2b714ca229676fd87503b2b19f85bcfb0fa"), looks := true }, kinds := [], alts := [], laidByText := true, laidKinds := [.sentinel, .sentinel, .sentinel, .sentinel, .sentinel, .sentinel, .sentinel, .sentinel, .sentinel, .sentinel, .sentinel, .sentinel, .sentinel, .sentinel, .sentinel, .sentinel, .sentinel], laidTests := true, laidLooks := .later }
def TreeWaitsUptoCardSaid : Prop := Claim7.holds Tryz.pinned (.plain (OpenSpec.upto treeWaitsSpec)) treeWaitsUptoCard

/-- THE SECOND FORM's CARD OF 'sextetlaw24.TxNumbers'. -/
def txNumbersUptoCard : Claim7 := { stood := { row := txNumbersUptoRow, standIns := [], harness := (true, "d259f5f2fab16aefc6ff5e2b98bbe2b714ca229676fd87503b2b19f85bcfb0fa"), looks := true }, kinds := [], alts := [], laidByText := true, laidKinds := [.sentinel, .sentinel, .sentinel, .sentinel, .sentinel, .sentinel, .sentinel, .sentinel, .sentinel, .sentinel, .sentinel, .sentinel, .sentinel, .sentinel, .sentinel, .sentinel, .sentinel], laidTests := true, laidLooks := .later }
def TxNumbersUptoCardSaid : Prop := Claim7.holds Tryz.pinned (.plain (OpenSpec.upto txNumbersSpec)) txNumbersUptoCard

/-- THE SECOND FORM's CARD OF 'sextetlaw24.TxBounds'. -/
def txBoundsUptoCard : Claim7 := { stood := { row := txBoundsUptoRow, standIns := [], harness := (true, "d259f5f2fab16aefc6ff5e2b98bbe2b714ca229676fd87503b2b19f85bcfb0fa"), looks := true }, kinds := [], alts := [], laidByText := true, laidKinds := [.sentinel, .sentinel, .sentinel, .sentinel, .sentinel, .sentinel, .sentinel, .sentinel, .sentinel, .sentinel, .sentinel, .sentinel, .sentinel, .sentinel, .sentinel, .sentinel, .sentinel], laidTests := true, laidLooks := .later }
def TxBoundsUptoCardSaid : Prop := Claim7.holds Tryz.pinned (.plain (OpenSpec.upto txBoundsSpec)) txBoundsUptoCard

/-- THE SECOND FORM's CARD OF 'sextetlaw24.TxConflicts'. -/
def txConflictsUptoCard : Claim7 := { stood := { row := txConflictsUptoRow, standIns := [], harness := (true, "d259f5f2fab16aefc6ff5e2b98bbe2b714ca229676fd87503b2b19f85bcfb0fa"), looks := true }, kinds := [], alts := [], laidByText := true, laidKinds := [.sentinel, .sentinel, .sentinel, .sentinel, .sentinel, .sentinel, .sentinel, .sentinel, .sentinel, .sentinel, .sentinel, .sentinel, .sentinel, .sentinel, .sentinel, .sentinel, .sentinel], laidTests := true, laidLooks := .later }
def TxConflictsUptoCardSaid : Prop := Claim7.holds Tryz.pinned (.plain (OpenSpec.upto txConflictsSpec)) txConflictsUptoCard

/-- THE SECOND FORM's CARD OF 'sextetlaw24.TxOwn'. -/
def txOwnUptoCard : Claim7 := { stood := { row := txOwnUptoRow, standIns := [], harness := (true, "d259f5f2fab16aefc6ff5e2b98bbe2b714ca229676fd87503b2b19f85bcfb0fa"), looks := true }, kinds := [], alts := [], laidByText := true, laidKinds := [.sentinel, .sentinel, .sentinel, .sentinel, .sentinel, .sentinel, .sentinel, .sentinel, .sentinel, .sentinel, .sentinel, .sentinel, .sentinel, .sentinel, .sentinel, .sentinel, .sentinel], laidTests := true, laidLooks := .later }
def TxOwnUptoCardSaid : Prop := Claim7.holds Tryz.pinned (.plain (OpenSpec.upto txOwnSpec)) txOwnUptoCard

/-- THE SECOND FORM's CARD OF 'sextetlaw24.TxScans'. -/
def txScansUptoCard : Claim7 := { stood := { row := txScansUptoRow, standIns := [], harness := (true, "d259f5f2fab16aefc6ff5e2b98bbe2b714ca229676fd87503b2b19f85bcfb0fa"), looks := true }, kinds := [], alts := [], laidByText := true, laidKinds := [.sentinel, .sentinel, .sentinel, .sentinel, .sentinel, .sentinel, .sentinel, .sentinel, .sentinel, .sentinel, .sentinel, .sentinel, .sentinel, .sentinel, .sentinel, .sentinel, .sentinel], laidTests := true, laidLooks := .later }
def TxScansUptoCardSaid : Prop := Claim7.holds Tryz.pinned (.plain (OpenSpec.upto txScansSpec)) txScansUptoCard

/-- THE SECOND FORM's CARD OF 'sextetlaw24.TxApart'. -/
def txApartUptoCard : Claim7 := { stood := { row := txApartUptoRow, standIns := [], harness := (true, "d259f5f2fab16aefc6ff5e2b98bbe2b714ca229676fd87503b2b19f85bcfb0fa"), looks := true }, kinds := [], alts := [], laidByText := true, laidKinds := [.sentinel, .sentinel, .sentinel, .sentinel, .sentinel, .sentinel, .sentinel, .sentinel, .sentinel, .sentinel, .sentinel, .sentinel, .sentinel, .sentinel, .sentinel, .sentinel, .sentinel], laidTests := true, laidLooks := .later }
def TxApartUptoCardSaid : Prop := Claim7.holds Tryz.pinned (.plain (OpenSpec.upto txApartSpec)) txApartUptoCard
end Rows
end Go.Proofs.YtkknmpkcfpdllaaGreatDoor
