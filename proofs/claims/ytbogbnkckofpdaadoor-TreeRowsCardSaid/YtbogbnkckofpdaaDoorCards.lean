/-
  DERIVED. GIVEN WITH THE SEED: THE CARDS: each row of YtbogbnkckofpdaaDoorRows.lean that lists a variable, with what it lists TIED to the program's text (the seventh form; the later family's looks); each row that meets fmt, with fmt's text TOLD by the authors' own Lean function (tested against real Go, not proved from fmt's source: count such statements apart). THE CARD IS WHAT COUNTS. Prove the row's statement (the work); the ties are given (YtbogbnkckofpdaaDoorTie.lean); close each card by the builder's one call (the guide's Derived/Test/ToyasCard.lean, 'card_holds'). Laid BY PROGRAM, IN A SANDBOX (cutbox-door.mjs). By AI agents, Wed Nov 11 2026. No macro, syntax, notation, axiom, sorry.
-/
import Derived.Test.YtbogbnkckofpdaaDoorRows
import GoSem.ClaimSeven
namespace Go.Proofs.YtbogbnkckofpdaaDoor
namespace Rows

/-- THE TIED CARD OF 'sextetlaw23.UndoOrder'. -/
def undoOrderCard : Claim7 := { stood := { row := undoOrderRow, standIns := [], harness := (true, "bae0dc16a43ec229c9540e5b92bca53ef9624681271f4690452e939f7a8222ba"), looks := true }, kinds := [], alts := [], laidByText := true, laidKinds := [.sentinel], laidTests := true, laidLooks := .later }
def UndoOrderCardSaid : Prop := Claim7.holds Tryd.pinned (.plain (OpenSpec.ofChange undoOrderSpec)) undoOrderCard

/-- THE TIED CARD OF 'sextetlaw23.UndoBounds'. -/
def undoBoundsCard : Claim7 := { stood := { row := undoBoundsRow, standIns := [], harness := (true, "bae0dc16a43ec229c9540e5b92bca53ef9624681271f4690452e939f7a8222ba"), looks := true }, kinds := [], alts := [], laidByText := true, laidKinds := [.sentinel, .sentinel, .sentinel, .sentinel, .sentinel, .sentinel, .sentinel, .sentinel, .sentinel, .sentinel, .sentinel, .sentinel, .sentinel, .sentinel, .sentinel, .sentinel, .sentinel], laidTests := true, laidLooks := .later }
def UndoBoundsCardSaid : Prop := Claim7.holds Tryd.pinned (.plain (OpenSpec.ofChange undoBoundsSpec)) undoBoundsCard

/-- THE TIED CARD OF 'sextetlaw23.UndoSpoilt'. -/
def undoSpoiltCard : Claim7 := { stood := { row := undoSpoiltRow, standIns := [], harness := (true, "bae0dc16a43ec229c9540e5b92bca53ef9624681271f4690452e939f7a8222ba"), looks := true }, kinds := [], alts := [], laidByText := true, laidKinds := [.sentinel, .sentinel, .sentinel, .sentinel, .sentinel, .sentinel, .sentinel, .sentinel, .sentinel, .sentinel, .sentinel, .sentinel, .sentinel, .sentinel, .sentinel, .sentinel, .sentinel], laidTests := true, laidLooks := .later }
def UndoSpoiltCardSaid : Prop := Claim7.holds Tryd.pinned (.plain (OpenSpec.ofChange undoSpoiltSpec)) undoSpoiltCard

/-- THE TIED CARD OF 'sextetlaw21.TreeShares'. -/
def treeSharesCard : Claim7 := { stood := { row := treeSharesRow, standIns := [], harness := (true, "bae0dc16a43ec229c9540e5b92bca53ef9624681271f4690452e939f7a8222ba"), looks := true }, kinds := [], alts := [], laidByText := true, laidKinds := [.sentinel, .sentinel, .sentinel, .sentinel, .sentinel, .sentinel], laidTests := true, laidLooks := .later }
def TreeSharesCardSaid : Prop := Claim7.holds Tryd.pinned (.plain (OpenSpec.ofChange treeSharesSpec)) treeSharesCard

/-- THE TIED CARD OF 'sextetlaw22.ScanFrom'. -/
def scanFromCard : Claim7 := { stood := { row := scanFromRow, standIns := [], harness := (true, "bae0dc16a43ec229c9540e5b92bca53ef9624681271f4690452e939f7a8222ba"), looks := true }, kinds := [], alts := [], laidByText := true, laidKinds := [.sentinel, .sentinel, .sentinel, .sentinel, .sentinel, .sentinel], laidTests := true, laidLooks := .later }
def ScanFromCardSaid : Prop := Claim7.holds Tryd.pinned (.plain (OpenSpec.ofChange scanFromSpec)) scanFromCard

/-- THE TIED CARD OF 'sextetlaw22.ScanTwice'. -/
def scanTwiceCard : Claim7 := { stood := { row := scanTwiceRow, standIns := [], harness := (true, "bae0dc16a43ec229c9540e5b92bca53ef9624681271f4690452e939f7a8222ba"), looks := true }, kinds := [], alts := [], laidByText := true, laidKinds := [.sentinel, .sentinel, .sentinel, .sentinel, .sentinel, .sentinel, .sentinel, .sentinel, .sentinel, .sentinel, .sentinel, .sentinel, .sentinel, .sentinel, .sentinel, .sentinel, .sentinel], laidTests := true, laidLooks := .later }
def ScanTwiceCardSaid : Prop := Claim7.holds Tryd.pinned (.plain (OpenSpec.ofChange scanTwiceSpec)) scanTwiceCard

/-- THE TIED CARD OF 'sextetlaw22.ScanPrefix'. -/
def scanPrefixCard : Claim7 := { stood := { row := scanPrefixRow, standIns := [], harness := (true, "bae0dc16a43ec229c9540e5b92bca53ef9624681271f4690452e939f7a8222ba"), looks := true }, kinds := [], alts := [], laidByText := true, laidKinds := [.sentinel, .sentinel, .sentinel, .sentinel, .sentinel, .sentinel], laidTests := true, laidLooks := .later }
def ScanPrefixCardSaid : Prop := Claim7.holds Tryd.pinned (.plain (OpenSpec.ofChange scanPrefixSpec)) scanPrefixCard

/-- THE TIED CARD OF 'sextetlaw21.TreeCheck'. -/
def treeCheckCard : Claim7 := { stood := { row := treeCheckRow, standIns := [], harness := (true, "bae0dc16a43ec229c9540e5b92bca53ef9624681271f4690452e939f7a8222ba"), looks := true }, kinds := [], alts := [], laidByText := true, laidKinds := [.sentinel, .sentinel, .sentinel, .sentinel, .sentinel, .sentinel, .sentinel, .sentinel, .sentinel, .sentinel, .sentinel, .sentinel, .sentinel, .sentinel, .sentinel, .sentinel, .sentinel], laidTests := true, laidLooks := .later }
def TreeCheckCardSaid : Prop := Claim7.holds Tryd.pinned (.plain (OpenSpec.ofChange treeCheckSpec)) treeCheckCard

/-- THE TIED CARD OF 'sextetlaw21.TreeValues'. -/
def treeValuesCard : Claim7 := { stood := { row := treeValuesRow, standIns := [], harness := (true, "bae0dc16a43ec229c9540e5b92bca53ef9624681271f4690452e939f7a8222ba"), looks := true }, kinds := [], alts := [], laidByText := true, laidKinds := [.sentinel, .sentinel, .sentinel, .sentinel, .sentinel, .sentinel], laidTests := true, laidLooks := .later }
def TreeValuesCardSaid : Prop := Claim7.holds Tryd.pinned (.plain (OpenSpec.ofChange treeValuesSpec)) treeValuesCard

/-- THE TIED CARD OF 'sextetlaw21.TreeMakes'. -/
def treeMakesCard : Claim7 := { stood := { row := treeMakesRow, standIns := [], harness := (true, "bae0dc16a43ec229c9540e5b92bca53ef9624681271f4690452e939f7a8222ba"), looks := true }, kinds := [], alts := [], laidByText := true, laidKinds := [.sentinel, .sentinel, .sentinel, .sentinel, .sentinel, .sentinel, .sentinel, .sentinel, .sentinel, .sentinel, .sentinel, .sentinel, .sentinel, .sentinel, .sentinel, .sentinel, .sentinel], laidTests := true, laidLooks := .later }
def TreeMakesCardSaid : Prop := Claim7.holds Tryd.pinned (.plain (OpenSpec.ofChange treeMakesSpec)) treeMakesCard

/-- THE TIED CARD OF 'sextetlaw21.TreeRows'. -/
def treeRowsCard : Claim7 := { stood := { row := treeRowsRow, standIns := [], harness := (true, "bae0dc16a43ec229c9540e5b92bca53ef9624681271f4690452e939f7a8222ba"), looks := true }, kinds := [], alts := [], laidByText := true, laidKinds := [.sentinel, .sentinel, .sentinel, .sentinel, .sentinel, .sentinel], laidTests := true, laidLooks := .later }
def TreeRowsCardSaid : Prop := Claim7.holds Tryd.pinned (.plain (OpenSpec.ofChange treeRowsSpec)) treeRowsCard

/-- THE SECOND FORM's CARD OF 'sextetlaw23.UndoOrder'. -/
def undoOrderUptoCard : Claim7 := { stood := { row := undoOrderUptoRow, standIns := [], harness := (true, "bae0dc16a43ec229c9540e5b92bca53ef9624681271f4690452e939f7a8222ba"), looks := true }, kinds := [], alts := [], laidByText := true, laidKinds := [.sentinel], laidTests := true, laidLooks := .later }
def UndoOrderUptoCardSaid : Prop := Claim7.holds Tryd.pinned (.plain (OpenSpec.upto undoOrderSpec)) undoOrderUptoCard

/-- THE SECOND FORM's CARD OF 'sextetlaw23.UndoBounds'. -/
def undoBoundsUptoCard : Claim7 := { stood := { row := undoBoundsUptoRow, standIns := [], harness := (true, "bae0dc16a43ec229c9540e5b92bca53ef9624681271f4690452e939f7a8222ba"), looks := true }, kinds := [], alts := [], laidByText := true, laidKinds := [.sentinel, .sentinel, .sentinel, .sentinel, .sentinel, .sentinel, .sentinel, .sentinel, .sentinel, .sentinel, .sentinel, .sentinel, .sentinel, .sentinel, .sentinel, .sentinel, .sentinel], laidTests := true, laidLooks := .later }
def UndoBoundsUptoCardSaid : Prop := Claim7.holds Tryd.pinned (.plain (OpenSpec.upto undoBoundsSpec)) undoBoundsUptoCard

/-- THE SECOND FORM's CARD OF 'sextetlaw23.UndoSpoilt'. -/
def undoSpoiltUptoCard : Claim7 := { stood := { row := undoSpoiltUptoRow, standIns := [], harness := (true, "bae0dc16a43ec229c9540e5b92bca53ef9624681271f4690452e939f7a8222ba"), looks := true }, kinds := [], alts := [], laidByText := true, laidKinds := [.sentinel, .sentinel, .sentinel, .sentinel, .sentinel, .sentinel, .sentinel, .sentinel, .sentinel, .sentinel, .sentinel, .sentinel, .sentinel, .sentinel, .sentinel, .sentinel, .sentinel], laidTests := true, laidLooks := .later }
def UndoSpoiltUptoCardSaid : Prop := Claim7.holds Tryd.pinned (.plain (OpenSpec.upto undoSpoiltSpec)) undoSpoiltUptoCard

/-- THE SECOND FORM's CARD OF 'sextetlaw21.TreeShares'. -/
def treeSharesUptoCard : Claim7 := { stood := { row := treeSharesUptoRow, standIns := [], harness := (true, "bae0dc16a43ec229c9540e5b92bca53ef9624681271f4690452e939f7a8222ba"), looks := true }, kinds := [], alts := [], laidByText := true, laidKinds := [.sentinel, .sentinel, .sentinel, .sentinel, .sentinel, .sentinel], laidTests := true, laidLooks := .later }
def TreeSharesUptoCardSaid : Prop := Claim7.holds Tryd.pinned (.plain (OpenSpec.upto treeSharesSpec)) treeSharesUptoCard

/-- THE SECOND FORM's CARD OF 'sextetlaw22.ScanFrom'. -/
def scanFromUptoCard : Claim7 := { stood := { row := scanFromUptoRow, standIns := [], harness := (true, "bae0dc16a43ec229c9540e5b92bca53ef9624681271f4690452e939f7a8222ba"), looks := true }, kinds := [], alts := [], laidByText := true, laidKinds := [.sentinel, .sentinel, .sentinel, .sentinel, .sentinel, .sentinel], laidTests := true, laidLooks := .later }
def ScanFromUptoCardSaid : Prop := Claim7.holds Tryd.pinned (.plain (OpenSpec.upto scanFromSpec)) scanFromUptoCard

/-- THE SECOND FORM's CARD OF 'sextetlaw22.ScanTwice'. -/
def scanTwiceUptoCard : Claim7 := { stood := { row := scanTwiceUptoRow, standIns := [], harness := (true, "bae0dc16a43ec229c9540e5b92bca53ef9624681271f4690452e939f7a8222ba"), looks := true }, kinds := [], alts := [], laidByText := true, laidKinds := [.sentinel, .sentinel, .sentinel, .sentinel, .sentinel, .sentinel, .sentinel, .sentinel, .sentinel, .sentinel, .sentinel, .sentinel, .sentinel, .sentinel, .sentinel, .sentinel, .sentinel], laidTests := true, laidLooks := .later }
def ScanTwiceUptoCardSaid : Prop := Claim7.holds Tryd.pinned (.plain (OpenSpec.upto scanTwiceSpec)) scanTwiceUptoCard

/-- THE SECOND FORM's CARD OF 'sextetlaw22.ScanPrefix'. -/
def scanPrefixUptoCard : Claim7 := { stood := { row := scanPrefixUptoRow, standIns := [], harness := (true, "bae0dc16a43ec229c9540e5b92bca53ef9624681271f4690452e939f7a8222ba"), looks := true }, kinds := [], alts := [], laidByText := true, laidKinds := [.sentinel, .sentinel, .sentinel, .sentinel, .sentinel, .sentinel], laidTests := true, laidLooks := .later }
def ScanPrefixUptoCardSaid : Prop := Claim7.holds Tryd.pinned (.plain (OpenSpec.upto scanPrefixSpec)) scanPrefixUptoCard

/-- THE SECOND FORM's CARD OF 'sextetlaw21.TreeCheck'. -/
def treeCheckUptoCard : Claim7 := { stood := { row := treeCheckUptoRow, standIns := [], harness := (true, "bae0dc16a43ec229c9540e5b92bca53ef9624681271f4690452e939f7a8222ba"), looks := true }, kinds := [], alts := [], laidByText := true, laidKinds := [.sentinel, .sentinel, .sentinel, .sentinel, .sentinel, .sentinel, .sentinel, .sentinel, .sentinel, .sentinel, .sentinel, .sentinel, .sentinel, .sentinel, .sentinel, .sentinel, .sentinel], laidTests := true, laidLooks := .later }
def TreeCheckUptoCardSaid : Prop := Claim7.holds Tryd.pinned (.plain (OpenSpec.upto treeCheckSpec)) treeCheckUptoCard

/-- THE SECOND FORM's CARD OF 'sextetlaw21.TreeValues'. -/
def treeValuesUptoCard : Claim7 := { stood := { row := treeValuesUptoRow, standIns := [], harness := (true, "bae0dc16a43ec229c9540e5b92bca53ef9624681271f4690452e939f7a8222ba"), looks := true }, kinds := [], alts := [], laidByText := true, laidKinds := [.sentinel, .sentinel, .sentinel, .sentinel, .sentinel, .sentinel], laidTests := true, laidLooks := .later }
def TreeValuesUptoCardSaid : Prop := Claim7.holds Tryd.pinned (.plain (OpenSpec.upto treeValuesSpec)) treeValuesUptoCard

/-- THE SECOND FORM's CARD OF 'sextetlaw21.TreeMakes'. -/
def treeMakesUptoCard : Claim7 := { stood := { row := treeMakesUptoRow, standIns := [], harness := (true, "bae0dc16a43ec229c9540e5b92bca53ef9624681271f4690452e939f7a8222ba"), looks := true }, kinds := [], alts := [], laidByText := true, laidKinds := [.sentinel, .sentinel, .sentinel, .sentinel, .sentinel, .sentinel, .sentinel, .sentinel, .sentinel, .sentinel, .sentinel, .sentinel, .sentinel, .sentinel, .sentinel, .sentinel, .sentinel], laidTests := true, laidLooks := .later }
def TreeMakesUptoCardSaid : Prop := Claim7.holds Tryd.pinned (.plain (OpenSpec.upto treeMakesSpec)) treeMakesUptoCard

/-- THE SECOND FORM's CARD OF 'sextetlaw21.TreeRows'. -/
def treeRowsUptoCard : Claim7 := { stood := { row := treeRowsUptoRow, standIns := [], harness := (true, "bae0dc16a43ec229c9540e5b92bca53ef9624681271f4690452e939f7a8222ba"), looks := true }, kinds := [], alts := [], laidByText := true, laidKinds := [.sentinel, .sentinel, .sentinel, .sentinel, .sentinel, .sentinel], laidTests := true, laidLooks := .later }
def TreeRowsUptoCardSaid : Prop := Claim7.holds Tryd.pinned (.plain (OpenSpec.upto treeRowsSpec)) treeRowsUptoCard
end Rows
end Go.Proofs.YtbogbnkckofpdaaDoor
