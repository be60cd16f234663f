/-
  DERIVED. GIVEN WITH THE SEED: THE CARDS: each row of YtefaghnlmmgpcaaGreatDoorRows.lean that lists a variable, with what it lists TIED to the program's text (the seventh form; the later family's looks); each row that meets fmt, with fmt's text TOLD by the authors' own Lean function (tested against real Go, not proved from fmt's source: count such statements apart). THE CARD IS WHAT COUNTS. Prove the row's statement (the work); the ties are given (YtefaghnlmmgpcaaGreatDoorTie.lean); close each card by the builder's one call (the guide's Derived/Test/ToyasCard.lean, 'card_holds'). Laid BY PROGRAM, IN A SANDBOX (cutbox-door.mjs). By AI agents, Wed Nov 11 2026. No macro, syntax, notation, axiom, sorry.
-/
import Derived.Test.YtefaghnlmmgpcaaGreatDoorRows
import GoSem.ClaimSeven
namespace Go.Proofs.YtefaghnlmmgpcaaGreatDoor
namespace Rows

/-- THE TIED CARD OF 'sextetlaw13.SegReads'. -/
def segReadsCard : Claim7 := { stood := { row := segReadsRow, standIns := [], harness := (true, "8ed4a50a333e8776415fa3427e4ab74cfa6fe1f47326f7ee50bb8935d9928e77"), looks := true }, kinds := [], alts := [], laidByText := true, laidKinds := [.sentinel, .sentinel, .sentinel, .sentinel, .sentinel, .sentinel, .sentinel, .sentinel, .sentinel, .sentinel], laidTests := true, laidLooks := .later }
def SegReadsCardSaid : Prop := Claim7.holds Tryz.pinned (.plain (OpenSpec.ofChange segReadsSpec)) segReadsCard

/-- THE TIED CARD OF 'sextetlaw13.SegFull'. -/
def segFullCard : Claim7 := { stood := { row := segFullRow, standIns := [], harness := (true, "8ed4a50a333e8776415fa3427e4ab74cfa6fe1f47326f7ee50bb8935d9928e77"), looks := true }, kinds := [], alts := [], laidByText := true, laidKinds := [.sentinel, .sentinel, .sentinel, .sentinel, .sentinel, .sentinel, .sentinel, .sentinel, .sentinel, .sentinel, .sentinel, .sentinel, .sentinel, .sentinel, .sentinel, .sentinel, .sentinel], laidTests := true, laidLooks := .later }
def SegFullCardSaid : Prop := Claim7.holds Tryz.pinned (.plain (OpenSpec.ofChange segFullSpec)) segFullCard

/-- THE TIED CARD OF 'sextetlaw13.SegAcks'. -/
def segAcksCard : Claim7 := { stood := { row := segAcksRow, standIns := [], harness := (true, "8ed4a50a333e8776415fa3427e4ab74cfa6fe1f47326f7ee50bb8935d9928e77"), looks := true }, kinds := [], alts := [], laidByText := true, laidKinds := [.sentinel, .sentinel, .sentinel, .sentinel, .sentinel, .sentinel, .sentinel, .sentinel, .sentinel, .sentinel], laidTests := true, laidLooks := .later }
def SegAcksCardSaid : Prop := Claim7.holds Tryz.pinned (.plain (OpenSpec.ofChange segAcksSpec)) segAcksCard

/-- THE TIED CARD OF 'sextetlaw13.SegEpochs'. -/
def segEpochsCard : Claim7 := { stood := { row := segEpochsRow, standIns := [], harness := (true, "8ed4a50a333e8776415fa3427e4ab74cfa6fe1f47326f7ee50bb8935d9928e77"), looks := true }, kinds := [], alts := [], laidByText := true, laidKinds := [.sentinel, .sentinel, .sentinel, .sentinel, .sentinel, .sentinel, .sentinel, .sentinel, .sentinel, .sentinel], laidTests := true, laidLooks := .later }
def SegEpochsCardSaid : Prop := Claim7.holds Tryz.pinned (.plain (OpenSpec.ofChange segEpochsSpec)) segEpochsCard

/-- THE TIED CARD OF 'sextetlaw19.VolEpochs'. -/
def volEpochsCard : Claim7 := { stood := { row := volEpochsRow, standIns := [], harness := (true, "8ed4a50a333e8776415fa3427e4ab74cfa6fe1f47326f7ee50bb8935d9928e77"), looks := true }, kinds := [], alts := [], laidByText := true, laidKinds := [.sentinel, .sentinel, .sentinel, .sentinel, .sentinel, .sentinel, .sentinel, .sentinel, .sentinel, .sentinel, .sentinel, .sentinel, .sentinel, .sentinel, .sentinel, .sentinel, .sentinel], laidTests := true, laidLooks := .later }
def VolEpochsCardSaid : Prop := Claim7.holds Tryz.pinned (.plain (OpenSpec.ofChange volEpochsSpec)) volEpochsCard

/-- THE SECOND FORM's CARD OF 'sextetlaw13.SegReads'. -/
def segReadsUptoCard : Claim7 := { stood := { row := segReadsUptoRow, standIns := [], harness := (true, "8ed4a50a333e8776415fa3427e4ab74cfa6fe1f47326f7ee50bb8935d9928e77"), looks := true }, kinds := [], alts := [], laidByText := true, laidKinds := [.sentinel, .sentinel, .sentinel, .sentinel, .sentinel, .sentinel, .sentinel, .sentinel, .sentinel, .sentinel], laidTests := true, laidLooks := .later }
def SegReadsUptoCardSaid : Prop := Claim7.holds Tryz.pinned (.plain (OpenSpec.upto segReadsSpec)) segReadsUptoCard

/-- THE SECOND FORM's CARD OF 'sextetlaw13.SegFull'. -/
def segFullUptoCard : Claim7 := { stood := { row := segFullUptoRow, standIns := [], harness := (true, "8ed4a50a333e8776415fa3427e4ab74cfa6fe1f47326f7ee50bb8935d9928e77"), looks := true }, kinds := [], alts := [], laidByText := true, laidKinds := [.sentinel, .sentinel, .sentinel, .sentinel, .sentinel, .sentinel, .sentinel, .sentinel, .sentinel, .sentinel, .sentinel, .sentinel, .sentinel, .sentinel, .sentinel, .sentinel, .sentinel], laidTests := true, laidLooks := .later }
def SegFullUptoCardSaid : Prop := Claim7.holds Tryz.pinned (.plain (OpenSpec.upto segFullSpec)) segFullUptoCard

/-- THE SECOND FORM's CARD OF 'sextetlaw13.SegAcks'. -/
def segAcksUptoCard : Claim7 := { stood := { row := segAcksUptoRow, standIns := [], harness := (true, "8ed4a50a333e8776415fa3427e4ab74cfa6fe1f47326f7ee50bb8935d9928e77"), looks := true }, kinds := [], alts := [], laidByText := true, laidKinds := [.sentinel, .sentinel, .sentinel, .sentinel, .sentinel, .sentinel, .sentinel, .sentinel, .sentinel, .sentinel], laidTests := true, laidLooks := .later }
def SegAcksUptoCardSaid : Prop := Claim7.holds Tryz.pinned (.plain (OpenSpec.upto segAcksSpec)) segAcksUptoCard

/-- THE SECOND FORM's CARD OF 'sextetlaw13.SegEpochs'. -/
def segEpochsUptoCard : Claim7 := { stood := { row := segEpochsUptoRow, standIns := [], harness := (true, "8ed4a50a333e8776415fa3427e4ab74cfa6fe1f47326f7ee50bb8935d9928e77"), looks := true }, kinds := [], alts := [], laidByText := true, laidKinds := [.sentinel, .sentinel, .sentinel, .sentinel, .sentinel, .sentinel, .sentinel, .sentinel, .sentinel, .sentinel], laidTests := true, laidLooks := .later }
def SegEpochsUptoCardSaid : Prop := Claim7.holds Tryz.pinned (.plain (OpenSpec.upto segEpochsSpec)) segEpochsUptoCard

/-- THE SECOND FORM's CARD OF 'sextetlaw19.VolEpochs'. -/
def volEpochsUptoCard : Claim7 := { stood := { row := volEpochsUptoRow, standIns := [], harness := (true, "8ed4a50a333e8776415fa3427e4ab74cfa6fe1f47326f7ee50bb8935d9928e77"), looks := true }, kinds := [], alts := [], laidByText := true, laidKinds := [.sentinel, .sentinel, .sentinel, .sentinel, .sentinel, .sentinel, .sentinel, .sentinel, .sentinel, .sentinel, .sentinel, .sentinel, .sentinel, .sentinel, .sentinel, .sentinel, .sentinel], laidTests := true, laidLooks := .later }
def VolEpochsUptoCardSaid : Prop := Claim7.holds Tryz.pinned (.plain (OpenSpec.upto volEpochsSpec)) volEpochsUptoCard
end Rows
end Go.Proofs.YtefaghnlmmgpcaaGreatDoor
