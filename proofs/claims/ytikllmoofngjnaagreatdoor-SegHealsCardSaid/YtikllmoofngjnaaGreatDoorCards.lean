/-
  DERIVED. GIVEN WITH THE SEED: THE CARDS: each row of YtikllmoofngjnaaGreatDoorRows.lean that lists a variable, with what it lists TIED to the program's text (the seventh form; the later family's looks); each row that meets fmt, with fmt's text TOLD by the authors' own Lean function (tested against real Go, not proved from fmt's source: count such statements apart). THE CARD IS WHAT COUNTS. Prove the row's statement (the work); the ties are given (YtikllmoofngjnaaGreatDoorTie.lean); close each card by the builder's one call (the guide's Derived/Test/ToyasCard.lean, 'card_holds'). Laid BY PROGRAM, IN A SANDBOX (cutbox-door.mjs). By AI agents, Wed Nov 11 2026. No macro, syntax, notation, axiom, sorry.
-/
import Derived.Test.YtikllmoofngjnaaGreatDoorRows
import GoSem.ClaimSeven
namespace Go.Proofs.YtikllmoofngjnaaGreatDoor
namespace Rows

/-- THE TIED CARD OF 'sextetlaw13.SegFalls'. -/
def segFallsCard : Claim7 := { stood := { row := segFallsRow, standIns := [], harness := (true, "9292e8f8f56b76acec6b772980521b0418385051ba5ffe3e554272d0d615311c"), looks := true }, kinds := [], alts := [], laidByText := true, laidKinds := [.sentinel, .sentinel, .sentinel, .sentinel, .sentinel, .sentinel, .sentinel, .sentinel, .sentinel, .sentinel, .sentinel, .sentinel, .sentinel, .sentinel, .sentinel, .sentinel, .sentinel], laidTests := true, laidLooks := .later }
def SegFallsCardSaid : Prop := Claim7.holds Tryz.pinned (.plain (OpenSpec.ofChange segFallsSpec)) segFallsCard

/-- THE TIED CARD OF 'sextetlaw13.SegBlank'. -/
def segBlankCard : Claim7 := { stood := { row := segBlankRow, standIns := [], harness := (true, "9292e8f8f56b76acec6b772980521b0418385051ba5ffe3e554272d0d615311c"), looks := true }, kinds := [], alts := [], laidByText := true, laidKinds := [.sentinel, .sentinel, .sentinel, .sentinel, .sentinel, .sentinel, .sentinel, .sentinel, .sentinel, .sentinel], laidTests := true, laidLooks := .later }
def SegBlankCardSaid : Prop := Claim7.holds Tryz.pinned (.plain (OpenSpec.ofChange segBlankSpec)) segBlankCard

/-- THE TIED CARD OF 'sextetlaw13.SegHeals'. -/
def segHealsCard : Claim7 := { stood := { row := segHealsRow, standIns := [], harness := (true, "9292e8f8f56b76acec6b772980521b0418385051ba5ffe3e554272d0d615311c"), looks := true }, kinds := [], alts := [], laidByText := true, laidKinds := [.sentinel, .sentinel, .sentinel, .sentinel, .sentinel, .sentinel, .sentinel, .sentinel, .sentinel, .sentinel], laidTests := true, laidLooks := .later }
def SegHealsCardSaid : Prop := Claim7.holds Tryz.pinned (.plain (OpenSpec.ofChange segHealsSpec)) segHealsCard

/-- THE SECOND FORM's CARD OF 'sextetlaw13.SegFalls'. -/
def segFallsUptoCard : Claim7 := { stood := { row := segFallsUptoRow, standIns := [], harness := (true, "9292e8f8f56b76acec6b772980521b0418385051ba5ffe3e554272d0d615311c"), looks := true }, kinds := [], alts := [], laidByText := true, laidKinds := [.sentinel, .sentinel, .sentinel, .sentinel, .sentinel, .sentinel, .sentinel, .sentinel, .sentinel, .sentinel, .sentinel, .sentinel, .sentinel, .sentinel, .sentinel, .sentinel, .sentinel], laidTests := true, laidLooks := .later }
def SegFallsUptoCardSaid : Prop := Claim7.holds Tryz.pinned (.plain (OpenSpec.upto segFallsSpec)) segFallsUptoCard

/-- THE SECOND FORM's CARD OF 'sextetlaw13.SegBlank'. -/
def segBlankUptoCard : Claim7 := { stood := { row := segBlankUptoRow, standIns := [], harness := (true, "9292e8f8f56b76acec6b772980521b0418385051ba5ffe3e554272d0d615311c"), looks := true }, kinds := [], alts := [], laidByText := true, laidKinds := [.sentinel, .sentinel, .sentinel, .sentinel, .sentinel, .sentinel, .sentinel, .sentinel, .sentinel, .sentinel], laidTests := true, laidLooks := .later }
def SegBlankUptoCardSaid : Prop := Claim7.holds Tryz.pinned (.plain (OpenSpec.upto segBlankSpec)) segBlankUptoCard

/-- THE SECOND FORM's CARD OF 'sextetlaw13.SegHeals'. -/
def segHealsUptoCard : Claim7 := { stood := { row := segHealsUptoRow, standIns := [], harness := (true, "9292e8f8f56b76acec6b772980521b0418385051ba5ffe3e554272d0d615311c"), looks := true }, kinds := [], alts := [], laidByText := true, laidKinds := [.sentinel, .sentinel, .sentinel, .sentinel, .sentinel, .sentinel, .sentinel, .sentinel, .sentinel, .sentinel], laidTests := true, laidLooks := .later }
def SegHealsUptoCardSaid : Prop := Claim7.holds Tryz.pinned (.plain (OpenSpec.upto segHealsSpec)) segHealsUptoCard
end Rows
end Go.Proofs.YtikllmoofngjnaaGreatDoor
