/-
  DERIVED. GIVEN WITH THE SEED: THE CARDS: each row of YtaomkgkdfafiiaaGreatDoorRows.lean that lists a variable, with what it lists TIED to the program's text (the seventh form; the later family's looks); each row that meets fmt, with fmt's text TOLD by the authors' own Lean function (tested against real Go, not proved from fmt's source: count such statements apart). THE CARD IS WHAT COUNTS. Prove the row's statement (the work); the ties are given (YtaomkgkdfafiiaaGreatDoorTie.lean); close each card by the builder's one call (the guide's Derived/Test/ToyasCard.lean, 'card_holds'). Laid BY PROGRAM, IN A SANDBOX (cutbox-door.mjs). By AI agents, Wed Nov 11 2026. No macro, syntax, notation, axiom, sorry.
-/
import Derived.Test.YtaomkgkdfafiiaaGreatDoorRows
import GoSem.ClaimSeven
namespace Go.Proofs.YtaomkgkdfafiiaaGreatDoor
namespace Rows

/-- THE TIED CARD OF 'weftwaylaw28.MachineNil'. -/
def machineNilCard : Claim7 := { stood := { row := machineNilRow, standIns := [], harness := (true, "85f195f71b0ef7cf8d545660895d36d784646e75ccf9ecb45eaf0ee3b2f2d2f1"), looks := true }, kinds := [], alts := [], laidByText := true, laidKinds := [.data, .data, .data], laidTests := true, laidLooks := .later }
def MachineNilCardSaid : Prop := Claim7.holds Tryz.pinned (.plain (OpenSpec.ofChange machineNilSpec)) machineNilCard

/-- THE TIED CARD OF 'weftwaylaw29.DriveTexts'. -/
def driveTextsCard : Claim7 := { stood := { row := driveTextsRow, standIns := [], harness := (true, "85f195f71b0ef7cf8d545660895d36d784646e75ccf9ecb45eaf0ee3b2f2d2f1"), looks := true }, kinds := [], alts := [], laidByText := true, laidKinds := [.data, .data, .data], laidTests := true, laidLooks := .later }
def DriveTextsCardSaid : Prop := Claim7.holds Tryz.pinned (.plain (OpenSpec.ofChange driveTextsSpec)) driveTextsCard

/-- THE SECOND FORM's CARD OF 'weftwaylaw28.MachineNil'. -/
def machineNilUptoCard : Claim7 := { stood := { row := machineNilUptoRow, standIns := [], harness := (true, "85f195f71b0ef7cf8d545660895d36d784646e75ccf9ecb45eaf0ee3b2f2d2f1"), looks := true }, kinds := [], alts := [], laidByText := true, laidKinds := [.data, .data, .data], laidTests := true, laidLooks := .later }
def MachineNilUptoCardSaid : Prop := Claim7.holds Tryz.pinned (.plain (OpenSpec.upto machineNilSpec)) machineNilUptoCard

/-- THE SECOND FORM's CARD OF 'weftwaylaw29.DriveTexts'. -/
def driveTextsUptoCard : Claim7 := { stood := { row := driveTextsUptoRow, standIns := [], harness := (true, "85f195f71b0ef7cf8d545660895d36d784646e75ccf9ecb45eaf0ee3b2f2d2f1"), looks := true }, kinds := [], alts := [], laidByText := true, laidKinds := [.data, .data, .data], laidTests := true, laidLooks := .later }
def DriveTextsUptoCardSaid : Prop := Claim7.holds Tryz.pinned (.plain (OpenSpec.upto driveTextsSpec)) driveTextsUptoCard
end Rows
end Go.Proofs.YtaomkgkdfafiiaaGreatDoor
