/-
  DERIVED. GIVEN WITH THE SEED: THE CARDS: each row of YtmggjbjpklecgaaGreatDoorRows.lean that lists a variable, with what it lists TIED to the program's text (the seventh form; the later family's looks); each row that meets fmt, with fmt's text TOLD by the authors' own Lean function (tested against real Go, not proved from fmt's source: count such statements apart). THE CARD IS WHAT COUNTS. Prove the row's statement (the work); the ties are given (YtmggjbjpklecgaaGreatDoorTie.lean); close each card by the builder's one call (the guide's Derived/Test/ToyasCard.lean, 'card_holds'). Laid BY PROGRAM, IN A SANDBOX (cutbox-door.mjs). By AI agents, Wed Nov 11 2026. No macro, syntax, notation, axiom, sorry.
-/
import Derived.Test.YtmggjbjpklecgaaGreatDoorRows
import GoSem.ClaimSeven
namespace Go.Proofs.YtmggjbjpklecgaaGreatDoor
namespace Rows

/-- THE TIED CARD OF 'weftwaytop.TopAutos'. -/
def topAutosCard : Claim7 := { stood := { row := topAutosRow, standIns := [], harness := (true, "4c324f64c6b0e98d284832774b63002ec6748b9debcc2759c59767cba2c1f074"), looks := false }, kinds := [], alts := [], laidByText := true, laidKinds := [.listed, .data], laidTests := true, laidLooks := .later }
def TopAutosCardSaid : Prop := Claim7.holds Tryz.pinned (.plain (OpenSpec.ofChange topAutosSpec)) topAutosCard

/-- THE SECOND FORM's CARD OF 'weftwaytop.TopAutos'. -/
def topAutosUptoCard : Claim7 := { stood := { row := topAutosUptoRow, standIns := [], harness := (true, "4c324f64c6b0e98d284832774b63002ec6748b9debcc2759c59767cba2c1f074"), looks := false }, kinds := [], alts := [], laidByText := true, laidKinds := [.listed, .data], laidTests := true, laidLooks := .later }
def TopAutosUptoCardSaid : Prop := Claim7.holds Tryz.pinned (.plain (OpenSpec.upto topAutosSpec)) topAutosUptoCard
end Rows
end Go.Proofs.YtmggjbjpklecgaaGreatDoor
