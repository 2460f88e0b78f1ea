/-
  DERIVED. GIVEN WITH THE SEED: THE CARDS: each row of YtagiiaejijihoaaDoorRows.lean that lists a variable, with what it lists TIED to the program's text (the seventh form; the later family's looks); each row that meets fmt, with fmt's text TOLD by the authors' own Lean function (tested against real Go, not proved from fmt's source: count such statements apart). THE CARD IS WHAT COUNTS. Prove the row's statement (the work); the ties are given (YtagiiaejijihoaaDoorTie.lean); close each card by the builder's one call (the guide's Derived/Test/ToyasCard.lean, 'card_holds'). Laid BY PROGRAM, IN A SANDBOX (cutbox-door.mjs). By AI agents, Wed Nov 11 2026. No macro, syntax, notation, axiom, sorry.
-/
import Derived.Test.YtagiiaejijihoaaDoorRows
import GoSem.ClaimSeven
namespace Go.Proofs.YtagiiaejijihoaaDoor
namespace Rows

/-- THE TIED CARD OF 'weftwaylaw19.ValueTwins'. -/
def valueTwinsCard : Claim7 := { stood := { row := valueTwinsRow, standIns := [], harness := (true, "7e187df1561564696cc8a7b33dce2498229962be60b323abed0eba5d29beb15d"), looks := false }, kinds := [], alts := [], laidByText := true, laidKinds := [.data, .data, .data], laidTests := true, laidLooks := .later }
def ValueTwinsCardSaid : Prop := Claim7.holds Tryd.pinned (.plain (OpenSpec.ofChange valueTwinsSpec)) valueTwinsCard

/-- THE TIED CARD OF 'weftwaylaw19.ValueSet'. -/
def valueSetCard : Claim7 := { stood := { row := valueSetRow, standIns := [], harness := (true, "7e187df1561564696cc8a7b33dce2498229962be60b323abed0eba5d29beb15d"), looks := false }, kinds := [], alts := [], laidByText := true, laidKinds := [.data, .data, .data], laidTests := true, laidLooks := .later }
def ValueSetCardSaid : Prop := Claim7.holds Tryd.pinned (.plain (OpenSpec.ofChange valueSetSpec)) valueSetCard

/-- THE TIED CARD OF 'weftwaylaw19.ValuePieces'. -/
def valuePiecesCard : Claim7 := { stood := { row := valuePiecesRow, standIns := [], harness := (true, "7e187df1561564696cc8a7b33dce2498229962be60b323abed0eba5d29beb15d"), looks := false }, kinds := [], alts := [], laidByText := true, laidKinds := [.data, .data, .data], laidTests := true, laidLooks := .later }
def ValuePiecesCardSaid : Prop := Claim7.holds Tryd.pinned (.plain (OpenSpec.ofChange valuePiecesSpec)) valuePiecesCard

/-- THE TIED CARD OF 'weftwaylaw19.ValueInto'. -/
def valueIntoCard : Claim7 := { stood := { row := valueIntoRow, standIns := [], harness := (true, "7e187df1561564696cc8a7b33dce2498229962be60b323abed0eba5d29beb15d"), looks := false }, kinds := [], alts := [], laidByText := true, laidKinds := [.data, .data, .data], laidTests := true, laidLooks := .later }
def ValueIntoCardSaid : Prop := Claim7.holds Tryd.pinned (.plain (OpenSpec.ofChange valueIntoSpec)) valueIntoCard

/-- THE TIED CARD OF 'weftwaylaw19.ValueTexts'. -/
def valueTextsCard : Claim7 := { stood := { row := valueTextsRow, standIns := [], harness := (true, "7e187df1561564696cc8a7b33dce2498229962be60b323abed0eba5d29beb15d"), looks := false }, kinds := [], alts := [], laidByText := true, laidKinds := [.data, .data, .data], laidTests := true, laidLooks := .later }
def ValueTextsCardSaid : Prop := Claim7.holds Tryd.pinned (.plain (OpenSpec.ofChange valueTextsSpec)) valueTextsCard

/-- THE SECOND FORM's CARD OF 'weftwaylaw19.ValueTwins'. -/
def valueTwinsUptoCard : Claim7 := { stood := { row := valueTwinsUptoRow, standIns := [], harness := (true, "7e187df1561564696cc8a7b33dce2498229962be60b323abed0eba5d29beb15d"), looks := false }, kinds := [], alts := [], laidByText := true, laidKinds := [.data, .data, .data], laidTests := true, laidLooks := .later }
def ValueTwinsUptoCardSaid : Prop := Claim7.holds Tryd.pinned (.plain (OpenSpec.upto valueTwinsSpec)) valueTwinsUptoCard

/-- THE SECOND FORM's CARD OF 'weftwaylaw19.ValueSet'. -/
def valueSetUptoCard : Claim7 := { stood := { row := valueSetUptoRow, standIns := [], harness := (true, "7e187df1561564696cc8a7b33dce2498229962be60b323abed0eba5d29beb15d"), looks := false }, kinds := [], alts := [], laidByText := true, laidKinds := [.data, .data, .data], laidTests := true, laidLooks := .later }
def ValueSetUptoCardSaid : Prop := Claim7.holds Tryd.pinned (.plain (OpenSpec.upto valueSetSpec)) valueSetUptoCard

/-- THE SECOND FORM's CARD OF 'weftwaylaw19.ValuePieces'. -/
def valuePiecesUptoCard : Claim7 := { stood := { row := valuePiecesUptoRow, standIns := [], harness := (true, "7e187df1561564696cc8a7b33dce2498229962be60b323abed0eba5d29beb15d"), looks := false }, kinds := [], alts := [], laidByText := true, laidKinds := [.data, .data, .data], laidTests := true, laidLooks := .later }
def ValuePiecesUptoCardSaid : Prop := Claim7.holds Tryd.pinned (.plain (OpenSpec.upto valuePiecesSpec)) valuePiecesUptoCard

/-- THE SECOND FORM's CARD OF 'weftwaylaw19.ValueInto'. -/
def valueIntoUptoCard : Claim7 := { stood := { row := valueIntoUptoRow, standIns := [], harness := (true, "7e187df1561564696cc8a7b33dce2498229962be60b323abed0eba5d29beb15d"), looks := false }, kinds := [], alts := [], laidByText := true, laidKinds := [.data, .data, .data], laidTests := true, laidLooks := .later }
def ValueIntoUptoCardSaid : Prop := Claim7.holds Tryd.pinned (.plain (OpenSpec.upto valueIntoSpec)) valueIntoUptoCard

/-- THE SECOND FORM's CARD OF 'weftwaylaw19.ValueTexts'. -/
def valueTextsUptoCard : Claim7 := { stood := { row := valueTextsUptoRow, standIns := [], harness := (true, "7e187df1561564696cc8a7b33dce2498229962be60b323abed0eba5d29beb15d"), looks := false }, kinds := [], alts := [], laidByText := true, laidKinds := [.data, .data, .data], laidTests := true, laidLooks := .later }
def ValueTextsUptoCardSaid : Prop := Claim7.holds Tryd.pinned (.plain (OpenSpec.upto valueTextsSpec)) valueTextsUptoCard
end Rows
end Go.Proofs.YtagiiaejijihoaaDoor
