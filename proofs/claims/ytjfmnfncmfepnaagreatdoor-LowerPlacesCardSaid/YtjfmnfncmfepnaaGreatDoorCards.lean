/-
  DERIVED. GIVEN WITH THE SEED: THE CARDS: each row of YtjfmnfncmfepnaaGreatDoorRows.lean that lists a variable, with what it lists TIED to the program's text (the seventh form; the later family's looks); each row that meets fmt, with fmt's text TOLD by the authors' own Lean function (tested against real Go, not proved from fmt's source: count such statements apart). THE CARD IS WHAT COUNTS. Prove the row's statement (the work); the ties are given (YtjfmnfncmfepnaaGreatDoorTie.lean); close each card by the builder's one call (the guide's Derived/Test/ToyasCard.lean, 'card_holds'). Laid BY PROGRAM, IN A SANDBOX (cutbox-door.mjs). By AI agents, Wed Nov 11 2026. No macro, syntax, notation, axiom, sorry.
-/
import Derived.Test.YtjfmnfncmfepnaaGreatDoorRows
import GoSem.ClaimSeven
namespace Go.Proofs.YtjfmnfncmfepnaaGreatDoor
namespace Rows

/-- THE TIED CARD OF 'weftwaylaw18.LowerMakes'. -/
def lowerMakesCard : Claim7 := { stood := { row := lowerMakesRow, standIns := [], harness := (true, "bc2daf59f8a6458e8520ba64e7e9f297b18b07232f24f1a780f5b2aa0c74b7ce"), looks := false }, kinds := [], alts := [], laidByText := true, laidKinds := [.data, .data, .data, .listed, .data], laidTests := true, laidLooks := .later }
def LowerMakesCardSaid : Prop := Claim7.holds Tryz.pinned (.plain (OpenSpec.ofChange lowerMakesSpec)) lowerMakesCard

/-- THE TIED CARD OF 'weftwaylaw18.LowerOwn'. -/
def lowerOwnCard : Claim7 := { stood := { row := lowerOwnRow, standIns := [], harness := (true, "bc2daf59f8a6458e8520ba64e7e9f297b18b07232f24f1a780f5b2aa0c74b7ce"), looks := false }, kinds := [], alts := [], laidByText := true, laidKinds := [.data, .data, .data, .listed, .data], laidTests := true, laidLooks := .later }
def LowerOwnCardSaid : Prop := Claim7.holds Tryz.pinned (.plain (OpenSpec.ofChange lowerOwnSpec)) lowerOwnCard

/-- THE TIED CARD OF 'weftwaylaw18.LowerMay'. -/
def lowerMayCard : Claim7 := { stood := { row := lowerMayRow, standIns := [], harness := (true, "bc2daf59f8a6458e8520ba64e7e9f297b18b07232f24f1a780f5b2aa0c74b7ce"), looks := false }, kinds := [], alts := [], laidByText := true, laidKinds := [.data, .data, .data, .listed, .data], laidTests := true, laidLooks := .later }
def LowerMayCardSaid : Prop := Claim7.holds Tryz.pinned (.plain (OpenSpec.ofChange lowerMaySpec)) lowerMayCard

/-- THE TIED CARD OF 'weftwaylaw18.LowerPlaces'. -/
def lowerPlacesCard : Claim7 := { stood := { row := lowerPlacesRow, standIns := [], harness := (true, "bc2daf59f8a6458e8520ba64e7e9f297b18b07232f24f1a780f5b2aa0c74b7ce"), looks := false }, kinds := [], alts := [], laidByText := true, laidKinds := [.data, .data, .data, .listed, .data], laidTests := true, laidLooks := .later }
def LowerPlacesCardSaid : Prop := Claim7.holds Tryz.pinned (.plain (OpenSpec.ofChange lowerPlacesSpec)) lowerPlacesCard

/-- THE TIED CARD OF 'weftwaylaw18.LowerBalanced'. -/
def lowerBalancedCard : Claim7 := { stood := { row := lowerBalancedRow, standIns := [], harness := (true, "bc2daf59f8a6458e8520ba64e7e9f297b18b07232f24f1a780f5b2aa0c74b7ce"), looks := false }, kinds := [], alts := [], laidByText := true, laidKinds := [.data, .data, .data, .listed, .data], laidTests := true, laidLooks := .later }
def LowerBalancedCardSaid : Prop := Claim7.holds Tryz.pinned (.plain (OpenSpec.ofChange lowerBalancedSpec)) lowerBalancedCard

/-- THE SECOND FORM's CARD OF 'weftwaylaw18.LowerMakes'. -/
def lowerMakesUptoCard : Claim7 := { stood := { row := lowerMakesUptoRow, standIns := [], harness := (true, "bc2daf59f8a6458e8520ba64e7e9f297b18b07232f24f1a780f5b2aa0c74b7ce"), looks := false }, kinds := [], alts := [], laidByText := true, laidKinds := [.data, .data, .data, .listed, .data], laidTests := true, laidLooks := .later }
def LowerMakesUptoCardSaid : Prop := Claim7.holds Tryz.pinned (.plain (OpenSpec.upto lowerMakesSpec)) lowerMakesUptoCard

/-- THE SECOND FORM's CARD OF 'weftwaylaw18.LowerOwn'. -/
def lowerOwnUptoCard : Claim7 := { stood := { row := lowerOwnUptoRow, standIns := [], harness := (true, "bc2daf59f8a6458e8520ba64e7e9f297b18b07232f24f1a780f5b2aa0c74b7ce"), looks := false }, kinds := [], alts := [], laidByText := true, laidKinds := [.data, .data, .data, .listed, .data], laidTests := true, laidLooks := .later }
def LowerOwnUptoCardSaid : Prop := Claim7.holds Tryz.pinned (.plain (OpenSpec.upto lowerOwnSpec)) lowerOwnUptoCard

/-- THE SECOND FORM's CARD OF 'weftwaylaw18.LowerMay'. -/
def lowerMayUptoCard : Claim7 := { stood := { row := lowerMayUptoRow, standIns := [], harness := (true, "bc2daf59f8a6458e8520ba64e7e9f297b18b07232f24f1a780f5b2aa0c74b7ce"), looks := false }, kinds := [], alts := [], laidByText := true, laidKinds := [.data, .data, .data, .listed, .data], laidTests := true, laidLooks := .later }
def LowerMayUptoCardSaid : Prop := Claim7.holds Tryz.pinned (.plain (OpenSpec.upto lowerMaySpec)) lowerMayUptoCard

/-- THE SECOND FORM's CARD OF 'weftwaylaw18.LowerPlaces'. -/
def lowerPlacesUptoCard : Claim7 := { stood := { row := lowerPlacesUptoRow, standIns := [], harness := (true, "bc2daf59f8a6458e8520ba64e7e9f297b18b07232f24f1a780f5b2aa0c74b7ce"), looks := false }, kinds := [], alts := [], laidByText := true, laidKinds := [.data, .data, .data, .listed, .data], laidTests := true, laidLooks := .later }
def LowerPlacesUptoCardSaid : Prop := Claim7.holds Tryz.pinned (.plain (OpenSpec.upto lowerPlacesSpec)) lowerPlacesUptoCard

/-- THE SECOND FORM's CARD OF 'weftwaylaw18.LowerBalanced'. -/
def lowerBalancedUptoCard : Claim7 := { stood := { row := lowerBalancedUptoRow, standIns := [], harness := (true, "bc2daf59f8a6458e8520ba64e7e9f297b18b07232f24f1a780f5b2aa0c74b7ce"), looks := false }, kinds := [], alts := [], laidByText := true, laidKinds := [.data, .data, .data, .listed, .data], laidTests := true, laidLooks := .later }
def LowerBalancedUptoCardSaid : Prop := Claim7.holds Tryz.pinned (.plain (OpenSpec.upto lowerBalancedSpec)) lowerBalancedUptoCard
end Rows
end Go.Proofs.YtjfmnfncmfepnaaGreatDoor
