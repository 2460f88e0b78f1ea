/-
  DERIVED. GIVEN WITH THE SEED: THE CARDS: each row of YtjmofeakajdbiaaGreatDoorRows.lean that lists a variable, with what it lists TIED to the program's text (the seventh form; the later family's looks); each row that meets fmt, with fmt's text TOLD by the authors' own Lean function (tested against real Go, not proved from fmt's source: count such statements apart). THE CARD IS WHAT COUNTS. Prove the row's statement (the work); the ties are given (YtjmofeakajdbiaaGreatDoorTie.lean); close each card by the builder's one call (the guide's Derived/Test/ToyasCard.lean, 'card_holds'). Laid BY PROGRAM, IN A SANDBOX (cutbox-door.mjs). By AI agents, Wed Nov 11 2026. No macro, syntax, notation, axiom, sorry.
-/
import Derived.Test.YtjmofeakajdbiaaGreatDoorRows
import GoSem.ClaimSeven
namespace Go.Proofs.YtjmofeakajdbiaaGreatDoor
namespace Rows

/-- THE TIED CARD OF 'weftwaylaw03.TreeWhole'. -/
def treeWholeCard : Claim7 := { stood := { row := treeWholeRow, standIns := [], harness := (true, "fd4d81013e436d726a09aecdafc1d49bb8f601a09b0697bb47f30bd6c1d6ef3c"), looks := false }, kinds := [], alts := [], laidByText := true, laidKinds := [.listed, .data], laidTests := true, laidLooks := .later }
def TreeWholeCardSaid : Prop := Claim7.holds Tryz.pinned (.plain (OpenSpec.ofChange treeWholeSpec)) treeWholeCard

/-- THE TIED CARD OF 'weftwaylaw03.TreeJoined'. -/
def treeJoinedCard : Claim7 := { stood := { row := treeJoinedRow, standIns := [], harness := (true, "fd4d81013e436d726a09aecdafc1d49bb8f601a09b0697bb47f30bd6c1d6ef3c"), looks := false }, kinds := [], alts := [], laidByText := true, laidKinds := [.listed, .data], laidTests := true, laidLooks := .later }
def TreeJoinedCardSaid : Prop := Claim7.holds Tryz.pinned (.plain (OpenSpec.ofChange treeJoinedSpec)) treeJoinedCard

/-- THE TIED CARD OF 'weftwaylaw03.TreeWrapped'. -/
def treeWrappedCard : Claim7 := { stood := { row := treeWrappedRow, standIns := [], harness := (true, "fd4d81013e436d726a09aecdafc1d49bb8f601a09b0697bb47f30bd6c1d6ef3c"), looks := false }, kinds := [], alts := [], laidByText := true, laidKinds := [.listed, .data], laidTests := true, laidLooks := .later }
def TreeWrappedCardSaid : Prop := Claim7.holds Tryz.pinned (.plain (OpenSpec.ofChange treeWrappedSpec)) treeWrappedCard

/-- THE TIED CARD OF 'weftwaylaw03.TreeBlock'. -/
def treeBlockCard : Claim7 := { stood := { row := treeBlockRow, standIns := [], harness := (true, "fd4d81013e436d726a09aecdafc1d49bb8f601a09b0697bb47f30bd6c1d6ef3c"), looks := false }, kinds := [], alts := [], laidByText := true, laidKinds := [.listed, .data], laidTests := true, laidLooks := .later }
def TreeBlockCardSaid : Prop := Claim7.holds Tryz.pinned (.plain (OpenSpec.ofChange treeBlockSpec)) treeBlockCard

/-- THE TIED CARD OF 'weftwaylaw03.TreeApart'. -/
def treeApartCard : Claim7 := { stood := { row := treeApartRow, standIns := [], harness := (true, "fd4d81013e436d726a09aecdafc1d49bb8f601a09b0697bb47f30bd6c1d6ef3c"), looks := false }, kinds := [], alts := [], laidByText := true, laidKinds := [.listed, .data], laidTests := true, laidLooks := .later }
def TreeApartCardSaid : Prop := Claim7.holds Tryz.pinned (.plain (OpenSpec.ofChange treeApartSpec)) treeApartCard

/-- THE SECOND FORM's CARD OF 'weftwaylaw03.TreeWhole'. -/
def treeWholeUptoCard : Claim7 := { stood := { row := treeWholeUptoRow, standIns := [], harness := (true, "fd4d81013e436d726a09aecdafc1d49bb8f601a09b0697bb47f30bd6c1d6ef3c"), looks := false }, kinds := [], alts := [], laidByText := true, laidKinds := [.listed, .data], laidTests := true, laidLooks := .later }
def TreeWholeUptoCardSaid : Prop := Claim7.holds Tryz.pinned (.plain (OpenSpec.upto treeWholeSpec)) treeWholeUptoCard

/-- THE SECOND FORM's CARD OF 'weftwaylaw03.TreeJoined'. -/
def treeJoinedUptoCard : Claim7 := { stood := { row := treeJoinedUptoRow, standIns := [], harness := (true, "fd4d81013e436d726a09aecdafc1d49bb8f601a09b0697bb47f30bd6c1d6ef3c"), looks := false }, kinds := [], alts := [], laidByText := true, laidKinds := [.listed, .data], laidTests := true, laidLooks := .later }
def TreeJoinedUptoCardSaid : Prop := Claim7.holds Tryz.pinned (.plain (OpenSpec.upto treeJoinedSpec)) treeJoinedUptoCard

/-- THE SECOND FORM's CARD OF 'weftwaylaw03.TreeWrapped'. -/
def treeWrappedUptoCard : Claim7 := { stood := { row := treeWrappedUptoRow, standIns := [], harness := (true, "fd4d81013e436d726a09aecdafc1d49bb8f601a09b0697bb47f30bd6c1d6ef3c"), looks := false }, kinds := [], alts := [], laidByText := true, laidKinds := [.listed, .data], laidTests := true, laidLooks := .later }
def TreeWrappedUptoCardSaid : Prop := Claim7.holds Tryz.pinned (.plain (OpenSpec.upto treeWrappedSpec)) treeWrappedUptoCard

/-- THE SECOND FORM's CARD OF 'weftwaylaw03.TreeBlock'. -/
def treeBlockUptoCard : Claim7 := { stood := { row := treeBlockUptoRow, standIns := [], harness := (true, "fd4d81013e436d726a09aecdafc1d49bb8f601a09b0697bb47f30bd6c1d6ef3c"), looks := false }, kinds := [], alts := [], laidByText := true, laidKinds := [.listed, .data], laidTests := true, laidLooks := .later }
def TreeBlockUptoCardSaid : Prop := Claim7.holds Tryz.pinned (.plain (OpenSpec.upto treeBlockSpec)) treeBlockUptoCard

/-- THE SECOND FORM's CARD OF 'weftwaylaw03.TreeApart'. -/
def treeApartUptoCard : Claim7 := { stood := { row := treeApartUptoRow, standIns := [], harness := (true, "fd4d81013e436d726a09aecdafc1d49bb8f601a09b0697bb47f30bd6c1d6ef3c"), looks := false }, kinds := [], alts := [], laidByText := true, laidKinds := [.listed, .data], laidTests := true, laidLooks := .later }
def TreeApartUptoCardSaid : Prop := Claim7.holds Tryz.pinned (.plain (OpenSpec.upto treeApartSpec)) treeApartUptoCard
end Rows
end Go.Proofs.YtjmofeakajdbiaaGreatDoor
