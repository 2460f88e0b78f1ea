/-
  DERIVED. GIVEN WITH THE SEED: THE CARDS: each row of YtjobleemmjjocaaDoorRows.lean that lists a variable, with what it lists TIED to the program's text (the seventh form; the later family's looks); each row that meets fmt, with fmt's text TOLD by the authors' own Lean function (tested against real Go, not proved from fmt's source: count such statements apart). THE CARD IS WHAT COUNTS. Prove the row's statement (the work); the ties are given (YtjobleemmjjocaaDoorTie.lean); close each card by the builder's one call (the guide's Derived/Test/ToyasCard.lean, 'card_holds'). Laid BY PROGRAM, IN A SANDBOX (cutbox-door.mjs). By AI agents, Wed Nov 11 2026. No macro, syntax, notation, axiom, sorry.
-/
import Derived.Test.YtjobleemmjjocaaDoorRows
import GoSem.ClaimSeven
namespace Go.Proofs.YtjobleemmjjocaaDoor
namespace Rows

/-- THE TIED CARD OF 'weftwaylaw25.TraceMay'. -/
def traceMayCard : Claim7 := { stood := { row := traceMayRow, standIns := [], harness := (true, "02a92389005384fef5285d7cd464d90502be864afcc4d4e6a6f8514db30a73b4"), looks := false }, kinds := [], alts := [], laidByText := true, laidKinds := [.data, .data, .data], laidTests := true, laidLooks := .later }
def TraceMayCardSaid : Prop := Claim7.holds Tryd.pinned (.plain (OpenSpec.ofChange traceMaySpec)) traceMayCard

/-- THE TIED CARD OF 'weftwaylaw25.TraceText'. -/
def traceTextCard : Claim7 := { stood := { row := traceTextRow, standIns := [], harness := (true, "02a92389005384fef5285d7cd464d90502be864afcc4d4e6a6f8514db30a73b4"), looks := false }, kinds := [], alts := [], laidByText := true, laidKinds := [.data, .data, .data], laidTests := true, laidLooks := .later }
def TraceTextCardSaid : Prop := Claim7.holds Tryd.pinned (.plain (OpenSpec.ofChange traceTextSpec)) traceTextCard

/-- THE TIED CARD OF 'weftwaylaw25.TraceLimits'. -/
def traceLimitsCard : Claim7 := { stood := { row := traceLimitsRow, standIns := [], harness := (true, "02a92389005384fef5285d7cd464d90502be864afcc4d4e6a6f8514db30a73b4"), looks := false }, kinds := [], alts := [], laidByText := true, laidKinds := [.data, .data, .data], laidTests := true, laidLooks := .later }
def TraceLimitsCardSaid : Prop := Claim7.holds Tryd.pinned (.plain (OpenSpec.ofChange traceLimitsSpec)) traceLimitsCard

/-- THE TIED CARD OF 'weftwaylaw25.TraceBegins'. -/
def traceBeginsCard : Claim7 := { stood := { row := traceBeginsRow, standIns := [], harness := (true, "02a92389005384fef5285d7cd464d90502be864afcc4d4e6a6f8514db30a73b4"), looks := false }, kinds := [], alts := [], laidByText := true, laidKinds := [.data, .data, .data], laidTests := true, laidLooks := .later }
def TraceBeginsCardSaid : Prop := Claim7.holds Tryd.pinned (.plain (OpenSpec.ofChange traceBeginsSpec)) traceBeginsCard

/-- THE TIED CARD OF 'weftwaylaw25.TraceTurned'. -/
def traceTurnedCard : Claim7 := { stood := { row := traceTurnedRow, standIns := [], harness := (true, "02a92389005384fef5285d7cd464d90502be864afcc4d4e6a6f8514db30a73b4"), looks := false }, kinds := [], alts := [], laidByText := true, laidKinds := [.data, .data, .data], laidTests := true, laidLooks := .later }
def TraceTurnedCardSaid : Prop := Claim7.holds Tryd.pinned (.plain (OpenSpec.ofChange traceTurnedSpec)) traceTurnedCard

/-- THE TIED CARD OF 'weftwaylaw25.TraceEnds'. -/
def traceEndsCard : Claim7 := { stood := { row := traceEndsRow, standIns := [], harness := (true, "02a92389005384fef5285d7cd464d90502be864afcc4d4e6a6f8514db30a73b4"), looks := false }, kinds := [], alts := [], laidByText := true, laidKinds := [.data, .data, .data], laidTests := true, laidLooks := .later }
def TraceEndsCardSaid : Prop := Claim7.holds Tryd.pinned (.plain (OpenSpec.ofChange traceEndsSpec)) traceEndsCard

/-- THE TIED CARD OF 'weftwaylaw25.TraceConflict'. -/
def traceConflictCard : Claim7 := { stood := { row := traceConflictRow, standIns := [], harness := (true, "02a92389005384fef5285d7cd464d90502be864afcc4d4e6a6f8514db30a73b4"), looks := false }, kinds := [], alts := [], laidByText := true, laidKinds := [.data, .data, .data], laidTests := true, laidLooks := .later }
def TraceConflictCardSaid : Prop := Claim7.holds Tryd.pinned (.plain (OpenSpec.ofChange traceConflictSpec)) traceConflictCard

/-- THE TIED CARD OF 'weftwaylaw17.CodeInstr'. -/
def codeInstrCard : Claim7 := { stood := { row := codeInstrRow, standIns := [], harness := (true, "02a92389005384fef5285d7cd464d90502be864afcc4d4e6a6f8514db30a73b4"), looks := false }, kinds := [], alts := [], laidByText := true, laidKinds := [.data, .data, .data], laidTests := true, laidLooks := .later }
def CodeInstrCardSaid : Prop := Claim7.holds Tryd.pinned (.plain (OpenSpec.ofChange codeInstrSpec)) codeInstrCard

/-- THE TIED CARD OF 'weftwaylaw17.CodeSlots'. -/
def codeSlotsCard : Claim7 := { stood := { row := codeSlotsRow, standIns := [], harness := (true, "02a92389005384fef5285d7cd464d90502be864afcc4d4e6a6f8514db30a73b4"), looks := false }, kinds := [], alts := [], laidByText := true, laidKinds := [.data, .data, .data], laidTests := true, laidLooks := .later }
def CodeSlotsCardSaid : Prop := Claim7.holds Tryd.pinned (.plain (OpenSpec.ofChange codeSlotsSpec)) codeSlotsCard

/-- THE TIED CARD OF 'weftwaylaw17.CodeOthers'. -/
def codeOthersCard : Claim7 := { stood := { row := codeOthersRow, standIns := [], harness := (true, "02a92389005384fef5285d7cd464d90502be864afcc4d4e6a6f8514db30a73b4"), looks := false }, kinds := [], alts := [], laidByText := true, laidKinds := [.data, .data, .data], laidTests := true, laidLooks := .later }
def CodeOthersCardSaid : Prop := Claim7.holds Tryd.pinned (.plain (OpenSpec.ofChange codeOthersSpec)) codeOthersCard

/-- THE TIED CARD OF 'weftwaylaw17.CodeFields'. -/
def codeFieldsCard : Claim7 := { stood := { row := codeFieldsRow, standIns := [], harness := (true, "02a92389005384fef5285d7cd464d90502be864afcc4d4e6a6f8514db30a73b4"), looks := false }, kinds := [], alts := [], laidByText := true, laidKinds := [.data, .data, .data], laidTests := true, laidLooks := .later }
def CodeFieldsCardSaid : Prop := Claim7.holds Tryd.pinned (.plain (OpenSpec.ofChange codeFieldsSpec)) codeFieldsCard

/-- THE TIED CARD OF 'weftwaylaw17.CodeMay'. -/
def codeMayCard : Claim7 := { stood := { row := codeMayRow, standIns := [], harness := (true, "02a92389005384fef5285d7cd464d90502be864afcc4d4e6a6f8514db30a73b4"), looks := false }, kinds := [], alts := [], laidByText := true, laidKinds := [.data, .data, .data], laidTests := true, laidLooks := .later }
def CodeMayCardSaid : Prop := Claim7.holds Tryd.pinned (.plain (OpenSpec.ofChange codeMaySpec)) codeMayCard

/-- THE TIED CARD OF 'weftwaylaw17.CodeOne'. -/
def codeOneCard : Claim7 := { stood := { row := codeOneRow, standIns := [], harness := (true, "02a92389005384fef5285d7cd464d90502be864afcc4d4e6a6f8514db30a73b4"), looks := false }, kinds := [], alts := [], laidByText := true, laidKinds := [.data, .data, .data], laidTests := true, laidLooks := .later }
def CodeOneCardSaid : Prop := Claim7.holds Tryd.pinned (.plain (OpenSpec.ofChange codeOneSpec)) codeOneCard

/-- THE TIED CARD OF 'weftwaylaw17.CodeShorter'. -/
def codeShorterCard : Claim7 := { stood := { row := codeShorterRow, standIns := [], harness := (true, "02a92389005384fef5285d7cd464d90502be864afcc4d4e6a6f8514db30a73b4"), looks := false }, kinds := [], alts := [], laidByText := true, laidKinds := [.data, .data, .data], laidTests := true, laidLooks := .later }
def CodeShorterCardSaid : Prop := Claim7.holds Tryd.pinned (.plain (OpenSpec.ofChange codeShorterSpec)) codeShorterCard

/-- THE SECOND FORM's CARD OF 'weftwaylaw25.TraceMay'. -/
def traceMayUptoCard : Claim7 := { stood := { row := traceMayUptoRow, standIns := [], harness := (true, "02a92389005384fef5285d7cd464d90502be864afcc4d4e6a6f8514db30a73b4"), looks := false }, kinds := [], alts := [], laidByText := true, laidKinds := [.data, .data, .data], laidTests := true, laidLooks := .later }
def TraceMayUptoCardSaid : Prop := Claim7.holds Tryd.pinned (.plain (OpenSpec.upto traceMaySpec)) traceMayUptoCard

/-- THE SECOND FORM's CARD OF 'weftwaylaw25.TraceText'. -/
def traceTextUptoCard : Claim7 := { stood := { row := traceTextUptoRow, standIns := [], harness := (true, "02a92389005384fef5285d7cd464d90502be864afcc4d4e6a6f8514db30a73b4"), looks := false }, kinds := [], alts := [], laidByText := true, laidKinds := [.data, .data, .data], laidTests := true, laidLooks := .later }
def TraceTextUptoCardSaid : Prop := Claim7.holds Tryd.pinned (.plain (OpenSpec.upto traceTextSpec)) traceTextUptoCard

/-- THE SECOND FORM's CARD OF 'weftwaylaw25.TraceLimits'. -/
def traceLimitsUptoCard : Claim7 := { stood := { row := traceLimitsUptoRow, standIns := [], harness := (true, "02a92389005384fef5285d7cd464d90502be864afcc4d4e6a6f8514db30a73b4"), looks := false }, kinds := [], alts := [], laidByText := true, laidKinds := [.data, .data, .data], laidTests := true, laidLooks := .later }
def TraceLimitsUptoCardSaid : Prop := Claim7.holds Tryd.pinned (.plain (OpenSpec.upto traceLimitsSpec)) traceLimitsUptoCard

/-- THE SECOND FORM's CARD OF 'weftwaylaw25.TraceBegins'. -/
def traceBeginsUptoCard : Claim7 := { stood := { row := traceBeginsUptoRow, standIns := [], harness := (true, "02a92389005384fef5285d7cd464d90502be864afcc4d4e6a6f8514db30a73b4"), looks := false }, kinds := [], alts := [], laidByText := true, laidKinds := [.data, .data, .data], laidTests := true, laidLooks := .later }
def TraceBeginsUptoCardSaid : Prop := Claim7.holds Tryd.pinned (.plain (OpenSpec.upto traceBeginsSpec)) traceBeginsUptoCard

/-- THE SECOND FORM's CARD OF 'weftwaylaw25.TraceTurned'. -/
def traceTurnedUptoCard : Claim7 := { stood := { row := traceTurnedUptoRow, standIns := [], harness := (true, "02a92389005384fef5285d7cd464d90502be864afcc4d4e6a6f8514db30a73b4"), looks := false }, kinds := [], alts := [], laidByText := true, laidKinds := [.data, .data, .data], laidTests := true, laidLooks := .later }
def TraceTurnedUptoCardSaid : Prop := Claim7.holds Tryd.pinned (.plain (OpenSpec.upto traceTurnedSpec)) traceTurnedUptoCard

/-- THE SECOND FORM's CARD OF 'weftwaylaw25.TraceEnds'. -/
def traceEndsUptoCard : Claim7 := { stood := { row := traceEndsUptoRow, standIns := [], harness := (true, "02a92389005384fef5285d7cd464d90502be864afcc4d4e6a6f8514db30a73b4"), looks := false }, kinds := [], alts := [], laidByText := true, laidKinds := [.data, .data, .data], laidTests := true, laidLooks := .later }
def TraceEndsUptoCardSaid : Prop := Claim7.holds Tryd.pinned (.plain (OpenSpec.upto traceEndsSpec)) traceEndsUptoCard

/-- THE SECOND FORM's CARD OF 'weftwaylaw25.TraceConflict'. -/
def traceConflictUptoCard : Claim7 := { stood := { row := traceConflictUptoRow, standIns := [], harness := (true, "02a92389005384fef5285d7cd464d90502be864afcc4d4e6a6f8514db30a73b4"), looks := false }, kinds := [], alts := [], laidByText := true, laidKinds := [.data, .data, .data], laidTests := true, laidLooks := .later }
def TraceConflictUptoCardSaid : Prop := Claim7.holds Tryd.pinned (.plain (OpenSpec.upto traceConflictSpec)) traceConflictUptoCard

/-- THE SECOND FORM's CARD OF 'weftwaylaw17.CodeInstr'. -/
def codeInstrUptoCard : Claim7 := { stood := { row := codeInstrUptoRow, standIns := [], harness := (true, "02a92389005384fef5285d7cd464d90502be864afcc4d4e6a6f8514db30a73b4"), looks := false }, kinds := [], alts := [], laidByText := true, laidKinds := [.data, .data, .data], laidTests := true, laidLooks := .later }
def CodeInstrUptoCardSaid : Prop := Claim7.holds Tryd.pinned (.plain (OpenSpec.upto codeInstrSpec)) codeInstrUptoCard

/-- THE SECOND FORM's CARD OF 'weftwaylaw17.CodeSlots'. -/
def codeSlotsUptoCard : Claim7 := { stood := { row := codeSlotsUptoRow, standIns := [], harness := (true, "02a92389005384fef5285d7cd464d90502be864afcc4d4e6a6f8514db30a73b4"), looks := false }, kinds := [], alts := [], laidByText := true, laidKinds := [.data, .data, .data], laidTests := true, laidLooks := .later }
def CodeSlotsUptoCardSaid : Prop := Claim7.holds Tryd.pinned (.plain (OpenSpec.upto codeSlotsSpec)) codeSlotsUptoCard

/-- THE SECOND FORM's CARD OF 'weftwaylaw17.CodeOthers'. -/
def codeOthersUptoCard : Claim7 := { stood := { row := codeOthersUptoRow, standIns := [], harness := (true, "02a92389005384fef5285d7cd464d90502be864afcc4d4e6a6f8514db30a73b4"), looks := false }, kinds := [], alts := [], laidByText := true, laidKinds := [.data, .data, .data], laidTests := true, laidLooks := .later }
def CodeOthersUptoCardSaid : Prop := Claim7.holds Tryd.pinned (.plain (OpenSpec.upto codeOthersSpec)) codeOthersUptoCard

/-- THE SECOND FORM's CARD OF 'weftwaylaw17.CodeFields'. -/
def codeFieldsUptoCard : Claim7 := { stood := { row := codeFieldsUptoRow, standIns := [], harness := (true, "02a92389005384fef5285d7cd464d90502be864afcc4d4e6a6f8514db30a73b4"), looks := false }, kinds := [], alts := [], laidByText := true, laidKinds := [.data, .data, .data], laidTests := true, laidLooks := .later }
def CodeFieldsUptoCardSaid : Prop := Claim7.holds Tryd.pinned (.plain (OpenSpec.upto codeFieldsSpec)) codeFieldsUptoCard

/-- THE SECOND FORM's CARD OF 'weftwaylaw17.CodeMay'. -/
def codeMayUptoCard : Claim7 := { stood := { row := codeMayUptoRow, standIns := [], harness := (true, "02a92389005384fef5285d7cd464d90502be864afcc4d4e6a6f8514db30a73b4"), looks := false }, kinds := [], alts := [], laidByText := true, laidKinds := [.data, .data, .data], laidTests := true, laidLooks := .later }
def CodeMayUptoCardSaid : Prop := Claim7.holds Tryd.pinned (.plain (OpenSpec.upto codeMaySpec)) codeMayUptoCard

/-- THE SECOND FORM's CARD OF 'weftwaylaw17.CodeOne'. -/
def codeOneUptoCard : Claim7 := { stood := { row := codeOneUptoRow, standIns := [], harness := (true, "02a92389005384fef5285d7cd464d90502be864afcc4d4e6a6f8514db30a73b4"), looks := false }, kinds := [], alts := [], laidByText := true, laidKinds := [.data, .data, .data], laidTests := true, laidLooks := .later }
def CodeOneUptoCardSaid : Prop := Claim7.holds Tryd.pinned (.plain (OpenSpec.upto codeOneSpec)) codeOneUptoCard

/-- THE SECOND FORM's CARD OF 'weftwaylaw17.CodeShorter'. -/
def codeShorterUptoCard : Claim7 := { stood := { row := codeShorterUptoRow, standIns := [], harness := (true, "02a92389005384fef5285d7cd464d90502be864afcc4d4e6a6f8514db30a73b4"), looks := false }, kinds := [], alts := [], laidByText := true, laidKinds := [.data, .data, .data], laidTests := true, laidLooks := .later }
def CodeShorterUptoCardSaid : Prop := Claim7.holds Tryd.pinned (.plain (OpenSpec.upto codeShorterSpec)) codeShorterUptoCard
end Rows
end Go.Proofs.YtjobleemmjjocaaDoor
