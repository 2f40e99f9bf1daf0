/-
  DERIVED. GIVEN WITH THE SEED: THE CARDS: each row of YtoieckmegdcaeaaDoorRows.lean that lists a variable, with what it lists TIED to the program's text (the seventh form; the later family's looks); each row that meets fmt, with fmt's text TOLD by the authors' own Lean function (tested against real Go, not proved from fmt's source: count such statements apart). THE CARD IS WHAT COUNTS. Prove the row's statement (the work); the ties are given (YtoieckmegdcaeaaDoorTie.lean); close each card by the builder's one call (the guide's Derived/Test/ToyasCard.lean, 'card_holds'). Laid BY PROGRAM, IN A SANDBOX (cutbox-door.mjs). By AI agents, Wed Nov 11 2026. No macro, syntax, notation, axiom, sorry.
-/
import Derived.Test.YtoieckmegdcaeaaDoorRows
import GoSem.ClaimSeven
namespace Go.Proofs.YtoieckmegdcaeaaDoor
namespace Rows

/-- THE TIED CARD OF 'tidemarklaw25.TupleEncodes'. -/
def tupleEncodesCard : Claim7 := { stood := { row := tupleEncodesRow, standIns := [], harness := (true, "3f0062f38e748078bf5be1a4b859fd04c0a88dec4b88619b8c88c99ce8e56754"), looks := true }, kinds := [], alts := [], laidByText := true, laidKinds := [.data, .pinned], laidTests := true, laidLooks := .later }
def TupleEncodesCardSaid : Prop := Claim7.holds Tryd.pinned (.plain (OpenSpec.ofChange tupleEncodesSpec)) tupleEncodesCard

/-- THE TIED CARD OF 'tidemarklaw25.TupleJoins'. -/
def tupleJoinsCard : Claim7 := { stood := { row := tupleJoinsRow, standIns := [], harness := (true, "3f0062f38e748078bf5be1a4b859fd04c0a88dec4b88619b8c88c99ce8e56754"), looks := true }, kinds := [], alts := [], laidByText := true, laidKinds := [.data, .pinned], laidTests := true, laidLooks := .later }
def TupleJoinsCardSaid : Prop := Claim7.holds Tryd.pinned (.plain (OpenSpec.ofChange tupleJoinsSpec)) tupleJoinsCard

/-- THE TIED CARD OF 'tidemarklaw25.TupleSpans'. -/
def tupleSpansCard : Claim7 := { stood := { row := tupleSpansRow, standIns := [], harness := (true, "3f0062f38e748078bf5be1a4b859fd04c0a88dec4b88619b8c88c99ce8e56754"), looks := true }, kinds := [], alts := [], laidByText := true, laidKinds := [.data, .pinned], laidTests := true, laidLooks := .later }
def TupleSpansCardSaid : Prop := Claim7.holds Tryd.pinned (.plain (OpenSpec.ofChange tupleSpansSpec)) tupleSpansCard

/-- THE TIED CARD OF 'tidemarklaw25.TupleOrder'. -/
def tupleOrderCard : Claim7 := { stood := { row := tupleOrderRow, standIns := [], harness := (true, "3f0062f38e748078bf5be1a4b859fd04c0a88dec4b88619b8c88c99ce8e56754"), looks := true }, kinds := [], alts := [], laidByText := true, laidKinds := [.data, .pinned], laidTests := true, laidLooks := .later }
def TupleOrderCardSaid : Prop := Claim7.holds Tryd.pinned (.plain (OpenSpec.ofChange tupleOrderSpec)) tupleOrderCard

/-- THE TIED CARD OF 'tidemarklaw25.TupleRound'. -/
def tupleRoundCard : Claim7 := { stood := { row := tupleRoundRow, standIns := [], harness := (true, "3f0062f38e748078bf5be1a4b859fd04c0a88dec4b88619b8c88c99ce8e56754"), looks := true }, kinds := [], alts := [], laidByText := true, laidKinds := [.data, .pinned], laidTests := true, laidLooks := .later }
def TupleRoundCardSaid : Prop := Claim7.holds Tryd.pinned (.plain (OpenSpec.ofChange tupleRoundSpec)) tupleRoundCard

/-- THE TIED CARD OF 'tidemarklaw25.TupleOnly'. -/
def tupleOnlyCard : Claim7 := { stood := { row := tupleOnlyRow, standIns := [], harness := (true, "3f0062f38e748078bf5be1a4b859fd04c0a88dec4b88619b8c88c99ce8e56754"), looks := true }, kinds := [], alts := [], laidByText := true, laidKinds := [.data, .pinned], laidTests := true, laidLooks := .later }
def TupleOnlyCardSaid : Prop := Claim7.holds Tryd.pinned (.plain (OpenSpec.ofChange tupleOnlySpec)) tupleOnlyCard

/-- THE TIED CARD OF 'tidemarklaw25.TupleInside'. -/
def tupleInsideCard : Claim7 := { stood := { row := tupleInsideRow, standIns := [], harness := (true, "3f0062f38e748078bf5be1a4b859fd04c0a88dec4b88619b8c88c99ce8e56754"), looks := true }, kinds := [], alts := [], laidByText := true, laidKinds := [.data, .pinned], laidTests := true, laidLooks := .later }
def TupleInsideCardSaid : Prop := Claim7.holds Tryd.pinned (.plain (OpenSpec.ofChange tupleInsideSpec)) tupleInsideCard

/-- THE TIED CARD OF 'tidemarklaw25.TupleTexts'. -/
def tupleTextsCard : Claim7 := { stood := { row := tupleTextsRow, standIns := [], harness := (true, "3f0062f38e748078bf5be1a4b859fd04c0a88dec4b88619b8c88c99ce8e56754"), looks := true }, kinds := [], alts := [], laidByText := true, laidKinds := [.data, .data, .data, .data, .sentinel, .sentinel, .pinned], laidTests := true, laidLooks := .later }
def TupleTextsCardSaid : Prop := Claim7.holds Tryd.pinned (.plain (OpenSpec.ofChange tupleTextsSpec)) tupleTextsCard

/-- THE TIED CARD OF 'tidemarklaw25.TupleParses'. -/
def tupleParsesCard : Claim7 := { stood := { row := tupleParsesRow, standIns := [], harness := (true, "3f0062f38e748078bf5be1a4b859fd04c0a88dec4b88619b8c88c99ce8e56754"), looks := true }, kinds := [], alts := [], laidByText := true, laidKinds := [.data, .data, .data, .data, .sentinel, .sentinel, .pinned], laidTests := true, laidLooks := .later }
def TupleParsesCardSaid : Prop := Claim7.holds Tryd.pinned (.plain (OpenSpec.ofChange tupleParsesSpec)) tupleParsesCard

/-- THE SECOND FORM's CARD OF 'tidemarklaw25.TupleEncodes'. -/
def tupleEncodesUptoCard : Claim7 := { stood := { row := tupleEncodesUptoRow, standIns := [], harness := (true, "3f0062f38e748078bf5be1a4b859fd04c0a88dec4b88619b8c88c99ce8e56754"), looks := true }, kinds := [], alts := [], laidByText := true, laidKinds := [.data, .pinned], laidTests := true, laidLooks := .later }
def TupleEncodesUptoCardSaid : Prop := Claim7.holds Tryd.pinned (.plain (OpenSpec.upto tupleEncodesSpec)) tupleEncodesUptoCard

/-- THE SECOND FORM's CARD OF 'tidemarklaw25.TupleJoins'. -/
def tupleJoinsUptoCard : Claim7 := { stood := { row := tupleJoinsUptoRow, standIns := [], harness := (true, "3f0062f38e748078bf5be1a4b859fd04c0a88dec4b88619b8c88c99ce8e56754"), looks := true }, kinds := [], alts := [], laidByText := true, laidKinds := [.data, .pinned], laidTests := true, laidLooks := .later }
def TupleJoinsUptoCardSaid : Prop := Claim7.holds Tryd.pinned (.plain (OpenSpec.upto tupleJoinsSpec)) tupleJoinsUptoCard

/-- THE SECOND FORM's CARD OF 'tidemarklaw25.TupleSpans'. -/
def tupleSpansUptoCard : Claim7 := { stood := { row := tupleSpansUptoRow, standIns := [], harness := (true, "3f0062f38e748078bf5be1a4b859fd04c0a88dec4b88619b8c88c99ce8e56754"), looks := true }, kinds := [], alts := [], laidByText := true, laidKinds := [.data, .pinned], laidTests := true, laidLooks := .later }
def TupleSpansUptoCardSaid : Prop := Claim7.holds Tryd.pinned (.plain (OpenSpec.upto tupleSpansSpec)) tupleSpansUptoCard

/-- THE SECOND FORM's CARD OF 'tidemarklaw25.TupleOrder'. -/
def tupleOrderUptoCard : Claim7 := { stood := { row := tupleOrderUptoRow, standIns := [], harness := (true, "3f0062f38e748078bf5be1a4b859fd04c0a88dec4b88619b8c88c99ce8e56754"), looks := true }, kinds := [], alts := [], laidByText := true, laidKinds := [.data, .pinned], laidTests := true, laidLooks := .later }
def TupleOrderUptoCardSaid : Prop := Claim7.holds Tryd.pinned (.plain (OpenSpec.upto tupleOrderSpec)) tupleOrderUptoCard

/-- THE SECOND FORM's CARD OF 'tidemarklaw25.TupleRound'. -/
def tupleRoundUptoCard : Claim7 := { stood := { row := tupleRoundUptoRow, standIns := [], harness := (true, "3f0062f38e748078bf5be1a4b859fd04c0a88dec4b88619b8c88c99ce8e56754"), looks := true }, kinds := [], alts := [], laidByText := true, laidKinds := [.data, .pinned], laidTests := true, laidLooks := .later }
def TupleRoundUptoCardSaid : Prop := Claim7.holds Tryd.pinned (.plain (OpenSpec.upto tupleRoundSpec)) tupleRoundUptoCard

/-- THE SECOND FORM's CARD OF 'tidemarklaw25.TupleOnly'. -/
def tupleOnlyUptoCard : Claim7 := { stood := { row := tupleOnlyUptoRow, standIns := [], harness := (true, "3f0062f38e748078bf5be1a4b859fd04c0a88dec4b88619b8c88c99ce8e56754"), looks := true }, kinds := [], alts := [], laidByText := true, laidKinds := [.data, .pinned], laidTests := true, laidLooks := .later }
def TupleOnlyUptoCardSaid : Prop := Claim7.holds Tryd.pinned (.plain (OpenSpec.upto tupleOnlySpec)) tupleOnlyUptoCard

/-- THE SECOND FORM's CARD OF 'tidemarklaw25.TupleInside'. -/
def tupleInsideUptoCard : Claim7 := { stood := { row := tupleInsideUptoRow, standIns := [], harness := (true, "3f0062f38e748078bf5be1a4b859fd04c0a88dec4b88619b8c88c99ce8e56754"), looks := true }, kinds := [], alts := [], laidByText := true, laidKinds := [.data, .pinned], laidTests := true, laidLooks := .later }
def TupleInsideUptoCardSaid : Prop := Claim7.holds Tryd.pinned (.plain (OpenSpec.upto tupleInsideSpec)) tupleInsideUptoCard

/-- THE SECOND FORM's CARD OF 'tidemarklaw25.TupleTexts'. -/
def tupleTextsUptoCard : Claim7 := { stood := { row := tupleTextsUptoRow, standIns := [], harness := (true, "3f0062f38e748078bf5be1a4b859fd04c0a88dec4b88619b8c88c99ce8e56754"), looks := true }, kinds := [], alts := [], laidByText := true, laidKinds := [.data, .data, .data, .data, .sentinel, .sentinel, .pinned], laidTests := true, laidLooks := .later }
def TupleTextsUptoCardSaid : Prop := Claim7.holds Tryd.pinned (.plain (OpenSpec.upto tupleTextsSpec)) tupleTextsUptoCard

/-- THE SECOND FORM's CARD OF 'tidemarklaw25.TupleParses'. -/
def tupleParsesUptoCard : Claim7 := { stood := { row := tupleParsesUptoRow, standIns := [], harness := (true, "3f0062f38e748078bf5be1a4b859fd04c0a88dec4b88619b8c88c99ce8e56754"), looks := true }, kinds := [], alts := [], laidByText := true, laidKinds := [.data, .data, .data, .data, .sentinel, .sentinel, .pinned], laidTests := true, laidLooks := .later }
def TupleParsesUptoCardSaid : Prop := Claim7.holds Tryd.pinned (.plain (OpenSpec.upto tupleParsesSpec)) tupleParsesUptoCard
end Rows
end Go.Proofs.YtoieckmegdcaeaaDoor
