/-
  DERIVED. GIVEN WITH THE SEED: THE CARDS: each row of YtlboepkphddacaaDoorRows.lean that lists a variable, with what it lists TIED to the program's text (the seventh form; the later family's looks); each row that meets fmt, with fmt's text TOLD by the authors' own Lean function (tested against real Go, not proved from fmt's source: count such statements apart). THE CARD IS WHAT COUNTS. Prove the row's statement (the work); the ties are given (YtlboepkphddacaaDoorTie.lean); close each card by the builder's one call (the guide's Derived/Test/ToyasCard.lean, 'card_holds'). Laid BY PROGRAM, IN A SANDBOX (cutbox-door.mjs). By AI agents, Wed Nov 11 2026. No macro, syntax, notation, axiom, sorry.
-/
import Derived.Test.YtlboepkphddacaaDoorRows
import GoSem.ClaimSeven
namespace Go.Proofs.YtlboepkphddacaaDoor
namespace Rows

/-- THE TIED CARD OF 'laws.FnExactParseFields'. -/
def fnExactParseFieldsCard : Claim7 := { stood := { row := fnExactParseFieldsRow, standIns := [], harness := (true, "84b1c0ef437cd6fd912be460779aaf766bf84945d171d1dde27fae968834db1e"), looks := true }, kinds := [], alts := [], laidByText := true, laidKinds := [.data, .pinned], laidTests := true, laidLooks := .later }
def FnExactParseFieldsCardSaid : Prop := Claim7.holds Tryd.pinned (.plain (OpenSpec.ofChange fnExactParseFieldsSpec)) fnExactParseFieldsCard

/-- THE TIED CARD OF 'laws.FnExactParseContentRange'. -/
def fnExactParseContentRangeCard : Claim7 := { stood := { row := fnExactParseContentRangeRow, standIns := [], harness := (true, "84b1c0ef437cd6fd912be460779aaf766bf84945d171d1dde27fae968834db1e"), looks := true }, kinds := [], alts := [], laidByText := true, laidKinds := [.data, .data, .data, .sentinel, .sentinel], laidTests := true, laidLooks := .later }
def FnExactParseContentRangeCardSaid : Prop := Claim7.holds Tryd.pinned (.plain (OpenSpec.ofChange fnExactParseContentRangeSpec)) fnExactParseContentRangeCard

/-- THE TIED CARD OF 'laws.FnExactParseRanges'. -/
def fnExactParseRangesCard : Claim7 := { stood := { row := fnExactParseRangesRow, standIns := [], harness := (true, "84b1c0ef437cd6fd912be460779aaf766bf84945d171d1dde27fae968834db1e"), looks := true }, kinds := [], alts := [], laidByText := true, laidKinds := [.data, .data, .data, .data, .sentinel, .sentinel, .pinned], laidTests := true, laidLooks := .later }
def FnExactParseRangesCardSaid : Prop := Claim7.holds Tryd.pinned (.plain (OpenSpec.ofChange fnExactParseRangesSpec)) fnExactParseRangesCard

/-- THE TIED CARD OF 'laws.FnNumbers'. -/
def fnNumbersCard : Claim7 := { stood := { row := fnNumbersRow, standIns := [], harness := (true, "84b1c0ef437cd6fd912be460779aaf766bf84945d171d1dde27fae968834db1e"), looks := true }, kinds := [], alts := [], laidByText := true, laidKinds := [.data, .data, .data, .sentinel, .sentinel], laidTests := true, laidLooks := .later }
def FnNumbersCardSaid : Prop := Claim7.holds Tryd.pinned (.plain (OpenSpec.ofChange fnNumbersSpec)) fnNumbersCard

/-- THE TIED CARD OF 'laws.FnLists'. -/
def fnListsCard : Claim7 := { stood := { row := fnListsRow, standIns := [], harness := (true, "84b1c0ef437cd6fd912be460779aaf766bf84945d171d1dde27fae968834db1e"), looks := true }, kinds := [], alts := [], laidByText := true, laidKinds := [.data, .pinned], laidTests := true, laidLooks := .later }
def FnListsCardSaid : Prop := Claim7.holds Tryd.pinned (.plain (OpenSpec.ofChange fnListsSpec)) fnListsCard

/-- THE TIED CARD OF 'laws.FnFields'. -/
def fnFieldsCard : Claim7 := { stood := { row := fnFieldsRow, standIns := [], harness := (true, "84b1c0ef437cd6fd912be460779aaf766bf84945d171d1dde27fae968834db1e"), looks := true }, kinds := [], alts := [], laidByText := true, laidKinds := [.data, .pinned], laidTests := true, laidLooks := .later }
def FnFieldsCardSaid : Prop := Claim7.holds Tryd.pinned (.plain (OpenSpec.ofChange fnFieldsSpec)) fnFieldsCard

/-- THE SECOND FORM's CARD OF 'laws.FnExactParseFields'. -/
def fnExactParseFieldsUptoCard : Claim7 := { stood := { row := fnExactParseFieldsUptoRow, standIns := [], harness := (true, "84b1c0ef437cd6fd912be460779aaf766bf84945d171d1dde27fae968834db1e"), looks := true }, kinds := [], alts := [], laidByText := true, laidKinds := [.data, .pinned], laidTests := true, laidLooks := .later }
def FnExactParseFieldsUptoCardSaid : Prop := Claim7.holds Tryd.pinned (.plain (OpenSpec.upto fnExactParseFieldsSpec)) fnExactParseFieldsUptoCard

/-- THE SECOND FORM's CARD OF 'laws.FnExactParseContentRange'. -/
def fnExactParseContentRangeUptoCard : Claim7 := { stood := { row := fnExactParseContentRangeUptoRow, standIns := [], harness := (true, "84b1c0ef437cd6fd912be460779aaf766bf84945d171d1dde27fae968834db1e"), looks := true }, kinds := [], alts := [], laidByText := true, laidKinds := [.data, .data, .data, .sentinel, .sentinel], laidTests := true, laidLooks := .later }
def FnExactParseContentRangeUptoCardSaid : Prop := Claim7.holds Tryd.pinned (.plain (OpenSpec.upto fnExactParseContentRangeSpec)) fnExactParseContentRangeUptoCard

/-- THE SECOND FORM's CARD OF 'laws.FnExactParseRanges'. -/
def fnExactParseRangesUptoCard : Claim7 := { stood := { row := fnExactParseRangesUptoRow, standIns := [], harness := (true, "84b1c0ef437cd6fd912be460779aaf766bf84945d171d1dde27fae968834db1e"), looks := true }, kinds := [], alts := [], laidByText := true, laidKinds := [.data, .data, .data, .data, .sentinel, .sentinel, .pinned], laidTests := true, laidLooks := .later }
def FnExactParseRangesUptoCardSaid : Prop := Claim7.holds Tryd.pinned (.plain (OpenSpec.upto fnExactParseRangesSpec)) fnExactParseRangesUptoCard

/-- THE SECOND FORM's CARD OF 'laws.FnNumbers'. -/
def fnNumbersUptoCard : Claim7 := { stood := { row := fnNumbersUptoRow, standIns := [], harness := (true, "84b1c0ef437cd6fd912be460779aaf766bf84945d171d1dde27fae968834db1e"), looks := true }, kinds := [], alts := [], laidByText := true, laidKinds := [.data, .data, .data, .sentinel, .sentinel], laidTests := true, laidLooks := .later }
def FnNumbersUptoCardSaid : Prop := Claim7.holds Tryd.pinned (.plain (OpenSpec.upto fnNumbersSpec)) fnNumbersUptoCard

/-- THE SECOND FORM's CARD OF 'laws.FnLists'. -/
def fnListsUptoCard : Claim7 := { stood := { row := fnListsUptoRow, standIns := [], harness := (true, "84b1c0ef437cd6fd912be460779aaf766bf84945d171d1dde27fae968834db1e"), looks := true }, kinds := [], alts := [], laidByText := true, laidKinds := [.data, .pinned], laidTests := true, laidLooks := .later }
def FnListsUptoCardSaid : Prop := Claim7.holds Tryd.pinned (.plain (OpenSpec.upto fnListsSpec)) fnListsUptoCard

/-- THE SECOND FORM's CARD OF 'laws.FnFields'. -/
def fnFieldsUptoCard : Claim7 := { stood := { row := fnFieldsUptoRow, standIns := [], harness := (true, "84b1c0ef437cd6fd912be460779aaf766bf84945d171d1dde27fae968834db1e"), looks := true }, kinds := [], alts := [], laidByText := true, laidKinds := [.data, .pinned], laidTests := true, laidLooks := .later }
def FnFieldsUptoCardSaid : Prop := Claim7.holds Tryd.pinned (.plain (OpenSpec.upto fnFieldsSpec)) fnFieldsUptoCard
end Rows
end Go.Proofs.YtlboepkphddacaaDoor
