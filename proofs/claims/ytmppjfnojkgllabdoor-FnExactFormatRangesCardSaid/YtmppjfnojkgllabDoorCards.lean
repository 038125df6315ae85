/-
  DERIVED. GIVEN WITH THE SEED: THE CARDS: each row of YtmppjfnojkgllabDoorRows.lean that lists a variable, with what it lists TIED to the program's text (the seventh form; the later family's looks); each row that meets fmt, with fmt's text TOLD by the authors' own Lean function (tested against real Go, not proved from fmt's source: count such statements apart). THE CARD IS WHAT COUNTS. Prove the row's statement (the work); the ties are given (YtmppjfnojkgllabDoorTie.lean); close each card by the builder's one call (the guide's Derived/Test/ToyasCard.lean, 'card_holds'). Laid BY PROGRAM, IN A SANDBOX (cutbox-door.mjs). By AI agents, Wed Nov 11 2026. No macro, syntax, notation, axiom, sorry.
-/
import Derived.Test.YtmppjfnojkgllabDoorRows
import GoSem.ClaimSeven
namespace Go.Proofs.YtmppjfnojkgllabDoor
namespace Rows

/-- THE TIED CARD OF 'laws.FnExactFormatContentRange'. -/
def fnExactFormatContentRangeCard : Claim7 := { stood := { row := fnExactFormatContentRangeRow, standIns := [], harness := (true, "12fc918794f5c9a6be6275839ceb273be300c1dbc71bc7ca9b9fcfb5d2faef45"), looks := true }, kinds := [], alts := [], laidByText := true, laidKinds := [.data, .data, .data], laidTests := true, laidLooks := .later }
def FnExactFormatContentRangeCardSaid : Prop := Claim7.holds Tryd.pinned (.plain (OpenSpec.ofChange fnExactFormatContentRangeSpec)) fnExactFormatContentRangeCard

/-- THE TIED CARD OF 'laws.FnExactFormatRanges'. -/
def fnExactFormatRangesCard : Claim7 := { stood := { row := fnExactFormatRangesRow, standIns := [], harness := (true, "12fc918794f5c9a6be6275839ceb273be300c1dbc71bc7ca9b9fcfb5d2faef45"), looks := true }, kinds := [], alts := [], laidByText := true, laidKinds := [.data, .data, .data], laidTests := true, laidLooks := .later }
def FnExactFormatRangesCardSaid : Prop := Claim7.holds Tryd.pinned (.plain (OpenSpec.ofChange fnExactFormatRangesSpec)) fnExactFormatRangesCard

/-- THE TIED CARD OF 'laws.FnExactParseContentRange'. -/
def fnExactParseContentRangeCard : Claim7 := { stood := { row := fnExactParseContentRangeRow, standIns := [], harness := (true, "12fc918794f5c9a6be6275839ceb273be300c1dbc71bc7ca9b9fcfb5d2faef45"), looks := true }, kinds := [], alts := [], laidByText := true, laidKinds := [.data, .data, .data, .sentinel, .sentinel], laidTests := true, laidLooks := .later }
def FnExactParseContentRangeCardSaid : Prop := Claim7.holds Tryd.pinned (.plain (OpenSpec.ofChange fnExactParseContentRangeSpec)) fnExactParseContentRangeCard

/-- THE TIED CARD OF 'laws.FnExactParseRanges'. -/
def fnExactParseRangesCard : Claim7 := { stood := { row := fnExactParseRangesRow, standIns := [], harness := (true, "12fc918794f5c9a6be6275839ceb273be300c1dbc71bc7ca9b9fcfb5d2faef45"), looks := true }, kinds := [], alts := [], laidByText := true, laidKinds := [.data, .data, .data, .data, .sentinel, .sentinel, .pinned], laidTests := true, laidLooks := .later }
def FnExactParseRangesCardSaid : Prop := Claim7.holds Tryd.pinned (.plain (OpenSpec.ofChange fnExactParseRangesSpec)) fnExactParseRangesCard

/-- THE TIED CARD OF 'laws.FnNumbers'. -/
def fnNumbersCard : Claim7 := { stood := { row := fnNumbersRow, standIns := [], harness := (true, "12fc918794f5c9a6be6275839ceb273be300c1dbc71bc7ca9b9fcfb5d2faef45"), looks := true }, kinds := [], alts := [], laidByText := true, laidKinds := [.data, .data, .data, .sentinel, .sentinel], laidTests := true, laidLooks := .later }
def FnNumbersCardSaid : Prop := Claim7.holds Tryd.pinned (.plain (OpenSpec.ofChange fnNumbersSpec)) fnNumbersCard

/-- THE SECOND FORM's CARD OF 'laws.FnExactFormatContentRange'. -/
def fnExactFormatContentRangeUptoCard : Claim7 := { stood := { row := fnExactFormatContentRangeUptoRow, standIns := [], harness := (true, "12fc918794f5c9a6be6275839ceb273be300c1dbc71bc7ca9b9fcfb5d2faef45"), looks := true }, kinds := [], alts := [], laidByText := true, laidKinds := [.data, .data, .data], laidTests := true, laidLooks := .later }
def FnExactFormatContentRangeUptoCardSaid : Prop := Claim7.holds Tryd.pinned (.plain (OpenSpec.upto fnExactFormatContentRangeSpec)) fnExactFormatContentRangeUptoCard

/-- THE SECOND FORM's CARD OF 'laws.FnExactFormatRanges'. -/
def fnExactFormatRangesUptoCard : Claim7 := { stood := { row := fnExactFormatRangesUptoRow, standIns := [], harness := (true, "12fc918794f5c9a6be6275839ceb273be300c1dbc71bc7ca9b9fcfb5d2faef45"), looks := true }, kinds := [], alts := [], laidByText := true, laidKinds := [.data, .data, .data], laidTests := true, laidLooks := .later }
def FnExactFormatRangesUptoCardSaid : Prop := Claim7.holds Tryd.pinned (.plain (OpenSpec.upto fnExactFormatRangesSpec)) fnExactFormatRangesUptoCard

/-- THE SECOND FORM's CARD OF 'laws.FnExactParseContentRange'. -/
def fnExactParseContentRangeUptoCard : Claim7 := { stood := { row := fnExactParseContentRangeUptoRow, standIns := [], harness := (true, "12fc918794f5c9a6be6275839ceb273be300c1dbc71bc7ca9b9fcfb5d2faef45"), looks := true }, kinds := [], alts := [], laidByText := true, laidKinds := [.data, .data, .data, .sentinel, .sentinel], laidTests := true, laidLooks := .later }
def FnExactParseContentRangeUptoCardSaid : Prop := Claim7.holds Tryd.pinned (.plain (OpenSpec.upto fnExactParseContentRangeSpec)) fnExactParseContentRangeUptoCard

/-- THE SECOND FORM's CARD OF 'laws.FnExactParseRanges'. -/
def fnExactParseRangesUptoCard : Claim7 := { stood := { row := fnExactParseRangesUptoRow, standIns := [], harness := (true, "12fc918794f5c9a6be6275839ceb273be300c1dbc71bc7ca9b9fcfb5d2faef45"), looks := true }, kinds := [], alts := [], laidByText := true, laidKinds := [.data, .data, .data, .data, .sentinel, .sentinel, .pinned], laidTests := true, laidLooks := .later }
def FnExactParseRangesUptoCardSaid : Prop := Claim7.holds Tryd.pinned (.plain (OpenSpec.upto fnExactParseRangesSpec)) fnExactParseRangesUptoCard

/-- THE SECOND FORM's CARD OF 'laws.FnNumbers'. -/
def fnNumbersUptoCard : Claim7 := { stood := { row := fnNumbersUptoRow, standIns := [], harness := (true, "12fc918794f5c9a6be6275839ceb273be300c1dbc71bc7ca9b9fcfb5d2faef45"), looks := true }, kinds := [], alts := [], laidByText := true, laidKinds := [.data, .data, .data, .sentinel, .sentinel], laidTests := true, laidLooks := .later }
def FnNumbersUptoCardSaid : Prop := Claim7.holds Tryd.pinned (.plain (OpenSpec.upto fnNumbersSpec)) fnNumbersUptoCard
end Rows
end Go.Proofs.YtmppjfnojkgllabDoor
