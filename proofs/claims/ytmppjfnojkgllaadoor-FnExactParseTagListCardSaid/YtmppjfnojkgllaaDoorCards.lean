/-
  DERIVED. GIVEN WITH THE SEED: THE CARDS: each row of YtmppjfnojkgllaaDoorRows.lean that lists a variable, with what it lists TIED to the program's text (the seventh form; the later family's looks); each row that meets fmt, with fmt's text TOLD by the authors' own Lean function (tested against real Go, not proved from fmt's source: count such statements apart). THE CARD IS WHAT COUNTS. Prove the row's statement (the work); the ties are given (YtmppjfnojkgllaaDoorTie.lean); close each card by the builder's one call (the guide's Derived/Test/ToyasCard.lean, 'card_holds'). Laid BY PROGRAM, IN A SANDBOX (cutbox-door.mjs). By AI agents, Wed Nov 11 2026. No macro, syntax, notation, axiom, sorry.
-/
import Derived.Test.YtmppjfnojkgllaaDoorRows
import GoSem.ClaimSeven
namespace Go.Proofs.YtmppjfnojkgllaaDoor
namespace Rows

/-- THE TIED CARD OF 'laws.FnExactParseTag'. -/
def fnExactParseTagCard : Claim7 := { stood := { row := fnExactParseTagRow, standIns := [], harness := (true, "5a2da4ddba476b3c8c720e489d14a85260097c229010e1526d98335300e8ec1a"), looks := false }, kinds := [], alts := [], laidByText := true, laidKinds := [.data, .pinned], laidTests := true, laidLooks := .later }
def FnExactParseTagCardSaid : Prop := Claim7.holds Tryd.pinned (.plain (OpenSpec.ofChange fnExactParseTagSpec)) fnExactParseTagCard

/-- THE TIED CARD OF 'laws.FnExactSplitList'. -/
def fnExactSplitListCard : Claim7 := { stood := { row := fnExactSplitListRow, standIns := [], harness := (true, "5a2da4ddba476b3c8c720e489d14a85260097c229010e1526d98335300e8ec1a"), looks := false }, kinds := [], alts := [], laidByText := true, laidKinds := [.data, .pinned], laidTests := true, laidLooks := .later }
def FnExactSplitListCardSaid : Prop := Claim7.holds Tryd.pinned (.plain (OpenSpec.ofChange fnExactSplitListSpec)) fnExactSplitListCard

/-- THE TIED CARD OF 'laws.FnExactSplitPair'. -/
def fnExactSplitPairCard : Claim7 := { stood := { row := fnExactSplitPairRow, standIns := [], harness := (true, "5a2da4ddba476b3c8c720e489d14a85260097c229010e1526d98335300e8ec1a"), looks := false }, kinds := [], alts := [], laidByText := true, laidKinds := [.data, .pinned], laidTests := true, laidLooks := .later }
def FnExactSplitPairCardSaid : Prop := Claim7.holds Tryd.pinned (.plain (OpenSpec.ofChange fnExactSplitPairSpec)) fnExactSplitPairCard

/-- THE TIED CARD OF 'laws.FnExactParseTagList'. -/
def fnExactParseTagListCard : Claim7 := { stood := { row := fnExactParseTagListRow, standIns := [], harness := (true, "5a2da4ddba476b3c8c720e489d14a85260097c229010e1526d98335300e8ec1a"), looks := false }, kinds := [], alts := [], laidByText := true, laidKinds := [.data, .pinned], laidTests := true, laidLooks := .later }
def FnExactParseTagListCardSaid : Prop := Claim7.holds Tryd.pinned (.plain (OpenSpec.ofChange fnExactParseTagListSpec)) fnExactParseTagListCard

/-- THE TIED CARD OF 'laws.FnTags'. -/
def fnTagsCard : Claim7 := { stood := { row := fnTagsRow, standIns := [], harness := (true, "5a2da4ddba476b3c8c720e489d14a85260097c229010e1526d98335300e8ec1a"), looks := false }, kinds := [], alts := [], laidByText := true, laidKinds := [.data, .pinned], laidTests := true, laidLooks := .later }
def FnTagsCardSaid : Prop := Claim7.holds Tryd.pinned (.plain (OpenSpec.ofChange fnTagsSpec)) fnTagsCard

/-- THE TIED CARD OF 'laws.FnLists'. -/
def fnListsCard : Claim7 := { stood := { row := fnListsRow, standIns := [], harness := (true, "5a2da4ddba476b3c8c720e489d14a85260097c229010e1526d98335300e8ec1a"), looks := false }, kinds := [], alts := [], laidByText := true, laidKinds := [.data, .pinned], laidTests := true, laidLooks := .later }
def FnListsCardSaid : Prop := Claim7.holds Tryd.pinned (.plain (OpenSpec.ofChange fnListsSpec)) fnListsCard

/-- THE SECOND FORM's CARD OF 'laws.FnExactParseTag'. -/
def fnExactParseTagUptoCard : Claim7 := { stood := { row := fnExactParseTagUptoRow, standIns := [], harness := (true, "5a2da4ddba476b3c8c720e489d14a85260097c229010e1526d98335300e8ec1a"), looks := false }, kinds := [], alts := [], laidByText := true, laidKinds := [.data, .pinned], laidTests := true, laidLooks := .later }
def FnExactParseTagUptoCardSaid : Prop := Claim7.holds Tryd.pinned (.plain (OpenSpec.upto fnExactParseTagSpec)) fnExactParseTagUptoCard

/-- THE SECOND FORM's CARD OF 'laws.FnExactSplitList'. -/
def fnExactSplitListUptoCard : Claim7 := { stood := { row := fnExactSplitListUptoRow, standIns := [], harness := (true, "5a2da4ddba476b3c8c720e489d14a85260097c229010e1526d98335300e8ec1a"), looks := false }, kinds := [], alts := [], laidByText := true, laidKinds := [.data, .pinned], laidTests := true, laidLooks := .later }
def FnExactSplitListUptoCardSaid : Prop := Claim7.holds Tryd.pinned (.plain (OpenSpec.upto fnExactSplitListSpec)) fnExactSplitListUptoCard

/-- THE SECOND FORM's CARD OF 'laws.FnExactSplitPair'. -/
def fnExactSplitPairUptoCard : Claim7 := { stood := { row := fnExactSplitPairUptoRow, standIns := [], harness := (true, "5a2da4ddba476b3c8c720e489d14a85260097c229010e1526d98335300e8ec1a"), looks := false }, kinds := [], alts := [], laidByText := true, laidKinds := [.data, .pinned], laidTests := true, laidLooks := .later }
def FnExactSplitPairUptoCardSaid : Prop := Claim7.holds Tryd.pinned (.plain (OpenSpec.upto fnExactSplitPairSpec)) fnExactSplitPairUptoCard

/-- THE SECOND FORM's CARD OF 'laws.FnExactParseTagList'. -/
def fnExactParseTagListUptoCard : Claim7 := { stood := { row := fnExactParseTagListUptoRow, standIns := [], harness := (true, "5a2da4ddba476b3c8c720e489d14a85260097c229010e1526d98335300e8ec1a"), looks := false }, kinds := [], alts := [], laidByText := true, laidKinds := [.data, .pinned], laidTests := true, laidLooks := .later }
def FnExactParseTagListUptoCardSaid : Prop := Claim7.holds Tryd.pinned (.plain (OpenSpec.upto fnExactParseTagListSpec)) fnExactParseTagListUptoCard

/-- THE SECOND FORM's CARD OF 'laws.FnTags'. -/
def fnTagsUptoCard : Claim7 := { stood := { row := fnTagsUptoRow, standIns := [], harness := (true, "5a2da4ddba476b3c8c720e489d14a85260097c229010e1526d98335300e8ec1a"), looks := false }, kinds := [], alts := [], laidByText := true, laidKinds := [.data, .pinned], laidTests := true, laidLooks := .later }
def FnTagsUptoCardSaid : Prop := Claim7.holds Tryd.pinned (.plain (OpenSpec.upto fnTagsSpec)) fnTagsUptoCard

/-- THE SECOND FORM's CARD OF 'laws.FnLists'. -/
def fnListsUptoCard : Claim7 := { stood := { row := fnListsUptoRow, standIns := [], harness := (true, "5a2da4ddba476b3c8c720e489d14a85260097c229010e1526d98335300e8ec1a"), looks := false }, kinds := [], alts := [], laidByText := true, laidKinds := [.data, .pinned], laidTests := true, laidLooks := .later }
def FnListsUptoCardSaid : Prop := Claim7.holds Tryd.pinned (.plain (OpenSpec.upto fnListsSpec)) fnListsUptoCard
end Rows
end Go.Proofs.YtmppjfnojkgllaaDoor
