/-
  DERIVED. GIVEN WITH THE SEED: THE CARDS: each row of YtmppjfnojkgllacDoorRows.lean that lists a variable, with what it lists TIED to the program's text (the seventh form; the later family's looks); each row that meets fmt, with fmt's text TOLD by the authors' own Lean function (tested against real Go, not proved from fmt's source: count such statements apart). THE CARD IS WHAT COUNTS. Prove the row's statement (the work); the ties are given (YtmppjfnojkgllacDoorTie.lean); close each card by the builder's one call (the guide's Derived/Test/ToyasCard.lean, 'card_holds'). Laid BY PROGRAM, IN A SANDBOX (cutbox-door.mjs). By AI agents, Wed Nov 11 2026. No macro, syntax, notation, axiom, sorry.
-/
import Derived.Test.YtmppjfnojkgllacDoorRows
import GoSem.ClaimSeven
namespace Go.Proofs.YtmppjfnojkgllacDoor
namespace Rows

/-- THE TIED CARD OF 'laws.FnExactParseDirectives'. -/
def fnExactParseDirectivesCard : Claim7 := { stood := { row := fnExactParseDirectivesRow, standIns := [], harness := (true, "180947b6944b87016aac2bfe5aee6dd348fe2af347b6724809a4a64c003ead89"), looks := false }, kinds := [], alts := [], laidByText := true, laidKinds := [.data, .pinned], laidTests := true, laidLooks := .later }
def FnExactParseDirectivesCardSaid : Prop := Claim7.holds Tryd.pinned (.plain (OpenSpec.ofChange fnExactParseDirectivesSpec)) fnExactParseDirectivesCard

/-- THE TIED CARD OF 'laws.FnDirectives'. -/
def fnDirectivesCard : Claim7 := { stood := { row := fnDirectivesRow, standIns := [], harness := (true, "180947b6944b87016aac2bfe5aee6dd348fe2af347b6724809a4a64c003ead89"), looks := false }, kinds := [], alts := [], laidByText := true, laidKinds := [.data, .pinned], laidTests := true, laidLooks := .later }
def FnDirectivesCardSaid : Prop := Claim7.holds Tryd.pinned (.plain (OpenSpec.ofChange fnDirectivesSpec)) fnDirectivesCard

/-- THE TIED CARD OF 'laws.FnExactAreFields'. -/
def fnExactAreFieldsCard : Claim7 := { stood := { row := fnExactAreFieldsRow, standIns := [], harness := (true, "180947b6944b87016aac2bfe5aee6dd348fe2af347b6724809a4a64c003ead89"), looks := false }, kinds := [], alts := [], laidByText := true, laidKinds := [.data, .pinned], laidTests := true, laidLooks := .later }
def FnExactAreFieldsCardSaid : Prop := Claim7.holds Tryd.pinned (.plain (OpenSpec.ofChange fnExactAreFieldsSpec)) fnExactAreFieldsCard

/-- THE TIED CARD OF 'laws.FnExactParseFields'. -/
def fnExactParseFieldsCard : Claim7 := { stood := { row := fnExactParseFieldsRow, standIns := [], harness := (true, "180947b6944b87016aac2bfe5aee6dd348fe2af347b6724809a4a64c003ead89"), looks := false }, kinds := [], alts := [], laidByText := true, laidKinds := [.data, .pinned], laidTests := true, laidLooks := .later }
def FnExactParseFieldsCardSaid : Prop := Claim7.holds Tryd.pinned (.plain (OpenSpec.ofChange fnExactParseFieldsSpec)) fnExactParseFieldsCard

/-- THE TIED CARD OF 'laws.FnFields'. -/
def fnFieldsCard : Claim7 := { stood := { row := fnFieldsRow, standIns := [], harness := (true, "180947b6944b87016aac2bfe5aee6dd348fe2af347b6724809a4a64c003ead89"), looks := false }, kinds := [], alts := [], laidByText := true, laidKinds := [.data, .pinned], laidTests := true, laidLooks := .later }
def FnFieldsCardSaid : Prop := Claim7.holds Tryd.pinned (.plain (OpenSpec.ofChange fnFieldsSpec)) fnFieldsCard

/-- THE SECOND FORM's CARD OF 'laws.FnExactParseDirectives'. -/
def fnExactParseDirectivesUptoCard : Claim7 := { stood := { row := fnExactParseDirectivesUptoRow, standIns := [], harness := (true, "180947b6944b87016aac2bfe5aee6dd348fe2af347b6724809a4a64c003ead89"), looks := false }, kinds := [], alts := [], laidByText := true, laidKinds := [.data, .pinned], laidTests := true, laidLooks := .later }
def FnExactParseDirectivesUptoCardSaid : Prop := Claim7.holds Tryd.pinned (.plain (OpenSpec.upto fnExactParseDirectivesSpec)) fnExactParseDirectivesUptoCard

/-- THE SECOND FORM's CARD OF 'laws.FnDirectives'. -/
def fnDirectivesUptoCard : Claim7 := { stood := { row := fnDirectivesUptoRow, standIns := [], harness := (true, "180947b6944b87016aac2bfe5aee6dd348fe2af347b6724809a4a64c003ead89"), looks := false }, kinds := [], alts := [], laidByText := true, laidKinds := [.data, .pinned], laidTests := true, laidLooks := .later }
def FnDirectivesUptoCardSaid : Prop := Claim7.holds Tryd.pinned (.plain (OpenSpec.upto fnDirectivesSpec)) fnDirectivesUptoCard

/-- THE SECOND FORM's CARD OF 'laws.FnExactAreFields'. -/
def fnExactAreFieldsUptoCard : Claim7 := { stood := { row := fnExactAreFieldsUptoRow, standIns := [], harness := (true, "180947b6944b87016aac2bfe5aee6dd348fe2af347b6724809a4a64c003ead89"), looks := false }, kinds := [], alts := [], laidByText := true, laidKinds := [.data, .pinned], laidTests := true, laidLooks := .later }
def FnExactAreFieldsUptoCardSaid : Prop := Claim7.holds Tryd.pinned (.plain (OpenSpec.upto fnExactAreFieldsSpec)) fnExactAreFieldsUptoCard

/-- THE SECOND FORM's CARD OF 'laws.FnExactParseFields'. -/
def fnExactParseFieldsUptoCard : Claim7 := { stood := { row := fnExactParseFieldsUptoRow, standIns := [], harness := (true, "180947b6944b87016aac2bfe5aee6dd348fe2af347b6724809a4a64c003ead89"), looks := false }, kinds := [], alts := [], laidByText := true, laidKinds := [.data, .pinned], laidTests := true, laidLooks := .later }
def FnExactParseFieldsUptoCardSaid : Prop := Claim7.holds Tryd.pinned (.plain (OpenSpec.upto fnExactParseFieldsSpec)) fnExactParseFieldsUptoCard

/-- THE SECOND FORM's CARD OF 'laws.FnFields'. -/
def fnFieldsUptoCard : Claim7 := { stood := { row := fnFieldsUptoRow, standIns := [], harness := (true, "180947b6944b87016aac2bfe5aee6dd348fe2af347b6724809a4a64c003ead89"), looks := false }, kinds := [], alts := [], laidByText := true, laidKinds := [.data, .pinned], laidTests := true, laidLooks := .later }
def FnFieldsUptoCardSaid : Prop := Claim7.holds Tryd.pinned (.plain (OpenSpec.upto fnFieldsSpec)) fnFieldsUptoCard
end Rows
end Go.Proofs.YtmppjfnojkgllacDoor
