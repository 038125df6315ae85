/-
  NARROWER THAN 'FOR EVERY INPUT', by the rows' own cells (each row's printed sentence says how): FnExactParseDirectives: laid · FnDirectives: laid · FnExactAreFields: laid · FnExactParseFields: laid · FnFields: laid.
  DERIVED. THE GIVEN ROWS OF THIS SEAT. 5 by the template 'for every input the law returns true; each argument reads behind the call as it read before'; 0 by the template 'total and deterministic' (their statements: YtmppjfnojkgllacDoorTotals.lean).
  GIVEN WITH THE SEED: the statements are not yours to turn. If you find one false, say at which input.
  Laid BY PROGRAM, IN A SANDBOX (cutbox-rows.mjs): the forced cells as the released guide's own fill.sh prints them over the translation abc919b78c65b245… (all of the seat's roots in one cut). By AI agents, Wed Nov 11 2026. No macro, syntax, notation, axiom, sorry.
-/
import Derived.Test.YtmppjfnojkgllacDoorChecked
import GoSem.PinnedTables
import GoSem.Claim
import GoSem.ClaimJoined
import GoSem.ClaimMapViews
import Derived.JoinedTies
import Derived.KernelRfl
namespace Go.Proofs.YtmppjfnojkgllacDoor
/- THE CELL 'sum', in the pinned program and in every row, IS THE sha256 OF THE DUMP (.gsa) THAT YtmppjfnojkgllacDoorProg.lean LOADS. Nothing in Lean hashes anything: it is a label: what it is worth is what the hold of that sum in a sandbox is worth. -/
noncomputable def Tryd.pinned : Pinned := { name := "ytmppjfnojkgllacdoor", sum := "abc919b78c65b245688f6e553c090894cf9befb682b7e8fc1ceb5a9b46804c06", checked := Tryd.checked }
namespace Rows
def none {H : Type} : Left H := { results := [], args := [] }

/- WHAT THE LISTED PACKAGE-LEVEL VARIABLES READ AS WHEN THE CALL BEGINS. Each datum BY PROGRAM (the guide's laid-datum.mjs) off the statement by which the dump's own 'gosem.cut.vars' lays the variable. In a bare row this is a premise. The card (YtmppjfnojkgllacDoorCards.lean) ties it to the program's text. -/
def laid_unicode_utf8_acceptRanges {H : Type} : DataW H := .agg [.agg [.lit (.int .u8 128), .lit (.int .u8 191)], .agg [.lit (.int .u8 160), .lit (.int .u8 191)], .agg [.lit (.int .u8 128), .lit (.int .u8 159)], .agg [.lit (.int .u8 144), .lit (.int .u8 191)], .agg [.lit (.int .u8 128), .lit (.int .u8 143)], .agg [.lit (.int .u8 0), .lit (.int .u8 0)], .agg [.lit (.int .u8 0), .lit (.int .u8 0)], .agg [.lit (.int .u8 0), .lit (.int .u8 0)], .agg [.lit (.int .u8 0), .lit (.int .u8 0)], .agg [.lit (.int .u8 0), .lit (.int .u8 0)], .agg [.lit (.int .u8 0), .lit (.int .u8 0)], .agg [.lit (.int .u8 0), .lit (.int .u8 0)], .agg [.lit (.int .u8 0), .lit (.int .u8 0)], .agg [.lit (.int .u8 0), .lit (.int .u8 0)], .agg [.lit (.int .u8 0), .lit (.int .u8 0)], .agg [.lit (.int .u8 0), .lit (.int .u8 0)]]
/-- One of Go's own tables, pinned by name: the form's constant. -/
def laid_unicode_utf8_first : DataW Unit := Go.Pinned.utf8First

/-- 'laws.FnExactParseDirectives': WHATEVER THE INPUT: true; the input reads as it did. -/
def fnExactParseDirectivesSpec : ChangeSpec := { name := "fnExactParseDirectives", fn := fun _ => fun
  | [d] => { results := [.lit (.bool true)], args := [d] }
  | _ => none }
def fnExactParseDirectivesRow : OpenClaim := { program := "ytmppjfnojkgllacdoor", sum := "abc919b78c65b245688f6e553c090894cf9befb682b7e8fc1ceb5a9b46804c06", func := "loop.example/g03012/laws.FnExactParseDirectives", spec := "fnExactParseDirectives", inPlace := ["internal/bytealg.IndexByteString", "internal/bytealg.IndexString"], named := ["unicode/utf8.first", "unicode/utf8.acceptRanges", "internal/bytealg.MaxLen"], apart := false, laid := [("unicode/utf8.acceptRanges", laid_unicode_utf8_acceptRanges), ("unicode/utf8.first", laid_unicode_utf8_first)] }
def FnExactParseDirectivesSaid : Prop := fnExactParseDirectivesRow.holds Tryd.pinned (OpenSpec.ofChange fnExactParseDirectivesSpec)

/-- ITS FALSE NEIGHBOUR: 'it returns false'. Refute it at one input. -/
def fnExactParseDirectivesWrong : ChangeSpec := { name := "fnExactParseDirectives", fn := fun _ => fun
  | [d] => { results := [.lit (.bool false)], args := [d] }
  | _ => none }
def FnExactParseDirectivesWrongFalsely : Prop := fnExactParseDirectivesRow.holds Tryd.pinned (OpenSpec.ofChange fnExactParseDirectivesWrong)

/-- 'laws.FnDirectives': WHATEVER THE INPUT: true; the input reads as it did. -/
def fnDirectivesSpec : ChangeSpec := { name := "fnDirectives", fn := fun _ => fun
  | [d] => { results := [.lit (.bool true)], args := [d] }
  | _ => none }
def fnDirectivesRow : OpenClaim := { program := "ytmppjfnojkgllacdoor", sum := "abc919b78c65b245688f6e553c090894cf9befb682b7e8fc1ceb5a9b46804c06", func := "loop.example/g03012/laws.FnDirectives", spec := "fnDirectives", inPlace := ["internal/bytealg.IndexByteString", "internal/bytealg.IndexString", "internal/abi.NoEscape", "internal/bytealg.MakeNoZero"], named := ["unicode/utf8.first", "unicode/utf8.acceptRanges", "internal/bytealg.MaxLen"], apart := false, laid := [("unicode/utf8.acceptRanges", laid_unicode_utf8_acceptRanges), ("unicode/utf8.first", laid_unicode_utf8_first)] }
def FnDirectivesSaid : Prop := fnDirectivesRow.holds Tryd.pinned (OpenSpec.ofChange fnDirectivesSpec)

/-- ITS FALSE NEIGHBOUR: 'it returns false'. Refute it at one input. -/
def fnDirectivesWrong : ChangeSpec := { name := "fnDirectives", fn := fun _ => fun
  | [d] => { results := [.lit (.bool false)], args := [d] }
  | _ => none }
def FnDirectivesWrongFalsely : Prop := fnDirectivesRow.holds Tryd.pinned (OpenSpec.ofChange fnDirectivesWrong)

/-- 'laws.FnExactAreFields': WHATEVER THE INPUT: true; the input reads as it did. -/
def fnExactAreFieldsSpec : ChangeSpec := { name := "fnExactAreFields", fn := fun _ => fun
  | [d] => { results := [.lit (.bool true)], args := [d] }
  | _ => none }
def fnExactAreFieldsRow : OpenClaim := { program := "ytmppjfnojkgllacdoor", sum := "abc919b78c65b245688f6e553c090894cf9befb682b7e8fc1ceb5a9b46804c06", func := "loop.example/g03012/laws.FnExactAreFields", spec := "fnExactAreFields", inPlace := ["internal/bytealg.IndexByteString", "internal/bytealg.IndexString"], named := ["unicode/utf8.first", "unicode/utf8.acceptRanges", "internal/bytealg.MaxLen"], apart := false, laid := [("unicode/utf8.acceptRanges", laid_unicode_utf8_acceptRanges), ("unicode/utf8.first", laid_unicode_utf8_first)] }
def FnExactAreFieldsSaid : Prop := fnExactAreFieldsRow.holds Tryd.pinned (OpenSpec.ofChange fnExactAreFieldsSpec)

/-- ITS FALSE NEIGHBOUR: 'it returns false'. Refute it at one input. -/
def fnExactAreFieldsWrong : ChangeSpec := { name := "fnExactAreFields", fn := fun _ => fun
  | [d] => { results := [.lit (.bool false)], args := [d] }
  | _ => none }
def FnExactAreFieldsWrongFalsely : Prop := fnExactAreFieldsRow.holds Tryd.pinned (OpenSpec.ofChange fnExactAreFieldsWrong)

/-- 'laws.FnExactParseFields': WHATEVER THE INPUT: true; the input reads as it did. -/
def fnExactParseFieldsSpec : ChangeSpec := { name := "fnExactParseFields", fn := fun _ => fun
  | [d] => { results := [.lit (.bool true)], args := [d] }
  | _ => none }
def fnExactParseFieldsRow : OpenClaim := { program := "ytmppjfnojkgllacdoor", sum := "abc919b78c65b245688f6e553c090894cf9befb682b7e8fc1ceb5a9b46804c06", func := "loop.example/g03012/laws.FnExactParseFields", spec := "fnExactParseFields", inPlace := ["internal/bytealg.IndexByteString", "internal/bytealg.IndexString"], named := ["internal/bytealg.MaxLen", "unicode/utf8.first", "unicode/utf8.acceptRanges"], apart := false, laid := [("unicode/utf8.acceptRanges", laid_unicode_utf8_acceptRanges), ("unicode/utf8.first", laid_unicode_utf8_first)] }
def FnExactParseFieldsSaid : Prop := fnExactParseFieldsRow.holds Tryd.pinned (OpenSpec.ofChange fnExactParseFieldsSpec)

/-- ITS FALSE NEIGHBOUR: 'it returns false'. Refute it at one input. -/
def fnExactParseFieldsWrong : ChangeSpec := { name := "fnExactParseFields", fn := fun _ => fun
  | [d] => { results := [.lit (.bool false)], args := [d] }
  | _ => none }
def FnExactParseFieldsWrongFalsely : Prop := fnExactParseFieldsRow.holds Tryd.pinned (OpenSpec.ofChange fnExactParseFieldsWrong)

/-- 'laws.FnFields': WHATEVER THE INPUT: true; the input reads as it did. -/
def fnFieldsSpec : ChangeSpec := { name := "fnFields", fn := fun _ => fun
  | [d] => { results := [.lit (.bool true)], args := [d] }
  | _ => none }
def fnFieldsRow : OpenClaim := { program := "ytmppjfnojkgllacdoor", sum := "abc919b78c65b245688f6e553c090894cf9befb682b7e8fc1ceb5a9b46804c06", func := "loop.example/g03012/laws.FnFields", spec := "fnFields", inPlace := ["internal/abi.NoEscape", "internal/bytealg.MakeNoZero", "internal/bytealg.IndexByteString", "internal/bytealg.IndexString"], unfollowed := true, recurses := true, named := ["internal/bytealg.MaxLen", "unicode/utf8.first", "unicode/utf8.acceptRanges"], apart := false, laid := [("unicode/utf8.acceptRanges", laid_unicode_utf8_acceptRanges), ("unicode/utf8.first", laid_unicode_utf8_first)] }
def FnFieldsSaid : Prop := fnFieldsRow.holds Tryd.pinned (OpenSpec.ofChange fnFieldsSpec)

/-- ITS FALSE NEIGHBOUR: 'it returns false'. Refute it at one input. -/
def fnFieldsWrong : ChangeSpec := { name := "fnFields", fn := fun _ => fun
  | [d] => { results := [.lit (.bool false)], args := [d] }
  | _ => none }
def FnFieldsWrongFalsely : Prop := fnFieldsRow.holds Tryd.pinned (OpenSpec.ofChange fnFieldsWrong)

/- THE SECOND FORM. 'bulk': how many values and letters a reading holds, each counted each time it is reached (what is shared counts as often as it is met; a slice's spare places count too). A statement '..UptoSaid' is the law's where the arguments, and the package variables that the reading takes, are together of bulk at most 1048576: NARROWER than '..Said'. Prove '..Said' where nothing that the law and all that it calls make is longer than what came in: it says more and counts as full. Else prove '..UptoSaid'. A law counts once. -/
mutual
def uptoBulk {H : Type} : DataW H → Nat
  | .lit (.string bytes) => bytes.length + 1
  | .lit _ => 1
  | .nil => 1
  | .ptr d => uptoBulk d + 1
  | .slice elems spare => uptoBulkAll elems + uptoBulkAll spare + 1
  | .agg parts => uptoBulkAll parts + 1
  | .iface _ d => uptoBulk d + 1
  | .map entries => uptoBulkEntries entries + 1
  | .held _ => 1
def uptoBulkAll {H : Type} : List (DataW H) → Nat
  | [] => 0
  | d :: r => uptoBulk d + uptoBulkAll r
def uptoBulkEntries {H : Type} : List (Lit × DataW H) → Nat
  | [] => 0
  | x :: r => uptoBulkEntry x + uptoBulkEntries r
def uptoBulkEntry {H : Type} : Lit × DataW H → Nat
  | (.string bytes, d) => bytes.length + uptoBulk d + 1
  | (_, d) => uptoBulk d + 1
 end
def uptoSmall : (H : Type) → List (DataW H) → Bool := fun _ ds => decide (uptoBulkAll ds ≤ 1048576)
def OpenSpec.upto (s : _root_.Go.ChangeSpec) : _root_.Go.OpenSpec := { _root_.Go.OpenSpec.ofChange s with cond := some uptoSmall }

/-- 'laws.FnExactParseDirectives', WHERE WHAT IT READS IS OF BULK AT MOST 1048576: true; the input reads as it did. -/
def fnExactParseDirectivesUptoRow : OpenClaim := { program := "ytmppjfnojkgllacdoor", sum := "abc919b78c65b245688f6e553c090894cf9befb682b7e8fc1ceb5a9b46804c06", func := "loop.example/g03012/laws.FnExactParseDirectives", spec := "fnExactParseDirectives", inPlace := ["internal/bytealg.IndexByteString", "internal/bytealg.IndexString"], named := ["unicode/utf8.first", "unicode/utf8.acceptRanges", "internal/bytealg.MaxLen"], apart := false, laid := [("unicode/utf8.acceptRanges", laid_unicode_utf8_acceptRanges), ("unicode/utf8.first", laid_unicode_utf8_first)], narrowed := true }
def FnExactParseDirectivesUptoSaid : Prop := fnExactParseDirectivesUptoRow.holds Tryd.pinned (OpenSpec.upto fnExactParseDirectivesSpec)

/-- 'laws.FnDirectives', WHERE WHAT IT READS IS OF BULK AT MOST 1048576: true; the input reads as it did. -/
def fnDirectivesUptoRow : OpenClaim := { program := "ytmppjfnojkgllacdoor", sum := "abc919b78c65b245688f6e553c090894cf9befb682b7e8fc1ceb5a9b46804c06", func := "loop.example/g03012/laws.FnDirectives", spec := "fnDirectives", inPlace := ["internal/bytealg.IndexByteString", "internal/bytealg.IndexString", "internal/abi.NoEscape", "internal/bytealg.MakeNoZero"], named := ["unicode/utf8.first", "unicode/utf8.acceptRanges", "internal/bytealg.MaxLen"], apart := false, laid := [("unicode/utf8.acceptRanges", laid_unicode_utf8_acceptRanges), ("unicode/utf8.first", laid_unicode_utf8_first)], narrowed := true }
def FnDirectivesUptoSaid : Prop := fnDirectivesUptoRow.holds Tryd.pinned (OpenSpec.upto fnDirectivesSpec)

/-- 'laws.FnExactAreFields', WHERE WHAT IT READS IS OF BULK AT MOST 1048576: true; the input reads as it did. -/
def fnExactAreFieldsUptoRow : OpenClaim := { program := "ytmppjfnojkgllacdoor", sum := "abc919b78c65b245688f6e553c090894cf9befb682b7e8fc1ceb5a9b46804c06", func := "loop.example/g03012/laws.FnExactAreFields", spec := "fnExactAreFields", inPlace := ["internal/bytealg.IndexByteString", "internal/bytealg.IndexString"], named := ["unicode/utf8.first", "unicode/utf8.acceptRanges", "internal/bytealg.MaxLen"], apart := false, laid := [("unicode/utf8.acceptRanges", laid_unicode_utf8_acceptRanges), ("unicode/utf8.first", laid_unicode_utf8_first)], narrowed := true }
def FnExactAreFieldsUptoSaid : Prop := fnExactAreFieldsUptoRow.holds Tryd.pinned (OpenSpec.upto fnExactAreFieldsSpec)

/-- 'laws.FnExactParseFields', WHERE WHAT IT READS IS OF BULK AT MOST 1048576: true; the input reads as it did. -/
def fnExactParseFieldsUptoRow : OpenClaim := { program := "ytmppjfnojkgllacdoor", sum := "abc919b78c65b245688f6e553c090894cf9befb682b7e8fc1ceb5a9b46804c06", func := "loop.example/g03012/laws.FnExactParseFields", spec := "fnExactParseFields", inPlace := ["internal/bytealg.IndexByteString", "internal/bytealg.IndexString"], named := ["internal/bytealg.MaxLen", "unicode/utf8.first", "unicode/utf8.acceptRanges"], apart := false, laid := [("unicode/utf8.acceptRanges", laid_unicode_utf8_acceptRanges), ("unicode/utf8.first", laid_unicode_utf8_first)], narrowed := true }
def FnExactParseFieldsUptoSaid : Prop := fnExactParseFieldsUptoRow.holds Tryd.pinned (OpenSpec.upto fnExactParseFieldsSpec)

/-- 'laws.FnFields', WHERE WHAT IT READS IS OF BULK AT MOST 1048576: true; the input reads as it did. -/
def fnFieldsUptoRow : OpenClaim := { program := "ytmppjfnojkgllacdoor", sum := "abc919b78c65b245688f6e553c090894cf9befb682b7e8fc1ceb5a9b46804c06", func := "loop.example/g03012/laws.FnFields", spec := "fnFields", inPlace := ["internal/abi.NoEscape", "internal/bytealg.MakeNoZero", "internal/bytealg.IndexByteString", "internal/bytealg.IndexString"], unfollowed := true, recurses := true, named := ["internal/bytealg.MaxLen", "unicode/utf8.first", "unicode/utf8.acceptRanges"], apart := false, laid := [("unicode/utf8.acceptRanges", laid_unicode_utf8_acceptRanges), ("unicode/utf8.first", laid_unicode_utf8_first)], narrowed := true }
def FnFieldsUptoSaid : Prop := fnFieldsUptoRow.holds Tryd.pinned (OpenSpec.upto fnFieldsSpec)

end Rows
end Go.Proofs.YtmppjfnojkgllacDoor
