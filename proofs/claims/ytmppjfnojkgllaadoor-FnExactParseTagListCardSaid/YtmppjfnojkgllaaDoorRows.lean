/-
  NARROWER THAN 'FOR EVERY INPUT', by the rows' own cells (each row's printed sentence says how): FnExactParseTag: laid · FnExactSplitList: laid · FnExactSplitPair: laid · FnExactParseTagList: laid · FnTags: laid · FnLists: laid.
  DERIVED. THE GIVEN ROWS OF THIS SEAT. 6 by the template 'for every input the law returns true; each argument reads behind the call as it read before'; 0 by the template 'total and deterministic' (their statements: YtmppjfnojkgllaaDoorTotals.lean).
  GIVEN WITH THE SEED: the statements are not yours to turn. If you find one false, say at which input.
  Laid BY PROGRAM, IN A SANDBOX (cutbox-rows.mjs): the forced cells as the released guide's own fill.sh prints them over the translation 1f3150bc47240a6b… (all of the seat's roots in one cut). By AI agents, Wed Nov 11 2026. No macro, syntax, notation, axiom, sorry.
-/
import Derived.Test.YtmppjfnojkgllaaDoorChecked
import GoSem.PinnedTables
import GoSem.Claim
import GoSem.ClaimJoined
import GoSem.ClaimMapViews
import Derived.JoinedTies
import Derived.KernelRfl
namespace Go.Proofs.YtmppjfnojkgllaaDoor
/- THE CELL 'sum', in the pinned program and in every row, IS THE sha256 OF THE DUMP (.gsa) THAT YtmppjfnojkgllaaDoorProg.lean LOADS. Nothing in Lean hashes anything: it is a label: what it is worth is what the hold of that sum in a sandbox is worth. -/
noncomputable def Tryd.pinned : Pinned := { name := "ytmppjfnojkgllaadoor", sum := "1f3150bc47240a6b93d08ce591bf317127667cfbae005bc4bc545be9d31d4cdc", checked := Tryd.checked }
namespace Rows
def none {H : Type} : Left H := { results := [], args := [] }

/- WHAT THE LISTED PACKAGE-LEVEL VARIABLES READ AS WHEN THE CALL BEGINS. Each datum BY PROGRAM (the guide's laid-datum.mjs) off the statement by which the dump's own 'gosem.cut.vars' lays the variable. In a bare row this is a premise. The card (YtmppjfnojkgllaaDoorCards.lean) ties it to the program's text. -/
def laid_unicode_utf8_acceptRanges {H : Type} : DataW H := .agg [.agg [.lit (.int .u8 128), .lit (.int .u8 191)], .agg [.lit (.int .u8 160), .lit (.int .u8 191)], .agg [.lit (.int .u8 128), .lit (.int .u8 159)], .agg [.lit (.int .u8 144), .lit (.int .u8 191)], .agg [.lit (.int .u8 128), .lit (.int .u8 143)], .agg [.lit (.int .u8 0), .lit (.int .u8 0)], .agg [.lit (.int .u8 0), .lit (.int .u8 0)], .agg [.lit (.int .u8 0), .lit (.int .u8 0)], .agg [.lit (.int .u8 0), .lit (.int .u8 0)], .agg [.lit (.int .u8 0), .lit (.int .u8 0)], .agg [.lit (.int .u8 0), .lit (.int .u8 0)], .agg [.lit (.int .u8 0), .lit (.int .u8 0)], .agg [.lit (.int .u8 0), .lit (.int .u8 0)], .agg [.lit (.int .u8 0), .lit (.int .u8 0)], .agg [.lit (.int .u8 0), .lit (.int .u8 0)], .agg [.lit (.int .u8 0), .lit (.int .u8 0)]]
/-- One of Go's own tables, pinned by name: the form's constant. -/
def laid_unicode_utf8_first : DataW Unit := Go.Pinned.utf8First

/-- 'laws.FnExactParseTag': WHATEVER THE INPUT: true; the input reads as it did. -/
def fnExactParseTagSpec : ChangeSpec := { name := "fnExactParseTag", fn := fun _ => fun
  | [d] => { results := [.lit (.bool true)], args := [d] }
  | _ => none }
def fnExactParseTagRow : OpenClaim := { program := "ytmppjfnojkgllaadoor", sum := "1f3150bc47240a6b93d08ce591bf317127667cfbae005bc4bc545be9d31d4cdc", func := "loop.example/g03012/laws.FnExactParseTag", spec := "fnExactParseTag", inPlace := ["internal/bytealg.IndexByteString", "internal/bytealg.IndexString"], named := ["unicode/utf8.first", "unicode/utf8.acceptRanges", "internal/bytealg.MaxLen"], apart := false, laid := [("unicode/utf8.acceptRanges", laid_unicode_utf8_acceptRanges), ("unicode/utf8.first", laid_unicode_utf8_first)] }
def FnExactParseTagSaid : Prop := fnExactParseTagRow.holds Tryd.pinned (OpenSpec.ofChange fnExactParseTagSpec)

/-- ITS FALSE NEIGHBOUR: 'it returns false'. Refute it at one input. -/
def fnExactParseTagWrong : ChangeSpec := { name := "fnExactParseTag", fn := fun _ => fun
  | [d] => { results := [.lit (.bool false)], args := [d] }
  | _ => none }
def FnExactParseTagWrongFalsely : Prop := fnExactParseTagRow.holds Tryd.pinned (OpenSpec.ofChange fnExactParseTagWrong)

/-- 'laws.FnExactSplitList': WHATEVER THE INPUT: true; the input reads as it did. -/
def fnExactSplitListSpec : ChangeSpec := { name := "fnExactSplitList", fn := fun _ => fun
  | [d] => { results := [.lit (.bool true)], args := [d] }
  | _ => none }
def fnExactSplitListRow : OpenClaim := { program := "ytmppjfnojkgllaadoor", sum := "1f3150bc47240a6b93d08ce591bf317127667cfbae005bc4bc545be9d31d4cdc", func := "loop.example/g03012/laws.FnExactSplitList", spec := "fnExactSplitList", inPlace := ["internal/bytealg.IndexByteString", "internal/bytealg.IndexString"], named := ["unicode/utf8.first", "unicode/utf8.acceptRanges", "internal/bytealg.MaxLen"], apart := false, laid := [("unicode/utf8.acceptRanges", laid_unicode_utf8_acceptRanges), ("unicode/utf8.first", laid_unicode_utf8_first)] }
def FnExactSplitListSaid : Prop := fnExactSplitListRow.holds Tryd.pinned (OpenSpec.ofChange fnExactSplitListSpec)

/-- ITS FALSE NEIGHBOUR: 'it returns false'. Refute it at one input. -/
def fnExactSplitListWrong : ChangeSpec := { name := "fnExactSplitList", fn := fun _ => fun
  | [d] => { results := [.lit (.bool false)], args := [d] }
  | _ => none }
def FnExactSplitListWrongFalsely : Prop := fnExactSplitListRow.holds Tryd.pinned (OpenSpec.ofChange fnExactSplitListWrong)

/-- 'laws.FnExactSplitPair': WHATEVER THE INPUT: true; the input reads as it did. -/
def fnExactSplitPairSpec : ChangeSpec := { name := "fnExactSplitPair", fn := fun _ => fun
  | [d] => { results := [.lit (.bool true)], args := [d] }
  | _ => none }
def fnExactSplitPairRow : OpenClaim := { program := "ytmppjfnojkgllaadoor", sum := "1f3150bc47240a6b93d08ce591bf317127667cfbae005bc4bc545be9d31d4cdc", func := "loop.example/g03012/laws.FnExactSplitPair", spec := "fnExactSplitPair", inPlace := ["internal/bytealg.IndexByteString", "internal/bytealg.IndexString"], named := ["internal/bytealg.MaxLen", "unicode/utf8.first", "unicode/utf8.acceptRanges"], apart := false, laid := [("unicode/utf8.acceptRanges", laid_unicode_utf8_acceptRanges), ("unicode/utf8.first", laid_unicode_utf8_first)] }
def FnExactSplitPairSaid : Prop := fnExactSplitPairRow.holds Tryd.pinned (OpenSpec.ofChange fnExactSplitPairSpec)

/-- ITS FALSE NEIGHBOUR: 'it returns false'. Refute it at one input. -/
def fnExactSplitPairWrong : ChangeSpec := { name := "fnExactSplitPair", fn := fun _ => fun
  | [d] => { results := [.lit (.bool false)], args := [d] }
  | _ => none }
def FnExactSplitPairWrongFalsely : Prop := fnExactSplitPairRow.holds Tryd.pinned (OpenSpec.ofChange fnExactSplitPairWrong)

/-- 'laws.FnExactParseTagList': WHATEVER THE INPUT: true; the input reads as it did. -/
def fnExactParseTagListSpec : ChangeSpec := { name := "fnExactParseTagList", fn := fun _ => fun
  | [d] => { results := [.lit (.bool true)], args := [d] }
  | _ => none }
def fnExactParseTagListRow : OpenClaim := { program := "ytmppjfnojkgllaadoor", sum := "1f3150bc47240a6b93d08ce591bf317127667cfbae005bc4bc545be9d31d4cdc", func := "loop.example/g03012/laws.FnExactParseTagList", spec := "fnExactParseTagList", inPlace := ["internal/bytealg.IndexByteString", "internal/bytealg.IndexString"], named := ["unicode/utf8.first", "unicode/utf8.acceptRanges", "internal/bytealg.MaxLen"], apart := false, laid := [("unicode/utf8.acceptRanges", laid_unicode_utf8_acceptRanges), ("unicode/utf8.first", laid_unicode_utf8_first)] }
def FnExactParseTagListSaid : Prop := fnExactParseTagListRow.holds Tryd.pinned (OpenSpec.ofChange fnExactParseTagListSpec)

/-- ITS FALSE NEIGHBOUR: 'it returns false'. Refute it at one input. -/
def fnExactParseTagListWrong : ChangeSpec := { name := "fnExactParseTagList", fn := fun _ => fun
  | [d] => { results := [.lit (.bool false)], args := [d] }
  | _ => none }
def FnExactParseTagListWrongFalsely : Prop := fnExactParseTagListRow.holds Tryd.pinned (OpenSpec.ofChange fnExactParseTagListWrong)

/-- 'laws.FnTags': WHATEVER THE INPUT: true; the input reads as it did. -/
def fnTagsSpec : ChangeSpec := { name := "fnTags", fn := fun _ => fun
  | [d] => { results := [.lit (.bool true)], args := [d] }
  | _ => none }
def fnTagsRow : OpenClaim := { program := "ytmppjfnojkgllaadoor", sum := "1f3150bc47240a6b93d08ce591bf317127667cfbae005bc4bc545be9d31d4cdc", func := "loop.example/g03012/laws.FnTags", spec := "fnTags", inPlace := ["internal/bytealg.IndexByteString", "internal/bytealg.IndexString"], named := ["unicode/utf8.first", "unicode/utf8.acceptRanges", "internal/bytealg.MaxLen"], apart := false, laid := [("unicode/utf8.acceptRanges", laid_unicode_utf8_acceptRanges), ("unicode/utf8.first", laid_unicode_utf8_first)] }
def FnTagsSaid : Prop := fnTagsRow.holds Tryd.pinned (OpenSpec.ofChange fnTagsSpec)

/-- ITS FALSE NEIGHBOUR: 'it returns false'. Refute it at one input. -/
def fnTagsWrong : ChangeSpec := { name := "fnTags", fn := fun _ => fun
  | [d] => { results := [.lit (.bool false)], args := [d] }
  | _ => none }
def FnTagsWrongFalsely : Prop := fnTagsRow.holds Tryd.pinned (OpenSpec.ofChange fnTagsWrong)

/-- 'laws.FnLists': WHATEVER THE INPUT: true; the input reads as it did. -/
def fnListsSpec : ChangeSpec := { name := "fnLists", fn := fun _ => fun
  | [d] => { results := [.lit (.bool true)], args := [d] }
  | _ => none }
def fnListsRow : OpenClaim := { program := "ytmppjfnojkgllaadoor", sum := "1f3150bc47240a6b93d08ce591bf317127667cfbae005bc4bc545be9d31d4cdc", func := "loop.example/g03012/laws.FnLists", spec := "fnLists", inPlace := ["internal/bytealg.IndexByteString", "internal/bytealg.IndexString", "internal/abi.NoEscape", "internal/bytealg.MakeNoZero"], named := ["unicode/utf8.first", "unicode/utf8.acceptRanges", "internal/bytealg.MaxLen"], apart := false, laid := [("unicode/utf8.acceptRanges", laid_unicode_utf8_acceptRanges), ("unicode/utf8.first", laid_unicode_utf8_first)] }
def FnListsSaid : Prop := fnListsRow.holds Tryd.pinned (OpenSpec.ofChange fnListsSpec)

/-- ITS FALSE NEIGHBOUR: 'it returns false'. Refute it at one input. -/
def fnListsWrong : ChangeSpec := { name := "fnLists", fn := fun _ => fun
  | [d] => { results := [.lit (.bool false)], args := [d] }
  | _ => none }
def FnListsWrongFalsely : Prop := fnListsRow.holds Tryd.pinned (OpenSpec.ofChange fnListsWrong)

/- THE SECOND FORM. 'bulk': how many values and letters a reading holds, each counted each time it is reached (what is shared counts as often as it is met; a slice's spare places count too). A statement '..UptoSaid' is the law's where the arguments, and the package variables that the reading takes, are together of bulk at most 1048576: NARROWER than '..Said'. Prove '..Said' where nothing that the law and all that it calls make is longer than what came in: it says more and counts as full. Else prove '..UptoSaid'. A law counts once. -/
mutual
def uptoBulk {H : Type} : DataW H → Nat
  | .lit (.string bytes) => bytes.length + 1
  | .lit _ => 1
  | .nil => 1
  | .ptr d => uptoBulk d + 1
  | .slice elems spare => uptoBulkAll elems + uptoBulkAll spare + 1
  | .agg parts => uptoBulkAll parts + 1
  | .iface _ d => uptoBulk d + 1
  | .map entries => uptoBulkEntries entries + 1
  | .held _ => 1
def uptoBulkAll {H : Type} : List (DataW H) → Nat
  | [] => 0
  | d :: r => uptoBulk d + uptoBulkAll r
def uptoBulkEntries {H : Type} : List (Lit × DataW H) → Nat
  | [] => 0
  | x :: r => uptoBulkEntry x + uptoBulkEntries r
def uptoBulkEntry {H : Type} : Lit × DataW H → Nat
  | (.string bytes, d) => bytes.length + uptoBulk d + 1
  | (_, d) => uptoBulk d + 1
 end
def uptoSmall : (H : Type) → List (DataW H) → Bool := fun _ ds => decide (uptoBulkAll ds ≤ 1048576)
def OpenSpec.upto (s : _root_.Go.ChangeSpec) : _root_.Go.OpenSpec := { _root_.Go.OpenSpec.ofChange s with cond := some uptoSmall }

/-- 'laws.FnExactParseTag', WHERE WHAT IT READS IS OF BULK AT MOST 1048576: true; the input reads as it did. -/
def fnExactParseTagUptoRow : OpenClaim := { program := "ytmppjfnojkgllaadoor", sum := "1f3150bc47240a6b93d08ce591bf317127667cfbae005bc4bc545be9d31d4cdc", func := "loop.example/g03012/laws.FnExactParseTag", spec := "fnExactParseTag", inPlace := ["internal/bytealg.IndexByteString", "internal/bytealg.IndexString"], named := ["unicode/utf8.first", "unicode/utf8.acceptRanges", "internal/bytealg.MaxLen"], apart := false, laid := [("unicode/utf8.acceptRanges", laid_unicode_utf8_acceptRanges), ("unicode/utf8.first", laid_unicode_utf8_first)], narrowed := true }
def FnExactParseTagUptoSaid : Prop := fnExactParseTagUptoRow.holds Tryd.pinned (OpenSpec.upto fnExactParseTagSpec)

/-- 'laws.FnExactSplitList', WHERE WHAT IT READS IS OF BULK AT MOST 1048576: true; the input reads as it did. -/
def fnExactSplitListUptoRow : OpenClaim := { program := "ytmppjfnojkgllaadoor", sum := "1f3150bc47240a6b93d08ce591bf317127667cfbae005bc4bc545be9d31d4cdc", func := "loop.example/g03012/laws.FnExactSplitList", spec := "fnExactSplitList", inPlace := ["internal/bytealg.IndexByteString", "internal/bytealg.IndexString"], named := ["unicode/utf8.first", "unicode/utf8.acceptRanges", "internal/bytealg.MaxLen"], apart := false, laid := [("unicode/utf8.acceptRanges", laid_unicode_utf8_acceptRanges), ("unicode/utf8.first", laid_unicode_utf8_first)], narrowed := true }
def FnExactSplitListUptoSaid : Prop := fnExactSplitListUptoRow.holds Tryd.pinned (OpenSpec.upto fnExactSplitListSpec)

/-- 'laws.FnExactSplitPair', WHERE WHAT IT READS IS OF BULK AT MOST 1048576: true; the input reads as it did. -/
def fnExactSplitPairUptoRow : OpenClaim := { program := "ytmppjfnojkgllaadoor", sum := "1f3150bc47240a6b93d08ce591bf317127667cfbae005bc4bc545be9d31d4cdc", func := "loop.example/g03012/laws.FnExactSplitPair", spec := "fnExactSplitPair", inPlace := ["internal/bytealg.IndexByteString", "internal/bytealg.IndexString"], named := ["internal/bytealg.MaxLen", "unicode/utf8.first", "unicode/utf8.acceptRanges"], apart := false, laid := [("unicode/utf8.acceptRanges", laid_unicode_utf8_acceptRanges), ("unicode/utf8.first", laid_unicode_utf8_first)], narrowed := true }
def FnExactSplitPairUptoSaid : Prop := fnExactSplitPairUptoRow.holds Tryd.pinned (OpenSpec.upto fnExactSplitPairSpec)

/-- 'laws.FnExactParseTagList', WHERE WHAT IT READS IS OF BULK AT MOST 1048576: true; the input reads as it did. -/
def fnExactParseTagListUptoRow : OpenClaim := { program := "ytmppjfnojkgllaadoor", sum := "1f3150bc47240a6b93d08ce591bf317127667cfbae005bc4bc545be9d31d4cdc", func := "loop.example/g03012/laws.FnExactParseTagList", spec := "fnExactParseTagList", inPlace := ["internal/bytealg.IndexByteString", "internal/bytealg.IndexString"], named := ["unicode/utf8.first", "unicode/utf8.acceptRanges", "internal/bytealg.MaxLen"], apart := false, laid := [("unicode/utf8.acceptRanges", laid_unicode_utf8_acceptRanges), ("unicode/utf8.first", laid_unicode_utf8_first)], narrowed := true }
def FnExactParseTagListUptoSaid : Prop := fnExactParseTagListUptoRow.holds Tryd.pinned (OpenSpec.upto fnExactParseTagListSpec)

/-- 'laws.FnTags', WHERE WHAT IT READS IS OF BULK AT MOST 1048576: true; the input reads as it did. -/
def fnTagsUptoRow : OpenClaim := { program := "ytmppjfnojkgllaadoor", sum := "1f3150bc47240a6b93d08ce591bf317127667cfbae005bc4bc545be9d31d4cdc", func := "loop.example/g03012/laws.FnTags", spec := "fnTags", inPlace := ["internal/bytealg.IndexByteString", "internal/bytealg.IndexString"], named := ["unicode/utf8.first", "unicode/utf8.acceptRanges", "internal/bytealg.MaxLen"], apart := false, laid := [("unicode/utf8.acceptRanges", laid_unicode_utf8_acceptRanges), ("unicode/utf8.first", laid_unicode_utf8_first)], narrowed := true }
def FnTagsUptoSaid : Prop := fnTagsUptoRow.holds Tryd.pinned (OpenSpec.upto fnTagsSpec)

/-- 'laws.FnLists', WHERE WHAT IT READS IS OF BULK AT MOST 1048576: true; the input reads as it did. -/
def fnListsUptoRow : OpenClaim := { program := "ytmppjfnojkgllaadoor", sum := "1f3150bc47240a6b93d08ce591bf317127667cfbae005bc4bc545be9d31d4cdc", func := "loop.example/g03012/laws.FnLists", spec := "fnLists", inPlace := ["internal/bytealg.IndexByteString", "internal/bytealg.IndexString", "internal/abi.NoEscape", "internal/bytealg.MakeNoZero"], named := ["unicode/utf8.first", "unicode/utf8.acceptRanges", "internal/bytealg.MaxLen"], apart := false, laid := [("unicode/utf8.acceptRanges", laid_unicode_utf8_acceptRanges), ("unicode/utf8.first", laid_unicode_utf8_first)], narrowed := true }
def FnListsUptoSaid : Prop := fnListsUptoRow.holds Tryd.pinned (OpenSpec.upto fnListsSpec)

end Rows
end Go.Proofs.YtmppjfnojkgllaaDoor
