/-
  No cell of these rows narrows 'for every input' (looked for: loops, veiled, ifaces, maps, wideKeys, modest, calm, conditions, laid).
  DERIVED. THE GIVEN ROWS OF THIS SEAT. 6 by the template 'for every input the law returns true; each argument reads behind the call as it read before'; 0 by the template 'total and deterministic' (their statements: YtijojcojpbfmlaaTotals.lean).
  GIVEN WITH THE SEED: the statements are not yours to turn. If you find one false, say at which input.
  Laid BY PROGRAM, IN A SANDBOX (cutbox-rows.mjs): the forced cells as the released guide's own fill.sh prints them over the translation 7c0ac8f29ae04013… (all of the seat's roots in one cut). By AI agents, Wed Nov 11 2026. No macro, syntax, notation, axiom, sorry.
-/
import Derived.Test.YtijojcojpbfmlaaChecked
import GoSem.Claim
import GoSem.ClaimJoined
import GoSem.ClaimMapViews
import Derived.JoinedTies
import Derived.KernelRfl
namespace Go.Proofs.Ytijojcojpbfmlaa
/- THE CELL 'sum', in the pinned program and in every row, IS THE sha256 OF THE DUMP (.gsa) THAT YtijojcojpbfmlaaProg.lean LOADS. Nothing in Lean hashes anything: it is a label: what it is worth is what the hold of that sum in a sandbox is worth. -/
noncomputable def Try.pinned : Pinned := { name := "ytijojcojpbfmlaa", sum := "7c0ac8f29ae040130c852844b5f73ddd1423e0f6ae7334b3fae21fda70f692ef", checked := Try.checked }
namespace Rows
def none {H : Type} : Left H := { results := [], args := [] }

/-- 'laws.FnExactIsSpanSet': WHATEVER THE INPUT: true; the input reads as it did. -/
def fnExactIsSpanSetSpec : ChangeSpec := { name := "fnExactIsSpanSet", fn := fun _ => fun
  | [d] => { results := [.lit (.bool true)], args := [d] }
  | _ => none }
def fnExactIsSpanSetRow : OpenClaim := { program := "ytijojcojpbfmlaa", sum := "7c0ac8f29ae040130c852844b5f73ddd1423e0f6ae7334b3fae21fda70f692ef", func := "loop.example/g03012/laws.FnExactIsSpanSet", spec := "fnExactIsSpanSet", apart := false }
def FnExactIsSpanSetSaid : Prop := fnExactIsSpanSetRow.holds Try.pinned (OpenSpec.ofChange fnExactIsSpanSetSpec)

/-- ITS FALSE NEIGHBOUR: 'it returns false'. Refute it at one input. -/
def fnExactIsSpanSetWrong : ChangeSpec := { name := "fnExactIsSpanSet", fn := fun _ => fun
  | [d] => { results := [.lit (.bool false)], args := [d] }
  | _ => none }
def FnExactIsSpanSetWrongFalsely : Prop := fnExactIsSpanSetRow.holds Try.pinned (OpenSpec.ofChange fnExactIsSpanSetWrong)

/-- 'laws.FnExactFormatFields': WHATEVER THE INPUT: true; the input reads as it did. -/
def fnExactFormatFieldsSpec : ChangeSpec := { name := "fnExactFormatFields", fn := fun _ => fun
  | [d] => { results := [.lit (.bool true)], args := [d] }
  | _ => none }
def fnExactFormatFieldsRow : OpenClaim := { program := "ytijojcojpbfmlaa", sum := "7c0ac8f29ae040130c852844b5f73ddd1423e0f6ae7334b3fae21fda70f692ef", func := "loop.example/g03012/laws.FnExactFormatFields", spec := "fnExactFormatFields", apart := false }
def FnExactFormatFieldsSaid : Prop := fnExactFormatFieldsRow.holds Try.pinned (OpenSpec.ofChange fnExactFormatFieldsSpec)

/-- ITS FALSE NEIGHBOUR: 'it returns false'. Refute it at one input. -/
def fnExactFormatFieldsWrong : ChangeSpec := { name := "fnExactFormatFields", fn := fun _ => fun
  | [d] => { results := [.lit (.bool false)], args := [d] }
  | _ => none }
def FnExactFormatFieldsWrongFalsely : Prop := fnExactFormatFieldsRow.holds Try.pinned (OpenSpec.ofChange fnExactFormatFieldsWrong)

/-- 'laws.FnExactDaysOf': WHATEVER THE INPUT: true; the input reads as it did. -/
def fnExactDaysOfSpec : ChangeSpec := { name := "fnExactDaysOf", fn := fun _ => fun
  | [d1, d2, d3] => { results := [.lit (.bool true)], args := [d1, d2, d3] }
  | _ => none }
def fnExactDaysOfRow : OpenClaim := { program := "ytijojcojpbfmlaa", sum := "7c0ac8f29ae040130c852844b5f73ddd1423e0f6ae7334b3fae21fda70f692ef", func := "loop.example/g03012/laws.FnExactDaysOf", spec := "fnExactDaysOf", apart := false }
def FnExactDaysOfSaid : Prop := fnExactDaysOfRow.holds Try.pinned (OpenSpec.ofChange fnExactDaysOfSpec)

/-- ITS FALSE NEIGHBOUR: 'it returns false'. Refute it at one input. -/
def fnExactDaysOfWrong : ChangeSpec := { name := "fnExactDaysOf", fn := fun _ => fun
  | [d1, d2, d3] => { results := [.lit (.bool false)], args := [d1, d2, d3] }
  | _ => none }
def FnExactDaysOfWrongFalsely : Prop := fnExactDaysOfRow.holds Try.pinned (OpenSpec.ofChange fnExactDaysOfWrong)

/-- 'laws.FnExactCivilOf': WHATEVER THE INPUT: true; the input reads as it did. -/
def fnExactCivilOfSpec : ChangeSpec := { name := "fnExactCivilOf", fn := fun _ => fun
  | [d] => { results := [.lit (.bool true)], args := [d] }
  | _ => none }
def fnExactCivilOfRow : OpenClaim := { program := "ytijojcojpbfmlaa", sum := "7c0ac8f29ae040130c852844b5f73ddd1423e0f6ae7334b3fae21fda70f692ef", func := "loop.example/g03012/laws.FnExactCivilOf", spec := "fnExactCivilOf", apart := false }
def FnExactCivilOfSaid : Prop := fnExactCivilOfRow.holds Try.pinned (OpenSpec.ofChange fnExactCivilOfSpec)

/-- ITS FALSE NEIGHBOUR: 'it returns false'. Refute it at one input. -/
def fnExactCivilOfWrong : ChangeSpec := { name := "fnExactCivilOf", fn := fun _ => fun
  | [d] => { results := [.lit (.bool false)], args := [d] }
  | _ => none }
def FnExactCivilOfWrongFalsely : Prop := fnExactCivilOfRow.holds Try.pinned (OpenSpec.ofChange fnExactCivilOfWrong)

/-- 'laws.FnExactHasDirective': WHATEVER THE INPUT: true; the input reads as it did. -/
def fnExactHasDirectiveSpec : ChangeSpec := { name := "fnExactHasDirective", fn := fun _ => fun
  | [d1, d2] => { results := [.lit (.bool true)], args := [d1, d2] }
  | _ => none }
def fnExactHasDirectiveRow : OpenClaim := { program := "ytijojcojpbfmlaa", sum := "7c0ac8f29ae040130c852844b5f73ddd1423e0f6ae7334b3fae21fda70f692ef", func := "loop.example/g03012/laws.FnExactHasDirective", spec := "fnExactHasDirective", apart := false }
def FnExactHasDirectiveSaid : Prop := fnExactHasDirectiveRow.holds Try.pinned (OpenSpec.ofChange fnExactHasDirectiveSpec)

/-- ITS FALSE NEIGHBOUR: 'it returns false'. Refute it at one input. -/
def fnExactHasDirectiveWrong : ChangeSpec := { name := "fnExactHasDirective", fn := fun _ => fun
  | [d1, d2] => { results := [.lit (.bool false)], args := [d1, d2] }
  | _ => none }
def FnExactHasDirectiveWrongFalsely : Prop := fnExactHasDirectiveRow.holds Try.pinned (OpenSpec.ofChange fnExactHasDirectiveWrong)

/-- 'laws.FnExactSameFields': WHATEVER THE INPUT: true; the input reads as it did. -/
def fnExactSameFieldsSpec : ChangeSpec := { name := "fnExactSameFields", fn := fun _ => fun
  | [d1, d2] => { results := [.lit (.bool true)], args := [d1, d2] }
  | _ => none }
def fnExactSameFieldsRow : OpenClaim := { program := "ytijojcojpbfmlaa", sum := "7c0ac8f29ae040130c852844b5f73ddd1423e0f6ae7334b3fae21fda70f692ef", func := "loop.example/g03012/laws.FnExactSameFields", spec := "fnExactSameFields", apart := false }
def FnExactSameFieldsSaid : Prop := fnExactSameFieldsRow.holds Try.pinned (OpenSpec.ofChange fnExactSameFieldsSpec)

/-- ITS FALSE NEIGHBOUR: 'it returns false'. Refute it at one input. -/
def fnExactSameFieldsWrong : ChangeSpec := { name := "fnExactSameFields", fn := fun _ => fun
  | [d1, d2] => { results := [.lit (.bool false)], args := [d1, d2] }
  | _ => none }
def FnExactSameFieldsWrongFalsely : Prop := fnExactSameFieldsRow.holds Try.pinned (OpenSpec.ofChange fnExactSameFieldsWrong)

/- THE SECOND FORM. 'bulk': how many values and letters a reading holds, each counted each time it is reached (what is shared counts as often as it is met; a slice's spare places count too). A statement '..UptoSaid' is the law's where the arguments, and the package variables that the reading takes, are together of bulk at most 1048576: NARROWER than '..Said'. Prove '..Said' where nothing that the law and all that it calls make is longer than what came in: it says more and counts as full. Else prove '..UptoSaid'. A law counts once. -/
mutual
def uptoBulk {H : Type} : DataW H → Nat
  | .lit (.string bytes) => bytes.length + 1
  | .lit _ => 1
  | .nil => 1
  | .ptr d => uptoBulk d + 1
  | .slice elems spare => uptoBulkAll elems + uptoBulkAll spare + 1
  | .agg parts => uptoBulkAll parts + 1
  | .iface _ d => uptoBulk d + 1
  | .map entries => uptoBulkEntries entries + 1
  | .held _ => 1
def uptoBulkAll {H : Type} : List (DataW H) → Nat
  | [] => 0
  | d :: r => uptoBulk d + uptoBulkAll r
def uptoBulkEntries {H : Type} : List (Lit × DataW H) → Nat
  | [] => 0
  | x :: r => uptoBulkEntry x + uptoBulkEntries r
def uptoBulkEntry {H : Type} : Lit × DataW H → Nat
  | (.string bytes, d) => bytes.length + uptoBulk d + 1
  | (_, d) => uptoBulk d + 1
 end
def uptoSmall : (H : Type) → List (DataW H) → Bool := fun _ ds => decide (uptoBulkAll ds ≤ 1048576)
def OpenSpec.upto (s : _root_.Go.ChangeSpec) : _root_.Go.OpenSpec := { _root_.Go.OpenSpec.ofChange s with cond := some uptoSmall }

/-- 'laws.FnExactIsSpanSet', WHERE WHAT IT READS IS OF BULK AT MOST 1048576: true; the input reads as it did. -/
def fnExactIsSpanSetUptoRow : OpenClaim := { program := "ytijojcojpbfmlaa", sum := "7c0ac8f29ae040130c852844b5f73ddd1423e0f6ae7334b3fae21fda70f692ef", func := "loop.example/g03012/laws.FnExactIsSpanSet", spec := "fnExactIsSpanSet", apart := false, narrowed := true }
def FnExactIsSpanSetUptoSaid : Prop := fnExactIsSpanSetUptoRow.holds Try.pinned (OpenSpec.upto fnExactIsSpanSetSpec)

/-- 'laws.FnExactFormatFields', WHERE WHAT IT READS IS OF BULK AT MOST 1048576: true; the input reads as it did. -/
def fnExactFormatFieldsUptoRow : OpenClaim := { program := "ytijojcojpbfmlaa", sum := "7c0ac8f29ae040130c852844b5f73ddd1423e0f6ae7334b3fae21fda70f692ef", func := "loop.example/g03012/laws.FnExactFormatFields", spec := "fnExactFormatFields", apart := false, narrowed := true }
def FnExactFormatFieldsUptoSaid : Prop := fnExactFormatFieldsUptoRow.holds Try.pinned (OpenSpec.upto fnExactFormatFieldsSpec)

/-- 'laws.FnExactDaysOf', WHERE WHAT IT READS IS OF BULK AT MOST 1048576: true; the input reads as it did. -/
def fnExactDaysOfUptoRow : OpenClaim := { program := "ytijojcojpbfmlaa", sum := "7c0ac8f29ae040130c852844b5f73ddd1423e0f6ae7334b3fae21fda70f692ef", func := "loop.example/g03012/laws.FnExactDaysOf", spec := "fnExactDaysOf", apart := false, narrowed := true }
def FnExactDaysOfUptoSaid : Prop := fnExactDaysOfUptoRow.holds Try.pinned (OpenSpec.upto fnExactDaysOfSpec)

/-- 'laws.FnExactCivilOf', WHERE WHAT IT READS IS OF BULK AT MOST 1048576: true; the input reads as it did. -/
def fnExactCivilOfUptoRow : OpenClaim := { program := "ytijojcojpbfmlaa", sum := "7c0ac8f29ae040130c852844b5f73ddd1423e0f6ae7334b3fae21fda70f692ef", func := "loop.example/g03012/laws.FnExactCivilOf", spec := "fnExactCivilOf", apart := false, narrowed := true }
def FnExactCivilOfUptoSaid : Prop := fnExactCivilOfUptoRow.holds Try.pinned (OpenSpec.upto fnExactCivilOfSpec)

/-- 'laws.FnExactHasDirective', WHERE WHAT IT READS IS OF BULK AT MOST 1048576: true; the input reads as it did. -/
def fnExactHasDirectiveUptoRow : OpenClaim := { program := "ytijojcojpbfmlaa", sum := "7c0ac8f29ae040130c852844b5f73ddd1423e0f6ae7334b3fae21fda70f692ef", func := "loop.example/g03012/laws.FnExactHasDirective", spec := "fnExactHasDirective", apart := false, narrowed := true }
def FnExactHasDirectiveUptoSaid : Prop := fnExactHasDirectiveUptoRow.holds Try.pinned (OpenSpec.upto fnExactHasDirectiveSpec)

/-- 'laws.FnExactSameFields', WHERE WHAT IT READS IS OF BULK AT MOST 1048576: true; the input reads as it did. -/
def fnExactSameFieldsUptoRow : OpenClaim := { program := "ytijojcojpbfmlaa", sum := "7c0ac8f29ae040130c852844b5f73ddd1423e0f6ae7334b3fae21fda70f692ef", func := "loop.example/g03012/laws.FnExactSameFields", spec := "fnExactSameFields", apart := false, narrowed := true }
def FnExactSameFieldsUptoSaid : Prop := fnExactSameFieldsUptoRow.holds Try.pinned (OpenSpec.upto fnExactSameFieldsSpec)

end Rows
end Go.Proofs.Ytijojcojpbfmlaa
