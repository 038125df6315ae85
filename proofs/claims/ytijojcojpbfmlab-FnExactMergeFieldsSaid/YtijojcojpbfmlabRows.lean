/-
  No cell of these rows narrows 'for every input' (looked for: loops, veiled, ifaces, maps, wideKeys, modest, calm, conditions, laid).
  DERIVED. THE GIVEN ROWS OF THIS SEAT. 6 by the template 'for every input the law returns true; each argument reads behind the call as it read before'; 0 by the template 'total and deterministic' (their statements: YtijojcojpbfmlabTotals.lean).
  GIVEN WITH THE SEED: the statements are not yours to turn. If you find one false, say at which input.
  Laid BY PROGRAM, IN A SANDBOX (cutbox-rows.mjs): the forced cells as the released guide's own fill.sh prints them over the translation 7ce839c26972093c… (all of the seat's roots in one cut). By AI agents, Wed Nov 11 2026. No macro, syntax, notation, axiom, sorry.
-/
import Derived.Test.YtijojcojpbfmlabChecked
import GoSem.Claim
import GoSem.ClaimJoined
import GoSem.ClaimMapViews
import Derived.JoinedTies
import Derived.KernelRfl
namespace Go.Proofs.Ytijojcojpbfmlab
/- THE CELL 'sum', in the pinned program and in every row, IS THE sha256 OF THE DUMP (.gsa) THAT YtijojcojpbfmlabProg.lean LOADS. Nothing in Lean hashes anything: it is a label: what it is worth is what the hold of that sum in a sandbox is worth. -/
noncomputable def Try.pinned : Pinned := { name := "ytijojcojpbfmlab", sum := "7ce839c26972093ccf2de293f208ff8d4e0b6fa76c9168b945e1142cb62a274c", checked := Try.checked }
namespace Rows
def none {H : Type} : Left H := { results := [], args := [] }

/-- 'laws.FnExactDropField': WHATEVER THE INPUT: true; the input reads as it did. -/
def fnExactDropFieldSpec : ChangeSpec := { name := "fnExactDropField", fn := fun _ => fun
  | [d1, d2] => { results := [.lit (.bool true)], args := [d1, d2] }
  | _ => none }
def fnExactDropFieldRow : OpenClaim := { program := "ytijojcojpbfmlab", sum := "7ce839c26972093ccf2de293f208ff8d4e0b6fa76c9168b945e1142cb62a274c", func := "loop.example/g03012/laws.FnExactDropField", spec := "fnExactDropField", apart := false }
def FnExactDropFieldSaid : Prop := fnExactDropFieldRow.holds Try.pinned (OpenSpec.ofChange fnExactDropFieldSpec)

/-- ITS FALSE NEIGHBOUR: 'it returns false'. Refute it at one input. -/
def fnExactDropFieldWrong : ChangeSpec := { name := "fnExactDropField", fn := fun _ => fun
  | [d1, d2] => { results := [.lit (.bool false)], args := [d1, d2] }
  | _ => none }
def FnExactDropFieldWrongFalsely : Prop := fnExactDropFieldRow.holds Try.pinned (OpenSpec.ofChange fnExactDropFieldWrong)

/-- 'laws.FnExactSecondsOf': WHATEVER THE INPUT: true; the input reads as it did. -/
def fnExactSecondsOfSpec : ChangeSpec := { name := "fnExactSecondsOf", fn := fun _ => fun
  | [d1, d2] => { results := [.lit (.bool true)], args := [d1, d2] }
  | _ => none }
def fnExactSecondsOfRow : OpenClaim := { program := "ytijojcojpbfmlab", sum := "7ce839c26972093ccf2de293f208ff8d4e0b6fa76c9168b945e1142cb62a274c", func := "loop.example/g03012/laws.FnExactSecondsOf", spec := "fnExactSecondsOf", apart := false }
def FnExactSecondsOfSaid : Prop := fnExactSecondsOfRow.holds Try.pinned (OpenSpec.ofChange fnExactSecondsOfSpec)

/-- ITS FALSE NEIGHBOUR: 'it returns false'. Refute it at one input. -/
def fnExactSecondsOfWrong : ChangeSpec := { name := "fnExactSecondsOf", fn := fun _ => fun
  | [d1, d2] => { results := [.lit (.bool false)], args := [d1, d2] }
  | _ => none }
def FnExactSecondsOfWrongFalsely : Prop := fnExactSecondsOfRow.holds Try.pinned (OpenSpec.ofChange fnExactSecondsOfWrong)

/-- 'laws.FnExactSetField': WHATEVER THE INPUT: true; the input reads as it did. -/
def fnExactSetFieldSpec : ChangeSpec := { name := "fnExactSetField", fn := fun _ => fun
  | [d1, d2, d3] => { results := [.lit (.bool true)], args := [d1, d2, d3] }
  | _ => none }
def fnExactSetFieldRow : OpenClaim := { program := "ytijojcojpbfmlab", sum := "7ce839c26972093ccf2de293f208ff8d4e0b6fa76c9168b945e1142cb62a274c", func := "loop.example/g03012/laws.FnExactSetField", spec := "fnExactSetField", apart := false }
def FnExactSetFieldSaid : Prop := fnExactSetFieldRow.holds Try.pinned (OpenSpec.ofChange fnExactSetFieldSpec)

/-- ITS FALSE NEIGHBOUR: 'it returns false'. Refute it at one input. -/
def fnExactSetFieldWrong : ChangeSpec := { name := "fnExactSetField", fn := fun _ => fun
  | [d1, d2, d3] => { results := [.lit (.bool false)], args := [d1, d2, d3] }
  | _ => none }
def FnExactSetFieldWrongFalsely : Prop := fnExactSetFieldRow.holds Try.pinned (OpenSpec.ofChange fnExactSetFieldWrong)

/-- 'laws.FnExactResolveRanges': WHATEVER THE INPUT: true; the input reads as it did. -/
def fnExactResolveRangesSpec : ChangeSpec := { name := "fnExactResolveRanges", fn := fun _ => fun
  | [d1, d2] => { results := [.lit (.bool true)], args := [d1, d2] }
  | _ => none }
def fnExactResolveRangesRow : OpenClaim := { program := "ytijojcojpbfmlab", sum := "7ce839c26972093ccf2de293f208ff8d4e0b6fa76c9168b945e1142cb62a274c", func := "loop.example/g03012/laws.FnExactResolveRanges", spec := "fnExactResolveRanges", apart := false }
def FnExactResolveRangesSaid : Prop := fnExactResolveRangesRow.holds Try.pinned (OpenSpec.ofChange fnExactResolveRangesSpec)

/-- ITS FALSE NEIGHBOUR: 'it returns false'. Refute it at one input. -/
def fnExactResolveRangesWrong : ChangeSpec := { name := "fnExactResolveRanges", fn := fun _ => fun
  | [d1, d2] => { results := [.lit (.bool false)], args := [d1, d2] }
  | _ => none }
def FnExactResolveRangesWrongFalsely : Prop := fnExactResolveRangesRow.holds Try.pinned (OpenSpec.ofChange fnExactResolveRangesWrong)

/-- 'laws.FnExactMergeFields': WHATEVER THE INPUT: true; the input reads as it did. -/
def fnExactMergeFieldsSpec : ChangeSpec := { name := "fnExactMergeFields", fn := fun _ => fun
  | [d1, d2] => { results := [.lit (.bool true)], args := [d1, d2] }
  | _ => none }
def fnExactMergeFieldsRow : OpenClaim := { program := "ytijojcojpbfmlab", sum := "7ce839c26972093ccf2de293f208ff8d4e0b6fa76c9168b945e1142cb62a274c", func := "loop.example/g03012/laws.FnExactMergeFields", spec := "fnExactMergeFields", unfollowed := true, recurses := true, apart := false }
def FnExactMergeFieldsSaid : Prop := fnExactMergeFieldsRow.holds Try.pinned (OpenSpec.ofChange fnExactMergeFieldsSpec)

/-- ITS FALSE NEIGHBOUR: 'it returns false'. Refute it at one input. -/
def fnExactMergeFieldsWrong : ChangeSpec := { name := "fnExactMergeFields", fn := fun _ => fun
  | [d1, d2] => { results := [.lit (.bool false)], args := [d1, d2] }
  | _ => none }
def FnExactMergeFieldsWrongFalsely : Prop := fnExactMergeFieldsRow.holds Try.pinned (OpenSpec.ofChange fnExactMergeFieldsWrong)

/-- 'laws.FnExactGetField': WHATEVER THE INPUT: true; the input reads as it did. -/
def fnExactGetFieldSpec : ChangeSpec := { name := "fnExactGetField", fn := fun _ => fun
  | [d1, d2] => { results := [.lit (.bool true)], args := [d1, d2] }
  | _ => none }
def fnExactGetFieldRow : OpenClaim := { program := "ytijojcojpbfmlab", sum := "7ce839c26972093ccf2de293f208ff8d4e0b6fa76c9168b945e1142cb62a274c", func := "loop.example/g03012/laws.FnExactGetField", spec := "fnExactGetField", inPlace := ["internal/abi.NoEscape", "internal/bytealg.MakeNoZero"], apart := false }
def FnExactGetFieldSaid : Prop := fnExactGetFieldRow.holds Try.pinned (OpenSpec.ofChange fnExactGetFieldSpec)

/-- ITS FALSE NEIGHBOUR: 'it returns false'. Refute it at one input. -/
def fnExactGetFieldWrong : ChangeSpec := { name := "fnExactGetField", fn := fun _ => fun
  | [d1, d2] => { results := [.lit (.bool false)], args := [d1, d2] }
  | _ => none }
def FnExactGetFieldWrongFalsely : Prop := fnExactGetFieldRow.holds Try.pinned (OpenSpec.ofChange fnExactGetFieldWrong)

/- THE SECOND FORM. 'bulk': how many values and letters a reading holds, each counted each time it is reached (what is shared counts as often as it is met; a slice's spare places count too). A statement '..UptoSaid' is the law's where the arguments, and the package variables that the reading takes, are together of bulk at most 1048576: NARROWER than '..Said'. Prove '..Said' where nothing that the law and all that it calls make is longer than what came in: it says more and counts as full. Else prove '..UptoSaid'. A law counts once. -/
mutual
def uptoBulk {H : Type} : DataW H → Nat
  | .lit (.string bytes) => bytes.length + 1
  | .lit _ => 1
  | .nil => 1
  | .ptr d => uptoBulk d + 1
  | .slice elems spare => uptoBulkAll elems + uptoBulkAll spare + 1
  | .agg parts => uptoBulkAll parts + 1
  | .iface _ d => uptoBulk d + 1
  | .map entries => uptoBulkEntries entries + 1
  | .held _ => 1
def uptoBulkAll {H : Type} : List (DataW H) → Nat
  | [] => 0
  | d :: r => uptoBulk d + uptoBulkAll r
def uptoBulkEntries {H : Type} : List (Lit × DataW H) → Nat
  | [] => 0
  | x :: r => uptoBulkEntry x + uptoBulkEntries r
def uptoBulkEntry {H : Type} : Lit × DataW H → Nat
  | (.string bytes, d) => bytes.length + uptoBulk d + 1
  | (_, d) => uptoBulk d + 1
 end
def uptoSmall : (H : Type) → List (DataW H) → Bool := fun _ ds => decide (uptoBulkAll ds ≤ 1048576)
def OpenSpec.upto (s : _root_.Go.ChangeSpec) : _root_.Go.OpenSpec := { _root_.Go.OpenSpec.ofChange s with cond := some uptoSmall }

/-- 'laws.FnExactDropField', WHERE WHAT IT READS IS OF BULK AT MOST 1048576: true; the input reads as it did. -/
def fnExactDropFieldUptoRow : OpenClaim := { program := "ytijojcojpbfmlab", sum := "7ce839c26972093ccf2de293f208ff8d4e0b6fa76c9168b945e1142cb62a274c", func := "loop.example/g03012/laws.FnExactDropField", spec := "fnExactDropField", apart := false, narrowed := true }
def FnExactDropFieldUptoSaid : Prop := fnExactDropFieldUptoRow.holds Try.pinned (OpenSpec.upto fnExactDropFieldSpec)

/-- 'laws.FnExactSecondsOf', WHERE WHAT IT READS IS OF BULK AT MOST 1048576: true; the input reads as it did. -/
def fnExactSecondsOfUptoRow : OpenClaim := { program := "ytijojcojpbfmlab", sum := "7ce839c26972093ccf2de293f208ff8d4e0b6fa76c9168b945e1142cb62a274c", func := "loop.example/g03012/laws.FnExactSecondsOf", spec := "fnExactSecondsOf", apart := false, narrowed := true }
def FnExactSecondsOfUptoSaid : Prop := fnExactSecondsOfUptoRow.holds Try.pinned (OpenSpec.upto fnExactSecondsOfSpec)

/-- 'laws.FnExactSetField', WHERE WHAT IT READS IS OF BULK AT MOST 1048576: true; the input reads as it did. -/
def fnExactSetFieldUptoRow : OpenClaim := { program := "ytijojcojpbfmlab", sum := "7ce839c26972093ccf2de293f208ff8d4e0b6fa76c9168b945e1142cb62a274c", func := "loop.example/g03012/laws.FnExactSetField", spec := "fnExactSetField", apart := false, narrowed := true }
def FnExactSetFieldUptoSaid : Prop := fnExactSetFieldUptoRow.holds Try.pinned (OpenSpec.upto fnExactSetFieldSpec)

/-- 'laws.FnExactResolveRanges', WHERE WHAT IT READS IS OF BULK AT MOST 1048576: true; the input reads as it did. -/
def fnExactResolveRangesUptoRow : OpenClaim := { program := "ytijojcojpbfmlab", sum := "7ce839c26972093ccf2de293f208ff8d4e0b6fa76c9168b945e1142cb62a274c", func := "loop.example/g03012/laws.FnExactResolveRanges", spec := "fnExactResolveRanges", apart := false, narrowed := true }
def FnExactResolveRangesUptoSaid : Prop := fnExactResolveRangesUptoRow.holds Try.pinned (OpenSpec.upto fnExactResolveRangesSpec)

/-- 'laws.FnExactMergeFields', WHERE WHAT IT READS IS OF BULK AT MOST 1048576: true; the input reads as it did. -/
def fnExactMergeFieldsUptoRow : OpenClaim := { program := "ytijojcojpbfmlab", sum := "7ce839c26972093ccf2de293f208ff8d4e0b6fa76c9168b945e1142cb62a274c", func := "loop.example/g03012/laws.FnExactMergeFields", spec := "fnExactMergeFields", unfollowed := true, recurses := true, apart := false, narrowed := true }
def FnExactMergeFieldsUptoSaid : Prop := fnExactMergeFieldsUptoRow.holds Try.pinned (OpenSpec.upto fnExactMergeFieldsSpec)

/-- 'laws.FnExactGetField', WHERE WHAT IT READS IS OF BULK AT MOST 1048576: true; the input reads as it did. -/
def fnExactGetFieldUptoRow : OpenClaim := { program := "ytijojcojpbfmlab", sum := "7ce839c26972093ccf2de293f208ff8d4e0b6fa76c9168b945e1142cb62a274c", func := "loop.example/g03012/laws.FnExactGetField", spec := "fnExactGetField", inPlace := ["internal/abi.NoEscape", "internal/bytealg.MakeNoZero"], apart := false, narrowed := true }
def FnExactGetFieldUptoSaid : Prop := fnExactGetFieldUptoRow.holds Try.pinned (OpenSpec.upto fnExactGetFieldSpec)

end Rows
end Go.Proofs.Ytijojcojpbfmlab
