/-
  No cell of these rows narrows 'for every input' (looked for: loops, veiled, ifaces, maps, wideKeys, modest, calm, conditions, laid).
  DERIVED. THE GIVEN ROWS OF THIS SEAT. 6 by the template 'for every input the law returns true; each argument reads behind the call as it read before'; 0 by the template 'total and deterministic' (their statements: YtpodilleenkciabTotals.lean).
  GIVEN WITH THE SEED: the statements are not yours to turn. If you find one false, say at which input.
  Laid BY PROGRAM, IN A SANDBOX (cutbox-rows.mjs): the forced cells as the released guide's own fill.sh prints them over the translation a00311a9b0112510… (all of the seat's roots in one cut). By AI agents, Wed Nov 11 2026. No macro, syntax, notation, axiom, sorry.
-/
import Derived.Test.YtpodilleenkciabChecked
import GoSem.Claim
import GoSem.ClaimJoined
import GoSem.ClaimMapViews
import Derived.JoinedTies
import Derived.KernelRfl
namespace Go.Proofs.Ytpodilleenkciab
/- THE CELL 'sum', in the pinned program and in every row, IS THE sha256 OF THE DUMP (.gsa) THAT YtpodilleenkciabProg.lean LOADS. Nothing in Lean hashes anything: it is a label: what it is worth is what the hold of that sum in a sandbox is worth. -/
noncomputable def Try.pinned : Pinned := { name := "ytpodilleenkciab", sum := "a00311a9b0112510f5ca1517687ade13d3c346d6ce98f464806a0d2f08e8da8f", checked := Try.checked }
namespace Rows
def none {H : Type} : Left H := { results := [], args := [] }

/-- 'laws.FnExactUnquoteText': WHATEVER THE INPUT: true; the input reads as it did. -/
def fnExactUnquoteTextSpec : ChangeSpec := { name := "fnExactUnquoteText", fn := fun _ => fun
  | [d] => { results := [.lit (.bool true)], args := [d] }
  | _ => none }
def fnExactUnquoteTextRow : OpenClaim := { program := "ytpodilleenkciab", sum := "a00311a9b0112510f5ca1517687ade13d3c346d6ce98f464806a0d2f08e8da8f", func := "loop.example/g03012/laws.FnExactUnquoteText", spec := "fnExactUnquoteText", apart := false }
def FnExactUnquoteTextSaid : Prop := fnExactUnquoteTextRow.holds Try.pinned (OpenSpec.ofChange fnExactUnquoteTextSpec)

/-- ITS FALSE NEIGHBOUR: 'it returns false'. Refute it at one input. -/
def fnExactUnquoteTextWrong : ChangeSpec := { name := "fnExactUnquoteText", fn := fun _ => fun
  | [d] => { results := [.lit (.bool false)], args := [d] }
  | _ => none }
def FnExactUnquoteTextWrongFalsely : Prop := fnExactUnquoteTextRow.holds Try.pinned (OpenSpec.ofChange fnExactUnquoteTextWrong)

/-- 'laws.FnExactIsToken': WHATEVER THE INPUT: true; the input reads as it did. -/
def fnExactIsTokenSpec : ChangeSpec := { name := "fnExactIsToken", fn := fun _ => fun
  | [d] => { results := [.lit (.bool true)], args := [d] }
  | _ => none }
def fnExactIsTokenRow : OpenClaim := { program := "ytpodilleenkciab", sum := "a00311a9b0112510f5ca1517687ade13d3c346d6ce98f464806a0d2f08e8da8f", func := "loop.example/g03012/laws.FnExactIsToken", spec := "fnExactIsToken", inPlace := ["internal/bytealg.IndexByteString"], apart := false }
def FnExactIsTokenSaid : Prop := fnExactIsTokenRow.holds Try.pinned (OpenSpec.ofChange fnExactIsTokenSpec)

/-- ITS FALSE NEIGHBOUR: 'it returns false'. Refute it at one input. -/
def fnExactIsTokenWrong : ChangeSpec := { name := "fnExactIsToken", fn := fun _ => fun
  | [d] => { results := [.lit (.bool false)], args := [d] }
  | _ => none }
def FnExactIsTokenWrongFalsely : Prop := fnExactIsTokenRow.holds Try.pinned (OpenSpec.ofChange fnExactIsTokenWrong)

/-- 'laws.FnExactHashText': WHATEVER THE INPUT: true; the input reads as it did. -/
def fnExactHashTextSpec : ChangeSpec := { name := "fnExactHashText", fn := fun _ => fun
  | [d1, d2] => { results := [.lit (.bool true)], args := [d1, d2] }
  | _ => none }
def fnExactHashTextRow : OpenClaim := { program := "ytpodilleenkciab", sum := "a00311a9b0112510f5ca1517687ade13d3c346d6ce98f464806a0d2f08e8da8f", func := "loop.example/g03012/laws.FnExactHashText", spec := "fnExactHashText", apart := false }
def FnExactHashTextSaid : Prop := fnExactHashTextRow.holds Try.pinned (OpenSpec.ofChange fnExactHashTextSpec)

/-- ITS FALSE NEIGHBOUR: 'it returns false'. Refute it at one input. -/
def fnExactHashTextWrong : ChangeSpec := { name := "fnExactHashText", fn := fun _ => fun
  | [d1, d2] => { results := [.lit (.bool false)], args := [d1, d2] }
  | _ => none }
def FnExactHashTextWrongFalsely : Prop := fnExactHashTextRow.holds Try.pinned (OpenSpec.ofChange fnExactHashTextWrong)

/-- 'laws.FnExactHash': WHATEVER THE INPUT: true; the input reads as it did. -/
def fnExactHashSpec : ChangeSpec := { name := "fnExactHash", fn := fun _ => fun
  | [d] => { results := [.lit (.bool true)], args := [d] }
  | _ => none }
def fnExactHashRow : OpenClaim := { program := "ytpodilleenkciab", sum := "a00311a9b0112510f5ca1517687ade13d3c346d6ce98f464806a0d2f08e8da8f", func := "loop.example/g03012/laws.FnExactHash", spec := "fnExactHash", apart := false }
def FnExactHashSaid : Prop := fnExactHashRow.holds Try.pinned (OpenSpec.ofChange fnExactHashSpec)

/-- ITS FALSE NEIGHBOUR: 'it returns false'. Refute it at one input. -/
def fnExactHashWrong : ChangeSpec := { name := "fnExactHash", fn := fun _ => fun
  | [d] => { results := [.lit (.bool false)], args := [d] }
  | _ => none }
def FnExactHashWrongFalsely : Prop := fnExactHashRow.holds Try.pinned (OpenSpec.ofChange fnExactHashWrong)

/-- 'laws.FnExactFormatTag': WHATEVER THE INPUT: true; the input reads as it did. -/
def fnExactFormatTagSpec : ChangeSpec := { name := "fnExactFormatTag", fn := fun _ => fun
  | [d] => { results := [.lit (.bool true)], args := [d] }
  | _ => none }
def fnExactFormatTagRow : OpenClaim := { program := "ytpodilleenkciab", sum := "a00311a9b0112510f5ca1517687ade13d3c346d6ce98f464806a0d2f08e8da8f", func := "loop.example/g03012/laws.FnExactFormatTag", spec := "fnExactFormatTag", apart := false }
def FnExactFormatTagSaid : Prop := fnExactFormatTagRow.holds Try.pinned (OpenSpec.ofChange fnExactFormatTagSpec)

/-- ITS FALSE NEIGHBOUR: 'it returns false'. Refute it at one input. -/
def fnExactFormatTagWrong : ChangeSpec := { name := "fnExactFormatTag", fn := fun _ => fun
  | [d] => { results := [.lit (.bool false)], args := [d] }
  | _ => none }
def FnExactFormatTagWrongFalsely : Prop := fnExactFormatTagRow.holds Try.pinned (OpenSpec.ofChange fnExactFormatTagWrong)

/-- 'laws.FnExactSpanSize': WHATEVER THE INPUT: true; the input reads as it did. -/
def fnExactSpanSizeSpec : ChangeSpec := { name := "fnExactSpanSize", fn := fun _ => fun
  | [d] => { results := [.lit (.bool true)], args := [d] }
  | _ => none }
def fnExactSpanSizeRow : OpenClaim := { program := "ytpodilleenkciab", sum := "a00311a9b0112510f5ca1517687ade13d3c346d6ce98f464806a0d2f08e8da8f", func := "loop.example/g03012/laws.FnExactSpanSize", spec := "fnExactSpanSize", apart := false }
def FnExactSpanSizeSaid : Prop := fnExactSpanSizeRow.holds Try.pinned (OpenSpec.ofChange fnExactSpanSizeSpec)

/-- ITS FALSE NEIGHBOUR: 'it returns false'. Refute it at one input. -/
def fnExactSpanSizeWrong : ChangeSpec := { name := "fnExactSpanSize", fn := fun _ => fun
  | [d] => { results := [.lit (.bool false)], args := [d] }
  | _ => none }
def FnExactSpanSizeWrongFalsely : Prop := fnExactSpanSizeRow.holds Try.pinned (OpenSpec.ofChange fnExactSpanSizeWrong)

/- THE SECOND FORM. 'bulk': how many values and letters a reading holds, each counted each time it is reached (what is shared counts as often as it is met; a slice's spare places count too). A statement '..UptoSaid' is the law's where the arguments, and the package variables that the reading takes, are together of bulk at most 1048576: NARROWER than '..Said'. Prove '..Said' where nothing that the law and all that it calls make is longer than what came in: it says more and counts as full. Else prove '..UptoSaid'. A law counts once. -/
mutual
def uptoBulk {H : Type} : DataW H → Nat
  | .lit (.string bytes) => bytes.length + 1
  | .lit _ => 1
  | .nil => 1
  | .ptr d => uptoBulk d + 1
  | .slice elems spare => uptoBulkAll elems + uptoBulkAll spare + 1
  | .agg parts => uptoBulkAll parts + 1
  | .iface _ d => uptoBulk d + 1
  | .map entries => uptoBulkEntries entries + 1
  | .held _ => 1
def uptoBulkAll {H : Type} : List (DataW H) → Nat
  | [] => 0
  | d :: r => uptoBulk d + uptoBulkAll r
def uptoBulkEntries {H : Type} : List (Lit × DataW H) → Nat
  | [] => 0
  | x :: r => uptoBulkEntry x + uptoBulkEntries r
def uptoBulkEntry {H : Type} : Lit × DataW H → Nat
  | (.string bytes, d) => bytes.length + uptoBulk d + 1
  | (_, d) => uptoBulk d + 1
 end
def uptoSmall : (H : Type) → List (DataW H) → Bool := fun _ ds => decide (uptoBulkAll ds ≤ 1048576)
def OpenSpec.upto (s : _root_.Go.ChangeSpec) : _root_.Go.OpenSpec := { _root_.Go.OpenSpec.ofChange s with cond := some uptoSmall }

/-- 'laws.FnExactUnquoteText', WHERE WHAT IT READS IS OF BULK AT MOST 1048576: true; the input reads as it did. -/
def fnExactUnquoteTextUptoRow : OpenClaim := { program := "ytpodilleenkciab", sum := "a00311a9b0112510f5ca1517687ade13d3c346d6ce98f464806a0d2f08e8da8f", func := "loop.example/g03012/laws.FnExactUnquoteText", spec := "fnExactUnquoteText", apart := false, narrowed := true }
def FnExactUnquoteTextUptoSaid : Prop := fnExactUnquoteTextUptoRow.holds Try.pinned (OpenSpec.upto fnExactUnquoteTextSpec)

/-- 'laws.FnExactIsToken', WHERE WHAT IT READS IS OF BULK AT MOST 1048576: true; the input reads as it did. -/
def fnExactIsTokenUptoRow : OpenClaim := { program := "ytpodilleenkciab", sum := "a00311a9b0112510f5ca1517687ade13d3c346d6ce98f464806a0d2f08e8da8f", func := "loop.example/g03012/laws.FnExactIsToken", spec := "fnExactIsToken", inPlace := ["internal/bytealg.IndexByteString"], apart := false, narrowed := true }
def FnExactIsTokenUptoSaid : Prop := fnExactIsTokenUptoRow.holds Try.pinned (OpenSpec.upto fnExactIsTokenSpec)

/-- 'laws.FnExactHashText', WHERE WHAT IT READS IS OF BULK AT MOST 1048576: true; the input reads as it did. -/
def fnExactHashTextUptoRow : OpenClaim := { program := "ytpodilleenkciab", sum := "a00311a9b0112510f5ca1517687ade13d3c346d6ce98f464806a0d2f08e8da8f", func := "loop.example/g03012/laws.FnExactHashText", spec := "fnExactHashText", apart := false, narrowed := true }
def FnExactHashTextUptoSaid : Prop := fnExactHashTextUptoRow.holds Try.pinned (OpenSpec.upto fnExactHashTextSpec)

/-- 'laws.FnExactHash', WHERE WHAT IT READS IS OF BULK AT MOST 1048576: true; the input reads as it did. -/
def fnExactHashUptoRow : OpenClaim := { program := "ytpodilleenkciab", sum := "a00311a9b0112510f5ca1517687ade13d3c346d6ce98f464806a0d2f08e8da8f", func := "loop.example/g03012/laws.FnExactHash", spec := "fnExactHash", apart := false, narrowed := true }
def FnExactHashUptoSaid : Prop := fnExactHashUptoRow.holds Try.pinned (OpenSpec.upto fnExactHashSpec)

/-- 'laws.FnExactFormatTag', WHERE WHAT IT READS IS OF BULK AT MOST 1048576: true; the input reads as it did. -/
def fnExactFormatTagUptoRow : OpenClaim := { program := "ytpodilleenkciab", sum := "a00311a9b0112510f5ca1517687ade13d3c346d6ce98f464806a0d2f08e8da8f", func := "loop.example/g03012/laws.FnExactFormatTag", spec := "fnExactFormatTag", apart := false, narrowed := true }
def FnExactFormatTagUptoSaid : Prop := fnExactFormatTagUptoRow.holds Try.pinned (OpenSpec.upto fnExactFormatTagSpec)

/-- 'laws.FnExactSpanSize', WHERE WHAT IT READS IS OF BULK AT MOST 1048576: true; the input reads as it did. -/
def fnExactSpanSizeUptoRow : OpenClaim := { program := "ytpodilleenkciab", sum := "a00311a9b0112510f5ca1517687ade13d3c346d6ce98f464806a0d2f08e8da8f", func := "loop.example/g03012/laws.FnExactSpanSize", spec := "fnExactSpanSize", apart := false, narrowed := true }
def FnExactSpanSizeUptoSaid : Prop := fnExactSpanSizeUptoRow.holds Try.pinned (OpenSpec.upto fnExactSpanSizeSpec)

end Rows
end Go.Proofs.Ytpodilleenkciab
