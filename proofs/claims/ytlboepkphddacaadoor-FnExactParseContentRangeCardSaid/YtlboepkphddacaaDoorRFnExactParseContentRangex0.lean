/- What the Go functions that the law FnExactParseContentRange reaches answer: for each one a Lean function, and the proof that its call comes to what that function says. Conditions: those that each theorem states. Written by a program. -/
import Derived.Test.YtlboepkphddacaaDoorProg
import Derived.Below
import Derived.Deep.Draws
import Derived.Deep.AppendLies
import Derived.Maps.AppendAt
import Derived.OwnWalk
import Derived.Laws.BytesArg
import Derived.Laws.MakeOwn
import Derived.Laws.OwnMore
import Derived.Deep.OwnRows
import Derived.Tactics
import Derived.Lib.ConvBytes
import Derived.Laws.Slices
import Derived.WalkKit
import Derived.KernelRfl
import Derived.RowKit3
import Derived.Deep.LoopGhost
import Derived.Deep.QuietTactic
import Derived.BigQuiet
import Derived.WideLaws
import Derived.Deep.DeepCutAuto
import Derived.Deep.CutBlock
import Derived.Deep.RegionHeld3
import Derived.Laws.Rows
import Derived.Lib.AppendStr
import Derived.ArgAppend
import Derived.Laws.IdiomCopy
import Derived.OrdersHeld
import Derived.Laws.BitsLemmas
import Derived.RowKit
import Derived.Lib.ConvBytes
import Derived.Sort.Grow
import Derived.Test.YtlboepkphddacaaDoorShelf
import Derived.Test.YtlboepkphddacaaDoorWWords
import Derived.Test.YtlboepkphddacaaDoorWLast
import Derived.Test.YtlboepkphddacaaDoorWTab
import Derived.Test.YtlboepkphddacaaDoorWFour
import Derived.Test.YtlboepkphddacaaDoorWQPut
import Derived.Test.YtlboepkphddacaaDoorWApart
import Derived.Test.YtlboepkphddacaaDoorWArr
import Derived.Test.YtlboepkphddacaaDoorWZeros
import Derived.Test.YtlboepkphddacaaDoorWFoot
import Derived.Test.YtlboepkphddacaaDoorWKept
import Derived.Test.YtlboepkphddacaaDoorWShare
import Derived.Test.YtlboepkphddacaaDoorWN
import Derived.Test.YtlboepkphddacaaDoorWFootNe
import Derived.Test.YtlboepkphddacaaDoorWAt
import Derived.Test.YtlboepkphddacaaDoorWEqStruct
import Derived.Test.YtlboepkphddacaaDoorWRepsOne
import Derived.Test.YtlboepkphddacaaDoorWInv
import Derived.Test.YtlboepkphddacaaDoorWInvWords
import Derived.Test.YtlboepkphddacaaDoorWGuard
import Derived.Test.YtlboepkphddacaaDoorWNEv
import Derived.Test.YtlboepkphddacaaDoorWMore
namespace Go.Proofs.YtlboepkphddacaaDoor.RFnExactParseContentRange
open Go.RowKit Go.Proofs.YtlboepkphddacaaDoorW.PrintWords Go.Proofs.YtlboepkphddacaaDoorW.PrintLast Go.Proofs.YtlboepkphddacaaDoorW.PrintMore
attribute [local go_sem] max2_int min2_int max_two min_two max_three min_three max_four min_four   -- for this text's walks alone
set_option linter.unusedVariables false
set_option linter.unusedSimpArgs false



def errW : Option Int → Value
  | none => .nilIface
  | some c => .iface 0 (.int .i64 c)
theorem errW_none : errW none = .nilIface := rfl
theorem errW_some (c : Int) : errW (some c) = .iface 0 (.int .i64 c) := rfl

open Go.Proofs
theorem tab_below {P : Program} {w w' : World} {n : String} {k : IntKind} {zs : List Int} (h : Lib.TabIs P w n k zs) (hb : Below w.heap.size w w') : Lib.TabIs P w' n k zs := by
  unfold Lib.TabIs World.var? at h ⊢
  cases hg : P.globalNamed n with
  | none => rw [hg] at h; simp at h
  | some g =>
    rw [hg] at h
    simp only [Option.bind_some] at h ⊢
    have hlt : g < w.heap.size := by
      rcases Nat.lt_or_ge g w.heap.size with h' | h'
      · exact h'
      · rw [Array.getElem?_eq_none h'] at h; simp at h
    rw [hb.block g hlt]
    exact h
/-- What the package-level variables hold that the library's functions read. -/
structure Glob (w : World) : Prop where
  errsyn : ∃ te pe, w.cell? ⟨1, 0, none⟩ = some (.iface te pe)
  pow10 : Lib.TabIs Tryd.prog w "internal/strconv.uint64pow10" .u64 Lib.pow10Tab
  maxlen : ∃ m, w.cell? ⟨0, 0, none⟩ = some (.int .i64 m)
theorem Glob.below {w w' : World} (h : Glob w) (hb : Below w.heap.size w w') : Glob w' where
  errsyn := by obtain ⟨te, pe, hm⟩ := h.errsyn; exact ⟨te, pe, pw_cell_below hb hm⟩
  pow10 := tab_below h.pow10 hb
  maxlen := by obtain ⟨m, hm⟩ := h.maxlen; exact ⟨m, pw_cell_below hb hm⟩

theorem info5 : (Tryd.prog.info? 5).map (fun i => (i.zero, i.size, i.bytes)) = some (some (.int .u8 0), 1, 1) := by kernel_rfl
-- the values' own types

end Go.Proofs.YtlboepkphddacaaDoor.RFnExactParseContentRange
