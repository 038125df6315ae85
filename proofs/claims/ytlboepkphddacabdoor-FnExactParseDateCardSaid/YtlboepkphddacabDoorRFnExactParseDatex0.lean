/- What the Go functions that the law FnExactParseDate reaches answer: for each one a Lean function, and the proof that its call comes to what that function says. Conditions: those that each theorem states. Written by a program. -/
import Derived.Test.YtlboepkphddacabDoorProg
import Derived.Below
import Derived.Deep.Draws
import Derived.Deep.AppendLies
import Derived.Maps.AppendAt
import Derived.OwnWalk
import Derived.Laws.BytesArg
import Derived.Laws.MakeOwn
import Derived.Laws.OwnMore
import Derived.Deep.OwnRows
import Derived.Tactics
import Derived.Lib.ConvBytes
import Derived.Laws.Slices
import Derived.WalkKit
import Derived.KernelRfl
import Derived.RowKit3
import Derived.Deep.LoopGhost
import Derived.Deep.QuietTactic
import Derived.BigQuiet
import Derived.WideLaws
import Derived.Deep.DeepCutAuto
import Derived.Deep.CutBlock
import Derived.Deep.RegionHeld3
import Derived.Laws.Rows
import Derived.Lib.AppendStr
import Derived.ArgAppend
import Derived.Laws.IdiomCopy
import Derived.OrdersHeld
import Derived.Laws.BitsLemmas
import Derived.RowKit
import Derived.Lib.ConvBytes
import Derived.Shelf.Strings.SlTrimAscii
import Derived.KernelRfl
import Derived.Sort.Grow
import Derived.Test.YtlboepkphddacabDoorShelf
import Derived.Test.YtlboepkphddacabDoorWWords
import Derived.Test.YtlboepkphddacabDoorWLast
import Derived.Test.YtlboepkphddacabDoorWTab
import Derived.Test.YtlboepkphddacabDoorWFour
import Derived.Test.YtlboepkphddacabDoorWQPut
import Derived.Test.YtlboepkphddacabDoorWApart
import Derived.Test.YtlboepkphddacabDoorWArr
import Derived.Test.YtlboepkphddacabDoorWZeros
import Derived.Test.YtlboepkphddacabDoorWFoot
import Derived.Test.YtlboepkphddacabDoorWKept
import Derived.Test.YtlboepkphddacabDoorWShare
import Derived.Test.YtlboepkphddacabDoorWN
import Derived.Test.YtlboepkphddacabDoorWFootNe
import Derived.Test.YtlboepkphddacabDoorWAt
import Derived.Test.YtlboepkphddacabDoorWEqStruct
import Derived.Test.YtlboepkphddacabDoorWRepsOne
import Derived.Test.YtlboepkphddacabDoorWInv
import Derived.Test.YtlboepkphddacabDoorWInvWords
import Derived.Test.YtlboepkphddacabDoorWGuard
import Derived.Test.YtlboepkphddacabDoorWNEv
import Derived.Test.YtlboepkphddacabDoorWMore
namespace Go.Proofs.YtlboepkphddacabDoor.RFnExactParseDate
open Go.RowKit Go.Proofs.YtlboepkphddacabDoorW.PrintWords Go.Proofs.YtlboepkphddacabDoorW.PrintLast Go.Proofs.YtlboepkphddacabDoorW.PrintMore
attribute [local go_sem] max2_int min2_int max_two min_two max_three min_three max_four min_four   -- for this text's walks alone
set_option linter.unusedVariables false
set_option linter.unusedSimpArgs false



def errW : Option Int → Value
  | none => .nilIface
  | some c => .iface 0 (.int .i64 c)
theorem errW_none : errW none = .nilIface := rfl
theorem errW_some (c : Int) : errW (some c) = .iface 0 (.int .i64 c) := rfl

open Go.Proofs
theorem tab_below {P : Program} {w w' : World} {n : String} {k : IntKind} {zs : List Int} (h : Lib.TabIs P w n k zs) (hb : Below w.heap.size w w') : Lib.TabIs P w' n k zs := by
  unfold Lib.TabIs World.var? at h ⊢
  cases hg : P.globalNamed n with
  | none => rw [hg] at h; simp at h
  | some g =>
    rw [hg] at h
    simp only [Option.bind_some] at h ⊢
    have hlt : g < w.heap.size := by
      rcases Nat.lt_or_ge g w.heap.size with h' | h'
      · exact h'
      · rw [Array.getElem?_eq_none h'] at h; simp at h
    rw [hb.block g hlt]
    exact h
/-- What the package-level variables hold that the library's functions read. -/
structure Glob (w : World) : Prop where
  maxlen : ∃ m, w.cell? ⟨0, 0, none⟩ = some (.int .i64 m)
  errsyn : ∃ te pe, w.cell? ⟨3, 0, none⟩ = some (.iface te pe)
  pow10 : Lib.TabIs Tryd.prog w "internal/strconv.uint64pow10" .u64 Lib.pow10Tab
theorem Glob.below {w w' : World} (h : Glob w) (hb : Below w.heap.size w w') : Glob w' where
  maxlen := by obtain ⟨m, hm⟩ := h.maxlen; exact ⟨m, pw_cell_below hb hm⟩
  errsyn := by obtain ⟨te, pe, hm⟩ := h.errsyn; exact ⟨te, pe, pw_cell_below hb hm⟩
  pow10 := tab_below h.pow10 hb

theorem info3 : (Tryd.prog.info? 3).map (fun i => (i.zero, i.size, i.bytes)) = some (some (.int .i64 0), 1, 8) := by kernel_rfl
theorem info5 : (Tryd.prog.info? 5).map (fun i => (i.zero, i.size, i.bytes)) = some (some (.int .u8 0), 1, 1) := by kernel_rfl
theorem info9 : (Tryd.prog.info? 9).map (fun i => (i.zero, i.size, i.bytes)) = some (some (.string ⟨#[]⟩), 1, 16) := by kernel_rfl
-- the values' own types

end Go.Proofs.YtlboepkphddacabDoor.RFnExactParseDate
