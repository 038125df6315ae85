/- What the Go functions that the law FnDates reaches answer: for each one a Lean function, and the proof that its call comes to what that function says. Conditions: those that each theorem states. Written by a program. -/
import Derived.Test.YtlboepkphddacabDoorProg
import Derived.Below
import Derived.Deep.Draws
import Derived.Deep.AppendLies
import Derived.Maps.AppendAt
import Derived.OwnWalk
import Derived.Laws.BytesArg
import Derived.Laws.MakeOwn
import Derived.Laws.OwnMore
import Derived.Deep.OwnRows
import Derived.Tactics
import Derived.Lib.ConvBytes
import Derived.Laws.Slices
import Derived.WalkKit
import Derived.KernelRfl
import Derived.RowKit3
import Derived.Deep.LoopGhost
import Derived.Deep.QuietTactic
import Derived.BigQuiet
import Derived.WideLaws
import Derived.Deep.DeepCutAuto
import Derived.Deep.CutBlock
import Derived.Deep.RegionHeld3
import Derived.Laws.Rows
import Derived.Lib.AppendStr
import Derived.ArgAppend
import Derived.Laws.IdiomCopy
import Derived.OrdersHeld
import Derived.Laws.BitsLemmas
import Derived.RowKit
import Derived.Lib.ConvBytes
import Derived.Shelf.Strings.SlTrimAscii
import Derived.KernelRfl
import Derived.Sort.Grow
import Derived.ArgAppend
import Derived.Test.YtlboepkphddacabDoorShelf
import Derived.Test.YtlboepkphddacabDoorWWords
import Derived.Test.YtlboepkphddacabDoorWLast
import Derived.Test.YtlboepkphddacabDoorWTab
import Derived.Test.YtlboepkphddacabDoorWEqStruct
import Derived.Test.YtlboepkphddacabDoorWRepsOne
import Derived.Test.YtlboepkphddacabDoorWGuard
import Derived.Test.YtlboepkphddacabDoorWMini
namespace Go.Proofs.YtlboepkphddacabDoor.RFnDates
open Go.RowKit Go.Proofs.YtlboepkphddacabDoorW.PrintWords Go.Proofs.YtlboepkphddacabDoorW.PrintLast Go.Proofs.YtlboepkphddacabDoorW.PrintMore
attribute [local go_sem] max2_int min2_int max_two min_two max_three min_three max_four min_four   -- for this text's walks alone
set_option linter.unusedVariables false
set_option linter.unusedSimpArgs false



def errW : Option Int → Value
  | none => .nilIface
  | some c => .iface 0 (.int .i64 c)
theorem errW_none : errW none = .nilIface := rfl
theorem errW_some (c : Int) : errW (some c) = .iface 0 (.int .i64 c) := rfl

/-- A row out of a conversion: the bytes xs, then others; the mark lies behind its cells. -/
def MRow (w : World) (B e : Nat) (xs : List Int) : Prop := ∃ rest : List Value, w.heap[B]? = some (.cells (nums .u8 xs ++ rest).toArray e ((nums .u8 xs ++ rest).length, (nums .u8 xs ++ rest).length + 1))
theorem MRow.of_bytes (W : World) (e : Nat) (s : ByteArray) : MRow (Lib.bytesWorld W e s) W.heap.size e (bytesOf s) := by
  refine ⟨List.replicate (grownCap W s.size 0 e - s.size) (.int .u8 0), ?_⟩
  have h : Lib.bytesCells W e s = (nums .u8 (bytesOf s) ++ List.replicate (grownCap W s.size 0 e - s.size) (Value.int .u8 0)).toArray := by
    unfold Lib.bytesCells nums bytesOf
    apply Array.ext'
    simp
  rw [Lib.bytesWorld_at_new, h]
  simp
theorem MRow.at {w : World} {B e : Nat} {xs : List Int} (h : MRow w B e xs) (i : Int) (h0 : 0 ≤ i) (h1 : i < xs.length) : w.cell? ⟨B, i.toNat, none⟩ = some (.int .u8 (rd xs i)) ∧ w.frozen? ⟨B, i.toNat, none⟩ = false := by
  obtain ⟨rest, hh⟩ := h
  have hi : i.toNat < xs.length := by omega
  constructor
  · unfold World.cell?
    rw [hh]
    simp only [Option.isSome_none, Bool.false_eq_true, if_false]
    rw [List.getElem?_toArray, List.getElem?_append_left (by rw [nums_length]; exact hi)]
    unfold nums rd
    rw [List.getElem?_map, List.getElem?_eq_getElem hi, List.getD_eq_getElem?_getD, List.getElem?_eq_getElem hi]
    rfl
  · unfold World.frozen?
    rw [hh]
    simp only [List.length_append, nums_length]
    have : ¬ xs.length + rest.length ≤ i.toNat := by omega
    simp [this]
theorem MRow.set {w : World} {B e : Nat} {xs : List Int} (h : MRow w B e xs) (i : Int) (h1 : i.toNat < xs.length) (x : Int) : MRow (w.setCell ⟨B, i.toNat, none⟩ (.int .u8 x)) B e (xs.set i.toNat x) := by
  obtain ⟨rest, hh⟩ := h
  refine ⟨rest, ?_⟩
  have e1 : nums .u8 (xs.set i.toNat x) ++ rest = (nums .u8 xs ++ rest).set i.toNat (.int .u8 x) := by
    rw [List.set_append_left _ _ (by rw [nums_length]; exact h1)]
    unfold nums
    rw [List.map_set]
  rw [e1, List.length_set]
  unfold World.setCell
  simp only [Array.getElem?_modify, if_true, hh, Option.map_some, Option.isSome_none, Bool.false_eq_true, if_false]
  congr 2
  exact List.setIfInBounds_toArray _ _ _
theorem mrow_below {w0 w : World} {B b : Nat} (h : Below b w0 w) (hB : b ≤ B) (i : Nat) (v : Value) : Below b w0 (w.setCell ⟨B, i, none⟩ v) :=
  ⟨h.os, h.tape, h.output, by have := h.size; simpa [World.setCell] using this, fun k hk => by
    rw [← h.block k hk]
    simp only [World.setCell, Array.getElem?_modify]
    rw [if_neg (by omega)]⟩
theorem MRow.back {P : Program} {w : World} {B e src dst cap n : Nat} {xs : List Int} (hs : P.underlying src = some (.slice e)) (he : P.underlying e = some (.int .u8)) (hd : P.underlying dst = some .string) (h : MRow w B e xs) (hn : xs.length = n) (nq : Nat) :
    (convert src dst (.slice (some ⟨B, 0, none⟩) n cap)).run P (w.drewN nq) = .ok (.string (strOfNums xs)) (w.drewN nq) := by
  refine run_convert_bytes_arg (w.drewN nq) src e hs he B 0 n cap xs hn (fun i hi => ?_) dst hd
  have := (h.at (i : Int) (by omega) (by omega)).1
  have e1 : rd xs (i : Int) = xs.getD i 0 := by simp [rd]
  rw [e1] at this
  simpa using this
def MRowC (w : World) (B e : Nat) (xs : List Int) (cap : Nat) : Prop := ∃ rest : List Value, xs.length + rest.length = cap ∧ w.heap[B]? = some (.cells (nums .u8 xs ++ rest).toArray e ((nums .u8 xs ++ rest).length, (nums .u8 xs ++ rest).length + 1))
theorem MRowC.row {w : World} {B e : Nat} {xs : List Int} {cap : Nat} (h : MRowC w B e xs cap) : MRow w B e xs := by
  obtain ⟨rest, _, hh⟩ := h
  exact ⟨rest, hh⟩
theorem MRowC.of_bytes (W : World) (e : Nat) (s : ByteArray) : MRowC (Lib.bytesWorld W e s) W.heap.size e (bytesOf s) (grownCap W s.size 0 e) := by
  have hge := grownCap_ge W s.size 0 e
  refine ⟨List.replicate (grownCap W s.size 0 e - s.size) (.int .u8 0), by rw [List.length_replicate, bytesOf_length]; omega, ?_⟩
  have h : Lib.bytesCells W e s = (nums .u8 (bytesOf s) ++ List.replicate (grownCap W s.size 0 e - s.size) (Value.int .u8 0)).toArray := by
    unfold Lib.bytesCells nums bytesOf
    apply Array.ext'
    simp
  rw [Lib.bytesWorld_at_new, h]
  simp
theorem MRowC.keep {w w' : World} {B e g : Nat} {xs : List Int} {cap : Nat} (h : MRowC w B e xs cap) (hk : KeepBut w w' g none) (hne : B ≠ g) : MRowC w' B e xs cap := by
  obtain ⟨rest, hc, hh⟩ := h
  exact ⟨rest, hc, (hk.2 B (blk_lt hh) hne (by simp)).trans hh⟩
theorem MRowC.lt {w : World} {B e : Nat} {xs : List Int} {cap : Nat} (h : MRowC w B e xs cap) : B < w.heap.size := by
  obtain ⟨rest, _, hh⟩ := h
  exact blk_lt hh
theorem MRowC.below {w w' : World} {B e : Nat} {xs : List Int} {cap : Nat} (h : MRowC w B e xs cap) (hb : Below w.heap.size w w') : MRowC w' B e xs cap := by
  obtain ⟨rest, hc, hh⟩ := h
  exact ⟨rest, hc, (hb.block B (blk_lt hh)).trans hh⟩
theorem MRow.lt {w : World} {B e : Nat} {xs : List Int} (h : MRow w B e xs) : B < w.heap.size := by
  obtain ⟨rest, hh⟩ := h
  exact blk_lt hh
theorem MRow.backT {P : Program} {w : World} {B e src dst cap n : Nat} {xs : List Int} (hs : P.underlying src = some (.slice e)) (he : P.underlying e = some (.int .u8)) (hd : P.underlying dst = some .string) (h : MRow w B e xs) (hn : n ≤ xs.length) (nq : Nat) :
    (convert src dst (.slice (some ⟨B, 0, none⟩) n cap)).run P (w.drewN nq) = .ok (.string (strOfNums (xs.take n))) (w.drewN nq) := by
  have hl : (xs.take n).length = n := by rw [List.length_take]; omega
  refine run_convert_bytes_arg (w.drewN nq) src e hs he B 0 n cap (xs.take n) hl (fun i hi => ?_) dst hd
  have h1 := (h.at (i : Int) (by omega) (by omega)).1
  have e1 : rd xs (i : Int) = (xs.take n).getD i 0 := by
    unfold rd
    rw [List.getD_eq_getElem?_getD, List.getD_eq_getElem?_getD, List.getElem?_take, if_pos hi, Int.toNat_natCast]
  rw [e1] at h1
  simpa using h1
def lowB (x : Int) : Int := if 65 ≤ x ∧ x ≤ 90 then x + 32 else x
theorem lowB_of (a0 : ByteArray) {b : Int} (h : b ∈ bytesOf a0) : 0 ≤ b ∧ b ≤ 255 := by
  unfold bytesOf at h
  obtain ⟨u, _, rfl⟩ := List.mem_map.1 h
  have := u.toNat_lt
  omega
open Go.Proofs
theorem tab_below {P : Program} {w w' : World} {n : String} {k : IntKind} {zs : List Int} (h : Lib.TabIs P w n k zs) (hb : Below w.heap.size w w') : Lib.TabIs P w' n k zs := by
  unfold Lib.TabIs World.var? at h ⊢
  cases hg : P.globalNamed n with
  | none => rw [hg] at h; simp at h
  | some g =>
    rw [hg] at h
    simp only [Option.bind_some] at h ⊢
    have hlt : g < w.heap.size := by
      rcases Nat.lt_or_ge g w.heap.size with h' | h'
      · exact h'
      · rw [Array.getElem?_eq_none h'] at h; simp at h
    rw [hb.block g hlt]
    exact h
/-- What the package-level variables hold that the library's functions read. -/
structure Glob (w : World) : Prop where
  maxlen : ∃ m, w.cell? ⟨0, 0, none⟩ = some (.int .i64 m)
  errsyn : ∃ te pe, w.cell? ⟨3, 0, none⟩ = some (.iface te pe)
  pow10 : Lib.TabIs Tryd.prog w "internal/strconv.uint64pow10" .u64 Lib.pow10Tab
theorem Glob.below {w w' : World} (h : Glob w) (hb : Below w.heap.size w w') : Glob w' where
  maxlen := by obtain ⟨m, hm⟩ := h.maxlen; exact ⟨m, pw_cell_below hb hm⟩
  errsyn := by obtain ⟨te, pe, hm⟩ := h.errsyn; exact ⟨te, pe, pw_cell_below hb hm⟩
  pow10 := tab_below h.pow10 hb

theorem info3 : (Tryd.prog.info? 3).map (fun i => (i.zero, i.size, i.bytes)) = some (some (.int .i64 0), 1, 8) := by kernel_rfl
theorem info5 : (Tryd.prog.info? 5).map (fun i => (i.zero, i.size, i.bytes)) = some (some (.int .u8 0), 1, 1) := by kernel_rfl
theorem info9 : (Tryd.prog.info? 9).map (fun i => (i.zero, i.size, i.bytes)) = some (some (.string ⟨#[]⟩), 1, 16) := by kernel_rfl
-- the values' own types

end Go.Proofs.YtlboepkphddacabDoor.RFnDates
