/- What the Go functions that the law FnFields reaches answer: for each one a Lean function, and the proof that its call comes to what that function says. Conditions: those that each theorem states. Written by a program. -/
import Derived.Test.YtlboepkphddacaaDoorProg
import Derived.Below
import Derived.Deep.Draws
import Derived.Deep.AppendLies
import Derived.Maps.AppendAt
import Derived.OwnWalk
import Derived.Laws.BytesArg
import Derived.Laws.MakeOwn
import Derived.Laws.OwnMore
import Derived.Deep.OwnRows
import Derived.Tactics
import Derived.Lib.ConvBytes
import Derived.Laws.Slices
import Derived.WalkKit
import Derived.KernelRfl
import Derived.RowKit3
import Derived.Deep.LoopGhost
import Derived.Deep.QuietTactic
import Derived.BigQuiet
import Derived.WideLaws
import Derived.Deep.DeepCutAuto
import Derived.Deep.CutBlock
import Derived.Deep.RegionHeld3
import Derived.Laws.Rows
import Derived.Lib.AppendStr
import Derived.ArgAppend
import Derived.Laws.IdiomCopy
import Derived.OrdersHeld
import Derived.Laws.BitsLemmas
import Derived.RowKit
import Derived.Shelf.Strings.SlTrimAscii
import Derived.KernelRfl
import Derived.Shelf.SlicesQ.IndexFunc
import Derived.Test.YtlboepkphddacaaDoorShelf
import Derived.Test.YtlboepkphddacaaDoorWWords
import Derived.Test.YtlboepkphddacaaDoorWLast
import Derived.Test.YtlboepkphddacaaDoorWTab
import Derived.Test.YtlboepkphddacaaDoorWFour
import Derived.Test.YtlboepkphddacaaDoorWQPut
import Derived.Test.YtlboepkphddacaaDoorWApart
import Derived.Test.YtlboepkphddacaaDoorWArr
import Derived.Test.YtlboepkphddacaaDoorWZeros
import Derived.Test.YtlboepkphddacaaDoorWFoot
import Derived.Test.YtlboepkphddacaaDoorWKept
import Derived.Test.YtlboepkphddacaaDoorWShare
import Derived.Test.YtlboepkphddacaaDoorWN
import Derived.Test.YtlboepkphddacaaDoorWFootNe
import Derived.Test.YtlboepkphddacaaDoorWAt
import Derived.Test.YtlboepkphddacaaDoorWEqStruct
import Derived.Test.YtlboepkphddacaaDoorWRepsOne
import Derived.Test.YtlboepkphddacaaDoorWInv
import Derived.Test.YtlboepkphddacaaDoorWInvWords
import Derived.Test.YtlboepkphddacaaDoorWGuard
import Derived.Test.YtlboepkphddacaaDoorWNEv
import Derived.Test.YtlboepkphddacaaDoorWMore
namespace Go.Proofs.YtlboepkphddacaaDoor.RFnFields
open Go.RowKit Go.Proofs.YtlboepkphddacaaDoorW.PrintWords Go.Proofs.YtlboepkphddacaaDoorW.PrintLast Go.Proofs.YtlboepkphddacaaDoorW.PrintMore
attribute [local go_sem] max2_int min2_int max_two min_two max_three min_three max_four min_four   -- for this text's walks alone
set_option linter.unusedVariables false
set_option linter.unusedSimpArgs false



def errW : Option Int → Value
  | none => .nilIface
  | some c => .iface 0 (.int .i64 c)
theorem errW_none : errW none = .nilIface := rfl
theorem errW_some (c : Int) : errW (some c) = .iface 0 (.int .i64 c) := rfl

/-- A row out of a conversion: the bytes xs, then others; the mark lies behind its cells. -/
def MRow (w : World) (B e : Nat) (xs : List Int) : Prop := ∃ rest : List Value, w.heap[B]? = some (.cells (nums .u8 xs ++ rest).toArray e ((nums .u8 xs ++ rest).length, (nums .u8 xs ++ rest).length + 1))
theorem MRow.of_bytes (W : World) (e : Nat) (s : ByteArray) : MRow (Lib.bytesWorld W e s) W.heap.size e (bytesOf s) := by
  refine ⟨List.replicate (grownCap W s.size 0 e - s.size) (.int .u8 0), ?_⟩
  have h : Lib.bytesCells W e s = (nums .u8 (bytesOf s) ++ List.replicate (grownCap W s.size 0 e - s.size) (Value.int .u8 0)).toArray := by
    unfold Lib.bytesCells nums bytesOf
    apply Array.ext'
    simp
  rw [Lib.bytesWorld_at_new, h]
  simp
theorem MRow.at {w : World} {B e : Nat} {xs : List Int} (h : MRow w B e xs) (i : Int) (h0 : 0 ≤ i) (h1 : i < xs.length) : w.cell? ⟨B, i.toNat, none⟩ = some (.int .u8 (rd xs i)) ∧ w.frozen? ⟨B, i.toNat, none⟩ = false := by
  obtain ⟨rest, hh⟩ := h
  have hi : i.toNat < xs.length := by omega
  constructor
  · unfold World.cell?
    rw [hh]
    simp only [Option.isSome_none, Bool.false_eq_true, if_false]
    rw [List.getElem?_toArray, List.getElem?_append_left (by rw [nums_length]; exact hi)]
    unfold nums rd
    rw [List.getElem?_map, List.getElem?_eq_getElem hi, List.getD_eq_getElem?_getD, List.getElem?_eq_getElem hi]
    rfl
  · unfold World.frozen?
    rw [hh]
    simp only [List.length_append, nums_length]
    have : ¬ xs.length + rest.length ≤ i.toNat := by omega
    simp [this]
theorem MRow.set {w : World} {B e : Nat} {xs : List Int} (h : MRow w B e xs) (i : Int) (h1 : i.toNat < xs.length) (x : Int) : MRow (w.setCell ⟨B, i.toNat, none⟩ (.int .u8 x)) B e (xs.set i.toNat x) := by
  obtain ⟨rest, hh⟩ := h
  refine ⟨rest, ?_⟩
  have e1 : nums .u8 (xs.set i.toNat x) ++ rest = (nums .u8 xs ++ rest).set i.toNat (.int .u8 x) := by
    rw [List.set_append_left _ _ (by rw [nums_length]; exact h1)]
    unfold nums
    rw [List.map_set]
  rw [e1, List.length_set]
  unfold World.setCell
  simp only [Array.getElem?_modify, if_true, hh, Option.map_some, Option.isSome_none, Bool.false_eq_true, if_false]
  congr 2
  exact List.setIfInBounds_toArray _ _ _
theorem mrow_below {w0 w : World} {B b : Nat} (h : Below b w0 w) (hB : b ≤ B) (i : Nat) (v : Value) : Below b w0 (w.setCell ⟨B, i, none⟩ v) :=
  ⟨h.os, h.tape, h.output, by have := h.size; simpa [World.setCell] using this, fun k hk => by
    rw [← h.block k hk]
    simp only [World.setCell, Array.getElem?_modify]
    rw [if_neg (by omega)]⟩
theorem MRow.back {P : Program} {w : World} {B e src dst cap n : Nat} {xs : List Int} (hs : P.underlying src = some (.slice e)) (he : P.underlying e = some (.int .u8)) (hd : P.underlying dst = some .string) (h : MRow w B e xs) (hn : xs.length = n) (nq : Nat) :
    (convert src dst (.slice (some ⟨B, 0, none⟩) n cap)).run P (w.drewN nq) = .ok (.string (strOfNums xs)) (w.drewN nq) := by
  refine run_convert_bytes_arg (w.drewN nq) src e hs he B 0 n cap xs hn (fun i hi => ?_) dst hd
  have := (h.at (i : Int) (by omega) (by omega)).1
  have e1 : rd xs (i : Int) = xs.getD i 0 := by simp [rd]
  rw [e1] at this
  simpa using this
def lowB (x : Int) : Int := if 65 ≤ x ∧ x ≤ 90 then x + 32 else x
theorem lowB_of (a0 : ByteArray) {b : Int} (h : b ∈ bytesOf a0) : 0 ≤ b ∧ b ≤ 255 := by
  unfold bytesOf at h
  obtain ⟨u, _, rfl⟩ := List.mem_map.1 h
  have := u.toNat_lt
  omega
open Go.Proofs
/-- What the package-level variables hold that the library's functions read. -/
structure Glob (w : World) : Prop where
  maxlen : ∃ m, w.cell? ⟨0, 0, none⟩ = some (.int .i64 m)
theorem Glob.below {w w' : World} (h : Glob w) (hb : Below w.heap.size w w') : Glob w' where
  maxlen := by obtain ⟨m, hm⟩ := h.maxlen; exact ⟨m, pw_cell_below hb hm⟩

theorem info9 : (Tryd.prog.info? 9).map (fun i => (i.zero, i.size, i.bytes)) = some (some (.string ⟨#[]⟩), 1, 16) := by kernel_rfl
theorem info67 : (Tryd.prog.info? 67).map (fun i => (i.zero, i.size, i.bytes)) = some (some (.agg #[(.string ⟨#[]⟩), (.string ⟨#[]⟩)]), 2, 32) := by kernel_rfl
-- the values' own types
/-! #### struct type 67 -/
structure S67 where
  f0 : ByteArray
  f1 : ByteArray
def z67 : S67 := ⟨(⟨#[]⟩ : ByteArray), (⟨#[]⟩ : ByteArray)⟩
def k67 : Kd S67 := Kd.iso (Kd.pair Kd.string Kd.string) (fun x : S67 => (x.f0, x.f1))
theorem k67_open {w : World} {x : S67} {cs : List Value} (h : k67.K w x cs) : cs = [.string x.f0, .string x.f1] := by
  obtain ⟨_, _, rfl, rfl, rfl⟩ := h
  exact rfl
theorem k67_openM {w : World} {base : Nat} {ok : Nat → Prop} {x : S67} {cs : List Value} (h : k67.M w base ok x cs) : cs = [.string x.f0, .string x.f1] := by
  obtain ⟨_, _, rfl, rfl, rfl⟩ := h
  exact rfl
theorem k67_mk (w : World) (x : S67)  : k67.K w x [.string x.f0, .string x.f1] := ⟨[.string x.f0], [.string x.f1], rfl, rfl, rfl⟩
theorem k67_mkM (w : World) (base : Nat) (ok : Nat → Prop) (x : S67)  : k67.M w base ok x [.string x.f0, .string x.f1] := ⟨[.string x.f0], [.string x.f1], rfl, rfl, rfl⟩
def rd_T67 (xs : List S67) (i : Int) : S67 := xs.getD i.toNat z67
theorem at_T67 {w : World} {A : Option Addr} {n : Nat} {xs : List S67} (h : Kd.C k67 w A n xs) (i : Int) (h0 : 0 ≤ i) (h1 : i < n) : ∃ ad , A = some ad ∧ w.cell? (ad.add (i.toNat * 2)) = some (.string (rd_T67 xs i).f0) ∧ w.cell? ⟨(ad.add (i.toNat * 2)).block, (ad.add (i.toNat * 2)).off + 1, none⟩ = some (.string (rd_T67 xs i).f1) := by
  obtain ⟨ad, c, e, _, hK, hc0⟩ := Kd.C_get h z67 i h0 h1
  have hc : ∀ j u, c[j]? = some u → w.cell? (ad.add (i.toNat * 2 + j)) = some u := hc0
  obtain rfl := k67_open hK
  exact ⟨ad, e, hc 0 _ rfl, by rw [← add_field _ _ 1 (by omega)]; exact hc 1 _ rfl⟩

end Go.Proofs.YtlboepkphddacaaDoor.RFnFields
