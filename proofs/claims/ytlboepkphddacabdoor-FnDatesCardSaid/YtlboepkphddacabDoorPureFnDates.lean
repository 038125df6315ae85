/- The pure part of FnDates: for every list of bytes within the statement's bounds the printed law answers true. Conditions: the statement's own bounds alone. -/
import Derived.Test.YtlboepkphddacabDoorPreFnDates
import Derived.Test.YtlboepkphddacabDoorRFnDatesx1
import Derived.Test.YtlboepkphddacabDoorRFnDatesx2
import Derived.Test.YtlboepkphddacabDoorRFnDatesx3
import Derived.Test.YtlboepkphddacabDoorRFnDatesx4
import Derived.Test.YtlboepkphddacabDoorRFnDatesx5
import Derived.Test.YtlboepkphddacabDoorRFnDatesx6
import Derived.Test.YtlboepkphddacabDoorRFnDatesx7
import Derived.Test.YtlboepkphddacabDoorRFnDatesx8
import Derived.Test.YtlboepkphddacabDoorRFnDatesx9
import Derived.OpenShut
namespace Go.Proofs.YtlboepkphddacabDoor.Pure
open Go.RowKit Go.Proofs.YtlboepkphddacabDoor.RFnDates Go.Proofs.YtlboepkphddacabDoorW.PrintWords Go.Proofs.YtlboepkphddacabDoorW.PrintLast
set_option linter.unusedSimpArgs false
set_option linter.unusedVariables false

/-! ### Texts as lists of numbers -/
def InB (l : List Int) : Prop := ∀ x ∈ l, 0 ≤ x ∧ x ≤ 255
theorem InB_nil : InB [] := fun x hx => by simp at hx
theorem InB_cons {b : Int} {l : List Int} : InB (b :: l) ↔ (0 ≤ b ∧ b ≤ 255) ∧ InB l := by simp [InB]
theorem InB_append {l m : List Int} : InB (l ++ m) ↔ InB l ∧ InB m := by
  simp only [InB, List.mem_append]
  exact ⟨fun h => ⟨fun x hx => h x (.inl hx), fun x hx => h x (.inr hx)⟩, fun h x hx => hx.elim (h.1 x) (h.2 x)⟩
theorem InB_bytes (s : ByteArray) : InB (bytesOf s) := by
  intro x hx
  unfold bytesOf at hx
  obtain ⟨b, _, rfl⟩ := List.mem_map.1 hx
  have := b.toNat_lt
  omega
theorem strOf_bytesOf (s : ByteArray) : strOfNums (bytesOf s) = s := by
  obtain ⟨⟨l⟩⟩ := s
  unfold strOfNums bytesOf
  simp only [List.map_map]
  congr 2
  exact (List.map_congr_left (fun b _ => by simp)).trans (List.map_id l)
theorem bytesOf_strOf {l : List Int} (h : InB l) : bytesOf (strOfNums l) = l := by
  unfold strOfNums bytesOf
  simp only [List.map_map]
  refine (List.map_congr_left (fun x hx => ?_)).trans (List.map_id l)
  have := h x hx
  simp only [Function.comp_apply, id, UInt8.toNat_ofNat']
  omega
theorem bytesOf_inj {s t : ByteArray} (h : bytesOf s = bytesOf t) : s = t := by rw [← strOf_bytesOf s, h, strOf_bytesOf]
theorem bytesOf_append (s t : ByteArray) : bytesOf (s ++ t) = bytesOf s ++ bytesOf t := by
  unfold bytesOf
  rw [ByteArray.data_append, Array.toList_append, List.map_append]
theorem bytesOf_extract (s : ByteArray) (a b : Nat) : bytesOf (s.extract a b) = ((bytesOf s).take b).drop a := by
  unfold bytesOf
  rw [ByteArray.data_extract, Array.toList_extract, List.extract_eq_take_drop, List.map_take, List.map_drop, List.take_drop]
  rcases Nat.le_total a b with h | h
  · rw [Nat.add_sub_cancel' h]
  · rw [Nat.sub_eq_zero_of_le h, List.drop_eq_nil_of_le (by simp; omega), List.drop_eq_nil_of_le (by simp; omega)]
theorem toList_iff {s t : ByteArray} : s.toList = t.toList ↔ s = t := by
  rw [ByteArray.toList_eq, ByteArray.toList_eq]
  constructor
  · intro h
    obtain ⟨⟨l⟩⟩ := s
    obtain ⟨⟨m⟩⟩ := t
    simp only at h
    rw [h]
  · rintro rfl; rfl
theorem size_bytes (s : ByteArray) : (s.size : Int) = ((bytesOf s).length : Int) := by rw [bytesOf_length]
theorem wrap_id {n : Int} (h0 : -9223372036854775808 ≤ n) (h1 : n ≤ 9223372036854775807) : wrap64 n = n := by unfold wrap64; omega
theorem Ev.mp {α : Type} {g f : Nat → Option α} {r : α} (h : Ev f r) (e : ∀ k, g k = f k) : Ev g r := Ev.congr e h
theorem Ev.pos {α : Type} {c : Prop} [Decidable c] {f g : Nat → Option α} {r : α} (h : c) (e : Ev f r) : Ev (fun k => if c then f k else g k) r := by simp only [if_pos h]; exact e
theorem Ev.neg {α : Type} {c : Prop} [Decidable c] {f g : Nat → Option α} {r : α} (h : ¬ c) (e : Ev g r) : Ev (fun k => if c then f k else g k) r := by simp only [if_neg h]; exact e
theorem and255 (n : Int) : Go.bits .and .i64 n 255 = n % 256 := by
  have h255 : (BitVec.ofInt 64 255).toNat = 2 ^ 8 - 1 := by decide
  have key : (BitVec.ofInt 64 n &&& BitVec.ofInt 64 255).toNat = (n % ((2 ^ 64 : Nat) : Int)).toNat % 2 ^ 8 := by
    rw [BitVec.toNat_and, BitVec.toNat_ofInt, h255, Nat.and_two_pow_sub_one_eq_mod]
  show IntKind.i64.wrap ((BitVec.ofInt 64 n &&& BitVec.ofInt 64 255).toNat : Nat) = n % 256
  rw [key, IntKind.wrap_i64]
  omega
/-- A cursor's place lies within the bytes. -/
def Cur (l : List Int) (i : Int) : Prop := 0 ≤ i ∧ i ≤ (l.length : Int) ∧ l.length ≤ 1048576
theorem byte_ok {l : List Int} {i : Int} (h : Int) (c : Cur l i) : ∃ x i' h', spec_l1Byte.f l i h = some (x, i', h') ∧ 0 ≤ x ∧ x ≤ 255 ∧ Cur l i' := by
  obtain ⟨c0, c1, c2⟩ := c
  unfold spec_l1Byte.f
  simp only [and255]
  by_cases g : i < (l.length : Int)
  · rw [if_pos g, if_pos c0]
    exact ⟨_, _, _, rfl, by omega, by omega, by rw [wrap_id (by omega) (by omega)]; exact ⟨by omega, by omega, c2⟩⟩
  · rw [if_neg g]
    exact ⟨_, _, _, rfl, by omega, by omega, c0, c1, c2⟩
theorem below_ok {l : List Int} {i : Int} (h : Int) (c : Cur l i) (n : Int) : ∃ x i' h', spec_l1Below.f l i h n = some (x, i', h') ∧ 0 ≤ x ∧ (0 < n → x < n) ∧ Cur l i' := by
  unfold spec_l1Below.f
  by_cases g0 : n ≤ 0
  · rw [if_pos g0]
    exact ⟨_, _, _, rfl, by omega, by omega, c⟩
  · rw [if_neg g0]
    by_cases g1 : n ≤ 256
    · rw [if_pos g1]
      obtain ⟨x, i', h', e, x0, x1, c'⟩ := byte_ok h c
      rw [e]
      simp only [Option.bind_some]
      rw [if_neg (by omega)]
      exact ⟨_, _, _, rfl, Int.tmod_nonneg n x0, fun hn => Int.tmod_lt_of_pos x hn, c'⟩
    · rw [if_neg g1]
      obtain ⟨x, i1, h1, e1, x0, x1, c1⟩ := byte_ok h c
      obtain ⟨y, i2, h2, e2, y0, y1, c2⟩ := byte_ok h1 c1
      obtain ⟨z, i3, h3, e3, z0, z1, c3⟩ := byte_ok h2 c2
      rw [e1]
      simp only [Option.bind_some]
      rw [e2]
      simp only [Option.bind_some]
      rw [e3]
      simp only [Option.bind_some]
      rw [if_neg (by omega), wrap_id (n := x * 65536) (by omega) (by omega), wrap_id (n := y * 256) (by omega) (by omega), wrap_id (n := x * 65536 + y * 256) (by omega) (by omega), wrap_id (n := x * 65536 + y * 256 + z) (by omega) (by omega)]
      exact ⟨_, _, _, rfl, Int.tmod_nonneg n (by omega), fun hn => Int.tmod_lt_of_pos _ hn, c3⟩
theorem new_loop {l : List Int} (hl : l.length ≤ 1048576) (d : Nat) : ∀ (i x : Int), 0 ≤ i → i + d = l.length → ∃ h, Ev (fun k => spec_l1New.l0 k l x i) (l, 0, h) := by
  induction d with
  | zero =>
    intro i x h0 h1
    refine ⟨x, Ev.step (f := fun _ => some (l, 0, x)) (fun k => ?_) (Ev.now _)⟩
    simp only [spec_l1New.l0]
    rw [if_neg (by omega)]
  | succ d ih =>
    intro i x h0 h1
    by_cases g : i < 4000
    · obtain ⟨h, e⟩ := ih (i + 1) (Go.bits .and .i64 (wrap64 ((wrap64 ((wrap64 (x * 139)) + (wrap64 (rd l i)))) + 11)) 1073741823) (by omega) (by omega)
      refine ⟨h, Ev.step (fun k => ?_) e⟩
      simp only [spec_l1New.l0]
      rw [if_pos (by omega), if_pos g, if_pos h0, wrap_id (n := i + 1) (by omega) (by omega)]
    · refine ⟨x, Ev.step (f := fun _ => some (l, 0, x)) (fun k => ?_) (Ev.now _)⟩
      simp only [spec_l1New.l0]
      rw [if_pos (by omega), if_neg g]
theorem new_ev (l : List Int) (hl : l.length ≤ 1048576) : ∃ h, Ev (fun k => spec_l1New.f k l) (l, 0, h) ∧ Cur l 0 := by
  obtain ⟨h, e⟩ := new_loop hl l.length 0 (wrap64 (271091 + (l.length : Int))) (by omega) (by omega)
  exact ⟨h, e, by omega, by omega, hl⟩
theorem int_ok {l : List Int} {i : Int} (h : Int) (c : Cur l i) (L : List Int) (hL : 0 < L.length) : ∃ x i' h', spec_l1Int.f l i h L = some (x, i', h') ∧ x ∈ L ∧ Cur l i' := by
  obtain ⟨q, i', h', e, q0, q1, c'⟩ := below_ok h c (L.length : Int)
  have q2 := q1 (by omega)
  unfold spec_l1Int.f
  rw [e]
  simp only [Option.bind_some]
  rw [if_pos q0, if_pos q2]
  refine ⟨_, _, _, rfl, ?_, c'⟩
  unfold rd
  have hq : q.toNat < L.length := by omega
  rw [List.getD_eq_getElem?_getD, List.getElem?_eq_getElem hq]
  exact List.getElem_mem hq
theorem str_ok {l : List Int} {i : Int} (h : Int) (c : Cur l i) (L : List ByteArray) (hL : 0 < L.length) : ∃ x i' h', spec_l1Str.f l i h L = some (x, i', h') ∧ x ∈ L ∧ Cur l i' := by
  obtain ⟨q, i', h', e, q0, q1, c'⟩ := below_ok h c (L.length : Int)
  have hlen : (L.length : Int) ≤ L.length := by omega
  have q2 := q1 (by omega)
  unfold spec_l1Str.f
  rw [e]
  simp only [Option.bind_some]
  rw [if_pos q0, if_pos q2]
  refine ⟨_, _, _, rfl, ?_, c'⟩
  unfold rdOf
  have hq : q.toNat < L.length := by omega
  rw [List.getD_eq_getElem?_getD, List.getElem?_eq_getElem hq]
  exact List.getElem_mem hq
theorem str_small {l : List Int} {i : Int} (h : Int) (c : Cur l i) (L : List ByteArray) (hL : 0 < L.length) (n : Nat) (hs : (L.all fun x => decide (x.size ≤ n)) = true) : ∃ x i' h', spec_l1Str.f l i h L = some (x, i', h') ∧ x.size ≤ n ∧ Cur l i' := by
  obtain ⟨x, i', h', e, hx, c'⟩ := str_ok h c L hL
  exact ⟨x, i', h', e, of_decide_eq_true (List.all_eq_true.1 hs x hx), c'⟩
theorem bent_ok {l : List Int} {i : Int} (h : Int) (c : Cur l i) (s : ByteArray) (hs : s.size ≤ 900000) : ∃ x i' h', spec_l1Bent.f l i h s = some (x, i', h') ∧ x.size ≤ s.size + 1 ∧ Cur l i' := by
  have hl := bytesOf_length s
  obtain ⟨q, i1, h1, e1, q0, q1, c1⟩ := below_ok h c 7
  unfold spec_l1Bent.f
  rw [if_pos (by omega), e1]
  simp only [Option.bind_some]
  by_cases g0 : q = 0
  · rw [if_pos g0]
    by_cases z : 0 < s.size
    · obtain ⟨x, i2, h2, e2, x0, x1, c2⟩ := below_ok h1 c1 (s.size : Int)
      obtain ⟨y, i3, h3, e3, y0, y1, c3⟩ := below_ok h2 c2 256
      have x2 := x1 (by omega)
      rw [if_pos z, e2]
      simp only [Option.bind_some]
      rw [e3]
      simp only [Option.bind_some]
      rw [if_pos ⟨x0, x2⟩]
      exact ⟨_, _, _, rfl, by rw [strOfNums_size, List.length_set]; omega, c3⟩
    · rw [if_neg z]
      exact ⟨_, _, _, rfl, by omega, c1⟩
  · rw [if_neg g0]
    by_cases g1 : q = 1
    · obtain ⟨x, i2, h2, e2, x0, x1, c2⟩ := below_ok h1 c1 ((s.size : Int) + 1)
      have x2 := x1 (by omega)
      rw [if_pos g1, e2]
      simp only [Option.bind_some]
      rw [if_pos ⟨x0, by omega⟩]
      exact ⟨_, _, _, rfl, by rw [strOfNums_size, List.length_take]; omega, c2⟩
    · rw [if_neg g1]
      by_cases g2 : q = 2
      · obtain ⟨x, i2, h2, e2, _, c2⟩ := int_ok h1 c1 ([0, 32, 44, 34, 255] : List Int) (by decide)
        rw [if_pos g2, e2]
        exact ⟨_, _, _, rfl, by rw [strOfNums_size, List.length_append, hl]; exact Nat.le_refl _, c2⟩
      · rw [if_neg g2]
        by_cases g3 : q = 3
        · rw [if_pos g3]
          by_cases z : 0 < s.size
          · obtain ⟨x, i2, h2, e2, x0, x1, c2⟩ := below_ok h1 c1 (s.size : Int)
            have x2 := x1 (by omega)
            rw [if_pos z, e2]
            simp only [Option.bind_some]
            rw [if_pos ⟨x0, x2⟩]
            exact ⟨_, _, _, rfl, by rw [strOfNums_size, List.length_append, List.length_take, List.length_drop]; omega, c2⟩
          · rw [if_neg z]
            exact ⟨_, _, _, rfl, by omega, c1⟩
        · rw [if_neg g3]
          exact ⟨_, _, _, rfl, by omega, c1⟩
theorem odd_ok {l : List Int} {i : Int} (h : Int) (c : Cur l i) : ∃ x i' h', spec_l1Odd.f l i h = some (x, i', h') ∧ (-9223372036854775808 ≤ x ∧ x ≤ 9223372036854775807) ∧ Cur l i' := by
  obtain ⟨x, i', h', e, hx, c'⟩ := int_ok h c ([(-1), 0, 1, 2, 255, 256, 65535, 2147483647, 2147483648, 4294967295, 4294967296, (-2147483648), 9223372036854775807, (-9223372036854775808)] : List Int) (by decide)
  unfold spec_l1Odd.f
  rw [e]
  refine ⟨_, _, _, rfl, ?_, c'⟩
  have : ∀ y ∈ ([(-1), 0, 1, 2, 255, 256, 65535, 2147483647, 2147483648, 4294967295, 4294967296, (-2147483648), 9223372036854775807, (-9223372036854775808)] : List Int), -9223372036854775808 ≤ y ∧ y ≤ 9223372036854775807 := by decide
  exact this x hx
/-- Zeros in front, up to a width, of at most twenty. -/
def padL (w : Int) (l : List Int) : List Int := List.replicate (min w 20 - (l.length : Int)).toNat 48 ++ l
def padV (w : Int) (s : ByteArray) : ByteArray := strOfNums (padL w (bytesOf s))
theorem padV_done {w : Int} {s : ByteArray} (h : ¬ ((s.size : Int) < w ∧ (s.size : Int) < 20)) : padV w s = s := by
  apply bytesOf_inj
  have e : padL w (bytesOf s) = bytesOf s := by
    unfold padL
    rw [← size_bytes, show (min w 20 - (s.size : Int)).toNat = 0 by omega]; rfl
  unfold padV
  rw [e, bytesOf_strOf (InB_bytes s)]
theorem padV_more {w : Int} {s : ByteArray} (h : (s.size : Int) < w ∧ (s.size : Int) < 20) : padV w s = padV w ((⟨#[48]⟩ : ByteArray) ++ s) := by
  unfold padV
  congr 1
  unfold padL
  rw [bytesOf_append, show bytesOf ⟨#[48]⟩ = [48] by decide, ← size_bytes]
  obtain ⟨m, hm⟩ : ∃ m, (min w 20 - (s.size : Int)).toNat = m + 1 := ⟨(min w 20 - (s.size : Int)).toNat - 1, by omega⟩
  have h2 : (min w 20 - ((([48] : List Int) ++ bytesOf s).length : Int)).toNat = m := by
    simp only [List.length_append, List.length_cons, List.length_nil, bytesOf_length]; omega
  rw [hm, h2, List.replicate_succ', List.append_assoc]
theorem spec_pad (w : Int) (d : Nat) : ∀ s : ByteArray, 20 ≤ s.size + d → s.size ≤ 1000 → Ev (fun k => spec_Digits.l0 k w s) (padV w s) := by
  induction d with
  | zero =>
    intro s h hs
    refine Ev.step (f := fun _ => some s) (fun k => ?_) (by rw [padV_done (by omega)]; exact Ev.now _)
    simp only [spec_Digits.l0]
    by_cases c : (s.size : Int) < w
    · rw [if_pos c, if_neg (by omega)]
    · rw [if_neg c]
  | succ d ih =>
    intro s h hs
    by_cases c : (s.size : Int) < w ∧ (s.size : Int) < 20
    · rw [padV_more c]
      have z : ((⟨#[48]⟩ : ByteArray) ++ s).size = 1 + s.size := by rw [ByteArray.size_append]; rfl
      refine Ev.step (fun k => ?_) (ih _ (by omega) (by omega))
      simp only [spec_Digits.l0]
      rw [if_pos c.1, if_pos c.2, if_pos (by omega)]
    · refine Ev.step (f := fun _ => some s) (fun k => ?_) (by rw [padV_done c]; exact Ev.now _)
      simp only [spec_Digits.l0]
      by_cases c1 : (s.size : Int) < w
      · rw [if_pos c1, if_neg (by omega)]
      · rw [if_neg c1]
theorem impl_pad (w : Int) (d : Nat) : ∀ s : ByteArray, 20 ≤ s.size + d → s.size ≤ 1000 → Ev (fun k => impl_Digits.l0 k w s) (padV w s) := by
  induction d with
  | zero =>
    intro s h hs
    refine Ev.step (f := fun _ => some s) (fun k => ?_) (by rw [padV_done (by omega)]; exact Ev.now _)
    simp only [impl_Digits.l0]
    by_cases c : (s.size : Int) < w
    · rw [if_pos c, if_neg (by omega)]
    · rw [if_neg c]
  | succ d ih =>
    intro s h hs
    by_cases c : (s.size : Int) < w ∧ (s.size : Int) < 20
    · rw [padV_more c]
      have z : ((⟨#[48]⟩ : ByteArray) ++ s).size = 1 + s.size := by rw [ByteArray.size_append]; rfl
      refine Ev.step (fun k => ?_) (ih _ (by omega) (by omega))
      simp only [impl_Digits.l0]
      rw [if_pos c.1, if_pos c.2, if_pos (by omega)]
    · refine Ev.step (f := fun _ => some s) (fun k => ?_) (by rw [padV_done c]; exact Ev.now _)
      simp only [impl_Digits.l0]
      by_cases c1 : (s.size : Int) < w
      · rw [if_pos c1, if_neg (by omega)]
      · rw [if_neg c1]
/-! ### Decimal numerals -/
def numL (n : Nat) : List Int := if h : n < 10 then [48 + (n : Int)] else numL (n / 10) ++ [48 + ((n % 10 : Nat) : Int)]
termination_by n
decreasing_by omega
theorem numL_small {n : Nat} (h : n < 10) : numL n = [48 + (n : Int)] := by rw [numL, dif_pos h]
theorem numL_big {n : Nat} (h : ¬ n < 10) : numL n = numL (n / 10) ++ [48 + ((n % 10 : Nat) : Int)] := by rw [numL, dif_neg h]
theorem num_ind {p : Nat → Prop} (h0 : ∀ n, n < 10 → p n) (h1 : ∀ n, ¬ n < 10 → p (n / 10) → p n) (n : Nat) : p n := by
  induction n using Nat.strongRecOn with
  | _ n ih =>
    by_cases h : n < 10
    · exact h0 n h
    · exact h1 n h (ih (n / 10) (by omega))
theorem numL_digits (n : Nat) : ∀ x ∈ numL n, 48 ≤ x ∧ x ≤ 57 := by
  induction n using num_ind with
  | h0 n h => rw [numL_small h]; simp; omega
  | h1 n h ih =>
    rw [numL_big h]
    intro x hx
    rcases List.mem_append.1 hx with g | g
    · exact ih x g
    · simp at g; omega
theorem numL_len (d : Nat) : ∀ n, n < 10 ^ (d + 1) → (numL n).length ≤ d + 1 := by
  induction d with
  | zero => intro n h; rw [numL_small (by simpa using h)]; simp
  | succ d ih =>
    intro n h
    by_cases g : n < 10
    · rw [numL_small g]; simp
    · rw [numL_big g, List.length_append]
      have := ih (n / 10) (by rw [Nat.pow_succ] at h; omega)
      simp; omega
theorem InB_digits {l : List Int} (h : ∀ x ∈ l, 48 ≤ x ∧ x ≤ 57) : InB l := fun x hx => by have := h x hx; omega
def fmtL (n : Int) : List Int := if n < 0 then 45 :: numL n.natAbs else numL n.toNat
def fmtV (n : Int) : ByteArray := strOfNums (fmtL n)
theorem InB_fmt (n : Int) : InB (fmtL n) := by
  unfold fmtL
  split
  · rw [InB_cons]; exact ⟨by omega, InB_digits (numL_digits _)⟩
  · exact InB_digits (numL_digits _)
theorem bytesOf_fmt (n : Int) : bytesOf (fmtV n) = fmtL n := bytesOf_strOf (InB_fmt n)
theorem fmtL_pos {n : Int} (h : 0 ≤ n) : fmtL n = numL n.toNat := by unfold fmtL; rw [if_neg (by omega)]
theorem fmtL_len (n : Int) (h0 : -9223372036854775808 ≤ n) (h1 : n ≤ 9223372036854775807) : (fmtL n).length ≤ 20 := by
  unfold fmtL
  split
  · have := numL_len 18 n.natAbs (by omega)
    simp only [List.length_cons]; omega
  · have := numL_len 18 n.toNat (by omega)
    omega
def signed (n : Int) (t : ByteArray) : ByteArray := if n < 0 then (⟨#[45]⟩ : ByteArray) ++ t else t
theorem one_byte (d : Int) (h0 : 0 ≤ d) (h1 : d ≤ 9) : (wrap64 (48 + d)) % 256 = 48 + d := by rw [wrap_id (by omega) (by omega)]; omega
theorem spec_Fmt_end (n : Int) (s : ByteArray) (hs : s.size ≤ 1000) : Ev (fun k => spec_FormatInt.l0 k n s 0) (signed n s) := by
  refine Ev.step (f := fun _ => some (signed n s)) (fun k => ?_) (Ev.now _)
  simp only [spec_FormatInt.l0]
  rw [if_pos trivial]
  unfold signed
  split
  · rw [if_pos (by omega)]
  · rfl
theorem spec_Fmt_loop (n : Int) (d : Nat) : ∀ (x : Int) (s : ByteArray), x ≠ 0 → x.natAbs < 10 ^ d → -9223372036854775808 ≤ x → x ≤ 9223372036854775807 → s.size + d ≤ 1000 →
    Ev (fun k => spec_FormatInt.l0 k n s x) (signed n (strOfNums (numL x.natAbs) ++ s)) := by
  induction d with
  | zero => intro x s hx h; simp at h; omega
  | succ d ih =>
    intro x s hx h hlo hhi hs
    have hq : (x.natAbs / 10) < 10 ^ d := by rw [Nat.pow_succ] at h; omega
    obtain ⟨dg, hdg⟩ : ∃ dg : Int, dg = ((x.natAbs % 10 : Nat) : Int) := ⟨_, rfl⟩
    obtain ⟨x', hx'⟩ : ∃ x' : Int, x' = Int.tdiv x 10 := ⟨_, rfl⟩
    have hdb : 0 ≤ dg ∧ dg ≤ 9 := by omega
    have habs : x'.natAbs = x.natAbs / 10 := by rw [hx', Int.natAbs_tdiv]; rfl
    have hb' : -9223372036854775808 ≤ x' ∧ x' ≤ 9223372036854775807 := by omega
    have hw : wrap64 (Int.tdiv x 10) = x' := by rw [← hx', wrap_id hb'.1 hb'.2]
    have hstep : ∀ k, spec_FormatInt.l0 (k + 1) n s x = spec_FormatInt.l0 k n (strOfNums [48 + dg] ++ s) x' := by
      intro k
      have hsz : (strOfNums [48 + dg]).size + s.size ≤ 9223372036854775807 := by rw [strOfNums_size]; simp; omega
      simp only [spec_FormatInt.l0]
      rw [if_neg hx]
      by_cases hneg : x < 0
      · have e : Int.tmod x 10 = -dg := by
          have : x = -((x.natAbs : Nat) : Int) := by omega
          rw [this, Int.neg_tmod, hdg]; rfl
        by_cases z : dg = 0
        · have e0 : Int.tmod x 10 = 0 := by omega
          rw [if_neg (by omega), e0, z, Option.bind_some]
          rw [z] at hsz
          have o := one_byte 0 (by omega) (by omega)
          rw [o, if_pos hsz, hw]
        · rw [if_pos (by omega), e, Int.neg_neg, wrap_id (n := dg) (by omega) (by omega), one_byte dg hdb.1 hdb.2, Option.bind_some, if_pos hsz, hw]
      · have e : Int.tmod x 10 = dg := by
          have : x = ((x.natAbs : Nat) : Int) := by omega
          rw [this, hdg]; rfl
        rw [if_neg (by omega), e, one_byte dg hdb.1 hdb.2, Option.bind_some, if_pos hsz, hw]
    have hsz1 : (strOfNums [48 + dg] ++ s).size = 1 + s.size := by rw [ByteArray.size_append, strOfNums_size]; rfl
    by_cases z : x' = 0
    · have h10 : x.natAbs < 10 := by omega
      have e : strOfNums (numL x.natAbs) = strOfNums [48 + dg] := by rw [numL_small h10, hdg, Nat.mod_eq_of_lt h10]
      rw [e]
      refine Ev.step hstep ?_
      rw [z]
      exact spec_Fmt_end n _ (by omega)
    · have h10 : ¬ x.natAbs < 10 := by omega
      have e : strOfNums (numL x.natAbs) ++ s = strOfNums (numL x'.natAbs) ++ (strOfNums [48 + dg] ++ s) := by
        apply bytesOf_inj
        have i1 : InB [48 + dg] := by rw [InB_cons]; exact ⟨by omega, InB_nil⟩
        rw [bytesOf_append, bytesOf_append, bytesOf_append, bytesOf_strOf (InB_digits (numL_digits _)), bytesOf_strOf (InB_digits (numL_digits _)), bytesOf_strOf i1, numL_big h10, habs, hdg, List.append_assoc]
      rw [e]
      exact Ev.step hstep (ih x' _ z (by omega) hb'.1 hb'.2 (by omega))
theorem spec_Fmt_ev (n : Int) (h0 : -9223372036854775808 ≤ n) (h1 : n ≤ 9223372036854775807) : Ev (fun k => spec_FormatInt.f k n) (fmtV n) := by
  unfold spec_FormatInt.f
  by_cases z : n = 0
  · subst z
    refine Ev.pos rfl ?_
    have e : (⟨#[48]⟩ : ByteArray) = fmtV 0 := by
      apply bytesOf_inj
      rw [bytesOf_fmt, fmtL_pos (by omega), numL_small (by decide)]
      decide
    rw [e]; exact Ev.now _
  · refine Ev.neg z ?_
    have := spec_Fmt_loop n 19 n ⟨#[]⟩ z (by omega) h0 h1 (by decide)
    have e : signed n (strOfNums (numL n.natAbs) ++ ⟨#[]⟩) = fmtV n := by
      have e0 : strOfNums (numL n.natAbs) ++ ⟨#[]⟩ = strOfNums (numL n.natAbs) := by apply bytesOf_inj; rw [bytesOf_append, show bytesOf ⟨#[]⟩ = [] by decide, List.append_nil]
      apply bytesOf_inj
      rw [e0, bytesOf_fmt]
      unfold signed fmtL
      split
      · rw [bytesOf_append, bytesOf_strOf (InB_digits (numL_digits _))]; rfl
      · rw [bytesOf_strOf (InB_digits (numL_digits _))]
        congr 1; omega
    rwa [e] at this
theorem decDigits_map (u : Nat) : ((Lib.decDigits u).map fun b => (b.toNat : Int)) = numL u := by
  refine num_ind (p := fun u => ((Lib.decDigits u).map fun b => (b.toNat : Int)) = numL u) (fun n h => ?_) (fun n h ih => ?_) u
  · rw [Lib.decDigits, dif_pos h, numL_small h]
    simp [UInt8.toNat_ofNat']; omega
  · rw [Lib.decDigits, dif_neg h, numL_big h, List.map_append, ih]
    simp [UInt8.toNat_ofNat']; omega
theorem itoa_map (n : Int) : ((Lib.itoa n).map fun b => (b.toNat : Int)) = fmtL n := by
  unfold Lib.itoa fmtL
  split
  · simp only [List.map_cons, decDigits_map]; rfl
  · exact decDigits_map _
theorem impl_Fmt_eq (n : Int) (h0 : -9223372036854775808 ≤ n) (h1 : n ≤ 9223372036854775807) : impl_FormatInt.f n = some (fmtV n) := by
  unfold impl_FormatInt.f strconv_Itoa.f
  rw [if_pos ⟨h0, h1⟩, Option.bind_some]
  congr 1
  apply bytesOf_inj
  rw [bytesOf_fmt, ← itoa_map]; rfl
theorem fmtV_size {n : Int} (h0 : -9223372036854775808 ≤ n) (h1 : n ≤ 9223372036854775807) : (fmtV n).size ≤ 20 := by
  have := fmtL_len n h0 h1
  rw [← bytesOf_fmt, bytesOf_length] at this
  exact this
def digitsV (n w : Int) : ByteArray := padV w (fmtV (max 0 n))
theorem max0_le {n : Int} (h1 : n ≤ 9223372036854775807) : -9223372036854775808 ≤ max 0 n ∧ max 0 n ≤ 9223372036854775807 := by omega
theorem spec_Digits_ev (n w : Int) (h1 : n ≤ 9223372036854775807) : Ev (fun k => spec_Digits.f k n w) (digitsV n w) := by
  have e : spec_Max.f 0 n = some (max 0 n) := by
    unfold spec_Max.f
    by_cases c : n > 0
    · rw [if_pos c, Int.max_eq_right (by omega)]
    · rw [if_neg c, Int.max_eq_left (by omega)]
  have b := max0_le h1
  unfold spec_Digits.f
  rw [e]
  simp only [Option.bind_some]
  have z := fmtV_size b.1 b.2
  exact Ev.bind (spec_Fmt_ev _ b.1 b.2) (spec_pad w 20 _ (by omega) (by omega))
theorem impl_Digits_ev (n w : Int) (h1 : n ≤ 9223372036854775807) : Ev (fun k => impl_Digits.f k n w) (digitsV n w) := by
  have e : mx 0 n = max 0 n := by unfold mx; split <;> omega
  have b := max0_le h1
  have z := fmtV_size b.1 b.2
  unfold impl_Digits.f
  rw [e, impl_Fmt_eq _ b.1 b.2]
  simp only [Option.bind_some]
  exact impl_pad w 20 _ (by omega) (by omega)
theorem tmod_fix (a m : Int) (h1 : 1 ≤ m) (h2 : m ≤ 1000000000000) : Int.tmod (wrap64 (Int.tmod a m + m)) m = a % m := by
  have e := Int.tmod_eq_emod (a := a) (b := m)
  have g1 := Int.emod_nonneg a (show m ≠ 0 by omega)
  have g2 := Int.emod_lt_of_pos a (show 0 < m by omega)
  have hn : (m.natAbs : Int) = m := by omega
  have hw : wrap64 (Int.tmod a m + m) = Int.tmod a m + m := by
    unfold wrap64
    rw [e]
    split
    · rw [show ((0 : Nat) : Int) = 0 from rfl]; omega
    · omega
  rw [hw, e]
  split
  · rw [show ((0 : Nat) : Int) = 0 from rfl, Int.sub_zero, Int.tmod_eq_emod_of_nonneg (by omega), Int.add_emod_right, Int.emod_emod_of_dvd a (Int.dvd_refl m)]
  · rw [hn, Int.sub_add_cancel, Int.tmod_eq_emod_of_nonneg (by omega), Int.emod_emod_of_dvd a (Int.dvd_refl m)]
def modV (a m : Int) : Int := if 1 ≤ m ∧ m ≤ 1000000000000 then a % m else 0
theorem modV_pos {a m : Int} (h1 : 1 ≤ m) (h2 : m ≤ 1000000000000) : modV a m = a % m := by unfold modV; rw [if_pos ⟨h1, h2⟩]
theorem spec_l1In_eq (a b c : Int) : spec_l1In.f a b c = some (decide (b ≤ a ∧ a ≤ c)) := by
  unfold spec_l1In.f
  by_cases h : a ≥ b
  · rw [if_pos h]; congr 1; apply decide_eq_decide.mpr; constructor
    · exact fun x => ⟨h, x⟩
    · exact fun x => x.2
  · rw [if_neg h]; congr 1; symm; apply decide_eq_false; omega
theorem spec_Mod_eq (a m : Int) : spec_Mod.f a m = some (modV a m) := by
  unfold spec_Mod.f modV
  rw [spec_l1In_eq, Option.bind_some]
  by_cases h : 1 ≤ m ∧ m ≤ 1000000000000
  · rw [if_pos (decide_eq_true h), if_neg (by omega), if_pos h, tmod_fix a m h.1 h.2]
  · rw [if_neg (by simp [h]), if_neg h]
def leapV (y : Int) : Bool := decide (y % 4 = 0 ∧ (y % 100 ≠ 0 ∨ y % 400 = 0))
theorem leap_ways (y : Int) : (if y % 4 = 0 then (if y % 100 = 0 then some (y % 400 == 0) else some true) else some false) = some (leapV y) := by
  unfold leapV
  by_cases h : y % 4 = 0 <;> by_cases h1 : y % 100 = 0 <;> by_cases h2 : y % 400 = 0 <;> simp [h, h1, h2]
theorem spec_IsLeap_eq (y : Int) : spec_IsLeap.f y = some (leapV y) := by
  unfold spec_IsLeap.f
  simp only [spec_Mod_eq, Option.bind_some, modV_pos (show (1 : Int) ≤ 4 by decide) (by decide), modV_pos (show (1 : Int) ≤ 100 by decide) (by decide), modV_pos (show (1 : Int) ≤ 400 by decide) (by decide)]
  exact leap_ways y
theorem impl_inRange_eq (a b c : Int) : impl_inRange.f a b c = some (decide (b ≤ a ∧ a ≤ c)) := by
  unfold impl_inRange.f
  by_cases h : b ≤ a
  · rw [if_pos h]; congr 1; apply decide_eq_decide.mpr; constructor
    · exact fun x => ⟨h, x⟩
    · exact fun x => x.2
  · rw [if_neg h]; congr 1; symm; apply decide_eq_false; omega
theorem impl_Mod_eq (a m : Int) : impl_Mod.f a m = some (modV a m) := by
  unfold impl_Mod.f modV
  rw [impl_inRange_eq, Option.bind_some]
  by_cases h : 1 ≤ m ∧ m ≤ 1000000000000
  · rw [if_pos (decide_eq_true h), if_neg (by omega), if_pos h, tmod_fix a m h.1 h.2]
  · rw [if_neg (by simp [h]), if_neg h]
theorem impl_IsLeap_eq (y : Int) : impl_IsLeap.f y = some (leapV y) := by
  unfold impl_IsLeap.f
  simp only [impl_Mod_eq, Option.bind_some, modV_pos (show (1 : Int) ≤ 4 by decide) (by decide), modV_pos (show (1 : Int) ≤ 100 by decide) (by decide), modV_pos (show (1 : Int) ≤ 400 by decide) (by decide)]
  exact leap_ways y

def md (y m : Int) : Int := if m = 2 then (if leapV y = true then 29 else 28) else if m = 4 ∨ m = 6 ∨ m = 9 ∨ m = 11 then 30 else 31
def yd (y : Int) : Int := if leapV y = true then 366 else 365
theorem md_bd (y m : Int) : 28 ≤ md y m ∧ md y m ≤ 31 := by
  unfold md
  split
  · split <;> omega
  · split <;> omega
theorem yd_bd (y : Int) : 365 ≤ yd y ∧ yd y ≤ 366 := by unfold yd; split <;> omega
def sumY : Nat → Int → Int
  | 0, _ => 0
  | d + 1, i => yd i + sumY d (i + 1)
def sumM (y : Int) : Nat → Int → Int
  | 0, _ => 0
  | d + 1, m => md y m + sumM y d (m + 1)
theorem months_of (y : Int) : sumM y 12 1 = yd y := by
  simp only [sumM, md, yd]
  by_cases h : leapV y = true <;> simp [h]
theorem spec_Long_eq (y m : Int) (h1 : 1 ≤ m) (h2 : m ≤ 12) : spec_l3Long.f y m = some (md y m) := by
  unfold spec_l3Long.f
  rw [spec_IsLeap_eq]
  simp only [Option.bind_some]
  have : m = 1 ∨ m = 2 ∨ m = 3 ∨ m = 4 ∨ m = 5 ∨ m = 6 ∨ m = 7 ∨ m = 8 ∨ m = 9 ∨ m = 10 ∨ m = 11 ∨ m = 12 := by omega
  rcases this with rfl | rfl | rfl | rfl | rfl | rfl | rfl | rfl | rfl | rfl | rfl | rfl
  case inr.inl => by_cases h : leapV y = true <;> simp [md, h] <;> decide +kernel
  all_goals first | rfl | (simp [md]; done) | (simp [md]; decide +kernel)
theorem impl_monthDays_eq (y m : Int) : impl_monthDays.f y m = some (md y m) := by
  unfold impl_monthDays.f md
  rw [impl_IsLeap_eq]
  simp only [Option.bind_some]
  by_cases h : m = 2
  · rw [if_pos h, if_pos h]; by_cases g : leapV y = true <;> simp [g]
  · rw [if_neg h, if_neg h]
    by_cases h4 : m = 4 <;> by_cases h6 : m = 6 <;> by_cases h9 : m = 9 <;> by_cases h11 : m = 11 <;> simp [h4, h6, h9, h11]
theorem impl_yearDays_eq (y : Int) : impl_yearDays.f y = some (yd y) := by
  unfold impl_yearDays.f yd
  rw [impl_IsLeap_eq, Option.bind_some]
  by_cases g : leapV y = true <;> simp [g]
/-- Year and rest of a count of days, from a year on. -/
def civY : Nat → Int → Int → Int × Int
  | 0, day, y => (day, y)
  | f + 1, day, y => if day ≥ yd y then civY f (day - yd y) (y + 1) else (day, y)
def civM (y : Int) : Nat → Int → Int → Int × Int
  | 0, day, m => (day, m)
  | f + 1, day, m => if day ≥ md y m then civM y f (day - md y m) (m + 1) else (day, m)
theorem civY_spec (f : Nat) : ∀ (day y : Int), 0 ≤ day → day < 365 * (f : Int) → 0 ≤ (civY f day y).1 ∧ (civY f day y).1 < yd (civY f day y).2 ∧ y ≤ (civY f day y).2 ∧ (civY f day y).2 < y + f ∧ day = (civY f day y).1 + sumY ((civY f day y).2 - y).toNat y := by
  induction f with
  | zero => intro day y h0 h1; simp at h1; omega
  | succ f ih =>
    intro day y h0 h1
    have hb := yd_bd y
    unfold civY
    by_cases h : day ≥ yd y
    · rw [if_pos h]
      obtain ⟨a, b, c, d, e⟩ := ih (day - yd y) (y + 1) (by omega) (by omega)
      refine ⟨a, b, by omega, by omega, ?_⟩
      obtain ⟨n, hn⟩ : ∃ n : Nat, ((civY f (day - yd y) (y + 1)).2 - (y + 1)).toNat = n := ⟨_, rfl⟩
      have hs : ((civY f (day - yd y) (y + 1)).2 - y).toNat = n + 1 := by omega
      rw [hn] at e
      rw [hs]
      simp only [sumY]
      omega
    · rw [if_neg h]
      exact ⟨h0, by simpa using h, by simp, by simp; omega, by simp [sumY]⟩
theorem civM_spec (y : Int) (f : Nat) : ∀ (day m : Int), 0 ≤ day → day < sumM y f m → 0 ≤ (civM y f day m).1 ∧ (civM y f day m).1 < md y (civM y f day m).2 ∧ m ≤ (civM y f day m).2 ∧ (civM y f day m).2 < m + f ∧ day = (civM y f day m).1 + sumM y ((civM y f day m).2 - m).toNat m := by
  induction f with
  | zero => intro day m h0 h1; simp [sumM] at h1; omega
  | succ f ih =>
    intro day m h0 h1
    simp only [sumM] at h1
    unfold civM
    by_cases h : day ≥ md y m
    · rw [if_pos h]
      obtain ⟨a, b, c, d, e⟩ := ih (day - md y m) (m + 1) (by omega) (by omega)
      refine ⟨a, b, by omega, by omega, ?_⟩
      obtain ⟨n, hn⟩ : ∃ n : Nat, ((civM y f (day - md y m) (m + 1)).2 - (m + 1)).toNat = n := ⟨_, rfl⟩
      have hs : ((civM y f (day - md y m) (m + 1)).2 - m).toNat = n + 1 := by omega
      rw [hn] at e
      rw [hs]
      simp only [sumM]
      omega
    · rw [if_neg h]
      exact ⟨h0, by simpa using h, by simp, by simp; omega, by simp [sumM]⟩
def civV (day : Int) : Int × Int × Int :=
  if 0 ≤ day ∧ day ≤ 47481 then
    ((civY 131 day 1970).2, (civM (civY 131 day 1970).2 12 (civY 131 day 1970).1 1).2, (civM (civY 131 day 1970).2 12 (civY 131 day 1970).1 1).1 + 1)
  else (0, 0, 0)
theorem spec_Civ_l1 (y : Int) (f : Nat) : ∀ (day m : Int), 0 ≤ day → day ≤ 1000 → day < sumM y f m → 1 ≤ m → m + f = 13 → Ev (fun k => spec_CivilOf.l1 k (day) y (m)) (y, (civM y f day m).2, (civM y f day m).1 + 1) := by
  induction f with
  | zero => intro day m h0 h00 hs h1 h; simp [sumM] at hs; omega
  | succ f ih =>
    intro day m h0 h00 hs h1 h
    simp only [sumM] at hs
    have hb := md_bd y m
    unfold civM
    by_cases g : day ≥ md y m
    · rw [if_pos g]
      refine Ev.step (f := fun k => spec_CivilOf.l1 k (day - md y m) y (m + 1)) (fun k => ?_) (ih (day - md y m) (m + 1) (by omega) (by omega) (by omega) (by omega) (by omega))
      simp only [spec_CivilOf.l1]
      rw [spec_Long_eq y m h1 (by omega), Option.bind_some, if_pos g, Option.bind_some, wrap_id (by omega) (by omega), wrap_id (by omega) (by omega)]
    · rw [if_neg g]
      refine Ev.step (f := fun _ => some (y, m, day + 1)) (fun k => ?_) (Ev.now _)
      simp only [spec_CivilOf.l1]
      rw [spec_Long_eq y m h1 (by omega), Option.bind_some, if_neg g, wrap_id (by omega) (by omega)]
theorem spec_Civ_l0 (f : Nat) : ∀ (day y : Int), 0 ≤ day → day ≤ 100000 → day < 365 * (f : Int) → 0 ≤ y → y + f ≤ 5000 →
    Ev (fun k => spec_CivilOf.l0 k (day) (y)) ((civY f day y).2, (civM (civY f day y).2 12 (civY f day y).1 1).2, (civM (civY f day y).2 12 (civY f day y).1 1).1 + 1) := by
  induction f with
  | zero => intro day y h0 h00 h1; simp at h1; omega
  | succ f ih =>
    intro day y h0 h00 h1 hy hyf
    have hb := yd_bd y
    unfold civY
    by_cases g : day ≥ yd y
    · simp only [if_pos g]
      refine Ev.step (f := fun k => spec_CivilOf.l0 k (day - yd y) (y + 1)) (fun k => ?_) (ih (day - yd y) (y + 1) (by omega) (by omega) (by omega) (by omega) (by omega))
      simp only [spec_CivilOf.l0]
      rw [spec_IsLeap_eq, Option.bind_some, wrap_id (n := y + 1) (by omega) (by omega)]; by_cases q : leapV y = true; (have hy2 : yd y = 366 := by unfold yd; rw [if_pos q]); rw [hy2] at g ⊢; rw [if_pos q, if_neg (by omega), wrap_id (by omega) (by omega)]; (have hy2 : yd y = 365 := by unfold yd; rw [if_neg q]); rw [hy2] at g ⊢; rw [if_neg q, if_neg (by omega), wrap_id (by omega) (by omega)]
    · simp only [if_neg g]
      have hm := spec_Civ_l1 y 12 day 1 h0 (by omega) (by rw [months_of]; omega) (by omega) (by omega)
      refine Ev.step (f := fun k => spec_CivilOf.j1 k day y) (fun k => ?_) (Ev.step (f := fun k => spec_CivilOf.l1 k day y 1) (fun k => by simp only [spec_CivilOf.j1]) hm); simp only [spec_CivilOf.l0]; rw [spec_IsLeap_eq, Option.bind_some]; by_cases q : leapV y = true; (have hy2 : yd y = 366 := by unfold yd; rw [if_pos q]); rw [hy2] at g; rw [if_pos q, if_pos (by omega)]; (have hy2 : yd y = 365 := by unfold yd; rw [if_neg q]); rw [hy2] at g; rw [if_neg q, if_pos (by omega)]
theorem spec_CivilOf_ev (day : Int) : Ev (fun k => spec_CivilOf.f k day) (civV day) := by
  unfold spec_CivilOf.f civV
  simp only [spec_l1In_eq, Option.bind_some]
  by_cases h : 0 ≤ day ∧ day ≤ 47481
  · rw [if_pos h]
    exact Ev.pos (decide_eq_true h) (spec_Civ_l0 131 day 1970 h.1 (by omega) (by omega) (by omega) (by omega))
  · rw [if_neg h]
    exact Ev.neg (by simp [h]) (Ev.now _)
theorem impl_Civ_l1 (y : Int) (f : Nat) : ∀ (day m : Int), 0 ≤ day → day ≤ 1000 → day < sumM y f m → 1 ≤ m → m + f = 13 → Ev (fun k => impl_CivilOf.l1 k (day) y (m)) (y, (civM y f day m).2, (civM y f day m).1 + 1) := by
  induction f with
  | zero => intro day m h0 h00 hs h1 h; simp [sumM] at hs; omega
  | succ f ih =>
    intro day m h0 h00 hs h1 h
    simp only [sumM] at hs
    have hb := md_bd y m
    unfold civM
    by_cases g : day ≥ md y m
    · rw [if_pos g]
      refine Ev.step (f := fun k => impl_CivilOf.l1 k (day - md y m) y (m + 1)) (fun k => ?_) (ih (day - md y m) (m + 1) (by omega) (by omega) (by omega) (by omega) (by omega))
      simp only [impl_CivilOf.l1]
      rw [impl_monthDays_eq, Option.bind_some, if_pos g, Option.bind_some, wrap_id (by omega) (by omega), wrap_id (by omega) (by omega)]
    · rw [if_neg g]
      refine Ev.step (f := fun _ => some (y, m, day + 1)) (fun k => ?_) (Ev.now _)
      simp only [impl_CivilOf.l1]
      rw [impl_monthDays_eq, Option.bind_some, if_neg g, wrap_id (by omega) (by omega)]
theorem impl_Civ_l0 (f : Nat) : ∀ (day y : Int), 0 ≤ day → day ≤ 100000 → day < 365 * (f : Int) → 0 ≤ y → y + f ≤ 5000 →
    Ev (fun k => impl_CivilOf.l0 k (day) (y) 1) ((civY f day y).2, (civM (civY f day y).2 12 (civY f day y).1 1).2, (civM (civY f day y).2 12 (civY f day y).1 1).1 + 1) := by
  induction f with
  | zero => intro day y h0 h00 h1; simp at h1; omega
  | succ f ih =>
    intro day y h0 h00 h1 hy hyf
    have hb := yd_bd y
    unfold civY
    by_cases g : day ≥ yd y
    · simp only [if_pos g]
      refine Ev.step (f := fun k => impl_CivilOf.l0 k (day - yd y) (y + 1) 1) (fun k => ?_) (ih (day - yd y) (y + 1) (by omega) (by omega) (by omega) (by omega) (by omega))
      simp only [impl_CivilOf.l0]
      rw [impl_yearDays_eq, Option.bind_some, if_pos g, Option.bind_some, wrap_id (by omega) (by omega), wrap_id (by omega) (by omega)]
    · simp only [if_neg g]
      have hm := impl_Civ_l1 y 12 day 1 h0 (by omega) (by rw [months_of]; omega) (by omega) (by omega)
      refine Ev.step (f := fun k => impl_CivilOf.l1 k day y 1) (fun k => ?_) hm; simp only [impl_CivilOf.l0]; rw [impl_yearDays_eq, Option.bind_some, if_neg g]
theorem impl_CivilOf_ev (day : Int) : Ev (fun k => impl_CivilOf.f k day) (civV day) := by
  unfold impl_CivilOf.f civV
  simp only [impl_inRange_eq, Option.bind_some]
  by_cases h : 0 ≤ day ∧ day ≤ 47481
  · rw [if_pos h]
    exact Ev.pos (decide_eq_true h) (impl_Civ_l0 131 day 1970 h.1 (by omega) (by omega) (by omega) (by omega))
  · rw [if_neg h]
    exact Ev.neg (by simp [h]) (Ev.now _)
def dayOK (y m d : Int) : Prop := 1970 ≤ y ∧ y ≤ 2099 ∧ 1 ≤ m ∧ m ≤ 12 ∧ 1 ≤ d ∧ d ≤ md y m
instance (y m d : Int) : Decidable (dayOK y m d) := by unfold dayOK; infer_instance
def daysV (y m d : Int) : Int := if dayOK y m d then d - 1 + sumY (y - 1970).toNat 1970 + sumM y (m - 1).toNat 1 else -1
theorem impl_Days_l1 (y m : Int) (hm : m ≤ 12) (d : Nat) : ∀ (i n : Int), 1 ≤ i → i + d = m → 0 ≤ n → n ≤ 1000000 - 31 * d → Ev (fun k => impl_DaysOf.l1 k y m n i) (n + sumM y d i) := by
  induction d with
  | zero =>
    intro i n h1 h h0 hn
    refine Ev.step (f := fun _ => some n) (fun k => ?_) (by simpa [sumM] using Ev.now _)
    simp only [impl_DaysOf.l1]
    rw [if_neg (by omega)]
  | succ d ih =>
    intro i n h1 h h0 hn
    have hb := md_bd y i
    refine Ev.step (f := fun k => impl_DaysOf.l1 k y m (n + md y i) (i + 1)) (fun k => ?_) ?_
    · simp only [impl_DaysOf.l1]
      rw [if_pos (by omega), impl_monthDays_eq, Option.bind_some, wrap_id (by omega) (by omega), wrap_id (by omega) (by omega)]
    · have := ih (i + 1) (n + md y i) (by omega) (by omega) (by omega) (by omega)
      simpa [sumM, Int.add_assoc] using this
theorem impl_Days_l0 (y m : Int) (hm1 : 1 ≤ m) (hm : m ≤ 12) (d : Nat) : ∀ (i n : Int), i + d = y → 0 ≤ i → y ≤ 2099 → 0 ≤ n → n ≤ 900000 - 366 * d → Ev (fun k => impl_DaysOf.l0 k y m n i) (n + sumY d i + sumM y (m - 1).toNat 1) := by
  induction d with
  | zero =>
    intro i n h hi hy h0 hn
    refine Ev.step (f := fun k => impl_DaysOf.l1 k y m n 1) (fun k => ?_) ?_
    · simp only [impl_DaysOf.l0]
      rw [if_neg (by omega)]
    · have := impl_Days_l1 y m hm (m - 1).toNat 1 n (by omega) (by omega) h0 (by omega)
      simpa [sumY] using this
  | succ d ih =>
    intro i n h hi hy h0 hn
    have hb := yd_bd i
    refine Ev.step (f := fun k => impl_DaysOf.l0 k y m (n + yd i) (i + 1)) (fun k => ?_) ?_
    · simp only [impl_DaysOf.l0]
      rw [if_pos (by omega)]
      rw [impl_yearDays_eq, Option.bind_some, wrap_id (by omega) (by omega), wrap_id (by omega) (by omega)]
    · have := ih (i + 1) (n + yd i) (by omega) (by omega) hy (by omega) (by omega)
      simpa [sumY, Int.add_assoc] using this
theorem impl_DaysOf_ev (y m d : Int) (hd1 : -9223372036854775808 ≤ d) (hd2 : d ≤ 9223372036854775807) : Ev (fun k => impl_DaysOf.f k y m d) (daysV y m d) := by
  have hno : Ev (fun k => impl_DaysOf.j0 k y m d true) (-1) := by
    refine Ev.step (f := fun _ => some (-1)) (fun k => ?_) (Ev.now _)
    simp only [impl_DaysOf.j0]
    rw [if_pos trivial]
  unfold impl_DaysOf.f daysV
  simp only [impl_inRange_eq, Option.bind_some]
  by_cases hy : 1970 ≤ y ∧ y ≤ 2099
  · by_cases hm : 1 ≤ m ∧ m ≤ 12
    · refine Ev.pos (decide_eq_true hy) (Ev.pos (decide_eq_true hm) ?_)
      simp only [impl_monthDays_eq, Option.bind_some]
      by_cases hd : 1 ≤ d ∧ d ≤ md y m
      · have hb := md_bd y m
        have ok : dayOK y m d := ⟨hy.1, hy.2, hm.1, hm.2, hd.1, hd.2⟩
        rw [if_pos ok, decide_eq_true hd]
        refine Ev.step (f := fun k => impl_DaysOf.l0 k y m (d - 1) 1970) (fun k => ?_) ?_
        · simp only [impl_DaysOf.j0]
          rw [if_neg (by simp), wrap_id (by omega) (by omega)]
        · exact impl_Days_l0 y m hm.1 hm.2 (y - 1970).toNat 1970 (d - 1) (by omega) (by omega) hy.2 (by omega) (by omega)
      · have ok : ¬ dayOK y m d := fun h => hd ⟨h.2.2.2.2.1, h.2.2.2.2.2⟩
        rw [if_neg ok, decide_eq_false hd]
        exact hno
    · have ok : ¬ dayOK y m d := fun h => hm ⟨h.2.2.1, h.2.2.2.1⟩
      rw [if_neg ok]
      exact Ev.pos (decide_eq_true hy) (Ev.neg (by simp [hm]) hno)
  · have ok : ¬ dayOK y m d := fun h => hy ⟨h.1, h.2.1⟩
    rw [if_neg ok]
    exact Ev.neg (by simp [hy]) hno
theorem civ_facts {day : Int} (h0 : 0 ≤ day) (h1 : day ≤ 47481) : ∃ y m d, civV day = (y, m, d) ∧ dayOK y m d ∧ daysV y m d = day := by
  obtain ⟨a, b, c, e, f⟩ := civY_spec 131 day 1970 h0 (by omega)
  have hy : (civY 131 day 1970).2 ≤ 2099 := by
    rcases Int.lt_or_le (civY 131 day 1970).2 2100 with g | g
    · omega
    · exfalso
      have e1 : ((civY 131 day 1970).2 - 1970).toNat = 130 := by omega
      rw [e1] at f
      have : sumY 130 1970 = 47482 := by decide +kernel
      omega
  obtain ⟨a2, b2, c2, e2, f2⟩ := civM_spec (civY 131 day 1970).2 12 (civY 131 day 1970).1 1 a (by rw [months_of]; exact b)
  have ok : dayOK (civY 131 day 1970).2 (civM (civY 131 day 1970).2 12 (civY 131 day 1970).1 1).2 ((civM (civY 131 day 1970).2 12 (civY 131 day 1970).1 1).1 + 1) := ⟨by omega, hy, by omega, by omega, by omega, by omega⟩
  refine ⟨_, _, _, by unfold civV; rw [if_pos ⟨h0, h1⟩], ok, ?_⟩
  unfold daysV
  rw [if_pos ok]
  omega
/-! ### Digits of a fixed count -/
def two (n : Int) : List Int := [48 + n / 10, 48 + n % 10]
def four (n : Int) : List Int := [48 + n / 1000, 48 + n / 100 % 10, 48 + n / 10 % 10, 48 + n % 10]
theorem fmtL_one {n : Int} (h0 : 0 ≤ n) (h1 : n ≤ 9) : fmtL n = [48 + n] := by
  rw [fmtL_pos h0, numL_small (by omega), Int.toNat_of_nonneg h0]
theorem fmtL_two {n : Int} (h0 : 10 ≤ n) (h1 : n ≤ 99) : fmtL n = two n := by
  obtain ⟨m, rfl⟩ : ∃ m : Nat, n = m := ⟨n.toNat, by omega⟩
  rw [fmtL_pos (by omega), Int.toNat_natCast, numL_big (by omega), numL_small (by omega)]
  unfold two
  simp only [List.singleton_append, List.cons.injEq, and_true]
  omega
theorem fmtL_four {n : Int} (h0 : 1000 ≤ n) (h1 : n ≤ 9999) : fmtL n = four n := by
  obtain ⟨m, rfl⟩ : ∃ m : Nat, n = m := ⟨n.toNat, by omega⟩
  rw [fmtL_pos (by omega), Int.toNat_natCast, numL_big (by omega), numL_big (by omega), numL_big (by omega), numL_small (by omega)]
  unfold four
  simp only [List.append_assoc, List.cons_append, List.nil_append, List.singleton_append, List.cons.injEq, and_true]
  omega
theorem InB_padL {w : Int} {l : List Int} (h : InB l) : InB (padL w l) := by
  unfold padL
  rw [InB_append]
  exact ⟨fun x hx => by have := List.eq_of_mem_replicate hx; omega, h⟩
theorem bytesOf_padV (w : Int) (s : ByteArray) : bytesOf (padV w s) = padL w (bytesOf s) := bytesOf_strOf (InB_padL (InB_bytes s))
theorem bytesOf_digits {n : Int} (w : Int) (h0 : 0 ≤ n) : bytesOf (digitsV n w) = padL w (fmtL n) := by
  unfold digitsV
  rw [bytesOf_padV, bytesOf_fmt, show max 0 n = n by omega]
theorem digits_two {n : Int} (h0 : 0 ≤ n) (h1 : n ≤ 99) : bytesOf (digitsV n 2) = two n := by
  rw [bytesOf_digits 2 h0]
  by_cases h : n ≤ 9
  · rw [fmtL_one h0 h]
    have e : two n = [48, 48 + n] := by unfold two; simp only [List.cons.injEq, and_true]; omega
    rw [e]; rfl
  · rw [fmtL_two (by omega) h1]; rfl
theorem digits_four {n : Int} (h0 : 1000 ≤ n) (h1 : n ≤ 9999) : bytesOf (digitsV n 4) = four n := by
  rw [bytesOf_digits 4 (by omega), fmtL_four h0 h1]; rfl
/-! ### The three forms of a time -/
def dayN (w : Int) : List Int :=
  if w = 0 then [83, 117, 110, 100, 97, 121] else if w = 1 then [77, 111, 110, 100, 97, 121] else if w = 2 then [84, 117, 101, 115, 100, 97, 121] else if w = 3 then [87, 101, 100, 110, 101, 115, 100, 97, 121]
  else if w = 4 then [84, 104, 117, 114, 115, 100, 97, 121] else if w = 5 then [70, 114, 105, 100, 97, 121] else [83, 97, 116, 117, 114, 100, 97, 121]
def monN (m : Int) : List Int :=
  if m = 1 then [74, 97, 110] else if m = 2 then [70, 101, 98] else if m = 3 then [77, 97, 114] else if m = 4 then [65, 112, 114] else if m = 5 then [77, 97, 121] else if m = 6 then [74, 117, 110]
  else if m = 7 then [74, 117, 108] else if m = 8 then [65, 117, 103] else if m = 9 then [83, 101, 112] else if m = 10 then [79, 99, 116] else if m = 11 then [78, 111, 118] else [68, 101, 99]
def dY (t : Int) : Int := (civV (t / 86400)).1
def dM (t : Int) : Int := (civV (t / 86400)).2.1
def dD (t : Int) : Int := (civV (t / 86400)).2.2
def dW (t : Int) : Int := (t / 86400 % 7 + 4) % 7
def clkL (t : Int) : List Int := two (t / 3600 % 24) ++ [58] ++ two (t / 60 % 60) ++ [58] ++ two (t % 60)
def dayD (d : Int) : List Int := if d < 10 then [32, 48 + d] else two d
def F1 (t : Int) : List Int := (dayN (dW t)).take 3 ++ [44, 32] ++ two (dD t) ++ [32] ++ monN (dM t) ++ [32] ++ four (dY t) ++ [32] ++ clkL t ++ [32, 71, 77, 84]
def F2 (t : Int) : List Int := dayN (dW t) ++ [44, 32] ++ two (dD t) ++ [45] ++ monN (dM t) ++ [45] ++ two (dY t % 100) ++ [32] ++ clkL t ++ [32, 71, 77, 84]
def F3 (t : Int) : List Int := (dayN (dW t)).take 3 ++ [32] ++ monN (dM t) ++ [32] ++ dayD (dD t) ++ [32] ++ clkL t ++ [32] ++ four (dY t)
def okT (t : Int) : Prop := 0 ≤ t ∧ t ≤ 4102444799
instance (t : Int) : Decidable (okT t) := by unfold okT; infer_instance
theorem t_facts {t : Int} (h : okT t) : dayOK (dY t) (dM t) (dD t) ∧ daysV (dY t) (dM t) (dD t) = t / 86400 := by
  obtain ⟨y, m, d, e, ok, hd⟩ := civ_facts (day := t / 86400) (by have := h.1; omega) (by have := h.2; omega)
  unfold dY dM dD
  rw [e]
  exact ⟨ok, hd⟩
/-- A text is a form of a time; the second form alone for years up to 2069. -/
def Dated (s : ByteArray) (t : Int) : Prop := bytesOf s = F1 t ∨ (bytesOf s = F2 t ∧ dY t ≤ 2069) ∨ bytesOf s = F3 t
/-- What a reader of dates answers. -/
def Reads (s : ByteArray) (r : Int × Bool) : Prop := (r.2 = false → r = (0, false)) ∧ (r.2 = true → okT r.1 ∧ Dated s r.1) ∧ (∀ t, okT t → Dated s t → r = (t, true))
def daysL : List ByteArray := [(⟨#[83, 117, 110, 100, 97, 121]⟩ : ByteArray), (⟨#[77, 111, 110, 100, 97, 121]⟩ : ByteArray), (⟨#[84, 117, 101, 115, 100, 97, 121]⟩ : ByteArray), (⟨#[87, 101, 100, 110, 101, 115, 100, 97, 121]⟩ : ByteArray), (⟨#[84, 104, 117, 114, 115, 100, 97, 121]⟩ : ByteArray), (⟨#[70, 114, 105, 100, 97, 121]⟩ : ByteArray), (⟨#[83, 97, 116, 117, 114, 100, 97, 121]⟩ : ByteArray)]
def monsL : List ByteArray := [(⟨#[74, 97, 110]⟩ : ByteArray), (⟨#[70, 101, 98]⟩ : ByteArray), (⟨#[77, 97, 114]⟩ : ByteArray), (⟨#[65, 112, 114]⟩ : ByteArray), (⟨#[77, 97, 121]⟩ : ByteArray), (⟨#[74, 117, 110]⟩ : ByteArray), (⟨#[74, 117, 108]⟩ : ByteArray), (⟨#[65, 117, 103]⟩ : ByteArray), (⟨#[83, 101, 112]⟩ : ByteArray), (⟨#[79, 99, 116]⟩ : ByteArray), (⟨#[78, 111, 118]⟩ : ByteArray), (⟨#[68, 101, 99]⟩ : ByteArray)]
theorem seven {w : Int} (h0 : 0 ≤ w) (h1 : w ≤ 6) : w = 0 ∨ w = 1 ∨ w = 2 ∨ w = 3 ∨ w = 4 ∨ w = 5 ∨ w = 6 := by omega
theorem twelve {m : Int} (h0 : 1 ≤ m) (h1 : m ≤ 12) : m = 1 ∨ m = 2 ∨ m = 3 ∨ m = 4 ∨ m = 5 ∨ m = 6 ∨ m = 7 ∨ m = 8 ∨ m = 9 ∨ m = 10 ∨ m = 11 ∨ m = 12 := by omega
theorem days_at {w : Int} (h0 : 0 ≤ w) (h1 : w ≤ 6) : bytesOf (rdOf ByteArray.empty daysL w) = dayN w := by
  rcases seven h0 h1 with rfl | rfl | rfl | rfl | rfl | rfl | rfl <;> decide +kernel
theorem mons_at {m : Int} (h0 : 1 ≤ m) (h1 : m ≤ 12) : bytesOf (rdOf ByteArray.empty monsL (m - 1)) = monN m := by
  rcases twelve h0 h1 with rfl | rfl | rfl | rfl | rfl | rfl | rfl | rfl | rfl | rfl | rfl | rfl <;> decide +kernel
theorem dayN_len (w : Int) : 6 ≤ (dayN w).length ∧ (dayN w).length ≤ 9 := by
  unfold dayN
  repeat' split
  all_goals decide
theorem monN_len (m : Int) : (monN m).length = 3 := by
  unfold monN
  repeat' split
  all_goals decide
theorem dW_bd (t : Int) : 0 ≤ dW t ∧ dW t ≤ 6 := by unfold dW; omega
theorem clk_len (t : Int) : (clkL t).length = 8 := rfl
theorem b_comma : bytesOf (⟨#[44, 32]⟩ : ByteArray) = [44, 32] := by decide
theorem b_sp : bytesOf (⟨#[32]⟩ : ByteArray) = [32] := by decide
theorem b_dash : bytesOf (⟨#[45]⟩ : ByteArray) = [45] := by decide
theorem b_col : bytesOf (⟨#[58]⟩ : ByteArray) = [58] := by decide
theorem b_gmt : bytesOf (⟨#[32, 71, 77, 84]⟩ : ByteArray) = [32, 71, 77, 84] := by decide
theorem bytes_take (s : ByteArray) (n : Nat) : bytesOf (s.extract 0 n) = (bytesOf s).take n := by rw [bytesOf_extract, List.drop_zero]
theorem bytes_clk {a b c : ByteArray} {t : Int} (h1 : bytesOf a = two (t / 3600 % 24)) (h2 : bytesOf b = two (t / 60 % 60)) (h3 : bytesOf c = two (t % 60)) : bytesOf ((((a ++ (⟨#[58]⟩ : ByteArray)) ++ b) ++ (⟨#[58]⟩ : ByteArray)) ++ c) = clkL t := by
  simp only [bytesOf_append, h1, h2, h3, b_col]
  rfl
theorem bytes_F1 {dn dd mn yy ck : ByteArray} {t : Int} (h1 : bytesOf dn = (dayN (dW t)).take 3) (h2 : bytesOf dd = two (dD t)) (h3 : bytesOf mn = monN (dM t)) (h4 : bytesOf yy = four (dY t)) (h5 : bytesOf ck = clkL t) :
    bytesOf (((((((((dn ++ (⟨#[44, 32]⟩ : ByteArray)) ++ dd) ++ (⟨#[32]⟩ : ByteArray)) ++ mn) ++ (⟨#[32]⟩ : ByteArray)) ++ yy) ++ (⟨#[32]⟩ : ByteArray)) ++ ck) ++ (⟨#[32, 71, 77, 84]⟩ : ByteArray)) = F1 t := by
  simp only [bytesOf_append, h1, h2, h3, h4, h5, b_comma, b_sp, b_gmt]
  rfl
theorem bytes_F2 {dn dd mn yy ck : ByteArray} {t : Int} (h1 : bytesOf dn = dayN (dW t)) (h2 : bytesOf dd = two (dD t)) (h3 : bytesOf mn = monN (dM t)) (h4 : bytesOf yy = two (dY t % 100)) (h5 : bytesOf ck = clkL t) :
    bytesOf (((((((((dn ++ (⟨#[44, 32]⟩ : ByteArray)) ++ dd) ++ (⟨#[45]⟩ : ByteArray)) ++ mn) ++ (⟨#[45]⟩ : ByteArray)) ++ yy) ++ (⟨#[32]⟩ : ByteArray)) ++ ck) ++ (⟨#[32, 71, 77, 84]⟩ : ByteArray)) = F2 t := by
  simp only [bytesOf_append, h1, h2, h3, h4, h5, b_comma, b_sp, b_gmt, b_dash]
  rfl
theorem bytes_F3 {dn dd mn yy ck : ByteArray} {t : Int} (h1 : bytesOf dn = (dayN (dW t)).take 3) (h2 : bytesOf dd = dayD (dD t)) (h3 : bytesOf mn = monN (dM t)) (h4 : bytesOf yy = four (dY t)) (h5 : bytesOf ck = clkL t) :
    bytesOf ((((((((dn ++ (⟨#[32]⟩ : ByteArray)) ++ mn) ++ (⟨#[32]⟩ : ByteArray)) ++ dd) ++ (⟨#[32]⟩ : ByteArray)) ++ ck) ++ (⟨#[32]⟩ : ByteArray)) ++ yy) = F3 t := by
  simp only [bytesOf_append, h1, h2, h3, h4, h5, b_sp]
  rfl
theorem size_of {s : ByteArray} {l : List Int} (h : bytesOf s = l) : s.size = l.length := by rw [← h, bytesOf_length]
theorem tdiv_pos {t d : Int} (h0 : 0 ≤ t) (h1 : t ≤ 9000000000000000000) (hd : 1 ≤ d) : wrap64 (Int.tdiv t d) = t / d := by
  rw [Int.tdiv_eq_ediv_of_nonneg h0]
  have h2 := Int.ediv_le_self d h0
  have h3 := Int.ediv_nonneg h0 (show 0 ≤ d by omega)
  exact wrap_id (by omega) (by omega)
theorem day1 {d : Int} (h0 : 1 ≤ d) (h1 : d < 10) {a : ByteArray} (h : bytesOf a = fmtL d) : bytesOf ((⟨#[32]⟩ : ByteArray) ++ a) = dayD d := by
  rw [bytesOf_append, h, b_sp, fmtL_one (by omega) (by omega)]
  unfold dayD
  rw [if_pos h1]; rfl
theorem day2 {d : Int} (h1 : ¬ d < 10) {a : ByteArray} (h : bytesOf a = two d) : bytesOf a = dayD d := by
  rw [h]; unfold dayD; rw [if_neg h1]
theorem spec_Week_eq {t : Int} (h : okT t) : spec_WeekdayOf.f (t / 86400) = some (dW t) := by
  have h1 := h.1
  have h2 := h.2
  unfold spec_WeekdayOf.f dW
  rw [spec_Mod_eq, Option.bind_some, modV_pos (by omega) (by omega), spec_Mod_eq, Option.bind_some, modV_pos (by omega) (by omega), wrap_id (by omega) (by omega)]
theorem spec_Clock_ev {t : Int} (h : okT t) : ∃ ck, Ev (fun k => spec_l3Clock.f k t) ck ∧ bytesOf ck = clkL t := by
  have h1 := h.1
  have h2 := h.2
  have e0 : Int.tmod t 86400 = t % 86400 := Int.tmod_eq_emod_of_nonneg h1
  have e1 : wrap64 (Int.tdiv (Int.tmod t 86400) 3600) = t / 3600 % 24 := by rw [e0, tdiv_pos (by omega) (by omega) (by omega)]; omega
  have e2 : Int.tmod (wrap64 (Int.tdiv (Int.tmod t 86400) 60)) 60 = t / 60 % 60 := by rw [e0, tdiv_pos (by omega) (by omega) (by omega), Int.tmod_eq_emod_of_nonneg (by omega)]; omega
  have e3 : Int.tmod (Int.tmod t 86400) 60 = t % 60 := by rw [e0, Int.tmod_eq_emod_of_nonneg (by omega)]; omega
  have a1 := digits_two (n := t / 3600 % 24) (by omega) (by omega)
  have a2 := digits_two (n := t / 60 % 60) (by omega) (by omega)
  have a3 := digits_two (n := t % 60) (by omega) (by omega)
  have s1 : (digitsV (t / 3600 % 24) 2).size = 2 := size_of a1
  have s2 : (digitsV (t / 60 % 60) 2).size = 2 := size_of a2
  have s3 : (digitsV (t % 60) 2).size = 2 := size_of a3
  have z1 : (⟨#[58]⟩ : ByteArray).size = 1 := rfl
  refine ⟨_, ?_, bytes_clk a1 a2 a3⟩
  unfold spec_l3Clock.f
  rw [e1, e2, e3]
  refine Ev.bind (spec_Digits_ev _ _ (by omega)) (Ev.pos (by omega) (Ev.bind (spec_Digits_ev _ _ (by omega)) (Ev.pos ?_ (Ev.pos ?_ (Ev.bind (spec_Digits_ev _ _ (by omega)) (Ev.pos ?_ (Ev.now _)))))))
  all_goals (simp only [ByteArray.size_append]; omega)
set_option maxHeartbeats 4000000 in
theorem spec_Forms_ev {t : Int} (h : okT t) : ∃ A B C, Ev (fun k => spec_l3Forms.f k t) [A, B, C] ∧ bytesOf A = F1 t ∧ bytesOf B = F2 t ∧ bytesOf C = F3 t := by
  have h1 := h.1
  have h2 := h.2
  obtain ⟨ok, _⟩ := t_facts h
  obtain ⟨y1, y2, m1, m2, d1, d2⟩ := ok
  have d3 := (md_bd (dY t) (dM t)).2
  obtain ⟨w1, w2⟩ := dW_bd t
  obtain ⟨ck, hck, bck⟩ := spec_Clock_ev h
  have sck : ck.size = 8 := size_of bck
  have e0 : wrap64 (Int.tdiv t 86400) = t / 86400 := tdiv_pos h1 (by omega) (by omega)
  have ev : civV (t / 86400) = (dY t, dM t, dD t) := rfl
  have em : wrap64 (dM t - 1) = dM t - 1 := wrap_id (by omega) (by omega)
  have ey : Int.tmod (dY t) 100 = dY t % 100 := Int.tmod_eq_emod_of_nonneg (by omega)
  have a1 := digits_two (n := dD t) (by omega) (by omega)
  have a2 := digits_four (n := dY t) (by omega) (by omega)
  have a3 := digits_two (n := dY t % 100) (by omega) (by omega)
  have s1 : (digitsV (dD t) 2).size = 2 := size_of a1
  have s2 : (digitsV (dY t) 4).size = 4 := size_of a2
  have s3 : (digitsV (dY t % 100) 2).size = 2 := size_of a3
  have bd := days_at w1 w2
  have bm := mons_at m1 m2
  have hdl := dayN_len (dW t)
  have sm : (rdOf ByteArray.empty monsL (dM t - 1)).size = 3 := by rw [size_of bm, monN_len]
  have sd := size_of bd
  have b3 : bytesOf ((rdOf ByteArray.empty daysL (dW t)).extract 0 3) = (dayN (dW t)).take 3 := by rw [bytes_take, bd]
  have s4 : ((rdOf ByteArray.empty daysL (dW t)).extract 0 3).size ≤ 3 := by rw [size_of b3, List.length_take]; omega
  have z1 : (⟨#[58]⟩ : ByteArray).size = 1 := rfl
  have z2 : (⟨#[32]⟩ : ByteArray).size = 1 := rfl
  have z3 : (⟨#[45]⟩ : ByteArray).size = 1 := rfl
  have z4 : (⟨#[44, 32]⟩ : ByteArray).size = 2 := rfl
  have z5 : (⟨#[32, 71, 77, 84]⟩ : ByteArray).size = 4 := rfl
  have lD : (daysL.length : Int) = 7 := rfl
  have lM : (monsL.length : Int) = 12 := rfl
  have sf := fmtV_size (n := dD t) (by omega) (by omega)
  refine ⟨_, _, if dD t < 10 then (((((((((rdOf ByteArray.empty daysL (dW t)).extract 0 3) ++ (⟨#[32]⟩ : ByteArray)) ++ (rdOf ByteArray.empty monsL (dM t - 1))) ++ (⟨#[32]⟩ : ByteArray)) ++ ((⟨#[32]⟩ : ByteArray) ++ fmtV (dD t))) ++ (⟨#[32]⟩ : ByteArray)) ++ ck) ++ (⟨#[32]⟩ : ByteArray)) ++ digitsV (dY t) 4 else (((((((((rdOf ByteArray.empty daysL (dW t)).extract 0 3) ++ (⟨#[32]⟩ : ByteArray)) ++ (rdOf ByteArray.empty monsL (dM t - 1))) ++ (⟨#[32]⟩ : ByteArray)) ++ digitsV (dD t) 2) ++ (⟨#[32]⟩ : ByteArray)) ++ ck) ++ (⟨#[32]⟩ : ByteArray)) ++ digitsV (dY t) 4, ?_, bytes_F1 b3 a1 bm a2 bck, bytes_F2 bd a1 bm a3 bck, ?_⟩
  · unfold spec_l3Forms.f
    rw [e0]
    refine Ev.bind (spec_CivilOf_ev _) ?_
    rw [ev, show spec_l3Days.f = some daysL from rfl, show spec_l3Months.f = some monsL from rfl, spec_Week_eq h]
    simp only [Option.bind_some]
    rw [em, ey]
    generalize rdOf ByteArray.empty daysL (dW t) = DN at *
    generalize rdOf ByteArray.empty monsL (dM t - 1) = MN at *
    generalize DN.extract 0 3 = D3 at *
    refine Ev.pos (by omega) (Ev.pos (by omega) (Ev.pos (by omega) (Ev.pos (by omega) (Ev.pos (by omega) (Ev.pos (by omega) ?_)))))
    repeat first
      | (with_reducible refine Ev.pos (c := _ ≤ 9223372036854775807) ?_ ?_; first | omega | (simp only [ByteArray.size_append]; omega))
      | (with_reducible refine Ev.bind (spec_Digits_ev _ _ ?_) ?_; omega)
      | (with_reducible refine Ev.bind hck ?_)
    by_cases c : dD t < 10
    · rw [if_pos c]
      refine Ev.pos c (Ev.bind (spec_Fmt_ev _ (by omega) (by omega)) ?_)
      repeat first
        | (with_reducible refine Ev.pos (c := _ ≤ 9223372036854775807) ?_ ?_; first | omega | (simp only [ByteArray.size_append]; omega))
        | (with_reducible refine Ev.bind (spec_Digits_ev _ _ ?_) ?_; omega)
        | (with_reducible refine Ev.bind hck ?_)
      exact Ev.now _
    · rw [if_neg c]
      refine Ev.neg c ?_
      repeat first
        | (with_reducible refine Ev.pos (c := _ ≤ 9223372036854775807) ?_ ?_; first | omega | (simp only [ByteArray.size_append]; omega))
        | (with_reducible refine Ev.bind (spec_Digits_ev _ _ ?_) ?_; omega)
        | (with_reducible refine Ev.bind hck ?_)
      exact Ev.now _
  · by_cases c : dD t < 10
    · rw [if_pos c]
      exact bytes_F3 b3 (day1 d1 c (bytesOf_fmt _)) bm a2 bck
    · rw [if_neg c]
      exact bytes_F3 b3 (day2 c a1) bm a2 bck
theorem impl_Week_eq {t : Int} (h : okT t) : impl_WeekdayOf.f (t / 86400) = some (dW t) := by
  have h1 := h.1
  have h2 := h.2
  unfold impl_WeekdayOf.f dW
  rw [impl_Mod_eq, Option.bind_some, modV_pos (by omega) (by omega), impl_Mod_eq, Option.bind_some, modV_pos (by omega) (by omega), wrap_id (by omega) (by omega)]
theorem dayT_at {w : Int} (h0 : 0 ≤ w) (h1 : w ≤ 6) : bytesOf (dayT w) = (dayN w).take 3 := by
  rcases seven h0 h1 with rfl | rfl | rfl | rfl | rfl | rfl | rfl <;> decide +kernel
theorem monT_at {m : Int} (h0 : 1 ≤ m) (h1 : m ≤ 12) : bytesOf (monT m) = monN m := by
  rcases twelve h0 h1 with rfl | rfl | rfl | rfl | rfl | rfl | rfl | rfl | rfl | rfl | rfl | rfl <;> decide +kernel
theorem full_at {w : Int} (h0 : 0 ≤ w) (h1 : w ≤ 6) : impl_fullDay.f w = some (rdOf ByteArray.empty daysL w) := by
  unfold impl_fullDay.f
  rw [Option.bind_some, if_pos h0, if_pos (by show w < (7 : Int); omega)]
  rfl
theorem impl_Text_no {t : Int} (h : ¬ okT t) (a : Int) (k : Nat) : impl_dateText.f k t a = some (⟨#[]⟩ : ByteArray) := by unfold impl_dateText.f; exact if_neg h
set_option maxHeartbeats 4000000 in
theorem impl_Text_ev {t : Int} (h : okT t) (a : Int) : ∃ x, Ev (fun k => impl_dateText.f k t a) x ∧ (a = 1 → bytesOf x = F1 t) ∧ (a = 2 → bytesOf x = if dY t ≤ 2069 then F2 t else []) ∧ (a ≠ 1 → a ≠ 2 → bytesOf x = F3 t) := by
  have h1 := h.1
  have h2 := h.2
  obtain ⟨ok, _⟩ := t_facts h
  obtain ⟨y1, y2, m1, m2, d1, d2⟩ := ok
  have d3 := (md_bd (dY t) (dM t)).2
  obtain ⟨w1, w2⟩ := dW_bd t
  have e0 : wrap64 (Int.tdiv t 86400) = t / 86400 := tdiv_pos h1 (by omega) (by omega)
  have e1 : Int.tmod (wrap64 (Int.tdiv t 3600)) 24 = t / 3600 % 24 := by rw [tdiv_pos h1 (by omega) (by omega), Int.tmod_eq_emod_of_nonneg (by omega)]
  have e2 : Int.tmod (wrap64 (Int.tdiv t 60)) 60 = t / 60 % 60 := by rw [tdiv_pos h1 (by omega) (by omega), Int.tmod_eq_emod_of_nonneg (by omega)]
  have e3 : Int.tmod t 60 = t % 60 := Int.tmod_eq_emod_of_nonneg h1
  have ev : civV (t / 86400) = (dY t, dM t, dD t) := rfl
  have ey : Int.tmod (dY t) 100 = dY t % 100 := Int.tmod_eq_emod_of_nonneg (by omega)
  have c1 := digits_two (n := t / 3600 % 24) (by omega) (by omega)
  have c2 := digits_two (n := t / 60 % 60) (by omega) (by omega)
  have c3 := digits_two (n := t % 60) (by omega) (by omega)
  have bck := bytes_clk c1 c2 c3
  have a1 := digits_two (n := dD t) (by omega) (by omega)
  have a2 : bytesOf (fmtV (dY t)) = four (dY t) := by rw [bytesOf_fmt, fmtL_four (by omega) (by omega)]
  have a3 := digits_two (n := dY t % 100) (by omega) (by omega)
  have z1 : (digitsV (t / 3600 % 24) 2).size = 2 := size_of c1
  have z2 : (digitsV (t / 60 % 60) 2).size = 2 := size_of c2
  have z3 : (digitsV (t % 60) 2).size = 2 := size_of c3
  have z4 : (digitsV (dD t) 2).size = 2 := size_of a1
  have z5 := fmtV_size (n := dY t) (by omega) (by omega)
  have z6 : (digitsV (dY t % 100) 2).size = 2 := size_of a3
  have z7 := fmtV_size (n := dD t) (by omega) (by omega)
  have bd := days_at w1 w2
  have b3 := dayT_at w1 w2
  have bm := monT_at m1 m2
  have hdl := dayN_len (dW t)
  have sd := size_of bd
  have head : ∀ x, Ev (fun k => impl_dateText.form k a (dY t) (dD t) (dW t) (dayT (dW t)) (monT (dM t)) ((((digitsV (t / 3600 % 24) 2 ++ (⟨#[58]⟩ : ByteArray)) ++ digitsV (t / 60 % 60) 2) ++ (⟨#[58]⟩ : ByteArray)) ++ digitsV (t % 60) 2)) x → Ev (fun k => impl_dateText.f k t a) x := by
    intro x hx
    unfold impl_dateText.f
    rw [e0, e1, e2, e3]
    refine Ev.pos h (Ev.bind (impl_CivilOf_ev _) ?_)
    rw [ev, impl_Week_eq h]
    simp only [Option.bind_some]
    exact Ev.bind (impl_Digits_ev _ _ (by omega)) (Ev.bind (impl_Digits_ev _ _ (by omega)) (Ev.bind (impl_Digits_ev _ _ (by omega)) (Ev.pos (by omega) hx)))
  by_cases g1 : a = 1
  · subst g1
    refine ⟨_, head _ ?_, fun _ => bytes_F1 b3 a1 bm a2 bck, fun z => absurd z (by decide), fun z => absurd rfl z⟩
    unfold impl_dateText.form
    refine Ev.pos rfl (Ev.bind (impl_Digits_ev _ _ (by omega)) ?_)
    rw [impl_Fmt_eq _ (by omega) (by omega)]
    simp only [Option.bind_some]
    exact Ev.pos (by omega) (Ev.now _)
  · by_cases g2 : a = 2
    · subst g2
      by_cases g3 : dY t ≤ 2069
      · refine ⟨_, head _ ?_, fun z => absurd z (by decide), fun _ => by rw [if_pos g3]; exact bytes_F2 bd a1 bm a3 bck, fun _ z => absurd rfl z⟩
        unfold impl_dateText.form
        rw [full_at w1 w2, ey]
        refine Ev.neg (by decide) (Ev.pos rfl (Ev.neg (by omega) ?_))
        simp only [Option.bind_some]
        exact Ev.bind (impl_Digits_ev _ _ (by omega)) (Ev.bind (impl_Digits_ev _ _ (by omega)) (Ev.pos (by omega) (Ev.now _)))
      · refine ⟨⟨#[]⟩, head _ ?_, fun z => absurd z (by decide), fun _ => by rw [if_neg g3]; decide, fun _ z => absurd rfl z⟩
        unfold impl_dateText.form
        exact Ev.neg (by decide) (Ev.pos rfl (Ev.pos (by omega) (Ev.now _)))
    · by_cases c : dD t < 10
      · refine ⟨_, head _ ?_, fun z => absurd z g1, fun z => absurd z g2, fun _ _ => bytes_F3 b3 (day1 d1 c (bytesOf_fmt _)) bm a2 bck⟩
        unfold impl_dateText.form
        refine Ev.neg g1 (Ev.neg g2 ?_)
        rw [impl_Fmt_eq _ (by omega) (by omega), impl_Fmt_eq (dY t) (by omega) (by omega)]
        simp only [Option.bind_some]
        exact Ev.pos (by omega) (Ev.pos c (Ev.now _))
      · have bf : bytesOf (fmtV (dD t)) = two (dD t) := by rw [bytesOf_fmt, fmtL_two (by omega) (by omega)]
        refine ⟨_, head _ ?_, fun z => absurd z g1, fun z => absurd z g2, fun _ _ => bytes_F3 b3 (day2 c bf) bm a2 bck⟩
        unfold impl_dateText.form
        refine Ev.neg g1 (Ev.neg g2 ?_)
        rw [impl_Fmt_eq _ (by omega) (by omega), impl_Fmt_eq (dY t) (by omega) (by omega)]
        simp only [Option.bind_some]
        exact Ev.pos (by omega) (Ev.neg c (Ev.now _))
theorem impl_FormatDate_ev (t : Int) : ∃ x, Ev (fun k => impl_FormatDate.f k t) x ∧ bytesOf x = if okT t then F1 t else [] := by
  unfold impl_FormatDate.f
  by_cases h : okT t
  · obtain ⟨x, hx, h1, _, _⟩ := impl_Text_ev h 1
    exact ⟨x, Ev.bind hx (Ev.now _), by rw [if_pos h]; exact h1 rfl⟩
  · refine ⟨⟨#[]⟩, Ev.mp (Ev.now _) (fun k => by rw [impl_Text_no h, Option.bind_some]), by rw [if_neg h]; decide⟩
theorem four_split {n : Int} (h : 0 ≤ n) : four n = two (n / 100) ++ two (n % 100) := by
  have e1 : n / 1000 = n / 100 / 10 := by omega
  have e2 : n / 10 % 10 = n % 100 / 10 := by omega
  have e3 : n % 10 = n % 100 % 10 := by omega
  unfold four two
  rw [e1, e2, e3]
  rfl
theorem drop_at {P Q : List Int} (j : Nat) : (P ++ Q).drop (P.length + j) = Q.drop j := by
  rw [List.drop_append]
  simp [List.drop_eq_nil_of_le]
theorem ext_at {s : ByteArray} {P Q : List Int} (j w : Nat) (h : bytesOf s = P ++ Q) {a b : Nat} (ha : a = P.length + j) (hb : b = P.length + j + w) : bytesOf (s.extract a b) = (Q.drop j).take w := by
  rw [bytesOf_extract, h, ha, hb, List.drop_take, drop_at]
  congr 1
  omega
theorem F1_len (t : Int) : (F1 t).length = 29 := by
  have := dayN_len (dW t)
  simp only [F1, List.length_append, List.length_take, monN_len, clk_len, two, four, List.length_cons, List.length_nil]; omega
theorem F2_len (t : Int) : (F2 t).length = (dayN (dW t)).length + 24 := by
  simp only [F2, List.length_append, monN_len, clk_len, two, List.length_cons, List.length_nil]
theorem dayD_len (d : Int) : (dayD d).length = 2 := by unfold dayD; split <;> rfl
theorem F3_len (t : Int) : (F3 t).length = 24 := by
  have := dayN_len (dW t)
  simp only [F3, List.length_append, List.length_take, monN_len, clk_len, dayD_len, four, List.length_cons, List.length_nil]; omega
theorem three_of {l : List Int} (h : l.length = 3) : ∃ a b c, l = [a, b, c] := by
  match l, h with
  | [a, b, c], _ => exact ⟨a, b, c, rfl⟩
theorem F1_parts {t : Int} (h : okT t) : (F1 t).drop 12 = two (dY t / 100) ++ (two (dY t % 100) ++ ([32] ++ (clkL t ++ [32, 71, 77, 84]))) ∧ ((F1 t).drop 8).take 3 = monN (dM t) ∧ ((F1 t).drop 5).take 2 = two (dD t) := by
  obtain ⟨ok, _⟩ := t_facts h
  have hd := dayN_len (dW t)
  obtain ⟨a, b, c, e⟩ := three_of (l := (dayN (dW t)).take 3) (by rw [List.length_take]; omega)
  obtain ⟨p, q, r, f⟩ := three_of (monN_len (dM t))
  unfold F1
  rw [e, f, four_split (by have := ok.1; omega)]
  exact ⟨rfl, rfl, rfl⟩
theorem F2_parts {t : Int} (h : okT t) : ∃ Q, F2 t = dayN (dW t) ++ Q ∧ Q.length = 24 ∧ (Q.drop 9).take 2 = two (dY t % 100) ∧ (Q.drop 5).take 3 = monN (dM t) ∧ (Q.drop 2).take 2 = two (dD t) ∧ Q.drop 12 = clkL t ++ [32, 71, 77, 84] ∧ Q.take 1 = [44] := by
  obtain ⟨p, q, r, f⟩ := three_of (monN_len (dM t))
  refine ⟨[44, 32] ++ two (dD t) ++ [45] ++ monN (dM t) ++ [45] ++ two (dY t % 100) ++ [32] ++ clkL t ++ [32, 71, 77, 84], ?_, ?_, ?_⟩
  · unfold F2; simp only [List.append_assoc]
  · rw [f]; rfl
  · rw [f]; exact ⟨rfl, rfl, rfl, rfl, rfl⟩
theorem F3_parts {t : Int} (h : okT t) : (F3 t).drop 20 = two (dY t / 100) ++ two (dY t % 100) ∧ ((F3 t).drop 4).take 3 = monN (dM t) ∧ ((F3 t).drop 8).take 2 = dayD (dD t) ∧ (F3 t).drop 11 = clkL t ++ ([32] ++ four (dY t)) := by
  obtain ⟨ok, _⟩ := t_facts h
  have hd := dayN_len (dW t)
  obtain ⟨a, b, c, e⟩ := three_of (l := (dayN (dW t)).take 3) (by rw [List.length_take]; omega)
  obtain ⟨p, q, r, f⟩ := three_of (monN_len (dM t))
  obtain ⟨u, v, g⟩ : ∃ u v, dayD (dD t) = [u, v] := by unfold dayD; split <;> exact ⟨_, _, rfl⟩
  unfold F3
  rw [e, f, g]
  refine ⟨?_, rfl, rfl, rfl⟩
  rw [four_split (by have := ok.1; omega)]; rfl
def Tt (dv h mi se : Int) : Int := wrap64 ((wrap64 ((wrap64 ((wrap64 (86400 * dv)) + (wrap64 (3600 * h)))) + (wrap64 (60 * mi)))) + se)
theorem Tt_eq {t : Int} (h : okT t) : Tt (t / 86400) (t / 3600 % 24) (t / 60 % 60) (t % 60) = t := by
  have h1 := h.1
  have h2 := h.2
  unfold Tt
  rw [wrap_id (n := 86400 * (t / 86400)) (by omega) (by omega), wrap_id (n := 3600 * (t / 3600 % 24)) (by omega) (by omega), wrap_id (n := 60 * (t / 60 % 60)) (by omega) (by omega), wrap_id (n := 86400 * (t / 86400) + 3600 * (t / 3600 % 24)) (by omega) (by omega), wrap_id (n := 86400 * (t / 86400) + 3600 * (t / 3600 % 24) + 60 * (t / 60 % 60)) (by omega) (by omega), wrap_id (by omega) (by omega)]
  omega
def cutI (sep : List Int) : List Int → List Int × List Int × Bool
  | [] => ([], [], false)
  | b :: r => if sep.isPrefixOf (b :: r) = true then ([], (b :: r).drop sep.length, true) else (b :: (cutI sep r).1, (cutI sep r).2)
def cutV (sep : List Int) (s : ByteArray) : ByteArray × ByteArray × Bool := (strOfNums (cutI sep (bytesOf s)).1, strOfNums (cutI sep (bytesOf s)).2.1, (cutI sep (bytesOf s)).2.2)
theorem prefix_map (u l : List UInt8) : (u.map fun b => (b.toNat : Int)).isPrefixOf (l.map fun b => (b.toNat : Int)) = u.isPrefixOf l := by
  induction u generalizing l with
  | nil => simp
  | cons a u ih =>
    cases l with
    | nil => rfl
    | cons b l =>
      simp only [List.map_cons, List.isPrefixOf, ih]
      congr 1
      by_cases h : a = b
      · subst h; simp
      · have : ¬ (a.toNat : Int) = (b.toNat : Int) := fun z => h (UInt8.toNat_inj.1 (by omega))
        rw [beq_eq_false_iff_ne.mpr h, beq_eq_false_iff_ne.mpr this]
theorem libcut_cons_hit {b : UInt8} {l sep : List UInt8} (h : sep.isPrefixOf (b :: l) = true) : Lib.cut (b :: l) sep = ([], (b :: l).drop sep.length, true) := by
  have e : Lib.index (b :: l) sep = 0 := by unfold Lib.index; rw [if_pos h]
  unfold Lib.cut
  rw [e]; simp
theorem libcut_cons_miss {b : UInt8} {l sep : List UInt8} (h : ¬ sep.isPrefixOf (b :: l) = true) : Lib.cut (b :: l) sep = (b :: (Lib.cut l sep).1, (Lib.cut l sep).2) := by
  have e : Lib.index (b :: l) sep = if (Lib.index l sep == -1) = true then -1 else Lib.index l sep + 1 := by rw [Lib.index, if_neg h]
  have hg := Lib.index_ge l sep
  unfold Lib.cut
  by_cases g : Lib.index l sep = -1
  · rw [e, g]; simp
  · have g2 : 0 ≤ Lib.index l sep := by omega
    have e0 : Lib.index (b :: l) sep = Lib.index l sep + 1 := by rw [e, if_neg (by simpa using g)]
    rw [e0, if_pos (by omega), if_pos g2]
    obtain ⟨n, hn⟩ : ∃ n : Nat, Lib.index l sep = n := ⟨(Lib.index l sep).toNat, by omega⟩
    rw [hn]
    have e1 : ((n : Int) + 1).toNat = n + 1 := by omega
    have e2 : (n : Int).toNat = n := by omega
    rw [e1, e2, List.take_succ_cons]
    have e3 : n + 1 + sep.length = (n + sep.length) + 1 := by omega
    rw [e3, List.drop_succ_cons]
theorem libcut_map (l sep : List UInt8) (hs : sep ≠ []) :
    ((Lib.cut l sep).1.map fun b => (b.toNat : Int)) = (cutI (sep.map fun b => (b.toNat : Int)) (l.map fun b => (b.toNat : Int))).1 ∧ ((Lib.cut l sep).2.1.map fun b => (b.toNat : Int)) = (cutI (sep.map fun b => (b.toNat : Int)) (l.map fun b => (b.toNat : Int))).2.1 ∧
    (Lib.cut l sep).2.2 = (cutI (sep.map fun b => (b.toNat : Int)) (l.map fun b => (b.toNat : Int))).2.2 := by
  induction l with
  | nil =>
    have e : Lib.cut [] sep = ([], [], false) := by
      unfold Lib.cut Lib.index
      cases sep with
      | nil => exact absurd rfl hs
      | cons a s => simp
    rw [e]; exact ⟨rfl, rfl, rfl⟩
  | cons b r ih =>
    have hp := prefix_map sep (b :: r)
    rw [List.map_cons] at hp ⊢
    by_cases h : sep.isPrefixOf (b :: r) = true
    · rw [libcut_cons_hit h]
      unfold cutI
      rw [if_pos (by rw [hp]; exact h)]
      refine ⟨rfl, ?_, rfl⟩
      simp only
      rw [List.map_drop, List.map_cons, List.length_map]
    · rw [libcut_cons_miss h]
      unfold cutI
      rw [if_neg (by rw [hp]; exact h)]
      refine ⟨?_, ih.2.1, ih.2.2⟩
      simp only [List.map_cons]
      rw [ih.1]
theorem strings_Cut_eq (s sep : ByteArray) (hs : s.size < 4294967281) (hp : bytesOf sep ≠ []) : strings_Cut.f s sep = some (cutV (bytesOf sep) s) := by
  have hp2 : sep.data.toList ≠ [] := fun z => hp (by unfold bytesOf; rw [z]; rfl)
  obtain ⟨h1, h2, h3⟩ := libcut_map s.data.toList sep.data.toList hp2
  unfold strings_Cut.f cutV
  rw [if_pos hs]
  have e : ∀ (l : List UInt8) (m : List Int), (l.map fun b => (b.toNat : Int)) = m → (⟨l.toArray⟩ : ByteArray) = strOfNums m := by
    intro l m h
    have hb : bytesOf ⟨l.toArray⟩ = m := h
    rw [← hb, strOf_bytesOf]
  rw [e _ _ h1, e _ _ h2, h3]
  rfl
/-- A cut at a sign that does not stand ahead. -/
theorem cut_at (c : Int) (a r : List Int) (h : ∀ x ∈ a, x ≠ c) : cutI [c] (a ++ c :: r) = (a, r, true) := by
  induction a with
  | nil => unfold cutI; simp
  | cons b a ih =>
    have hb := h b (by simp)
    rw [List.cons_append]
    conv => lhs; unfold cutI
    rw [if_neg (by simpa using Ne.symm hb), ih (fun x hx => h x (by simp [hx]))]
theorem decFrom_bd : ∀ (l : List UInt8) (acc n : Nat), Lib.decFrom acc l = some n → n + 1 ≤ (acc + 1) * 10 ^ l.length := by
  intro l
  induction l with
  | nil => intro acc n h; simp only [Lib.decFrom, Option.some.injEq] at h; subst h; simp
  | cons b r ih =>
    intro acc n h
    simp only [Lib.decFrom] at h
    cases hb : Lib.digitVal b with
    | none => rw [hb] at h; simp at h
    | some d =>
      rw [hb] at h
      have hd : d ≤ 9 := by
        unfold Lib.digitVal at hb
        split at hb
        · simp only [Option.some.injEq] at hb; omega
        · simp at hb
      have := ih _ _ h
      rw [List.length_cons, Nat.pow_succ]
      have h2 : (acc * 10 + d + 1) * 10 ^ r.length ≤ ((acc + 1) * 10) * 10 ^ r.length := Nat.mul_le_mul_right _ (by omega)
      have h3 : (acc + 1) * (10 ^ r.length * 10) = ((acc + 1) * 10) * 10 ^ r.length := by rw [Nat.mul_comm (10 ^ r.length) 10, Nat.mul_assoc]
      omega
theorem decNat_bd {l : List UInt8} {n : Nat} (hl : l.length ≤ 8) (h : Lib.decNat l = some n) : n ≤ 100000000 := by
  unfold Lib.decNat at h
  split at h
  · simp at h
  · have := decFrom_bd l 0 n h
    have h2 : 10 ^ l.length ≤ 10 ^ 8 := Nat.pow_le_pow_right (by omega) hl
    omega
theorem atoi_bd {l : List UInt8} {n : Int} (hl : l.length ≤ 8) (h : Lib.atoi l = some n) : -100000000 ≤ n ∧ n ≤ 100000000 := by
  cases l with
  | nil => simp [Lib.atoi] at h
  | cons b r =>
    rw [List.length_cons] at hl
    simp only [Lib.atoi] at h
    by_cases c : (b == 45) = true
    · rw [if_pos c] at h
      obtain ⟨m, hm, e⟩ := Option.map_eq_some_iff.1 h
      have := decNat_bd (by omega) hm
      omega
    · rw [if_neg c] at h
      by_cases c2 : (b == 43) = true
      · rw [if_pos c2] at h
        obtain ⟨m, hm, e⟩ := Option.map_eq_some_iff.1 h
        have := decNat_bd (by omega) hm
        omega
      · rw [if_neg c2] at h
        obtain ⟨m, hm, e⟩ := Option.map_eq_some_iff.1 h
        have := decNat_bd (l := b :: r) (by rw [List.length_cons]; omega) hm
        omega
theorem dg_some {x : ByteArray} (h : x.size ≤ 8) : ∃ v, impl_digitsIn.f x = some v ∧ -100000000 ≤ v ∧ v ≤ 100000000 := by
  have hx : x.data.toList.length = x.size := by rw [Array.length_toList]; rfl
  have hl : (Lib.trimLeftS x.data.toList [32]).length ≤ 8 := by
    unfold Lib.trimLeftS
    have := (List.dropWhile_sublist (l := x.data.toList) (fun b => ([32] : List UInt8).contains b)).length_le
    omega
  unfold impl_digitsIn.f
  rw [if_pos ⟨by omega, by omega⟩]
  refine ⟨_, rfl, ?_⟩
  split
  · omega
  · rename_i n hn
    exact atoi_bd hl hn
theorem dg_two {x : ByteArray} {n : Int} (h : bytesOf x = two n) (h0 : 0 ≤ n) (h1 : n ≤ 99) : impl_digitsIn.f x = some n := by
  have all : ∀ m : Fin 100, impl_digitsIn.f (strOfNums (two (m.val : Int))) = some (m.val : Int) := by decide +kernel
  have := all ⟨n.toNat, by omega⟩
  rw [← strOf_bytesOf x, h]
  simpa [Int.toNat_of_nonneg h0] using this
theorem dg_four {x : ByteArray} {n : Int} (h : bytesOf x = four n) (h0 : 1970 ≤ n) (h1 : n ≤ 2099) : impl_digitsIn.f x = some n := by
  have all : ∀ m : Fin 130, impl_digitsIn.f (strOfNums (four (1970 + (m.val : Int)))) = some (1970 + (m.val : Int)) := by decide +kernel
  have := all ⟨(n - 1970).toNat, by omega⟩
  rw [← strOf_bytesOf x, h]
  simp only at this
  rw [show 1970 + ((n - 1970).toNat : Int) = n by omega] at this
  exact this
theorem dg_day {x : ByteArray} {n : Int} (h : bytesOf x = dayD n) (h0 : 1 ≤ n) (h1 : n ≤ 31) : impl_digitsIn.f x = some n := by
  have all : ∀ m : Fin 31, impl_digitsIn.f (strOfNums (dayD (1 + (m.val : Int)))) = some (1 + (m.val : Int)) := by decide +kernel
  have := all ⟨(n - 1).toNat, by omega⟩
  rw [← strOf_bytesOf x, h]
  simp only at this
  rw [show 1 + ((n - 1).toNat : Int) = n by omega] at this
  exact this
def janDec : ByteArray := (⟨#[74, 97, 110, 70, 101, 98, 77, 97, 114, 65, 112, 114, 77, 97, 121, 74, 117, 110, 74, 117, 108, 65, 117, 103, 83, 101, 112, 79, 99, 116, 78, 111, 118, 68, 101, 99]⟩ : ByteArray)
theorem mon_idx {x : ByteArray} {m : Int} (h : bytesOf x = monN m) (h0 : 1 ≤ m) (h1 : m ≤ 12) : strings_Index.f janDec x = some (3 * (m - 1)) := by
  have e : x = strOfNums (monN m) := by rw [← h, strOf_bytesOf]
  subst e
  clear h
  rcases twelve h0 h1 with rfl | rfl | rfl | rfl | rfl | rfl | rfl | rfl | rfl | rfl | rfl | rfl <;> decide +kernel
theorem impl_time_ev (y d : Int) (mon clk : ByteArray) (hd1 : -9223372036854775808 ≤ d) (hd2 : d ≤ 9223372036854775807) (hc : 8 ≤ clk.size) :
    ∃ v, Ev (fun k => impl_timeOf.f k y mon d clk) v ∧ (∀ t, okT t → y = dY t → bytesOf mon = monN (dM t) → d = dD t → bytesOf clk = clkL t → v = (t, true)) := by
  have hix : strings_Index.f janDec mon = some (Lib.index janDec.data.toList mon.data.toList) := by unfold strings_Index.f; exact if_pos (by decide)
  generalize Lib.index janDec.data.toList mon.data.toList = ix at hix
  have dev := impl_DaysOf_ev y (wrap64 ((wrap64 (Int.tdiv ix 3)) + 1)) d hd1 hd2
  have x1 : (clk.extract 0 2).size ≤ 8 := by rw [ByteArray.size_extract]; omega
  have x2 : (clk.extract 3 5).size ≤ 8 := by rw [ByteArray.size_extract]; omega
  have x3 : (clk.extract 6 8).size ≤ 8 := by rw [ByteArray.size_extract]; omega
  obtain ⟨a, ea, _, _⟩ := dg_some x1
  obtain ⟨b, eb, _, _⟩ := dg_some x2
  obtain ⟨c, ec, _, _⟩ := dg_some x3
  have known : ∀ t, okT t → y = dY t → bytesOf mon = monN (dM t) → d = dD t → bytesOf clk = clkL t → daysV y (wrap64 ((wrap64 (Int.tdiv ix 3)) + 1)) d = t / 86400 ∧ a = t / 3600 % 24 ∧ b = t / 60 % 60 ∧ c = t % 60 := by
    intro t ht hy hm hd hk
    obtain ⟨⟨y1, y2, mm1, mm2, dd1, dd2⟩, t2⟩ := t_facts ht
    have i1 := mon_idx hm mm1 mm2
    rw [hix] at i1
    have i1 := Option.some.inj i1
    have k1 := dg_two (x := clk.extract 0 2) (n := t / 3600 % 24) (by rw [bytesOf_extract, hk]; rfl) (by omega) (by omega)
    have k2 := dg_two (x := clk.extract 3 5) (n := t / 60 % 60) (by rw [bytesOf_extract, hk]; rfl) (by omega) (by omega)
    have k3 := dg_two (x := clk.extract 6 8) (n := t % 60) (by rw [bytesOf_extract, hk]; rfl) (by omega) (by omega)
    rw [ea] at k1; rw [eb] at k2; rw [ec] at k3
    refine ⟨?_, Option.some.inj k1, Option.some.inj k2, Option.some.inj k3⟩
    have em : wrap64 ((wrap64 (Int.tdiv ix 3)) + 1) = dM t := by
      rw [i1, tdiv_pos (by omega) (by omega) (by omega), show 3 * (dM t - 1) / 3 = dM t - 1 by omega, wrap_id (by omega) (by omega)]; omega
    rw [em, hy, hd, t2]
  unfold impl_timeOf.f
  have hix2 : strings_Index.f (⟨#[74, 97, 110, 70, 101, 98, 77, 97, 114, 65, 112, 114, 77, 97, 121, 74, 117, 110, 74, 117, 108, 65, 117, 103, 83, 101, 112, 79, 99, 116, 78, 111, 118, 68, 101, 99]⟩ : ByteArray) mon = some ix := hix
  rw [hix2]
  simp only [Option.bind_some]
  by_cases g : daysV y (wrap64 ((wrap64 (Int.tdiv ix 3)) + 1)) d < 0
  · refine ⟨(0, false), Ev.bind dev (Ev.pos g (Ev.now _)), fun t ht h1 h2 h3 h4 => ?_⟩
    have := (known t ht h1 h2 h3 h4).1
    have := ht.1
    omega
  · refine ⟨(Tt (daysV y (wrap64 ((wrap64 (Int.tdiv ix 3)) + 1)) d) a b c, true), Ev.bind dev (Ev.neg g (Ev.pos (by omega) (Ev.pos (by omega) ?_))), fun t ht h1 h2 h3 h4 => ?_⟩
    · rw [ea, eb, ec]
      simp only [Option.bind_some]
      refine Ev.pos (by omega) (Ev.pos (by omega) (Ev.pos (by omega) (Ev.pos (by omega) ?_)))
      unfold Tt
      rw [Int.mul_comm 86400, Int.mul_comm 3600, Int.mul_comm 60]
      exact Ev.now _
    · obtain ⟨q1, q2, q3, q4⟩ := known t ht h1 h2 h3 h4
      rw [q1, q2, q3, q4, Tt_eq ht]
theorem ext_size (s : ByteArray) (a b : Nat) (h : b ≤ s.size) : (s.extract a b).size = b - a := by rw [ByteArray.size_extract]; omega
theorem impl_d1 (s : ByteArray) : ∃ v, Ev (fun k => impl_dateIn.f k s 1) v ∧ (∀ t, okT t → bytesOf s = F1 t → v = (t, true)) ∧ (v.2 = true → bytesOf s ≠ []) := by
  by_cases h : (s.size : Int) = 29
  · obtain ⟨y, ey, _, _⟩ := dg_some (x := s.extract 12 16) (by rw [ext_size _ _ _ (by omega)]; omega)
    obtain ⟨d, ed, _, _⟩ := dg_some (x := s.extract 5 7) (by rw [ext_size _ _ _ (by omega)]; omega)
    obtain ⟨v, hv, hc⟩ := impl_time_ev y d (s.extract 8 11) (s.extract 17 25) (by omega) (by omega) (by rw [ext_size _ _ _ (by omega)]; omega)
    refine ⟨v, ?_, ?_, fun _ z => by have := bytesOf_length s; rw [z] at this; simp at this; omega⟩
    · unfold impl_dateIn.f
      refine Ev.neg (by decide) (Ev.pos rfl (Ev.step (f := fun k => (impl_timeOf.f k y (s.extract 8 11) d (s.extract 17 25)).bind fun bt => some (bt.1, bt.2)) (fun k => ?_) (Ev.bind hv (Ev.now _))))
      simp only [impl_dateIn.j1]
      rw [if_pos (by rw [h]; rfl), if_pos (by omega), if_pos (by omega), ey, Option.bind_some, if_pos (by omega), if_pos (by omega), if_pos (by omega), if_pos (by omega), ed, Option.bind_some, if_pos (by omega), if_pos (by omega)]
    · intro t ht g
      have g : bytesOf s = [] ++ F1 t := g
      obtain ⟨q1, q2, q3⟩ := F1_parts ht
      obtain ⟨⟨y1, y2, mm1, mm2, dd1, dd2⟩, _⟩ := t_facts ht
      have dd3 := (md_bd (dY t) (dM t)).2
      have b1 := dg_four (x := s.extract 12 16) (n := dY t) (by rw [ext_at (a := 12) (b := 16) 12 4 g rfl rfl, q1, four_split (by omega)]; rfl) y1 y2
      have b2 := dg_two (x := s.extract 5 7) (n := dD t) (by rw [ext_at (a := 5) (b := 7) 5 2 g rfl rfl, q3]) (by omega) (by omega)
      rw [ey] at b1; rw [ed] at b2
      refine hc t ht (Option.some.inj b1) (by rw [ext_at (a := 8) (b := 11) 8 3 g rfl rfl, q2]) (Option.some.inj b2) ?_
      rw [ext_at (a := 17) (b := 25) 17 8 g rfl rfl, show (F1 t).drop 17 = ((F1 t).drop 12).drop 5 by rw [List.drop_drop], q1]; rfl
  · refine ⟨(0, false), ?_, fun t _ g => by have := size_of g; rw [F1_len] at this; omega, fun z => by simp at z⟩
    unfold impl_dateIn.f
    refine Ev.neg (by decide) (Ev.pos rfl (Ev.step (f := fun k => impl_dateIn.j2 k s false) (fun k => ?_) (Ev.step (f := fun _ => some (0, false)) (fun k => ?_) (Ev.now _))))
    · simp only [impl_dateIn.j1]
      rw [if_neg (by rw [beq_iff_eq]; exact h), if_neg (by decide)]
    · simp only [impl_dateIn.j2]
      exact if_neg (by decide)
theorem impl_d3 (s : ByteArray) : ∃ v, Ev (fun k => impl_dateIn.f k s 3) v ∧ (∀ t, okT t → bytesOf s = F3 t → v = (t, true)) ∧ (v.2 = true → bytesOf s ≠ []) := by
  by_cases h : (s.size : Int) = 24
  · obtain ⟨y, ey, _, _⟩ := dg_some (x := s.extract 20 24) (by rw [ext_size _ _ _ (by omega)]; omega)
    obtain ⟨d, ed, _, _⟩ := dg_some (x := s.extract 8 10) (by rw [ext_size _ _ _ (by omega)]; omega)
    obtain ⟨v, hv, hc⟩ := impl_time_ev y d (s.extract 4 7) (s.extract 11 19) (by omega) (by omega) (by rw [ext_size _ _ _ (by omega)]; omega)
    refine ⟨v, ?_, ?_, fun _ z => by have := bytesOf_length s; rw [z] at this; simp at this; omega⟩
    · unfold impl_dateIn.f
      refine Ev.neg (by decide) (Ev.neg (by decide) (Ev.step (f := fun k => impl_dateIn.j2 k s ((s.size : Int) == 24)) (fun k => ?_) (Ev.step (f := fun k => (impl_timeOf.f k y (s.extract 4 7) d (s.extract 11 19)).bind fun bt => some (bt.1, bt.2)) (fun k => ?_) (Ev.bind hv (Ev.now _)))))
      · simp only [impl_dateIn.j1]
        rw [if_neg (by decide), if_pos trivial]
      · simp only [impl_dateIn.j2]
        rw [if_pos (by rw [h]; rfl), if_pos (by omega), if_pos (by omega), ey, Option.bind_some, if_pos (by omega), if_pos (by omega), if_pos (by omega), if_pos (by omega), ed, Option.bind_some, if_pos (by omega), if_pos (by omega)]
    · intro t ht g
      have g : bytesOf s = [] ++ F3 t := g
      obtain ⟨q1, q2, q3, q4⟩ := F3_parts ht
      obtain ⟨⟨y1, y2, mm1, mm2, dd1, dd2⟩, _⟩ := t_facts ht
      have dd3 := (md_bd (dY t) (dM t)).2
      have b1 := dg_four (x := s.extract 20 24) (n := dY t) (by rw [ext_at (a := 20) (b := 24) 20 4 g rfl rfl, q1, four_split (by omega)]; rfl) y1 y2
      have b2 := dg_day (x := s.extract 8 10) (n := dD t) (by rw [ext_at (a := 8) (b := 10) 8 2 g rfl rfl, q3]) (by omega) (by omega)
      rw [ey] at b1; rw [ed] at b2
      refine hc t ht (Option.some.inj b1) (by rw [ext_at (a := 4) (b := 7) 4 3 g rfl rfl, q2]) (Option.some.inj b2) ?_
      rw [ext_at (a := 11) (b := 19) 11 8 g rfl rfl, q4]; rfl
  · refine ⟨(0, false), ?_, fun t _ g => by have := size_of g; rw [F3_len] at this; omega, fun z => by simp at z⟩
    unfold impl_dateIn.f
    refine Ev.neg (by decide) (Ev.neg (by decide) (Ev.step (f := fun k => impl_dateIn.j2 k s ((s.size : Int) == 24)) (fun k => ?_) (Ev.step (f := fun _ => some (0, false)) (fun k => ?_) (Ev.now _))))
    · simp only [impl_dateIn.j1]
      rw [if_neg (by decide), if_pos trivial]
    · simp only [impl_dateIn.j2]
      exact if_neg (by rw [beq_iff_eq]; exact h)
theorem dayN_no44 (w : Int) : ∀ x ∈ dayN w, x ≠ 44 := by
  unfold dayN
  repeat' split
  all_goals decide
theorem impl_d2 (s : ByteArray) (hs : s.size ≤ 1048576) : ∃ v, Ev (fun k => impl_dateIn.f k s 2) v ∧ (∀ t, okT t → bytesOf s = F2 t → dY t ≤ 2069 → v = (t, true)) ∧ (v.2 = true → bytesOf s ≠ []) := by
  have hcut : strings_Cut.f s (⟨#[44]⟩ : ByteArray) = some (cutV [44] s) := by rw [strings_Cut_eq s _ (by omega) (by decide)]; rfl
  have hno : ∀ x, Ev (fun k => impl_dateIn.j0 k x true) (0, false) := fun x => Ev.step (f := fun _ => some (0, false)) (fun k => by simp only [impl_dateIn.j0]; exact if_pos trivial) (Ev.now _)
  have hF : ∀ t, okT t → bytesOf s = F2 t → ∃ Q, Q.length = 23 ∧ cutV [44] s = (strOfNums (dayN (dW t)), strOfNums Q, true) ∧ bytesOf (strOfNums Q) = [] ++ Q ∧ (strOfNums (dayN (dW t))).size = (dayN (dW t)).length ∧ (Q.drop 8).take 2 = two (dY t % 100) ∧ (Q.drop 4).take 3 = monN (dM t) ∧ (Q.drop 1).take 2 = two (dD t) ∧ Q.drop 11 = clkL t ++ [32, 71, 77, 84] := by
    intro t ht g
    obtain ⟨Q, eQ, lQ, q1, q2, q3, q4, q5⟩ := F2_parts ht
    match Q, q5 with
    | x :: Q, q5 =>
      have : x = 44 := by simpa using q5
      subst this
      rw [List.length_cons] at lQ
      have hc := cut_at 44 (dayN (dW t)) Q (dayN_no44 _)
      have hI := InB_bytes s
      rw [g, eQ, InB_append, InB_cons] at hI
      refine ⟨Q, by omega, ?_, by rw [bytesOf_strOf hI.2.2]; rfl, by rw [strOfNums_size], q1, q2, q3, q4⟩
      unfold cutV
      rw [g, eQ, hc]
  unfold impl_dateIn.f
  rw [hcut]
  simp only [Option.bind_some]
  by_cases c : (cutV [44] s).2.2 = true ∧ ((cutV [44] s).2.1.size : Int) = 23 ∧ ¬ ((cutV [44] s).1.size : Int) < 6
  · obtain ⟨c1, c2, c3⟩ := c
    generalize hx : (cutV [44] s).2.1 = x at *
    obtain ⟨y, ey, _, _⟩ := dg_some (x := x.extract 8 10) (by rw [ext_size _ _ _ (by omega)]; omega)
    obtain ⟨d, ed, _, _⟩ := dg_some (x := x.extract 1 3) (by rw [ext_size _ _ _ (by omega)]; omega)
    obtain ⟨v, hv, hc⟩ := impl_time_ev (if y < 70 then 1900 + (y + 100) else 1900 + y) d (x.extract 4 7) (x.extract 11 19) (by omega) (by omega) (by rw [ext_size _ _ _ (by omega)]; omega)
    refine ⟨v, Ev.pos trivial (Ev.pos c1 (Ev.pos c2 (Ev.step (f := fun k => (impl_timeOf.f k (if y < 70 then 1900 + (y + 100) else 1900 + y) (x.extract 4 7) d (x.extract 11 19)).bind fun bt => some (bt.1, bt.2)) (fun k => ?_) (Ev.bind hv (Ev.now _))))), ?_, ?_⟩
    · simp only [impl_dateIn.j0]
      rw [if_neg (by rw [decide_eq_true_eq]; exact c3), if_pos (by omega), if_pos (by omega), ey, Option.bind_some]
      by_cases q : y < 70
      · rw [if_pos q, if_pos q, if_pos (by omega), if_pos (by omega), if_pos (by omega), if_pos (by omega), ed, Option.bind_some, if_pos (by omega), if_pos (by omega), wrap_id (n := y + 100) (by omega) (by omega), wrap_id (n := 1900 + (y + 100)) (by omega) (by omega)]
      · rw [if_neg q, if_neg q, if_pos (by omega), if_pos (by omega), if_pos (by omega), if_pos (by omega), ed, Option.bind_some, if_pos (by omega), if_pos (by omega), wrap_id (n := 1900 + y) (by omega) (by omega)]
    · intro t ht g hy
      obtain ⟨Q, lQ, e, g2, _, q1, q2, q3, q4⟩ := hF t ht g
      have ex : x = strOfNums Q := by rw [← hx, e]
      obtain ⟨⟨y1, y2, mm1, mm2, dd1, dd2⟩, _⟩ := t_facts ht
      have dd3 := (md_bd (dY t) (dM t)).2
      rw [← ex] at g2
      have b1 := dg_two (x := x.extract 8 10) (n := dY t % 100) (by rw [ext_at (a := 8) (b := 10) 8 2 g2 rfl rfl, q1]) (by omega) (by omega)
      have b2 := dg_two (x := x.extract 1 3) (n := dD t) (by rw [ext_at (a := 1) (b := 3) 1 2 g2 rfl rfl, q3]) (by omega) (by omega)
      rw [ey] at b1; rw [ed] at b2
      have b1 := Option.some.inj b1
      refine hc t ht (by split <;> omega) (by rw [ext_at (a := 4) (b := 7) 4 3 g2 rfl rfl, q2]) (Option.some.inj b2) ?_
      rw [ext_at (a := 11) (b := 19) 11 8 g2 rfl rfl, q4]; rfl
    · intro _ z
      rw [show cutV [44] s = (strOfNums (cutI [44] (bytesOf s)).1, strOfNums (cutI [44] (bytesOf s)).2.1, (cutI [44] (bytesOf s)).2.2) from rfl, z] at c1
      simp [cutI] at c1
  · refine ⟨(0, false), Ev.pos trivial ?_, ?_, fun z => by simp at z⟩
    · by_cases c1 : (cutV [44] s).2.2 = true
      · by_cases c2 : ((cutV [44] s).2.1.size : Int) = 23
        · have c3 : ((cutV [44] s).1.size : Int) < 6 := by
            rcases Int.lt_or_le ((cutV [44] s).1.size : Int) 6 with q | q
            · exact q
            · exact absurd ⟨c1, c2, by omega⟩ c
          rw [decide_eq_true c3]
          exact Ev.pos c1 (Ev.pos c2 (hno _))
        · exact Ev.pos c1 (Ev.neg c2 (hno _))
      · exact Ev.neg c1 (hno _)
    · intro t ht g hy
      exfalso
      obtain ⟨Q, lQ, e, g2, sz, _⟩ := hF t ht g
      have hd := dayN_len (dW t)
      apply c
      rw [e]
      refine ⟨rfl, ?_, ?_⟩
      · show ((strOfNums Q).size : Int) = 23
        rw [strOfNums_size, lQ]; rfl
      · show ¬ ((strOfNums (dayN (dW t))).size : Int) < 6
        rw [sz]; omega
def FormA (a : Int) (s : ByteArray) (t : Int) : Prop := (a = 1 ∧ bytesOf s = F1 t) ∨ (a = 2 ∧ bytesOf s = F2 t ∧ dY t ≤ 2069) ∨ (a = 3 ∧ bytesOf s = F3 t)
theorem formA_same {a b : Int} {s : ByteArray} {t u : Int} (h1 : FormA a s t) (h2 : FormA b s u) : a = b := by
  have d1 := dayN_len (dW t)
  have d2 := dayN_len (dW u)
  rcases h1 with ⟨e1, g1⟩ | ⟨e1, g1, _⟩ | ⟨e1, g1⟩ <;> rcases h2 with ⟨e2, g2⟩ | ⟨e2, g2, _⟩ | ⟨e2, g2⟩ <;> first | omega | (have z1 := size_of g1; have z2 := size_of g2; simp only [F1_len, F2_len, F3_len] at z1 z2; omega)
def ReadsFrom (a : Int) (s : ByteArray) (r : Int × Bool) : Prop := (r.2 = false → r = (0, false)) ∧ (r.2 = true → okT r.1 ∧ Dated s r.1) ∧ (∀ t b, okT t → a ≤ b → FormA b s t → r = (t, true))
theorem impl_PD_step (s : ByteArray) (a : Int) (h1 : 1 ≤ a) (h3 : a ≤ 3) (v : Int × Bool) (hv : Ev (fun k => impl_dateIn.f k s a) v) (hc : ∀ t, okT t → FormA a s t → v = (t, true)) (hne : v.2 = true → bytesOf s ≠ []) (r : Int × Bool) (hr : Ev (fun k => impl_ParseDate.l0 k s (a + 1)) r) (hR : ReadsFrom (a + 1) s r) :
    ∃ r', Ev (fun k => impl_ParseDate.l0 k s a) r' ∧ ReadsFrom a s r' := by
  have wa : wrap64 (a + 1) = a + 1 := wrap_id (by omega) (by omega)
  have head : ∀ r', Ev (fun k => if v.2 = true then ((impl_dateText.f k v.1 a).bind fun x => (if x.toList = s.toList then (some (v.1, true)) else (impl_ParseDate.l0 k s (a + 1)))) else (impl_ParseDate.l0 k s (a + 1))) r' → Ev (fun k => impl_ParseDate.l0 k s a) r' := by
    intro r' h'
    refine Ev.step (f := fun k => (impl_dateIn.f k s a).bind fun bt => if bt.2 = true then ((impl_dateText.f k bt.1 a).bind fun x => (if x.toList = s.toList then (some (bt.1, true)) else (impl_ParseDate.l0 k s (a + 1)))) else (impl_ParseDate.l0 k s (a + 1))) (fun k => ?_) (Ev.bind hv h')
    simp only [impl_ParseDate.l0]
    rw [if_pos h3, wa]
  have miss : (∀ t, okT t → FormA a s t → False) → ReadsFrom a s r := by
    intro hm
    refine ⟨hR.1, hR.2.1, fun t b ht hb hf => ?_⟩
    by_cases e : b = a
    · subst e; exact (hm t ht hf).elim
    · exact hR.2.2 t b ht (by omega) hf
  by_cases g : v.2 = true
  · by_cases ok : okT v.1
    · obtain ⟨x, hx, x1, x2, x3⟩ := impl_Text_ev ok a
      by_cases e : x = s
      · subst e
        have hf : FormA a x v.1 := by
          rcases (show a = 1 ∨ a = 2 ∨ a = 3 by omega) with q | q | q
          · exact Or.inl ⟨q, x1 q⟩
          · have := x2 q
            by_cases yy : dY v.1 ≤ 2069
            · rw [if_pos yy] at this; exact Or.inr (Or.inl ⟨q, this, yy⟩)
            · rw [if_neg yy] at this; exact absurd this (hne g)
          · exact Or.inr (Or.inr ⟨q, x3 (by omega) (by omega)⟩)
        refine ⟨(v.1, true), head _ (Ev.pos g (Ev.bind hx (Ev.pos rfl (Ev.now _)))), fun z => by simp at z, fun _ => ⟨ok, ?_⟩, fun t b ht hb hfb => ?_⟩
        · rcases hf with ⟨_, q⟩ | ⟨_, q⟩ | ⟨_, q⟩
          · exact Or.inl q
          · exact Or.inr (Or.inl q)
          · exact Or.inr (Or.inr q)
        · have e := formA_same hf hfb
          subst e
          have := hc t ht hfb
          rw [this]
      · refine ⟨r, head _ (Ev.pos g (Ev.bind hx (Ev.neg (fun z => e (toList_iff.1 z)) hr))), miss fun t ht hf => e ?_⟩
        have hvt := hc t ht hf
        rw [hvt] at x1 x2 x3
        apply bytesOf_inj
        rcases hf with ⟨q, w⟩ | ⟨q, w, w2⟩ | ⟨q, w⟩
        · rw [w]; exact x1 q
        · rw [w]; have := x2 q; rw [if_pos w2] at this; exact this
        · rw [w]; exact x3 (by omega) (by omega)
    · refine ⟨r, head _ (Ev.pos g ?_), miss fun t ht hf => ok (by rw [hc t ht hf]; exact ht)⟩
      refine Ev.mp (f := fun k => impl_ParseDate.l0 k s (a + 1)) hr (fun k => ?_)
      rw [impl_Text_no ok, Option.bind_some, if_neg]
      intro z
      exact hne g (by rw [← toList_iff.1 z]; decide)
  · exact ⟨r, head _ (Ev.neg g hr), miss fun t ht hf => g (by rw [hc t ht hf])⟩
theorem impl_ParseDate_ev (s : ByteArray) (hs : s.size ≤ 1048576) : ∃ r, Ev (fun k => impl_ParseDate.f k s) r ∧ Reads s r := by
  have r4 : Ev (fun k => impl_ParseDate.l0 k s (3 + 1)) (0, false) := Ev.step (f := fun _ => some (0, false)) (fun k => by simp only [impl_ParseDate.l0]; exact if_neg (by omega)) (Ev.now _)
  have R4 : ReadsFrom (3 + 1) s (0, false) := ⟨fun _ => rfl, fun z => by simp at z, fun t b ht hb hf => by rcases hf with ⟨q, _⟩ | ⟨q, _⟩ | ⟨q, _⟩ <;> omega⟩
  obtain ⟨v3, e3, c3, n3⟩ := impl_d3 s
  obtain ⟨r3, h3, R3⟩ := impl_PD_step s 3 (by omega) (by omega) v3 e3 (fun t ht hf => c3 t ht (by rcases hf with ⟨q, _⟩ | ⟨q, _⟩ | ⟨_, w⟩ <;> first | exact w | omega)) n3 _ r4 R4
  obtain ⟨v2, e2, c2, n2⟩ := impl_d2 s hs
  obtain ⟨r2, h2, R2⟩ := impl_PD_step s 2 (by omega) (by omega) v2 e2 (fun t ht hf => by rcases hf with ⟨q, _⟩ | ⟨_, w, w2⟩ | ⟨q, _⟩ <;> first | exact c2 t ht w w2 | omega) n2 _ h3 R3
  obtain ⟨v1, e1, c1, n1⟩ := impl_d1 s
  obtain ⟨r1, h1, R1⟩ := impl_PD_step s 1 (by omega) (by omega) v1 e1 (fun t ht hf => by rcases hf with ⟨_, w⟩ | ⟨q, _⟩ | ⟨q, _⟩ <;> first | exact c1 t ht w | omega) n1 _ h2 R2
  refine ⟨r1, h1, R1.1, R1.2.1, fun t ht hd => ?_⟩
  rcases hd with w | ⟨w, w2⟩ | w
  · exact R1.2.2 t 1 ht (by omega) (Or.inl ⟨rfl, w⟩)
  · exact R1.2.2 t 2 ht (by omega) (Or.inr (Or.inl ⟨rfl, w, w2⟩))
  · exact R1.2.2 t 3 ht (by omega) (Or.inr (Or.inr ⟨rfl, w⟩))

theorem read_fmt {t : Int} {x : ByteArray} {r : Int × Bool} (hx : bytesOf x = if okT t then F1 t else []) (R : Reads x r) : (okT t → r = (t, true)) ∧ (¬ okT t → r = (0, false)) := by
  refine ⟨fun ok => ?_, fun no => ?_⟩
  · rw [if_pos ok] at hx
    exact R.2.2 t ok (Or.inl hx)
  · rw [if_neg no] at hx
    cases e : r.2 with
    | false => exact R.1 e
    | true =>
      exfalso
      obtain ⟨_, d⟩ := R.2.1 e
      have hd := dayN_len (dW r.1)
      rcases d with z | ⟨z, _⟩ | z
      · have := congrArg List.length (hx.symm.trans z); rw [F1_len] at this; simp at this
      · have := congrArg List.length (hx.symm.trans z); rw [F2_len] at this; simp only [List.length_nil] at this; omega
      · have := congrArg List.length (hx.symm.trans z); rw [F3_len] at this; simp at this
theorem time_ok {l : List Int} {i : Int} (h : Int) (c : Cur l i) : ∃ t i' h', spec_l3Time.f l i h = some (t, i', h') ∧ Cur l i' := by
  obtain ⟨v, i1, h1, e1, v0, v1, c1⟩ := below_ok h c 8
  unfold spec_l3Time.f
  rw [e1]
  simp only [Option.bind_some]
  by_cases g0 : v = 0
  · obtain ⟨x, i2, h2, e2, _, c2⟩ := odd_ok h1 c1
    rw [if_pos g0, e2]
    exact ⟨x, i2, h2, rfl, c2⟩
  rw [if_neg g0]
  by_cases g1 : v = 1
  · obtain ⟨x, i2, h2, e2, _, c2⟩ := int_ok h1 c1 ([0, 86399, 86400, 68169600, 951782400, 4102444799, 4102444800, 784111777] : List Int) (by decide)
    rw [if_pos g1, e2]
    exact ⟨x, i2, h2, rfl, c2⟩
  · obtain ⟨x, i2, h2, e2, _, _, c2⟩ := below_ok h1 c1 16000000
    obtain ⟨y, i3, h3, e3, _, _, c3⟩ := below_ok h2 c2 256
    rw [if_neg g1, e2]
    simp only [Option.bind_some]
    rw [e3]
    exact ⟨_, i3, h3, rfl, c3⟩
theorem draw_fd_ok (l : List Int) (hl : l.length ≤ 1048576) : ∃ t, Ev (fun k => spec_DrawFormatDate.f k l) t := by
  obtain ⟨h, hn, c⟩ := new_ev l hl
  obtain ⟨t, i1, h1, e1, c1⟩ := time_ok h c
  refine ⟨t, ?_⟩
  unfold spec_DrawFormatDate.f
  refine Ev.bind hn ?_
  simp only
  rw [e1]
  exact Ev.now _
theorem draw_civ_ok (l : List Int) (hl : l.length ≤ 1048576) : ∃ d, Ev (fun k => spec_DrawCivilOf.f k l) d ∧ -1 ≤ d ∧ d ≤ 47482 := by
  obtain ⟨h, hn, c⟩ := new_ev l hl
  obtain ⟨x, i1, h1, e1, x0, x1, c1⟩ := below_ok h c 47482
  have x1 := x1 (by omega)
  obtain ⟨d, i2, h2, e2, hd, c2⟩ := int_ok h1 c1 ([0, 58, 59, 365, 789, 790, 47481, 47482, (-1), 11016, x] : List Int) (by simp)
  refine ⟨d, ?_, ?_⟩
  · unfold spec_DrawCivilOf.f
    refine Ev.bind hn ?_
    simp only
    rw [e1]
    simp only [Option.bind_some]
    rw [e2]
    exact Ev.now _
  · simp only [List.mem_cons, List.mem_nil_iff, or_false] at hd
    omega
theorem draw_pd_ok (l : List Int) (hl : l.length ≤ 1048576) : ∃ s, Ev (fun k => spec_DrawParseDate.f k l) s ∧ s.size ≤ 1000 := by
  obtain ⟨h, hn, c⟩ := new_ev l hl
  obtain ⟨t, i1, h1, e1, c1⟩ := time_ok h c
  by_cases ok : okT t
  · obtain ⟨A, B, C, hF, bA, bB, bC⟩ := spec_Forms_ev ok
    have hd := dayN_len (dW t)
    have zA := size_of bA
    have zB := size_of bB
    have zC := size_of bC
    rw [F1_len] at zA
    rw [F2_len] at zB
    rw [F3_len] at zC
    obtain ⟨v, i2, h2, e2, v0, v1, c2⟩ := below_ok h1 c1 3
    have v1 := v1 (by omega)
    have zv : (rdOf ByteArray.empty [A, B, C] v).size ≤ 100 := by
      rcases (show v = 0 ∨ v = 1 ∨ v = 2 by omega) with rfl | rfl | rfl
      · show A.size ≤ 100; omega
      · show B.size ≤ 100; omega
      · show C.size ≤ 100; omega
    obtain ⟨s, i3, h3, e3, s3, c3⟩ := bent_ok h2 c2 (rdOf ByteArray.empty [A, B, C] v) (by omega)
    refine ⟨s, ?_, by omega⟩
    unfold spec_DrawParseDate.f
    refine Ev.bind hn ?_
    simp only
    rw [e1]
    simp only [Option.bind_some, spec_l1In_eq]
    refine Ev.pos (decide_eq_true ok) (Ev.bind hF ?_)
    rw [e2]
    simp only [Option.bind_some]
    refine Ev.pos v0 (Ev.pos (by show v < (3 : Int); omega) ?_)
    rw [e3]
    exact Ev.now _
  · obtain ⟨s, i2, h2, e2, s2, c2⟩ := str_small h1 c1 ([(⟨#[]⟩ : ByteArray), (⟨#[83, 117, 110, 44, 32, 48, 54, 32, 78, 111, 118, 32, 49, 57, 57, 52, 32, 48, 56, 58, 52, 57, 58, 51, 55, 32, 71, 77, 84]⟩ : ByteArray), (⟨#[77, 111, 110, 44, 32, 48, 54, 32, 78, 111, 118, 32, 49, 57, 57, 52, 32, 48, 56, 58, 52, 57, 58, 51, 55, 32, 71, 77, 84]⟩ : ByteArray), (⟨#[83, 117, 110, 44, 32, 48, 54, 32, 78, 111, 118, 32, 49, 57, 57, 52, 32, 48, 56, 58, 52, 57, 58, 54, 48, 32, 71, 77, 84]⟩ : ByteArray), (⟨#[83, 117, 110, 44, 32, 51, 49, 32, 70, 101, 98, 32, 49, 57, 57, 52, 32, 48, 56, 58, 52, 57, 58, 51, 55, 32, 71, 77, 84]⟩ : ByteArray), (⟨#[84, 104, 117, 44, 32, 48, 49, 32, 74, 97, 110, 32, 49, 57, 55, 48, 32, 48, 48, 58, 48, 48, 58, 48, 48, 32, 71, 77, 84]⟩ : ByteArray), (⟨#[83, 117, 110, 100, 97, 121, 44, 32, 48, 54, 45, 78, 111, 118, 45, 57, 52, 32, 48, 56, 58, 52, 57, 58, 51, 55, 32, 71, 77, 84]⟩ : ByteArray), (⟨#[83, 117, 110, 32, 78, 111, 118, 32, 32, 54, 32, 48, 56, 58, 52, 57, 58, 51, 55, 32, 49, 57, 57, 52]⟩ : ByteArray), (⟨#[83, 117, 110, 32, 78, 111, 118, 32, 48, 54, 32, 48, 56, 58, 52, 57, 58, 51, 55, 32, 49, 57, 57, 52]⟩ : ByteArray), (⟨#[87, 101, 100, 110, 101, 115, 100, 97, 121, 44, 32, 48, 54, 45, 78, 111, 118, 45, 50, 52, 32, 48, 56, 58, 52, 57, 58, 51, 55, 32, 71, 77, 84]⟩ : ByteArray)] : List ByteArray) (by decide) 100 (by decide +kernel)
    refine ⟨s, ?_, by omega⟩
    unfold spec_DrawParseDate.f
    refine Ev.bind hn ?_
    simp only
    rw [e1]
    simp only [Option.bind_some, spec_l1In_eq]
    refine Ev.neg (by rw [decide_eq_true_eq]; exact ok) ?_
    rw [e2]
    exact Ev.now _
theorem week_any (a : Int) : impl_WeekdayOf.f a = some ((a % 7 + 4) % 7) := by
  unfold impl_WeekdayOf.f
  rw [impl_Mod_eq, Option.bind_some, modV_pos (by omega) (by omega), impl_Mod_eq, Option.bind_some, modV_pos (by omega) (by omega), wrap_id (by omega) (by omega)]
theorem FnDates : laws_FnDates.Pure := by
  intro l hl hb
  apply Ev.rounds
  by_cases g : (l.length : Int) > 1048576
  · refine Ev.mp (Ev.now _) (fun k => ?_)
    unfold laws_FnDates.f laws_big.f
    rw [decide_eq_true g, Option.bind_some, if_pos rfl]
  have hbig : laws_big.f l = some false := by unfold laws_big.f; rw [decide_eq_false g]
  obtain ⟨t, D1⟩ := draw_fd_ok l (by omega)
  obtain ⟨d, D2, d0, d1⟩ := draw_civ_ok l (by omega)
  obtain ⟨s, D3, zs⟩ := draw_pd_ok l (by omega)
  have szF : ∀ {u : Int} {x : ByteArray}, (bytesOf x = if okT u then F1 u else []) → x.size ≤ 29 := by
    intro u x h
    have := size_of h
    by_cases q : okT u
    · rw [if_pos q, F1_len] at this; omega
    · rw [if_neg q, List.length_nil] at this; omega
  obtain ⟨x1, X1, b1⟩ := impl_FormatDate_ev t
  obtain ⟨r1, P1, R1⟩ := impl_ParseDate_ev x1 (by have := szF b1; omega)
  obtain ⟨r2, P2, R2⟩ := impl_ParseDate_ev s (by omega)
  obtain ⟨x2, X2, b2⟩ := impl_FormatDate_ev r2.1
  obtain ⟨r3, P3, R3⟩ := impl_ParseDate_ev x2 (by have := szF b2; omega)
  have V := impl_CivilOf_ev d
  obtain ⟨y, m, q, hv, hok⟩ : ∃ y m q, civV d = (y, m, q) ∧ ((0 ≤ d ∧ d ≤ 47481) → dayOK y m q ∧ daysV y m q = d) ∧ (¬ (0 ≤ d ∧ d ≤ 47481) → m = 0) ∧ (-1000 ≤ q ∧ q ≤ 1000) := by
    by_cases z : 0 ≤ d ∧ d ≤ 47481
    · obtain ⟨y, m, q, e, o1, o2⟩ := civ_facts z.1 z.2
      refine ⟨y, m, q, e, fun _ => ⟨o1, o2⟩, fun n => absurd z n, ?_⟩
      have := o1.2.2.2.2
      have := (md_bd y m).2
      omega
    · exact ⟨0, 0, 0, by unfold civV; rw [if_neg z], fun n => absurd n z, fun _ => rfl, by omega, by omega⟩
  obtain ⟨hin, hout, hq⟩ := hok
  rw [hv] at V
  have leap : m = 2 → q = 29 → leapV y = true := by
    intro h2 h29
    by_cases z : 0 ≤ d ∧ d ≤ 47481
    · have := (hin z).1.2.2.2.2.2
      unfold md at this
      rw [if_pos h2] at this
      by_cases w : leapV y = true
      · exact w
      · rw [if_neg w] at this; omega
    · have := hout z; omega
  have fin : ((impl_WeekdayOf.f (wrap64 (d + 1))).bind fun t331 => ((impl_WeekdayOf.f d).bind fun t332 => ((impl_Mod.f (wrap64 (t332 + 1)) 7).bind fun t333 => (if t331 = t333 then (if m = 2 then (if q = 29 then ((impl_IsLeap.f y).bind fun t334 => (some t334)) else (some true)) else (some true)) else (some false))))) = some true := by
    rw [wrap_id (n := d + 1) (by omega) (by omega), week_any, week_any, Option.bind_some, Option.bind_some, impl_Mod_eq, Option.bind_some, modV_pos (by omega) (by omega), wrap_id (by omega) (by omega), if_pos (by omega)]
    by_cases h2 : m = 2
    · rw [if_pos h2]
      by_cases h29 : q = 29
      · rw [if_pos h29, impl_IsLeap_eq, Option.bind_some, leap h2 h29]
      · rw [if_neg h29]
    · rw [if_neg h2]
  have k1 : Ev (fun k => laws_FnDates.j1 k l d y m q false) true := by
    refine Ev.step (f := fun k => (spec_DrawParseDate.f k l).bind fun t321 => ((impl_ParseDate.f k t321).bind fun bt322 => ((impl_FormatDate.f k bt322.1).bind fun t324 => ((impl_ParseDate.f k t324).bind fun bt325 => (if bt322.2 = true then (if bt325.2 = true then (if bt325.1 = bt322.1 then some true else (some false)) else (some false)) else some true))))) (fun k => ?_) (Ev.bind D3 (Ev.bind P2 (Ev.bind X2 (Ev.bind P3 ?_))))
    · simp only [laws_FnDates.j1]
      rw [if_neg (by simp)]
      simp only [fin]
    · by_cases z : r2.2 = true
      · have ok := (R2.2.1 z).1
        have e3 := (read_fmt b2 R3).1 ok
        rw [e3]
        exact Ev.pos z (Ev.pos rfl (Ev.pos rfl (Ev.now _)))
      · exact Ev.neg z (Ev.now _)
  have k0 : Ev (fun k => laws_FnDates.j0 k l false) true := by
    refine Ev.step (f := fun k => (spec_DrawCivilOf.f k l).bind fun t316 => ((impl_CivilOf.f k t316).bind fun bt317 => (if t316 ≥ 0 then (if t316 ≤ 47481 then ((impl_DaysOf.f k bt317.1 bt317.2.1 bt317.2.2).bind fun t320 => (laws_FnDates.j1 k l t316 bt317.1 bt317.2.1 bt317.2.2 (t320 != t316))) else (laws_FnDates.j1 k l t316 bt317.1 bt317.2.1 bt317.2.2 false)) else (laws_FnDates.j1 k l t316 bt317.1 bt317.2.1 bt317.2.2 false)))) (fun k => ?_) (Ev.bind D2 (Ev.bind V ?_))
    · simp only [laws_FnDates.j0]
      rw [if_neg (by simp)]
    · by_cases z0 : d ≥ 0
      · by_cases z1 : d ≤ 47481
        · have hd := (hin ⟨z0, z1⟩).2
          have dev := impl_DaysOf_ev y m q (by omega) (by omega)
          rw [hd] at dev
          refine Ev.pos z0 (Ev.pos z1 (Ev.bind dev ?_))
          rw [bne_self_eq_false]
          exact k1
        · exact Ev.pos z0 (Ev.neg z1 k1)
      · exact Ev.neg z0 k1
  unfold laws_FnDates.f
  simp only [hbig, Option.bind_some, Bool.false_eq_true, if_false]
  refine Ev.bind D1 (Ev.bind X1 (Ev.bind P1 ?_))
  by_cases ok : okT t
  · have e1 := (read_fmt b1 R1).1 ok
    have z : x1.size = 29 := by rw [if_pos ok] at b1; rw [size_of b1, F1_len]
    rw [e1]
    refine Ev.pos ok.1 (Ev.neg (by rw [decide_eq_true ok.2]; simp) (Ev.pos rfl (Ev.pos rfl ?_)))
    rw [z]
    exact k0
  · have e1 := (read_fmt b1 R1).2 ok
    rw [e1]
    by_cases t0 : t ≥ 0
    · exact Ev.pos t0 (Ev.neg (by rw [decide_eq_false (fun z => ok ⟨t0, z⟩)]; simp) (Ev.neg (by simp) k0))
    · exact Ev.neg t0 (Ev.neg (by simp) (Ev.neg (by simp) k0))

end Go.Proofs.YtlboepkphddacabDoor.Pure
