/- The pure part of FnRanges: for every list of bytes within the statement's bounds the printed law answers true. Conditions: the statement's own bounds alone. -/
import Derived.Test.YtlboepkphddacabGreatDoorPreFnRanges
import Derived.Test.YtlboepkphddacabGreatDoorRFnRangesx1
import Derived.Test.YtlboepkphddacabGreatDoorRFnRangesx10
import Derived.Test.YtlboepkphddacabGreatDoorRFnRangesx11
import Derived.Test.YtlboepkphddacabGreatDoorRFnRangesx12
import Derived.Test.YtlboepkphddacabGreatDoorRFnRangesx2
import Derived.Test.YtlboepkphddacabGreatDoorRFnRangesx3
import Derived.Test.YtlboepkphddacabGreatDoorRFnRangesx4
import Derived.Test.YtlboepkphddacabGreatDoorRFnRangesx5
import Derived.Test.YtlboepkphddacabGreatDoorRFnRangesx6
import Derived.Test.YtlboepkphddacabGreatDoorRFnRangesx7
import Derived.Test.YtlboepkphddacabGreatDoorRFnRangesx8
import Derived.Test.YtlboepkphddacabGreatDoorRFnRangesx9
import Derived.OpenShut
namespace Go.Proofs.YtlboepkphddacabGreatDoor.Pure
open Go.RowKit Go.Proofs.YtlboepkphddacabGreatDoor.RFnRanges Go.Proofs.YtlboepkphddacabGreatDoorW.PrintWords Go.Proofs.YtlboepkphddacabGreatDoorW.PrintLast
set_option linter.unusedSimpArgs false
set_option linter.unusedVariables false

/-! ### Texts as lists of numbers -/
def InB (l : List Int) : Prop := ∀ x ∈ l, 0 ≤ x ∧ x ≤ 255
theorem InB_nil : InB [] := fun x hx => by simp at hx
theorem InB_cons {b : Int} {l : List Int} : InB (b :: l) ↔ (0 ≤ b ∧ b ≤ 255) ∧ InB l := by simp [InB]
theorem InB_append {l m : List Int} : InB (l ++ m) ↔ InB l ∧ InB m := by
  simp only [InB, List.mem_append]
  exact ⟨fun h => ⟨fun x hx => h x (.inl hx), fun x hx => h x (.inr hx)⟩, fun h x hx => hx.elim (h.1 x) (h.2 x)⟩
theorem InB_take {l : List Int} (n : Nat) (h : InB l) : InB (l.take n) := fun x hx => h x (List.mem_of_mem_take hx)
theorem InB_drop {l : List Int} (n : Nat) (h : InB l) : InB (l.drop n) := fun x hx => h x (List.mem_of_mem_drop hx)
theorem InB_bytes (s : ByteArray) : InB (bytesOf s) := by
  intro x hx
  unfold bytesOf at hx
  obtain ⟨b, _, rfl⟩ := List.mem_map.1 hx
  have := b.toNat_lt
  omega
theorem strOf_bytesOf (s : ByteArray) : strOfNums (bytesOf s) = s := by
  obtain ⟨⟨l⟩⟩ := s
  unfold strOfNums bytesOf
  simp only [List.map_map]
  congr 2
  exact (List.map_congr_left (fun b _ => by simp)).trans (List.map_id l)
theorem bytesOf_strOf {l : List Int} (h : InB l) : bytesOf (strOfNums l) = l := by
  unfold strOfNums bytesOf
  simp only [List.map_map]
  refine (List.map_congr_left (fun x hx => ?_)).trans (List.map_id l)
  have := h x hx
  simp only [Function.comp_apply, id, UInt8.toNat_ofNat']
  omega
theorem bytesOf_inj {s t : ByteArray} (h : bytesOf s = bytesOf t) : s = t := by rw [← strOf_bytesOf s, h, strOf_bytesOf]
theorem bytesOf_append (s t : ByteArray) : bytesOf (s ++ t) = bytesOf s ++ bytesOf t := by
  unfold bytesOf
  rw [ByteArray.data_append, Array.toList_append, List.map_append]
theorem bytesOf_extract (s : ByteArray) (a b : Nat) : bytesOf (s.extract a b) = ((bytesOf s).take b).drop a := by
  unfold bytesOf
  rw [ByteArray.data_extract, Array.toList_extract, List.extract_eq_take_drop, List.map_take, List.map_drop, List.take_drop]
  rcases Nat.le_total a b with h | h
  · rw [Nat.add_sub_cancel' h]
  · rw [Nat.sub_eq_zero_of_le h, List.drop_eq_nil_of_le (by simp; omega), List.drop_eq_nil_of_le (by simp; omega)]
theorem toList_iff {s t : ByteArray} : s.toList = t.toList ↔ s = t := by
  rw [ByteArray.toList_eq, ByteArray.toList_eq]
  constructor
  · intro h
    obtain ⟨⟨l⟩⟩ := s
    obtain ⟨⟨m⟩⟩ := t
    simp only at h
    rw [h]
  · rintro rfl; rfl
theorem size_bytes (s : ByteArray) : (s.size : Int) = ((bytesOf s).length : Int) := by rw [bytesOf_length]
theorem getD_mid {α : Type} {l pre rest : List α} {b d : α} (h : l = pre ++ b :: rest) : l.getD ((pre.length : Int)).toNat d = b := by subst h; simp
theorem len_mid {α : Type} {l pre rest : List α} (h : l = pre ++ rest) : l.length = pre.length + rest.length := by rw [h, List.length_append]
theorem rd_mid {l pre rest : List Int} {b : Int} (h : l = pre ++ b :: rest) : rd l (pre.length : Int) = b := by
  subst h
  unfold rd
  simp
theorem bt_mid {s : ByteArray} {pre rest : List Int} {b : Int} (h : bytesOf s = pre ++ b :: rest) : bt s (pre.length : Int) = b := by
  rw [← rd_bytesOf]; exact rd_mid h
theorem size_mid {s : ByteArray} {pre rest : List Int} (h : bytesOf s = pre ++ rest) : (s.size : Int) = (pre.length : Int) + (rest.length : Int) := by
  rw [size_bytes, h]; simp
theorem wrap_id {n : Int} (h0 : -9223372036854775808 ≤ n) (h1 : n ≤ 9223372036854775807) : wrap64 n = n := by unfold wrap64; omega
theorem len_step {α : Type} (pre : List α) (b : α) (h : pre.length ≤ 9223372036854775000) : wrap64 ((pre.length : Int) + 1) = ((pre ++ [b]).length : Int) := by
  rw [wrap_id (by omega) (by omega)]; simp
/-! ### Loops over lists -/
theorem Ev.mp {α : Type} {g f : Nat → Option α} {r : α} (h : Ev f r) (e : ∀ k, g k = f k) : Ev g r := Ev.congr e h
theorem Ev.pos {α : Type} {c : Prop} [Decidable c] {f g : Nat → Option α} {r : α} (h : c) (e : Ev f r) : Ev (fun k => if c then f k else g k) r := by simp only [if_pos h]; exact e
theorem Ev.neg {α : Type} {c : Prop} [Decidable c] {f g : Nat → Option α} {r : α} (h : ¬ c) (e : Ev g r) : Ev (fun k => if c then f k else g k) r := by simp only [if_neg h]; exact e
theorem and255 (n : Int) : Go.bits .and .i64 n 255 = n % 256 := by
  have h255 : (BitVec.ofInt 64 255).toNat = 2 ^ 8 - 1 := by decide
  have key : (BitVec.ofInt 64 n &&& BitVec.ofInt 64 255).toNat = (n % ((2 ^ 64 : Nat) : Int)).toNat % 2 ^ 8 := by
    rw [BitVec.toNat_and, BitVec.toNat_ofInt, h255, Nat.and_two_pow_sub_one_eq_mod]
  show IntKind.i64.wrap ((BitVec.ofInt 64 n &&& BitVec.ofInt 64 255).toNat : Nat) = n % 256
  rw [key, IntKind.wrap_i64]
  omega
/-- A cursor's place lies within the bytes. -/
def Cur (l : List Int) (i : Int) : Prop := 0 ≤ i ∧ i ≤ (l.length : Int) ∧ l.length ≤ 1048576
theorem byte_ok {l : List Int} {i : Int} (h : Int) (c : Cur l i) : ∃ x i' h', spec_l1Byte.f l i h = some (x, i', h') ∧ 0 ≤ x ∧ x ≤ 255 ∧ Cur l i' := by
  obtain ⟨c0, c1, c2⟩ := c
  unfold spec_l1Byte.f
  simp only [and255]
  by_cases g : i < (l.length : Int)
  · rw [if_pos g, if_pos c0]
    exact ⟨_, _, _, rfl, by omega, by omega, by rw [wrap_id (by omega) (by omega)]; exact ⟨by omega, by omega, c2⟩⟩
  · rw [if_neg g]
    exact ⟨_, _, _, rfl, by omega, by omega, c0, c1, c2⟩
theorem below_ok {l : List Int} {i : Int} (h : Int) (c : Cur l i) (n : Int) : ∃ x i' h', spec_l1Below.f l i h n = some (x, i', h') ∧ 0 ≤ x ∧ (0 < n → x < n) ∧ Cur l i' := by
  unfold spec_l1Below.f
  by_cases g0 : n ≤ 0
  · rw [if_pos g0]
    exact ⟨_, _, _, rfl, by omega, by omega, c⟩
  · rw [if_neg g0]
    by_cases g1 : n ≤ 256
    · rw [if_pos g1]
      obtain ⟨x, i', h', e, x0, x1, c'⟩ := byte_ok h c
      rw [e]
      simp only [Option.bind_some]
      rw [if_neg (by omega)]
      exact ⟨_, _, _, rfl, Int.tmod_nonneg n x0, fun hn => Int.tmod_lt_of_pos x hn, c'⟩
    · rw [if_neg g1]
      obtain ⟨x, i1, h1, e1, x0, x1, c1⟩ := byte_ok h c
      obtain ⟨y, i2, h2, e2, y0, y1, c2⟩ := byte_ok h1 c1
      obtain ⟨z, i3, h3, e3, z0, z1, c3⟩ := byte_ok h2 c2
      rw [e1]
      simp only [Option.bind_some]
      rw [e2]
      simp only [Option.bind_some]
      rw [e3]
      simp only [Option.bind_some]
      rw [if_neg (by omega), wrap_id (n := x * 65536) (by omega) (by omega), wrap_id (n := y * 256) (by omega) (by omega), wrap_id (n := x * 65536 + y * 256) (by omega) (by omega), wrap_id (n := x * 65536 + y * 256 + z) (by omega) (by omega)]
      exact ⟨_, _, _, rfl, Int.tmod_nonneg n (by omega), fun hn => Int.tmod_lt_of_pos _ hn, c3⟩
theorem new_loop {l : List Int} (hl : l.length ≤ 1048576) (d : Nat) : ∀ (i x : Int), 0 ≤ i → i + d = l.length → ∃ h, Ev (fun k => spec_l1New.l0 k l x i) (l, 0, h) := by
  induction d with
  | zero =>
    intro i x h0 h1
    refine ⟨x, Ev.step (f := fun _ => some (l, 0, x)) (fun k => ?_) (Ev.now _)⟩
    simp only [spec_l1New.l0]
    rw [if_neg (by omega)]
  | succ d ih =>
    intro i x h0 h1
    by_cases g : i < 4000
    · obtain ⟨h, e⟩ := ih (i + 1) (Go.bits .and .i64 (wrap64 ((wrap64 ((wrap64 (x * 139)) + (wrap64 (rd l i)))) + 11)) 1073741823) (by omega) (by omega)
      refine ⟨h, Ev.step (fun k => ?_) e⟩
      simp only [spec_l1New.l0]
      rw [if_pos (by omega), if_pos g, if_pos h0, wrap_id (n := i + 1) (by omega) (by omega)]
    · refine ⟨x, Ev.step (f := fun _ => some (l, 0, x)) (fun k => ?_) (Ev.now _)⟩
      simp only [spec_l1New.l0]
      rw [if_pos (by omega), if_neg g]
theorem new_ev (l : List Int) (hl : l.length ≤ 1048576) : ∃ h, Ev (fun k => spec_l1New.f k l) (l, 0, h) ∧ Cur l 0 := by
  obtain ⟨h, e⟩ := new_loop hl l.length 0 (wrap64 (271091 + (l.length : Int))) (by omega) (by omega)
  exact ⟨h, e, by omega, by omega, hl⟩
theorem int_ok {l : List Int} {i : Int} (h : Int) (c : Cur l i) (L : List Int) (hL : 0 < L.length) : ∃ x i' h', spec_l1Int.f l i h L = some (x, i', h') ∧ x ∈ L ∧ Cur l i' := by
  obtain ⟨q, i', h', e, q0, q1, c'⟩ := below_ok h c (L.length : Int)
  have q2 := q1 (by omega)
  unfold spec_l1Int.f
  rw [e]
  simp only [Option.bind_some]
  rw [if_pos q0, if_pos q2]
  refine ⟨_, _, _, rfl, ?_, c'⟩
  unfold rd
  have hq : q.toNat < L.length := by omega
  rw [List.getD_eq_getElem?_getD, List.getElem?_eq_getElem hq]
  exact List.getElem_mem hq
theorem str_ok {l : List Int} {i : Int} (h : Int) (c : Cur l i) (L : List ByteArray) (hL : 0 < L.length) : ∃ x i' h', spec_l1Str.f l i h L = some (x, i', h') ∧ x ∈ L ∧ Cur l i' := by
  obtain ⟨q, i', h', e, q0, q1, c'⟩ := below_ok h c (L.length : Int)
  have hlen : (L.length : Int) ≤ L.length := by omega
  have q2 := q1 (by omega)
  unfold spec_l1Str.f
  rw [e]
  simp only [Option.bind_some]
  rw [if_pos q0, if_pos q2]
  refine ⟨_, _, _, rfl, ?_, c'⟩
  unfold rdOf
  have hq : q.toNat < L.length := by omega
  rw [List.getD_eq_getElem?_getD, List.getElem?_eq_getElem hq]
  exact List.getElem_mem hq
theorem str_small {l : List Int} {i : Int} (h : Int) (c : Cur l i) (L : List ByteArray) (hL : 0 < L.length) (n : Nat) (hs : (L.all fun x => decide (x.size ≤ n)) = true) : ∃ x i' h', spec_l1Str.f l i h L = some (x, i', h') ∧ x.size ≤ n ∧ Cur l i' := by
  obtain ⟨x, i', h', e, hx, c'⟩ := str_ok h c L hL
  exact ⟨x, i', h', e, of_decide_eq_true (List.all_eq_true.1 hs x hx), c'⟩
theorem bent_ok {l : List Int} {i : Int} (h : Int) (c : Cur l i) (s : ByteArray) (hs : s.size ≤ 900000) : ∃ x i' h', spec_l1Bent.f l i h s = some (x, i', h') ∧ x.size ≤ s.size + 1 ∧ Cur l i' := by
  have hl := bytesOf_length s
  obtain ⟨q, i1, h1, e1, q0, q1, c1⟩ := below_ok h c 7
  unfold spec_l1Bent.f
  rw [if_pos (by omega), e1]
  simp only [Option.bind_some]
  by_cases g0 : q = 0
  · rw [if_pos g0]
    by_cases z : 0 < s.size
    · obtain ⟨x, i2, h2, e2, x0, x1, c2⟩ := below_ok h1 c1 (s.size : Int)
      obtain ⟨y, i3, h3, e3, y0, y1, c3⟩ := below_ok h2 c2 256
      have x2 := x1 (by omega)
      rw [if_pos z, e2]
      simp only [Option.bind_some]
      rw [e3]
      simp only [Option.bind_some]
      rw [if_pos ⟨x0, x2⟩]
      exact ⟨_, _, _, rfl, by rw [strOfNums_size, List.length_set]; omega, c3⟩
    · rw [if_neg z]
      exact ⟨_, _, _, rfl, by omega, c1⟩
  · rw [if_neg g0]
    by_cases g1 : q = 1
    · obtain ⟨x, i2, h2, e2, x0, x1, c2⟩ := below_ok h1 c1 ((s.size : Int) + 1)
      have x2 := x1 (by omega)
      rw [if_pos g1, e2]
      simp only [Option.bind_some]
      rw [if_pos ⟨x0, by omega⟩]
      exact ⟨_, _, _, rfl, by rw [strOfNums_size, List.length_take]; omega, c2⟩
    · rw [if_neg g1]
      by_cases g2 : q = 2
      · obtain ⟨x, i2, h2, e2, _, c2⟩ := int_ok h1 c1 ([0, 32, 44, 34, 255] : List Int) (by decide)
        rw [if_pos g2, e2]
        exact ⟨_, _, _, rfl, by rw [strOfNums_size, List.length_append, hl]; exact Nat.le_refl _, c2⟩
      · rw [if_neg g2]
        by_cases g3 : q = 3
        · rw [if_pos g3]
          by_cases z : 0 < s.size
          · obtain ⟨x, i2, h2, e2, x0, x1, c2⟩ := below_ok h1 c1 (s.size : Int)
            have x2 := x1 (by omega)
            rw [if_pos z, e2]
            simp only [Option.bind_some]
            rw [if_pos ⟨x0, x2⟩]
            exact ⟨_, _, _, rfl, by rw [strOfNums_size, List.length_append, List.length_take, List.length_drop]; omega, c2⟩
          · rw [if_neg z]
            exact ⟨_, _, _, rfl, by omega, c1⟩
        · rw [if_neg g3]
          exact ⟨_, _, _, rfl, by omega, c1⟩
theorem once1_ok {l : List Int} {i : Int} (h : Int) (c : Cur l i) (n : Int) : ∃ b i' h', spec_l1Once.f l i h n = some (b, i', h') ∧ Cur l i' := by
  obtain ⟨x, i1, h1, e1, _, _, c1⟩ := below_ok h c n
  unfold spec_l1Once.f
  rw [e1]
  exact ⟨_, _, _, rfl, c1⟩
theorem odd_ok {l : List Int} {i : Int} (h : Int) (c : Cur l i) : ∃ x i' h', spec_l1Odd.f l i h = some (x, i', h') ∧ (-9223372036854775808 ≤ x ∧ x ≤ 9223372036854775807) ∧ Cur l i' := by
  obtain ⟨x, i', h', e, hx, c'⟩ := int_ok h c ([(-1), 0, 1, 2, 255, 256, 65535, 2147483647, 2147483648, 4294967295, 4294967296, (-2147483648), 9223372036854775807, (-9223372036854775808)] : List Int) (by decide)
  unfold spec_l1Odd.f
  rw [e]
  refine ⟨_, _, _, rfl, ?_, c'⟩
  have : ∀ y ∈ ([(-1), 0, 1, 2, 255, 256, 65535, 2147483647, 2147483648, 4294967295, 4294967296, (-2147483648), 9223372036854775807, (-9223372036854775808)] : List Int), -9223372036854775808 ≤ y ∧ y ≤ 9223372036854775807 := by decide
  exact this x hx
def totS : List ByteArray → Nat
  | [] => 0
  | x :: r => 1 + x.size + totS r
theorem totS_len (l : List ByteArray) : l.length ≤ totS l := by
  induction l with
  | nil => simp
  | cons x r ih => simp only [List.length_cons, totS]; omega
theorem rdS_mid {l pre rest : List ByteArray} {x : ByteArray} (h : l = pre ++ x :: rest) : rdOf ByteArray.empty l (pre.length : Int) = x := getD_mid h
def joinT : List ByteArray → List Int
  | [] => []
  | x :: r => [44, 32] ++ bytesOf x ++ joinT r
def joinI : List ByteArray → List Int
  | [] => []
  | x :: r => bytesOf x ++ joinT r
def joinV (l : List ByteArray) : ByteArray := strOfNums (joinI l)
theorem InB_joinT (l : List ByteArray) : InB (joinT l) := by
  induction l with
  | nil => exact InB_nil
  | cons x r ih =>
    simp only [joinT, InB_append]
    exact ⟨⟨by intro y hy; simp at hy; omega, InB_bytes x⟩, ih⟩
theorem InB_joinI (l : List ByteArray) : InB (joinI l) := by
  cases l with
  | nil => exact InB_nil
  | cons x r => simp only [joinI, InB_append]; exact ⟨InB_bytes x, InB_joinT r⟩
theorem bytesOf_joinV (l : List ByteArray) : bytesOf (joinV l) = joinI l := bytesOf_strOf (InB_joinI l)
theorem joinT_len (l : List ByteArray) : (joinT l).length ≤ 2 * totS l := by
  induction l with
  | nil => simp [joinT]
  | cons x r ih => simp only [joinT, totS, List.length_append, bytesOf_length, List.length_cons, List.length_nil]; omega
theorem joinI_len (l : List ByteArray) : (joinI l).length ≤ 2 * totS l := by
  cases l with
  | nil => simp [joinI]
  | cons x r => have := joinT_len r; simp only [joinI, totS, List.length_append, bytesOf_length]; omega
/-! ### Decimal numerals -/
def numL (n : Nat) : List Int := if h : n < 10 then [48 + (n : Int)] else numL (n / 10) ++ [48 + ((n % 10 : Nat) : Int)]
termination_by n
decreasing_by omega
theorem numL_small {n : Nat} (h : n < 10) : numL n = [48 + (n : Int)] := by rw [numL, dif_pos h]
theorem numL_big {n : Nat} (h : ¬ n < 10) : numL n = numL (n / 10) ++ [48 + ((n % 10 : Nat) : Int)] := by rw [numL, dif_neg h]
def valL (l : List Int) : Int := l.foldl (fun a b => 10 * a + (b - 48)) 0
theorem valL_concat (l : List Int) (b : Int) : valL (l ++ [b]) = 10 * valL l + (b - 48) := by unfold valL; rw [List.foldl_append]; rfl
theorem num_ind {p : Nat → Prop} (h0 : ∀ n, n < 10 → p n) (h1 : ∀ n, ¬ n < 10 → p (n / 10) → p n) (n : Nat) : p n := by
  induction n using Nat.strongRecOn with
  | _ n ih =>
    by_cases h : n < 10
    · exact h0 n h
    · exact h1 n h (ih (n / 10) (by omega))
theorem valL_num (n : Nat) : valL (numL n) = n := by
  induction n using num_ind with
  | h0 n h => rw [numL_small h]; simp [valL]; omega
  | h1 n h ih => rw [numL_big h, valL_concat, ih]; omega
theorem numL_digits (n : Nat) : ∀ x ∈ numL n, 48 ≤ x ∧ x ≤ 57 := by
  induction n using num_ind with
  | h0 n h => rw [numL_small h]; simp; omega
  | h1 n h ih =>
    rw [numL_big h]
    intro x hx
    rcases List.mem_append.1 hx with g | g
    · exact ih x g
    · simp at g; omega
theorem numL_ne (n : Nat) : numL n ≠ [] := by
  induction n using num_ind with
  | h0 n h => rw [numL_small h]; simp
  | h1 n h ih => rw [numL_big h]; simp
theorem numL_len (d : Nat) : ∀ n, n < 10 ^ (d + 1) → (numL n).length ≤ d + 1 := by
  induction d with
  | zero => intro n h; rw [numL_small (by simpa using h)]; simp
  | succ d ih =>
    intro n h
    by_cases g : n < 10
    · rw [numL_small g]; simp
    · rw [numL_big g, List.length_append]
      have := ih (n / 10) (by rw [Nat.pow_succ] at h; omega)
      simp; omega
theorem InB_digits {l : List Int} (h : ∀ x ∈ l, 48 ≤ x ∧ x ≤ 57) : InB l := fun x hx => by have := h x hx; omega
def fmtL (n : Int) : List Int := if n < 0 then 45 :: numL n.natAbs else numL n.toNat
def fmtV (n : Int) : ByteArray := strOfNums (fmtL n)
theorem InB_fmt (n : Int) : InB (fmtL n) := by
  unfold fmtL
  split
  · rw [InB_cons]; exact ⟨by omega, InB_digits (numL_digits _)⟩
  · exact InB_digits (numL_digits _)
theorem bytesOf_fmt (n : Int) : bytesOf (fmtV n) = fmtL n := bytesOf_strOf (InB_fmt n)
theorem valL_fmt {n : Int} (h : 0 ≤ n) : valL (fmtL n) = n := by
  unfold fmtL; rw [if_neg (by omega), valL_num]; omega
theorem fmtL_pos {n : Int} (h : 0 ≤ n) : fmtL n = numL n.toNat := by unfold fmtL; rw [if_neg (by omega)]
theorem fmtL_len (n : Int) (h0 : -9223372036854775808 ≤ n) (h1 : n ≤ 9223372036854775807) : (fmtL n).length ≤ 20 := by
  unfold fmtL
  split
  · have := numL_len 18 n.natAbs (by omega)
    simp only [List.length_cons]; omega
  · have := numL_len 18 n.toNat (by omega)
    omega
/-- The value of a text that is an integer's decimal form, up to a million millions. -/
def parseV (s : ByteArray) : Int × Bool := if 0 ≤ valL (bytesOf s) ∧ valL (bytesOf s) ≤ 1000000000000 ∧ fmtL (valL (bytesOf s)) = bytesOf s then (valL (bytesOf s), true) else (0, false)
theorem parseV_fmt {n : Int} (h0 : 0 ≤ n) (h1 : n ≤ 1000000000000) : parseV (fmtV n) = (n, true) := by
  unfold parseV
  rw [bytesOf_fmt, valL_fmt h0, if_pos ⟨h0, h1, rfl⟩]
theorem parseV_no {s : ByteArray} (h : ¬ (0 ≤ valL (bytesOf s) ∧ valL (bytesOf s) ≤ 1000000000000 ∧ fmtL (valL (bytesOf s)) = bytesOf s)) : parseV s = (0, false) := by unfold parseV; rw [if_neg h]
theorem fmtV_size {n : Int} (h0 : -9223372036854775808 ≤ n) (h1 : n ≤ 9223372036854775807) : (fmtV n).size ≤ 20 := by
  have := fmtL_len n h0 h1
  rw [← bytesOf_fmt, bytesOf_length] at this
  exact this
theorem wrap_range (x : Int) : -9223372036854775808 ≤ wrap64 x ∧ wrap64 x ≤ 9223372036854775807 := by unfold wrap64; omega
def askV (a : S30) : ByteArray := if a.f0 < 0 then (⟨#[45]⟩ : ByteArray) ++ fmtV a.f1 else if a.f1 < 0 then fmtV a.f0 ++ (⟨#[45]⟩ : ByteArray) else (fmtV a.f0 ++ (⟨#[45]⟩ : ByteArray)) ++ fmtV a.f1
def bytesEq : ByteArray := ⟨#[98, 121, 116, 101, 115, 61]⟩
def frV (l : List S30) : ByteArray := bytesEq ++ joinV (l.map askV)
def wfA (a : S30) : Prop := (-9223372036854775808 ≤ a.f0 ∧ a.f0 ≤ 9223372036854775807) ∧ (-9223372036854775808 ≤ a.f1 ∧ a.f1 ≤ 9223372036854775807)
theorem sz45 : (⟨#[45]⟩ : ByteArray).size = 1 := rfl
theorem askV_size (a : S30) (h : wfA a) : (askV a).size ≤ 41 := by
  have h0 := fmtV_size h.1.1 h.1.2
  have h1 := fmtV_size h.2.1 h.2.2
  unfold askV
  split
  · rw [ByteArray.size_append, sz45]; omega
  · split
    · rw [ByteArray.size_append, sz45]; omega
    · rw [ByteArray.size_append, ByteArray.size_append, sz45]; omega
theorem totS_asks (l : List S30) (h : ∀ a ∈ l, wfA a) : totS (l.map askV) ≤ 42 * l.length := by
  induction l with
  | nil => simp [totS]
  | cons x r ih =>
    have := ih (fun a ha => h a (by simp [ha]))
    have h0 := askV_size x (h x (by simp))
    simp only [List.map_cons, totS, List.length_cons]; omega
theorem joinV_size (l : List ByteArray) : (joinV l).size ≤ 2 * totS l := by
  have := joinI_len l
  rw [← bytesOf_joinV, bytesOf_length] at this
  exact this
theorem spec_Join_ev (l : List ByteArray) (hl : totS l ≤ 1099511627776) : Ev (fun k => spec_JoinList.f k l) (joinV l) := by
  have hlen := totS_len l
  have key : ∀ (rest pre : List ByteArray) (acc : ByteArray), l = pre ++ rest → 0 < pre.length → acc.size + 2 * totS rest ≤ 4611686018427387904 → Ev (fun k => spec_JoinList.l0 k l acc (pre.length : Int)) (strOfNums (bytesOf acc ++ joinT rest)) := by
    intro rest
    induction rest with
    | nil =>
      intro pre acc h hp ha
      have hl2 := len_mid h
      simp only [List.length_nil] at hl2
      refine Ev.step (f := fun _ => some acc) (fun k => ?_) (by simpa [joinT, strOf_bytesOf] using Ev.now acc)
      simp only [spec_JoinList.l0]
      rw [if_neg (by omega)]
    | cons x rest ih =>
      intro pre acc h hp ha
      have hl2 := len_mid h
      simp only [List.length_cons, totS] at hl2 ha
      have hx := rdS_mid h
      have hw := len_step pre x (by omega)
      have z1 : (⟨#[44, 32]⟩ : ByteArray).size = 2 := rfl
      have b1 : bytesOf (⟨#[44, 32]⟩ : ByteArray) = [44, 32] := by decide
      refine Ev.step (f := fun k => spec_JoinList.l0 k l ((acc ++ (⟨#[44, 32]⟩ : ByteArray)) ++ x) ((pre ++ [x]).length : Int)) (fun k => ?_) ?_
      · simp only [spec_JoinList.l0]
        rw [if_pos (by omega), if_pos (by omega), if_pos (by omega), if_pos (by omega), hx, if_pos (by simp only [ByteArray.size_append]; omega), hw]
      · have := ih (pre ++ [x]) ((acc ++ (⟨#[44, 32]⟩ : ByteArray)) ++ x) (by simp [h]) (by simp) (by simp only [ByteArray.size_append]; omega)
        simpa [bytesOf_append, b1, joinT] using this
  unfold spec_JoinList.f
  match l, hl, hlen, key with
  | [], hl, hlen, key =>
    refine Ev.step (f := fun _ => some (⟨#[]⟩ : ByteArray)) (fun k => ?_) ?_
    · simp only [spec_JoinList.l0]
      rw [if_neg (by simp)]
    · have e : joinV [] = ⟨#[]⟩ := by apply bytesOf_inj; rw [bytesOf_joinV]; decide
      rw [e]; exact Ev.now _
  | x :: r, hl, hlen, key =>
    simp only [totS, List.length_cons] at hl hlen
    have hx : rdOf ByteArray.empty (x :: r) 0 = x := rfl
    have e0 : (⟨#[]⟩ : ByteArray) ++ x = x := by apply bytesOf_inj; rw [bytesOf_append, show bytesOf ⟨#[]⟩ = [] by decide]; rfl
    refine Ev.step (f := fun k => spec_JoinList.l0 k (x :: r) x (([x] : List ByteArray).length : Int)) (fun k => ?_) ?_
    · simp only [spec_JoinList.l0]
      rw [if_pos (by simp only [List.length_cons]; omega), if_neg (by omega), if_pos (by omega), hx, e0, if_pos (by have : (⟨#[]⟩ : ByteArray).size = 0 := rfl; omega), wrap_id (by omega) (by omega)]
      rfl
    · exact key r [x] x rfl (by simp) (by omega)
def signed (n : Int) (t : ByteArray) : ByteArray := if n < 0 then (⟨#[45]⟩ : ByteArray) ++ t else t
theorem one_byte (d : Int) (h0 : 0 ≤ d) (h1 : d ≤ 9) : (wrap64 (48 + d)) % 256 = 48 + d := by rw [wrap_id (by omega) (by omega)]; omega
theorem spec_Fmt_end (n : Int) (s : ByteArray) (hs : s.size ≤ 1000) : Ev (fun k => spec_FormatInt.l0 k n s 0) (signed n s) := by
  refine Ev.step (f := fun _ => some (signed n s)) (fun k => ?_) (Ev.now _)
  simp only [spec_FormatInt.l0]
  rw [if_pos trivial]
  unfold signed
  split
  · rw [if_pos (by omega)]
  · rfl
theorem spec_Fmt_loop (n : Int) (d : Nat) : ∀ (x : Int) (s : ByteArray), x ≠ 0 → x.natAbs < 10 ^ d → -9223372036854775808 ≤ x → x ≤ 9223372036854775807 → s.size + d ≤ 1000 →
    Ev (fun k => spec_FormatInt.l0 k n s x) (signed n (strOfNums (numL x.natAbs) ++ s)) := by
  induction d with
  | zero => intro x s hx h; simp at h; omega
  | succ d ih =>
    intro x s hx h hlo hhi hs
    have hq : (x.natAbs / 10) < 10 ^ d := by rw [Nat.pow_succ] at h; omega
    obtain ⟨dg, hdg⟩ : ∃ dg : Int, dg = ((x.natAbs % 10 : Nat) : Int) := ⟨_, rfl⟩
    obtain ⟨x', hx'⟩ : ∃ x' : Int, x' = Int.tdiv x 10 := ⟨_, rfl⟩
    have hdb : 0 ≤ dg ∧ dg ≤ 9 := by omega
    have habs : x'.natAbs = x.natAbs / 10 := by rw [hx', Int.natAbs_tdiv]; rfl
    have hb' : -9223372036854775808 ≤ x' ∧ x' ≤ 9223372036854775807 := by omega
    have hw : wrap64 (Int.tdiv x 10) = x' := by rw [← hx', wrap_id hb'.1 hb'.2]
    have hstep : ∀ k, spec_FormatInt.l0 (k + 1) n s x = spec_FormatInt.l0 k n (strOfNums [48 + dg] ++ s) x' := by
      intro k
      have hsz : (strOfNums [48 + dg]).size + s.size ≤ 9223372036854775807 := by rw [strOfNums_size]; simp; omega
      simp only [spec_FormatInt.l0]
      rw [if_neg hx]
      by_cases hneg : x < 0
      · have e : Int.tmod x 10 = -dg := by
          have : x = -((x.natAbs : Nat) : Int) := by omega
          rw [this, Int.neg_tmod, hdg]; rfl
        by_cases z : dg = 0
        · have e0 : Int.tmod x 10 = 0 := by omega
          rw [if_neg (by omega), e0, z, Option.bind_some]
          rw [z] at hsz
          have o := one_byte 0 (by omega) (by omega)
          rw [o, if_pos hsz, hw]
        · rw [if_pos (by omega), e, Int.neg_neg, wrap_id (n := dg) (by omega) (by omega), one_byte dg hdb.1 hdb.2, Option.bind_some, if_pos hsz, hw]
      · have e : Int.tmod x 10 = dg := by
          have : x = ((x.natAbs : Nat) : Int) := by omega
          rw [this, hdg]; rfl
        rw [if_neg (by omega), e, one_byte dg hdb.1 hdb.2, Option.bind_some, if_pos hsz, hw]
    have hsz1 : (strOfNums [48 + dg] ++ s).size = 1 + s.size := by rw [ByteArray.size_append, strOfNums_size]; rfl
    by_cases z : x' = 0
    · have h10 : x.natAbs < 10 := by omega
      have e : strOfNums (numL x.natAbs) = strOfNums [48 + dg] := by rw [numL_small h10, hdg, Nat.mod_eq_of_lt h10]
      rw [e]
      refine Ev.step hstep ?_
      rw [z]
      exact spec_Fmt_end n _ (by omega)
    · have h10 : ¬ x.natAbs < 10 := by omega
      have e : strOfNums (numL x.natAbs) ++ s = strOfNums (numL x'.natAbs) ++ (strOfNums [48 + dg] ++ s) := by
        apply bytesOf_inj
        have i1 : InB [48 + dg] := by rw [InB_cons]; exact ⟨by omega, InB_nil⟩
        rw [bytesOf_append, bytesOf_append, bytesOf_append, bytesOf_strOf (InB_digits (numL_digits _)), bytesOf_strOf (InB_digits (numL_digits _)), bytesOf_strOf i1, numL_big h10, habs, hdg, List.append_assoc]
      rw [e]
      exact Ev.step hstep (ih x' _ z (by omega) hb'.1 hb'.2 (by omega))
theorem spec_Fmt_ev (n : Int) (h0 : -9223372036854775808 ≤ n) (h1 : n ≤ 9223372036854775807) : Ev (fun k => spec_FormatInt.f k n) (fmtV n) := by
  unfold spec_FormatInt.f
  by_cases z : n = 0
  · subst z
    refine Ev.pos rfl ?_
    have e : (⟨#[48]⟩ : ByteArray) = fmtV 0 := by
      apply bytesOf_inj
      rw [bytesOf_fmt, fmtL_pos (by omega), numL_small (by decide)]
      decide
    rw [e]; exact Ev.now _
  · refine Ev.neg z ?_
    have := spec_Fmt_loop n 19 n ⟨#[]⟩ z (by omega) h0 h1 (by decide)
    have e : signed n (strOfNums (numL n.natAbs) ++ ⟨#[]⟩) = fmtV n := by
      have e0 : strOfNums (numL n.natAbs) ++ ⟨#[]⟩ = strOfNums (numL n.natAbs) := by apply bytesOf_inj; rw [bytesOf_append, show bytesOf ⟨#[]⟩ = [] by decide, List.append_nil]
      apply bytesOf_inj
      rw [e0, bytesOf_fmt]
      unfold signed fmtL
      split
      · rw [bytesOf_append, bytesOf_strOf (InB_digits (numL_digits _))]; rfl
      · rw [bytesOf_strOf (InB_digits (numL_digits _))]
        congr 1; omega
    rwa [e] at this
theorem spec_FR_ev (l : List S30) (hl : l.length ≤ 1048576) (hw : ∀ a ∈ l, wfA a) : Ev (fun k => spec_FormatRanges.f k l) (frV l) := by
  have key : ∀ (rest pre : List S30), l = pre ++ rest → Ev (fun k => spec_FormatRanges.l0 k l (pre.map askV) (pre.length : Int)) (frV l) := by
    intro rest
    induction rest with
    | nil =>
      intro pre h
      have hl2 := len_mid h
      simp only [List.length_nil] at hl2
      have e : pre = l := by rw [h]; simp
      have ht := totS_asks l hw
      have hj := joinV_size (l.map askV)
      refine Ev.step (f := fun k => (spec_JoinList.f k (l.map askV)).bind fun t => if 6 + t.size ≤ 9223372036854775807 then some (bytesEq ++ t) else none) (fun k => ?_) (Ev.bind (spec_Join_ev (l.map askV) (by omega)) (Ev.pos (by omega) (Ev.now _)))
      simp only [spec_FormatRanges.l0]
      rw [if_neg (by omega), e]
      rfl
    | cons x rest ih =>
      intro pre h
      have hl2 := len_mid h
      simp only [List.length_cons] at hl2
      have hx : rd_T30 l (pre.length : Int) = x := getD_mid h
      have hwx := hw x (by rw [h]; simp)
      have h0 := fmtV_size hwx.1.1 hwx.1.2
      have h1 := fmtV_size hwx.2.1 hwx.2.2
      have hst := len_step pre x (by omega)
      have hm : (pre.map askV).length = pre.length := by simp
      have hap : pre.map askV ++ [askV x] = (pre ++ [x]).map askV := by simp
      have nxt := ih (pre ++ [x]) (by simp [h])
      rw [← hap, ← hst] at nxt
      by_cases g0 : x.f0 < 0
      · have ea : askV x = (⟨#[45]⟩ : ByteArray) ++ fmtV x.f1 := by unfold askV; rw [if_pos g0]
        rw [ea] at nxt
        refine Ev.step (f := fun k => (spec_FormatInt.f k x.f1).bind fun t => if 1 + t.size ≤ 9223372036854775807 then spec_FormatRanges.l0 k l (pre.map askV ++ [(⟨#[45]⟩ : ByteArray) ++ t]) (wrap64 ((pre.length : Int) + 1)) else none) (fun k => ?_) (Ev.bind (spec_Fmt_ev _ hwx.2.1 hwx.2.2) (Ev.pos (by omega) nxt))
        simp only [spec_FormatRanges.l0]
        rw [if_pos (by omega), if_pos (by omega), hx, if_pos g0]
        congr 1; funext t; rw [if_pos (show (pre.map askV).length < 8796093022208 by omega)]
      · by_cases g1 : x.f1 < 0
        · have ea : askV x = fmtV x.f0 ++ (⟨#[45]⟩ : ByteArray) := by unfold askV; rw [if_neg g0, if_pos g1]
          rw [ea] at nxt
          refine Ev.step (f := fun k => (spec_FormatInt.f k x.f0).bind fun t => if t.size + 1 ≤ 9223372036854775807 then spec_FormatRanges.l0 k l (pre.map askV ++ [t ++ (⟨#[45]⟩ : ByteArray)]) (wrap64 ((pre.length : Int) + 1)) else none) (fun k => ?_) (Ev.bind (spec_Fmt_ev _ hwx.1.1 hwx.1.2) (Ev.pos (by omega) nxt))
          simp only [spec_FormatRanges.l0]
          rw [if_pos (by omega), if_pos (by omega), hx, if_neg g0, if_pos g1]
          congr 1; funext t; rw [if_pos (show (pre.map askV).length < 8796093022208 by omega)]
        · have ea : askV x = (fmtV x.f0 ++ (⟨#[45]⟩ : ByteArray)) ++ fmtV x.f1 := by unfold askV; rw [if_neg g0, if_neg g1]
          rw [ea] at nxt
          refine Ev.step (f := fun k => (spec_FormatInt.f k x.f0).bind fun t => if t.size + 1 ≤ 9223372036854775807 then (spec_FormatInt.f k x.f1).bind (fun u => if (t ++ (⟨#[45]⟩ : ByteArray)).size + u.size ≤ 9223372036854775807 then spec_FormatRanges.l0 k l (pre.map askV ++ [(t ++ (⟨#[45]⟩ : ByteArray)) ++ u]) (wrap64 ((pre.length : Int) + 1)) else none) else none) (fun k => ?_) (Ev.bind (spec_Fmt_ev _ hwx.1.1 hwx.1.2) (Ev.pos (by omega) (Ev.bind (spec_Fmt_ev _ hwx.2.1 hwx.2.2) (Ev.pos (by rw [ByteArray.size_append, sz45]; omega) nxt))))
          simp only [spec_FormatRanges.l0]
          rw [if_pos (by omega), if_pos (by omega), hx, if_neg g0, if_neg g1]
          congr 1; funext t; congr 1; congr 1; funext u; rw [if_pos (show (pre.map askV).length < 8796093022208 by omega)]
  exact key l [] rfl
theorem wf_mk {a b : Int} (h : -1000 ≤ a ∧ a ≤ 1000 ∧ -1000 ≤ b ∧ b ≤ 1000) : wfA (S30.mk a b) := by
  unfold wfA
  simp only
  omega
theorem asks_loop (l : List Int) (d : Nat) : ∀ (x : List S30) (i h : Int), Cur l i → (∀ a ∈ x, wfA a) → x.length + d ≤ 100 →
    ∃ A i' h', Ev (fun k => spec_l8Asks.l0 k x (d : Int) l i h) (A, i', h') ∧ A.length = x.length + d ∧ (∀ a ∈ A, wfA a) ∧ Cur l i' := by
  induction d with
  | zero =>
    intro x i h c hw hx
    refine ⟨x, i, h, Ev.step (f := fun _ => some (x, i, h)) (fun k => ?_) (Ev.now _), by omega, hw, c⟩
    simp only [spec_l8Asks.l0]
    rw [if_neg (by omega)]
  | succ d ih =>
    intro x i h c hw hx
    obtain ⟨v, i1, h1, e1, v0, v1, c1⟩ := below_ok h c 12
    have v1 := v1 (by omega)
    obtain ⟨w, i2, h2, e2, w0, w1, c2⟩ := below_ok h1 c1 4
    have wd : wrap64 (((d + 1 : Nat) : Int) - 1) = (d : Int) := by rw [wrap_id (by omega) (by omega)]; omega
    have app : ∀ a : S30, wfA a → (∀ b ∈ x ++ [a], wfA b) := by
      intro a ha b hb
      rcases List.mem_append.1 hb with z | z
      · exact hw b z
      · rw [List.mem_singleton] at z; rw [z]; exact ha
    have len : ∀ a : S30, (x ++ [a]).length = x.length + 1 := fun a => by simp
    by_cases g0 : w = 0
    · obtain ⟨A, i', h', hA, lA, wA, cA⟩ := ih (x ++ [⟨-1, v⟩]) i2 h2 c2 (app _ (wf_mk (a := -1) (b := v) (by omega))) (by rw [len]; omega)
      refine ⟨A, i', h', Ev.step (f := fun k => spec_l8Asks.l0 k (x ++ [⟨-1, v⟩]) (d : Int) l i2 h2) (fun k => ?_) hA, by rw [lA, len]; omega, wA, cA⟩
      simp only [spec_l8Asks.l0]
      rw [if_pos (by omega), e1, Option.bind_some]
      simp only
      rw [e2, Option.bind_some]
      simp only
      rw [if_pos g0, if_pos (by omega), wd]
    by_cases g1 : w = 1
    · obtain ⟨A, i', h', hA, lA, wA, cA⟩ := ih (x ++ [⟨v, -1⟩]) i2 h2 c2 (app _ (wf_mk (a := v) (b := -1) (by omega))) (by rw [len]; omega)
      refine ⟨A, i', h', Ev.step (f := fun k => spec_l8Asks.l0 k (x ++ [⟨v, -1⟩]) (d : Int) l i2 h2) (fun k => ?_) hA, by rw [lA, len]; omega, wA, cA⟩
      simp only [spec_l8Asks.l0]
      rw [if_pos (by omega), e1, Option.bind_some]
      simp only
      rw [e2, Option.bind_some]
      simp only
      rw [if_neg g0, if_pos g1, if_pos (by omega), wd]
    · obtain ⟨y, i3, h3, e3, y0, y1, c3⟩ := below_ok h2 c2 9
      have y1 := y1 (by omega)
      have wy : wrap64 (v + y) = v + y := wrap_id (by omega) (by omega)
      obtain ⟨A, i', h', hA, lA, wA, cA⟩ := ih (x ++ [⟨v, v + y⟩]) i3 h3 c3 (app _ (wf_mk (a := v) (b := v + y) (by omega))) (by rw [len]; omega)
      refine ⟨A, i', h', Ev.step (f := fun k => spec_l8Asks.l0 k (x ++ [⟨v, v + y⟩]) (d : Int) l i3 h3) (fun k => ?_) hA, by rw [lA, len]; omega, wA, cA⟩
      simp only [spec_l8Asks.l0]
      rw [if_pos (by omega), e1, Option.bind_some]
      simp only
      rw [e2, Option.bind_some]
      simp only
      rw [if_neg g0, if_neg g1, e3, Option.bind_some]
      simp only
      rw [if_pos (by omega), wd, wy]
theorem asks_ok {l : List Int} {i : Int} (h : Int) (c : Cur l i) : ∃ A i' h', Ev (fun k => spec_l8Asks.f k l i h) (A, i', h') ∧ 1 ≤ A.length ∧ A.length ≤ 3 ∧ (∀ a ∈ A, wfA a) ∧ Cur l i' := by
  obtain ⟨v, i1, h1, e1, v0, v1, c1⟩ := below_ok h c 3
  have v1 := v1 (by omega)
  obtain ⟨A, i', h', hA, lA, wA, cA⟩ := asks_loop l (1 + v).toNat [] i1 h1 c1 (by simp) (by rw [List.length_nil]; omega)
  rw [List.length_nil] at lA
  refine ⟨A, i', h', ?_, by omega, by omega, wA, cA⟩
  unfold spec_l8Asks.f
  rw [e1]
  simp only [Option.bind_some]
  rw [show ((1 + v).toNat : Int) = 1 + v by omega] at hA
  rw [wrap_id (n := 1 + v) (by omega) (by omega)]
  exact hA
theorem draw_pr_ok (l : List Int) (hl : l.length ≤ 1048576) : ∃ t, Ev (fun k => spec_DrawParseRanges.f k l) t ∧ t.size ≤ 1000 := by
  obtain ⟨h, hn, c⟩ := new_ev l hl
  obtain ⟨b, i1, h1, e1, c1⟩ := once1_ok h c 3
  cases b with
  | true =>
    obtain ⟨t, i2, h2, e2, t2, c2⟩ := str_small h1 c1 ([(⟨#[]⟩ : ByteArray), (⟨#[98, 121, 116, 101, 115, 61]⟩ : ByteArray), (⟨#[98, 121, 116, 101, 115, 61, 45]⟩ : ByteArray), (⟨#[98, 121, 116, 101, 115, 61, 53, 45, 51]⟩ : ByteArray), (⟨#[98, 121, 116, 101, 115, 61, 48, 45, 48]⟩ : ByteArray), (⟨#[98, 121, 116, 101, 115, 61, 49, 45, 50, 44, 51, 45, 52, 44, 45, 53, 44, 54, 45, 44, 55, 45, 56, 44, 57, 45, 57]⟩ : ByteArray), (⟨#[98, 121, 116, 101, 115, 61, 49, 45, 44, 50, 45, 44, 51, 45, 44, 52, 45, 44, 53, 45, 44, 54, 45, 44, 55, 45]⟩ : ByteArray), (⟨#[105, 116, 101, 109, 115, 61, 48, 45, 49]⟩ : ByteArray), (⟨#[98, 121, 116, 101, 115, 61, 97, 45, 98]⟩ : ByteArray), (⟨#[98, 121, 116, 101, 115, 61, 32, 49, 32, 45, 32, 50]⟩ : ByteArray), (⟨#[66, 121, 116, 101, 115, 61, 48, 45, 49]⟩ : ByteArray), (⟨#[98, 121, 116, 101, 115, 61, 48, 49, 45, 50]⟩ : ByteArray)] : List ByteArray) (by decide) 100 (by decide +kernel)
    refine ⟨t, ?_, by omega⟩
    unfold spec_DrawParseRanges.f
    refine Ev.bind hn ?_
    simp only
    rw [e1]
    simp only [Option.bind_some]
    refine Ev.pos trivial ?_
    rw [e2]
    exact Ev.now _
  | false =>
    obtain ⟨A, i2, h2, hA, a1, a3, wA, c2⟩ := asks_ok h1 c1
    have zs : (frV A).size ≤ 300 := by
      have z1 := totS_asks A wA
      have z2 := joinV_size (A.map askV)
      unfold frV
      rw [ByteArray.size_append, show bytesEq.size = 6 from rfl]
      omega
    obtain ⟨t, i3, h3, e3, t3, c3⟩ := bent_ok h2 c2 (frV A) (by omega)
    refine ⟨t, ?_, by omega⟩
    unfold spec_DrawParseRanges.f
    refine Ev.bind hn ?_
    simp only
    rw [e1]
    simp only [Option.bind_some]
    refine Ev.neg (by simp) (Ev.bind hA (Ev.bind (spec_FR_ev A (by omega) wA) ?_))
    simp only
    rw [e3]
    exact Ev.now _
theorem draw_rr_ok (l : List Int) (hl : l.length ≤ 1048576) : ∃ A n, Ev (fun k => spec_DrawResolveRanges.f k l) (A, n) ∧ A.length ≤ 3 ∧ (∀ a ∈ A, wfA a) ∧ -1 ≤ n ∧ n ≤ 20 := by
  obtain ⟨h, hn, c⟩ := new_ev l hl
  obtain ⟨A, i1, h1, hA, a1, a3, wA, c1⟩ := asks_ok h c
  obtain ⟨b, i2, h2, e2, c2⟩ := once1_ok h1 c1 6
  have bnd : ∀ n : Int, n ∈ ([0, 1, 5, 10, 20, (-1)] : List Int) → -1 ≤ n ∧ n ≤ 20 := by intro n hn; simp only [List.mem_cons, List.mem_nil_iff, or_false] at hn; omega
  cases b with
  | true =>
    obtain ⟨x, i3, h3, e3, x3, c3⟩ := odd_ok h2 c2
    obtain ⟨n, i4, h4, e4, n4, c4⟩ := int_ok h3 c3 ([0, 1, 5, 10, 20, (-1)] : List Int) (by decide)
    refine ⟨A.set 0 ⟨(rd_T30 A 0).f0, x⟩, n, ?_, by rw [List.length_set]; exact a3, ?_, bnd n n4⟩
    · unfold spec_DrawResolveRanges.f
      refine Ev.bind hn (Ev.bind hA ?_)
      simp only
      rw [e2]
      simp only [Option.bind_some]
      refine Ev.pos trivial ?_
      rw [e3]
      simp only [Option.bind_some]
      refine Ev.pos (by omega) ?_
      rw [e4]
      exact Ev.now _
    · intro a ha
      rcases List.mem_or_eq_of_mem_set ha with z | z
      · exact wA a z
      · rw [z]
        refine ⟨?_, x3⟩
        match A, a1, wA with
        | y :: r, _, wA => exact (wA y (by simp)).1
  | false =>
    obtain ⟨n, i4, h4, e4, n4, c4⟩ := int_ok h2 c2 ([0, 1, 5, 10, 20, (-1)] : List Int) (by decide)
    refine ⟨A, n, ?_, a3, wA, bnd n n4⟩
    unfold spec_DrawResolveRanges.f
    refine Ev.bind hn (Ev.bind hA ?_)
    simp only
    rw [e2]
    simp only [Option.bind_some]
    refine Ev.neg (by simp) ?_
    rw [e4]
    exact Ev.now _
def cutI (sep : List Int) : List Int → List Int × List Int × Bool
  | [] => ([], [], false)
  | b :: r => if sep.isPrefixOf (b :: r) = true then ([], (b :: r).drop sep.length, true) else (b :: (cutI sep r).1, (cutI sep r).2)
def cutV (sep : List Int) (s : ByteArray) : ByteArray × ByteArray × Bool := (strOfNums (cutI sep (bytesOf s)).1, strOfNums (cutI sep (bytesOf s)).2.1, (cutI sep (bytesOf s)).2.2)
theorem prefix_map (u l : List UInt8) : (u.map fun b => (b.toNat : Int)).isPrefixOf (l.map fun b => (b.toNat : Int)) = u.isPrefixOf l := by
  induction u generalizing l with
  | nil => simp
  | cons a u ih =>
    cases l with
    | nil => rfl
    | cons b l =>
      simp only [List.map_cons, List.isPrefixOf, ih]
      congr 1
      by_cases h : a = b
      · subst h; simp
      · have : ¬ (a.toNat : Int) = (b.toNat : Int) := fun z => h (UInt8.toNat_inj.1 (by omega))
        rw [beq_eq_false_iff_ne.mpr h, beq_eq_false_iff_ne.mpr this]
theorem libcut_cons_hit {b : UInt8} {l sep : List UInt8} (h : sep.isPrefixOf (b :: l) = true) : Lib.cut (b :: l) sep = ([], (b :: l).drop sep.length, true) := by
  have e : Lib.index (b :: l) sep = 0 := by unfold Lib.index; rw [if_pos h]
  unfold Lib.cut
  rw [e]; simp
theorem libcut_cons_miss {b : UInt8} {l sep : List UInt8} (h : ¬ sep.isPrefixOf (b :: l) = true) : Lib.cut (b :: l) sep = (b :: (Lib.cut l sep).1, (Lib.cut l sep).2) := by
  have e : Lib.index (b :: l) sep = if (Lib.index l sep == -1) = true then -1 else Lib.index l sep + 1 := by rw [Lib.index, if_neg h]
  have hg := Lib.index_ge l sep
  unfold Lib.cut
  by_cases g : Lib.index l sep = -1
  · rw [e, g]; simp
  · have g2 : 0 ≤ Lib.index l sep := by omega
    have e0 : Lib.index (b :: l) sep = Lib.index l sep + 1 := by rw [e, if_neg (by simpa using g)]
    rw [e0, if_pos (by omega), if_pos g2]
    obtain ⟨n, hn⟩ : ∃ n : Nat, Lib.index l sep = n := ⟨(Lib.index l sep).toNat, by omega⟩
    rw [hn]
    have e1 : ((n : Int) + 1).toNat = n + 1 := by omega
    have e2 : (n : Int).toNat = n := by omega
    rw [e1, e2, List.take_succ_cons]
    have e3 : n + 1 + sep.length = (n + sep.length) + 1 := by omega
    rw [e3, List.drop_succ_cons]
theorem libcut_map (l sep : List UInt8) (hs : sep ≠ []) :
    ((Lib.cut l sep).1.map fun b => (b.toNat : Int)) = (cutI (sep.map fun b => (b.toNat : Int)) (l.map fun b => (b.toNat : Int))).1 ∧ ((Lib.cut l sep).2.1.map fun b => (b.toNat : Int)) = (cutI (sep.map fun b => (b.toNat : Int)) (l.map fun b => (b.toNat : Int))).2.1 ∧
    (Lib.cut l sep).2.2 = (cutI (sep.map fun b => (b.toNat : Int)) (l.map fun b => (b.toNat : Int))).2.2 := by
  induction l with
  | nil =>
    have e : Lib.cut [] sep = ([], [], false) := by
      unfold Lib.cut Lib.index
      cases sep with
      | nil => exact absurd rfl hs
      | cons a s => simp
    rw [e]; exact ⟨rfl, rfl, rfl⟩
  | cons b r ih =>
    have hp := prefix_map sep (b :: r)
    rw [List.map_cons] at hp ⊢
    by_cases h : sep.isPrefixOf (b :: r) = true
    · rw [libcut_cons_hit h]
      unfold cutI
      rw [if_pos (by rw [hp]; exact h)]
      refine ⟨rfl, ?_, rfl⟩
      simp only
      rw [List.map_drop, List.map_cons, List.length_map]
    · rw [libcut_cons_miss h]
      unfold cutI
      rw [if_neg (by rw [hp]; exact h)]
      refine ⟨?_, ih.2.1, ih.2.2⟩
      simp only [List.map_cons]
      rw [ih.1]
theorem cut_parts (sep l : List Int) : (cutI sep l).2.2 = true → l = (cutI sep l).1 ++ sep ++ (cutI sep l).2.1 := by
  induction l with
  | nil => intro h; simp [cutI] at h
  | cons b r ih =>
    unfold cutI
    split
    · rename_i h
      intro _
      simp only [List.nil_append]
      exact (List.prefix_iff_eq_append.1 (List.isPrefixOf_iff_prefix.1 h)).symm
    · intro h
      simp only at h ⊢
      have := ih h
      rw [List.cons_append, List.cons_append, ← this]
theorem cut_none (sep l : List Int) : (cutI sep l).2.2 = false → cutI sep l = (l, [], false) := by
  induction l with
  | nil => intro _; rfl
  | cons b r ih =>
    unfold cutI
    split
    · intro h; simp at h
    · intro h
      simp only at h
      rw [ih h]
def rdropI (p : Int → Bool) : List Int → List Int
  | [] => []
  | b :: r => if rdropI p r = [] ∧ p b = true then [] else b :: rdropI p r
def trimP (p : Int → Bool) (l : List Int) : List Int := (rdropI p l).dropWhile p
def blankI (b : Int) : Bool := b == 32 || b == 9
theorem rdropI_concat (p : Int → Bool) (l : List Int) (b : Int) : rdropI p (l ++ [b]) = if p b = true then rdropI p l else l ++ [b] := by
  induction l with
  | nil => by_cases h : p b = true <;> simp [rdropI, h]
  | cons x r ih =>
    by_cases h : p b = true
    · rw [if_pos h] at ih ⊢
      simp only [List.cons_append, rdropI, ih]
    · rw [if_neg h] at ih ⊢
      simp only [List.cons_append, rdropI, ih]
      rw [if_neg (by simp)]
theorem rdropI_eq (p : Int → Bool) (l : List Int) : (l.reverse.dropWhile p).reverse = rdropI p l := by
  obtain ⟨n, hn⟩ : ∃ n, l.length = n := ⟨_, rfl⟩
  induction n generalizing l with
  | zero => obtain rfl := List.eq_nil_of_length_eq_zero hn; rfl
  | succ n ih =>
    rcases List.eq_nil_or_concat l with h | ⟨r, b, h⟩
    · subst h; rfl
    · subst h
      rw [List.concat_eq_append, rdropI_concat, List.reverse_append]
      simp only [List.reverse_cons, List.reverse_nil, List.nil_append, List.singleton_append, List.dropWhile_cons]
      by_cases hb : p b = true
      · rw [if_pos hb, if_pos hb]
        exact ih r (by simp at hn; omega)
      · rw [if_neg hb, if_neg hb]; simp
theorem rdropI_length (p : Int → Bool) (l : List Int) : (rdropI p l).length ≤ l.length := by
  induction l with
  | nil => simp [rdropI]
  | cons b r ih => unfold rdropI; split <;> simp only [List.length_nil, List.length_cons] <;> omega
/-- It is all one which end goes first. -/
theorem drop_rdrop (p : Int → Bool) (l : List Int) : (rdropI p l).dropWhile p = rdropI p (l.dropWhile p) := by
  induction l with
  | nil => rfl
  | cons b r ih =>
    by_cases h : p b = true
    · rw [List.dropWhile_cons_of_pos h]
      by_cases g : rdropI p r = []
      · have e : rdropI p (b :: r) = [] := by unfold rdropI; rw [if_pos ⟨g, h⟩]
        rw [e, ← ih, g]
      · have e : rdropI p (b :: r) = b :: rdropI p r := by rw [rdropI, if_neg (fun z => g z.1)]
        rw [e, List.dropWhile_cons_of_pos h, ih]
    · have e : rdropI p (b :: r) = b :: rdropI p r := by rw [rdropI, if_neg (fun z => h z.2)]
      rw [e, List.dropWhile_cons_of_neg h, List.dropWhile_cons_of_neg h, e]
theorem trimP_length (p : Int → Bool) (l : List Int) : (trimP p l).length ≤ l.length :=
  Nat.le_trans (List.dropWhile_sublist p).length_le (rdropI_length p l)
def trimV (s : ByteArray) : ByteArray := strOfNums (trimP blankI (bytesOf s))
def cutL (q : Bool) (cur l : List Int) : List (List Int) :=
  match l with
  | [] => [cur]
  | b :: r =>
    if q = true ∧ b = 92 then (match r with
      | [] => [cur ++ [b]]
      | c :: r' => cutL q (cur ++ [b, c]) r')
    else if b = 34 then cutL (!q) (cur ++ [b]) r
    else if q = false ∧ b = 44 then cur :: cutL false [] r
    else cutL q (cur ++ [b]) r
termination_by l.length
decreasing_by all_goals simp only [List.length_cons]; omega
theorem cutL_nil (q : Bool) (cur : List Int) : cutL q cur [] = [cur] := by unfold cutL; rfl
theorem cutL_last (cur : List Int) : cutL true cur [92] = [cur ++ [92]] := by unfold cutL; simp
theorem cutL_esc (cur : List Int) (c : Int) (r : List Int) : cutL true cur (92 :: c :: r) = cutL true (cur ++ [92, c]) r := by rw [cutL.eq_def]; simp
theorem cutL_quote (q : Bool) (cur r : List Int) : cutL q cur (34 :: r) = cutL (!q) (cur ++ [34]) r := by rw [cutL.eq_def]; simp
theorem cutL_comma (cur r : List Int) : cutL false cur (44 :: r) = cur :: cutL false [] r := by rw [cutL.eq_def]; simp
theorem cutL_other (q : Bool) (cur r : List Int) (b : Int) (h1 : ¬ (q = true ∧ b = 92)) (h2 : b ≠ 34) (h3 : ¬ (q = false ∧ b = 44)) : cutL q cur (b :: r) = cutL q (cur ++ [b]) r := by
  rw [cutL.eq_def]
  simp only
  rw [if_neg h1, if_neg h2, if_neg h3]
/-- One way through a text at a time: what the five cases of cutL are good for. -/
theorem cut_cases {p : Bool → List Int → Prop} (hnil : ∀ q, p q []) (hlast : p true [92]) (hesc : ∀ c r, p true r → p true (92 :: c :: r)) (hquote : ∀ q r, p (!q) r → p q (34 :: r)) (hcomma : ∀ r, p false r → p false (44 :: r))
    (hother : ∀ q b r, ¬ (q = true ∧ b = 92) → b ≠ 34 → ¬ (q = false ∧ b = 44) → p q r → p q (b :: r)) : ∀ (n : Nat) (q : Bool) (l : List Int), l.length ≤ n → p q l := by
  intro n
  induction n with
  | zero => intro q l h; obtain rfl : l = [] := List.eq_nil_of_length_eq_zero (by omega); exact hnil q
  | succ n ih =>
    intro q l h
    match l, h with
    | [], _ => exact hnil q
    | b :: r, h =>
      simp only [List.length_cons] at h
      by_cases h1 : q = true ∧ b = 92
      · obtain ⟨rfl, rfl⟩ := h1
        match r, h with
        | [], _ => exact hlast
        | c :: r', h => exact hesc c r' (ih true r' (by simp only [List.length_cons] at h; omega))
      · by_cases h2 : b = 34
        · subst h2; exact hquote q r (ih _ r (by omega))
        · by_cases h3 : q = false ∧ b = 44
          · obtain ⟨rfl, rfl⟩ := h3; exact hcomma r (ih _ r (by omega))
          · exact hother q b r h1 h2 h3 (ih q r (by omega))
theorem cut_ind {p : Bool → List Int → Prop} (hnil : ∀ q, p q []) (hlast : p true [92]) (hesc : ∀ c r, p true r → p true (92 :: c :: r)) (hquote : ∀ q r, p (!q) r → p q (34 :: r)) (hcomma : ∀ r, p false r → p false (44 :: r))
    (hother : ∀ q b r, ¬ (q = true ∧ b = 92) → b ≠ 34 → ¬ (q = false ∧ b = 44) → p q r → p q (b :: r)) (q : Bool) (l : List Int) : p q l := cut_cases hnil hlast hesc hquote hcomma hother l.length q l (Nat.le_refl _)
def splitL (l : List Int) : List (List Int) := ((cutL false [] l).map (trimP blankI)).filter (fun x => decide (x ≠ []))
def splitV (s : ByteArray) : List ByteArray := (splitL (bytesOf s)).map strOfNums
theorem cutL_mem (q : Bool) (l : List Int) : ∀ (cur : List Int) (S : Int → Prop), (∀ x ∈ cur, S x) → (∀ x ∈ l, S x) → ∀ m ∈ cutL q cur l, ∀ x ∈ m, S x := by
  refine cut_ind (p := fun q l => ∀ (cur : List Int) (S : Int → Prop), (∀ x ∈ cur, S x) → (∀ x ∈ l, S x) → ∀ m ∈ cutL q cur l, ∀ x ∈ m, S x) ?_ ?_ ?_ ?_ ?_ ?_ q l
  · intro q cur S h0 h1 m hm; rw [cutL_nil] at hm; simp at hm; subst hm; exact h0
  · intro cur S h0 h1 m hm; rw [cutL_last] at hm; simp at hm; subst hm
    intro x hx; rcases List.mem_append.1 hx with g | g
    · exact h0 x g
    · exact h1 x g
  · intro c r ih cur S h0 h1 m hm
    rw [cutL_esc] at hm
    exact ih _ S (by intro x hx; rcases List.mem_append.1 hx with g | g
                     · exact h0 x g
                     · refine h1 x ?_; simp at g ⊢; rcases g with g | g <;> simp [g]) (fun x hx => h1 x (by simp [hx])) m hm
  · intro q r ih cur S h0 h1 m hm
    rw [cutL_quote] at hm
    exact ih _ S (by intro x hx; rcases List.mem_append.1 hx with g | g
                     · exact h0 x g
                     · exact h1 x (by simp at g; simp [g])) (fun x hx => h1 x (by simp [hx])) m hm
  · intro r ih cur S h0 h1 m hm
    rw [cutL_comma] at hm
    rcases List.mem_cons.1 hm with g | g
    · subst g; exact h0
    · exact ih [] S (by simp) (fun x hx => h1 x (by simp [hx])) m g
  · intro q b r g1 g2 g3 ih cur S h0 h1 m hm
    rw [cutL_other q cur r b g1 g2 g3] at hm
    exact ih _ S (by intro x hx; rcases List.mem_append.1 hx with g | g
                     · exact h0 x g
                     · exact h1 x (by simp at g; simp [g])) (fun x hx => h1 x (by simp [hx])) m hm
theorem cutL_total (q : Bool) (l : List Int) : ∀ cur : List Int, (cutL q cur l).length + ((cutL q cur l).map List.length).sum ≤ cur.length + l.length + 1 := by
  refine cut_ind (p := fun q l => ∀ cur : List Int, (cutL q cur l).length + ((cutL q cur l).map List.length).sum ≤ cur.length + l.length + 1) ?_ ?_ ?_ ?_ ?_ ?_ q l
  · intro q cur; rw [cutL_nil]; simp; omega
  · intro cur; rw [cutL_last]; simp; omega
  · intro c r ih cur; rw [cutL_esc]; have := ih (cur ++ [92, c]); simp only [List.length_append, List.length_cons, List.length_nil] at this ⊢; omega
  · intro q r ih cur; rw [cutL_quote]; have := ih (cur ++ [34]); simp only [List.length_append, List.length_cons, List.length_nil] at this ⊢; omega
  · intro r ih cur; rw [cutL_comma]; have := ih []; simp only [List.length_cons, List.length_nil, List.map_cons, List.sum_cons] at this ⊢; omega
  · intro q b r g1 g2 g3 ih cur; rw [cutL_other q cur r b g1 g2 g3]; have := ih (cur ++ [b]); simp only [List.length_append, List.length_cons, List.length_nil] at this ⊢; omega
theorem cutL_prepend (q : Bool) (l : List Int) : ∀ c1 c2 : List Int, ∃ h t, cutL q c2 l = h :: t ∧ cutL q (c1 ++ c2) l = (c1 ++ h) :: t := by
  refine cut_ind (p := fun q l => ∀ c1 c2 : List Int, ∃ h t, cutL q c2 l = h :: t ∧ cutL q (c1 ++ c2) l = (c1 ++ h) :: t) ?_ ?_ ?_ ?_ ?_ ?_ q l
  · intro q c1 c2; exact ⟨c2, [], by rw [cutL_nil], by rw [cutL_nil]⟩
  · intro c1 c2; exact ⟨c2 ++ [92], [], by rw [cutL_last], by rw [cutL_last]; simp⟩
  · intro c r ih c1 c2; rw [cutL_esc, cutL_esc, List.append_assoc]; exact ih c1 _
  · intro q r ih c1 c2; rw [cutL_quote, cutL_quote, List.append_assoc]; exact ih c1 _
  · intro r ih c1 c2; rw [cutL_comma, cutL_comma]; exact ⟨c2, _, rfl, rfl⟩
  · intro q b r g1 g2 g3 ih c1 c2; rw [cutL_other q _ r b g1 g2 g3, cutL_other q _ r b g1 g2 g3, List.append_assoc]; exact ih c1 _
theorem splitL_total (l : List Int) : (splitL l).length + ((splitL l).map List.length).sum ≤ l.length + 1 := by
  have h := cutL_total false l []
  unfold splitL
  have aux : ∀ L : List (List Int), ((L.map (trimP blankI)).filter (fun x => decide (x ≠ []))).length + (((L.map (trimP blankI)).filter (fun x => decide (x ≠ []))).map List.length).sum ≤ L.length + (L.map List.length).sum := by
    intro L
    induction L with
    | nil => simp
    | cons x r ih =>
      have := trimP_length blankI x
      simp only [List.map_cons, List.sum_cons, List.length_cons]
      by_cases g : trimP blankI x = []
      · rw [List.filter_cons_of_neg (by simp [g])]; omega
      · rw [List.filter_cons_of_pos (by simp [g])]; simp only [List.length_cons, List.map_cons, List.sum_cons]; omega
  have := aux (cutL false [] l)
  simp only [List.length_nil] at h
  omega
theorem ext_mid {s : ByteArray} {pre cur rest : List Int} (h : bytesOf s = pre ++ cur ++ rest) : s.extract pre.length (pre.length + cur.length) = strOfNums cur := by
  apply bytesOf_inj
  have hb : InB cur := by have := InB_bytes s; rw [h, InB_append, InB_append] at this; exact this.1.2
  rw [bytesOf_strOf hb, bytesOf_extract, h]
  rw [show pre.length + cur.length = (pre ++ cur).length by simp, List.take_left, List.drop_left]
theorem ext_end {s : ByteArray} {pre cur : List Int} (h : bytesOf s = pre ++ cur) : s.extract pre.length s.size = strOfNums cur := by
  have e := ext_mid (s := s) (pre := pre) (cur := cur) (rest := []) (by simpa using h)
  have : s.size = pre.length + cur.length := by rw [← bytesOf_length, h, List.length_append]
  rw [this]; exact e
/-- The parts, trimmed, without the empty ones. -/
def partsV (m : List (List Int)) : List ByteArray := ((m.map (trimP blankI)).filter (fun x => decide (x ≠ []))).map strOfNums
theorem splitV_parts (s : ByteArray) : splitV s = partsV (cutL false [] (bytesOf s)) := rfl
theorem rdS_mid2 {l pre rest : List ByteArray} {x : ByteArray} (h : l = pre ++ x :: rest) : rdOf ByteArray.empty l (pre.length : Int) = x := getD_mid h
theorem partsV_nil : partsV [] = [] := rfl
theorem partsV_cons (x : List Int) (m : List (List Int)) : partsV (x :: m) = (if trimP blankI x = [] then [] else [strOfNums (trimP blankI x)]) ++ partsV m := by
  unfold partsV
  by_cases h : trimP blankI x = []
  · simp [h]
  · simp [h]
theorem partsV_append (a b : List (List Int)) : partsV (a ++ b) = partsV a ++ partsV b := by unfold partsV; simp
theorem partsV_len (m : List (List Int)) : (partsV m).length ≤ m.length := by
  unfold partsV
  rw [List.length_map]
  exact Nat.le_trans (List.length_filter_le _ _) (by simp)
theorem trimV_of {x : List Int} (h : InB x) : trimV (strOfNums x) = strOfNums (trimP blankI x) := by unfold trimV; rw [bytesOf_strOf h]
theorem strOf_nil {x : List Int} : (strOfNums x).toList = ([] : List UInt8) ↔ x = [] := by
  have e : ([] : List UInt8) = (⟨#[]⟩ : ByteArray).toList := by rw [ByteArray.toList_eq]
  rw [e, toList_iff]
  constructor
  · intro h
    have : (strOfNums x).size = 0 := by rw [h]; rfl
    rw [strOfNums_size] at this
    exact List.eq_nil_of_length_eq_zero this
  · rintro rfl; rfl
theorem mem_len_le {L : List (List Int)} {m : List Int} (h : m ∈ L) : m.length ≤ (L.map List.length).sum := by
  induction L with
  | nil => simp at h
  | cons x r ih =>
    simp only [List.map_cons, List.sum_cons]
    rcases List.mem_cons.1 h with g | g
    · subst g; omega
    · have := ih g; omega
theorem split_sizes (s : ByteArray) : ∀ t ∈ splitV s, t.size ≤ s.size + 1 := by
  intro t ht
  unfold splitV at ht
  obtain ⟨m, hm, rfl⟩ := List.mem_map.1 ht
  have h1 := splitL_total (bytesOf s)
  have h2 := mem_len_le hm
  rw [bytesOf_length] at h1
  rw [strOfNums_size]; omega
theorem split_count (s : ByteArray) : (splitV s).length ≤ s.size + 1 := by
  have := splitL_total (bytesOf s)
  rw [bytesOf_length] at this
  unfold splitV
  rw [List.length_map]; omega
theorem scan_loop {α : Type} (s : ByteArray) (hs : s.size ≤ 4611686018427387904) (c : Int) (g : Nat → Int → Option α) (hg : ∀ k i, 0 ≤ i → i < (s.size : Int) → bt s i ≠ c → g (k + 1) i = g k (wrap64 (i + 1))) (r : α) (he : Ev (fun k => g k ((cutI [c] (bytesOf s)).1.length : Int)) r) : Ev (fun k => g k 0) r := by
  have key : ∀ rest pre, bytesOf s = pre ++ rest → (cutI [c] (bytesOf s)).1.length = pre.length + (cutI [c] rest).1.length → Ev (fun k => g k (pre.length : Int)) r := by
    intro rest
    induction rest with
    | nil => intro pre h e; rw [e] at he; simpa [cutI] using he
    | cons b rest ih =>
      intro pre h e
      by_cases q : b = c
      · subst q
        have : (cutI [b] (b :: rest)).1 = [] := by unfold cutI; simp
        rw [this] at e; rw [e] at he; simpa using he
      · have hz := size_mid h
        simp only [List.length_cons] at hz
        have hc : (cutI [c] (b :: rest)).1 = b :: (cutI [c] rest).1 := by
          conv => lhs; unfold cutI
          rw [if_neg (by simpa using Ne.symm q)]
        refine Ev.step (f := fun k => g k ((pre ++ [b]).length : Int)) (fun k => ?_) (ih (pre ++ [b]) (by simp [h]) (by rw [e, hc]; simp; omega))
        rw [hg k _ (by omega) (by omega) (by rw [bt_mid h]; exact q), len_step pre b (by omega)]
  exact key (bytesOf s) [] rfl (by simp)
theorem cut_hit (c : Int) (l : List Int) (h : (cutI [c] l).2.2 = true) : l = (cutI [c] l).1 ++ c :: (cutI [c] l).2.1 := by
  have := cut_parts [c] l h
  simpa using this
theorem cut_miss (sep l : List Int) (h : ¬ (cutI sep l).2.2 = true) : (cutI sep l).1 = l ∧ (cutI sep l).2.1 = [] := by
  have := cut_none sep l (by simpa using h)
  rw [this]; exact ⟨rfl, rfl⟩
/-- A cut at a sign that does not stand ahead. -/
theorem cut_at (c : Int) (a r : List Int) (h : ∀ x ∈ a, x ≠ c) : cutI [c] (a ++ c :: r) = (a, r, true) := by
  induction a with
  | nil => unfold cutI; simp
  | cons b a ih =>
    have hb := h b (by simp)
    rw [List.cons_append]
    conv => lhs; unfold cutI
    rw [if_neg (by simpa using Ne.symm hb), ih (fun x hx => h x (by simp [hx]))]
/-- What an ask's text says: from, to, and whether it is an ask. -/
def askP (l : List Int) : Int × Int × Bool :=
  if (cutI [45] l).2.2 = true then
    (if (cutI [45] l).1 = [] then (if (parseV (strOfNums (cutI [45] l).2.1)).2 = true then (-1, (parseV (strOfNums (cutI [45] l).2.1)).1, true) else (0, 0, false))
     else if (cutI [45] l).2.1 = [] then (if (parseV (strOfNums (cutI [45] l).1)).2 = true then ((parseV (strOfNums (cutI [45] l).1)).1, -1, true) else (0, 0, false))
     else if (parseV (strOfNums (cutI [45] l).1)).2 = true ∧ (parseV (strOfNums (cutI [45] l).2.1)).2 = true ∧ (parseV (strOfNums (cutI [45] l).1)).1 ≤ (parseV (strOfNums (cutI [45] l).2.1)).1
       then ((parseV (strOfNums (cutI [45] l).1)).1, (parseV (strOfNums (cutI [45] l).2.1)).1, true) else (0, 0, false))
  else (0, 0, false)
theorem parse_empty : parseV (strOfNums []) = (0, false) := by
  unfold parseV
  rw [bytesOf_strOf InB_nil]
  have e : fmtL (valL []) = [48] := by
    rw [show valL [] = 0 from rfl, fmtL_pos (by omega)]
    exact numL_small (by decide)
  rw [e, if_neg (by simp)]
theorem parse_cases (s : ByteArray) : (∃ n, parseV s = (n, true) ∧ 0 ≤ n ∧ n ≤ 1000000000000) ∨ parseV s = (0, false) := by
  unfold parseV
  split
  · rename_i h; exact .inl ⟨_, rfl, h.1, h.2.1⟩
  · exact .inr rfl
def goodA (a b : Int) : Prop := (a = -1 ∧ 0 ≤ b ∧ b ≤ 1000000000000) ∨ (0 ≤ a ∧ a ≤ 1000000000000 ∧ b = -1) ∨ (0 ≤ a ∧ a ≤ b ∧ b ≤ 1000000000000)
theorem askP_good (l : List Int) (h : (askP l).2.2 = true) : goodA (askP l).1 (askP l).2.1 := by
  unfold askP at h ⊢
  unfold goodA
  by_cases h0 : (cutI [45] l).2.2 = true
  · simp only [if_pos h0] at h ⊢
    by_cases h1 : (cutI [45] l).1 = []
    · simp only [if_pos h1] at h ⊢
      rcases parse_cases (strOfNums (cutI [45] l).2.1) with ⟨m, e2, c1, c2⟩ | e2
      · simp only [e2, if_true]; exact .inl ⟨trivial, c1, c2⟩
      · simp [e2] at h
    · simp only [if_neg h1] at h ⊢
      by_cases h2 : (cutI [45] l).2.1 = []
      · simp only [if_pos h2] at h ⊢
        rcases parse_cases (strOfNums (cutI [45] l).1) with ⟨m, e2, c1, c2⟩ | e2
        · simp only [e2, if_true]; exact .inr (.inl ⟨c1, c2, trivial⟩)
        · simp [e2] at h
      · simp only [if_neg h2] at h ⊢
        by_cases h3 : (parseV (strOfNums (cutI [45] l).1)).2 = true ∧ (parseV (strOfNums (cutI [45] l).2.1)).2 = true ∧ (parseV (strOfNums (cutI [45] l).1)).1 ≤ (parseV (strOfNums (cutI [45] l).2.1)).1
        · simp only [if_pos h3]
          obtain ⟨g1, g2, g3⟩ := h3
          rcases parse_cases (strOfNums (cutI [45] l).1) with ⟨n, e1, b1, b2⟩ | e1
          · rcases parse_cases (strOfNums (cutI [45] l).2.1) with ⟨m, e2, c1, c2⟩ | e2
            · rw [e1, e2] at g3 ⊢
              exact .inr (.inr ⟨b1, g3, c2⟩)
            · rw [e2] at g2; simp at g2
          · rw [e1] at g1; simp at g1
        · simp [h3] at h
  · simp [h0] at h
/-! ### What was divided and is joined again is divided in the same way -/
def runL (q : Bool) (l : List Int) : Option Bool :=
  match l with
  | [] => some q
  | b :: r =>
    if q = true ∧ b = 92 then (match r with
      | [] => none
      | _ :: r' => runL q r')
    else if b = 34 then runL (!q) r
    else if q = false ∧ b = 44 then none
    else runL q r
termination_by l.length
decreasing_by all_goals simp only [List.length_cons]; omega
theorem runL_nil (q : Bool) : runL q [] = some q := by unfold runL; rfl
theorem runL_last : runL true [92] = none := by unfold runL; simp
theorem runL_esc (c : Int) (r : List Int) : runL true (92 :: c :: r) = runL true r := by rw [runL.eq_def]; simp
theorem runL_quote (q : Bool) (r : List Int) : runL q (34 :: r) = runL (!q) r := by rw [runL.eq_def]; simp
theorem runL_comma (r : List Int) : runL false (44 :: r) = none := by rw [runL.eq_def]; simp
theorem runL_other (q : Bool) (r : List Int) (b : Int) (h1 : ¬ (q = true ∧ b = 92)) (h2 : b ≠ 34) (h3 : ¬ (q = false ∧ b = 44)) : runL q (b :: r) = runL q r := by
  rw [runL.eq_def]
  simp only
  rw [if_neg h1, if_neg h2, if_neg h3]
theorem run_cut (q : Bool) (p : List Int) : ∀ (q' : Bool) (cur rest : List Int), runL q p = some q' → cutL q cur (p ++ rest) = cutL q' (cur ++ p) rest := by
  refine cut_ind (p := fun q p => ∀ (q' : Bool) (cur rest : List Int), runL q p = some q' → cutL q cur (p ++ rest) = cutL q' (cur ++ p) rest) ?_ ?_ ?_ ?_ ?_ ?_ q p
  · intro q q' cur rest h; rw [runL_nil] at h; obtain rfl := Option.some.inj h; simp
  · intro q' cur rest h; rw [runL_last] at h; exact absurd h (by simp)
  · intro c r ih q' cur rest h; rw [runL_esc] at h; have := ih q' (cur ++ [92, c]) rest h; rw [List.cons_append, List.cons_append, cutL_esc, this]; simp
  · intro q r ih q' cur rest h; rw [runL_quote] at h; have := ih q' (cur ++ [34]) rest h; rw [List.cons_append, cutL_quote, this]; simp
  · intro r ih q' cur rest h; rw [runL_comma] at h; exact absurd h (by simp)
  · intro q b r g1 g2 g3 ih q' cur rest h; rw [runL_other q r b g1 g2 g3] at h; have := ih q' (cur ++ [b]) rest h; rw [List.cons_append, cutL_other q cur _ b g1 g2 g3, this]; simp
def GoodP : List (List Int) → Prop
  | [] => True
  | [m] => cutL false [] m = [m]
  | m :: m2 :: r => runL false m = some false ∧ GoodP (m2 :: r)
theorem run_one {m : List Int} {q : Bool} (h : runL false m = some q) : cutL false [] m = [m] := by
  have := run_cut false m q [] [] h
  rw [List.append_nil, cutL_nil] at this
  simpa using this
theorem good_cons {m : List Int} {r : List (List Int)} (h : runL false m = some false) (g : GoodP r) : GoodP (m :: r) := by
  cases r with
  | nil => exact run_one h
  | cons x r => exact ⟨h, g⟩
theorem blank_other {q : Bool} {b : Int} (h : blankI b = true) : ¬ (q = true ∧ b = 92) ∧ b ≠ 34 ∧ ¬ (q = false ∧ b = 44) := by
  unfold blankI at h
  have : b = 32 ∨ b = 9 := by simpa using h
  omega
def joinLL : List (List Int) → List Int
  | [] => []
  | [x] => x
  | x :: y :: r => x ++ 44 :: 32 :: joinLL (y :: r)
theorem trim_blank (b : Int) (h : blankI b = true) (l : List Int) : trimP blankI (b :: l) = trimP blankI l := by
  unfold trimP
  rw [drop_rdrop, drop_rdrop, List.dropWhile_cons_of_pos h]
theorem cut_join (L : List (List Int)) (hne : L ≠ []) (h : GoodP L) (ht : ∀ m ∈ L, trimP blankI m = m) : (cutL false [] (joinLL L)).map (trimP blankI) = L := by
  induction L with
  | nil => exact absurd rfl hne
  | cons m r ih =>
    cases r with
    | nil =>
      simp only [joinLL]
      rw [h]; simp [ht m (by simp)]
    | cons x r =>
      simp only [joinLL]
      rw [run_cut false m false [] _ h.1, List.nil_append, cutL_comma]
      obtain ⟨g1, g2, g3⟩ := blank_other (q := false) (b := 32) (by decide)
      rw [cutL_other false [] _ 32 g1 g2 g3, List.nil_append]
      have e := ih (by simp) h.2 (fun m hm => ht m (by simp [hm]))
      obtain ⟨y, t, e1, e2⟩ := cutL_prepend false (joinLL (x :: r)) [32] []
      rw [List.append_nil] at e2
      rw [e1] at e
      rw [e2, List.map_cons, List.map_cons, List.singleton_append, trim_blank 32 (by decide), ht m (by simp)]
      rw [List.map_cons] at e
      rw [e]
theorem split_join (L : List (List Int)) (h : GoodP L) (ht : ∀ m ∈ L, trimP blankI m = m) (hn : ∀ m ∈ L, m ≠ []) : splitL (joinLL L) = L := by
  unfold splitL
  by_cases e : L = []
  · subst e; simp [joinLL, cutL_nil, trimP, rdropI]
  · rw [cut_join L e h ht]
    exact List.filter_eq_self.2 (fun m hm => by simp [hn m hm])
theorem joinT_map (L : List (List Int)) (h : ∀ m ∈ L, InB m) (x : List Int) : x ++ joinT (L.map strOfNums) = joinLL (x :: L) := by
  induction L generalizing x with
  | nil => simp [joinT, joinLL]
  | cons y r ih =>
    simp only [List.map_cons, joinT, joinLL]
    rw [bytesOf_strOf (h y (by simp)), ← ih (fun m hm => h m (by simp [hm])) y]
    simp
theorem joinI_map (L : List (List Int)) (h : ∀ m ∈ L, InB m) : joinI (L.map strOfNums) = joinLL L := by
  cases L with
  | nil => rfl
  | cons x r =>
    simp only [List.map_cons, joinI]
    rw [bytesOf_strOf (h x (by simp)), joinT_map r (fun m hm => h m (by simp [hm]))]
theorem run_plain_app {m : List Int} (h : ∀ x ∈ m, x ≠ 34 ∧ x ≠ 44) (t : List Int) : runL false (m ++ t) = runL false t := by
  induction m with
  | nil => rfl
  | cons b r ih =>
    have hb := h b (by simp)
    rw [List.cons_append, runL_other false _ b (by simp) hb.1 (by simp [hb.2])]
    exact ih (fun x hx => h x (by simp [hx]))
theorem run_plain {m : List Int} (h : ∀ x ∈ m, x ≠ 34 ∧ x ≠ 44) : runL false m = some false := by
  have := run_plain_app h []
  rw [List.append_nil, runL_nil] at this
  exact this
theorem good_all (M : List (List Int)) (h : ∀ m ∈ M, runL false m = some false) : GoodP M := by
  induction M with
  | nil => trivial
  | cons m r ih => exact good_cons (h m (by simp)) (ih (fun x hx => h x (by simp [hx])))
theorem trim_id {m : List Int} (h1 : ∀ b r, m = b :: r → blankI b = false) (h2 : ∀ r b, m = r ++ [b] → blankI b = false) : trimP blankI m = m := by
  have e : rdropI blankI m = m := by
    rcases List.eq_nil_or_concat m with e | ⟨r, b, e⟩
    · subst e; rfl
    · rw [List.concat_eq_append] at e
      have := h2 r b e
      rw [e, rdropI_concat, if_neg (by rw [this]; simp)]
  unfold trimP
  rw [e]
  match m, h1 with
  | [], _ => rfl
  | b :: r, h1 => exact List.dropWhile_cons_of_neg (by rw [h1 b r rfl]; simp)
theorem trim_none {m : List Int} (h : ∀ x ∈ m, blankI x = false) : trimP blankI m = m := trim_id (fun b r e => h b (by rw [e]; simp)) (fun r b e => h b (by rw [e]; simp))
theorem splitV_parts_join (L : List ByteArray) (h1 : ∀ p ∈ L, runL false (bytesOf p) = some false) (h2 : ∀ p ∈ L, trimP blankI (bytesOf p) = bytesOf p) (h3 : ∀ p ∈ L, bytesOf p ≠ []) : splitV (joinV L) = L := by
  have e : (L.map bytesOf).map strOfNums = L := by
    rw [List.map_map]
    exact (List.map_congr_left (fun p _ => strOf_bytesOf p)).trans (List.map_id L)
  have j : joinI L = joinLL (L.map bytesOf) := by
    have := joinI_map (L.map bytesOf) (fun m hm => by obtain ⟨p, _, rfl⟩ := List.mem_map.1 hm; exact InB_bytes p)
    rw [e] at this
    exact this
  unfold splitV
  rw [bytesOf_joinV, j, split_join (L.map bytesOf) (good_all _ (fun m hm => by obtain ⟨p, hp, rfl⟩ := List.mem_map.1 hm; exact h1 p hp)) (fun m hm => by obtain ⟨p, hp, rfl⟩ := List.mem_map.1 hm; exact h2 p hp) (fun m hm => by obtain ⟨p, hp, rfl⟩ := List.mem_map.1 hm; exact h3 p hp), e]
def preOf (p l : List Int) : Bool := decide (l.take p.length = p)
def restOf (p l : List Int) : List Int := if preOf p l = true then l.drop p.length else l
theorem preOf_len {p l : List Int} (h : preOf p l = true) : p.length ≤ l.length := by
  have := congrArg List.length (of_decide_eq_true h)
  rw [List.length_take] at this
  omega
theorem ext_drop (s : ByteArray) (n : Nat) : s.extract n s.size = strOfNums ((bytesOf s).drop n) := by
  apply bytesOf_inj
  rw [bytesOf_strOf (InB_drop n (InB_bytes s)), bytesOf_extract, ← bytesOf_length, List.take_length]
theorem ext_take (s : ByteArray) (n : Nat) : s.extract 0 n = strOfNums ((bytesOf s).take n) := by
  apply bytesOf_inj
  rw [bytesOf_strOf (InB_take n (InB_bytes s)), bytesOf_extract, List.drop_zero]
theorem take_eq_iff (s p : ByteArray) : s.extract 0 p.size = p ↔ preOf (bytesOf p) (bytesOf s) = true := by
  unfold preOf
  rw [decide_eq_true_eq, bytesOf_length, ext_take]
  constructor
  · intro h
    rw [← bytesOf_strOf (InB_take p.size (InB_bytes s)), h]
  · intro h
    rw [h, strOf_bytesOf]
theorem dig_fmt {n : Int} (h : 0 ≤ n) : ∀ x ∈ fmtL n, 48 ≤ x ∧ x ≤ 57 := by rw [fmtL_pos h]; exact numL_digits _
theorem fmtL_ne {n : Int} (h : 0 ≤ n) : fmtL n ≠ [] := by rw [fmtL_pos h]; exact numL_ne _
theorem b45 : bytesOf (⟨#[45]⟩ : ByteArray) = [45] := by decide
theorem askV_bytes {a : S30} (h : goodA a.f0 a.f1) : askP (bytesOf (askV a)) = (a.f0, a.f1, true) ∧ (∀ x ∈ bytesOf (askV a), 45 ≤ x ∧ x ≤ 57) ∧ bytesOf (askV a) ≠ [] := by
  unfold askV
  rcases h with ⟨h1, h2, h3⟩ | ⟨h1, h2, h3⟩ | ⟨h1, h2, h3⟩
  · rw [if_pos (by omega), bytesOf_append, b45, bytesOf_fmt]
    refine ⟨?_, fun x hx => ?_, by simp⟩
    · have c := cut_at 45 [] (fmtL a.f1) (by simp)
      rw [List.nil_append] at c
      have p := parseV_fmt h2 h3
      unfold fmtV at p
      unfold askP
      rw [List.singleton_append, c]
      simp only [p, if_true, ← h1]
    · have := dig_fmt h2 x
      simp only [List.singleton_append, List.mem_cons] at hx
      rcases hx with g | g
      · omega
      · have := this g; omega
  · rw [if_neg (by omega), if_pos (by omega), bytesOf_append, b45, bytesOf_fmt]
    refine ⟨?_, fun x hx => ?_, by simp⟩
    · have c := cut_at 45 (fmtL a.f0) [] (fun x hx => by have := dig_fmt h1 x hx; omega)
      have p := parseV_fmt h1 h2
      unfold fmtV at p
      unfold askP
      rw [c]
      simp only [p, if_true, fmtL_ne h1, if_false, ← h3]
    · have := dig_fmt h1 x
      simp only [List.mem_append, List.mem_singleton] at hx
      rcases hx with g | g
      · have := this g; omega
      · omega
  · rw [if_neg (by omega), if_neg (by omega), bytesOf_append, bytesOf_append, b45, bytesOf_fmt, bytesOf_fmt]
    refine ⟨?_, fun x hx => ?_, by simp⟩
    · have c := cut_at 45 (fmtL a.f0) (fmtL a.f1) (fun x hx => by have := dig_fmt h1 x hx; omega)
      have p := parseV_fmt h1 (by omega : a.f0 ≤ 1000000000000)
      have p2 := parseV_fmt (by omega : 0 ≤ a.f1) h3
      unfold fmtV at p p2
      unfold askP
      rw [List.append_assoc, List.singleton_append, c]
      simp only [p, p2, if_true, fmtL_ne h1, fmtL_ne (by omega : 0 ≤ a.f1), if_false, h2, and_self]
    · have d1 := dig_fmt h1 x
      have d2 := dig_fmt (by omega : 0 ≤ a.f1) x
      simp only [List.mem_append, List.mem_singleton] at hx
      rcases hx with (g | g) | g
      · have := d1 g; omega
      · omega
      · have := d2 g; omega
theorem split_asks (l : List S30) (h : ∀ a ∈ l, goodA a.f0 a.f1) : splitV (joinV (l.map askV)) = l.map askV := by
  refine splitV_parts_join _ (fun p hp => ?_) (fun p hp => ?_) (fun p hp => ?_)
  all_goals
    obtain ⟨a, ha, rfl⟩ := List.mem_map.1 hp
    obtain ⟨_, h2, h3⟩ := askV_bytes (h a ha)
  · exact run_plain (fun x hx => by have := h2 x hx; omega)
  · refine trim_none (fun x hx => ?_)
    have := h2 x hx
    unfold blankI
    rw [beq_eq_false_iff_ne.mpr (by omega), beq_eq_false_iff_ne.mpr (by omega)]; rfl
  · exact h3
def askOf (t : ByteArray) : S30 := ⟨(askP (bytesOf t)).1, (askP (bytesOf t)).2.1⟩
def askGood (t : ByteArray) : Bool := (askP (bytesOf t)).2.2
def pre6 : List Int := [98, 121, 116, 101, 115, 61]
/-- What a text of ranges says. -/
def prL (L : List ByteArray) : List S30 × Bool := if L.all askGood = true ∧ 1 ≤ L.length ∧ L.length ≤ 6 then (L.map askOf, true) else ([], false)
def prV (s : ByteArray) : List S30 × Bool := if preOf pre6 (bytesOf s) = true then prL (splitV (strOfNums ((bytesOf s).drop 6))) else ([], false)
theorem prL_len (L : List ByteArray) : (prL L).1.length ≤ 6 := by
  unfold prL
  split
  · rename_i h; simpa using h.2.2
  · simp
theorem prV_len (s : ByteArray) : (prV s).1.length ≤ 6 := by
  unfold prV
  split
  · exact prL_len _
  · simp
theorem prL_no {L : List ByteArray} (h : ¬ (L.all askGood = true ∧ 1 ≤ L.length ∧ L.length ≤ 6)) : prL L = ([], false) := by unfold prL; rw [if_neg h]
theorem prL_yes {L : List ByteArray} (h : L.all askGood = true ∧ 1 ≤ L.length ∧ L.length ≤ 6) : prL L = (L.map askOf, true) := by unfold prL; rw [if_pos h]
theorem strings_Cut_eq (s sep : ByteArray) (hs : s.size < 4294967281) (hp : bytesOf sep ≠ []) : strings_Cut.f s sep = some (cutV (bytesOf sep) s) := by
  have hp2 : sep.data.toList ≠ [] := fun z => hp (by unfold bytesOf; rw [z]; rfl)
  obtain ⟨h1, h2, h3⟩ := libcut_map s.data.toList sep.data.toList hp2
  unfold strings_Cut.f cutV
  rw [if_pos hs]
  have e : ∀ (l : List UInt8) (m : List Int), (l.map fun b => (b.toNat : Int)) = m → (⟨l.toArray⟩ : ByteArray) = strOfNums m := by
    intro l m h
    have hb : bytesOf ⟨l.toArray⟩ = m := h
    rw [← hb, strOf_bytesOf]
  rw [e _ _ h1, e _ _ h2, h3]
  rfl
theorem decDigits_map (u : Nat) : ((Lib.decDigits u).map fun b => (b.toNat : Int)) = numL u := by
  refine num_ind (p := fun u => ((Lib.decDigits u).map fun b => (b.toNat : Int)) = numL u) (fun n h => ?_) (fun n h ih => ?_) u
  · rw [Lib.decDigits, dif_pos h, numL_small h]
    simp [UInt8.toNat_ofNat']; omega
  · rw [Lib.decDigits, dif_neg h, numL_big h, List.map_append, ih]
    simp [UInt8.toNat_ofNat']; omega
theorem itoa_map2 (n : Int) : ((Lib.itoa n).map fun b => (b.toNat : Int)) = fmtL n := by
  unfold Lib.itoa fmtL
  split
  · simp only [List.map_cons, decDigits_map]; rfl
  · exact decDigits_map _
theorem bytes_map (s : ByteArray) : (s.data.toList.map fun b => (b.toNat : Int)) = bytesOf s := rfl
theorem map_inj {l m : List UInt8} (h : (l.map fun b => (b.toNat : Int)) = m.map fun b => (b.toNat : Int)) : l = m := by
  have e := bytesOf_inj (s := ⟨l.toArray⟩) (t := ⟨m.toArray⟩) h
  injection e with e
  simpa using e
theorem decFrom_append (l m : List UInt8) : ∀ acc, Lib.decFrom acc (l ++ m) = (Lib.decFrom acc l).bind fun a => Lib.decFrom a m := by
  induction l with
  | nil => intro acc; rfl
  | cons b r ih =>
    intro acc
    simp only [List.cons_append, Lib.decFrom]
    cases Lib.digitVal b with
    | none => rfl
    | some d => exact ih _
theorem digitVal_of (d : Nat) (h : d < 10) : Lib.digitVal (UInt8.ofNat (48 + d)) = some d := by
  unfold Lib.digitVal
  have e : (UInt8.ofNat (48 + d)).toNat = 48 + d := by rw [UInt8.toNat_ofNat']; omega
  rw [e, if_pos (by omega)]; congr 1; omega
theorem decFrom_dec (u : Nat) : Lib.decFrom 0 (Lib.decDigits u) = some u := by
  refine num_ind (p := fun u => Lib.decFrom 0 (Lib.decDigits u) = some u) (fun n h => ?_) (fun n h ih => ?_) u
  · rw [Lib.decDigits, dif_pos h]
    simp only [Lib.decFrom, digitVal_of n h]
    congr 1; omega
  · rw [Lib.decDigits, dif_neg h, decFrom_append, ih, Option.bind_some]
    simp only [Lib.decFrom, digitVal_of (n % 10) (by omega)]
    congr 1; omega
theorem atoi_dec (u : Nat) : Lib.atoi (Lib.decDigits u) = some (u : Int) := by
  match h : Lib.decDigits u with
  | [] =>
    have := decDigits_map u
    rw [h] at this
    exact absurd this.symm (numL_ne u)
  | b :: r =>
    have hd : 48 ≤ (b.toNat : Int) ∧ (b.toNat : Int) ≤ 57 := by
      refine numL_digits u _ ?_
      rw [← decDigits_map, h]; simp
    have h1 : (b == 45) = false := by rw [beq_eq_false_iff_ne]; rintro rfl; simp at hd
    have h2 : (b == 43) = false := by rw [beq_eq_false_iff_ne]; rintro rfl; simp at hd
    unfold Lib.atoi
    simp only [h1, h2, Bool.false_eq_true, if_false]
    have e := decFrom_dec u
    rw [h] at e
    unfold Lib.decNat
    simp [e]
theorem impl_Parse_eq (s : ByteArray) : impl_ParseInt.f s = some (parseV s) := by
  unfold impl_ParseInt.f
  have key : ∀ v : Int, 0 ≤ v → fmtL v = bytesOf s → Lib.atoi s.data.toList = some v := by
    intro v h0 h
    have : s.data.toList = Lib.decDigits v.toNat := by
      apply map_inj
      rw [bytes_map, ← h, fmtL_pos h0, decDigits_map]
    rw [this, atoi_dec]; congr 1; omega
  by_cases h : s.size > 13
  · rw [if_pos h, parseV_no]
    rintro ⟨h0, h1, h2⟩
    have hl : (fmtL (valL (bytesOf s))).length = s.size := by rw [h2, bytesOf_length]
    rw [fmtL_pos h0] at hl
    have h3 := numL_len 12 (valL (bytesOf s)).toNat (by omega)
    omega
  · rw [if_neg h]
    cases ha : Lib.atoi s.data.toList with
    | none =>
      simp only
      rw [parseV_no]
      rintro ⟨h0, h1, h2⟩
      have := key _ h0 h2
      rw [ha] at this
      exact absurd this (by simp)
    | some n =>
      simp only
      by_cases g : (0 ≤ n ∧ n ≤ 1000000000000) ∧ Lib.itoa n = s.data.toList
      · rw [if_pos g]
        have e : s = fmtV n := by
          apply bytesOf_inj
          rw [bytesOf_fmt, ← itoa_map2, g.2, bytes_map]
        rw [e, parseV_fmt g.1.1 g.1.2]
      · rw [if_neg g, parseV_no]
        rintro ⟨h0, h1, h2⟩
        have := key _ h0 h2
        rw [ha] at this
        have e := Option.some.inj this
        subst e
        refine g ⟨⟨h0, h1⟩, ?_⟩
        apply map_inj
        rw [itoa_map2, h2, bytes_map]
theorem impl_ask_ev (s : ByteArray) (hs : s.size < 4294967281) : ∃ v : Int × Int × Bool, Ev (fun k => impl_askIn.f k s) v ∧ v.2.2 = (askP (bytesOf s)).2.2 ∧ ((askP (bytesOf s)).2.2 = true → v = askP (bytesOf s)) := by
  have c1 := strings_Cut_eq s (⟨#[45]⟩ : ByteArray) hs (by decide)
  rw [show bytesOf (⟨#[45]⟩ : ByteArray) = [45] by decide] at c1
  unfold impl_askIn.f askP
  rw [c1]
  simp only [Option.bind_some, impl_Parse_eq, cutV]
  by_cases h0 : (cutI [45] (bytesOf s)).2.2 = true
  · simp only [if_pos h0]
    by_cases h1 : (cutI [45] (bytesOf s)).1 = []
    · have e1 : (strOfNums (cutI [45] (bytesOf s)).1).toList = ([] : List UInt8) := strOf_nil.mpr h1
      simp only [if_pos e1, if_pos h1]
      have p1 : parseV (strOfNums (cutI [45] (bytesOf s)).1) = (0, false) := by rw [h1]; exact parse_empty
      rw [p1]
      simp only
      rcases parse_cases (strOfNums (cutI [45] (bytesOf s)).2.1) with ⟨m, e2, m0, m1⟩ | e2
      · rw [e2]
        refine ⟨_, Ev.step (f := fun _ => some (-1, m, true)) (fun k => by simp only [impl_askIn.j0]; rw [if_pos trivial]) (Ev.now _), ?_⟩
        simp
      · rw [e2]
        refine ⟨_, Ev.step (f := fun _ => some (0, 0, false)) (fun k => by simp only [impl_askIn.j0]; rw [if_neg (by simp), if_neg (by simp)]) (Ev.now _), ?_⟩
        simp
    · have e1 : ¬ (strOfNums (cutI [45] (bytesOf s)).1).toList = ([] : List UInt8) := fun z => h1 (strOf_nil.mp z)
      simp only [if_neg e1, if_neg h1]
      rcases parse_cases (strOfNums (cutI [45] (bytesOf s)).1) with ⟨n, e3, n0, n1⟩ | e3
      · rw [e3]
        simp only
        by_cases h2 : (cutI [45] (bytesOf s)).2.1 = []
        · have e4 : (strOfNums (cutI [45] (bytesOf s)).2.1).toList = ([] : List UInt8) := strOf_nil.mpr h2
          simp only [if_pos h2, if_true]
          refine ⟨_, Ev.step (f := fun _ => some (n, -1, true)) (fun k => by simp only [impl_askIn.j0]; rw [if_neg (by simp), if_pos trivial, if_pos e4]) (Ev.now _), ?_⟩
          simp
        · have e4 : ¬ (strOfNums (cutI [45] (bytesOf s)).2.1).toList = ([] : List UInt8) := fun z => h2 (strOf_nil.mp z)
          simp only [if_neg h2]
          rcases parse_cases (strOfNums (cutI [45] (bytesOf s)).2.1) with ⟨m, e2, m0, m1⟩ | e2
          · rw [e2]
            refine ⟨_, Ev.step (f := fun _ => some (n, m, decide (n ≤ m))) (fun k => by simp only [impl_askIn.j0]; rw [if_neg (by simp), if_pos trivial, if_neg e4, if_pos trivial]) (Ev.now _), ?_⟩
            by_cases h3 : n ≤ m
            · simp [h3]
            · simp [h3]
          · rw [e2]
            refine ⟨_, Ev.step (f := fun _ => some (n, 0, false)) (fun k => by simp only [impl_askIn.j0]; rw [if_neg (by simp), if_pos trivial, if_neg e4, if_neg (by simp)]) (Ev.now _), ?_⟩
            simp
      · rw [e3]
        simp only
        refine ⟨_, Ev.step (f := fun _ => some (0, (parseV (strOfNums (cutI [45] (bytesOf s)).2.1)).1, false)) (fun k => by simp only [impl_askIn.j0]; rw [if_neg (by simp), if_neg (by simp)]) (Ev.now _), ?_⟩
        by_cases h2 : (cutI [45] (bytesOf s)).2.1 = []
        · simp [h2]
        · simp [h2]
  · simp only [if_neg h0]
    exact ⟨_, Ev.now _, by simp⟩
theorem bytesOf_mk (l : List UInt8) : bytesOf ⟨l.toArray⟩ = l.map fun b => (b.toNat : Int) := rfl
theorem mk_of_bytes {l : List UInt8} {m : List Int} (h : (l.map fun b => (b.toNat : Int)) = m) : (⟨l.toArray⟩ : ByteArray) = strOfNums m := by
  apply bytesOf_inj
  rw [bytesOf_mk, h, bytesOf_strOf]
  subst h
  exact InB_bytes ⟨l.toArray⟩
theorem trimLeftS_map (l cs : List UInt8) : ((Lib.trimLeftS l cs).map fun b => (b.toNat : Int)) = (l.map fun b => (b.toNat : Int)).dropWhile (fun x => (cs.map fun b => (b.toNat : Int)).contains x) := by
  unfold Lib.trimLeftS
  induction l with
  | nil => rfl
  | cons b r ih =>
    have e : ((cs.map fun b => (b.toNat : Int)).contains (b.toNat : Int)) = cs.contains b := by
      rw [Bool.eq_iff_iff, List.contains_iff_mem, List.contains_iff_mem, List.mem_map]
      constructor
      · rintro ⟨c, hc, hcb⟩
        have : c = b := UInt8.toNat_inj.1 (by omega)
        exact this ▸ hc
      · exact fun h => ⟨b, h, rfl⟩
    simp only [List.dropWhile_cons, List.map_cons, e]
    split
    · exact ih
    · rfl
theorem trimS_map (l cs : List UInt8) : ((Lib.trimS l cs).map fun b => (b.toNat : Int)) = trimP (fun x => (cs.map fun b => (b.toNat : Int)).contains x) (l.map fun b => (b.toNat : Int)) := by
  have e : ((Lib.trimRightS l cs).map fun b => (b.toNat : Int)) = rdropI (fun x => (cs.map fun b => (b.toNat : Int)).contains x) (l.map fun b => (b.toNat : Int)) := by
    rw [← rdropI_eq, ← List.map_reverse, ← trimLeftS_map, ← List.map_reverse]
    rfl
  unfold Lib.trimS trimP
  rw [trimLeftS_map, e]
theorem strings_Trim_eq (s cs : ByteArray) (hs : s.size ≤ 4611686018427387904) (hc : cs.size < 4294967281) (ha : cs.data.toList.all (fun b => decide (b.toNat < 128)) = true) :
    strings_Trim.f s cs = some (strOfNums (trimP (fun x => (bytesOf cs).contains x) (bytesOf s))) := by
  unfold strings_Trim.f
  rw [if_pos ⟨hs, hc, ha⟩, mk_of_bytes (trimS_map _ _)]
  rfl
theorem impl_Trim_eq (s : ByteArray) (hs : s.size ≤ 4611686018427387904) : impl_TrimText.f s = some (trimV s) := by
  unfold impl_TrimText.f
  rw [strings_Trim_eq s ⟨#[32, 9]⟩ hs (by decide) (by decide), Option.bind_some]
  unfold trimV
  congr 3
  funext x
  have e : bytesOf ⟨#[32, 9]⟩ = [32, 9] := by decide
  rw [e]
  unfold blankI
  by_cases h : x = 32 <;> by_cases g : x = 9 <;> simp [h, g]
theorem mn_min (a b : Int) : mn a b = min a b := by unfold mn; split <;> omega
theorem impl_Split_loop (s : ByteArray) (hs : s.size ≤ 1099511627776) (q : Bool) (rest : List Int) : ∀ (done cur : List Int) (acc : List ByteArray), bytesOf s = done ++ cur ++ rest → acc.length ≤ done.length →
    Ev (fun k => impl_SplitList.l0 k s acc (done.length : Int) q ((done ++ cur).length : Int)) (acc ++ partsV (cutL q cur rest)) := by
  have hin : ∀ {pre cur rest : List Int}, bytesOf s = pre ++ cur ++ rest → InB cur := by
    intro pre cur rest h
    have := InB_bytes s; rw [h, InB_append, InB_append] at this; exact this.1.2
  have trim1 : ∀ {pre cur rest : List Int}, bytesOf s = pre ++ cur ++ rest → impl_TrimText.f (s.extract pre.length (pre.length + cur.length)) = some (strOfNums (trimP blankI cur)) := by
    intro pre cur rest h
    have hz : (s.extract pre.length (pre.length + cur.length)).size ≤ s.size := by rw [ByteArray.size_extract]; omega
    rw [impl_Trim_eq _ (by omega), ext_mid h, trimV_of (hin h)]
  have facts : ∀ {done cur rest : List Int} {b : Int}, bytesOf s = done ++ cur ++ b :: rest → ((done ++ cur).length : Int) < (s.size : Int) ∧ bt s ((done ++ cur).length : Int) = b ∧ wrap64 (((done ++ cur).length : Int) + 1) = ((done ++ (cur ++ [b])).length : Int) ∧ (s.size : Int) = (done ++ cur).length + (rest.length + 1) := by
    intro done cur rest b h
    have hz := size_mid h
    simp only [List.length_cons] at hz
    refine ⟨by omega, bt_mid h, ?_, by omega⟩
    have := len_step (done ++ cur) b (by omega)
    rw [this, List.append_assoc]
  have over : ∀ (q : Bool) (done : List Int) (acc : List ByteArray) (i : Int), (s.size : Int) < i → (s.size : Int) ≤ done.length → Ev (fun k => impl_SplitList.l0 k s acc (done.length : Int) q i) acc := by
    intro q done acc i hi hd
    refine Ev.step (f := fun _ => some acc) (fun k => ?_) (Ev.now _)
    simp only [impl_SplitList.l0]
    rw [if_neg (by omega), if_neg (by omega)]
  refine cut_ind (p := fun q rest => ∀ (done cur : List Int) (acc : List ByteArray), bytesOf s = done ++ cur ++ rest → acc.length ≤ done.length → Ev (fun k => impl_SplitList.l0 k s acc (done.length : Int) q ((done ++ cur).length : Int)) (acc ++ partsV (cutL q cur rest))) ?_ ?_ ?_ ?_ ?_ ?_ q rest
  · intro q done cur acc h ha
    rw [cutL_nil]
    have hz := size_mid h
    simp only [List.length_nil] at hz
    have hL : (done ++ cur).length = done.length + cur.length := List.length_append
    have hw : wrap64 (((done ++ cur).length : Int) + 1) = ((done ++ cur ++ [0]).length : Int) := len_step (done ++ cur) 0 (by omega)
    have hn1 : ((done.length : Int)).toNat = done.length := by omega
    have hn2 : (((done ++ cur).length : Int)).toNat = done.length + cur.length := by simp only [List.length_append]; omega
    have hm : mn ((done ++ cur).length : Int) (s.size : Int) = ((done ++ cur).length : Int) := by rw [mn_min]; omega
    rw [partsV_cons, partsV_nil, List.append_nil]
    refine Ev.step (f := fun k => impl_SplitList.j1 k s acc (done.length : Int) q ((done ++ cur).length : Int) false) (fun k => ?_) ?_
    · simp only [impl_SplitList.l0]
      rw [if_pos (by omega), if_neg (by omega)]
    · by_cases g : trimP blankI cur = []
      · rw [if_pos g, List.append_nil]
        refine Ev.step (f := fun k => impl_SplitList.l0 k s acc ((done ++ cur ++ [0]).length : Int) q ((done ++ cur ++ [0]).length : Int)) (fun k => ?_) (over q (done ++ cur ++ [0]) acc _ (by simp at hz ⊢; omega) (by simp at hz ⊢; omega))
        simp only [impl_SplitList.j1]
        rw [if_neg (by simp), if_pos (by omega), hm, if_pos (by omega), if_pos (by omega), hn1, hn2, trim1 h, Option.bind_some, if_pos (strOf_nil.mpr g), hw]
      · rw [if_neg g]
        refine Ev.step (f := fun k => impl_SplitList.l0 k s (acc ++ [strOfNums (trimP blankI cur)]) ((done ++ cur ++ [0]).length : Int) q ((done ++ cur ++ [0]).length : Int)) (fun k => ?_) (over q (done ++ cur ++ [0]) _ _ (by simp at hz ⊢; omega) (by simp at hz ⊢; omega))
        simp only [impl_SplitList.j1]
        rw [if_neg (by simp), if_pos (by omega), hm, if_pos (by omega), if_pos (by omega), hn1, hn2, trim1 h, Option.bind_some, if_neg (fun z => g (strOf_nil.mp z)), if_pos (by omega), hw]
  · intro done cur acc h ha
    obtain ⟨f1, f2, f3, f4⟩ := facts h
    rw [cutL_last]
    simp only [List.length_nil] at f4
    have hL : (done ++ cur).length = done.length + cur.length := List.length_append
    have e : wrap64 ((wrap64 (((done ++ cur).length : Int) + 1)) + 1) = (s.size : Int) + 1 := by
      rw [f3, wrap_id (by omega) (by simp at f4 ⊢; omega)]; simp at f4 ⊢; omega
    have h2 : bytesOf s = done ++ (cur ++ [92]) := by rw [h]; simp
    have hz2 : s.size = done.length + (cur ++ [92]).length := by rw [← bytesOf_length, h2, List.length_append]
    have hn1 : ((done.length : Int)).toNat = done.length := by omega
    have tr : impl_TrimText.f (s.extract done.length s.size) = some (strOfNums (trimP blankI (cur ++ [92]))) := by
      have := trim1 (pre := done) (cur := cur ++ [92]) (rest := []) (by simpa using h2)
      rwa [← hz2] at this
    refine Ev.step (f := fun k => impl_SplitList.j1 k s acc (done.length : Int) true ((done ++ cur).length : Int) true) (fun k => ?_) (Ev.step (f := fun k => impl_SplitList.j2 k s acc (done.length : Int) true ((done ++ cur).length : Int)) (fun k => ?_) (Ev.step (f := fun k => impl_SplitList.j3 k s acc (done.length : Int) true ((done ++ cur).length : Int) true) (fun k => ?_) (Ev.step (f := fun k => impl_SplitList.l0 k s acc (done.length : Int) true ((s.size : Int) + 1)) (fun k => ?_) (Ev.step (f := fun _ => some (acc ++ partsV [cur ++ [92]])) (fun k => ?_) (Ev.now _)))))
    · simp only [impl_SplitList.l0]
      rw [if_pos (by omega), if_pos f1, if_pos trivial]
    · simp only [impl_SplitList.j1]
      rw [if_pos trivial, if_pos (by omega), if_pos f1, if_neg (by rw [f2]; decide)]
    · simp only [impl_SplitList.j2]
      rw [if_pos trivial, if_pos (by omega), if_pos f1, f2]; rfl
    · simp only [impl_SplitList.j3]
      rw [if_pos trivial, e]
    · simp only [impl_SplitList.l0]
      rw [if_neg (by omega), if_pos (by omega), if_pos (by omega), if_pos (by omega), hn1, tr, Option.bind_some, partsV_cons, partsV_nil, List.append_nil]
      by_cases g : trimP blankI (cur ++ [92]) = []
      · rw [if_pos (strOf_nil.mpr g), if_pos g, List.append_nil]
      · rw [if_neg (fun z => g (strOf_nil.mp z)), if_neg g, if_pos (by omega)]
  · intro c r ih done cur acc h ha
    obtain ⟨f1, f2, f3, f4⟩ := facts h
    rw [cutL_esc]
    have n := ih done (cur ++ [92, c]) acc (by rw [h]; simp) ha
    have e : wrap64 ((wrap64 (((done ++ cur).length : Int) + 1)) + 1) = ((done ++ (cur ++ [92, c])).length : Int) := by
      rw [f3, wrap_id (by omega) (by simp at f4 ⊢; omega)]; simp; omega
    rw [← e] at n
    refine Ev.step (f := fun k => impl_SplitList.j1 k s acc (done.length : Int) true ((done ++ cur).length : Int) true) (fun k => ?_) (Ev.step (f := fun k => impl_SplitList.j2 k s acc (done.length : Int) true ((done ++ cur).length : Int)) (fun k => ?_) (Ev.step (f := fun k => impl_SplitList.j3 k s acc (done.length : Int) true ((done ++ cur).length : Int) true) (fun k => ?_) (Ev.step (fun k => ?_) n)))
    · simp only [impl_SplitList.l0]
      rw [if_pos (by omega), if_pos f1, if_pos trivial]
    · simp only [impl_SplitList.j1]
      rw [if_pos trivial, if_pos (by omega), if_pos f1, if_neg (by rw [f2]; decide)]
    · simp only [impl_SplitList.j2]
      rw [if_pos trivial, if_pos (by omega), if_pos f1, f2]; rfl
    · simp only [impl_SplitList.j3]
      rw [if_pos trivial]
  · intro q r ih done cur acc h ha
    obtain ⟨f1, f2, f3, f4⟩ := facts h
    rw [cutL_quote]
    have n := ih done (cur ++ [34]) acc (by rw [h]; simp) ha
    rw [← f3] at n
    refine Ev.step (f := fun k => impl_SplitList.j1 k s acc (done.length : Int) q ((done ++ cur).length : Int) true) (fun k => ?_) (Ev.step (f := fun k => impl_SplitList.j2 k s acc (done.length : Int) (!q) ((done ++ cur).length : Int)) (fun k => ?_) (Ev.step (f := fun k => impl_SplitList.j3 k s acc (done.length : Int) (!q) ((done ++ cur).length : Int) false) (fun k => ?_) (Ev.step (fun k => ?_) n)))
    · simp only [impl_SplitList.l0]
      rw [if_pos (by omega), if_pos f1]
      cases q
      · rw [if_neg (by simp), if_pos (by omega), f2]; rfl
      · rw [if_pos rfl]
    · simp only [impl_SplitList.j1]
      rw [if_pos trivial, if_pos (by omega), if_pos f1, if_pos f2]
    · simp only [impl_SplitList.j2]
      cases q
      · simp only [Bool.not_false]
        rw [if_pos trivial, if_pos (by omega), if_pos f1, f2]; rfl
      · simp
    · simp only [impl_SplitList.j3]
      rw [if_neg (by simp)]
  · intro r ih done cur acc h ha
    obtain ⟨f1, f2, f3, f4⟩ := facts h
    rw [cutL_comma]
    have hL : (done ++ cur).length = done.length + cur.length := List.length_append
    have hm : mn ((done ++ cur).length : Int) (s.size : Int) = ((done ++ cur).length : Int) := by rw [mn_min]; omega
    have hn1 : ((done.length : Int)).toNat = done.length := by omega
    have hn2 : (((done ++ cur).length : Int)).toNat = done.length + cur.length := by omega
    have tr := trim1 h
    rw [partsV_cons]
    refine Ev.step (f := fun k => impl_SplitList.j1 k s acc (done.length : Int) false ((done ++ cur).length : Int) false) (fun k => ?_) ?_
    · simp only [impl_SplitList.l0]
      rw [if_pos (by omega), if_pos f1, if_neg (by simp), if_pos (by omega), f2]; rfl
    · by_cases g : trimP blankI cur = []
      · rw [if_pos g, List.nil_append]
        have n := ih (done ++ (cur ++ [44])) [] acc (by rw [h]; simp) (by simp; omega)
        rw [List.append_nil, ← f3] at n
        refine Ev.step (fun k => ?_) n
        simp only [impl_SplitList.j1]
        rw [if_neg (by simp), if_pos (by omega), hm, if_pos (by omega), if_pos (by omega), hn1, hn2, tr, Option.bind_some, if_pos (strOf_nil.mpr g)]
      · rw [if_neg g]
        have n := ih (done ++ (cur ++ [44])) [] (acc ++ [strOfNums (trimP blankI cur)]) (by rw [h]; simp) (by simp; omega)
        rw [List.append_nil, ← f3, List.append_assoc] at n
        refine Ev.step (fun k => ?_) n
        simp only [impl_SplitList.j1]
        rw [if_neg (by simp), if_pos (by omega), hm, if_pos (by omega), if_pos (by omega), hn1, hn2, tr, Option.bind_some, if_neg (fun z => g (strOf_nil.mp z)), if_pos (by omega)]
  · intro q b r g1 g2 g3 ih done cur acc h ha
    obtain ⟨f1, f2, f3, f4⟩ := facts h
    rw [cutL_other q cur r b g1 g2 g3]
    have n := ih done (cur ++ [b]) acc (by rw [h]; simp) ha
    rw [← f3] at n
    refine Ev.step (f := fun k => impl_SplitList.j1 k s acc (done.length : Int) q ((done ++ cur).length : Int) true) (fun k => ?_) (Ev.step (f := fun k => impl_SplitList.j2 k s acc (done.length : Int) q ((done ++ cur).length : Int)) (fun k => ?_) (Ev.step (f := fun k => impl_SplitList.j3 k s acc (done.length : Int) q ((done ++ cur).length : Int) false) (fun k => ?_) (Ev.step (fun k => ?_) n)))
    · simp only [impl_SplitList.l0]
      rw [if_pos (by omega), if_pos f1]
      cases q
      · have : (b != 44) = true := bne_iff_ne.mpr (fun z => g3 ⟨rfl, z⟩)
        rw [if_neg (by simp), if_pos (by omega), f2, this]
      · rw [if_pos rfl]
    · simp only [impl_SplitList.j1]
      rw [if_pos trivial, if_pos (by omega), if_pos f1, if_neg (by rw [f2]; exact g2)]
    · simp only [impl_SplitList.j2]
      cases q
      · rfl
      · have : (b == 92) = false := beq_eq_false_iff_ne.mpr (fun z => g1 ⟨rfl, z⟩)
        rw [if_pos rfl, if_pos (by omega), if_pos f1, f2, this]
    · simp only [impl_SplitList.j3]
      rw [if_neg (by simp)]
theorem impl_Split_ev (s : ByteArray) (hs : s.size ≤ 1099511627776) : Ev (fun k => impl_SplitList.f k s) (splitV s) := by
  have := impl_Split_loop s hs false (bytesOf s) [] [] [] (by simp) (by simp)
  simpa [impl_SplitList.f, splitV_parts] using this
theorem hasPrefix_eq (s p : ByteArray) (hs : s.size ≤ 4611686018427387904) (hp : p.size ≤ 4611686018427387904) : stringslite_HasPrefix.f s p = some (preOf (bytesOf p) (bytesOf s)) := by
  unfold stringslite_HasPrefix.f
  by_cases g : (s.size : Int) ≥ (p.size : Int)
  · have n2 : ((p.size : Int)).toNat = p.size := by omega
    rw [if_pos g, if_pos (by omega), if_pos (by omega), n2]
    congr 1
    by_cases h : s.extract 0 p.size = p
    · rw [(take_eq_iff s p).mp h, h]; simp
    · have : ¬ preOf (bytesOf p) (bytesOf s) = true := fun z => h ((take_eq_iff s p).mpr z)
      rw [Bool.not_eq_true] at this
      rw [this]
      exact beq_eq_false_iff_ne.mpr (fun z => h (toList_iff.mp z))
  · rw [if_neg g]
    congr 1
    symm
    by_cases q : preOf (bytesOf p) (bytesOf s) = true
    · have := preOf_len q
      rw [bytesOf_length, bytesOf_length] at this
      omega
    · rwa [Bool.not_eq_true] at q
theorem cutPre_eq (s p : ByteArray) (hs : s.size ≤ 4611686018427387904) (hp : p.size ≤ 4611686018427387904) : strings_CutPrefix.f s p = some (strOfNums (restOf (bytesOf p) (bytesOf s)), preOf (bytesOf p) (bytesOf s)) := by
  have n2 : ((p.size : Int)).toNat = p.size := by omega
  unfold strings_CutPrefix.f stringslite_CutPrefix.f
  rw [hasPrefix_eq s p hs hp, Option.bind_some]
  unfold restOf
  by_cases h : preOf (bytesOf p) (bytesOf s) = true
  · have h2 := preOf_len h
    rw [bytesOf_length, bytesOf_length] at h2
    rw [if_pos h, if_pos (by omega), if_pos (by omega), n2, Option.bind_some, if_pos h, h, bytesOf_length, ext_drop]
  · rw [if_neg h, Option.bind_some, if_neg h, strOf_bytesOf]
    rw [Bool.not_eq_true] at h
    rw [h]
theorem impl_inRange_eq (a b c : Int) : impl_inRange.f a b c = some (decide (b ≤ a ∧ a ≤ c)) := by
  unfold impl_inRange.f
  by_cases h : b ≤ a
  · rw [if_pos h]; congr 1; apply decide_eq_decide.mpr; constructor
    · exact fun x => ⟨h, x⟩
    · exact fun x => x.2
  · rw [if_neg h]; congr 1; symm; apply decide_eq_false; omega
theorem impl_PR_loop (fnd : Bool) (L : List ByteArray) (hL : L.length ≤ 2097152) (hz : ∀ t ∈ L, t.size ≤ 1000000000) (rest : List ByteArray) : ∀ pre, L = pre ++ rest → pre.all askGood = true →
    Ev (fun k => impl_ParseRanges.l0 k fnd (pre.map askOf) L (L.length : Int) (pre.length : Int)) (if fnd = true then prL L else ([], false)) := by
  have fail : (¬ L.all askGood = true) → (if fnd = true then prL L else (([] : List S30), false)) = ([], false) := by
    intro h
    rw [prL_no (fun z => h z.1)]
    split <;> rfl
  induction rest with
  | nil =>
    intro pre h hg
    have hl2 := len_mid h
    simp only [List.length_nil] at hl2
    have e : pre = L := by rw [h]; simp
    subst e
    have hm : (pre.map askOf).length = pre.length := by simp
    cases fnd with
    | true =>
      refine Ev.step (f := fun _ => if decide (1 ≤ ((pre.map askOf).length : Int) ∧ ((pre.map askOf).length : Int) ≤ 6) = true then some (pre.map askOf, true) else some (([] : List S30), false)) (fun k => ?_) ?_
      · simp only [impl_ParseRanges.l0]
        rw [if_neg (by omega), if_pos trivial, impl_inRange_eq, Option.bind_some]
      · rw [if_pos rfl]
        by_cases c : 1 ≤ pre.length ∧ pre.length ≤ 6
        · rw [prL_yes ⟨hg, c⟩]; exact Ev.pos (decide_eq_true (by omega)) (Ev.now _)
        · rw [prL_no (fun z => c z.2)]; exact Ev.neg (by rw [decide_eq_true_eq]; omega) (Ev.now _)
    | false =>
      refine Ev.step (f := fun _ => some (([] : List S30), false)) (fun k => ?_) (by simpa using Ev.now _)
      simp only [impl_ParseRanges.l0]
      rw [if_neg (by omega), if_neg (by simp)]
  | cons x rest ih =>
    intro pre h hg
    have hl2 := len_mid h
    simp only [List.length_cons] at hl2
    have hx := rdS_mid2 h
    have hst := len_step pre x (by omega)
    have hm : (pre.map askOf).length = pre.length := by simp
    obtain ⟨v, hv, v1, v2⟩ := impl_ask_ev x (by have := hz x (by rw [h]; simp); omega)
    refine Ev.step (f := fun k => (impl_askIn.f k x).bind fun t => if t.2.2 = true then impl_ParseRanges.l0 k fnd (pre.map askOf ++ [(⟨t.1, t.2.1⟩ : S30)]) L (L.length : Int) ((pre ++ [x]).length : Int) else some (([] : List S30), false)) (fun k => ?_) (Ev.bind hv ?_)
    · simp only [impl_ParseRanges.l0]
      rw [if_pos (by omega), if_pos (by omega), if_pos (by omega), hx, hst]
      congr 1; funext t
      rw [if_pos (show (pre.map askOf).length < 8796093022208 by omega)]
    · by_cases g : askGood x = true
      · rw [v2 g]
        refine Ev.pos g ?_
        have := ih (pre ++ [x]) (by simp [h]) (by simp [hg, g])
        rw [List.map_append] at this
        exact this
      · rw [fail (by intro z; exact g (List.all_eq_true.1 z x (by rw [h]; simp)))]
        exact Ev.neg (by rw [v1]; exact g) (Ev.now _)
theorem impl_PR_ev (s : ByteArray) (hs : s.size ≤ 2000000) : Ev (fun k => impl_ParseRanges.f k s) (prV s) := by
  unfold impl_ParseRanges.f
  have c := cutPre_eq s (⟨#[98, 121, 116, 101, 115, 61]⟩ : ByteArray) (by omega) (by decide)
  rw [show bytesOf (⟨#[98, 121, 116, 101, 115, 61]⟩ : ByteArray) = pre6 by decide] at c
  rw [c]
  simp only [Option.bind_some]
  have hz : (strOfNums (restOf pre6 (bytesOf s))).size ≤ s.size := by
    rw [strOfNums_size, ← bytesOf_length]
    unfold restOf
    split
    · rw [List.length_drop]; omega
    · omega
  refine Ev.bind (impl_Split_ev _ (by omega)) ?_
  have h1 := split_sizes (strOfNums (restOf pre6 (bytesOf s)))
  have h2 := split_count (strOfNums (restOf pre6 (bytesOf s)))
  have := impl_PR_loop (preOf pre6 (bytesOf s)) (splitV (strOfNums (restOf pre6 (bytesOf s)))) (by omega) (fun t ht => by have := h1 t ht; omega) _ [] rfl rfl
  have e : (if preOf pre6 (bytesOf s) = true then prL (splitV (strOfNums (restOf pre6 (bytesOf s)))) else (([] : List S30), false)) = prV s := by
    unfold prV restOf
    by_cases g : preOf pre6 (bytesOf s) = true
    · simp only [if_pos g]; rfl
    · simp only [if_neg g]
  rw [e] at this
  exact this
theorem spec_l1In_eq (a b c : Int) : spec_l1In.f a b c = some (decide (b ≤ a ∧ a ≤ c)) := by
  unfold spec_l1In.f
  by_cases h : a ≥ b
  · rw [if_pos h]; congr 1; apply decide_eq_decide.mpr; constructor
    · exact fun x => ⟨h, x⟩
    · exact fun x => x.2
  · rw [if_neg h]; congr 1; symm; apply decide_eq_false; omega
theorem digits_of_fmt {s : ByteArray} {v : Int} (h0 : 0 ≤ v) (h : fmtL v = bytesOf s) : ∀ x ∈ bytesOf s, 48 ≤ x ∧ x ≤ 57 := by
  rw [← h, fmtL_pos h0]; exact numL_digits _
theorem spec_Parse_loop (s : ByteArray) (hs : s.size ≤ 13) (rest : List Int) : ∀ (pre : List Int), bytesOf s = pre ++ rest → 0 ≤ valL pre → valL pre < 10 ^ pre.length →
    Ev (fun k => spec_ParseInt.l0 k s (valL pre) (pre.length : Int)) (parseV s) := by
  induction rest with
  | nil =>
    intro pre h h0 h1
    have hz := size_mid h
    simp only [List.length_nil] at hz
    rw [List.append_nil] at h
    have hle : (10 : Int) ^ pre.length ≤ 10 ^ 13 := by
      have : (10 : Nat) ^ pre.length ≤ 10 ^ 13 := Nat.pow_le_pow_right (by omega) (by omega)
      exact_mod_cast this
    by_cases g : valL pre > 1000000000000
    · refine Ev.step (f := fun _ => some (0, false)) (fun k => ?_) (by rw [parseV_no (fun z => by rw [h] at z; omega)]; exact Ev.now _)
      simp only [spec_ParseInt.l0]
      rw [if_neg (by omega), if_pos g]
    · have hf := spec_Fmt_ev (valL pre) (by omega) (by omega)
      refine Ev.step (f := fun k => (spec_FormatInt.f k (valL pre)).bind fun t => if t.toList = s.toList then some (valL pre, true) else some (0, false)) (fun k => ?_) (Ev.bind hf ?_)
      · simp only [spec_ParseInt.l0]
        rw [if_neg (by omega), if_neg g]
      · by_cases q : fmtV (valL pre) = s
        · refine Ev.pos (toList_iff.mpr q) ?_
          have e : parseV s = (valL pre, true) := by rw [← q]; exact parseV_fmt h0 (by omega)
          rw [e]; exact Ev.now _
        · refine Ev.neg (fun z => q (toList_iff.mp z)) ?_
          rw [parseV_no (fun z => q (bytesOf_inj (by rw [bytesOf_fmt, ← h]; exact z.2.2)))]
          exact Ev.now _
  | cons b rest ih =>
    intro pre h h0 h1
    have hz := size_mid h
    simp only [List.length_cons] at hz
    have hb := bt_mid h
    have hr : 0 ≤ b ∧ b ≤ 255 := by rw [← hb]; exact bt_range s _
    have hw := len_step pre b (by omega)
    have hle : (10 : Int) ^ pre.length ≤ 10 ^ 13 := by
      have : (10 : Nat) ^ pre.length ≤ 10 ^ 13 := Nat.pow_le_pow_right (by omega) (by omega)
      exact_mod_cast this
    by_cases e : 48 ≤ b ∧ b ≤ 57
    · have hd : decide (48 ≤ b ∧ b ≤ 57) = true := decide_eq_true e
      have hv := valL_concat pre b
      have hv1 : valL (pre ++ [b]) < 10 ^ (pre ++ [b]).length := by
        rw [hv, List.length_append, List.length_singleton, Int.pow_succ]; omega
      refine Ev.step (f := fun k => spec_ParseInt.l0 k s (valL (pre ++ [b])) ((pre ++ [b]).length : Int)) (fun k => ?_) (ih (pre ++ [b]) (by simp [h]) (by omega) hv1)
      simp only [spec_ParseInt.l0]
      rw [if_pos (by omega), if_pos (by omega), hb, wrap_id (n := b) (by omega) (by omega), spec_l1In_eq, Option.bind_some, if_pos hd, hw, wrap_id (n := 10 * valL pre) (by omega) (by omega), hv]
      have : (b - 48) % 256 = b - 48 := by omega
      rw [this, wrap_id (by omega) (by omega)]
    · have hd : ¬ decide (48 ≤ b ∧ b ≤ 57) = true := by simp [e]
      have hno : parseV s = (0, false) := parseV_no (fun z => e (digits_of_fmt z.1 z.2.2 b (by rw [h]; simp)))
      refine Ev.step (f := fun _ => some (0, false)) (fun k => ?_) (by rw [hno]; exact Ev.now _)
      simp only [spec_ParseInt.l0]
      rw [if_pos (by omega), if_pos (by omega), hb, wrap_id (n := b) (by omega) (by omega), spec_l1In_eq, Option.bind_some, if_neg hd]
theorem spec_Parse_ev (s : ByteArray) : Ev (fun k => spec_ParseInt.f k s) (parseV s) := by
  unfold spec_ParseInt.f
  simp only [spec_l1In_eq, Option.bind_some]
  by_cases h : 1 ≤ (s.size : Int) ∧ (s.size : Int) ≤ 13
  · refine Ev.pos (decide_eq_true h) ?_
    have := spec_Parse_loop s (by omega) (bytesOf s) [] rfl (by simp [valL]) (by simp [valL])
    simpa [valL] using this
  · refine Ev.neg (by simp [h]) ?_
    rw [parseV_no ?_]
    · exact Ev.now _
    · rintro ⟨h0, h1, h2⟩
      have hl : (fmtL (valL (bytesOf s))).length = s.size := by rw [h2, bytesOf_length]
      rw [fmtL_pos h0] at hl
      have h3 := numL_len 12 (valL (bytesOf s)).toNat (by omega)
      have h4 : 0 < (numL (valL (bytesOf s)).toNat).length := List.length_pos_iff.mpr (numL_ne _)
      omega
theorem spec_ask_ev (s : ByteArray) (hs : s.size ≤ 4611686018427387904) : Ev (fun k => spec_l8Ask.f k s) (askP (bytesOf s)) := by
  unfold spec_l8Ask.f
  refine scan_loop s hs 45 (fun k i => spec_l8Ask.l0 k s i) (fun k i h0 h1 hb => ?_) _ ?_
  · simp only [spec_l8Ask.l0]
    rw [if_pos h1, if_pos h0, if_neg hb]
  have fail : ∀ i : Int, Ev (fun k => spec_l8Ask.j2 k s i true) (0, 0, false) := fun i => Ev.step (f := fun _ => some (0, 0, false)) (fun k => by simp only [spec_l8Ask.j2]; rw [if_pos trivial]) (Ev.now _)
  have hl := bytesOf_length s
  unfold askP
  by_cases h0 : (cutI [45] (bytesOf s)).2.2 = true
  · rw [if_pos h0]
    have hc := cut_hit 45 (bytesOf s) h0
    have hb := bt_mid hc
    have hz := congrArg List.length hc
    rw [List.length_append, List.length_cons, hl] at hz
    have x1 : s.extract 0 (cutI [45] (bytesOf s)).1.length = strOfNums (cutI [45] (bytesOf s)).1 := by
      have := ext_mid (s := s) (pre := []) (cur := (cutI [45] (bytesOf s)).1) (rest := 45 :: (cutI [45] (bytesOf s)).2.1) (by rw [List.nil_append]; exact hc)
      simpa using this
    have x2 : s.extract ((cutI [45] (bytesOf s)).1.length + 1) s.size = strOfNums (cutI [45] (bytesOf s)).2.1 := by
      have := ext_end (s := s) (pre := (cutI [45] (bytesOf s)).1 ++ [45]) (cur := (cutI [45] (bytesOf s)).2.1) (by rw [List.append_assoc]; exact hc)
      simpa using this
    generalize (cutI [45] (bytesOf s)).1 = a at *
    generalize (cutI [45] (bytesOf s)).2.1 = b at *
    have n1 : wrap64 ((a.length : Int) + 1) = ((a.length + 1 : Nat) : Int) := by rw [wrap_id (by omega) (by omega)]; omega
    have third : ∀ x : Int, (a = [] → x = -1) → (a ≠ [] → 0 ≤ x ∧ parseV (strOfNums a) = (x, true)) → ¬ (a = [] ∧ b = []) →
        Ev (fun k => spec_l8Ask.j3 k s (a.length : Int) x (-1)) (if a = [] then (if (parseV (strOfNums b)).2 = true then (-1, (parseV (strOfNums b)).1, true) else (0, 0, false)) else if b = [] then (if (parseV (strOfNums a)).2 = true then ((parseV (strOfNums a)).1, -1, true) else (0, 0, false)) else if (parseV (strOfNums a)).2 = true ∧ (parseV (strOfNums b)).2 = true ∧ (parseV (strOfNums a)).1 ≤ (parseV (strOfNums b)).1 then ((parseV (strOfNums a)).1, (parseV (strOfNums b)).1, true) else (0, 0, false)) := by
      intro x hx1 hx2 hx3
      by_cases g2 : b = []
      · have ha : a ≠ [] := fun z => hx3 ⟨z, g2⟩
        obtain ⟨x0, x3⟩ := hx2 ha
        rw [if_neg ha, if_pos g2, x3]
        refine Ev.step (f := fun _ => some (x, -1, true)) (fun k => ?_) (by simpa using Ev.now _)
        simp only [spec_l8Ask.j3]
        rw [g2, List.length_nil] at hz
        rw [n1, if_neg (by omega)]
      · have hb0 : 0 < b.length := List.length_pos_iff.mpr g2
        refine Ev.step (f := fun k => (spec_ParseInt.f k (strOfNums b)).bind fun t => (if t.2 = true then (if x ≥ 0 then (if t.1 < x then (some (0, 0, false)) else (some (x, t.1, true))) else (some (x, t.1, true))) else (some (0, 0, false)))) (fun k => ?_) (Ev.bind (spec_Parse_ev _) ?_)
        · simp only [spec_l8Ask.j3]
          rw [n1, if_pos (by omega), if_pos (by omega), if_pos (by omega), Int.toNat_natCast, x2]
        · by_cases g1 : a = []
          · rw [if_pos g1, hx1 g1]
            rcases parse_cases (strOfNums b) with ⟨m, e2, m0, m1⟩ | e2
            · rw [e2]; exact Ev.pos rfl (Ev.neg (by omega) (by simpa using Ev.now _))
            · rw [e2]; exact Ev.neg (by simp) (by simpa using Ev.now _)
          · obtain ⟨x0, x3⟩ := hx2 g1
            rw [if_neg g1, if_neg g2, x3]
            rcases parse_cases (strOfNums b) with ⟨m, e2, m0, m1⟩ | e2
            · rw [e2]
              refine Ev.pos rfl (Ev.pos x0 ?_)
              by_cases g3 : m < x
              · have q : ¬ x ≤ m := by omega
                simp only [q, and_false, if_false]; exact Ev.pos g3 (Ev.now _)
              · have q : x ≤ m := by omega
                simp only [q, and_self, if_true]; exact Ev.neg g3 (Ev.now _)
            · rw [e2]
              simp only [Bool.false_eq_true, false_and, and_false, if_false]
              exact Ev.now _
    refine Ev.step (f := fun k => spec_l8Ask.j1 k s (a.length : Int)) (fun k => ?_) (Ev.step (f := fun k => spec_l8Ask.j2 k s (a.length : Int) ((s.size : Int) == 1)) (fun k => ?_) ?_)
    · simp only [spec_l8Ask.l0]
      rw [if_pos (by omega), if_pos (by omega), if_pos hb]
    · simp only [spec_l8Ask.j1]
      rw [if_neg (by omega)]
    · by_cases g0 : a = [] ∧ b = []
      · have : ((s.size : Int) == 1) = true := by rw [g0.1, g0.2] at hz; simp at hz; simp; omega
        rw [this, if_pos g0.1, g0.2, parse_empty]
        exact fail _
      · have : ((s.size : Int) == 1) = false := by
          rw [beq_eq_false_iff_ne]
          intro z
          exact g0 ⟨List.eq_nil_of_length_eq_zero (by omega), List.eq_nil_of_length_eq_zero (by omega)⟩
        rw [this]
        by_cases g1 : a = []
        · refine Ev.step (fun k => ?_) (third (-1) (fun _ => rfl) (fun z => absurd g1 z) g0)
          simp only [spec_l8Ask.j2]
          rw [if_neg (by simp), if_neg (by rw [g1]; simp)]
        · have ha0 : 0 < a.length := List.length_pos_iff.mpr g1
          refine Ev.step (f := fun k => (spec_ParseInt.f k (strOfNums a)).bind fun t => (if t.2 = true then (spec_l8Ask.j3 k s (a.length : Int) t.1 (-1)) else (some (0, 0, false)))) (fun k => ?_) (Ev.bind (spec_Parse_ev _) ?_)
          · simp only [spec_l8Ask.j2]
            rw [if_neg (by simp), if_pos (by omega), if_pos (by omega), if_pos (by omega), Int.toNat_natCast, x1]
          · rcases parse_cases (strOfNums a) with ⟨m, e2, m0, m1⟩ | e2
            · rw [e2]
              refine Ev.pos rfl ?_
              have := third m (fun z => absurd z g1) (fun _ => ⟨m0, e2⟩) g0
              rw [e2] at this
              exact this
            · rw [e2, if_neg g1]
              refine Ev.neg (by simp) ?_
              simpa using Ev.now _
  · obtain ⟨m1, m2⟩ := cut_miss [45] (bytesOf s) h0
    rw [if_neg h0, m1, hl]
    refine Ev.step (f := fun k => spec_l8Ask.j1 k s (s.size : Int)) (fun k => ?_) (Ev.step (fun k => ?_) (fail (s.size : Int)))
    · simp only [spec_l8Ask.l0]
      rw [if_neg (by omega)]
    · simp only [spec_l8Ask.j1]
      rw [if_pos trivial]
theorem spec_blank_eq (b : Int) : spec_l4Blank.f b = some (blankI b) := by
  unfold spec_l4Blank.f blankI
  by_cases h : b = 32
  · rw [if_pos h, h]; rfl
  · rw [if_neg h]; simp [h]
theorem spec_Trim_l1 (n : Nat) : ∀ s : ByteArray, s.size ≤ n → s.size ≤ 4611686018427387904 → Ev (fun k => spec_TrimText.l1 k s) (strOfNums (rdropI blankI (bytesOf s))) := by
  induction n with
  | zero =>
    intro s hn hs
    have e : bytesOf s = [] := List.eq_nil_of_length_eq_zero (by rw [bytesOf_length]; omega)
    refine Ev.step (f := fun _ => some s) (fun k => ?_) (by rw [e]; simp only [rdropI]; rw [← e, strOf_bytesOf]; exact Ev.now _)
    simp only [spec_TrimText.l1]
    rw [if_neg (by omega)]
  | succ n ih =>
    intro s hn hs
    rcases List.eq_nil_or_concat (bytesOf s) with h | ⟨r, b, h⟩
    · exact ih s (by rw [← bytesOf_length, h]; simp) hs
    · rw [List.concat_eq_append] at h
      have hz := size_mid h
      simp only [List.length_cons, List.length_nil] at hz
      have hw : wrap64 ((s.size : Int) - 1) = (r.length : Int) := by rw [wrap_id (by omega) (by omega)]; omega
      have hb := bt_mid h
      have hx : bytesOf (s.extract 0 ((r.length : Int) : Int).toNat) = r := by
        rw [bytesOf_extract, h]; simp
      rw [h, rdropI_concat]
      by_cases g : blankI b = true
      · rw [if_pos g]
        refine Ev.step (f := fun k => spec_TrimText.l1 k (s.extract 0 ((r.length : Int) : Int).toNat)) (fun k => ?_) ?_
        · simp only [spec_TrimText.l1]
          rw [if_pos (by omega), hw, if_pos (by omega), if_pos (by omega), hb, spec_blank_eq, Option.bind_some, if_pos g, if_pos (by omega)]
        · have hlen : (s.extract 0 ((r.length : Int) : Int).toNat).size = r.length := by rw [← bytesOf_length, hx]
          have := ih _ (by rw [hlen]; omega) (by rw [hlen]; omega)
          rwa [hx] at this
      · rw [if_neg g]
        refine Ev.step (f := fun _ => some s) (fun k => ?_) (by rw [← h, strOf_bytesOf]; exact Ev.now _)
        simp only [spec_TrimText.l1]
        rw [if_pos (by omega), hw, if_pos (by omega), if_pos (by omega), hb, spec_blank_eq, Option.bind_some, if_neg g]
theorem spec_Trim_l0 (l : List Int) : ∀ s : ByteArray, bytesOf s = l → s.size ≤ 4611686018427387904 → Ev (fun k => spec_TrimText.l0 k s) (strOfNums (rdropI blankI (l.dropWhile blankI))) := by
  induction l with
  | nil =>
    intro s h hs
    have hz := size_mid (pre := []) (rest := []) h
    simp only [List.length_nil] at hz
    refine Ev.step (f := fun k => spec_TrimText.j1 k s) (fun k => ?_) (Ev.step (f := fun k => spec_TrimText.l1 k s) (fun k => by simp only [spec_TrimText.j1]) ?_)
    · simp only [spec_TrimText.l0]
      rw [if_neg (by omega)]
    · have := spec_Trim_l1 _ s (Nat.le_refl _) hs
      rw [h] at this
      exact this
  | cons b r ih =>
    intro s h hs
    have hz := size_mid (pre := []) (rest := b :: r) h
    simp only [List.length_cons, List.length_nil] at hz
    have hb : bt s 0 = b := bt_mid (pre := []) h
    by_cases g : blankI b = true
    · rw [List.dropWhile_cons_of_pos g]
      have hx : bytesOf (s.extract 1 s.size) = r := by
        rw [bytesOf_extract, h, List.take_of_length_le (by simp only [List.length_cons]; omega)]; rfl
      refine Ev.step (f := fun k => spec_TrimText.l0 k (s.extract 1 s.size)) (fun k => ?_) (ih _ hx (by rw [← bytesOf_length, hx]; omega))
      simp only [spec_TrimText.l0]
      rw [if_pos (by omega), if_pos (by omega), hb, spec_blank_eq, Option.bind_some, if_pos g, if_pos (by omega)]
    · rw [List.dropWhile_cons_of_neg g]
      refine Ev.step (f := fun k => spec_TrimText.j1 k s) (fun k => ?_) (Ev.step (f := fun k => spec_TrimText.l1 k s) (fun k => by simp only [spec_TrimText.j1]) ?_)
      · simp only [spec_TrimText.l0]
        rw [if_pos (by omega), if_pos (by omega), hb, spec_blank_eq, Option.bind_some, if_neg g]
      · have := spec_Trim_l1 _ s (Nat.le_refl _) hs
        rwa [h] at this
theorem spec_Trim_ev (s : ByteArray) (hs : s.size ≤ 4611686018427387904) : Ev (fun k => spec_TrimText.f k s) (trimV s) := by
  have := spec_Trim_l0 (bytesOf s) s rfl hs
  rw [← drop_rdrop] at this
  exact this
theorem spec_Cut_loop (s : ByteArray) (hs : s.size ≤ 1099511627776) (q : Bool) (rest : List Int) : ∀ (done cur : List Int) (acc : List ByteArray), bytesOf s = done ++ cur ++ rest → acc.length ≤ done.length →
    Ev (fun k => spec_l4Cut.l0 k s 44 acc (done.length : Int) q ((done ++ cur).length : Int)) (acc ++ (cutL q cur rest).map strOfNums) := by
  have fin : ∀ (q : Bool) (done cur : List Int) (acc : List ByteArray) (i : Int), bytesOf s = done ++ cur → acc.length ≤ done.length → ¬ i < (s.size : Int) → Ev (fun k => spec_l4Cut.l0 k s 44 acc (done.length : Int) q i) (acc ++ [strOfNums cur]) := by
    intro q done cur acc i h ha hi
    have hz : s.size = done.length + cur.length := by rw [← bytesOf_length, h, List.length_append]
    refine Ev.step (f := fun _ => some (acc ++ [strOfNums cur])) (fun k => ?_) (Ev.now _)
    simp only [spec_l4Cut.l0]
    have n1 : ((done.length : Int)).toNat = done.length := by omega
    rw [if_neg hi, if_pos (by omega), if_pos (by omega), if_pos (by omega), n1, ext_end h]
  have facts : ∀ {done cur rest : List Int} {b : Int}, bytesOf s = done ++ cur ++ b :: rest → ((done ++ cur).length : Int) < (s.size : Int) ∧ bt s ((done ++ cur).length : Int) = b ∧ wrap64 (((done ++ cur).length : Int) + 1) = ((done ++ (cur ++ [b])).length : Int) ∧ (s.size : Int) = (done ++ cur).length + (rest.length + 1) := by
    intro done cur rest b h
    have hz := size_mid h
    simp only [List.length_cons] at hz
    refine ⟨by omega, bt_mid h, ?_, by omega⟩
    have := len_step (done ++ cur) b (by omega)
    rw [this, List.append_assoc]
  refine cut_ind (p := fun q rest => ∀ (done cur : List Int) (acc : List ByteArray), bytesOf s = done ++ cur ++ rest → acc.length ≤ done.length → Ev (fun k => spec_l4Cut.l0 k s 44 acc (done.length : Int) q ((done ++ cur).length : Int)) (acc ++ (cutL q cur rest).map strOfNums)) ?_ ?_ ?_ ?_ ?_ ?_ q rest
  · intro q done cur acc h ha
    rw [cutL_nil]
    exact fin q done cur acc _ (by simpa using h) ha (by have := size_mid h; simp at this ⊢; omega)
  · intro done cur acc h ha
    obtain ⟨f1, f2, f3, f4⟩ := facts h
    rw [cutL_last]
    refine Ev.step (f := fun k => spec_l4Cut.j1 k s 44 acc (done.length : Int) true ((done ++ cur).length : Int) true) (fun k => ?_) (Ev.step (f := fun k => spec_l4Cut.l0 k s 44 acc (done.length : Int) true (wrap64 ((wrap64 (((done ++ cur).length : Int) + 1)) + 1))) (fun k => ?_) ?_)
    · simp only [spec_l4Cut.l0]
      rw [if_pos f1, if_pos trivial, if_pos (by omega), f2]; rfl
    · simp only [spec_l4Cut.j1]
      rw [if_pos trivial]
    · refine fin true done (cur ++ [92]) acc _ (by rw [h]; simp) ha ?_
      rw [f3, wrap_id (by omega) (by simp at f4 ⊢; omega)]
      simp at f4 ⊢; omega
  · intro c r ih done cur acc h ha
    obtain ⟨f1, f2, f3, f4⟩ := facts h
    rw [cutL_esc]
    have n := ih done (cur ++ [92, c]) acc (by rw [h]; simp) ha
    have e : wrap64 ((wrap64 (((done ++ cur).length : Int) + 1)) + 1) = ((done ++ (cur ++ [92, c])).length : Int) := by
      rw [f3, wrap_id (by omega) (by simp at f4 ⊢; omega)]; simp; omega
    rw [← e] at n
    refine Ev.step (f := fun k => spec_l4Cut.j1 k s 44 acc (done.length : Int) true ((done ++ cur).length : Int) true) (fun k => ?_) (Ev.step (fun k => ?_) n)
    · simp only [spec_l4Cut.l0]
      rw [if_pos f1, if_pos trivial, if_pos (by omega), f2]; rfl
    · simp only [spec_l4Cut.j1]
      rw [if_pos trivial]
  · intro q r ih done cur acc h ha
    obtain ⟨f1, f2, f3, f4⟩ := facts h
    rw [cutL_quote]
    have n := ih done (cur ++ [34]) acc (by rw [h]; simp) ha
    rw [← f3] at n
    refine Ev.step (f := fun k => spec_l4Cut.j1 k s 44 acc (done.length : Int) q ((done ++ cur).length : Int) false) (fun k => ?_) (Ev.step (fun k => ?_) n)
    · simp only [spec_l4Cut.l0]
      rw [if_pos f1]
      cases q
      · rfl
      · rw [if_pos rfl, if_pos (by omega), f2]; rfl
    · simp only [spec_l4Cut.j1]
      rw [if_neg (by simp), if_pos (by omega), if_pos f1, if_pos f2]
  · intro r ih done cur acc h ha
    obtain ⟨f1, f2, f3, f4⟩ := facts h
    rw [cutL_comma]
    have n := ih (done ++ (cur ++ [44])) [] (acc ++ [strOfNums cur]) (by rw [h]; simp) (by simp; omega)
    rw [List.append_nil, ← f3] at n
    have hx := ext_mid h
    have hn1 : ((done.length : Int)).toNat = done.length := by omega
    have hn2 : (((done ++ cur).length : Int)).toNat = done.length + cur.length := by simp only [List.length_append]; omega
    simp only [List.map_cons]
    rw [show acc ++ strOfNums cur :: (cutL false [] r).map strOfNums = (acc ++ [strOfNums cur]) ++ (cutL false [] r).map strOfNums by simp]
    refine Ev.step (f := fun k => spec_l4Cut.j1 k s 44 acc (done.length : Int) false ((done ++ cur).length : Int) false) (fun k => ?_) (Ev.step (fun k => ?_) n)
    · simp only [spec_l4Cut.l0]
      rw [if_pos f1]; rfl
    · simp only [spec_l4Cut.j1]
      have hdl : done.length ≤ s.size := by have := f4; simp at this; omega
      rw [if_neg (by simp), if_pos (by omega), if_pos f1, if_neg (by rw [f2]; decide), if_neg (by simp), if_pos f2, if_pos (by omega), if_pos (by simp only [List.length_append]; omega), if_pos (by omega), if_pos (by omega), hn1, hn2, hx]
  · intro q b r g1 g2 g3 ih done cur acc h ha
    obtain ⟨f1, f2, f3, f4⟩ := facts h
    rw [cutL_other q cur r b g1 g2 g3]
    have n := ih done (cur ++ [b]) acc (by rw [h]; simp) ha
    rw [← f3] at n
    refine Ev.step (f := fun k => spec_l4Cut.j1 k s 44 acc (done.length : Int) q ((done ++ cur).length : Int) false) (fun k => ?_) (Ev.step (fun k => ?_) n)
    · simp only [spec_l4Cut.l0]
      rw [if_pos f1]
      cases q
      · rfl
      · have : (b == 92) = false := beq_eq_false_iff_ne.mpr (fun z => g1 ⟨rfl, z⟩)
        rw [if_pos rfl, if_pos (by omega), f2, this]
    · simp only [spec_l4Cut.j1]
      rw [if_neg (by simp), if_pos (by omega), if_pos f1, if_neg (by rw [f2]; exact g2)]
      cases q
      · rw [if_neg (by simp), if_neg (by rw [f2]; exact fun z => g3 ⟨rfl, z⟩)]
      · rw [if_pos rfl]
theorem spec_Split_ev (s : ByteArray) (hs : s.size ≤ 1099511627776) : Ev (fun k => spec_SplitList.f k s) (splitV s) := by
  have h0 := spec_Cut_loop s hs false (bytesOf s) [] [] [] (by simp) (by simp)
  unfold spec_SplitList.f spec_l4Cut.f
  refine Ev.bind h0 ?_
  simp only [List.nil_append]
  rw [splitV_parts]
  have hin : ∀ m ∈ cutL false [] (bytesOf s), InB m := fun m hm => cutL_mem false (bytesOf s) [] (fun x => 0 ≤ x ∧ x ≤ 255) (by simp) (InB_bytes s) m hm
  have htot := cutL_total false (bytesOf s) []
  rw [bytesOf_length] at htot
  simp only [List.length_nil] at htot
  have hsz : ∀ m ∈ cutL false [] (bytesOf s), m.length ≤ 2 * s.size + 2 := by
    intro m hm
    have := mem_len_le hm
    omega
  generalize hM : cutL false [] (bytesOf s) = M at hin htot hsz ⊢
  have key : ∀ (rest pre : List (List Int)), M = pre ++ rest → Ev (fun k => spec_SplitList.l0 k (M.map strOfNums) (partsV pre) (pre.length : Int)) (partsV M) := by
    intro rest
    induction rest with
    | nil =>
      intro pre h
      have hl := len_mid h
      simp only [List.length_nil] at hl
      have e : pre = M := by rw [h]; simp
      refine Ev.step (f := fun _ => some (partsV M)) (fun k => ?_) (Ev.now _)
      simp only [spec_SplitList.l0]
      rw [if_neg (by rw [List.length_map]; omega), e]
    | cons x rest ih =>
      intro pre h
      have hl := len_mid h
      simp only [List.length_cons] at hl
      have hxM : x ∈ M := by rw [h]; simp
      have hx : rdOf ByteArray.empty (M.map strOfNums) (pre.length : Int) = strOfNums x := by
        have h2 : M.map strOfNums = pre.map strOfNums ++ strOfNums x :: rest.map strOfNums := by rw [h]; simp
        have := rdS_mid2 h2
        simpa using this
      have hw := len_step pre x (by omega)
      have n := ih (pre ++ [x]) (by simp [h])
      rw [partsV_append, partsV_cons, partsV_nil, List.append_nil] at n
      have hpl := partsV_len pre
      have hsx := hsz x hxM
      refine Ev.step (f := fun k => (spec_TrimText.f k (strOfNums x)).bind fun t => if t.toList = ([] : List UInt8) then spec_SplitList.l0 k (M.map strOfNums) (partsV pre) ((pre ++ [x]).length : Int) else spec_SplitList.l0 k (M.map strOfNums) (partsV pre ++ [t]) ((pre ++ [x]).length : Int)) (fun k => ?_) (Ev.bind (spec_Trim_ev _ (by rw [strOfNums_size]; omega)) ?_)
      · simp only [spec_SplitList.l0]
        rw [if_pos (by rw [List.length_map]; omega), if_pos (by omega), hx, hw]
        congr 1; funext t
        rw [if_pos (show (partsV pre).length < 8796093022208 by omega)]
      · rw [trimV_of (hin x hxM)]
        by_cases g : trimP blankI x = []
        · rw [if_pos g, List.append_nil] at n
          exact Ev.pos (strOf_nil.mpr g) n
        · rw [if_neg g] at n
          exact Ev.neg (fun z => g (strOf_nil.mp z)) n
  exact key M [] rfl
theorem spec_PR_loop (L : List ByteArray) (hL : L.length ≤ 2097152) (hz : ∀ t ∈ L, t.size ≤ 4611686018427387904) (rest : List ByteArray) : ∀ pre, L = pre ++ rest → pre.all askGood = true → pre.length ≤ 6 →
    Ev (fun k => spec_ParseRanges.l0 k (pre.map askOf) L (pre.length : Int)) (prL L) := by
  induction rest with
  | nil =>
    intro pre h hg hp
    have hl2 := len_mid h
    simp only [List.length_nil] at hl2
    have e : pre = L := by rw [h]; simp
    subst e
    refine Ev.step (f := fun _ => some (pre.map askOf, decide (((pre.map askOf).length : Int) > 0))) (fun k => ?_) ?_
    · simp only [spec_ParseRanges.l0]
      rw [if_neg (by omega)]
    · by_cases c : 1 ≤ pre.length
      · rw [prL_yes ⟨hg, c, hp⟩, decide_eq_true (by rw [List.length_map]; omega)]; exact Ev.now _
      · have : pre = [] := List.eq_nil_of_length_eq_zero (by omega)
        subst this
        rw [prL_no (by simp)]; exact Ev.now _
  | cons x rest ih =>
    intro pre h hg hp
    have hl2 := len_mid h
    simp only [List.length_cons] at hl2
    have hx := rdS_mid2 h
    have hst := len_step pre x (by omega)
    have hm : (pre.map askOf).length = pre.length := by simp
    refine Ev.step (f := fun k => (spec_l8Ask.f k x).bind fun t => if t.2.2 = true then (if (pre.length : Int) ≥ 6 then some (([] : List S30), false) else spec_ParseRanges.l0 k (pre.map askOf ++ [(⟨t.1, t.2.1⟩ : S30)]) L ((pre ++ [x]).length : Int)) else some (([] : List S30), false)) (fun k => ?_) (Ev.bind (spec_ask_ev x (hz x (by rw [h]; simp))) ?_)
    · simp only [spec_ParseRanges.l0]
      rw [if_pos (by omega), if_pos (by omega), hx, hst]
      congr 1; funext t
      rw [if_pos (show (pre.map askOf).length < 8796093022208 by omega)]
    · by_cases g : askGood x = true
      · refine Ev.pos g ?_
        by_cases c : (pre.length : Int) ≥ 6
        · rw [prL_no (by omega)]; exact Ev.pos c (Ev.now _)
        · refine Ev.neg c ?_
          have := ih (pre ++ [x]) (by simp [h]) (by simp [hg, g]) (by simp; omega)
          rw [List.map_append] at this
          exact this
      · rw [prL_no (by intro z; exact g (List.all_eq_true.1 z.1 x (by rw [h]; simp)))]
        exact Ev.neg g (Ev.now _)
theorem spec_PR_ev (s : ByteArray) (hs : s.size ≤ 2000000) : Ev (fun k => spec_ParseRanges.f k s) (prV s) := by
  have hl := bytesOf_length s
  have b6 : bytesOf (⟨#[98, 121, 116, 101, 115, 61]⟩ : ByteArray) = pre6 := by decide
  have l6 : (⟨#[98, 121, 116, 101, 115, 61]⟩ : ByteArray).toList = ([98, 121, 116, 101, 115, 61] : List UInt8) := by rw [ByteArray.toList_eq]
  have hi := take_eq_iff s (⟨#[98, 121, 116, 101, 115, 61]⟩ : ByteArray)
  rw [b6] at hi
  have fail : Ev (fun k => spec_ParseRanges.j0 k s ([] : List S30) true) (([] : List S30), false) := Ev.step (f := fun _ => some (([] : List S30), false)) (fun k => by simp only [spec_ParseRanges.j0]; rw [if_pos trivial]) (Ev.now _)
  unfold spec_ParseRanges.f
  simp only [Option.bind_some]
  by_cases h : (s.size : Int) < 6
  · have hn : ¬ preOf pre6 (bytesOf s) = true := fun z => by have := preOf_len z; rw [hl] at this; simp [pre6] at this; omega
    unfold prV
    rw [if_neg hn]
    exact Ev.pos h fail
  · refine Ev.neg h (Ev.pos (by omega) (Ev.pos (by omega) ?_))
    unfold prV
    by_cases g : preOf pre6 (bytesOf s) = true
    · have e : s.extract 0 6 = (⟨#[98, 121, 116, 101, 115, 61]⟩ : ByteArray) := hi.mpr g
      rw [if_pos g, e, l6, bne_self_eq_false]
      refine Ev.step (f := fun k => (spec_SplitList.f k (strOfNums ((bytesOf s).drop 6))).bind fun t => (spec_ParseRanges.l0 k ([] : List S30) t 0)) (fun k => ?_) (Ev.bind (spec_Split_ev _ (by rw [strOfNums_size, List.length_drop]; omega)) ?_)
      · simp only [spec_ParseRanges.j0]
        rw [if_neg (by simp), if_pos (by omega), ext_drop]
      · have hz : (strOfNums ((bytesOf s).drop 6)).size ≤ s.size := by rw [strOfNums_size, List.length_drop]; omega
        have h1 := split_sizes (strOfNums ((bytesOf s).drop 6))
        have h2 := split_count (strOfNums ((bytesOf s).drop 6))
        exact spec_PR_loop _ (by omega) (fun t ht => by have := h1 t ht; omega) _ [] rfl rfl (by simp)
    · have e : ¬ s.extract 0 6 = (⟨#[98, 121, 116, 101, 115, 61]⟩ : ByteArray) := fun z => g (hi.mp z)
      have : ((s.extract 0 6).toList != ([98, 121, 116, 101, 115, 61] : List UInt8)) = true := bne_iff_ne.mpr (fun z => e (toList_iff.mp (z.trans l6.symm)))
      rw [if_neg g, this]
      exact fail
theorem bytesOf_mk2 (l : List UInt8) : bytesOf ⟨l.toArray⟩ = l.map fun b => (b.toNat : Int) := rfl
theorem libjoin_map (l : List ByteArray) : ((Lib.join (l.map (·.data.toList)) [44, 32]).map fun b => (b.toNat : Int)) = joinI l := by
  have tail : ∀ r : List ByteArray, ((Lib.joinTail [44, 32] (r.map (·.data.toList))).map fun b => (b.toNat : Int)) = joinT r := by
    intro r
    induction r with
    | nil => rfl
    | cons x r ih =>
      simp only [Lib.joinTail, List.map_cons, List.flatten_cons, List.map_append, joinT] at ih ⊢
      rw [ih]; rfl
  cases l with
  | nil => rfl
  | cons x r =>
    rw [List.map_cons, Lib.join_cons, List.map_append, tail]; rfl
theorem impl_Join_eq (l : List ByteArray) (hl : totS l ≤ 1099511627776) : impl_JoinList.f l = some (joinV l) := by
  have hlen := totS_len l
  have h2 := joinI_len l
  have e : (⟨#[44, 32]⟩ : ByteArray).data.toList = [44, 32] := rfl
  have hl3 : (Lib.join (l.map (·.data.toList)) [44, 32]).length = (joinI l).length := by rw [← libjoin_map, List.length_map]
  unfold impl_JoinList.f strings_Join.f
  rw [e, if_pos ⟨by omega, by omega⟩, Option.bind_some]
  congr 1
  apply bytesOf_inj
  rw [bytesOf_joinV, bytesOf_mk2, libjoin_map]
theorem itoa_map (n : Int) : ((Lib.itoa n).map fun b => (b.toNat : Int)) = fmtL n := by
  unfold Lib.itoa fmtL
  split
  · simp only [List.map_cons, decDigits_map]; rfl
  · exact decDigits_map _
theorem impl_Fmt_eq (n : Int) (h0 : -9223372036854775808 ≤ n) (h1 : n ≤ 9223372036854775807) : impl_FormatInt.f n = some (fmtV n) := by
  unfold impl_FormatInt.f strconv_Itoa.f
  rw [if_pos ⟨h0, h1⟩, Option.bind_some]
  congr 1
  apply bytesOf_inj
  rw [bytesOf_fmt, ← itoa_map]; rfl
theorem impl_FR_ev (l : List S30) (hl : l.length ≤ 1048576) (hw : ∀ a ∈ l, wfA a) : Ev (fun k => impl_FormatRanges.f k l) (frV l) := by
  have key : ∀ (rest pre : List S30), l = pre ++ rest → Ev (fun k => impl_FormatRanges.l0 k (pre.map askV) l (l.length : Int) (pre.length : Int)) (frV l) := by
    intro rest
    induction rest with
    | nil =>
      intro pre h
      have hl2 := len_mid h
      simp only [List.length_nil] at hl2
      have e : pre = l := by rw [h]; simp
      have ht := totS_asks l hw
      have hj := joinV_size (l.map askV)
      refine Ev.step (f := fun k => some (frV l)) (fun k => ?_) (Ev.now _)
      simp only [impl_FormatRanges.l0]
      rw [if_neg (by omega), e, impl_Join_eq (l.map askV) (by omega), Option.bind_some, if_pos (by omega)]
      rfl
    | cons x rest ih =>
      intro pre h
      have hl2 := len_mid h
      simp only [List.length_cons] at hl2
      have hx : rd_T30 l (pre.length : Int) = x := getD_mid h
      have hwx := hw x (by rw [h]; simp)
      have h0 := fmtV_size hwx.1.1 hwx.1.2
      have h1 := fmtV_size hwx.2.1 hwx.2.2
      have hst := len_step pre x (by omega)
      have hm : (pre.map askV).length = pre.length := by simp
      have hap : pre.map askV ++ [askV x] = (pre ++ [x]).map askV := by simp
      have nxt := ih (pre ++ [x]) (by simp [h])
      rw [← hap, ← hst] at nxt
      refine Ev.step (f := fun k => impl_FormatRanges.l0 k (pre.map askV ++ [askV x]) l (l.length : Int) (wrap64 ((pre.length : Int) + 1))) (fun k => ?_) nxt
      simp only [impl_FormatRanges.l0]
      rw [if_pos (by omega), if_pos (by omega), if_pos (by omega), hx]
      by_cases g0 : x.f0 < 0
      · have ea : askV x = (⟨#[45]⟩ : ByteArray) ++ fmtV x.f1 := by unfold askV; rw [if_pos g0]
        rw [ea, if_pos g0, impl_Fmt_eq _ hwx.2.1 hwx.2.2, Option.bind_some, if_pos (by omega), if_pos (by omega)]
      · rw [if_neg g0]
        by_cases g1 : x.f1 < 0
        · have ea : askV x = fmtV x.f0 ++ (⟨#[45]⟩ : ByteArray) := by unfold askV; rw [if_neg g0, if_pos g1]
          rw [ea, if_pos g1, impl_Fmt_eq _ hwx.1.1 hwx.1.2, Option.bind_some, if_pos (by omega), if_pos (by omega)]
        · have ea : askV x = (fmtV x.f0 ++ (⟨#[45]⟩ : ByteArray)) ++ fmtV x.f1 := by unfold askV; rw [if_neg g0, if_neg g1]
          rw [ea, if_neg g1, impl_Fmt_eq _ hwx.1.1 hwx.1.2, Option.bind_some, if_pos (by omega), impl_Fmt_eq _ hwx.2.1 hwx.2.2, Option.bind_some, if_pos (by rw [ByteArray.size_append, sz45]; omega), if_pos (by omega)]
  exact key l [] rfl
/-- What an ask means in a page of n bytes. -/
def resV (n : Int) (a : S30) : List S35 :=
  if a.f0 < 0 then
    (if a.f1 < 0 then [] else if n - (if a.f1 < n then a.f1 else n) < n then [⟨n - (if a.f1 < n then a.f1 else n), n⟩] else [])
  else if a.f1 ≥ 0 ∧ a.f1 < n then (if a.f0 < a.f1 + 1 then [⟨a.f0, a.f1 + 1⟩] else [])
  else (if a.f0 < n then [⟨a.f0, n⟩] else [])
theorem resV_length (n : Int) (a : S30) : (resV n a).length ≤ 1 := by
  unfold resV
  repeat' split
  all_goals simp
theorem resL_length (n : Int) (l : List S30) : (l.flatMap (resV n)).length ≤ l.length := by
  induction l with
  | nil => simp
  | cons x r ih =>
    have := resV_length n x
    simp only [List.flatMap_cons, List.length_append, List.length_cons]; omega
def wfAsk (a : S30) : Prop := (-9223372036854775808 ≤ a.f0 ∧ a.f0 ≤ 9223372036854775807) ∧ (-9223372036854775808 ≤ a.f1 ∧ a.f1 ≤ 9223372036854775807)
theorem impl_Res_step (n : Int) (hn : -9223372036854775808 ≤ n ∧ n ≤ 9223372036854775807) (l : List S30) (acc : List S35) (hacc : acc.length ≤ 2000000) (i : Int) (h0 : 0 ≤ i) (h1 : i < (l.length : Int)) (a : S30) (ha : rd_T30 l i = a) (hw : wfAsk a) (r : List S35)
    (e : Ev (fun k => impl_ResolveRanges.l0 k n (acc ++ resV n a) l (l.length : Int) (wrap64 (i + 1))) r) : Ev (fun k => impl_ResolveRanges.l0 k n acc l (l.length : Int) i) r := by
  obtain ⟨⟨w1, w2⟩, w3, w4⟩ := hw
  by_cases hf : a.f0 < 0
  · refine Ev.step (f := fun k => impl_ResolveRanges.j1 k n acc l (l.length : Int) i (decide (a.f1 < 0)) a.f0 a.f1 a.f0 n) (fun k => ?_) ?_
    · simp only [impl_ResolveRanges.l0]
      rw [if_pos h1, if_pos h0, if_pos h1, ha, if_pos hf]
    · by_cases hs : a.f1 < 0
      · have hr : resV n a = [] := by unfold resV; rw [if_pos hf, if_pos hs]
        rw [hr, List.append_nil] at e
        refine Ev.step (f := fun k => impl_ResolveRanges.l0 k n acc l (l.length : Int) (wrap64 (i + 1))) (fun k => ?_) e
        simp only [impl_ResolveRanges.j1]
        rw [if_pos (decide_eq_true hs)]
      · have hmn : mn a.f1 n = (if a.f1 < n then a.f1 else n) := by unfold mn; split <;> split <;> omega
        have hwr : wrap64 (n - (if a.f1 < n then a.f1 else n)) = n - (if a.f1 < n then a.f1 else n) := by rw [wrap_id] <;> (split <;> omega)
        by_cases q : n - (if a.f1 < n then a.f1 else n) < n
        · have hr : resV n a = [⟨n - (if a.f1 < n then a.f1 else n), n⟩] := by unfold resV; rw [if_pos hf, if_neg hs, if_pos q]
          rw [hr] at e
          refine Ev.step (f := fun k => impl_ResolveRanges.l0 k n (acc ++ [⟨n - (if a.f1 < n then a.f1 else n), n⟩]) l (l.length : Int) (wrap64 (i + 1))) (fun k => ?_) e
          simp only [impl_ResolveRanges.j1]
          rw [if_neg (by simp [hs]), if_pos hf, hmn, hwr, if_pos q, if_pos (by omega)]
        · have hr : resV n a = [] := by unfold resV; rw [if_pos hf, if_neg hs, if_neg q]
          rw [hr, List.append_nil] at e
          refine Ev.step (f := fun k => impl_ResolveRanges.l0 k n acc l (l.length : Int) (wrap64 (i + 1))) (fun k => ?_) e
          simp only [impl_ResolveRanges.j1]
          rw [if_neg (by simp [hs]), if_pos hf, hmn, hwr, if_neg q]
  · refine Ev.step (f := fun k => impl_ResolveRanges.j1 k n acc l (l.length : Int) i false a.f0 a.f1 a.f0 n) (fun k => ?_) ?_
    · simp only [impl_ResolveRanges.l0]
      rw [if_pos h1, if_pos h0, if_pos h1, ha, if_neg hf]
    by_cases g : a.f1 ≥ 0 ∧ a.f1 < n
    · refine Ev.step (f := fun k => impl_ResolveRanges.j2 k n acc l (l.length : Int) i true a.f0 a.f1 a.f0 n) (fun k => ?_) ?_
      · simp only [impl_ResolveRanges.j1]
        rw [if_neg (by simp), if_neg hf, if_pos g.1, decide_eq_true g.2]
      · by_cases q : a.f0 < a.f1 + 1
        · have hr : resV n a = [⟨a.f0, a.f1 + 1⟩] := by unfold resV; rw [if_neg hf, if_pos g, if_pos q]
          rw [hr] at e
          refine Ev.step (f := fun k => impl_ResolveRanges.l0 k n (acc ++ [⟨a.f0, a.f1 + 1⟩]) l (l.length : Int) (wrap64 (i + 1))) (fun k => ?_) e
          simp only [impl_ResolveRanges.j2]
          rw [if_pos trivial, wrap_id (n := a.f1 + 1) (by omega) (by omega), if_pos q, if_pos (by omega)]
        · have hr : resV n a = [] := by unfold resV; rw [if_neg hf, if_pos g, if_neg q]
          rw [hr, List.append_nil] at e
          refine Ev.step (f := fun k => impl_ResolveRanges.l0 k n acc l (l.length : Int) (wrap64 (i + 1))) (fun k => ?_) e
          simp only [impl_ResolveRanges.j2]
          rw [if_pos trivial, wrap_id (n := a.f1 + 1) (by omega) (by omega), if_neg q]
    · refine Ev.step (f := fun k => impl_ResolveRanges.j2 k n acc l (l.length : Int) i false a.f0 a.f1 a.f0 n) (fun k => ?_) ?_
      · simp only [impl_ResolveRanges.j1]
        rw [if_neg (by simp), if_neg hf]
        by_cases q : a.f1 ≥ 0
        · rw [if_pos q, decide_eq_false (fun z => g ⟨q, z⟩)]
        · rw [if_neg q]
      · by_cases q : a.f0 < n
        · have hr : resV n a = [⟨a.f0, n⟩] := by unfold resV; rw [if_neg hf, if_neg g, if_pos q]
          rw [hr] at e
          refine Ev.step (f := fun k => impl_ResolveRanges.l0 k n (acc ++ [⟨a.f0, n⟩]) l (l.length : Int) (wrap64 (i + 1))) (fun k => ?_) e
          simp only [impl_ResolveRanges.j2]
          rw [if_neg (by simp), if_pos q, if_pos (by omega)]
        · have hr : resV n a = [] := by unfold resV; rw [if_neg hf, if_neg g, if_neg q]
          rw [hr, List.append_nil] at e
          refine Ev.step (f := fun k => impl_ResolveRanges.l0 k n acc l (l.length : Int) (wrap64 (i + 1))) (fun k => ?_) e
          simp only [impl_ResolveRanges.j2]
          rw [if_neg (by simp), if_neg q]
theorem impl_Res_ev (l : List S30) (hl : l.length ≤ 1048576) (hg : ∀ a ∈ l, wfAsk a) (n : Int) (hn : -9223372036854775808 ≤ n ∧ n ≤ 9223372036854775807) : Ev (fun k => impl_ResolveRanges.f k l n) (l.flatMap (resV n)) := by
  have key : ∀ (rest pre : List S30) (acc : List S35), l = pre ++ rest → acc.length ≤ pre.length → Ev (fun k => impl_ResolveRanges.l0 k n (acc) l (l.length : Int) (pre.length : Int)) (acc ++ rest.flatMap (resV n)) := by
    intro rest
    induction rest with
    | nil =>
      intro pre acc h ha
      have hl2 := len_mid h
      simp only [List.length_nil] at hl2
      refine Ev.step (f := fun _ => some acc) (fun k => ?_) (by simpa using Ev.now _)
      simp only [impl_ResolveRanges.l0]
      rw [if_neg (by omega)]
    | cons x rest ih =>
      intro pre acc h ha
      have hl2 := len_mid h
      simp only [List.length_cons] at hl2
      have hx : rd_T30 l (pre.length : Int) = x := getD_mid h
      have hw := len_step pre x (by omega)
      have hr := resV_length n x
      refine impl_Res_step n hn l acc (by omega) (pre.length : Int) (by omega) (by omega) x hx (hg x (by rw [h]; simp)) _ ?_
      rw [hw]
      have := ih (pre ++ [x]) (acc ++ resV n x) (by simp [h]) (by simp; omega)
      simpa using this
  have := key l [] [] rfl (by simp)
  simpa [impl_ResolveRanges.f] using this
def pre7 : List Int := [98, 121, 116, 101, 115, 32]
/-- What stands behind the unit: the part ahead of the slash and behind it. -/
def pcrT (a : List Int) (n : Int) : Int × Int × Int × Bool :=
  if a = [42] then (0, 0, n, true) else if (askP a).2.2 = true ∧ ¬ (askP a).1 < 0 ∧ ¬ (askP a).2.1 < 0 ∧ ¬ (askP a).2.1 ≥ n then ((askP a).1, (askP a).2.1 + 1, n, true) else (0, 0, 0, false)
def pcrL (l : List Int) : Int × Int × Int × Bool :=
  if (cutI [47] l).2.2 = true ∧ (parseV (strOfNums (cutI [47] l).2.1)).2 = true then pcrT (cutI [47] l).1 (parseV (strOfNums (cutI [47] l).2.1)).1 else (0, 0, 0, false)
def pcrV (s : ByteArray) : Int × Int × Int × Bool := if preOf pre7 (bytesOf s) = true then pcrL ((bytesOf s).drop 6) else (0, 0, 0, false)
theorem askP_bound (l : List Int) (h : (askP l).2.2 = true) : -1 ≤ (askP l).2.1 ∧ (askP l).2.1 ≤ 1000000000000 := by
  have := askP_good l h
  unfold goodA at this
  omega
theorem star_iff1 (t : ByteArray) : t.toList = ([42] : List UInt8) ↔ bytesOf t = [42] := by
  have e : ([42] : List UInt8) = (⟨#[42]⟩ : ByteArray).toList := by rw [ByteArray.toList_eq]
  have b : bytesOf (⟨#[42]⟩ : ByteArray) = [42] := by decide
  constructor
  · intro h
    rw [toList_iff.mp (h.trans e)]; exact b
  · intro h
    rw [bytesOf_inj (h.trans b.symm)]; exact e.symm
theorem pcrT_star (n : Int) : pcrT [42] n = (0, 0, n, true) := by unfold pcrT; rw [if_pos rfl]
theorem pcrT_no {a : List Int} {n : Int} (h1 : ¬ a = [42]) (h : ¬ ((askP a).2.2 = true ∧ ¬ (askP a).1 < 0 ∧ ¬ (askP a).2.1 < 0 ∧ ¬ (askP a).2.1 ≥ n)) : pcrT a n = (0, 0, 0, false) := by unfold pcrT; rw [if_neg h1, if_neg h]
theorem pcrT_yes {a : List Int} {n : Int} (h1 : ¬ a = [42]) (h : (askP a).2.2 = true ∧ ¬ (askP a).1 < 0 ∧ ¬ (askP a).2.1 < 0 ∧ ¬ (askP a).2.1 ≥ n) : pcrT a n = ((askP a).1, (askP a).2.1 + 1, n, true) := by unfold pcrT; rw [if_neg h1, if_pos h]
theorem InB_cut1 (sep l : List Int) (h : InB l) : InB (cutI sep l).1 ∧ InB (cutI sep l).2.1 := by
  induction l with
  | nil => exact ⟨InB_nil, InB_nil⟩
  | cons b r ih =>
    have hr := ih (InB_cons.1 h).2
    unfold cutI
    split
    · exact ⟨InB_nil, InB_drop _ h⟩
    · exact ⟨InB_cons.2 ⟨(InB_cons.1 h).1, hr.1⟩, hr.2⟩
theorem cut_le1 (sep l : List Int) : (cutI sep l).1.length ≤ l.length ∧ (cutI sep l).2.1.length ≤ l.length := by
  induction l with
  | nil => simp [cutI]
  | cons b r ih =>
    unfold cutI
    split
    · simp
    · simp only [List.length_cons]; omega
theorem impl_PCR_ev (s : ByteArray) (hs : s.size ≤ 2000000) : Ev (fun k => impl_ParseContentRange.f k s) (pcrV s) := by
  have hl := bytesOf_length s
  have hrz : (restOf pre7 (bytesOf s)).length ≤ s.size := by
    rw [← hl]
    unfold restOf
    split
    · rw [List.length_drop]; omega
    · omega
  have hrb : InB (restOf pre7 (bytesOf s)) := by
    unfold restOf
    split
    · exact InB_drop _ (InB_bytes s)
    · exact InB_bytes s
  have c := cutPre_eq s (⟨#[98, 121, 116, 101, 115, 32]⟩ : ByteArray) (by omega) (by decide)
  rw [show bytesOf (⟨#[98, 121, 116, 101, 115, 32]⟩ : ByteArray) = pre7 by decide] at c
  have c2 := strings_Cut_eq (strOfNums (restOf pre7 (bytesOf s))) (⟨#[47]⟩ : ByteArray) (by rw [strOfNums_size]; omega) (by decide)
  rw [show bytesOf (⟨#[47]⟩ : ByteArray) = [47] by decide] at c2
  have fail : ∀ (x : ByteArray) (n : Int), Ev (fun k => impl_ParseContentRange.j0 k x n true) (0, 0, 0, false) := fun x n => Ev.step (f := fun _ => some (0, 0, 0, false)) (fun k => by simp only [impl_ParseContentRange.j0]; rw [if_pos trivial]) (Ev.now _)
  unfold impl_ParseContentRange.f
  rw [c]
  simp only [Option.bind_some]
  rw [c2]
  simp only [Option.bind_some, impl_Parse_eq, cutV, bytesOf_strOf hrb]
  unfold pcrV
  by_cases g : preOf pre7 (bytesOf s) = true
  · have hr : restOf pre7 (bytesOf s) = (bytesOf s).drop 6 := by unfold restOf; rw [if_pos g]; rfl
    rw [hr] at hrb hrz ⊢
    simp only [if_pos g]
    have hi := (InB_cut1 [47] _ hrb).1
    have hz := (cut_le1 [47] ((bytesOf s).drop 6)).1
    unfold pcrL
    by_cases h0 : (cutI [47] ((bytesOf s).drop 6)).2.2 = true
    · simp only [if_pos h0]
      rcases parse_cases (strOfNums (cutI [47] ((bytesOf s).drop 6)).2.1) with ⟨n, e2, n0, n1⟩ | e2
      · rw [e2, if_pos ⟨h0, rfl⟩]
        simp only [Bool.not_true]
        generalize (cutI [47] ((bytesOf s).drop 6)).1 = a at hi hz ⊢
        by_cases h1 : a = [42]
        · have hv : pcrT a n = (0, 0, n, true) := by rw [h1]; exact pcrT_star n
          rw [hv]
          refine Ev.step (f := fun _ => some (0, 0, n, true)) (fun k => ?_) (Ev.now _)
          simp only [impl_ParseContentRange.j0]
          rw [if_neg (by simp), if_pos ((star_iff1 _).mpr (by rw [bytesOf_strOf hi]; exact h1))]
        · obtain ⟨v, hv, v1, v2⟩ := impl_ask_ev (strOfNums a) (by rw [strOfNums_size]; omega)
          rw [bytesOf_strOf hi] at v1 v2
          refine Ev.step (f := fun k => (impl_askIn.f k (strOfNums a)).bind fun t => (if t.2.2 = true then (if t.1 < 0 then (some (0, 0, 0, false)) else (if t.2.1 < 0 then (some (0, 0, 0, false)) else (if t.2.1 ≥ n then (some (0, 0, 0, false)) else (some (t.1, wrap64 (t.2.1 + 1), n, true))))) else (some (0, 0, 0, false)))) (fun k => ?_) (Ev.bind hv ?_)
          · simp only [impl_ParseContentRange.j0]
            rw [if_neg (by simp), if_neg (fun z => h1 (by rw [← bytesOf_strOf hi]; exact (star_iff1 _).mp z))]
          · by_cases q : (askP a).2.2 = true
            · rw [v2 q]
              have hb := askP_bound a q
              refine Ev.pos q ?_
              by_cases q1 : (askP a).1 < 0
              · rw [pcrT_no h1 (fun z => z.2.1 q1)]; exact Ev.pos q1 (Ev.now _)
              · refine Ev.neg q1 ?_
                by_cases q2 : (askP a).2.1 < 0
                · rw [pcrT_no h1 (fun z => z.2.2.1 q2)]; exact Ev.pos q2 (Ev.now _)
                · refine Ev.neg q2 ?_
                  by_cases q3 : (askP a).2.1 ≥ n
                  · rw [pcrT_no h1 (fun z => z.2.2.2 q3)]; exact Ev.pos q3 (Ev.now _)
                  · rw [pcrT_yes h1 ⟨q, q1, q2, q3⟩, wrap_id (n := (askP a).2.1 + 1) (by omega) (by omega)]
                    exact Ev.neg q3 (Ev.now _)
            · rw [pcrT_no h1 (fun z => q z.1)]
              exact Ev.neg (by rw [v1]; exact q) (Ev.now _)
      · rw [e2, if_neg (by simp)]
        simp only [Bool.not_false]
        exact fail _ _
    · simp only [if_neg h0]
      rw [if_neg (fun z => h0 z.1)]
      exact fail _ _
  · simp only [if_neg g]
    exact fail _ _
def bytesA : ByteArray := ⟨#[98, 121, 116, 101, 115, 32, 42, 47]⟩
def bytesB : ByteArray := ⟨#[98, 121, 116, 101, 115, 32]⟩
def fcrV (a b n : Int) : ByteArray := if a ≥ b then bytesA ++ fmtV n else (((((bytesB ++ fmtV a) ++ (⟨#[45]⟩ : ByteArray)) ++ fmtV (wrap64 (b - 1))) ++ (⟨#[47]⟩ : ByteArray)) ++ fmtV n)
theorem fcrV_no {a b n : Int} (h : a ≥ b) : fcrV a b n = bytesA ++ fmtV n := by unfold fcrV; rw [if_pos h]
theorem fcrV_yes {a b n : Int} (h : ¬ a ≥ b) : fcrV a b n = (((((bytesB ++ fmtV a) ++ (⟨#[45]⟩ : ByteArray)) ++ fmtV (wrap64 (b - 1))) ++ (⟨#[47]⟩ : ByteArray)) ++ fmtV n) := by unfold fcrV; rw [if_neg h]
theorem fcr_sizes {a b n : Int} (ha : (fmtV a).size ≤ 20) (hb : (fmtV b).size ≤ 20) (hn : (fmtV n).size ≤ 20) :
    (8 + (fmtV n).size ≤ 9223372036854775807) ∧ (6 + (fmtV a).size ≤ 9223372036854775807) ∧ ((bytesB ++ fmtV a).size + 1 ≤ 9223372036854775807) ∧ (((bytesB ++ fmtV a) ++ (⟨#[45]⟩ : ByteArray)).size + (fmtV b).size ≤ 9223372036854775807) ∧ ((((bytesB ++ fmtV a) ++ (⟨#[45]⟩ : ByteArray)) ++ fmtV b).size + 1 ≤ 9223372036854775807) ∧
    (((((bytesB ++ fmtV a) ++ (⟨#[45]⟩ : ByteArray)) ++ fmtV b) ++ (⟨#[47]⟩ : ByteArray)).size + (fmtV n).size ≤ 9223372036854775807) := by
  have s1 : bytesB.size = 6 := rfl
  have s2 : (⟨#[45]⟩ : ByteArray).size = 1 := rfl
  have s3 : (⟨#[47]⟩ : ByteArray).size = 1 := rfl
  simp only [ByteArray.size_append, s1, s2, s3]
  omega
theorem impl_FCR_eq (a b n : Int) (ha : -9223372036854775808 ≤ a ∧ a ≤ 9223372036854775807) (hn : -9223372036854775808 ≤ n ∧ n ≤ 9223372036854775807) : impl_FormatContentRange.f a b n = some (fcrV a b n) := by
  have hw := wrap_range (b - 1)
  obtain ⟨z1, z2, z3, z4, z5, z6⟩ := fcr_sizes (a := a) (b := wrap64 (b - 1)) (n := n) (fmtV_size ha.1 ha.2) (fmtV_size hw.1 hw.2) (fmtV_size hn.1 hn.2)
  unfold impl_FormatContentRange.f
  by_cases h : a ≥ b
  · rw [if_pos h, fcrV_no h, impl_Fmt_eq n hn.1 hn.2, Option.bind_some, if_pos z1]; rfl
  · rw [if_neg h, fcrV_yes h, impl_Fmt_eq a ha.1 ha.2, impl_Fmt_eq _ hw.1 hw.2, impl_Fmt_eq n hn.1 hn.2]
    simp only [Option.bind_some]
    rw [if_pos z2]
    refine (if_pos z3).trans ((if_pos z4).trans ((if_pos z5).trans ((if_pos z6).trans rfl)))

theorem pr_of_fr (A : List S30) (h : ∀ a ∈ A, goodA a.f0 a.f1) : prV (frV A) = prL (A.map askV) := by
  have e : bytesOf (frV A) = pre6 ++ bytesOf (joinV (A.map askV)) := by
    unfold frV
    rw [bytesOf_append]; congr 1
  have p : preOf pre6 (bytesOf (frV A)) = true := by
    unfold preOf
    rw [e]
    exact decide_eq_true (by rw [List.take_left])
  unfold prV
  rw [if_pos p, e, show (pre6 ++ bytesOf (joinV (A.map askV))).drop 6 = bytesOf (joinV (A.map askV)) from List.drop_left' rfl, strOf_bytesOf, split_asks A h]
theorem map_askOf (A : List S30) (h : ∀ a ∈ A, goodA a.f0 a.f1) : (A.map askV).map askOf = A ∧ (A.map askV).all askGood = true := by
  induction A with
  | nil => exact ⟨rfl, rfl⟩
  | cons a r ih =>
    obtain ⟨i1, i2⟩ := ih (fun x hx => h x (by simp [hx]))
    obtain ⟨g, _, _⟩ := askV_bytes (h a (by simp))
    refine ⟨?_, ?_⟩
    · rw [List.map_cons, List.map_cons, i1]
      unfold askOf
      rw [g]
    · rw [List.map_cons, List.all_cons, i2]
      unfold askGood
      rw [g]; rfl
theorem pr_round (s : ByteArray) : prV (frV (prV s).1) = prV s := by
  have none : prV (frV []) = ([], false) := by rw [pr_of_fr [] (by simp)]; exact prL_no (by simp)
  have key : ∀ L, prV (frV (prL L).1) = prL L := by
    intro L
    by_cases g : L.all askGood = true ∧ 1 ≤ L.length ∧ L.length ≤ 6
    · rw [prL_yes g]
      have hg : ∀ a ∈ L.map askOf, goodA a.f0 a.f1 := by
        intro a ha
        obtain ⟨t, ht, rfl⟩ := List.mem_map.1 ha
        exact askP_good _ (List.all_eq_true.1 g.1 t ht)
      obtain ⟨m1, m2⟩ := map_askOf _ hg
      rw [pr_of_fr _ hg, prL_yes ⟨m2, by simpa using g.2.1, by simpa using g.2.2⟩, m1]
    · rw [prL_no g]; exact none
  unfold prV
  by_cases p : preOf pre6 (bytesOf s) = true
  · rw [if_pos p]
    have := key (splitV (strOfNums ((bytesOf s).drop 6)))
    unfold prV at this
    exact this
  · rw [if_neg p]
    unfold prV at none
    exact none
theorem pr_wf (s : ByteArray) : ∀ a ∈ (prV s).1, wfA a := by
  have key : ∀ L, ∀ a ∈ (prL L).1, wfA a := by
    intro L
    by_cases g : L.all askGood = true ∧ 1 ≤ L.length ∧ L.length ≤ 6
    · rw [prL_yes g]
      intro a ha
      obtain ⟨t, ht, rfl⟩ := List.mem_map.1 ha
      have := askP_good _ (List.all_eq_true.1 g.1 t ht)
      unfold goodA at this
      unfold wfA askOf
      simp only
      omega
    · rw [prL_no g]; simp
  unfold prV
  split
  · exact key _
  · simp
theorem resV_good {n : Int} {a : S30} {x : S35} (h : x ∈ resV n a) : 0 ≤ x.f0 ∧ x.f0 < x.f1 ∧ x.f1 ≤ n := by
  unfold resV at h
  repeat' split at h
  all_goals first | (simp at h; done) | (rw [List.mem_singleton] at h; subst h; simp only; omega)
theorem pcr_round {a b n : Int} (h0 : 0 ≤ a) (h1 : a < b) (h2 : b ≤ n) (h3 : n ≤ 1000000000000) : pcrV (fcrV a b n) = (a, b, n, true) := by
  have wb : wrap64 (b - 1) = b - 1 := wrap_id (by omega) (by omega)
  have e : bytesOf (fcrV a b n) = pre7 ++ ((fmtL a ++ 45 :: fmtL (b - 1)) ++ 47 :: fmtL n) := by
    rw [fcrV_yes (by omega), wb]
    simp only [bytesOf_append, bytesOf_fmt, show bytesOf bytesB = pre7 by decide, show bytesOf (⟨#[45]⟩ : ByteArray) = [45] by decide, show bytesOf (⟨#[47]⟩ : ByteArray) = [47] by decide, List.append_assoc, List.singleton_append, List.cons_append, List.nil_append]
  have g : goodA (S30.mk a (b - 1)).f0 (S30.mk a (b - 1)).f1 := Or.inr (Or.inr ⟨h0, by simp only; omega, by simp only; omega⟩)
  obtain ⟨q, d, _⟩ := askV_bytes g
  have eb : bytesOf (askV (S30.mk a (b - 1))) = fmtL a ++ 45 :: fmtL (b - 1) := by
    unfold askV
    rw [if_neg (by simp only; omega), if_neg (by simp only; omega), bytesOf_append, bytesOf_append, b45, bytesOf_fmt, bytesOf_fmt, List.append_assoc]; rfl
  rw [eb] at q d
  have c := cut_at 47 (fmtL a ++ 45 :: fmtL (b - 1)) (fmtL n) (fun x hx => by
    have da := dig_fmt h0 x
    have db := dig_fmt (n := b - 1) (by omega) x
    rcases List.mem_append.1 hx with z | z
    · have := da z; omega
    · rcases List.mem_cons.1 z with y | y
      · omega
      · have := db y; omega)
  have p := parseV_fmt (n := n) (by omega) h3
  unfold fmtV at p
  have p7 : preOf pre7 (bytesOf (fcrV a b n)) = true := by
    unfold preOf
    rw [e]
    exact decide_eq_true (by rw [List.take_left])
  unfold pcrV
  rw [if_pos p7, e, show (pre7 ++ ((fmtL a ++ 45 :: fmtL (b - 1)) ++ 47 :: fmtL n)).drop 6 = (fmtL a ++ 45 :: fmtL (b - 1)) ++ 47 :: fmtL n from List.drop_left' rfl]
  unfold pcrL
  rw [c]
  simp only [p, and_self, if_true]
  rw [pcrT_yes (fun z => by have : (45 : Int) ∈ ([42] : List Int) := by rw [← z]; simp
                            simp at this) ⟨by rw [q], by rw [q]; show ¬ a < 0; omega, by rw [q]; show ¬ b - 1 < 0; omega, by rw [q]; show ¬ b - 1 ≥ n; omega⟩, q]
  simp only [Int.sub_add_cancel]
theorem FnRanges : laws_FnRanges.Pure := by
  intro l hl hb
  apply Ev.rounds
  by_cases g : (l.length : Int) > 1048576
  · refine Ev.mp (Ev.now _) (fun k => ?_)
    unfold laws_FnRanges.f laws_big.f
    rw [decide_eq_true g, Option.bind_some, if_pos rfl]
  obtain ⟨t, hT, zt⟩ := draw_pr_ok l (by omega)
  obtain ⟨B, n, hB, b3, wB, n0, n1⟩ := draw_rr_ok l (by omega)
  have hbig : laws_big.f l = some false := by unfold laws_big.f; rw [decide_eq_false g]
  have I1 := impl_PR_ev t (by omega)
  have S1 := spec_PR_ev t (by omega)
  have wA := pr_wf t
  have lA := prV_len t
  have F1 := impl_FR_ev (prV t).1 (by omega) wA
  have zf : (frV (prV t).1).size ≤ 1000 := by
    have z1 := totS_asks (prV t).1 wA
    have z2 := joinV_size ((prV t).1.map askV)
    unfold frV
    rw [ByteArray.size_append, show bytesEq.size = 6 from rfl]
    omega
  have I2 := impl_PR_ev (frV (prV t).1) (by omega)
  rw [pr_round] at I2
  generalize hp : prV t = p at *
  obtain ⟨A, ok⟩ := p
  simp only at *
  have R1 := impl_Res_ev B (by omega) wB n (by omega)
  have hS : ∀ x ∈ B.flatMap (resV n), 0 ≤ x.f0 ∧ x.f0 < x.f1 ∧ x.f1 ≤ n := by
    intro x hx
    obtain ⟨a, _, ha⟩ := List.mem_flatMap.1 hx
    exact resV_good ha
  have lS := resL_length n B
  generalize B.flatMap (resV n) = C at *
  have k2 : ∀ rest pre, C = pre ++ rest → Ev (fun k => laws_FnRanges.l1 k B n C (pre.length : Int)) true := by
    intro rest
    induction rest with
    | nil =>
      intro pre hpre
      have hln := len_mid hpre
      simp only [List.length_nil] at hln
      refine Ev.step (f := fun _ => some true) (fun k => ?_) (Ev.now _)
      simp only [laws_FnRanges.l1]
      rw [if_neg (by omega), decide_eq_true (by omega)]
    | cons x rest ih =>
      intro pre hpre
      have hln := len_mid hpre
      simp only [List.length_cons] at hln
      have hx : rd_T35 C (pre.length : Int) = x := getD_mid hpre
      obtain ⟨x0, x1, x2⟩ := hS x (by rw [hpre]; simp)
      have zc : (fcrV x.f0 x.f1 n).size ≤ 100 := by
        have y0 := fmtV_size (n := x.f0) (by omega) (by omega)
        have y1 := fmtV_size (n := wrap64 (x.f1 - 1)) (wrap_range _).1 (wrap_range _).2
        have y2 := fmtV_size (n := n) (by omega) (by omega)
        rw [fcrV_yes (by omega)]
        simp only [ByteArray.size_append, show bytesB.size = 6 from rfl, show (⟨#[45]⟩ : ByteArray).size = 1 from rfl, show (⟨#[47]⟩ : ByteArray).size = 1 from rfl]
        omega
      have P1 := impl_PCR_ev (fcrV x.f0 x.f1 n) (by omega)
      rw [pcr_round x0 x1 x2 (by omega)] at P1
      refine Ev.step (f := fun k => laws_FnRanges.j3 k B n C (pre.length : Int) false) (fun k => ?_) (Ev.step (f := fun k => (impl_ParseContentRange.f k (fcrV x.f0 x.f1 n)).bind fun q => (if q.2.2.2 = true then (if (!(q.1 == x.f0) || (!(q.2.1 == x.f1))) = true then (some false) else (if q.2.2.1 = n then (laws_FnRanges.l1 k B n C ((pre ++ [x]).length : Int)) else (some false))) else (some false))) (fun k => ?_) (Ev.bind P1 (Ev.pos rfl (Ev.neg (by simp) (Ev.pos rfl (ih (pre ++ [x]) (by simp [hpre])))))))
      · simp only [laws_FnRanges.l1]
        rw [if_pos (by omega), if_pos (by omega), hx, if_neg (by omega), if_neg (by omega), decide_eq_false (by omega)]
      · simp only [laws_FnRanges.j3]
        rw [if_neg (by simp), if_pos (by omega), if_pos (by omega), hx, impl_FCR_eq _ _ _ ⟨by omega, by omega⟩ ⟨by omega, by omega⟩, Option.bind_some, len_step pre x (by omega)]
  have k1 : ∀ rest pre, A = pre ++ rest → Ev (fun k => laws_FnRanges.l0 k l A A (pre.length : Int)) true := by
    intro rest
    induction rest with
    | nil =>
      intro pre hpre
      have hln := len_mid hpre
      simp only [List.length_nil] at hln
      refine Ev.step (f := fun k => (spec_DrawResolveRanges.f k l).bind fun q => ((impl_ResolveRanges.f k q.1 q.2).bind fun t => (laws_FnRanges.l1 k q.1 q.2 t 0))) (fun k => ?_) (Ev.bind hB (Ev.bind R1 (k2 C [] rfl)))
      simp only [laws_FnRanges.l0]
      rw [if_neg (by omega)]
    | cons x rest ih =>
      intro pre hpre
      have hln := len_mid hpre
      simp only [List.length_cons] at hln
      have hx : rd_T30 A (pre.length : Int) = x := getD_mid hpre
      refine Ev.step (f := fun k => laws_FnRanges.l0 k l A A ((pre ++ [x]).length : Int)) (fun k => ?_) (ih (pre ++ [x]) (by simp [hpre]))
      simp only [laws_FnRanges.l0]
      rw [if_pos (by omega), if_pos (by omega), if_pos (by omega), hx, len_step pre x (by omega), beq_self_eq_true, beq_self_eq_true]
      exact if_neg (by simp)
  have k0 : Ev (fun k => laws_FnRanges.j0 k l A A false) true := by
    refine Ev.step (f := fun k => laws_FnRanges.l0 k l A A 0) (fun k => ?_) (k1 A [] rfl)
    simp only [laws_FnRanges.j0]
    exact if_neg (by simp)
  unfold laws_FnRanges.f
  simp only [hbig, Option.bind_some, Bool.false_eq_true, if_false]
  refine Ev.bind hT (Ev.bind I1 (Ev.bind hT (Ev.bind S1 ?_)))
  refine Ev.neg (by simp) (Ev.bind F1 (Ev.bind I2 (Ev.neg (by simp) ?_)))
  simp only
  cases ok with
  | true => exact Ev.pos rfl (by rw [bne_self_eq_false]; exact k0)
  | false => exact Ev.neg (by simp) k0

end Go.Proofs.YtlboepkphddacabGreatDoor.Pure
