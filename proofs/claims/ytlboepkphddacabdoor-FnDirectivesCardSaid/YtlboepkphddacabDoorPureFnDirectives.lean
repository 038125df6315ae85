/- The pure part of FnDirectives: for every list of bytes within the statement's bounds the printed law answers true. Conditions: the statement's own bounds alone. -/
import Derived.Test.YtlboepkphddacabDoorPreFnDirectives
import Derived.Test.YtlboepkphddacabDoorRFnDirectivesx1
import Derived.Test.YtlboepkphddacabDoorRFnDirectivesx10
import Derived.Test.YtlboepkphddacabDoorRFnDirectivesx2
import Derived.Test.YtlboepkphddacabDoorRFnDirectivesx3
import Derived.Test.YtlboepkphddacabDoorRFnDirectivesx4
import Derived.Test.YtlboepkphddacabDoorRFnDirectivesx5
import Derived.Test.YtlboepkphddacabDoorRFnDirectivesx6
import Derived.Test.YtlboepkphddacabDoorRFnDirectivesx7
import Derived.Test.YtlboepkphddacabDoorRFnDirectivesx8
import Derived.Test.YtlboepkphddacabDoorRFnDirectivesx9
import Derived.OpenShut
namespace Go.Proofs.YtlboepkphddacabDoor.Pure
open Go.RowKit Go.Proofs.YtlboepkphddacabDoor.RFnDirectives Go.Proofs.YtlboepkphddacabDoorW.PrintWords Go.Proofs.YtlboepkphddacabDoorW.PrintLast
set_option linter.unusedSimpArgs false
set_option linter.unusedVariables false

/-! ### Texts as lists of numbers -/
def InB (l : List Int) : Prop := ∀ x ∈ l, 0 ≤ x ∧ x ≤ 255
theorem InB_nil : InB [] := fun x hx => by simp at hx
theorem InB_cons {b : Int} {l : List Int} : InB (b :: l) ↔ (0 ≤ b ∧ b ≤ 255) ∧ InB l := by simp [InB]
theorem InB_append {l m : List Int} : InB (l ++ m) ↔ InB l ∧ InB m := by
  simp only [InB, List.mem_append]
  exact ⟨fun h => ⟨fun x hx => h x (.inl hx), fun x hx => h x (.inr hx)⟩, fun h x hx => hx.elim (h.1 x) (h.2 x)⟩
theorem InB_bytes (s : ByteArray) : InB (bytesOf s) := by
  intro x hx
  unfold bytesOf at hx
  obtain ⟨b, _, rfl⟩ := List.mem_map.1 hx
  have := b.toNat_lt
  omega
theorem strOf_bytesOf (s : ByteArray) : strOfNums (bytesOf s) = s := by
  obtain ⟨⟨l⟩⟩ := s
  unfold strOfNums bytesOf
  simp only [List.map_map]
  congr 2
  exact (List.map_congr_left (fun b _ => by simp)).trans (List.map_id l)
theorem bytesOf_strOf {l : List Int} (h : InB l) : bytesOf (strOfNums l) = l := by
  unfold strOfNums bytesOf
  simp only [List.map_map]
  refine (List.map_congr_left (fun x hx => ?_)).trans (List.map_id l)
  have := h x hx
  simp only [Function.comp_apply, id, UInt8.toNat_ofNat']
  omega
theorem bytesOf_inj {s t : ByteArray} (h : bytesOf s = bytesOf t) : s = t := by rw [← strOf_bytesOf s, h, strOf_bytesOf]
theorem bytesOf_append (s t : ByteArray) : bytesOf (s ++ t) = bytesOf s ++ bytesOf t := by
  unfold bytesOf
  rw [ByteArray.data_append, Array.toList_append, List.map_append]
theorem bytesOf_extract (s : ByteArray) (a b : Nat) : bytesOf (s.extract a b) = ((bytesOf s).take b).drop a := by
  unfold bytesOf
  rw [ByteArray.data_extract, Array.toList_extract, List.extract_eq_take_drop, List.map_take, List.map_drop, List.take_drop]
  rcases Nat.le_total a b with h | h
  · rw [Nat.add_sub_cancel' h]
  · rw [Nat.sub_eq_zero_of_le h, List.drop_eq_nil_of_le (by simp; omega), List.drop_eq_nil_of_le (by simp; omega)]
theorem toList_iff {s t : ByteArray} : s.toList = t.toList ↔ s = t := by
  rw [ByteArray.toList_eq, ByteArray.toList_eq]
  constructor
  · intro h
    obtain ⟨⟨l⟩⟩ := s
    obtain ⟨⟨m⟩⟩ := t
    simp only at h
    rw [h]
  · rintro rfl; rfl
theorem size_bytes (s : ByteArray) : (s.size : Int) = ((bytesOf s).length : Int) := by rw [bytesOf_length]
theorem getD_mid {α : Type} {l pre rest : List α} {b d : α} (h : l = pre ++ b :: rest) : l.getD ((pre.length : Int)).toNat d = b := by subst h; simp
theorem len_mid {α : Type} {l pre rest : List α} (h : l = pre ++ rest) : l.length = pre.length + rest.length := by rw [h, List.length_append]
theorem rd_mid {l pre rest : List Int} {b : Int} (h : l = pre ++ b :: rest) : rd l (pre.length : Int) = b := by
  subst h
  unfold rd
  simp
theorem bt_mid {s : ByteArray} {pre rest : List Int} {b : Int} (h : bytesOf s = pre ++ b :: rest) : bt s (pre.length : Int) = b := by
  rw [← rd_bytesOf]; exact rd_mid h
theorem size_mid {s : ByteArray} {pre rest : List Int} (h : bytesOf s = pre ++ rest) : (s.size : Int) = (pre.length : Int) + (rest.length : Int) := by
  rw [size_bytes, h]; simp
theorem mid_step {l pre rest : List Int} {b : Int} (h : l = pre ++ b :: rest) : l = (pre ++ [b]) ++ rest := by simp [h]
theorem wrap_id {n : Int} (h0 : -9223372036854775808 ≤ n) (h1 : n ≤ 9223372036854775807) : wrap64 n = n := by unfold wrap64; omega
theorem len_step {α : Type} (pre : List α) (b : α) (h : pre.length ≤ 9223372036854775000) : wrap64 ((pre.length : Int) + 1) = ((pre ++ [b]).length : Int) := by
  rw [wrap_id (by omega) (by omega)]; simp
/-! ### Loops over lists -/
theorem Ev.mp {α : Type} {g f : Nat → Option α} {r : α} (h : Ev f r) (e : ∀ k, g k = f k) : Ev g r := Ev.congr e h
theorem Ev.step2 {α : Type} {g f : Nat → Option α} {r : α} (h : ∃ K, ∀ k, K ≤ k → g (k + 1) = f k) (e : Ev f r) : Ev g r := by
  obtain ⟨K, hK⟩ := h
  obtain ⟨K', hK'⟩ := e
  refine ⟨max K K' + 1, fun k hk => ?_⟩
  obtain ⟨k, rfl⟩ : ∃ m, k = m + 1 := ⟨k - 1, by omega⟩
  rw [hK k (by omega), hK' k (by omega)]
theorem Ev.pos {α : Type} {c : Prop} [Decidable c] {f g : Nat → Option α} {r : α} (h : c) (e : Ev f r) : Ev (fun k => if c then f k else g k) r := by simp only [if_pos h]; exact e
theorem Ev.neg {α : Type} {c : Prop} [Decidable c] {f g : Nat → Option α} {r : α} (h : ¬ c) (e : Ev g r) : Ev (fun k => if c then f k else g k) r := by simp only [if_neg h]; exact e
theorem and255 (n : Int) : Go.bits .and .i64 n 255 = n % 256 := by
  have h255 : (BitVec.ofInt 64 255).toNat = 2 ^ 8 - 1 := by decide
  have key : (BitVec.ofInt 64 n &&& BitVec.ofInt 64 255).toNat = (n % ((2 ^ 64 : Nat) : Int)).toNat % 2 ^ 8 := by
    rw [BitVec.toNat_and, BitVec.toNat_ofInt, h255, Nat.and_two_pow_sub_one_eq_mod]
  show IntKind.i64.wrap ((BitVec.ofInt 64 n &&& BitVec.ofInt 64 255).toNat : Nat) = n % 256
  rw [key, IntKind.wrap_i64]
  omega
/-- A cursor's place lies within the bytes. -/
def Cur (l : List Int) (i : Int) : Prop := 0 ≤ i ∧ i ≤ (l.length : Int) ∧ l.length ≤ 1048576
theorem byte_ok {l : List Int} {i : Int} (h : Int) (c : Cur l i) : ∃ x i' h', spec_l1Byte.f l i h = some (x, i', h') ∧ 0 ≤ x ∧ x ≤ 255 ∧ Cur l i' := by
  obtain ⟨c0, c1, c2⟩ := c
  unfold spec_l1Byte.f
  simp only [and255]
  by_cases g : i < (l.length : Int)
  · rw [if_pos g, if_pos c0]
    exact ⟨_, _, _, rfl, by omega, by omega, by rw [wrap_id (by omega) (by omega)]; exact ⟨by omega, by omega, c2⟩⟩
  · rw [if_neg g]
    exact ⟨_, _, _, rfl, by omega, by omega, c0, c1, c2⟩
theorem below_ok {l : List Int} {i : Int} (h : Int) (c : Cur l i) (n : Int) : ∃ x i' h', spec_l1Below.f l i h n = some (x, i', h') ∧ 0 ≤ x ∧ (0 < n → x < n) ∧ Cur l i' := by
  unfold spec_l1Below.f
  by_cases g0 : n ≤ 0
  · rw [if_pos g0]
    exact ⟨_, _, _, rfl, by omega, by omega, c⟩
  · rw [if_neg g0]
    by_cases g1 : n ≤ 256
    · rw [if_pos g1]
      obtain ⟨x, i', h', e, x0, x1, c'⟩ := byte_ok h c
      rw [e]
      simp only [Option.bind_some]
      rw [if_neg (by omega)]
      exact ⟨_, _, _, rfl, Int.tmod_nonneg n x0, fun hn => Int.tmod_lt_of_pos x hn, c'⟩
    · rw [if_neg g1]
      obtain ⟨x, i1, h1, e1, x0, x1, c1⟩ := byte_ok h c
      obtain ⟨y, i2, h2, e2, y0, y1, c2⟩ := byte_ok h1 c1
      obtain ⟨z, i3, h3, e3, z0, z1, c3⟩ := byte_ok h2 c2
      rw [e1]
      simp only [Option.bind_some]
      rw [e2]
      simp only [Option.bind_some]
      rw [e3]
      simp only [Option.bind_some]
      rw [if_neg (by omega), wrap_id (n := x * 65536) (by omega) (by omega), wrap_id (n := y * 256) (by omega) (by omega), wrap_id (n := x * 65536 + y * 256) (by omega) (by omega), wrap_id (n := x * 65536 + y * 256 + z) (by omega) (by omega)]
      exact ⟨_, _, _, rfl, Int.tmod_nonneg n (by omega), fun hn => Int.tmod_lt_of_pos _ hn, c3⟩
theorem new_loop {l : List Int} (hl : l.length ≤ 1048576) (d : Nat) : ∀ (i x : Int), 0 ≤ i → i + d = l.length → ∃ h, Ev (fun k => spec_l1New.l0 k l x i) (l, 0, h) := by
  induction d with
  | zero =>
    intro i x h0 h1
    refine ⟨x, Ev.step (f := fun _ => some (l, 0, x)) (fun k => ?_) (Ev.now _)⟩
    simp only [spec_l1New.l0]
    rw [if_neg (by omega)]
  | succ d ih =>
    intro i x h0 h1
    by_cases g : i < 4000
    · obtain ⟨h, e⟩ := ih (i + 1) (Go.bits .and .i64 (wrap64 ((wrap64 ((wrap64 (x * 139)) + (wrap64 (rd l i)))) + 11)) 1073741823) (by omega) (by omega)
      refine ⟨h, Ev.step (fun k => ?_) e⟩
      simp only [spec_l1New.l0]
      rw [if_pos (by omega), if_pos g, if_pos h0, wrap_id (n := i + 1) (by omega) (by omega)]
    · refine ⟨x, Ev.step (f := fun _ => some (l, 0, x)) (fun k => ?_) (Ev.now _)⟩
      simp only [spec_l1New.l0]
      rw [if_pos (by omega), if_neg g]
theorem new_ev (l : List Int) (hl : l.length ≤ 1048576) : ∃ h, Ev (fun k => spec_l1New.f k l) (l, 0, h) ∧ Cur l 0 := by
  obtain ⟨h, e⟩ := new_loop hl l.length 0 (wrap64 (271091 + (l.length : Int))) (by omega) (by omega)
  exact ⟨h, e, by omega, by omega, hl⟩
theorem int_ok {l : List Int} {i : Int} (h : Int) (c : Cur l i) (L : List Int) (hL : 0 < L.length) : ∃ x i' h', spec_l1Int.f l i h L = some (x, i', h') ∧ x ∈ L ∧ Cur l i' := by
  obtain ⟨q, i', h', e, q0, q1, c'⟩ := below_ok h c (L.length : Int)
  have q2 := q1 (by omega)
  unfold spec_l1Int.f
  rw [e]
  simp only [Option.bind_some]
  rw [if_pos q0, if_pos q2]
  refine ⟨_, _, _, rfl, ?_, c'⟩
  unfold rd
  have hq : q.toNat < L.length := by omega
  rw [List.getD_eq_getElem?_getD, List.getElem?_eq_getElem hq]
  exact List.getElem_mem hq
theorem str_ok {l : List Int} {i : Int} (h : Int) (c : Cur l i) (L : List ByteArray) (hL : 0 < L.length) : ∃ x i' h', spec_l1Str.f l i h L = some (x, i', h') ∧ x ∈ L ∧ Cur l i' := by
  obtain ⟨q, i', h', e, q0, q1, c'⟩ := below_ok h c (L.length : Int)
  have hlen : (L.length : Int) ≤ L.length := by omega
  have q2 := q1 (by omega)
  unfold spec_l1Str.f
  rw [e]
  simp only [Option.bind_some]
  rw [if_pos q0, if_pos q2]
  refine ⟨_, _, _, rfl, ?_, c'⟩
  unfold rdOf
  have hq : q.toNat < L.length := by omega
  rw [List.getD_eq_getElem?_getD, List.getElem?_eq_getElem hq]
  exact List.getElem_mem hq
theorem str_small {l : List Int} {i : Int} (h : Int) (c : Cur l i) (L : List ByteArray) (hL : 0 < L.length) (n : Nat) (hs : (L.all fun x => decide (x.size ≤ n)) = true) : ∃ x i' h', spec_l1Str.f l i h L = some (x, i', h') ∧ x.size ≤ n ∧ Cur l i' := by
  obtain ⟨x, i', h', e, hx, c'⟩ := str_ok h c L hL
  exact ⟨x, i', h', e, of_decide_eq_true (List.all_eq_true.1 hs x hx), c'⟩
theorem bent_ok {l : List Int} {i : Int} (h : Int) (c : Cur l i) (s : ByteArray) (hs : s.size ≤ 900000) : ∃ x i' h', spec_l1Bent.f l i h s = some (x, i', h') ∧ x.size ≤ s.size + 1 ∧ Cur l i' := by
  have hl := bytesOf_length s
  obtain ⟨q, i1, h1, e1, q0, q1, c1⟩ := below_ok h c 7
  unfold spec_l1Bent.f
  rw [if_pos (by omega), e1]
  simp only [Option.bind_some]
  by_cases g0 : q = 0
  · rw [if_pos g0]
    by_cases z : 0 < s.size
    · obtain ⟨x, i2, h2, e2, x0, x1, c2⟩ := below_ok h1 c1 (s.size : Int)
      obtain ⟨y, i3, h3, e3, y0, y1, c3⟩ := below_ok h2 c2 256
      have x2 := x1 (by omega)
      rw [if_pos z, e2]
      simp only [Option.bind_some]
      rw [e3]
      simp only [Option.bind_some]
      rw [if_pos ⟨x0, x2⟩]
      exact ⟨_, _, _, rfl, by rw [strOfNums_size, List.length_set]; omega, c3⟩
    · rw [if_neg z]
      exact ⟨_, _, _, rfl, by omega, c1⟩
  · rw [if_neg g0]
    by_cases g1 : q = 1
    · obtain ⟨x, i2, h2, e2, x0, x1, c2⟩ := below_ok h1 c1 ((s.size : Int) + 1)
      have x2 := x1 (by omega)
      rw [if_pos g1, e2]
      simp only [Option.bind_some]
      rw [if_pos ⟨x0, by omega⟩]
      exact ⟨_, _, _, rfl, by rw [strOfNums_size, List.length_take]; omega, c2⟩
    · rw [if_neg g1]
      by_cases g2 : q = 2
      · obtain ⟨x, i2, h2, e2, _, c2⟩ := int_ok h1 c1 ([0, 32, 44, 34, 255] : List Int) (by decide)
        rw [if_pos g2, e2]
        exact ⟨_, _, _, rfl, by rw [strOfNums_size, List.length_append, hl]; exact Nat.le_refl _, c2⟩
      · rw [if_neg g2]
        by_cases g3 : q = 3
        · rw [if_pos g3]
          by_cases z : 0 < s.size
          · obtain ⟨x, i2, h2, e2, x0, x1, c2⟩ := below_ok h1 c1 (s.size : Int)
            have x2 := x1 (by omega)
            rw [if_pos z, e2]
            simp only [Option.bind_some]
            rw [if_pos ⟨x0, x2⟩]
            exact ⟨_, _, _, rfl, by rw [strOfNums_size, List.length_append, List.length_take, List.length_drop]; omega, c2⟩
          · rw [if_neg z]
            exact ⟨_, _, _, rfl, by omega, c1⟩
        · rw [if_neg g3]
          exact ⟨_, _, _, rfl, by omega, c1⟩
theorem text6_loop (l : List Int) (d : Nat) : ∀ (x : ByteArray) (i h : Int), Cur l i → x.size + 40 * d ≤ 300 → ∃ t i' h', Ev (fun k => spec_l6Text.l0 k x (d : Int) l i h) (t, i', h') ∧ t.size ≤ 300 ∧ Cur l i' := by
  induction d with
  | zero =>
    intro x i h c hx
    refine ⟨x, i, h, Ev.step (f := fun _ => some (x, i, h)) (fun k => ?_) (Ev.now _), by omega, c⟩
    simp only [spec_l6Text.l0]
    rw [if_neg (by omega)]
  | succ d ih =>
    intro x i h c hx
    obtain ⟨a, i1, h1, e1, a1, c1⟩ := str_small h c ([(⟨#[109, 97, 120, 45, 97, 103, 101, 61, 54, 48]⟩ : ByteArray), (⟨#[77, 97, 120, 45, 65, 103, 101, 61, 49, 48]⟩ : ByteArray), (⟨#[115, 45, 109, 97, 120, 97, 103, 101, 61, 53]⟩ : ByteArray), (⟨#[110, 111, 45, 99, 97, 99, 104, 101]⟩ : ByteArray), (⟨#[110, 111, 45, 115, 116, 111, 114, 101]⟩ : ByteArray), (⟨#[112, 114, 105, 118, 97, 116, 101]⟩ : ByteArray), (⟨#[112, 117, 98, 108, 105, 99]⟩ : ByteArray), (⟨#[112, 114, 105, 118, 97, 116, 101, 61, 34, 97, 44, 32, 98, 34]⟩ : ByteArray), (⟨#[109, 97, 120, 45, 115, 116, 97, 108, 101]⟩ : ByteArray), (⟨#[109, 97, 120, 45, 115, 116, 97, 108, 101, 61, 55]⟩ : ByteArray), (⟨#[109, 105, 110, 45, 102, 114, 101, 115, 104, 61, 51]⟩ : ByteArray), (⟨#[109, 117, 115, 116, 45, 114, 101, 118, 97, 108, 105, 100, 97, 116, 101]⟩ : ByteArray), (⟨#[115, 116, 97, 108, 101, 45, 119, 104, 105, 108, 101, 45, 114, 101, 118, 97, 108, 105, 100, 97, 116, 101, 61, 57]⟩ : ByteArray), (⟨#[115, 116, 97, 108, 101, 45, 105, 102, 45, 101, 114, 114, 111, 114, 61, 50, 48]⟩ : ByteArray), (⟨#[111, 110, 108, 121, 45, 105, 102, 45, 99, 97, 99, 104, 101, 100]⟩ : ByteArray), (⟨#[109, 97, 120, 45, 97, 103, 101, 61, 57, 57, 57, 57, 57, 57, 57, 57, 57, 57, 57]⟩ : ByteArray), (⟨#[109, 97, 120, 45, 97, 103, 101, 61, 120]⟩ : ByteArray), (⟨#[109, 97, 120, 45, 97, 103, 101, 61, 34, 55, 34]⟩ : ByteArray), (⟨#[109, 97, 120, 45, 97, 103, 101, 61]⟩ : ByteArray), (⟨#[61, 51]⟩ : ByteArray), (⟨#[97, 32, 98]⟩ : ByteArray), (⟨#[120, 61, 34, 111, 112, 101, 110]⟩ : ByteArray)] : List ByteArray) (by decide) 30 (by decide +kernel)
    obtain ⟨b, i2, h2, e2, b2, c2⟩ := str_small h1 c1 ([(⟨#[44]⟩ : ByteArray), (⟨#[44, 32]⟩ : ByteArray), (⟨#[44, 32, 44, 32]⟩ : ByteArray)] : List ByteArray) (by decide) 4 (by decide +kernel)
    have z1 : (x ++ a).size = x.size + a.size := ByteArray.size_append
    have z2 : ((x ++ a) ++ b).size = x.size + a.size + b.size := by rw [ByteArray.size_append, z1]
    obtain ⟨r, i', h', hr, hs, c'⟩ := ih ((x ++ a) ++ b) i2 h2 c2 (by omega)
    refine ⟨r, i', h', Ev.step (fun k => ?_) hr, hs, c'⟩
    simp only [spec_l6Text.l0]
    rw [if_pos (by omega), e1, Option.bind_some]
    simp only
    rw [if_pos (by omega), e2, Option.bind_some]
    simp only
    rw [if_pos (by omega), wrap_id (n := ((d + 1 : Nat) : Int) - 1) (by omega) (by omega), show ((d + 1 : Nat) : Int) - 1 = (d : Int) by omega]
theorem drawPD_ev (l : List Int) (hl : l.length ≤ 1048576) : ∃ T, Ev (fun k => spec_DrawParseDirectives.f k l) T ∧ T.size ≤ 301 := by
  obtain ⟨h, hn, c⟩ := new_ev l hl
  obtain ⟨n, i3, h3, e3, n0, n1, c3⟩ := below_ok h c 5
  have n2 := n1 (by omega)
  obtain ⟨t, i4, h4, ht, zt, c4⟩ := text6_loop l n.toNat ⟨#[]⟩ i3 h3 c3 (by have : (⟨#[]⟩ : ByteArray).size = 0 := rfl; omega)
  rw [show (n.toNat : Int) = n by omega] at ht
  obtain ⟨T, i5, h5, e5, zT, c5⟩ := bent_ok h4 c4 t (by omega)
  refine ⟨T, ?_, by omega⟩
  unfold spec_DrawParseDirectives.f
  refine Ev.bind hn ?_
  have D : Ev (fun k => spec_l6Text.f k l 0 h) (t, i4, h4) := by
    unfold spec_l6Text.f
    rw [e3]
    exact ht
  refine Ev.bind D ?_
  simp only [e5, Option.bind_some]
  exact Ev.now _
def cutI (sep : List Int) : List Int → List Int × List Int × Bool
  | [] => ([], [], false)
  | b :: r => if sep.isPrefixOf (b :: r) = true then ([], (b :: r).drop sep.length, true) else (b :: (cutI sep r).1, (cutI sep r).2)
def cutV (sep : List Int) (s : ByteArray) : ByteArray × ByteArray × Bool := (strOfNums (cutI sep (bytesOf s)).1, strOfNums (cutI sep (bytesOf s)).2.1, (cutI sep (bytesOf s)).2.2)
theorem prefix_map (u l : List UInt8) : (u.map fun b => (b.toNat : Int)).isPrefixOf (l.map fun b => (b.toNat : Int)) = u.isPrefixOf l := by
  induction u generalizing l with
  | nil => simp
  | cons a u ih =>
    cases l with
    | nil => rfl
    | cons b l =>
      simp only [List.map_cons, List.isPrefixOf, ih]
      congr 1
      by_cases h : a = b
      · subst h; simp
      · have : ¬ (a.toNat : Int) = (b.toNat : Int) := fun z => h (UInt8.toNat_inj.1 (by omega))
        rw [beq_eq_false_iff_ne.mpr h, beq_eq_false_iff_ne.mpr this]
theorem libcut_cons_hit {b : UInt8} {l sep : List UInt8} (h : sep.isPrefixOf (b :: l) = true) : Lib.cut (b :: l) sep = ([], (b :: l).drop sep.length, true) := by
  have e : Lib.index (b :: l) sep = 0 := by unfold Lib.index; rw [if_pos h]
  unfold Lib.cut
  rw [e]; simp
theorem libcut_cons_miss {b : UInt8} {l sep : List UInt8} (h : ¬ sep.isPrefixOf (b :: l) = true) : Lib.cut (b :: l) sep = (b :: (Lib.cut l sep).1, (Lib.cut l sep).2) := by
  have e : Lib.index (b :: l) sep = if (Lib.index l sep == -1) = true then -1 else Lib.index l sep + 1 := by rw [Lib.index, if_neg h]
  have hg := Lib.index_ge l sep
  unfold Lib.cut
  by_cases g : Lib.index l sep = -1
  · rw [e, g]; simp
  · have g2 : 0 ≤ Lib.index l sep := by omega
    have e0 : Lib.index (b :: l) sep = Lib.index l sep + 1 := by rw [e, if_neg (by simpa using g)]
    rw [e0, if_pos (by omega), if_pos g2]
    obtain ⟨n, hn⟩ : ∃ n : Nat, Lib.index l sep = n := ⟨(Lib.index l sep).toNat, by omega⟩
    rw [hn]
    have e1 : ((n : Int) + 1).toNat = n + 1 := by omega
    have e2 : (n : Int).toNat = n := by omega
    rw [e1, e2, List.take_succ_cons]
    have e3 : n + 1 + sep.length = (n + sep.length) + 1 := by omega
    rw [e3, List.drop_succ_cons]
theorem libcut_map (l sep : List UInt8) (hs : sep ≠ []) :
    ((Lib.cut l sep).1.map fun b => (b.toNat : Int)) = (cutI (sep.map fun b => (b.toNat : Int)) (l.map fun b => (b.toNat : Int))).1 ∧ ((Lib.cut l sep).2.1.map fun b => (b.toNat : Int)) = (cutI (sep.map fun b => (b.toNat : Int)) (l.map fun b => (b.toNat : Int))).2.1 ∧
    (Lib.cut l sep).2.2 = (cutI (sep.map fun b => (b.toNat : Int)) (l.map fun b => (b.toNat : Int))).2.2 := by
  induction l with
  | nil =>
    have e : Lib.cut [] sep = ([], [], false) := by
      unfold Lib.cut Lib.index
      cases sep with
      | nil => exact absurd rfl hs
      | cons a s => simp
    rw [e]; exact ⟨rfl, rfl, rfl⟩
  | cons b r ih =>
    have hp := prefix_map sep (b :: r)
    rw [List.map_cons] at hp ⊢
    by_cases h : sep.isPrefixOf (b :: r) = true
    · rw [libcut_cons_hit h]
      unfold cutI
      rw [if_pos (by rw [hp]; exact h)]
      refine ⟨rfl, ?_, rfl⟩
      simp only
      rw [List.map_drop, List.map_cons, List.length_map]
    · rw [libcut_cons_miss h]
      unfold cutI
      rw [if_neg (by rw [hp]; exact h)]
      refine ⟨?_, ih.2.1, ih.2.2⟩
      simp only [List.map_cons]
      rw [ih.1]
theorem cut_none (sep l : List Int) : (cutI sep l).2.2 = false → cutI sep l = (l, [], false) := by
  induction l with
  | nil => intro _; rfl
  | cons b r ih =>
    unfold cutI
    split
    · intro h; simp at h
    · intro h
      simp only at h
      rw [ih h]
def rdropI (p : Int → Bool) : List Int → List Int
  | [] => []
  | b :: r => if rdropI p r = [] ∧ p b = true then [] else b :: rdropI p r
def trimP (p : Int → Bool) (l : List Int) : List Int := (rdropI p l).dropWhile p
def blankI (b : Int) : Bool := b == 32 || b == 9
theorem rdropI_concat (p : Int → Bool) (l : List Int) (b : Int) : rdropI p (l ++ [b]) = if p b = true then rdropI p l else l ++ [b] := by
  induction l with
  | nil => by_cases h : p b = true <;> simp [rdropI, h]
  | cons x r ih =>
    by_cases h : p b = true
    · rw [if_pos h] at ih ⊢
      simp only [List.cons_append, rdropI, ih]
    · rw [if_neg h] at ih ⊢
      simp only [List.cons_append, rdropI, ih]
      rw [if_neg (by simp)]
theorem rdropI_eq (p : Int → Bool) (l : List Int) : (l.reverse.dropWhile p).reverse = rdropI p l := by
  obtain ⟨n, hn⟩ : ∃ n, l.length = n := ⟨_, rfl⟩
  induction n generalizing l with
  | zero => obtain rfl := List.eq_nil_of_length_eq_zero hn; rfl
  | succ n ih =>
    rcases List.eq_nil_or_concat l with h | ⟨r, b, h⟩
    · subst h; rfl
    · subst h
      rw [List.concat_eq_append, rdropI_concat, List.reverse_append]
      simp only [List.reverse_cons, List.reverse_nil, List.nil_append, List.singleton_append, List.dropWhile_cons]
      by_cases hb : p b = true
      · rw [if_pos hb, if_pos hb]
        exact ih r (by simp at hn; omega)
      · rw [if_neg hb, if_neg hb]; simp
theorem rdropI_length (p : Int → Bool) (l : List Int) : (rdropI p l).length ≤ l.length := by
  induction l with
  | nil => simp [rdropI]
  | cons b r ih => unfold rdropI; split <;> simp only [List.length_nil, List.length_cons] <;> omega
/-- It is all one which end goes first. -/
theorem drop_rdrop (p : Int → Bool) (l : List Int) : (rdropI p l).dropWhile p = rdropI p (l.dropWhile p) := by
  induction l with
  | nil => rfl
  | cons b r ih =>
    by_cases h : p b = true
    · rw [List.dropWhile_cons_of_pos h]
      by_cases g : rdropI p r = []
      · have e : rdropI p (b :: r) = [] := by unfold rdropI; rw [if_pos ⟨g, h⟩]
        rw [e, ← ih, g]
      · have e : rdropI p (b :: r) = b :: rdropI p r := by rw [rdropI, if_neg (fun z => g z.1)]
        rw [e, List.dropWhile_cons_of_pos h, ih]
    · have e : rdropI p (b :: r) = b :: rdropI p r := by rw [rdropI, if_neg (fun z => h z.2)]
      rw [e, List.dropWhile_cons_of_neg h, List.dropWhile_cons_of_neg h, e]
theorem trimP_length (p : Int → Bool) (l : List Int) : (trimP p l).length ≤ l.length :=
  Nat.le_trans (List.dropWhile_sublist p).length_le (rdropI_length p l)
theorem dropWhile_mem {p : Int → Bool} {l : List Int} {x : Int} (h : x ∈ l.dropWhile p) : x ∈ l := (List.dropWhile_sublist p).subset h
theorem rdropI_mem {p : Int → Bool} {l : List Int} {x : Int} (h : x ∈ rdropI p l) : x ∈ l := by
  rw [← rdropI_eq] at h
  have := dropWhile_mem (List.mem_reverse.1 h)
  exact List.mem_reverse.1 this
theorem trimP_mem {p : Int → Bool} {l : List Int} {x : Int} (h : x ∈ trimP p l) : x ∈ l := rdropI_mem (dropWhile_mem h)
theorem InB_trim {p : Int → Bool} {l : List Int} (h : InB l) : InB (trimP p l) := fun x hx => h x (trimP_mem hx)
def trimV (s : ByteArray) : ByteArray := strOfNums (trimP blankI (bytesOf s))
theorem bytesOf_trimV (s : ByteArray) : bytesOf (trimV s) = trimP blankI (bytesOf s) := bytesOf_strOf (InB_trim (InB_bytes s))
def pairV (s : ByteArray) : ByteArray × ByteArray × Bool := (trimV (cutV [61] s).1, trimV (cutV [61] s).2.1, (cutV [61] s).2.2)
def lowerV (s : ByteArray) : ByteArray := strOfNums ((bytesOf s).map lowB)
def tokB (x : Int) : Bool := decide (97 ≤ x ∧ x ≤ 122) || decide (65 ≤ x ∧ x ≤ 90) || decide (48 ≤ x ∧ x ≤ 57) || ([33, 35, 36, 37, 38, 39, 42, 43, 45, 46, 94, 95, 124, 126, 96] : List Int).contains x
def tokV (s : ByteArray) : Bool := (bytesOf s).all tokB && decide (1 ≤ (s.size : Int) ∧ (s.size : Int) ≤ 40)
theorem fin256 {p : Int → Prop} (h : ∀ n : Fin 256, p (n.val : Int)) {b : Int} (h0 : 0 ≤ b) (h1 : b ≤ 255) : p b := by
  have := h ⟨b.toNat, by omega⟩
  rwa [show ((b.toNat : Nat) : Int) = b by omega] at this
/-- What stands behind the first sign of a quoted text: the bytes, and how many signs are left from the closing quote on; none if it does not close. -/
def unqL (l : List Int) : List Int × Option Nat :=
  match l with
  | [] => ([], none)
  | b :: r =>
    if b = 34 then ([], some (r.length + 1))
    else if b = 92 then
      match r with
      | [] => ([b], none)
      | c :: r' => (c :: (unqL r').1, (unqL r').2)
    else (b :: (unqL r).1, (unqL r).2)
termination_by l.length
decreasing_by all_goals simp only [List.length_cons]; omega
theorem unqL_nil : unqL [] = ([], none) := by unfold unqL; rfl
theorem unqL_quote (r : List Int) : unqL (34 :: r) = ([], some (r.length + 1)) := by rw [unqL.eq_def]; simp
theorem unqL_esc (c : Int) (r : List Int) : unqL (92 :: c :: r) = (c :: (unqL r).1, (unqL r).2) := by rw [unqL.eq_def]; simp
theorem unqL_last : unqL [92] = ([92], none) := by rw [unqL.eq_def]; simp
theorem unqL_other (r : List Int) (b : Int) (h1 : b ≠ 34) (h2 : b ≠ 92) : unqL (b :: r) = (b :: (unqL r).1, (unqL r).2) := by rw [unqL.eq_def]; simp only [if_neg h1, if_neg h2]
def unqV (s : ByteArray) : ByteArray × Bool :=
  (strOfNums (unqL (bytesOf s).tail).1, decide ((bytesOf s).head? = some 34 ∧ (unqL (bytesOf s).tail).2 = some 1))
def unqR (f : Int) (acc rest : List Int) : ByteArray × Bool := (strOfNums (acc ++ (unqL rest).1), decide (f = 34 ∧ (unqL rest).2 = some 1))
theorem unqR_nil (f : Int) (acc : List Int) : unqR f acc [] = (strOfNums acc, false) := by simp [unqR, unqL_nil]
theorem unqR_quote (f : Int) (acc r : List Int) : unqR f acc (34 :: r) = (strOfNums acc, decide (f = 34 ∧ r.length = 0)) := by simp [unqR, unqL_quote]
theorem unqR_esc (f : Int) (acc : List Int) (c : Int) (r : List Int) : unqR f acc (92 :: c :: r) = unqR f (acc ++ [c]) r := by simp [unqR, unqL_esc]
theorem unqR_last (f : Int) (acc : List Int) : unqR f acc [92] = (strOfNums (acc ++ [92]), false) := by simp [unqR, unqL_last]
theorem unqR_other (f : Int) (acc r : List Int) (b : Int) (h1 : b ≠ 34) (h2 : b ≠ 92) : unqR f acc (b :: r) = unqR f (acc ++ [b]) r := by simp [unqR, unqL_other r b h1 h2]
/-! ### A text divided at commas outside quoted strings -/
def cutL (q : Bool) (cur l : List Int) : List (List Int) :=
  match l with
  | [] => [cur]
  | b :: r =>
    if q = true ∧ b = 92 then (match r with
      | [] => [cur ++ [b]]
      | c :: r' => cutL q (cur ++ [b, c]) r')
    else if b = 34 then cutL (!q) (cur ++ [b]) r
    else if q = false ∧ b = 44 then cur :: cutL false [] r
    else cutL q (cur ++ [b]) r
termination_by l.length
decreasing_by all_goals simp only [List.length_cons]; omega
theorem cutL_nil (q : Bool) (cur : List Int) : cutL q cur [] = [cur] := by unfold cutL; rfl
theorem cutL_last (cur : List Int) : cutL true cur [92] = [cur ++ [92]] := by unfold cutL; simp
theorem cutL_esc (cur : List Int) (c : Int) (r : List Int) : cutL true cur (92 :: c :: r) = cutL true (cur ++ [92, c]) r := by rw [cutL.eq_def]; simp
theorem cutL_quote (q : Bool) (cur r : List Int) : cutL q cur (34 :: r) = cutL (!q) (cur ++ [34]) r := by rw [cutL.eq_def]; simp
theorem cutL_comma (cur r : List Int) : cutL false cur (44 :: r) = cur :: cutL false [] r := by rw [cutL.eq_def]; simp
theorem cutL_other (q : Bool) (cur r : List Int) (b : Int) (h1 : ¬ (q = true ∧ b = 92)) (h2 : b ≠ 34) (h3 : ¬ (q = false ∧ b = 44)) : cutL q cur (b :: r) = cutL q (cur ++ [b]) r := by
  rw [cutL.eq_def]
  simp only
  rw [if_neg h1, if_neg h2, if_neg h3]
/-- One way through a text at a time: what the five cases of cutL are good for. -/
theorem cut_cases {p : Bool → List Int → Prop} (hnil : ∀ q, p q []) (hlast : p true [92]) (hesc : ∀ c r, p true r → p true (92 :: c :: r)) (hquote : ∀ q r, p (!q) r → p q (34 :: r)) (hcomma : ∀ r, p false r → p false (44 :: r))
    (hother : ∀ q b r, ¬ (q = true ∧ b = 92) → b ≠ 34 → ¬ (q = false ∧ b = 44) → p q r → p q (b :: r)) : ∀ (n : Nat) (q : Bool) (l : List Int), l.length ≤ n → p q l := by
  intro n
  induction n with
  | zero => intro q l h; obtain rfl : l = [] := List.eq_nil_of_length_eq_zero (by omega); exact hnil q
  | succ n ih =>
    intro q l h
    match l, h with
    | [], _ => exact hnil q
    | b :: r, h =>
      simp only [List.length_cons] at h
      by_cases h1 : q = true ∧ b = 92
      · obtain ⟨rfl, rfl⟩ := h1
        match r, h with
        | [], _ => exact hlast
        | c :: r', h => exact hesc c r' (ih true r' (by simp only [List.length_cons] at h; omega))
      · by_cases h2 : b = 34
        · subst h2; exact hquote q r (ih _ r (by omega))
        · by_cases h3 : q = false ∧ b = 44
          · obtain ⟨rfl, rfl⟩ := h3; exact hcomma r (ih _ r (by omega))
          · exact hother q b r h1 h2 h3 (ih q r (by omega))
theorem cut_ind {p : Bool → List Int → Prop} (hnil : ∀ q, p q []) (hlast : p true [92]) (hesc : ∀ c r, p true r → p true (92 :: c :: r)) (hquote : ∀ q r, p (!q) r → p q (34 :: r)) (hcomma : ∀ r, p false r → p false (44 :: r))
    (hother : ∀ q b r, ¬ (q = true ∧ b = 92) → b ≠ 34 → ¬ (q = false ∧ b = 44) → p q r → p q (b :: r)) (q : Bool) (l : List Int) : p q l := cut_cases hnil hlast hesc hquote hcomma hother l.length q l (Nat.le_refl _)
def splitL (l : List Int) : List (List Int) := ((cutL false [] l).map (trimP blankI)).filter (fun x => decide (x ≠ []))
def splitV (s : ByteArray) : List ByteArray := (splitL (bytesOf s)).map strOfNums
theorem cutL_mem (q : Bool) (l : List Int) : ∀ (cur : List Int) (S : Int → Prop), (∀ x ∈ cur, S x) → (∀ x ∈ l, S x) → ∀ m ∈ cutL q cur l, ∀ x ∈ m, S x := by
  refine cut_ind (p := fun q l => ∀ (cur : List Int) (S : Int → Prop), (∀ x ∈ cur, S x) → (∀ x ∈ l, S x) → ∀ m ∈ cutL q cur l, ∀ x ∈ m, S x) ?_ ?_ ?_ ?_ ?_ ?_ q l
  · intro q cur S h0 h1 m hm; rw [cutL_nil] at hm; simp at hm; subst hm; exact h0
  · intro cur S h0 h1 m hm; rw [cutL_last] at hm; simp at hm; subst hm
    intro x hx; rcases List.mem_append.1 hx with g | g
    · exact h0 x g
    · exact h1 x g
  · intro c r ih cur S h0 h1 m hm
    rw [cutL_esc] at hm
    exact ih _ S (by intro x hx; rcases List.mem_append.1 hx with g | g
                     · exact h0 x g
                     · refine h1 x ?_; simp at g ⊢; rcases g with g | g <;> simp [g]) (fun x hx => h1 x (by simp [hx])) m hm
  · intro q r ih cur S h0 h1 m hm
    rw [cutL_quote] at hm
    exact ih _ S (by intro x hx; rcases List.mem_append.1 hx with g | g
                     · exact h0 x g
                     · exact h1 x (by simp at g; simp [g])) (fun x hx => h1 x (by simp [hx])) m hm
  · intro r ih cur S h0 h1 m hm
    rw [cutL_comma] at hm
    rcases List.mem_cons.1 hm with g | g
    · subst g; exact h0
    · exact ih [] S (by simp) (fun x hx => h1 x (by simp [hx])) m g
  · intro q b r g1 g2 g3 ih cur S h0 h1 m hm
    rw [cutL_other q cur r b g1 g2 g3] at hm
    exact ih _ S (by intro x hx; rcases List.mem_append.1 hx with g | g
                     · exact h0 x g
                     · exact h1 x (by simp at g; simp [g])) (fun x hx => h1 x (by simp [hx])) m hm
theorem cutL_total (q : Bool) (l : List Int) : ∀ cur : List Int, (cutL q cur l).length + ((cutL q cur l).map List.length).sum ≤ cur.length + l.length + 1 := by
  refine cut_ind (p := fun q l => ∀ cur : List Int, (cutL q cur l).length + ((cutL q cur l).map List.length).sum ≤ cur.length + l.length + 1) ?_ ?_ ?_ ?_ ?_ ?_ q l
  · intro q cur; rw [cutL_nil]; simp; omega
  · intro cur; rw [cutL_last]; simp; omega
  · intro c r ih cur; rw [cutL_esc]; have := ih (cur ++ [92, c]); simp only [List.length_append, List.length_cons, List.length_nil] at this ⊢; omega
  · intro q r ih cur; rw [cutL_quote]; have := ih (cur ++ [34]); simp only [List.length_append, List.length_cons, List.length_nil] at this ⊢; omega
  · intro r ih cur; rw [cutL_comma]; have := ih []; simp only [List.length_cons, List.length_nil, List.map_cons, List.sum_cons] at this ⊢; omega
  · intro q b r g1 g2 g3 ih cur; rw [cutL_other q cur r b g1 g2 g3]; have := ih (cur ++ [b]); simp only [List.length_append, List.length_cons, List.length_nil] at this ⊢; omega
theorem cutL_prepend (q : Bool) (l : List Int) : ∀ c1 c2 : List Int, ∃ h t, cutL q c2 l = h :: t ∧ cutL q (c1 ++ c2) l = (c1 ++ h) :: t := by
  refine cut_ind (p := fun q l => ∀ c1 c2 : List Int, ∃ h t, cutL q c2 l = h :: t ∧ cutL q (c1 ++ c2) l = (c1 ++ h) :: t) ?_ ?_ ?_ ?_ ?_ ?_ q l
  · intro q c1 c2; exact ⟨c2, [], by rw [cutL_nil], by rw [cutL_nil]⟩
  · intro c1 c2; exact ⟨c2 ++ [92], [], by rw [cutL_last], by rw [cutL_last]; simp⟩
  · intro c r ih c1 c2; rw [cutL_esc, cutL_esc, List.append_assoc]; exact ih c1 _
  · intro q r ih c1 c2; rw [cutL_quote, cutL_quote, List.append_assoc]; exact ih c1 _
  · intro r ih c1 c2; rw [cutL_comma, cutL_comma]; exact ⟨c2, _, rfl, rfl⟩
  · intro q b r g1 g2 g3 ih c1 c2; rw [cutL_other q _ r b g1 g2 g3, cutL_other q _ r b g1 g2 g3, List.append_assoc]; exact ih c1 _
theorem splitL_total (l : List Int) : (splitL l).length + ((splitL l).map List.length).sum ≤ l.length + 1 := by
  have h := cutL_total false l []
  unfold splitL
  have aux : ∀ L : List (List Int), ((L.map (trimP blankI)).filter (fun x => decide (x ≠ []))).length + (((L.map (trimP blankI)).filter (fun x => decide (x ≠ []))).map List.length).sum ≤ L.length + (L.map List.length).sum := by
    intro L
    induction L with
    | nil => simp
    | cons x r ih =>
      have := trimP_length blankI x
      simp only [List.map_cons, List.sum_cons, List.length_cons]
      by_cases g : trimP blankI x = []
      · rw [List.filter_cons_of_neg (by simp [g])]; omega
      · rw [List.filter_cons_of_pos (by simp [g])]; simp only [List.length_cons, List.map_cons, List.sum_cons]; omega
  have := aux (cutL false [] l)
  simp only [List.length_nil] at h
  omega
theorem ext_mid {s : ByteArray} {pre cur rest : List Int} (h : bytesOf s = pre ++ cur ++ rest) : s.extract pre.length (pre.length + cur.length) = strOfNums cur := by
  apply bytesOf_inj
  have hb : InB cur := by have := InB_bytes s; rw [h, InB_append, InB_append] at this; exact this.1.2
  rw [bytesOf_strOf hb, bytesOf_extract, h]
  rw [show pre.length + cur.length = (pre ++ cur).length by simp, List.take_left, List.drop_left]
theorem ext_end {s : ByteArray} {pre cur : List Int} (h : bytesOf s = pre ++ cur) : s.extract pre.length s.size = strOfNums cur := by
  have e := ext_mid (s := s) (pre := pre) (cur := cur) (rest := []) (by simpa using h)
  have : s.size = pre.length + cur.length := by rw [← bytesOf_length, h, List.length_append]
  rw [this]; exact e
/-- The parts, trimmed, without the empty ones. -/
def partsV (m : List (List Int)) : List ByteArray := ((m.map (trimP blankI)).filter (fun x => decide (x ≠ []))).map strOfNums
theorem splitV_parts (s : ByteArray) : splitV s = partsV (cutL false [] (bytesOf s)) := rfl
theorem rdS_mid2 {l pre rest : List ByteArray} {x : ByteArray} (h : l = pre ++ x :: rest) : rdOf ByteArray.empty l (pre.length : Int) = x := getD_mid h
theorem partsV_nil : partsV [] = [] := rfl
theorem partsV_cons (x : List Int) (m : List (List Int)) : partsV (x :: m) = (if trimP blankI x = [] then [] else [strOfNums (trimP blankI x)]) ++ partsV m := by
  unfold partsV
  by_cases h : trimP blankI x = []
  · simp [h]
  · simp [h]
theorem partsV_append (a b : List (List Int)) : partsV (a ++ b) = partsV a ++ partsV b := by unfold partsV; simp
theorem partsV_len (m : List (List Int)) : (partsV m).length ≤ m.length := by
  unfold partsV
  rw [List.length_map]
  exact Nat.le_trans (List.length_filter_le _ _) (by simp)
theorem trimV_of {x : List Int} (h : InB x) : trimV (strOfNums x) = strOfNums (trimP blankI x) := by unfold trimV; rw [bytesOf_strOf h]
theorem strOf_nil {x : List Int} : (strOfNums x).toList = ([] : List UInt8) ↔ x = [] := by
  have e : ([] : List UInt8) = (⟨#[]⟩ : ByteArray).toList := by rw [ByteArray.toList_eq]
  rw [e, toList_iff]
  constructor
  · intro h
    have : (strOfNums x).size = 0 := by rw [h]; rfl
    rw [strOfNums_size] at this
    exact List.eq_nil_of_length_eq_zero this
  · rintro rfl; rfl
theorem mem_len_le {L : List (List Int)} {m : List Int} (h : m ∈ L) : m.length ≤ (L.map List.length).sum := by
  induction L with
  | nil => simp at h
  | cons x r ih =>
    simp only [List.map_cons, List.sum_cons]
    rcases List.mem_cons.1 h with g | g
    · subst g; omega
    · have := ih g; omega
theorem split_sizes (s : ByteArray) : ∀ t ∈ splitV s, t.size ≤ s.size + 1 := by
  intro t ht
  unfold splitV at ht
  obtain ⟨m, hm, rfl⟩ := List.mem_map.1 ht
  have h1 := splitL_total (bytesOf s)
  have h2 := mem_len_le hm
  rw [bytesOf_length] at h1
  rw [strOfNums_size]; omega
theorem split_count (s : ByteArray) : (splitV s).length ≤ s.size + 1 := by
  have := splitL_total (bytesOf s)
  rw [bytesOf_length] at this
  unfold splitV
  rw [List.length_map]; omega
theorem tok_low_fin : ∀ n : Fin 256, tokB (lowB (n.val : Int)) = tokB (n.val : Int) := by decide +kernel
theorem InB_lower (s : ByteArray) : InB ((bytesOf s).map lowB) := by
  intro x hx
  obtain ⟨b, hb, rfl⟩ := List.mem_map.1 hx
  have := InB_bytes s b hb
  unfold lowB
  split <;> omega
theorem bytesOf_lower (s : ByteArray) : bytesOf (lowerV s) = (bytesOf s).map lowB := by unfold lowerV; exact bytesOf_strOf (InB_lower s)
theorem lower_size (s : ByteArray) : (lowerV s).size = s.size := by rw [← bytesOf_length, bytesOf_lower, List.length_map, bytesOf_length]
theorem tok_lower (s : ByteArray) : tokV (lowerV s) = tokV s := by
  unfold tokV
  rw [lower_size, bytesOf_lower, List.all_map]
  congr 1
  have h := InB_bytes s
  generalize bytesOf s = l at h
  induction l with
  | nil => rfl
  | cons b r ih =>
    rw [InB_cons] at h
    simp only [List.all_cons, Function.comp_apply, ih h.2]
    congr 1
    exact fin256 (p := fun b => tokB (lowB b) = tokB b) tok_low_fin h.1.1 h.1.2
def isQuo (v : ByteArray) : Bool := decide ((bytesOf v).head? = some 34)
/-- What a part of a list says: a directive, or none. -/
def dirOf (p : ByteArray) : List S53 :=
  if (pairV p).2.2 = true ∧ isQuo (pairV p).2.1 = true then
    (if (unqV (pairV p).2.1).2 = true ∧ tokV (pairV p).1 = true then [⟨lowerV (pairV p).1, (unqV (pairV p).2.1).1, (pairV p).2.2⟩] else [])
  else if ((pairV p).2.2 = true → tokV (pairV p).2.1 = true) ∧ tokV (pairV p).1 = true then [⟨lowerV (pairV p).1, (pairV p).2.1, (pairV p).2.2⟩] else []
def pdV (s : ByteArray) : List S53 := (splitV s).flatMap dirOf
theorem dirOf_len (p : ByteArray) : (dirOf p).length ≤ 1 := by
  unfold dirOf
  repeat' split
  all_goals simp
theorem pd_len (l : List ByteArray) : (l.flatMap dirOf).length ≤ l.length := by
  induction l with
  | nil => simp
  | cons x r ih => have := dirOf_len x; simp only [List.flatMap_cons, List.length_append, List.length_cons]; omega
theorem trimV_size0 (s : ByteArray) : (trimV s).size ≤ s.size := by
  have := trimP_length blankI (bytesOf s)
  rw [bytesOf_length] at this
  unfold trimV
  rw [strOfNums_size]; exact this
theorem cut_len0 (sep l : List Int) : (cutI sep l).1.length ≤ l.length ∧ (cutI sep l).2.1.length ≤ l.length := by
  induction l with
  | nil => simp [cutI]
  | cons b r ih =>
    unfold cutI
    split
    · simp
    · simp only [List.length_cons]; omega
theorem pair_sizes (p : ByteArray) : (pairV p).1.size ≤ p.size ∧ (pairV p).2.1.size ≤ p.size := by
  have h := cut_len0 [61] (bytesOf p)
  rw [bytesOf_length] at h
  have h1 := trimV_size0 (cutV [61] p).1
  have h2 := trimV_size0 (cutV [61] p).2.1
  unfold pairV
  unfold cutV at h1 h2 ⊢
  simp only [strOfNums_size] at h1 h2 ⊢
  omega
theorem isQuo_bt (v : ByteArray) (h : 0 < v.size) : (bt v 0 == 34) = isQuo v := by
  have hl := bytesOf_length v
  unfold isQuo
  match hb : bytesOf v with
  | [] => rw [hb] at hl; simp at hl; omega
  | x :: r =>
    have := bt_mid (s := v) (pre := []) (b := x) (rest := r) hb
    have e : bt v 0 = x := by simpa using this
    rw [e]
    by_cases g : x = 34
    · subst g; simp
    · rw [beq_eq_false_iff_ne.mpr g]; simp [g]
theorem isQuo_nil {v : ByteArray} (h : ¬ (v.size : Int) > 0) : isQuo v = false := by
  unfold isQuo
  have hl := bytesOf_length v
  have : bytesOf v = [] := List.eq_nil_of_length_eq_zero (by omega)
  rw [this]; rfl
def totS : List ByteArray → Nat
  | [] => 0
  | x :: r => 1 + x.size + totS r
theorem totS_len (l : List ByteArray) : l.length ≤ totS l := by
  induction l with
  | nil => simp
  | cons x r ih => simp only [List.length_cons, totS]; omega
def joinT : List ByteArray → List Int
  | [] => []
  | x :: r => [44, 32] ++ bytesOf x ++ joinT r
def joinI : List ByteArray → List Int
  | [] => []
  | x :: r => bytesOf x ++ joinT r
def joinV (l : List ByteArray) : ByteArray := strOfNums (joinI l)
theorem InB_joinT (l : List ByteArray) : InB (joinT l) := by
  induction l with
  | nil => exact InB_nil
  | cons x r ih =>
    simp only [joinT, InB_append]
    exact ⟨⟨by intro y hy; simp at hy; omega, InB_bytes x⟩, ih⟩
theorem InB_joinI (l : List ByteArray) : InB (joinI l) := by
  cases l with
  | nil => exact InB_nil
  | cons x r => simp only [joinI, InB_append]; exact ⟨InB_bytes x, InB_joinT r⟩
theorem bytesOf_joinV (l : List ByteArray) : bytesOf (joinV l) = joinI l := bytesOf_strOf (InB_joinI l)
theorem joinT_len (l : List ByteArray) : (joinT l).length ≤ 2 * totS l := by
  induction l with
  | nil => simp [joinT]
  | cons x r ih => simp only [joinT, totS, List.length_append, bytesOf_length, List.length_cons, List.length_nil]; omega
theorem joinI_len (l : List ByteArray) : (joinI l).length ≤ 2 * totS l := by
  cases l with
  | nil => simp [joinI]
  | cons x r => have := joinT_len r; simp only [joinI, totS, List.length_append, bytesOf_length]; omega
/-- The bytes of a quoted text, without the quotes. -/
def quoteL : List Int → List Int
  | [] => []
  | b :: r => if b = 34 then 92 :: b :: quoteL r else if b = 92 then 92 :: b :: quoteL r else b :: quoteL r
theorem quoteL_length (l : List Int) : (quoteL l).length ≤ 2 * l.length := by
  induction l with
  | nil => simp [quoteL]
  | cons b r ih => unfold quoteL; split <;> (try split) <;> simp only [List.length_cons] <;> omega
def quoteV (s : ByteArray) : ByteArray := strOfNums (34 :: quoteL (bytesOf s) ++ [34])
def dvalV (s : ByteArray) : ByteArray := if tokV s = true then s else quoteV s
def eq61 : ByteArray := ⟨#[61]⟩
def dirV (d : S53) : ByteArray := if d.f2 = true then (d.f0 ++ eq61) ++ dvalV d.f1 else d.f0
def fdV (l : List S53) : ByteArray := joinV (l.map dirV)
def totD : List S53 → Nat
  | [] => 0
  | x :: r => 1 + (x.f0.size + x.f1.size) + totD r
theorem totD_len (l : List S53) : l.length ≤ totD l := by
  induction l with
  | nil => simp
  | cons x r ih => simp only [List.length_cons, totD]; omega
theorem totD_mem (l : List S53) (x : S53) (h : x ∈ l) : x.f0.size ≤ totD l ∧ x.f1.size ≤ totD l := by
  induction l with
  | nil => simp at h
  | cons y r ih =>
    simp only [totD]
    rcases List.mem_cons.1 h with g | g
    · subst g; omega
    · have := ih g; omega
theorem sz61 : eq61.size = 1 := rfl
theorem quoteV_size (s : ByteArray) : (quoteV s).size ≤ 2 * s.size + 2 := by
  have := quoteL_length (bytesOf s)
  rw [bytesOf_length] at this
  unfold quoteV
  rw [strOfNums_size]
  simp only [List.length_append, List.length_cons, List.length_nil]; omega
theorem dvalV_size (s : ByteArray) : (dvalV s).size ≤ 2 * s.size + 2 := by
  have := quoteV_size s
  unfold dvalV
  split <;> omega
theorem dirV_size (d : S53) : (dirV d).size ≤ d.f0.size + 2 * d.f1.size + 3 := by
  have := dvalV_size d.f1
  unfold dirV
  split
  · rw [ByteArray.size_append, ByteArray.size_append, sz61]; omega
  · omega
theorem totS_dirs (l : List S53) : totS (l.map dirV) ≤ 4 * totD l := by
  induction l with
  | nil => simp [totS]
  | cons x r ih =>
    have := dirV_size x
    simp only [List.map_cons, totS, totD]; omega
theorem app_assoc (a b c : ByteArray) : a ++ (b ++ c) = (a ++ b) ++ c := by
  apply bytesOf_inj
  simp only [bytesOf_append, List.append_assoc]
/-! ### What was divided and is joined again is divided in the same way -/
def runL (q : Bool) (l : List Int) : Option Bool :=
  match l with
  | [] => some q
  | b :: r =>
    if q = true ∧ b = 92 then (match r with
      | [] => none
      | _ :: r' => runL q r')
    else if b = 34 then runL (!q) r
    else if q = false ∧ b = 44 then none
    else runL q r
termination_by l.length
decreasing_by all_goals simp only [List.length_cons]; omega
theorem runL_nil (q : Bool) : runL q [] = some q := by unfold runL; rfl
theorem runL_last : runL true [92] = none := by unfold runL; simp
theorem runL_esc (c : Int) (r : List Int) : runL true (92 :: c :: r) = runL true r := by rw [runL.eq_def]; simp
theorem runL_quote (q : Bool) (r : List Int) : runL q (34 :: r) = runL (!q) r := by rw [runL.eq_def]; simp
theorem runL_comma (r : List Int) : runL false (44 :: r) = none := by rw [runL.eq_def]; simp
theorem runL_other (q : Bool) (r : List Int) (b : Int) (h1 : ¬ (q = true ∧ b = 92)) (h2 : b ≠ 34) (h3 : ¬ (q = false ∧ b = 44)) : runL q (b :: r) = runL q r := by
  rw [runL.eq_def]
  simp only
  rw [if_neg h1, if_neg h2, if_neg h3]
theorem run_cut (q : Bool) (p : List Int) : ∀ (q' : Bool) (cur rest : List Int), runL q p = some q' → cutL q cur (p ++ rest) = cutL q' (cur ++ p) rest := by
  refine cut_ind (p := fun q p => ∀ (q' : Bool) (cur rest : List Int), runL q p = some q' → cutL q cur (p ++ rest) = cutL q' (cur ++ p) rest) ?_ ?_ ?_ ?_ ?_ ?_ q p
  · intro q q' cur rest h; rw [runL_nil] at h; obtain rfl := Option.some.inj h; simp
  · intro q' cur rest h; rw [runL_last] at h; exact absurd h (by simp)
  · intro c r ih q' cur rest h; rw [runL_esc] at h; have := ih q' (cur ++ [92, c]) rest h; rw [List.cons_append, List.cons_append, cutL_esc, this]; simp
  · intro q r ih q' cur rest h; rw [runL_quote] at h; have := ih q' (cur ++ [34]) rest h; rw [List.cons_append, cutL_quote, this]; simp
  · intro r ih q' cur rest h; rw [runL_comma] at h; exact absurd h (by simp)
  · intro q b r g1 g2 g3 ih q' cur rest h; rw [runL_other q r b g1 g2 g3] at h; have := ih q' (cur ++ [b]) rest h; rw [List.cons_append, cutL_other q cur _ b g1 g2 g3, this]; simp
def GoodP : List (List Int) → Prop
  | [] => True
  | [m] => cutL false [] m = [m]
  | m :: m2 :: r => runL false m = some false ∧ GoodP (m2 :: r)
theorem run_one {m : List Int} {q : Bool} (h : runL false m = some q) : cutL false [] m = [m] := by
  have := run_cut false m q [] [] h
  rw [List.append_nil, cutL_nil] at this
  simpa using this
theorem good_cons {m : List Int} {r : List (List Int)} (h : runL false m = some false) (g : GoodP r) : GoodP (m :: r) := by
  cases r with
  | nil => exact run_one h
  | cons x r => exact ⟨h, g⟩
theorem blank_other {q : Bool} {b : Int} (h : blankI b = true) : ¬ (q = true ∧ b = 92) ∧ b ≠ 34 ∧ ¬ (q = false ∧ b = 44) := by
  unfold blankI at h
  have : b = 32 ∨ b = 9 := by simpa using h
  omega
def joinLL : List (List Int) → List Int
  | [] => []
  | [x] => x
  | x :: y :: r => x ++ 44 :: 32 :: joinLL (y :: r)
theorem trim_blank (b : Int) (h : blankI b = true) (l : List Int) : trimP blankI (b :: l) = trimP blankI l := by
  unfold trimP
  rw [drop_rdrop, drop_rdrop, List.dropWhile_cons_of_pos h]
theorem cut_join (L : List (List Int)) (hne : L ≠ []) (h : GoodP L) (ht : ∀ m ∈ L, trimP blankI m = m) : (cutL false [] (joinLL L)).map (trimP blankI) = L := by
  induction L with
  | nil => exact absurd rfl hne
  | cons m r ih =>
    cases r with
    | nil =>
      simp only [joinLL]
      rw [h]; simp [ht m (by simp)]
    | cons x r =>
      simp only [joinLL]
      rw [run_cut false m false [] _ h.1, List.nil_append, cutL_comma]
      obtain ⟨g1, g2, g3⟩ := blank_other (q := false) (b := 32) (by decide)
      rw [cutL_other false [] _ 32 g1 g2 g3, List.nil_append]
      have e := ih (by simp) h.2 (fun m hm => ht m (by simp [hm]))
      obtain ⟨y, t, e1, e2⟩ := cutL_prepend false (joinLL (x :: r)) [32] []
      rw [List.append_nil] at e2
      rw [e1] at e
      rw [e2, List.map_cons, List.map_cons, List.singleton_append, trim_blank 32 (by decide), ht m (by simp)]
      rw [List.map_cons] at e
      rw [e]
theorem split_join (L : List (List Int)) (h : GoodP L) (ht : ∀ m ∈ L, trimP blankI m = m) (hn : ∀ m ∈ L, m ≠ []) : splitL (joinLL L) = L := by
  unfold splitL
  by_cases e : L = []
  · subst e; simp [joinLL, cutL_nil, trimP, rdropI]
  · rw [cut_join L e h ht]
    exact List.filter_eq_self.2 (fun m hm => by simp [hn m hm])
theorem joinT_map (L : List (List Int)) (h : ∀ m ∈ L, InB m) (x : List Int) : x ++ joinT (L.map strOfNums) = joinLL (x :: L) := by
  induction L generalizing x with
  | nil => simp [joinT, joinLL]
  | cons y r ih =>
    simp only [List.map_cons, joinT, joinLL]
    rw [bytesOf_strOf (h y (by simp)), ← ih (fun m hm => h m (by simp [hm])) y]
    simp
theorem joinI_map (L : List (List Int)) (h : ∀ m ∈ L, InB m) : joinI (L.map strOfNums) = joinLL L := by
  cases L with
  | nil => rfl
  | cons x r =>
    simp only [List.map_cons, joinI]
    rw [bytesOf_strOf (h x (by simp)), joinT_map r (fun m hm => h m (by simp [hm]))]
theorem run_plain_app {m : List Int} (h : ∀ x ∈ m, x ≠ 34 ∧ x ≠ 44) (t : List Int) : runL false (m ++ t) = runL false t := by
  induction m with
  | nil => rfl
  | cons b r ih =>
    have hb := h b (by simp)
    rw [List.cons_append, runL_other false _ b (by simp) hb.1 (by simp [hb.2])]
    exact ih (fun x hx => h x (by simp [hx]))
theorem run_plain {m : List Int} (h : ∀ x ∈ m, x ≠ 34 ∧ x ≠ 44) : runL false m = some false := by
  have := run_plain_app h []
  rw [List.append_nil, runL_nil] at this
  exact this
theorem good_all (M : List (List Int)) (h : ∀ m ∈ M, runL false m = some false) : GoodP M := by
  induction M with
  | nil => trivial
  | cons m r ih => exact good_cons (h m (by simp)) (ih (fun x hx => h x (by simp [hx])))
theorem trim_id {m : List Int} (h1 : ∀ b r, m = b :: r → blankI b = false) (h2 : ∀ r b, m = r ++ [b] → blankI b = false) : trimP blankI m = m := by
  have e : rdropI blankI m = m := by
    rcases List.eq_nil_or_concat m with e | ⟨r, b, e⟩
    · subst e; rfl
    · rw [List.concat_eq_append] at e
      have := h2 r b e
      rw [e, rdropI_concat, if_neg (by rw [this]; simp)]
  unfold trimP
  rw [e]
  match m, h1 with
  | [], _ => rfl
  | b :: r, h1 => exact List.dropWhile_cons_of_neg (by rw [h1 b r rfl]; simp)
theorem trim_none {m : List Int} (h : ∀ x ∈ m, blankI x = false) : trimP blankI m = m := trim_id (fun b r e => h b (by rw [e]; simp)) (fun r b e => h b (by rw [e]; simp))
theorem splitV_parts_join (L : List ByteArray) (h1 : ∀ p ∈ L, runL false (bytesOf p) = some false) (h2 : ∀ p ∈ L, trimP blankI (bytesOf p) = bytesOf p) (h3 : ∀ p ∈ L, bytesOf p ≠ []) : splitV (joinV L) = L := by
  have e : (L.map bytesOf).map strOfNums = L := by
    rw [List.map_map]
    exact (List.map_congr_left (fun p _ => strOf_bytesOf p)).trans (List.map_id L)
  have j : joinI L = joinLL (L.map bytesOf) := by
    have := joinI_map (L.map bytesOf) (fun m hm => by obtain ⟨p, _, rfl⟩ := List.mem_map.1 hm; exact InB_bytes p)
    rw [e] at this
    exact this
  unfold splitV
  rw [bytesOf_joinV, j, split_join (L.map bytesOf) (good_all _ (fun m hm => by obtain ⟨p, hp, rfl⟩ := List.mem_map.1 hm; exact h1 p hp)) (fun m hm => by obtain ⟨p, hp, rfl⟩ := List.mem_map.1 hm; exact h2 p hp) (fun m hm => by obtain ⟨p, hp, rfl⟩ := List.mem_map.1 hm; exact h3 p hp), e]
theorem InB_quoteL {l : List Int} (h : InB l) : InB (quoteL l) := by
  induction l with
  | nil => exact InB_nil
  | cons b r ih =>
    rw [InB_cons] at h
    unfold quoteL
    split
    · simp only [InB_cons]; exact ⟨by omega, h.1, ih h.2⟩
    · split
      · simp only [InB_cons]; exact ⟨by omega, h.1, ih h.2⟩
      · rw [InB_cons]; exact ⟨h.1, ih h.2⟩
theorem bytesOf_quoteV (s : ByteArray) : bytesOf (quoteV s) = 34 :: quoteL (bytesOf s) ++ [34] := by
  unfold quoteV
  refine bytesOf_strOf ?_
  rw [InB_append, InB_cons]
  exact ⟨⟨by omega, InB_quoteL (InB_bytes s)⟩, by intro x hx; simp at hx; omega⟩
theorem unqL_quoteL (l t : List Int) : unqL (quoteL l ++ t) = (l ++ (unqL t).1, (unqL t).2) := by
  induction l with
  | nil => simp [quoteL]
  | cons b r ih =>
    unfold quoteL
    by_cases h1 : b = 34
    · rw [if_pos h1, List.cons_append, List.cons_append, unqL_esc, ih]; rfl
    · by_cases h2 : b = 92
      · rw [if_neg h1, if_pos h2, List.cons_append, List.cons_append, unqL_esc, ih]; rfl
      · rw [if_neg h1, if_neg h2, List.cons_append, unqL_other _ b h1 h2, ih]; rfl
theorem unq_quote (s : ByteArray) : unqV (quoteV s) = (s, true) := by
  unfold unqV
  rw [bytesOf_quoteV]
  have e : (34 :: quoteL (bytesOf s) ++ [34]).tail = quoteL (bytesOf s) ++ [34] := rfl
  have e2 : (34 :: quoteL (bytesOf s) ++ [34]).head? = some 34 := rfl
  rw [e, e2, unqL_quoteL, unqL_quote]
  simp [strOf_bytesOf]
theorem cut_miss (sep l : List Int) (h : ¬ (cutI sep l).2.2 = true) : (cutI sep l).1 = l ∧ (cutI sep l).2.1 = [] := by
  have := cut_none sep l (by simpa using h)
  rw [this]; exact ⟨rfl, rfl⟩
/-- A cut at a sign that does not stand ahead. -/
theorem cut_at (c : Int) (a r : List Int) (h : ∀ x ∈ a, x ≠ c) : cutI [c] (a ++ c :: r) = (a, r, true) := by
  induction a with
  | nil => unfold cutI; simp
  | cons b a ih =>
    have hb := h b (by simp)
    rw [List.cons_append]
    conv => lhs; unfold cutI
    rw [if_neg (by simpa using Ne.symm hb), ih (fun x hx => h x (by simp [hx]))]
theorem cut_not (c : Int) (a : List Int) (h : ∀ x ∈ a, x ≠ c) : cutI [c] a = (a, [], false) := by
  induction a with
  | nil => rfl
  | cons b a ih =>
    have hb := h b (by simp)
    conv => lhs; unfold cutI
    rw [if_neg (by simpa using Ne.symm hb), ih (fun x hx => h x (by simp [hx]))]
theorem lowB_idem1 (b : Int) : lowB (lowB b) = lowB b := by
  by_cases h : 65 ≤ b ∧ b ≤ 90
  · have e : lowB b = b + 32 := by unfold lowB; rw [if_pos h]
    rw [e]; unfold lowB; rw [if_neg (by omega)]
  · have e : lowB b = b := by unfold lowB; rw [if_neg h]
    rw [e, e]
theorem nil_list (s : ByteArray) : s.toList = ([] : List UInt8) ↔ s = ⟨#[]⟩ := by
  have e : ([] : List UInt8) = (⟨#[]⟩ : ByteArray).toList := by rw [ByteArray.toList_eq]
  exact ⟨fun h => toList_iff.mp (h.trans e), fun h => (toList_iff.mpr h).trans e.symm⟩
theorem run_quoteL (l t : List Int) : runL true (quoteL l ++ t) = runL true t := by
  induction l with
  | nil => rfl
  | cons b r ih =>
    unfold quoteL
    by_cases h1 : b = 34
    · rw [if_pos h1, List.cons_append, List.cons_append, runL_esc, ih]
    · by_cases h2 : b = 92
      · rw [if_neg h1, if_pos h2, List.cons_append, List.cons_append, runL_esc, ih]
      · rw [if_neg h1, if_neg h2, List.cons_append, runL_other true _ b (by simp [h2]) h1 (by simp), ih]
theorem run_quoteV (s : ByteArray) : runL false (bytesOf (quoteV s)) = some false := by
  rw [bytesOf_quoteV, List.cons_append, runL_quote, Bool.not_false, run_quoteL, runL_quote, runL_nil]; rfl
theorem tok_fin3 : ∀ n : Fin 256, tokB (n.val : Int) = true → (n.val : Int) ≠ 34 ∧ (n.val : Int) ≠ 44 ∧ (n.val : Int) ≠ 61 ∧ blankI (n.val : Int) = false := by decide +kernel
theorem tok_mem3 {s : ByteArray} (h : tokV s = true) : ∀ x ∈ bytesOf s, x ≠ 34 ∧ x ≠ 44 ∧ x ≠ 61 ∧ blankI x = false := by
  intro x hx
  unfold tokV at h
  rw [Bool.and_eq_true] at h
  have h1 := List.all_eq_true.1 h.1 x hx
  have h2 := InB_bytes s x hx
  exact fin256 (p := fun b => tokB b = true → b ≠ 34 ∧ b ≠ 44 ∧ b ≠ 61 ∧ blankI b = false) tok_fin3 h2.1 h2.2 h1
theorem tok_ne {s : ByteArray} (h : tokV s = true) : bytesOf s ≠ [] := by
  intro z
  unfold tokV at h
  rw [Bool.and_eq_true, decide_eq_true_eq, size_bytes, z] at h
  simp at h
theorem lower_idem (s : ByteArray) : lowerV (lowerV s) = lowerV s := by
  apply bytesOf_inj
  rw [bytesOf_lower, bytesOf_lower, List.map_map]
  exact List.map_congr_left (fun b _ => lowB_idem1 b)
/-- A directive as the reader gives it. -/
def goodD (d : S53) : Prop := tokV d.f0 = true ∧ lowerV d.f0 = d.f0 ∧ (d.f2 = false → d.f1 = ⟨#[]⟩)
theorem str_nil : strOfNums [] = (⟨#[]⟩ : ByteArray) := by apply bytesOf_inj; rw [bytesOf_strOf InB_nil]; decide
theorem trim_str_nil : trimV (strOfNums []) = (⟨#[]⟩ : ByteArray) := by
  unfold trimV
  rw [bytesOf_strOf InB_nil]; exact str_nil
theorem dirOf_good (p : ByteArray) : ∀ d ∈ dirOf p, goodD d := by
  have hno : (pairV p).2.2 = false → (pairV p).2.1 = ⟨#[]⟩ := by
    intro h
    have : (cutI [61] (bytesOf p)).2.1 = [] := (cut_miss [61] (bytesOf p) (by rw [show (cutI [61] (bytesOf p)).2.2 = false from h]; simp)).2
    unfold pairV cutV
    simp only
    rw [this]; exact trim_str_nil
  intro d hd
  unfold dirOf at hd
  split at hd
  · rename_i h
    split at hd
    · rename_i g
      simp only [List.mem_singleton] at hd
      subst hd
      exact ⟨by simp only; rw [tok_lower]; exact g.2, by simp only; exact lower_idem _, by simp only; intro z; rw [h.1] at z; simp at z⟩
    · simp at hd
  · split at hd
    · rename_i g
      simp only [List.mem_singleton] at hd
      subst hd
      exact ⟨by simp only; rw [tok_lower]; exact g.2, by simp only; exact lower_idem _, by simp only; exact hno⟩
    · simp at hd
theorem pd_good (s : ByteArray) : ∀ d ∈ pdV s, goodD d := by
  intro d hd
  unfold pdV at hd
  obtain ⟨p, _, h⟩ := List.mem_flatMap.1 hd
  exact dirOf_good p d h
theorem trim_tok {s : ByteArray} (h : tokV s = true) : trimV s = s := by
  apply bytesOf_inj
  rw [bytesOf_trimV]
  exact trim_none (fun x hx => (tok_mem3 h x hx).2.2.2)
theorem last_eq {l r : List Int} {x b : Int} (e : l ++ [x] = r ++ [b]) : b = x := by
  have := (List.append_inj' e rfl).2
  injection this with h _
  exact h.symm
theorem trimP_quoteV (s : ByteArray) : trimP blankI (bytesOf (quoteV s)) = bytesOf (quoteV s) := by
  rw [bytesOf_quoteV]
  refine trim_id (fun b r e => ?_) (fun r b e => ?_)
  · rw [List.cons_append] at e; injection e with e1 _; subst e1; decide
  · rw [last_eq e]; decide
theorem dirV_bytes (d : S53) (h : d.f2 = true) : bytesOf (dirV d) = bytesOf d.f0 ++ 61 :: bytesOf (dvalV d.f1) := by
  unfold dirV
  rw [if_pos h, bytesOf_append, bytesOf_append, show bytesOf eq61 = [61] by decide]
  simp
theorem dval_facts (v : ByteArray) : runL false (bytesOf (dvalV v)) = some false ∧ trimV (dvalV v) = dvalV v ∧ bytesOf (dvalV v) ≠ [] ∧ (∀ r b, bytesOf (dvalV v) = r ++ [b] → blankI b = false) := by
  unfold dvalV
  by_cases h : tokV v = true
  · rw [if_pos h]
    have hm := tok_mem3 h
    exact ⟨run_plain (fun x hx => ⟨(hm x hx).1, (hm x hx).2.1⟩), trim_tok h, tok_ne h, fun r b e => (hm b (by rw [e]; simp)).2.2.2⟩
  · rw [if_neg h]
    refine ⟨run_quoteV v, bytesOf_inj (by rw [bytesOf_trimV]; exact trimP_quoteV v), by rw [bytesOf_quoteV]; simp, fun r b e => ?_⟩
    rw [bytesOf_quoteV] at e
    rw [last_eq e]; decide
theorem dirV_facts {d : S53} (h : goodD d) : runL false (bytesOf (dirV d)) = some false ∧ trimP blankI (bytesOf (dirV d)) = bytesOf (dirV d) ∧ bytesOf (dirV d) ≠ [] := by
  have hm := tok_mem3 h.1
  have hne := tok_ne h.1
  by_cases g : d.f2 = true
  · rw [dirV_bytes d g]
    obtain ⟨v1, v2, v3, v4⟩ := dval_facts d.f1
    refine ⟨?_, trim_id (fun b r e => ?_) (fun r b e => ?_), by simp⟩
    · rw [run_plain_app (fun x hx => ⟨(hm x hx).1, (hm x hx).2.1⟩), runL_other false _ 61 (by simp) (by decide) (by simp), v1]
    · match hb : bytesOf d.f0, hne with
      | x :: t, _ =>
        rw [hb, List.cons_append] at e
        injection e with e1 _
        subst e1
        exact (hm x (by rw [hb]; simp)).2.2.2
    · rcases List.eq_nil_or_concat (bytesOf (dvalV d.f1)) with z | ⟨r2, b2, z⟩
      · exact absurd z v3
      · rw [List.concat_eq_append] at z
        rw [z] at e
        have := last_eq (l := bytesOf d.f0 ++ 61 :: r2) (x := b2) (r := r) (b := b) (by rw [← e, List.append_assoc]; rfl)
        rw [this]
        exact v4 r2 _ z
  · unfold dirV
    rw [if_neg g]
    exact ⟨run_plain (fun x hx => ⟨(hm x hx).1, (hm x hx).2.1⟩), trim_none (fun x hx => (hm x hx).2.2.2), hne⟩
theorem pairV_some {p name v : ByteArray} (hp : bytesOf p = bytesOf name ++ 61 :: bytesOf v) (hn : ∀ x ∈ bytesOf name, x ≠ 61) (h1 : trimV name = name) (h2 : trimV v = v) : pairV p = (name, v, true) := by
  have c := cut_at 61 (bytesOf name) (bytesOf v) hn
  unfold pairV cutV
  simp only
  rw [hp, c]
  simp only [strOf_bytesOf, h1, h2]
theorem pairV_none {p : ByteArray} (hn : ∀ x ∈ bytesOf p, x ≠ 61) (h1 : trimV p = p) : pairV p = (p, ⟨#[]⟩, false) := by
  have c := cut_not 61 (bytesOf p) hn
  unfold pairV cutV
  simp only
  rw [c]
  simp only [strOf_bytesOf, h1, trim_str_nil]
theorem dirOf_dirV {d : S53} (h : goodD d) : dirOf (dirV d) = [d] := by
  have hm := tok_mem3 h.1
  obtain ⟨t1, t2, t3⟩ := h
  by_cases g : d.f2 = true
  · have hp := pairV_some (dirV_bytes d g) (fun x hx => (hm x hx).2.2.1) (trim_tok t1) (dval_facts d.f1).2.1
    unfold dirOf
    rw [hp]
    simp only
    by_cases tv : tokV d.f1 = true
    · have hq : isQuo (dvalV d.f1) = false := by
        unfold dvalV isQuo
        rw [if_pos tv]
        apply decide_eq_false
        intro z
        exact (tok_mem3 tv 34 (List.mem_of_mem_head? z)).1 rfl
      have hv : dvalV d.f1 = d.f1 := by unfold dvalV; rw [if_pos tv]
      rw [if_neg (by rw [hq]; simp), hv, if_pos ⟨fun _ => tv, t1⟩, t2, ← g]
    · have hv : dvalV d.f1 = quoteV d.f1 := by unfold dvalV; rw [if_neg tv]
      have hq : isQuo (quoteV d.f1) = true := by unfold isQuo; rw [bytesOf_quoteV]; rfl
      rw [hv, if_pos ⟨trivial, hq⟩, unq_quote, if_pos ⟨rfl, t1⟩, t2, ← g]
  · have gf : d.f2 = false := by simpa using g
    have e : dirV d = d.f0 := by unfold dirV; rw [if_neg g]
    have hp := pairV_none (fun x hx => (hm x hx).2.2.1) (trim_tok t1)
    unfold dirOf
    rw [e, hp]
    simp only
    rw [if_neg (by simp), if_pos ⟨fun z => by simp at z, t1⟩, t2, ← t3 gf, ← gf]
theorem pd_round (l : List S53) (h : ∀ d ∈ l, goodD d) : pdV (fdV l) = l := by
  unfold pdV fdV
  rw [splitV_parts_join (l.map dirV) (fun p hp => by obtain ⟨d, hd, rfl⟩ := List.mem_map.1 hp; exact (dirV_facts (h d hd)).1) (fun p hp => by obtain ⟨d, hd, rfl⟩ := List.mem_map.1 hp; exact (dirV_facts (h d hd)).2.1) (fun p hp => by obtain ⟨d, hd, rfl⟩ := List.mem_map.1 hp; exact (dirV_facts (h d hd)).2.2)]
  induction l with
  | nil => rfl
  | cons d r ih =>
    rw [List.map_cons, List.flatMap_cons, dirOf_dirV (h d (by simp)), ih (fun x hx => h x (by simp [hx]))]
    rfl
theorem spec_blank_eq (b : Int) : spec_l4Blank.f b = some (blankI b) := by
  unfold spec_l4Blank.f blankI
  by_cases h : b = 32
  · rw [if_pos h, h]; rfl
  · rw [if_neg h]; simp [h]
theorem spec_Trim_l1 (n : Nat) : ∀ s : ByteArray, s.size ≤ n → s.size ≤ 4611686018427387904 → Ev (fun k => spec_TrimText.l1 k s) (strOfNums (rdropI blankI (bytesOf s))) := by
  induction n with
  | zero =>
    intro s hn hs
    have e : bytesOf s = [] := List.eq_nil_of_length_eq_zero (by rw [bytesOf_length]; omega)
    refine Ev.step (f := fun _ => some s) (fun k => ?_) (by rw [e]; simp only [rdropI]; rw [← e, strOf_bytesOf]; exact Ev.now _)
    simp only [spec_TrimText.l1]
    rw [if_neg (by omega)]
  | succ n ih =>
    intro s hn hs
    rcases List.eq_nil_or_concat (bytesOf s) with h | ⟨r, b, h⟩
    · exact ih s (by rw [← bytesOf_length, h]; simp) hs
    · rw [List.concat_eq_append] at h
      have hz := size_mid h
      simp only [List.length_cons, List.length_nil] at hz
      have hw : wrap64 ((s.size : Int) - 1) = (r.length : Int) := by rw [wrap_id (by omega) (by omega)]; omega
      have hb := bt_mid h
      have hx : bytesOf (s.extract 0 ((r.length : Int) : Int).toNat) = r := by
        rw [bytesOf_extract, h]; simp
      rw [h, rdropI_concat]
      by_cases g : blankI b = true
      · rw [if_pos g]
        refine Ev.step (f := fun k => spec_TrimText.l1 k (s.extract 0 ((r.length : Int) : Int).toNat)) (fun k => ?_) ?_
        · simp only [spec_TrimText.l1]
          rw [if_pos (by omega), hw, if_pos (by omega), if_pos (by omega), hb, spec_blank_eq, Option.bind_some, if_pos g, if_pos (by omega)]
        · have hlen : (s.extract 0 ((r.length : Int) : Int).toNat).size = r.length := by rw [← bytesOf_length, hx]
          have := ih _ (by rw [hlen]; omega) (by rw [hlen]; omega)
          rwa [hx] at this
      · rw [if_neg g]
        refine Ev.step (f := fun _ => some s) (fun k => ?_) (by rw [← h, strOf_bytesOf]; exact Ev.now _)
        simp only [spec_TrimText.l1]
        rw [if_pos (by omega), hw, if_pos (by omega), if_pos (by omega), hb, spec_blank_eq, Option.bind_some, if_neg g]
theorem spec_Trim_l0 (l : List Int) : ∀ s : ByteArray, bytesOf s = l → s.size ≤ 4611686018427387904 → Ev (fun k => spec_TrimText.l0 k s) (strOfNums (rdropI blankI (l.dropWhile blankI))) := by
  induction l with
  | nil =>
    intro s h hs
    have hz := size_mid (pre := []) (rest := []) h
    simp only [List.length_nil] at hz
    refine Ev.step (f := fun k => spec_TrimText.j1 k s) (fun k => ?_) (Ev.step (f := fun k => spec_TrimText.l1 k s) (fun k => by simp only [spec_TrimText.j1]) ?_)
    · simp only [spec_TrimText.l0]
      rw [if_neg (by omega)]
    · have := spec_Trim_l1 _ s (Nat.le_refl _) hs
      rw [h] at this
      exact this
  | cons b r ih =>
    intro s h hs
    have hz := size_mid (pre := []) (rest := b :: r) h
    simp only [List.length_cons, List.length_nil] at hz
    have hb : bt s 0 = b := bt_mid (pre := []) h
    by_cases g : blankI b = true
    · rw [List.dropWhile_cons_of_pos g]
      have hx : bytesOf (s.extract 1 s.size) = r := by
        rw [bytesOf_extract, h, List.take_of_length_le (by simp only [List.length_cons]; omega)]; rfl
      refine Ev.step (f := fun k => spec_TrimText.l0 k (s.extract 1 s.size)) (fun k => ?_) (ih _ hx (by rw [← bytesOf_length, hx]; omega))
      simp only [spec_TrimText.l0]
      rw [if_pos (by omega), if_pos (by omega), hb, spec_blank_eq, Option.bind_some, if_pos g, if_pos (by omega)]
    · rw [List.dropWhile_cons_of_neg g]
      refine Ev.step (f := fun k => spec_TrimText.j1 k s) (fun k => ?_) (Ev.step (f := fun k => spec_TrimText.l1 k s) (fun k => by simp only [spec_TrimText.j1]) ?_)
      · simp only [spec_TrimText.l0]
        rw [if_pos (by omega), if_pos (by omega), hb, spec_blank_eq, Option.bind_some, if_neg g]
      · have := spec_Trim_l1 _ s (Nat.le_refl _) hs
        rwa [h] at this
theorem spec_Trim_ev (s : ByteArray) (hs : s.size ≤ 4611686018427387904) : Ev (fun k => spec_TrimText.f k s) (trimV s) := by
  have := spec_Trim_l0 (bytesOf s) s rfl hs
  rw [← drop_rdrop] at this
  exact this
theorem prefix_one (a b : Int) (r : List Int) : ([a] : List Int).isPrefixOf (b :: r) = decide (b = a) := by
  simp only [List.isPrefixOf, Bool.and_true]
  by_cases h : b = a
  · subst h; simp
  · rw [decide_eq_false h]; exact beq_eq_false_iff_ne.mpr (fun z => h z.symm)
theorem trimV_nil : trimV ⟨#[]⟩ = ⟨#[]⟩ := by
  apply bytesOf_inj
  decide +kernel
theorem spec_Pair_loop (s : ByteArray) (hs : s.size ≤ 4000000000) (rest : List Int) : ∀ (pre : List Int), bytesOf s = pre ++ rest → cutI [61] (bytesOf s) = (pre ++ (cutI [61] rest).1, (cutI [61] rest).2) → Ev (fun k => spec_SplitPair.l0 k s (pre.length : Int)) (pairV s) := by
  induction rest with
  | nil =>
    intro pre h hc
    have hz := size_mid h
    simp only [List.length_nil] at hz
    have e : pairV s = (trimV s, (⟨#[]⟩ : ByteArray), false) := by
      have e1 : cutV [61] s = (s, ⟨#[]⟩, false) := by
        unfold cutV
        rw [hc]
        have : pre = bytesOf s := by rw [h]; simp
        simp only [cutI, List.append_nil]
        rw [this, strOf_bytesOf]; rfl
      unfold pairV
      rw [e1, trimV_nil]
    rw [e]
    refine Ev.step (f := fun k => (spec_TrimText.f k s).bind fun t => some (t, (⟨#[]⟩ : ByteArray), false)) (fun k => ?_) (Ev.bind (spec_Trim_ev s (by omega)) (Ev.now _))
    simp only [spec_SplitPair.l0]
    rw [if_neg (by omega)]
  | cons b rest ih =>
    intro pre h hc
    have hz := size_mid h
    simp only [List.length_cons] at hz
    have hb := bt_mid h
    have hw := len_step pre b (by omega)
    by_cases g : b = 61
    · have hp : ([61] : List Int).isPrefixOf (b :: rest) = true := by rw [prefix_one]; exact decide_eq_true g
      have ec : cutI [61] (b :: rest) = ([], rest, true) := by unfold cutI; rw [if_pos hp]; rfl
      rw [ec] at hc
      simp only [List.append_nil] at hc
      have e1 : strOfNums pre = s.extract 0 pre.length := by
        apply bytesOf_inj
        have hpb : InB pre := by have := InB_bytes s; rw [h, InB_append] at this; exact this.1
        rw [bytesOf_strOf hpb, bytesOf_extract, h]; simp
      have e2 : strOfNums rest = s.extract (pre.length + 1) s.size := by
        apply bytesOf_inj
        have hpb : InB rest := by have := InB_bytes s; rw [h, InB_append, InB_cons] at this; exact this.2.2
        have hl : (bytesOf s).take s.size = bytesOf s := by rw [← bytesOf_length]; exact List.take_length
        rw [bytesOf_strOf hpb, bytesOf_extract, hl, h]
        rw [show pre ++ b :: rest = (pre ++ [b]) ++ rest by simp, show pre.length + 1 = (pre ++ [b]).length by simp, List.drop_left]
      have e : pairV s = (trimV (s.extract 0 pre.length), trimV (s.extract (pre.length + 1) s.size), true) := by
        unfold pairV cutV
        rw [hc, ← e1, ← e2]
      rw [e]
      have z1 : (s.extract 0 pre.length).size ≤ s.size := by rw [ByteArray.size_extract]; omega
      have z2 : (s.extract (pre.length + 1) s.size).size ≤ s.size := by rw [ByteArray.size_extract]; omega
      refine Ev.step (f := fun k => (spec_TrimText.f k (s.extract 0 pre.length)).bind fun t => (spec_TrimText.f k (s.extract (pre.length + 1) s.size)).bind fun u => some (t, u, true)) (fun k => ?_) (Ev.bind (spec_Trim_ev _ (by omega)) (Ev.bind (spec_Trim_ev _ (by omega)) (Ev.now _)))
      simp only [spec_SplitPair.l0]
      have n1 : ((pre.length : Int)).toNat = pre.length := by omega
      have n2 : (((pre ++ [b]).length : Int)).toNat = pre.length + 1 := by simp
      have n3 : ((pre ++ [b]).length : Int) ≤ (s.size : Int) := by simp; omega
      rw [if_pos (by omega), if_pos (by omega), hb, if_pos g, if_pos (by omega), hw, n1, n2]
      congr 1
      funext t
      rw [if_pos (by omega), if_pos n3]
    · have hp : ¬ ([61] : List Int).isPrefixOf (b :: rest) = true := by rw [prefix_one]; simp [g]
      have ec : cutI [61] (b :: rest) = (b :: (cutI [61] rest).1, (cutI [61] rest).2) := by rw [cutI, if_neg hp]
      rw [ec] at hc
      refine Ev.step (f := fun k => spec_SplitPair.l0 k s ((pre ++ [b]).length : Int)) (fun k => ?_) (ih (pre ++ [b]) (by simp [h]) (by rw [hc]; simp))
      simp only [spec_SplitPair.l0]
      rw [if_pos (by omega), if_pos (by omega), hb, if_neg g, hw]
theorem spec_Pair_ev (s : ByteArray) (hs : s.size ≤ 4000000000) : Ev (fun k => spec_SplitPair.f k s) (pairV s) := spec_Pair_loop s hs (bytesOf s) [] rfl (by simp)
theorem spec_Lower_eq (s : ByteArray) (h : s.size ≤ 4611686018427387904) : spec_LowerText.f s = some (lowerV s) := by unfold spec_LowerText.f; rw [if_pos h]; rfl
theorem spec_l1In_eq (a b c : Int) : spec_l1In.f a b c = some (decide (b ≤ a ∧ a ≤ c)) := by
  unfold spec_l1In.f
  by_cases h : a ≥ b
  · rw [if_pos h]; congr 1; apply decide_eq_decide.mpr; constructor
    · exact fun x => ⟨h, x⟩
    · exact fun x => x.2
  · rw [if_neg h]; congr 1; symm; apply decide_eq_false; omega
theorem spec_tok_fin : ∀ n : Fin 256, spec_l4Token.f 17 (n.val : Int) = some (tokB (n.val : Int)) := by decide +kernel
theorem spec_tok_ev {b : Int} (h0 : 0 ≤ b) (h1 : b ≤ 255) : Ev (fun k => spec_l4Token.f k b) (tokB b) := Ev.of (fun k => spec_l4Token.mono b k) (k := 17) (fin256 (p := fun b => spec_l4Token.f 17 b = some (tokB b)) spec_tok_fin h0 h1)
theorem spec_IsToken_ev (s : ByteArray) (hs : s.size ≤ 4611686018427387904) : Ev (fun k => spec_IsToken.f k s) (tokV s) := by
  have key : ∀ (rest pre : List Int), bytesOf s = pre ++ rest → Ev (fun k => spec_IsToken.l0 k s (pre.length : Int)) (rest.all tokB && decide (1 ≤ (s.size : Int) ∧ (s.size : Int) ≤ 40)) := by
    intro rest
    induction rest with
    | nil =>
      intro pre h
      have hz := size_mid h
      simp only [List.length_nil] at hz
      refine Ev.step (f := fun _ => some (decide (1 ≤ (s.size : Int) ∧ (s.size : Int) ≤ 40))) (fun k => ?_) (by simpa using Ev.now _)
      simp only [spec_IsToken.l0]
      rw [if_neg (by omega), spec_l1In_eq, Option.bind_some]
    | cons b rest ih =>
      intro pre h
      have hz := size_mid h
      simp only [List.length_cons] at hz
      have hb := bt_mid h
      have hr : 0 ≤ b ∧ b ≤ 255 := by rw [← hb]; exact bt_range s _
      have hw := len_step pre b (by omega)
      refine Ev.step (f := fun k => (spec_l4Token.f k b).bind fun t => if t = true then spec_IsToken.l0 k s ((pre ++ [b]).length : Int) else some false) (fun k => ?_) (Ev.bind (spec_tok_ev hr.1 hr.2) ?_)
      · simp only [spec_IsToken.l0]
        rw [if_pos (by omega), if_pos (by omega), hb, hw]
      · cases e : tokB b with
        | true => simpa [e] using ih (pre ++ [b]) (by simp [h])
        | false => simpa [e] using Ev.now _
  exact key (bytesOf s) [] rfl
theorem spec_Unq_loop (s : ByteArray) (hs : s.size ≤ 140737488351232) (f : Int) (n : Nat) : ∀ (pre acc rest : List Int), rest.length ≤ n → bytesOf s = f :: (pre ++ rest) → acc.length ≤ pre.length →
    Ev (fun k => spec_UnquoteText.l0 k s acc (((f :: pre).length : Nat) : Int)) (unqR f acc rest) := by
  induction n with
  | zero =>
    intro pre acc rest hr h ha
    obtain rfl : rest = [] := List.eq_nil_of_length_eq_zero (by omega)
    have hz := size_mid (pre := f :: pre) (rest := []) h
    simp only [List.length_nil, List.length_cons] at hz
    rw [unqR_nil]
    refine Ev.step (f := fun _ => some (strOfNums acc, false)) (fun k => ?_) (Ev.now _)
    simp only [spec_UnquoteText.l0, List.length_cons]
    rw [if_neg (by omega)]
  | succ n ih =>
    intro pre acc rest hr h ha
    match rest, hr with
    | [], _ => exact ih pre acc [] (by simp) h ha
    | b :: rest, hr =>
      have hz := size_mid (pre := f :: pre) (rest := b :: rest) h
      simp only [List.length_cons] at hz hr
      have hb := bt_mid (pre := f :: pre) (rest := rest) h
      have h0 : bt s 0 = f := bt_mid (pre := []) (rest := pre ++ b :: rest) h
      have hw := len_step (f :: pre) b (by simp; omega)
      by_cases h1 : b = 34
      · subst h1
        rw [unqR_quote]
        refine Ev.step (f := fun _ => some (strOfNums acc, decide (f = 34 ∧ rest.length = 0))) (fun k => ?_) (Ev.now _)
        simp only [spec_UnquoteText.l0]
        rw [if_pos (by simp; omega), if_pos (by omega), hb, if_pos rfl, if_pos (by omega), h0]
        by_cases h2 : f = 34
        · rw [if_pos h2]
          congr 2
          rw [wrap_id (by omega) (by omega), h2]
          simp only [true_and]
          rw [Bool.eq_iff_iff, beq_iff_eq, decide_eq_true_iff]
          simp only [List.length_cons]
          omega
        · rw [if_neg h2]; simp [h2]
      · by_cases h2 : b = 92
        · subst h2
          match rest, h, hz, hr, hb with
          | [], h, hz, hr, hb =>
            simp only [List.length_nil] at hz
            rw [unqR_last]
            have e := ih (pre ++ [92]) (acc ++ [92]) [] (by simp) (by simpa using h) (by simp; omega)
            rw [unqR_nil] at e
            refine Ev.step (f := fun k => spec_UnquoteText.l0 k s (acc ++ [92]) ((((f :: (pre ++ [92])).length : Nat)) : Int)) (fun k => ?_) e
            simp only [spec_UnquoteText.l0]
            rw [if_pos (by simp; omega), if_pos (by omega), hb, if_neg h1, if_pos rfl, hw, if_neg (by simp; omega), if_pos (by omega)]
            rfl
          | c :: rest, h, hz, hr, hb =>
            simp only [List.length_cons] at hz hr
            have hc := bt_mid (s := s) (pre := (f :: pre) ++ [92]) (rest := rest) (b := c) (by simpa using h)
            have hw2 := len_step ((f :: pre) ++ [92]) c (by simp; omega)
            rw [unqR_esc]
            have e := ih (pre ++ [92, c]) (acc ++ [c]) rest (by omega) (by simpa using h) (by simp; omega)
            refine Ev.step (f := fun k => spec_UnquoteText.l0 k s (acc ++ [c]) ((((f :: (pre ++ [92, c])).length : Nat)) : Int)) (fun k => ?_) e
            simp only [spec_UnquoteText.l0]
            rw [if_pos (by simp; omega), if_pos (by omega), hb, if_neg h1, if_pos rfl, hw, if_pos (by simp; omega), if_pos (by omega), if_pos (by omega), hc, hw2]
            simp
        · rw [unqR_other f acc rest b h1 h2]
          have e := ih (pre ++ [b]) (acc ++ [b]) rest (by omega) (by simpa using h) (by simp; omega)
          refine Ev.step (f := fun k => spec_UnquoteText.l0 k s (acc ++ [b]) ((((f :: (pre ++ [b])).length : Nat)) : Int)) (fun k => ?_) e
          simp only [spec_UnquoteText.l0]
          rw [if_pos (by simp; omega), if_pos (by omega), hb, if_neg h1, if_neg h2, if_pos (by omega), hw]
          rfl
theorem spec_Unq_ev (s : ByteArray) (hs : s.size ≤ 140737488351232) : Ev (fun k => spec_UnquoteText.f k s) (unqV s) := by
  unfold spec_UnquoteText.f unqV
  match h : bytesOf s with
  | [] =>
    have hz := size_bytes s
    rw [h] at hz
    refine Ev.step (f := fun _ => some (strOfNums [], false)) (fun k => ?_) (by simpa [unqL_nil] using Ev.now _)
    simp only [spec_UnquoteText.l0, List.length_nil] at hz ⊢
    rw [if_neg (by omega)]
  | f :: rest =>
    have := spec_Unq_loop s hs f rest.length [] [] rest (Nat.le_refl _) h (by simp)
    simpa [unqR] using this
theorem spec_Cut_loop (s : ByteArray) (hs : s.size ≤ 1099511627776) (q : Bool) (rest : List Int) : ∀ (done cur : List Int) (acc : List ByteArray), bytesOf s = done ++ cur ++ rest → acc.length ≤ done.length →
    Ev (fun k => spec_l4Cut.l0 k s 44 acc (done.length : Int) q ((done ++ cur).length : Int)) (acc ++ (cutL q cur rest).map strOfNums) := by
  have fin : ∀ (q : Bool) (done cur : List Int) (acc : List ByteArray) (i : Int), bytesOf s = done ++ cur → acc.length ≤ done.length → ¬ i < (s.size : Int) → Ev (fun k => spec_l4Cut.l0 k s 44 acc (done.length : Int) q i) (acc ++ [strOfNums cur]) := by
    intro q done cur acc i h ha hi
    have hz : s.size = done.length + cur.length := by rw [← bytesOf_length, h, List.length_append]
    refine Ev.step (f := fun _ => some (acc ++ [strOfNums cur])) (fun k => ?_) (Ev.now _)
    simp only [spec_l4Cut.l0]
    have n1 : ((done.length : Int)).toNat = done.length := by omega
    rw [if_neg hi, if_pos (by omega), if_pos (by omega), if_pos (by omega), n1, ext_end h]
  have facts : ∀ {done cur rest : List Int} {b : Int}, bytesOf s = done ++ cur ++ b :: rest → ((done ++ cur).length : Int) < (s.size : Int) ∧ bt s ((done ++ cur).length : Int) = b ∧ wrap64 (((done ++ cur).length : Int) + 1) = ((done ++ (cur ++ [b])).length : Int) ∧ (s.size : Int) = (done ++ cur).length + (rest.length + 1) := by
    intro done cur rest b h
    have hz := size_mid h
    simp only [List.length_cons] at hz
    refine ⟨by omega, bt_mid h, ?_, by omega⟩
    have := len_step (done ++ cur) b (by omega)
    rw [this, List.append_assoc]
  refine cut_ind (p := fun q rest => ∀ (done cur : List Int) (acc : List ByteArray), bytesOf s = done ++ cur ++ rest → acc.length ≤ done.length → Ev (fun k => spec_l4Cut.l0 k s 44 acc (done.length : Int) q ((done ++ cur).length : Int)) (acc ++ (cutL q cur rest).map strOfNums)) ?_ ?_ ?_ ?_ ?_ ?_ q rest
  · intro q done cur acc h ha
    rw [cutL_nil]
    exact fin q done cur acc _ (by simpa using h) ha (by have := size_mid h; simp at this ⊢; omega)
  · intro done cur acc h ha
    obtain ⟨f1, f2, f3, f4⟩ := facts h
    rw [cutL_last]
    refine Ev.step (f := fun k => spec_l4Cut.j1 k s 44 acc (done.length : Int) true ((done ++ cur).length : Int) true) (fun k => ?_) (Ev.step (f := fun k => spec_l4Cut.l0 k s 44 acc (done.length : Int) true (wrap64 ((wrap64 (((done ++ cur).length : Int) + 1)) + 1))) (fun k => ?_) ?_)
    · simp only [spec_l4Cut.l0]
      rw [if_pos f1, if_pos trivial, if_pos (by omega), f2]; rfl
    · simp only [spec_l4Cut.j1]
      rw [if_pos trivial]
    · refine fin true done (cur ++ [92]) acc _ (by rw [h]; simp) ha ?_
      rw [f3, wrap_id (by omega) (by simp at f4 ⊢; omega)]
      simp at f4 ⊢; omega
  · intro c r ih done cur acc h ha
    obtain ⟨f1, f2, f3, f4⟩ := facts h
    rw [cutL_esc]
    have n := ih done (cur ++ [92, c]) acc (by rw [h]; simp) ha
    have e : wrap64 ((wrap64 (((done ++ cur).length : Int) + 1)) + 1) = ((done ++ (cur ++ [92, c])).length : Int) := by
      rw [f3, wrap_id (by omega) (by simp at f4 ⊢; omega)]; simp; omega
    rw [← e] at n
    refine Ev.step (f := fun k => spec_l4Cut.j1 k s 44 acc (done.length : Int) true ((done ++ cur).length : Int) true) (fun k => ?_) (Ev.step (fun k => ?_) n)
    · simp only [spec_l4Cut.l0]
      rw [if_pos f1, if_pos trivial, if_pos (by omega), f2]; rfl
    · simp only [spec_l4Cut.j1]
      rw [if_pos trivial]
  · intro q r ih done cur acc h ha
    obtain ⟨f1, f2, f3, f4⟩ := facts h
    rw [cutL_quote]
    have n := ih done (cur ++ [34]) acc (by rw [h]; simp) ha
    rw [← f3] at n
    refine Ev.step (f := fun k => spec_l4Cut.j1 k s 44 acc (done.length : Int) q ((done ++ cur).length : Int) false) (fun k => ?_) (Ev.step (fun k => ?_) n)
    · simp only [spec_l4Cut.l0]
      rw [if_pos f1]
      cases q
      · rfl
      · rw [if_pos rfl, if_pos (by omega), f2]; rfl
    · simp only [spec_l4Cut.j1]
      rw [if_neg (by simp), if_pos (by omega), if_pos f1, if_pos f2]
  · intro r ih done cur acc h ha
    obtain ⟨f1, f2, f3, f4⟩ := facts h
    rw [cutL_comma]
    have n := ih (done ++ (cur ++ [44])) [] (acc ++ [strOfNums cur]) (by rw [h]; simp) (by simp; omega)
    rw [List.append_nil, ← f3] at n
    have hx := ext_mid h
    have hn1 : ((done.length : Int)).toNat = done.length := by omega
    have hn2 : (((done ++ cur).length : Int)).toNat = done.length + cur.length := by simp only [List.length_append]; omega
    simp only [List.map_cons]
    rw [show acc ++ strOfNums cur :: (cutL false [] r).map strOfNums = (acc ++ [strOfNums cur]) ++ (cutL false [] r).map strOfNums by simp]
    refine Ev.step (f := fun k => spec_l4Cut.j1 k s 44 acc (done.length : Int) false ((done ++ cur).length : Int) false) (fun k => ?_) (Ev.step (fun k => ?_) n)
    · simp only [spec_l4Cut.l0]
      rw [if_pos f1]; rfl
    · simp only [spec_l4Cut.j1]
      have hdl : done.length ≤ s.size := by have := f4; simp at this; omega
      rw [if_neg (by simp), if_pos (by omega), if_pos f1, if_neg (by rw [f2]; decide), if_neg (by simp), if_pos f2, if_pos (by omega), if_pos (by simp only [List.length_append]; omega), if_pos (by omega), if_pos (by omega), hn1, hn2, hx]
  · intro q b r g1 g2 g3 ih done cur acc h ha
    obtain ⟨f1, f2, f3, f4⟩ := facts h
    rw [cutL_other q cur r b g1 g2 g3]
    have n := ih done (cur ++ [b]) acc (by rw [h]; simp) ha
    rw [← f3] at n
    refine Ev.step (f := fun k => spec_l4Cut.j1 k s 44 acc (done.length : Int) q ((done ++ cur).length : Int) false) (fun k => ?_) (Ev.step (fun k => ?_) n)
    · simp only [spec_l4Cut.l0]
      rw [if_pos f1]
      cases q
      · rfl
      · have : (b == 92) = false := beq_eq_false_iff_ne.mpr (fun z => g1 ⟨rfl, z⟩)
        rw [if_pos rfl, if_pos (by omega), f2, this]
    · simp only [spec_l4Cut.j1]
      rw [if_neg (by simp), if_pos (by omega), if_pos f1, if_neg (by rw [f2]; exact g2)]
      cases q
      · rw [if_neg (by simp), if_neg (by rw [f2]; exact fun z => g3 ⟨rfl, z⟩)]
      · rw [if_pos rfl]
theorem spec_Split_ev (s : ByteArray) (hs : s.size ≤ 1099511627776) : Ev (fun k => spec_SplitList.f k s) (splitV s) := by
  have h0 := spec_Cut_loop s hs false (bytesOf s) [] [] [] (by simp) (by simp)
  unfold spec_SplitList.f spec_l4Cut.f
  refine Ev.bind h0 ?_
  simp only [List.nil_append]
  rw [splitV_parts]
  have hin : ∀ m ∈ cutL false [] (bytesOf s), InB m := fun m hm => cutL_mem false (bytesOf s) [] (fun x => 0 ≤ x ∧ x ≤ 255) (by simp) (InB_bytes s) m hm
  have htot := cutL_total false (bytesOf s) []
  rw [bytesOf_length] at htot
  simp only [List.length_nil] at htot
  have hsz : ∀ m ∈ cutL false [] (bytesOf s), m.length ≤ 2 * s.size + 2 := by
    intro m hm
    have := mem_len_le hm
    omega
  generalize hM : cutL false [] (bytesOf s) = M at hin htot hsz ⊢
  have key : ∀ (rest pre : List (List Int)), M = pre ++ rest → Ev (fun k => spec_SplitList.l0 k (M.map strOfNums) (partsV pre) (pre.length : Int)) (partsV M) := by
    intro rest
    induction rest with
    | nil =>
      intro pre h
      have hl := len_mid h
      simp only [List.length_nil] at hl
      have e : pre = M := by rw [h]; simp
      refine Ev.step (f := fun _ => some (partsV M)) (fun k => ?_) (Ev.now _)
      simp only [spec_SplitList.l0]
      rw [if_neg (by rw [List.length_map]; omega), e]
    | cons x rest ih =>
      intro pre h
      have hl := len_mid h
      simp only [List.length_cons] at hl
      have hxM : x ∈ M := by rw [h]; simp
      have hx : rdOf ByteArray.empty (M.map strOfNums) (pre.length : Int) = strOfNums x := by
        have h2 : M.map strOfNums = pre.map strOfNums ++ strOfNums x :: rest.map strOfNums := by rw [h]; simp
        have := rdS_mid2 h2
        simpa using this
      have hw := len_step pre x (by omega)
      have n := ih (pre ++ [x]) (by simp [h])
      rw [partsV_append, partsV_cons, partsV_nil, List.append_nil] at n
      have hpl := partsV_len pre
      have hsx := hsz x hxM
      refine Ev.step (f := fun k => (spec_TrimText.f k (strOfNums x)).bind fun t => if t.toList = ([] : List UInt8) then spec_SplitList.l0 k (M.map strOfNums) (partsV pre) ((pre ++ [x]).length : Int) else spec_SplitList.l0 k (M.map strOfNums) (partsV pre ++ [t]) ((pre ++ [x]).length : Int)) (fun k => ?_) (Ev.bind (spec_Trim_ev _ (by rw [strOfNums_size]; omega)) ?_)
      · simp only [spec_SplitList.l0]
        rw [if_pos (by rw [List.length_map]; omega), if_pos (by omega), hx, hw]
        congr 1; funext t
        rw [if_pos (show (partsV pre).length < 8796093022208 by omega)]
      · rw [trimV_of (hin x hxM)]
        by_cases g : trimP blankI x = []
        · rw [if_pos g, List.append_nil] at n
          exact Ev.pos (strOf_nil.mpr g) n
        · rw [if_neg g] at n
          exact Ev.neg (fun z => g (strOf_nil.mp z)) n
  exact key M [] rfl
theorem spec_PD_part (p : ByteArray) (hp : p.size ≤ 4000000) (L : List ByteArray) (acc : List S53) (ha : acc.length ≤ 2000000) (i : Int) (h0 : 0 ≤ i) (h1 : i < (L.length : Int)) (hx : rdOf ByteArray.empty L i = p) (R : List S53)
    (e : Ev (fun k => spec_ParseDirectives.l0 k L (acc ++ dirOf p) (wrap64 (i + 1))) R) : Ev (fun k => spec_ParseDirectives.l0 k L acc i) R := by
  have hz := pair_sizes p
  have skip : dirOf p = [] → Ev (fun k => spec_ParseDirectives.l0 k L acc (wrap64 (i + 1))) R := fun h => by rw [h, List.append_nil] at e; exact e
  have hn : Ev (fun k => spec_IsToken.f k (lowerV (pairV p).1)) (tokV (pairV p).1) := by
    have := spec_IsToken_ev (lowerV (pairV p).1) (by rw [lower_size]; omega)
    rwa [tok_lower] at this
  have plain : ¬ ((pairV p).2.2 = true ∧ isQuo (pairV p).2.1 = true) → Ev (fun k => spec_ParseDirectives.j1 k L acc i (pairV p).2.1 (pairV p).2.2 false (lowerV (pairV p).1) (pairV p).2.1 (pairV p).2.2) R := by
    intro hq
    have fin : ((pairV p).2.2 = true → tokV (pairV p).2.1 = true) → Ev (fun k => spec_ParseDirectives.j2 k L acc i false (lowerV (pairV p).1) (pairV p).2.1 (pairV p).2.2) R := by
      intro hf
      refine Ev.step (f := fun k => (spec_IsToken.f k (lowerV (pairV p).1)).bind fun t => if t = true then spec_ParseDirectives.l0 k L (acc ++ [(⟨lowerV (pairV p).1, (pairV p).2.1, (pairV p).2.2⟩ : S53)]) (wrap64 (i + 1)) else spec_ParseDirectives.l0 k L acc (wrap64 (i + 1))) (fun k => ?_) (Ev.bind hn ?_)
      · simp only [spec_ParseDirectives.j2]
        rw [if_neg (by simp)]
        congr 1; funext t
        rw [if_pos (show acc.length < 3518437208883 by omega)]
      · by_cases g : tokV (pairV p).1 = true
        · have : dirOf p = [⟨lowerV (pairV p).1, (pairV p).2.1, (pairV p).2.2⟩] := by unfold dirOf; rw [if_neg hq, if_pos ⟨hf, g⟩]
          rw [this] at e
          exact Ev.pos g e
        · exact Ev.neg g (skip (by unfold dirOf; rw [if_neg hq, if_neg (fun z => g z.2)]))
    by_cases hh : (pairV p).2.2 = true
    · refine Ev.step (f := fun k => (spec_IsToken.f k (pairV p).2.1).bind fun t => spec_ParseDirectives.j2 k L acc i (!t) (lowerV (pairV p).1) (pairV p).2.1 (pairV p).2.2) (fun k => ?_) (Ev.bind (spec_IsToken_ev _ (by omega)) ?_)
      · simp only [spec_ParseDirectives.j1]
        rw [if_neg (by simp), if_pos hh]
      · cases ht : tokV (pairV p).2.1 with
        | true => exact fin (fun _ => ht)
        | false =>
          refine Ev.step (fun k => ?_) (skip (by unfold dirOf; rw [if_neg hq, if_neg (fun z => by have := z.1 hh; rw [ht] at this; simp at this)]))
          simp only [spec_ParseDirectives.j2, Bool.not_false]
          rw [if_pos trivial]
    · refine Ev.step (fun k => ?_) (fin (fun z => absurd z hh))
      simp only [spec_ParseDirectives.j1]
      rw [if_neg (by simp), if_neg hh]
  refine Ev.step (f := fun k => (spec_SplitPair.f k p).bind fun bt151 => ((spec_LowerText.f bt151.1).bind fun t154 => (if bt151.2.2 = true then (if (bt151.2.1.size : Int) > 0 then (if 0 < (bt151.2.1.size : Int) then (spec_ParseDirectives.j1 k L acc i bt151.2.1 bt151.2.2 ((bt bt151.2.1 0) == 34) t154 bt151.2.1 bt151.2.2) else (none)) else (spec_ParseDirectives.j1 k L acc i bt151.2.1 bt151.2.2 false t154 bt151.2.1 bt151.2.2)) else (spec_ParseDirectives.j1 k L acc i bt151.2.1 bt151.2.2 false t154 bt151.2.1 bt151.2.2)))) (fun k => ?_) (Ev.bind (spec_Pair_ev p (by omega)) ?_)
  · simp only [spec_ParseDirectives.l0]
    rw [if_pos h1, if_pos h0, hx]
  · rw [spec_Lower_eq _ (by omega)]
    simp only [Option.bind_some]
    by_cases hh : (pairV p).2.2 = true
    · refine Ev.pos hh ?_
      by_cases hs : ((pairV p).2.1.size : Int) > 0
      · refine Ev.pos hs (Ev.pos (by omega) ?_)
        rw [isQuo_bt _ (by omega)]
        cases hq : isQuo (pairV p).2.1 with
        | false => exact plain (fun z => by rw [hq] at z; simp at z)
        | true =>
          refine Ev.step (f := fun k => (spec_UnquoteText.f k (pairV p).2.1).bind fun t => if t.2 = true then ((spec_IsToken.f k (lowerV (pairV p).1)).bind fun u => if u = true then spec_ParseDirectives.l0 k L (acc ++ [(⟨lowerV (pairV p).1, t.1, (pairV p).2.2⟩ : S53)]) (wrap64 (i + 1)) else spec_ParseDirectives.l0 k L acc (wrap64 (i + 1))) else spec_ParseDirectives.l0 k L acc (wrap64 (i + 1))) (fun k => ?_) (Ev.bind (spec_Unq_ev _ (by omega)) ?_)
          · simp only [spec_ParseDirectives.j1]
            rw [if_pos trivial]
            congr 1; funext t; congr 1; congr 1; funext u
            rw [if_pos (show acc.length < 3518437208883 by omega)]
          · by_cases hu : (unqV (pairV p).2.1).2 = true
            · refine Ev.pos hu (Ev.bind hn ?_)
              by_cases g : tokV (pairV p).1 = true
              · have : dirOf p = [⟨lowerV (pairV p).1, (unqV (pairV p).2.1).1, (pairV p).2.2⟩] := by unfold dirOf; rw [if_pos ⟨hh, hq⟩, if_pos ⟨hu, g⟩]
                rw [this] at e
                exact Ev.pos g e
              · exact Ev.neg g (skip (by unfold dirOf; rw [if_pos ⟨hh, hq⟩, if_neg (fun z => g z.2)]))
            · exact Ev.neg hu (skip (by unfold dirOf; rw [if_pos ⟨hh, hq⟩, if_neg (fun z => hu z.1)]))
      · refine Ev.neg hs (plain (fun z => by rw [isQuo_nil hs] at z; simp at z))
    · exact Ev.neg hh (plain (fun z => hh z.1))
theorem spec_PD_ev (s : ByteArray) (hs : s.size ≤ 1048576) : Ev (fun k => spec_ParseDirectives.f k s) (pdV s) := by
  unfold spec_ParseDirectives.f
  refine Ev.bind (spec_Split_ev s (by omega)) ?_
  have h1 := split_sizes s
  have h2 := split_count s
  unfold pdV
  generalize splitV s = L at h1 h2
  have key : ∀ (rest pre : List ByteArray), L = pre ++ rest → Ev (fun k => spec_ParseDirectives.l0 k L (pre.flatMap dirOf) (pre.length : Int)) (L.flatMap dirOf) := by
    intro rest
    induction rest with
    | nil =>
      intro pre h
      have hl2 := len_mid h
      simp only [List.length_nil] at hl2
      have e : pre = L := by rw [h]; simp
      subst e
      refine Ev.step (f := fun _ => some (pre.flatMap dirOf)) (fun k => ?_) (Ev.now _)
      simp only [spec_ParseDirectives.l0]
      rw [if_neg (by omega)]
    | cons x rest ih =>
      intro pre h
      have hl2 := len_mid h
      simp only [List.length_cons] at hl2
      have hst := len_step pre x (by omega)
      have hp := pd_len pre
      have hx := h1 x (by rw [h]; simp)
      refine spec_PD_part x (by omega) L _ (by omega) _ (by omega) (by omega) (rdS_mid2 h) _ ?_
      have := ih (pre ++ [x]) (by simp [h])
      rw [List.flatMap_append] at this
      rw [hst]
      simpa using this
  exact key L [] rfl
theorem strings_Cut_eq (s sep : ByteArray) (hs : s.size < 4294967281) (hp : bytesOf sep ≠ []) : strings_Cut.f s sep = some (cutV (bytesOf sep) s) := by
  have hp2 : sep.data.toList ≠ [] := fun z => hp (by unfold bytesOf; rw [z]; rfl)
  obtain ⟨h1, h2, h3⟩ := libcut_map s.data.toList sep.data.toList hp2
  unfold strings_Cut.f cutV
  rw [if_pos hs]
  have e : ∀ (l : List UInt8) (m : List Int), (l.map fun b => (b.toNat : Int)) = m → (⟨l.toArray⟩ : ByteArray) = strOfNums m := by
    intro l m h
    have hb : bytesOf ⟨l.toArray⟩ = m := h
    rw [← hb, strOf_bytesOf]
  rw [e _ _ h1, e _ _ h2, h3]
  rfl
theorem bytesOf_mk (l : List UInt8) : bytesOf ⟨l.toArray⟩ = l.map fun b => (b.toNat : Int) := rfl
theorem mk_of_bytes {l : List UInt8} {m : List Int} (h : (l.map fun b => (b.toNat : Int)) = m) : (⟨l.toArray⟩ : ByteArray) = strOfNums m := by
  apply bytesOf_inj
  rw [bytesOf_mk, h, bytesOf_strOf]
  subst h
  exact InB_bytes ⟨l.toArray⟩
theorem trimLeftS_map (l cs : List UInt8) : ((Lib.trimLeftS l cs).map fun b => (b.toNat : Int)) = (l.map fun b => (b.toNat : Int)).dropWhile (fun x => (cs.map fun b => (b.toNat : Int)).contains x) := by
  unfold Lib.trimLeftS
  induction l with
  | nil => rfl
  | cons b r ih =>
    have e : ((cs.map fun b => (b.toNat : Int)).contains (b.toNat : Int)) = cs.contains b := by
      rw [Bool.eq_iff_iff, List.contains_iff_mem, List.contains_iff_mem, List.mem_map]
      constructor
      · rintro ⟨c, hc, hcb⟩
        have : c = b := UInt8.toNat_inj.1 (by omega)
        exact this ▸ hc
      · exact fun h => ⟨b, h, rfl⟩
    simp only [List.dropWhile_cons, List.map_cons, e]
    split
    · exact ih
    · rfl
theorem trimS_map (l cs : List UInt8) : ((Lib.trimS l cs).map fun b => (b.toNat : Int)) = trimP (fun x => (cs.map fun b => (b.toNat : Int)).contains x) (l.map fun b => (b.toNat : Int)) := by
  have e : ((Lib.trimRightS l cs).map fun b => (b.toNat : Int)) = rdropI (fun x => (cs.map fun b => (b.toNat : Int)).contains x) (l.map fun b => (b.toNat : Int)) := by
    rw [← rdropI_eq, ← List.map_reverse, ← trimLeftS_map, ← List.map_reverse]
    rfl
  unfold Lib.trimS trimP
  rw [trimLeftS_map, e]
theorem strings_Trim_eq (s cs : ByteArray) (hs : s.size ≤ 4611686018427387904) (hc : cs.size < 4294967281) (ha : cs.data.toList.all (fun b => decide (b.toNat < 128)) = true) :
    strings_Trim.f s cs = some (strOfNums (trimP (fun x => (bytesOf cs).contains x) (bytesOf s))) := by
  unfold strings_Trim.f
  rw [if_pos ⟨hs, hc, ha⟩, mk_of_bytes (trimS_map _ _)]
  rfl
theorem impl_Trim_eq (s : ByteArray) (hs : s.size ≤ 4611686018427387904) : impl_TrimText.f s = some (trimV s) := by
  unfold impl_TrimText.f
  rw [strings_Trim_eq s ⟨#[32, 9]⟩ hs (by decide) (by decide), Option.bind_some]
  unfold trimV
  congr 3
  funext x
  have e : bytesOf ⟨#[32, 9]⟩ = [32, 9] := by decide
  rw [e]
  unfold blankI
  by_cases h : x = 32 <;> by_cases g : x = 9 <;> simp [h, g]
theorem cut_len (sep l : List Int) : (cutI sep l).1.length ≤ l.length ∧ (cutI sep l).2.1.length ≤ l.length := by
  induction l with
  | nil => simp [cutI]
  | cons b r ih =>
    unfold cutI
    split
    · simp
    · simp only [List.length_cons]; omega
theorem cutV_size (sep : List Int) (s : ByteArray) : (cutV sep s).1.size ≤ s.size ∧ (cutV sep s).2.1.size ≤ s.size := by
  have := cut_len sep (bytesOf s)
  unfold cutV
  simp only [strOfNums_size]
  rw [bytesOf_length] at this
  exact this
theorem impl_Pair_eq (s : ByteArray) (hs : s.size ≤ 4000000000) : impl_SplitPair.f s = some (pairV s) := by
  have hz := cutV_size [61] s
  unfold impl_SplitPair.f
  rw [strings_Cut_eq s ⟨#[61]⟩ (by omega) (by decide)]
  have e : bytesOf (⟨#[61]⟩ : ByteArray) = [61] := by decide
  rw [e, Option.bind_some, impl_Trim_eq _ (by omega), Option.bind_some, impl_Trim_eq _ (by omega), Option.bind_some]
  rfl
theorem impl_Lower_eq (s : ByteArray) (h : s.size ≤ 4611686018427387904) : impl_LowerText.f s = some (lowerV s) := by unfold impl_LowerText.f; rw [if_pos h]; rfl
theorem impl_inRange_eq (a b c : Int) : impl_inRange.f a b c = some (decide (b ≤ a ∧ a ≤ c)) := by
  unfold impl_inRange.f
  by_cases h : b ≤ a
  · rw [if_pos h]; congr 1; apply decide_eq_decide.mpr; constructor
    · exact fun x => ⟨h, x⟩
    · exact fun x => x.2
  · rw [if_neg h]; congr 1; symm; apply decide_eq_false; omega
theorem impl_tok_fin : ∀ n : Fin 256, impl_isTokenByte.f (n.val : Int) = some (tokB (n.val : Int)) := by decide +kernel
theorem impl_tok_eq {b : Int} (h0 : 0 ≤ b) (h1 : b ≤ 255) : impl_isTokenByte.f b = some (tokB b) := fin256 (p := fun b => impl_isTokenByte.f b = some (tokB b)) impl_tok_fin h0 h1
theorem impl_IsToken_ev (s : ByteArray) (hs : s.size ≤ 4611686018427387904) : Ev (fun k => impl_IsToken.f k s) (tokV s) := by
  have key : ∀ (rest pre : List Int), bytesOf s = pre ++ rest → Ev (fun k => impl_IsToken.l0 k s (s.size : Int) (pre.length : Int)) (rest.all tokB && decide (1 ≤ (s.size : Int) ∧ (s.size : Int) ≤ 40)) := by
    intro rest
    induction rest with
    | nil =>
      intro pre h
      have hz := size_mid h
      simp only [List.length_nil] at hz
      refine Ev.step (f := fun _ => some (decide (1 ≤ (s.size : Int) ∧ (s.size : Int) ≤ 40))) (fun k => ?_) (by simpa using Ev.now _)
      simp only [impl_IsToken.l0]
      rw [if_neg (by omega), impl_inRange_eq, Option.bind_some]
    | cons b rest ih =>
      intro pre h
      have hz := size_mid h
      simp only [List.length_cons] at hz
      have hb := bt_mid h
      have hr : 0 ≤ b ∧ b ≤ 255 := by rw [← hb]; exact bt_range s _
      have hw := len_step pre b (by omega)
      refine Ev.step (f := fun k => if tokB b = true then impl_IsToken.l0 k s (s.size : Int) ((pre ++ [b]).length : Int) else some false) (fun k => ?_) ?_
      · simp only [impl_IsToken.l0]
        rw [if_pos (by omega), if_pos (by omega), if_pos (by omega), hb, hw, impl_tok_eq hr.1 hr.2, Option.bind_some]
      · cases e : tokB b with
        | true => simpa [e] using ih (pre ++ [b]) (by simp [h])
        | false => simpa [e] using Ev.now _
  exact key (bytesOf s) [] rfl
theorem hasQuote (s : ByteArray) (hs : s.size ≤ 140737488351232) : strings_HasPrefix.f s (⟨#[34]⟩ : ByteArray) = some (decide ((bytesOf s).head? = some 34)) := by
  unfold strings_HasPrefix.f stringslite_HasPrefix.f
  have e : ((⟨#[34]⟩ : ByteArray).size : Int) = 1 := rfl
  rw [e]
  match h : bytesOf s with
  | [] =>
    have hz := size_bytes s
    rw [h] at hz
    simp only [List.length_nil] at hz
    rw [if_neg (by omega)]; rfl
  | b :: r =>
    have hz := size_bytes s
    rw [h] at hz
    simp only [List.length_cons] at hz
    rw [if_pos (by omega), if_pos (by omega), if_pos (by omega), Option.bind_some]
    congr 1
    rw [Bool.eq_iff_iff, beq_iff_eq, decide_eq_true_iff, toList_iff]
    have e2 : bytesOf (s.extract 0 ((1 : Int) : Int).toNat) = [b] := by
      rw [bytesOf_extract, h]; rfl
    have e3 : bytesOf (⟨#[34]⟩ : ByteArray) = [34] := by decide
    constructor
    · intro hh
      rw [hh, e3] at e2
      injection e2 with e2
      simp [← e2]
    · intro hh
      apply bytesOf_inj
      rw [e2, e3]
      simp at hh
      rw [hh]
theorem impl_Unq_end (s : ByteArray) (hs : s.size ≤ 140737488351232) (f : Int) (pre acc rest : List Int) (h : bytesOf s = f :: (pre ++ rest)) (hq : rest = [] ∨ ∃ r, rest = 34 :: r) :
    Ev (fun k => impl_UnquoteText.j1 k s acc (((f :: pre).length : Nat) : Int) false) (unqR f acc rest) := by
  have hz := size_mid (pre := f :: pre) (rest := rest) h
  simp only [List.length_cons] at hz
  refine Ev.step (f := fun _ => some (unqR f acc rest)) (fun k => ?_) (Ev.now _)
  simp only [impl_UnquoteText.j1]
  rw [if_neg (by simp), hasQuote s hs, Option.bind_some, h]
  simp only [List.head?_cons, Option.some.injEq, decide_eq_true_eq]
  rcases hq with rfl | ⟨r, rfl⟩
  · simp only [List.length_nil] at hz
    rw [unqR_nil]
    split
    · congr 2
      rw [wrap_id (by omega) (by omega), beq_eq_false_iff_ne]
      simp only [List.length_cons]
      omega
    · rfl
  · simp only [List.length_cons] at hz
    rw [unqR_quote]
    split
    · rename_i hf
      congr 2
      rw [wrap_id (by omega) (by omega), Bool.eq_iff_iff, beq_iff_eq, decide_eq_true_iff]
      simp only [List.length_cons, hf, true_and]
      omega
    · rename_i hf
      simp [hf]
theorem impl_Unq_loop (s : ByteArray) (hs : s.size ≤ 140737488351232) (f : Int) (n : Nat) : ∀ (pre acc rest : List Int), rest.length ≤ n → bytesOf s = f :: (pre ++ rest) → acc.length ≤ pre.length →
    Ev (fun k => impl_UnquoteText.l0 k s acc (((f :: pre).length : Nat) : Int)) (unqR f acc rest) := by
  induction n with
  | zero =>
    intro pre acc rest hr h ha
    obtain rfl : rest = [] := List.eq_nil_of_length_eq_zero (by omega)
    have hz := size_mid (pre := f :: pre) (rest := []) h
    simp only [List.length_nil, List.length_cons] at hz
    refine Ev.step (f := fun k => impl_UnquoteText.j1 k s acc (((f :: pre).length : Nat) : Int) false) (fun k => ?_) (impl_Unq_end s hs f pre acc [] h (.inl rfl))
    simp only [impl_UnquoteText.l0, List.length_cons]
    rw [if_neg (by omega)]
  | succ n ih =>
    intro pre acc rest hr h ha
    match rest, hr with
    | [], _ => exact ih pre acc [] (by simp) h ha
    | b :: rest, hr =>
      have hz := size_mid (pre := f :: pre) (rest := b :: rest) h
      simp only [List.length_cons] at hz hr
      have hb := bt_mid (pre := f :: pre) (rest := rest) h
      have hw := len_step (f :: pre) b (by simp; omega)
      refine Ev.step (f := fun k => impl_UnquoteText.j1 k s acc (((f :: pre).length : Nat) : Int) (b != 34)) (fun k => ?_) ?_
      · simp only [impl_UnquoteText.l0]
        rw [if_pos (by simp; omega), if_pos (by omega), hb]
      by_cases h1 : b = 34
      · subst h1
        exact impl_Unq_end s hs f pre acc (34 :: rest) h (.inr ⟨rest, rfl⟩)
      · have hbn : (b != 34) = true := bne_iff_ne.mpr h1
        rw [hbn]
        by_cases h2 : b = 92
        · subst h2
          match rest, h, hz, hr, hb with
          | [], h, hz, hr, hb =>
            simp only [List.length_nil] at hz
            rw [unqR_last]
            have e := ih (pre ++ [92]) (acc ++ [92]) [] (by simp) (by simpa using h) (by simp; omega)
            rw [unqR_nil] at e
            refine Ev.step (f := fun k => impl_UnquoteText.l0 k s (acc ++ [92]) ((((f :: (pre ++ [92])).length : Nat)) : Int)) (fun k => ?_) e
            simp only [impl_UnquoteText.j1]
            rw [if_pos trivial, if_pos (by omega), if_pos (by simp; omega), hb, if_pos rfl, hw, if_neg (by simp; omega), if_pos (by omega)]
            rfl
          | c :: rest, h, hz, hr, hb =>
            simp only [List.length_cons] at hz hr
            have hc := bt_mid (s := s) (pre := (f :: pre) ++ [92]) (rest := rest) (b := c) (by simpa using h)
            have hw2 := len_step ((f :: pre) ++ [92]) c (by simp; omega)
            rw [unqR_esc]
            have e := ih (pre ++ [92, c]) (acc ++ [c]) rest (by omega) (by simpa using h) (by simp; omega)
            refine Ev.step (f := fun k => impl_UnquoteText.l0 k s (acc ++ [c]) ((((f :: (pre ++ [92, c])).length : Nat)) : Int)) (fun k => ?_) e
            simp only [impl_UnquoteText.j1]
            rw [if_pos trivial, if_pos (by omega), if_pos (by simp; omega), hb, if_pos rfl, hw, if_pos (by simp; omega), if_pos (by omega), if_pos (by omega), hc, hw2]
            simp
        · rw [unqR_other f acc rest b h1 h2]
          have e := ih (pre ++ [b]) (acc ++ [b]) rest (by omega) (by simpa using h) (by simp; omega)
          refine Ev.step (f := fun k => impl_UnquoteText.l0 k s (acc ++ [b]) ((((f :: (pre ++ [b])).length : Nat)) : Int)) (fun k => ?_) e
          simp only [impl_UnquoteText.j1]
          rw [if_pos trivial, if_pos (by omega), if_pos (by simp; omega), hb, if_neg h2, if_pos (by omega), hw]
          rfl
theorem impl_Unq_ev (s : ByteArray) (hs : s.size ≤ 140737488351232) : Ev (fun k => impl_UnquoteText.f k s) (unqV s) := by
  unfold impl_UnquoteText.f unqV
  match h : bytesOf s with
  | [] =>
    have hz := size_bytes s
    rw [h] at hz
    simp only [List.length_nil] at hz
    refine Ev.step (f := fun k => impl_UnquoteText.j1 k s [] 1 false) (fun k => ?_) (Ev.step (f := fun _ => some (strOfNums [], false)) (fun k => ?_) (by simpa [unqL_nil] using Ev.now _))
    · simp only [impl_UnquoteText.l0]
      rw [if_neg (by omega)]
    · simp only [impl_UnquoteText.j1]
      rw [if_neg (by simp), hasQuote s hs, Option.bind_some, h]
      simp
  | f :: rest =>
    have := impl_Unq_loop s hs f rest.length [] [] rest (Nat.le_refl _) h (by simp)
    simpa [unqR] using this
theorem mn_min (a b : Int) : mn a b = min a b := by unfold mn; split <;> omega
theorem impl_Split_loop (s : ByteArray) (hs : s.size ≤ 1099511627776) (q : Bool) (rest : List Int) : ∀ (done cur : List Int) (acc : List ByteArray), bytesOf s = done ++ cur ++ rest → acc.length ≤ done.length →
    Ev (fun k => impl_SplitList.l0 k s acc (done.length : Int) q ((done ++ cur).length : Int)) (acc ++ partsV (cutL q cur rest)) := by
  have hin : ∀ {pre cur rest : List Int}, bytesOf s = pre ++ cur ++ rest → InB cur := by
    intro pre cur rest h
    have := InB_bytes s; rw [h, InB_append, InB_append] at this; exact this.1.2
  have trim1 : ∀ {pre cur rest : List Int}, bytesOf s = pre ++ cur ++ rest → impl_TrimText.f (s.extract pre.length (pre.length + cur.length)) = some (strOfNums (trimP blankI cur)) := by
    intro pre cur rest h
    have hz : (s.extract pre.length (pre.length + cur.length)).size ≤ s.size := by rw [ByteArray.size_extract]; omega
    rw [impl_Trim_eq _ (by omega), ext_mid h, trimV_of (hin h)]
  have facts : ∀ {done cur rest : List Int} {b : Int}, bytesOf s = done ++ cur ++ b :: rest → ((done ++ cur).length : Int) < (s.size : Int) ∧ bt s ((done ++ cur).length : Int) = b ∧ wrap64 (((done ++ cur).length : Int) + 1) = ((done ++ (cur ++ [b])).length : Int) ∧ (s.size : Int) = (done ++ cur).length + (rest.length + 1) := by
    intro done cur rest b h
    have hz := size_mid h
    simp only [List.length_cons] at hz
    refine ⟨by omega, bt_mid h, ?_, by omega⟩
    have := len_step (done ++ cur) b (by omega)
    rw [this, List.append_assoc]
  have over : ∀ (q : Bool) (done : List Int) (acc : List ByteArray) (i : Int), (s.size : Int) < i → (s.size : Int) ≤ done.length → Ev (fun k => impl_SplitList.l0 k s acc (done.length : Int) q i) acc := by
    intro q done acc i hi hd
    refine Ev.step (f := fun _ => some acc) (fun k => ?_) (Ev.now _)
    simp only [impl_SplitList.l0]
    rw [if_neg (by omega), if_neg (by omega)]
  refine cut_ind (p := fun q rest => ∀ (done cur : List Int) (acc : List ByteArray), bytesOf s = done ++ cur ++ rest → acc.length ≤ done.length → Ev (fun k => impl_SplitList.l0 k s acc (done.length : Int) q ((done ++ cur).length : Int)) (acc ++ partsV (cutL q cur rest))) ?_ ?_ ?_ ?_ ?_ ?_ q rest
  · intro q done cur acc h ha
    rw [cutL_nil]
    have hz := size_mid h
    simp only [List.length_nil] at hz
    have hL : (done ++ cur).length = done.length + cur.length := List.length_append
    have hw : wrap64 (((done ++ cur).length : Int) + 1) = ((done ++ cur ++ [0]).length : Int) := len_step (done ++ cur) 0 (by omega)
    have hn1 : ((done.length : Int)).toNat = done.length := by omega
    have hn2 : (((done ++ cur).length : Int)).toNat = done.length + cur.length := by simp only [List.length_append]; omega
    have hm : mn ((done ++ cur).length : Int) (s.size : Int) = ((done ++ cur).length : Int) := by rw [mn_min]; omega
    rw [partsV_cons, partsV_nil, List.append_nil]
    refine Ev.step (f := fun k => impl_SplitList.j1 k s acc (done.length : Int) q ((done ++ cur).length : Int) false) (fun k => ?_) ?_
    · simp only [impl_SplitList.l0]
      rw [if_pos (by omega), if_neg (by omega)]
    · by_cases g : trimP blankI cur = []
      · rw [if_pos g, List.append_nil]
        refine Ev.step (f := fun k => impl_SplitList.l0 k s acc ((done ++ cur ++ [0]).length : Int) q ((done ++ cur ++ [0]).length : Int)) (fun k => ?_) (over q (done ++ cur ++ [0]) acc _ (by simp at hz ⊢; omega) (by simp at hz ⊢; omega))
        simp only [impl_SplitList.j1]
        rw [if_neg (by simp), if_pos (by omega), hm, if_pos (by omega), if_pos (by omega), hn1, hn2, trim1 h, Option.bind_some, if_pos (strOf_nil.mpr g), hw]
      · rw [if_neg g]
        refine Ev.step (f := fun k => impl_SplitList.l0 k s (acc ++ [strOfNums (trimP blankI cur)]) ((done ++ cur ++ [0]).length : Int) q ((done ++ cur ++ [0]).length : Int)) (fun k => ?_) (over q (done ++ cur ++ [0]) _ _ (by simp at hz ⊢; omega) (by simp at hz ⊢; omega))
        simp only [impl_SplitList.j1]
        rw [if_neg (by simp), if_pos (by omega), hm, if_pos (by omega), if_pos (by omega), hn1, hn2, trim1 h, Option.bind_some, if_neg (fun z => g (strOf_nil.mp z)), if_pos (by omega), hw]
  · intro done cur acc h ha
    obtain ⟨f1, f2, f3, f4⟩ := facts h
    rw [cutL_last]
    simp only [List.length_nil] at f4
    have hL : (done ++ cur).length = done.length + cur.length := List.length_append
    have e : wrap64 ((wrap64 (((done ++ cur).length : Int) + 1)) + 1) = (s.size : Int) + 1 := by
      rw [f3, wrap_id (by omega) (by simp at f4 ⊢; omega)]; simp at f4 ⊢; omega
    have h2 : bytesOf s = done ++ (cur ++ [92]) := by rw [h]; simp
    have hz2 : s.size = done.length + (cur ++ [92]).length := by rw [← bytesOf_length, h2, List.length_append]
    have hn1 : ((done.length : Int)).toNat = done.length := by omega
    have tr : impl_TrimText.f (s.extract done.length s.size) = some (strOfNums (trimP blankI (cur ++ [92]))) := by
      have := trim1 (pre := done) (cur := cur ++ [92]) (rest := []) (by simpa using h2)
      rwa [← hz2] at this
    refine Ev.step (f := fun k => impl_SplitList.j1 k s acc (done.length : Int) true ((done ++ cur).length : Int) true) (fun k => ?_) (Ev.step (f := fun k => impl_SplitList.j2 k s acc (done.length : Int) true ((done ++ cur).length : Int)) (fun k => ?_) (Ev.step (f := fun k => impl_SplitList.j3 k s acc (done.length : Int) true ((done ++ cur).length : Int) true) (fun k => ?_) (Ev.step (f := fun k => impl_SplitList.l0 k s acc (done.length : Int) true ((s.size : Int) + 1)) (fun k => ?_) (Ev.step (f := fun _ => some (acc ++ partsV [cur ++ [92]])) (fun k => ?_) (Ev.now _)))))
    · simp only [impl_SplitList.l0]
      rw [if_pos (by omega), if_pos f1, if_pos trivial]
    · simp only [impl_SplitList.j1]
      rw [if_pos trivial, if_pos (by omega), if_pos f1, if_neg (by rw [f2]; decide)]
    · simp only [impl_SplitList.j2]
      rw [if_pos trivial, if_pos (by omega), if_pos f1, f2]; rfl
    · simp only [impl_SplitList.j3]
      rw [if_pos trivial, e]
    · simp only [impl_SplitList.l0]
      rw [if_neg (by omega), if_pos (by omega), if_pos (by omega), if_pos (by omega), hn1, tr, Option.bind_some, partsV_cons, partsV_nil, List.append_nil]
      by_cases g : trimP blankI (cur ++ [92]) = []
      · rw [if_pos (strOf_nil.mpr g), if_pos g, List.append_nil]
      · rw [if_neg (fun z => g (strOf_nil.mp z)), if_neg g, if_pos (by omega)]
  · intro c r ih done cur acc h ha
    obtain ⟨f1, f2, f3, f4⟩ := facts h
    rw [cutL_esc]
    have n := ih done (cur ++ [92, c]) acc (by rw [h]; simp) ha
    have e : wrap64 ((wrap64 (((done ++ cur).length : Int) + 1)) + 1) = ((done ++ (cur ++ [92, c])).length : Int) := by
      rw [f3, wrap_id (by omega) (by simp at f4 ⊢; omega)]; simp; omega
    rw [← e] at n
    refine Ev.step (f := fun k => impl_SplitList.j1 k s acc (done.length : Int) true ((done ++ cur).length : Int) true) (fun k => ?_) (Ev.step (f := fun k => impl_SplitList.j2 k s acc (done.length : Int) true ((done ++ cur).length : Int)) (fun k => ?_) (Ev.step (f := fun k => impl_SplitList.j3 k s acc (done.length : Int) true ((done ++ cur).length : Int) true) (fun k => ?_) (Ev.step (fun k => ?_) n)))
    · simp only [impl_SplitList.l0]
      rw [if_pos (by omega), if_pos f1, if_pos trivial]
    · simp only [impl_SplitList.j1]
      rw [if_pos trivial, if_pos (by omega), if_pos f1, if_neg (by rw [f2]; decide)]
    · simp only [impl_SplitList.j2]
      rw [if_pos trivial, if_pos (by omega), if_pos f1, f2]; rfl
    · simp only [impl_SplitList.j3]
      rw [if_pos trivial]
  · intro q r ih done cur acc h ha
    obtain ⟨f1, f2, f3, f4⟩ := facts h
    rw [cutL_quote]
    have n := ih done (cur ++ [34]) acc (by rw [h]; simp) ha
    rw [← f3] at n
    refine Ev.step (f := fun k => impl_SplitList.j1 k s acc (done.length : Int) q ((done ++ cur).length : Int) true) (fun k => ?_) (Ev.step (f := fun k => impl_SplitList.j2 k s acc (done.length : Int) (!q) ((done ++ cur).length : Int)) (fun k => ?_) (Ev.step (f := fun k => impl_SplitList.j3 k s acc (done.length : Int) (!q) ((done ++ cur).length : Int) false) (fun k => ?_) (Ev.step (fun k => ?_) n)))
    · simp only [impl_SplitList.l0]
      rw [if_pos (by omega), if_pos f1]
      cases q
      · rw [if_neg (by simp), if_pos (by omega), f2]; rfl
      · rw [if_pos rfl]
    · simp only [impl_SplitList.j1]
      rw [if_pos trivial, if_pos (by omega), if_pos f1, if_pos f2]
    · simp only [impl_SplitList.j2]
      cases q
      · simp only [Bool.not_false]
        rw [if_pos trivial, if_pos (by omega), if_pos f1, f2]; rfl
      · simp
    · simp only [impl_SplitList.j3]
      rw [if_neg (by simp)]
  · intro r ih done cur acc h ha
    obtain ⟨f1, f2, f3, f4⟩ := facts h
    rw [cutL_comma]
    have hL : (done ++ cur).length = done.length + cur.length := List.length_append
    have hm : mn ((done ++ cur).length : Int) (s.size : Int) = ((done ++ cur).length : Int) := by rw [mn_min]; omega
    have hn1 : ((done.length : Int)).toNat = done.length := by omega
    have hn2 : (((done ++ cur).length : Int)).toNat = done.length + cur.length := by omega
    have tr := trim1 h
    rw [partsV_cons]
    refine Ev.step (f := fun k => impl_SplitList.j1 k s acc (done.length : Int) false ((done ++ cur).length : Int) false) (fun k => ?_) ?_
    · simp only [impl_SplitList.l0]
      rw [if_pos (by omega), if_pos f1, if_neg (by simp), if_pos (by omega), f2]; rfl
    · by_cases g : trimP blankI cur = []
      · rw [if_pos g, List.nil_append]
        have n := ih (done ++ (cur ++ [44])) [] acc (by rw [h]; simp) (by simp; omega)
        rw [List.append_nil, ← f3] at n
        refine Ev.step (fun k => ?_) n
        simp only [impl_SplitList.j1]
        rw [if_neg (by simp), if_pos (by omega), hm, if_pos (by omega), if_pos (by omega), hn1, hn2, tr, Option.bind_some, if_pos (strOf_nil.mpr g)]
      · rw [if_neg g]
        have n := ih (done ++ (cur ++ [44])) [] (acc ++ [strOfNums (trimP blankI cur)]) (by rw [h]; simp) (by simp; omega)
        rw [List.append_nil, ← f3, List.append_assoc] at n
        refine Ev.step (fun k => ?_) n
        simp only [impl_SplitList.j1]
        rw [if_neg (by simp), if_pos (by omega), hm, if_pos (by omega), if_pos (by omega), hn1, hn2, tr, Option.bind_some, if_neg (fun z => g (strOf_nil.mp z)), if_pos (by omega)]
  · intro q b r g1 g2 g3 ih done cur acc h ha
    obtain ⟨f1, f2, f3, f4⟩ := facts h
    rw [cutL_other q cur r b g1 g2 g3]
    have n := ih done (cur ++ [b]) acc (by rw [h]; simp) ha
    rw [← f3] at n
    refine Ev.step (f := fun k => impl_SplitList.j1 k s acc (done.length : Int) q ((done ++ cur).length : Int) true) (fun k => ?_) (Ev.step (f := fun k => impl_SplitList.j2 k s acc (done.length : Int) q ((done ++ cur).length : Int)) (fun k => ?_) (Ev.step (f := fun k => impl_SplitList.j3 k s acc (done.length : Int) q ((done ++ cur).length : Int) false) (fun k => ?_) (Ev.step (fun k => ?_) n)))
    · simp only [impl_SplitList.l0]
      rw [if_pos (by omega), if_pos f1]
      cases q
      · have : (b != 44) = true := bne_iff_ne.mpr (fun z => g3 ⟨rfl, z⟩)
        rw [if_neg (by simp), if_pos (by omega), f2, this]
      · rw [if_pos rfl]
    · simp only [impl_SplitList.j1]
      rw [if_pos trivial, if_pos (by omega), if_pos f1, if_neg (by rw [f2]; exact g2)]
    · simp only [impl_SplitList.j2]
      cases q
      · rfl
      · have : (b == 92) = false := beq_eq_false_iff_ne.mpr (fun z => g1 ⟨rfl, z⟩)
        rw [if_pos rfl, if_pos (by omega), if_pos f1, f2, this]
    · simp only [impl_SplitList.j3]
      rw [if_neg (by simp)]
theorem impl_Split_ev (s : ByteArray) (hs : s.size ≤ 1099511627776) : Ev (fun k => impl_SplitList.f k s) (splitV s) := by
  have := impl_Split_loop s hs false (bytesOf s) [] [] [] (by simp) (by simp)
  simpa [impl_SplitList.f, splitV_parts] using this
theorem impl_PD_part (p : ByteArray) (hp : p.size ≤ 4000000) (L : List ByteArray) (acc : List S53) (ha : acc.length ≤ 2000000) (i : Int) (h0 : 0 ≤ i) (h1 : i < (L.length : Int)) (hx : rdOf ByteArray.empty L i = p) (R : List S53)
    (e : Ev (fun k => impl_ParseDirectives.l0 k (acc ++ dirOf p) L (L.length : Int) (wrap64 (i + 1))) R) : Ev (fun k => impl_ParseDirectives.l0 k acc L (L.length : Int) i) R := by
  have hz := pair_sizes p
  have skip : dirOf p = [] → Ev (fun k => impl_ParseDirectives.l0 k acc L (L.length : Int) (wrap64 (i + 1))) R := fun h => by rw [h, List.append_nil] at e; exact e
  have hn := impl_IsToken_ev (pairV p).1 (by omega)
  have step2 : ∀ fine : Bool, ((pairV p).2.2 = true → fine = tokV (pairV p).2.1) → ((pairV p).2.2 = false → fine = true) → Ev (fun k => impl_ParseDirectives.j1 k acc (pairV p).1 (pairV p).2.1 (pairV p).2.2 fine L (L.length : Int) i (lowerV (pairV p).1) (pairV p).2.1 (pairV p).2.2) R := by
    intro fine hf1 hf2
    have plain : ¬ ((pairV p).2.2 = true ∧ isQuo (pairV p).2.1 = true) → Ev (fun k => impl_ParseDirectives.j2 k acc (pairV p).1 (pairV p).2.1 fine L (L.length : Int) i false (lowerV (pairV p).1) (pairV p).2.1 (pairV p).2.2) R := by
      intro hq
      cases hfine : fine with
      | true =>
        have hf : (pairV p).2.2 = true → tokV (pairV p).2.1 = true := fun z => by rw [← hf1 z]; exact hfine
        refine Ev.step (f := fun k => (impl_IsToken.f k (pairV p).1).bind fun t => if t = true then impl_ParseDirectives.l0 k (acc ++ [(⟨lowerV (pairV p).1, (pairV p).2.1, (pairV p).2.2⟩ : S53)]) L (L.length : Int) (wrap64 (i + 1)) else impl_ParseDirectives.l0 k acc L (L.length : Int) (wrap64 (i + 1))) (fun k => ?_) (Ev.bind hn ?_)
        · simp only [impl_ParseDirectives.j2]
          rw [if_neg (by simp), if_pos trivial]
          congr 1; funext t
          rw [if_pos (show acc.length < 3518437208883 by omega)]
        · by_cases g : tokV (pairV p).1 = true
          · have : dirOf p = [⟨lowerV (pairV p).1, (pairV p).2.1, (pairV p).2.2⟩] := by unfold dirOf; rw [if_neg hq, if_pos ⟨hf, g⟩]
            rw [this] at e
            exact Ev.pos g e
          · exact Ev.neg g (skip (by unfold dirOf; rw [if_neg hq, if_neg (fun z => g z.2)]))
      | false =>
        have hh : (pairV p).2.2 = true := by
          cases h : (pairV p).2.2 with
          | true => rfl
          | false => have := hf2 h; rw [hfine] at this; simp at this
        have ht : tokV (pairV p).2.1 = false := by rw [← hf1 hh]; exact hfine
        refine Ev.step (fun k => ?_) (skip (by unfold dirOf; rw [if_neg hq, if_neg (fun z => by have := z.1 hh; rw [ht] at this; simp at this)]))
        simp only [impl_ParseDirectives.j2]
        rw [if_neg (by simp), if_neg (by simp)]
    by_cases hh : (pairV p).2.2 = true
    · refine Ev.step (f := fun k => impl_ParseDirectives.j2 k acc (pairV p).1 (pairV p).2.1 fine L (L.length : Int) i (isQuo (pairV p).2.1) (lowerV (pairV p).1) (pairV p).2.1 (pairV p).2.2) (fun k => ?_) ?_
      · simp only [impl_ParseDirectives.j1]
        rw [if_pos hh, hasQuote _ (by omega), Option.bind_some]
        rfl
      · cases hq : isQuo (pairV p).2.1 with
        | false => exact plain (fun z => by rw [hq] at z; simp at z)
        | true =>
          refine Ev.step (f := fun k => (impl_UnquoteText.f k (pairV p).2.1).bind fun t => if t.2 = true then ((impl_IsToken.f k (pairV p).1).bind fun u => if u = true then impl_ParseDirectives.l0 k (acc ++ [(⟨lowerV (pairV p).1, t.1, (pairV p).2.2⟩ : S53)]) L (L.length : Int) (wrap64 (i + 1)) else impl_ParseDirectives.l0 k acc L (L.length : Int) (wrap64 (i + 1))) else impl_ParseDirectives.l0 k acc L (L.length : Int) (wrap64 (i + 1))) (fun k => ?_) (Ev.bind (impl_Unq_ev _ (by omega)) ?_)
          · simp only [impl_ParseDirectives.j2]
            rw [if_pos trivial]
            congr 1; funext t; congr 1; congr 1; funext u
            rw [if_pos (show acc.length < 3518437208883 by omega)]
          · by_cases hu : (unqV (pairV p).2.1).2 = true
            · refine Ev.pos hu (Ev.bind hn ?_)
              by_cases g : tokV (pairV p).1 = true
              · have : dirOf p = [⟨lowerV (pairV p).1, (unqV (pairV p).2.1).1, (pairV p).2.2⟩] := by unfold dirOf; rw [if_pos ⟨hh, hq⟩, if_pos ⟨hu, g⟩]
                rw [this] at e
                exact Ev.pos g e
              · exact Ev.neg g (skip (by unfold dirOf; rw [if_pos ⟨hh, hq⟩, if_neg (fun z => g z.2)]))
            · exact Ev.neg hu (skip (by unfold dirOf; rw [if_pos ⟨hh, hq⟩, if_neg (fun z => hu z.1)]))
    · refine Ev.step (fun k => ?_) (plain (fun z => hh z.1))
      simp only [impl_ParseDirectives.j1]
      rw [if_neg hh]
  have hp2 := impl_Pair_eq p (by omega)
  have hl2 := impl_Lower_eq (pairV p).1 (by omega)
  by_cases hh : (pairV p).2.2 = true
  · refine Ev.step (f := fun k => (impl_IsToken.f k (pairV p).2.1).bind fun t => impl_ParseDirectives.j1 k acc (pairV p).1 (pairV p).2.1 (pairV p).2.2 t L (L.length : Int) i (lowerV (pairV p).1) (pairV p).2.1 (pairV p).2.2) (fun k => ?_) (Ev.bind (impl_IsToken_ev _ (by omega)) (step2 _ (fun _ => rfl) (fun z => by rw [hh] at z; simp at z)))
    simp only [impl_ParseDirectives.l0]
    rw [if_pos h1, if_pos h0, if_pos h1, hx, hp2, Option.bind_some, hl2, Option.bind_some, if_pos hh]
  · refine Ev.step (fun k => ?_) (step2 true (fun z => absurd z hh) (fun _ => rfl))
    simp only [impl_ParseDirectives.l0]
    rw [if_pos h1, if_pos h0, if_pos h1, hx, hp2, Option.bind_some, hl2, Option.bind_some, if_neg hh]
theorem impl_PD_ev (s : ByteArray) (hs : s.size ≤ 1048576) : Ev (fun k => impl_ParseDirectives.f k s) (pdV s) := by
  unfold impl_ParseDirectives.f
  refine Ev.bind (impl_Split_ev s (by omega)) ?_
  have h1 := split_sizes s
  have h2 := split_count s
  unfold pdV
  generalize splitV s = L at h1 h2
  have key : ∀ (rest pre : List ByteArray), L = pre ++ rest → Ev (fun k => impl_ParseDirectives.l0 k (pre.flatMap dirOf) L (L.length : Int) (pre.length : Int)) (L.flatMap dirOf) := by
    intro rest
    induction rest with
    | nil =>
      intro pre h
      have hl2 := len_mid h
      simp only [List.length_nil] at hl2
      have e : pre = L := by rw [h]; simp
      subst e
      refine Ev.step (f := fun _ => some (pre.flatMap dirOf)) (fun k => ?_) (Ev.now _)
      simp only [impl_ParseDirectives.l0]
      rw [if_neg (by omega)]
    | cons x rest ih =>
      intro pre h
      have hl2 := len_mid h
      simp only [List.length_cons] at hl2
      have hst := len_step pre x (by omega)
      have hp := pd_len pre
      have hx := h1 x (by rw [h]; simp)
      refine impl_PD_part x (by omega) L _ (by omega) _ (by omega) (by omega) (rdS_mid2 h) _ ?_
      have := ih (pre ++ [x]) (by simp [h])
      rw [List.flatMap_append] at this
      rw [hst]
      simpa using this
  exact key L [] rfl
theorem bytesOf_mk2 (l : List UInt8) : bytesOf ⟨l.toArray⟩ = l.map fun b => (b.toNat : Int) := rfl
theorem libjoin_map (l : List ByteArray) : ((Lib.join (l.map (·.data.toList)) [44, 32]).map fun b => (b.toNat : Int)) = joinI l := by
  have tail : ∀ r : List ByteArray, ((Lib.joinTail [44, 32] (r.map (·.data.toList))).map fun b => (b.toNat : Int)) = joinT r := by
    intro r
    induction r with
    | nil => rfl
    | cons x r ih =>
      simp only [Lib.joinTail, List.map_cons, List.flatten_cons, List.map_append, joinT] at ih ⊢
      rw [ih]; rfl
  cases l with
  | nil => rfl
  | cons x r =>
    rw [List.map_cons, Lib.join_cons, List.map_append, tail]; rfl
theorem impl_Join_eq (l : List ByteArray) (hl : totS l ≤ 1099511627776) : impl_JoinList.f l = some (joinV l) := by
  have hlen := totS_len l
  have h2 := joinI_len l
  have e : (⟨#[44, 32]⟩ : ByteArray).data.toList = [44, 32] := rfl
  have hl3 : (Lib.join (l.map (·.data.toList)) [44, 32]).length = (joinI l).length := by rw [← libjoin_map, List.length_map]
  unfold impl_JoinList.f strings_Join.f
  rw [e, if_pos ⟨by omega, by omega⟩, Option.bind_some]
  congr 1
  apply bytesOf_inj
  rw [bytesOf_joinV, bytesOf_mk2, libjoin_map]
theorem impl_Quote_loop (s : ByteArray) (hs : s.size ≤ 140737488351232 / 4) (rest : List Int) : ∀ (pre acc : List Int), bytesOf s = pre ++ rest → acc.length ≤ 1 + 2 * pre.length →
    Ev (fun k => impl_QuoteText.l0 k s acc (s.size : Int) (pre.length : Int)) (strOfNums (acc ++ quoteL rest ++ [34])) := by
  induction rest with
  | nil =>
    intro pre acc h ha
    have hz := size_mid h
    simp only [List.length_nil] at hz
    refine Ev.step (f := fun _ => some (strOfNums (acc ++ quoteL [] ++ [34]))) (fun k => ?_) (Ev.now _)
    simp only [impl_QuoteText.l0]
    rw [if_neg (by omega), if_pos (by omega)]; simp [quoteL]
  | cons b rest ih =>
    intro pre acc h ha
    have hz := size_mid h
    simp only [List.length_cons] at hz
    have hst := mid_step h
    have hb := bt_mid h
    have hw := len_step pre b (by omega)
    by_cases h1 : b = 34
    · refine Ev.step (f := fun k => impl_QuoteText.l0 k s (acc ++ [92] ++ [b]) (s.size : Int) ((pre ++ [b]).length : Int)) (fun k => ?_) ?_
      · simp only [impl_QuoteText.l0]
        rw [if_pos (by omega), if_pos (by omega), if_pos (by omega), hb, if_pos h1, if_pos (by omega), Option.bind_some, if_pos (by simp; omega), hw]
      · have := ih (pre ++ [b]) (acc ++ [92] ++ [b]) hst (by simp; omega)
        simpa [quoteL, h1] using this
    · by_cases h2 : b = 92
      · refine Ev.step (f := fun k => impl_QuoteText.l0 k s (acc ++ [92] ++ [b]) (s.size : Int) ((pre ++ [b]).length : Int)) (fun k => ?_) ?_
        · simp only [impl_QuoteText.l0]
          rw [if_pos (by omega), if_pos (by omega), if_pos (by omega), hb, if_neg h1, if_pos h2, if_pos (by omega), Option.bind_some, if_pos (by simp; omega), hw]
        · have := ih (pre ++ [b]) (acc ++ [92] ++ [b]) hst (by simp; omega)
          simpa [quoteL, h2] using this
      · refine Ev.step (f := fun k => impl_QuoteText.l0 k s (acc ++ [b]) (s.size : Int) ((pre ++ [b]).length : Int)) (fun k => ?_) ?_
        · simp only [impl_QuoteText.l0]
          rw [if_pos (by omega), if_pos (by omega), if_pos (by omega), hb, if_neg h1, if_neg h2, if_pos (by omega), hw]
        · have := ih (pre ++ [b]) (acc ++ [b]) hst (by simp; omega)
          simpa [quoteL, h1, h2] using this
theorem impl_Quote_ev (s : ByteArray) (hs : s.size ≤ 140737488351232 / 4) : Ev (fun k => impl_QuoteText.f k s) (quoteV s) := by
  have := impl_Quote_loop s hs (bytesOf s) [] [34] rfl (by simp)
  simpa [impl_QuoteText.f, quoteV] using this
theorem impl_FD_ev (l : List S53) (hl : totD l ≤ 1048576) : Ev (fun k => impl_FormatDirectives.f k l) (fdV l) := by
  have hlen := totD_len l
  have key : ∀ (rest pre : List S53), l = pre ++ rest → Ev (fun k => impl_FormatDirectives.l0 k (pre.map dirV) l (l.length : Int) (pre.length : Int)) (fdV l) := by
    intro rest
    induction rest with
    | nil =>
      intro pre h
      have hl2 := len_mid h
      simp only [List.length_nil] at hl2
      have e : pre = l := by rw [h]; simp
      have ht := totS_dirs l
      refine Ev.step (f := fun k => some (fdV l)) (fun k => ?_) (Ev.now _)
      simp only [impl_FormatDirectives.l0]
      rw [if_neg (by omega), e, impl_Join_eq (l.map dirV) (by omega), Option.bind_some]
      rfl
    | cons x rest ih =>
      intro pre h
      have hl2 := len_mid h
      simp only [List.length_cons] at hl2
      have hx : rd_T53 l (pre.length : Int) = x := getD_mid h
      have hmx := totD_mem l x (by rw [h]; simp)
      have hst := len_step pre x (by omega)
      have hm : (pre.map dirV).length = pre.length := by simp
      have hap : pre.map dirV ++ [dirV x] = (pre ++ [x]).map dirV := by simp
      have nxt := ih (pre ++ [x]) (by simp [h])
      rw [← hap, ← hst] at nxt
      have hq := quoteV_size x.f1
      have s3 : ∀ v : ByteArray, ((⟨#[61]⟩ : ByteArray) ++ v).size = 1 + v.size := by intro v; rw [ByteArray.size_append]; rfl
      by_cases g0 : x.f2 = true
      · refine Ev.step (f := fun k => (impl_IsToken.f k x.f1).bind fun t => if t = true then impl_FormatDirectives.l0 k (pre.map dirV ++ [x.f0 ++ ((⟨#[61]⟩ : ByteArray) ++ x.f1)]) l (l.length : Int) (wrap64 ((pre.length : Int) + 1)) else (impl_QuoteText.f k x.f1).bind fun u => if 1 + u.size ≤ 9223372036854775807 then (if x.f0.size + ((⟨#[61]⟩ : ByteArray) ++ u).size ≤ 9223372036854775807 then impl_FormatDirectives.l0 k (pre.map dirV ++ [x.f0 ++ ((⟨#[61]⟩ : ByteArray) ++ u)]) l (l.length : Int) (wrap64 ((pre.length : Int) + 1)) else none) else none) (fun k => ?_) (Ev.bind (impl_IsToken_ev x.f1 (by omega)) ?_)
        · simp only [impl_FormatDirectives.l0]
          rw [if_pos (by omega), if_pos (by omega), if_pos (by omega), hx, if_pos g0]
          congr 1; funext t
          rw [if_pos (show 1 + x.f1.size ≤ 9223372036854775807 by omega), if_pos (show x.f0.size + ((⟨#[61]⟩ : ByteArray) ++ x.f1).size ≤ 9223372036854775807 by rw [s3]; omega), if_pos (show (pre.map dirV).length < 8796093022208 by omega)]
          congr 1
          congr 1; funext u
          rw [if_pos (show (pre.map dirV).length < 8796093022208 by omega)]
        · cases ht : tokV x.f1 with
          | true =>
            have e : dirV x = x.f0 ++ ((⟨#[61]⟩ : ByteArray) ++ x.f1) := by rw [app_assoc]; unfold dirV dvalV; rw [if_pos g0, if_pos ht]; rfl
            rw [e] at nxt
            exact Ev.pos rfl nxt
          | false =>
            have e : dirV x = x.f0 ++ ((⟨#[61]⟩ : ByteArray) ++ quoteV x.f1) := by rw [app_assoc]; unfold dirV dvalV; rw [if_pos g0, if_neg (by rw [ht]; simp)]; rfl
            rw [e] at nxt
            exact Ev.neg (by simp) (Ev.bind (impl_Quote_ev x.f1 (by omega)) (Ev.pos (by omega) (Ev.pos (by rw [s3]; omega) nxt)))
      · have e : dirV x = x.f0 := by unfold dirV; rw [if_neg g0]
        rw [e] at nxt
        refine Ev.step (fun k => ?_) nxt
        simp only [impl_FormatDirectives.l0]
        rw [if_pos (by omega), if_pos (by omega), if_pos (by omega), hx, if_neg g0, if_pos (by omega)]
  exact key l [] rfl
def findL (name : ByteArray) : Int → List S53 → Int
  | _, [] => -1
  | i, x :: r => if x.f0 = name then i else findL name (i + 1) r
theorem findL_ge (name : ByteArray) (l : List S53) : ∀ i : Int, 0 ≤ i → findL name i l = -1 ∨ i ≤ findL name i l ∧ findL name i l < i + l.length := by
  induction l with
  | nil => intro i _; exact .inl rfl
  | cons x r ih =>
    intro i hi
    unfold findL
    split
    · right; simp only [List.length_cons]; omega
    · rcases ih (i + 1) (by omega) with h | h
      · exact .inl h
      · right; simp only [List.length_cons]; omega
theorem impl_Find_ev (l : List S53) (hl : l.length ≤ 4611686018427387904) (name : ByteArray) : Ev (fun k => impl_FindDirective.f k l name) (findL name 0 l) := by
  have key : ∀ (rest pre : List S53), l = pre ++ rest → Ev (fun k => impl_FindDirective.l0 k name l (l.length : Int) (pre.length : Int)) (findL name (pre.length : Int) rest) := by
    intro rest
    induction rest with
    | nil =>
      intro pre h
      have hl2 := len_mid h
      simp only [List.length_nil] at hl2
      refine Ev.step (f := fun _ => some (-1)) (fun k => ?_) (by simpa [findL] using Ev.now _)
      simp only [impl_FindDirective.l0]
      rw [if_neg (by omega)]
    | cons x rest ih =>
      intro pre h
      have hl2 := len_mid h
      simp only [List.length_cons] at hl2
      have hx : rd_T53 l (pre.length : Int) = x := getD_mid h
      have hw := len_step pre x (by omega)
      by_cases e : x.f0 = name
      · refine Ev.step (f := fun _ => some (pre.length : Int)) (fun k => ?_) (by simpa [findL, e] using Ev.now _)
        simp only [impl_FindDirective.l0]
        rw [if_pos (by omega), if_pos (by omega), if_pos (by omega), hx, if_pos (toList_iff.mpr e)]
      · refine Ev.step (f := fun k => impl_FindDirective.l0 k name l (l.length : Int) ((pre ++ [x]).length : Int)) (fun k => ?_) (by simpa [findL, e] using ih (pre ++ [x]) (by simp [h]))
        simp only [impl_FindDirective.l0]
        rw [if_pos (by omega), if_pos (by omega), if_pos (by omega), hx, if_neg (fun g => e (toList_iff.mp g)), hw]
  have := key l [] rfl
  simpa [impl_FindDirective.f] using this
theorem impl_Has_ev (l : List S53) (hl : l.length ≤ 4611686018427387904) (name : ByteArray) : Ev (fun k => impl_HasDirective.f k l name) (decide (findL name 0 l ≥ 0)) := by
  unfold impl_HasDirective.f
  exact Ev.bind (impl_Find_ev l hl name) (Ev.now _)
def secondsV (l : List S53) (name : ByteArray) : Int × Bool := if findL name 0 l < 0 then (0, false) else (secL 0 (bytesOf ((rd_T53 l (findL name 0 l)).f1)), true)
theorem secondsV_no {l : List S53} {name : ByteArray} (h : findL name 0 l < 0) : secondsV l name = (0, false) := by unfold secondsV; rw [if_pos h]
theorem secondsV_yes {l : List S53} {name : ByteArray} (h : ¬ findL name 0 l < 0) : secondsV l name = (secL 0 (bytesOf ((rd_T53 l (findL name 0 l)).f1)), true) := by unfold secondsV; rw [if_neg h]
theorem impl_Seconds_ev (l : List S53) (hl : l.length ≤ 4611686018427387904) (hs : ∀ i : Int, 0 ≤ i → i < l.length → ((rd_T53 l i).f1).size ≤ 4611686018427387904) (name : ByteArray) : Ev (fun k => impl_SecondsOf.f k l name) (secondsV l name) := by
  unfold impl_SecondsOf.f
  refine Ev.bind (impl_Find_ev l hl name) ?_
  by_cases h : findL name 0 l < 0
  · rw [secondsV_no h]; exact Ev.pos h (Ev.now _)
  · rw [secondsV_yes h]
    have hg := findL_ge name l 0 (by omega)
    exact Ev.neg h (Ev.pos ⟨by omega, hs _ (by omega) (by omega)⟩ (Ev.now _))

theorem unqL_len (n : Nat) : ∀ l : List Int, l.length ≤ n → (unqL l).1.length ≤ l.length := by
  induction n with
  | zero => intro l h; obtain rfl : l = [] := List.eq_nil_of_length_eq_zero (by omega); rw [unqL_nil]; simp
  | succ n ih =>
    intro l h
    match l, h with
    | [], _ => rw [unqL_nil]; simp
    | b :: r, h =>
      simp only [List.length_cons] at h
      by_cases h1 : b = 34
      · subst h1; rw [unqL_quote]; simp
      · by_cases h2 : b = 92
        · subst h2
          match r, h with
          | [], _ => rw [unqL_last]; simp
          | c :: r', h =>
            simp only [List.length_cons] at h
            have := ih r' (by omega)
            rw [unqL_esc]; simp only [List.length_cons]; omega
        · have := ih r (by omega)
          rw [unqL_other r b h1 h2]; simp only [List.length_cons]; omega
theorem unqV_size (s : ByteArray) : (unqV s).1.size ≤ s.size := by
  have h1 := unqL_len _ (bytesOf s).tail (Nat.le_refl _)
  have h2 := bytesOf_length s
  unfold unqV
  simp only [strOfNums_size]
  rw [List.length_tail] at h1
  omega
theorem dirOf_tot (p : ByteArray) : totD (dirOf p) ≤ 2 * (1 + p.size) := by
  have h1 := pair_sizes p
  have h2 := unqV_size (pairV p).2.1
  have h3 := lower_size (pairV p).1
  unfold dirOf
  repeat' split
  all_goals (simp only [totD]; omega)
theorem totD_app (a b : List S53) : totD (a ++ b) = totD a + totD b := by
  induction a with
  | nil => simp [totD]
  | cons x r ih => simp only [List.cons_append, totD, ih]; omega
theorem pd_tot (L : List ByteArray) : totD (L.flatMap dirOf) ≤ 2 * totS L := by
  induction L with
  | nil => simp [totD]
  | cons x r ih =>
    have := dirOf_tot x
    rw [List.flatMap_cons, totD_app]
    simp only [totS]; omega
theorem totS_map (L : List (List Int)) : totS (L.map strOfNums) = L.length + (L.map List.length).sum := by
  induction L with
  | nil => rfl
  | cons x r ih => simp only [List.map_cons, totS, strOfNums_size, ih, List.length_cons, List.sum_cons]; omega
theorem pdV_tot (s : ByteArray) : totD (pdV s) ≤ 2 * (s.size + 1) := by
  have h1 := pd_tot (splitV s)
  have h2 : totS (splitV s) ≤ s.size + 1 := by
    unfold splitV
    rw [totS_map]
    have := splitL_total (bytesOf s)
    rw [bytesOf_length] at this
    exact this
  unfold pdV
  omega
theorem fdV_size (L : List S53) : (fdV L).size ≤ 8 * totD L := by
  have h1 := totS_dirs L
  have h2 := joinI_len (L.map dirV)
  unfold fdV
  rw [← bytesOf_joinV, bytesOf_length] at h2
  omega
theorem find_mem (name : ByteArray) (l : List S53) (h : ∃ x ∈ l, x.f0 = name) : ∀ i : Int, 0 ≤ i → 0 ≤ findL name i l := by
  induction l with
  | nil => obtain ⟨x, hx, _⟩ := h; simp at hx
  | cons y r ih =>
    intro i hi
    unfold findL
    by_cases g : y.f0 = name
    · rw [if_pos g]; exact hi
    · rw [if_neg g]
      refine ih ?_ (i + 1) (by omega)
      obtain ⟨x, hx, hn⟩ := h
      rcases List.mem_cons.1 hx with e | e
      · subst e; exact absurd hn g
      · exact ⟨x, e, hn⟩
theorem secL_bd (l : List Int) : ∀ n : Int, 0 ≤ n → n ≤ 2147483648 → 0 ≤ secL n l ∧ secL n l ≤ 2147483648 := by
  induction l with
  | nil => intro n h0 h1; unfold secL; exact ⟨h0, h1⟩
  | cons b r ih =>
    intro n h0 h1
    unfold secL
    split
    · rename_i h; exact ih _ (by omega) (by omega)
    · omega
theorem FnDirectives : laws_FnDirectives.Pure := by
  intro l hl hb
  apply Ev.rounds
  by_cases g : (l.length : Int) > 1048576
  · refine Ev.mp (Ev.now _) (fun k => ?_)
    unfold laws_FnDirectives.f laws_big.f
    rw [decide_eq_true g, Option.bind_some, if_pos rfl]
  obtain ⟨T, D, zT⟩ := drawPD_ev l (by omega)
  have hbig : laws_big.f l = some false := by unfold laws_big.f; rw [decide_eq_false g]
  have hgood := pd_good T
  have hround := pd_round (pdV T) hgood
  have htot := pdV_tot T
  have hlen := totD_len (pdV T)
  have hfz := fdV_size (pdV T)
  have hmem := totD_mem (pdV T)
  have I1 := impl_PD_ev T (by omega)
  have I2 := impl_PD_ev (fdV (pdV T)) (by omega)
  have S1 := spec_PD_ev T (by omega)
  rw [hround] at I2
  generalize pdV T = L at *
  have key : ∀ rest pre, L = pre ++ rest → Ev (fun k => laws_FnDirectives.l0 k L L (pre.length : Int)) true := by
    intro rest
    induction rest with
    | nil =>
      intro pre hp
      have hln := len_mid hp
      simp only [List.length_nil] at hln
      refine Ev.step (f := fun _ => some true) (fun k => ?_) (Ev.now _)
      simp only [laws_FnDirectives.l0]
      rw [if_neg (by omega)]
    | cons x rest ih =>
      intro pre hp
      have hln := len_mid hp
      simp only [List.length_cons] at hln
      have hx : rd_T53 L (pre.length : Int) = x := getD_mid hp
      have hxm : x ∈ L := by rw [hp]; simp
      obtain ⟨t1, t2, t3⟩ := hgood x hxm
      obtain ⟨m1, m2⟩ := hmem x hxm
      have hf := find_mem x.f0 L ⟨x, hxm, rfl⟩ 0 (by omega)
      have hlow : impl_LowerText.f x.f0 = some x.f0 := by
        have := impl_Lower_eq x.f0 (by omega)
        rwa [t2] at this
      have hidx : ∀ i : Int, 0 ≤ i → i < L.length → ((rd_T53 L i).f1).size ≤ 4611686018427387904 := by
        intro i i0 i1
        have hin : rd_T53 L i ∈ L := by
          unfold rd_T53
          have : i.toNat < L.length := by omega
          rw [List.getD_eq_getElem?_getD, List.getElem?_eq_getElem this]
          exact List.getElem_mem this
        have := (hmem _ hin).2
        omega
      have hsec := impl_Seconds_ev L (by omega) hidx x.f0
      have hbd := secL_bd (bytesOf ((rd_T53 L (findL x.f0 0 L)).f1)) 0 (by omega) (by omega)
      have hsv : secondsV L x.f0 = (secL 0 (bytesOf ((rd_T53 L (findL x.f0 0 L)).f1)), true) := secondsV_yes (by omega)
      rw [hsv] at hsec
      have next : Ev (fun k => laws_FnDirectives.j1 k L L (pre.length : Int) false) true := by
        refine Ev.step (f := fun k => (impl_SecondsOf.f k L x.f0).bind fun t => (if t.2 = true then (if t.1 < 0 then (some false) else (if t.1 > 2147483648 then (some false) else (laws_FnDirectives.l0 k L L ((pre ++ [x]).length : Int)))) else (some false))) (fun k => ?_) (Ev.bind hsec (Ev.pos rfl (Ev.neg (by simp only; omega) (Ev.neg (by simp only; omega) (ih (pre ++ [x]) (by simp [hp]))))))
        simp only [laws_FnDirectives.j1]
        rw [if_neg (by simp), if_pos (by omega), if_pos (by omega), hx, len_step pre x (by omega)]
      refine Ev.step (f := fun k => (impl_HasDirective.f k L x.f0).bind fun t => (if t = true then (laws_FnDirectives.j1 k L L (pre.length : Int) false) else (laws_FnDirectives.j1 k L L (pre.length : Int) true))) (fun k => ?_) (Ev.bind (impl_Has_ev L (by omega) x.f0) (Ev.pos (decide_eq_true hf) next))
      simp only [laws_FnDirectives.l0]
      rw [if_pos (by omega), if_pos (by omega), if_pos (by omega), hx]
      simp only [beq_self_eq_true, Bool.not_true, Bool.or_self, Bool.false_eq_true, if_false]
      congr 1; funext t
      rw [hlow, Option.bind_some, if_pos rfl]
      by_cases q : x.f2 = true
      · rw [if_pos q]
      · rw [if_neg q]
        have e : x.f1.toList = ([] : List UInt8) := (nil_list _).mpr (t3 (by simpa using q))
        rw [e, bne_self_eq_false]
  unfold laws_FnDirectives.f
  simp only [hbig, Option.bind_some, Bool.false_eq_true, if_false]
  exact Ev.bind D (Ev.bind I1 (Ev.bind D (Ev.bind S1 (Ev.pos rfl (Ev.bind (impl_FD_ev L (by omega)) (Ev.bind I2 (Ev.pos rfl (key L [] rfl))))))))

end Go.Proofs.YtlboepkphddacabDoor.Pure
