/- The pure part of FnNumbers: for every list of bytes within the statement's bounds the printed law answers true. Conditions: the statement's own bounds alone. -/
import Derived.Test.YtlboepkphddacaaDoorPreFnNumbers
import Derived.Test.YtlboepkphddacaaDoorRFnNumbersx1
import Derived.Test.YtlboepkphddacaaDoorRFnNumbersx2
import Derived.Test.YtlboepkphddacaaDoorRFnNumbersx3
import Derived.OpenShut
namespace Go.Proofs.YtlboepkphddacaaDoor.Pure
open Go.RowKit Go.Proofs.YtlboepkphddacaaDoor.RFnNumbers Go.Proofs.YtlboepkphddacaaDoorW.PrintWords Go.Proofs.YtlboepkphddacaaDoorW.PrintLast
set_option linter.unusedSimpArgs false
set_option linter.unusedVariables false

/-! ### Texts as lists of numbers -/
def InB (l : List Int) : Prop := ∀ x ∈ l, 0 ≤ x ∧ x ≤ 255
theorem InB_nil : InB [] := fun x hx => by simp at hx
theorem InB_cons {b : Int} {l : List Int} : InB (b :: l) ↔ (0 ≤ b ∧ b ≤ 255) ∧ InB l := by simp [InB]
theorem InB_append {l m : List Int} : InB (l ++ m) ↔ InB l ∧ InB m := by
  simp only [InB, List.mem_append]
  exact ⟨fun h => ⟨fun x hx => h x (.inl hx), fun x hx => h x (.inr hx)⟩, fun h x hx => hx.elim (h.1 x) (h.2 x)⟩
theorem InB_take {l : List Int} (n : Nat) (h : InB l) : InB (l.take n) := fun x hx => h x (List.mem_of_mem_take hx)
theorem InB_drop {l : List Int} (n : Nat) (h : InB l) : InB (l.drop n) := fun x hx => h x (List.mem_of_mem_drop hx)
theorem InB_bytes (s : ByteArray) : InB (bytesOf s) := by
  intro x hx
  unfold bytesOf at hx
  obtain ⟨b, _, rfl⟩ := List.mem_map.1 hx
  have := b.toNat_lt
  omega
theorem strOf_bytesOf (s : ByteArray) : strOfNums (bytesOf s) = s := by
  obtain ⟨⟨l⟩⟩ := s
  unfold strOfNums bytesOf
  simp only [List.map_map]
  congr 2
  exact (List.map_congr_left (fun b _ => by simp)).trans (List.map_id l)
theorem bytesOf_strOf {l : List Int} (h : InB l) : bytesOf (strOfNums l) = l := by
  unfold strOfNums bytesOf
  simp only [List.map_map]
  refine (List.map_congr_left (fun x hx => ?_)).trans (List.map_id l)
  have := h x hx
  simp only [Function.comp_apply, id, UInt8.toNat_ofNat']
  omega
theorem bytesOf_inj {s t : ByteArray} (h : bytesOf s = bytesOf t) : s = t := by rw [← strOf_bytesOf s, h, strOf_bytesOf]
theorem bytesOf_append (s t : ByteArray) : bytesOf (s ++ t) = bytesOf s ++ bytesOf t := by
  unfold bytesOf
  rw [ByteArray.data_append, Array.toList_append, List.map_append]
theorem bytesOf_extract (s : ByteArray) (a b : Nat) : bytesOf (s.extract a b) = ((bytesOf s).take b).drop a := by
  unfold bytesOf
  rw [ByteArray.data_extract, Array.toList_extract, List.extract_eq_take_drop, List.map_take, List.map_drop, List.take_drop]
  rcases Nat.le_total a b with h | h
  · rw [Nat.add_sub_cancel' h]
  · rw [Nat.sub_eq_zero_of_le h, List.drop_eq_nil_of_le (by simp; omega), List.drop_eq_nil_of_le (by simp; omega)]
theorem toList_iff {s t : ByteArray} : s.toList = t.toList ↔ s = t := by
  rw [ByteArray.toList_eq, ByteArray.toList_eq]
  constructor
  · intro h
    obtain ⟨⟨l⟩⟩ := s
    obtain ⟨⟨m⟩⟩ := t
    simp only at h
    rw [h]
  · rintro rfl; rfl
theorem size_bytes (s : ByteArray) : (s.size : Int) = ((bytesOf s).length : Int) := by rw [bytesOf_length]
theorem getD_mid {α : Type} {l pre rest : List α} {b d : α} (h : l = pre ++ b :: rest) : l.getD ((pre.length : Int)).toNat d = b := by subst h; simp
theorem len_mid {α : Type} {l pre rest : List α} (h : l = pre ++ rest) : l.length = pre.length + rest.length := by rw [h, List.length_append]
theorem rd_mid {l pre rest : List Int} {b : Int} (h : l = pre ++ b :: rest) : rd l (pre.length : Int) = b := by
  subst h
  unfold rd
  simp
theorem bt_mid {s : ByteArray} {pre rest : List Int} {b : Int} (h : bytesOf s = pre ++ b :: rest) : bt s (pre.length : Int) = b := by
  rw [← rd_bytesOf]; exact rd_mid h
theorem size_mid {s : ByteArray} {pre rest : List Int} (h : bytesOf s = pre ++ rest) : (s.size : Int) = (pre.length : Int) + (rest.length : Int) := by
  rw [size_bytes, h]; simp
theorem mid_step {l pre rest : List Int} {b : Int} (h : l = pre ++ b :: rest) : l = (pre ++ [b]) ++ rest := by simp [h]
theorem wrap_id {n : Int} (h0 : -9223372036854775808 ≤ n) (h1 : n ≤ 9223372036854775807) : wrap64 n = n := by unfold wrap64; omega
theorem len_step {α : Type} (pre : List α) (b : α) (h : pre.length ≤ 9223372036854775000) : wrap64 ((pre.length : Int) + 1) = ((pre ++ [b]).length : Int) := by
  rw [wrap_id (by omega) (by omega)]; simp
/-! ### Loops over lists -/
theorem map_loop {α β : Type} (da : α) (conv : α → β) (x0 : List α) (hn : x0.length ≤ 4611686018427387904) (g : Nat → List β → Int → Option (List β))
    (hg : ∀ k x3 i, g (k + 1) x3 i = if i < (x0.length : Int) then (if 0 ≤ i then (if i < (x3.length : Int) then g k (x3.set (i : Int).toNat (conv (x0.getD i.toNat da))) (wrap64 (i + 1)) else none) else none) else some x3) (z : β) :
    Ev (fun k => g k (List.replicate x0.length z) 0) (x0.map conv) := by
  have key : ∀ rest pre, x0 = pre ++ rest → Ev (fun k => g k (pre.map conv ++ List.replicate rest.length z) (pre.length : Int)) (x0.map conv) := by
    intro rest
    induction rest with
    | nil =>
      intro pre h
      refine Ev.step (f := fun _ => some (x0.map conv)) (fun k => ?_) (Ev.now _)
      rw [hg, if_neg (by rw [h]; simp)]
      simp [h]
    | cons b rest ih =>
      intro pre h
      have hl : x0.length = pre.length + (rest.length + 1) := by rw [h]; simp
      refine Ev.step (f := fun k => g k ((pre ++ [b]).map conv ++ List.replicate rest.length z) ((pre ++ [b]).length : Int)) (fun k => ?_) (ih (pre ++ [b]) (by simp [h]))
      rw [hg, if_pos (by omega), if_pos (by omega), if_pos (by simp; omega), wrap_id (by omega) (by omega)]
      have e1 : x0.getD ((pre.length : Int)).toNat da = b := by rw [h]; simp
      rw [e1]
      congr 1
      · simp [List.replicate_succ, List.set_append]
      · simp
  exact key x0 [] rfl
theorem same_loop {α : Type} (a : List α) (hn : a.length ≤ 4611686018427387904) (g : Nat → Int → Option Bool)
    (hg : ∀ k i, 0 ≤ i → i < (a.length : Int) → g (k + 1) i = g k (wrap64 (i + 1))) (he : ∀ k, g (k + 1) (a.length : Int) = some true) : Ev (fun k => g k 0) true := by
  have key : ∀ d i : Nat, i + d = a.length → Ev (fun k => g k (i : Int)) true := by
    intro d
    induction d with
    | zero => intro i h; obtain rfl : i = a.length := by omega
              exact Ev.step he (Ev.now _)
    | succ d ih =>
      intro i h
      refine Ev.step (f := fun k => g k ((i + 1 : Nat) : Int)) (fun k => ?_) (ih (i + 1) (by omega))
      rw [hg k i (by omega) (by omega), wrap_id (by omega) (by omega)]; rfl
  exact key a.length 0 (by omega)
theorem Ev.mp {α : Type} {g f : Nat → Option α} {r : α} (h : Ev f r) (e : ∀ k, g k = f k) : Ev g r := Ev.congr e h
theorem Ev.step2 {α : Type} {g f : Nat → Option α} {r : α} (h : ∃ K, ∀ k, K ≤ k → g (k + 1) = f k) (e : Ev f r) : Ev g r := by
  obtain ⟨K, hK⟩ := h
  obtain ⟨K', hK'⟩ := e
  refine ⟨max K K' + 1, fun k hk => ?_⟩
  obtain ⟨k, rfl⟩ : ∃ m, k = m + 1 := ⟨k - 1, by omega⟩
  rw [hK k (by omega), hK' k (by omega)]
/-- Every element turned into the next of a row of marks. -/
def markL {α : Type} (mk : Int → α) (c : Nat) : Int → List α → List α
  | _, [] => []
  | k, _ :: r => mk k :: markL mk c (k + c) r
theorem markL_length {α : Type} (mk : Int → α) (c : Nat) (l : List α) : ∀ k, (markL mk c k l).length = l.length := by
  induction l with
  | nil => intro k; rfl
  | cons x r ih => intro k; simp [markL, ih]
theorem mark_loop {α : Type} (mk : Int → α) (c : Nat) (g : Nat → List α → Int → Int → Option (Int × List α)) (B : Int) (hB : B ≤ 4611686018427387904)
    (hg : ∀ (l : List α) (k0 i : Int), 0 ≤ i → i < (l.length : Int) → 0 ≤ k0 → k0 + c ≤ B → ∃ K, ∀ k, K ≤ k → g (k + 1) l k0 i = g k (l.set i.toNat (mk k0)) (k0 + c) (wrap64 (i + 1)))
    (he : ∀ k (l : List α) (k0 : Int), g (k + 1) l k0 (l.length : Int) = some (k0, l)) (l : List α) (hl : l.length ≤ 4611686018427387904) (k0 : Int) (h0 : 0 ≤ k0) (h1 : k0 + c * l.length ≤ B) :
    Ev (fun k => g k l k0 0) (k0 + c * l.length, markL mk c k0 l) := by
  have key : ∀ (rest pre : List α) (k0 : Int), 0 ≤ k0 → k0 + c * rest.length ≤ B → pre.length + rest.length ≤ 4611686018427387904 → Ev (fun k => g k (pre ++ rest) k0 (pre.length : Int)) (k0 + c * rest.length, pre ++ markL mk c k0 rest) := by
    intro rest
    induction rest with
    | nil =>
      intro pre k0 _ _ _
      refine Ev.step (f := fun _ => some (k0, pre)) (fun k => ?_) (by simpa [markL] using Ev.now _)
      have := he k pre k0
      simpa using this
    | cons x rest ih =>
      intro pre k0 h0 h1 h2
      simp only [List.length_cons] at h1 h2
      have hc : (c : Int) * ((rest.length + 1 : Nat) : Int) = c * rest.length + c := by rw [Int.natCast_add, Int.mul_add]; simp
      rw [hc] at h1
      have hcn : 0 ≤ (c : Int) * (rest.length : Int) := Int.mul_nonneg (by omega) (by omega)
      obtain ⟨K, hK⟩ := hg (pre ++ x :: rest) k0 (pre.length : Int) (by omega) (by simp; omega) h0 (by omega)
      have e := ih (pre ++ [mk k0]) (k0 + c) (by omega) (by omega) (by simp; omega)
      have e2 : (k0 + (c : Int)) + c * rest.length = k0 + c * ((x :: rest).length : Int) := by simp only [List.length_cons]; rw [hc]; omega
      rw [e2] at e
      refine Ev.step2 (f := fun k => g k (pre ++ [mk k0] ++ rest) (k0 + c) ((pre ++ [mk k0]).length : Int)) ⟨K, fun k hk => ?_⟩ (by simpa [markL] using e)
      rw [hK k hk, wrap_id (by omega) (by omega)]
      simp [List.set_append]
  have := key l [] k0 h0 h1 (by simpa using hl)
  simpa using this
theorem held_loop {α : Type} (mk : Int → α) (c : Nat) (l0 l : List α) (k0 : Int) (hl : l = markL mk c k0 l0) (g : Nat → Int → Int → Option Int) (B : Int) (hB : B ≤ 4611686018427387904)
    (hg : ∀ (k1 i : Int), 0 ≤ i → i < (l.length : Int) → 0 ≤ k1 → k1 + c ≤ B → l[i.toNat]? = some (mk k1) → ∃ K, ∀ k, K ≤ k → g (k + 1) k1 i = g k (k1 + c) (wrap64 (i + 1)))
    (he : ∀ k (k1 : Int), g (k + 1) k1 (l.length : Int) = some k1) (hn : l0.length ≤ 4611686018427387904) (h0 : 0 ≤ k0) (h1 : k0 + c * l0.length ≤ B) :
    Ev (fun k => g k k0 0) (k0 + c * l0.length) := by
  have hlen : l.length = l0.length := by rw [hl, markL_length]
  have key : ∀ (rest : List α) (pre : List α) (k1 : Int), l = pre ++ markL mk c k1 rest → 0 ≤ k1 → k1 + c * rest.length ≤ B → Ev (fun k => g k k1 (pre.length : Int)) (k1 + c * rest.length) := by
    intro rest
    induction rest with
    | nil =>
      intro pre k1 h _ _
      refine Ev.step (f := fun _ => some k1) (fun k => ?_) (by simpa using Ev.now _)
      have := he k k1
      rw [h] at this
      simpa [markL] using this
    | cons x rest ih =>
      intro pre k1 h h0 h1
      simp only [List.length_cons] at h1
      have hc : (c : Int) * ((rest.length + 1 : Nat) : Int) = c * rest.length + c := by rw [Int.natCast_add, Int.mul_add]; simp
      rw [hc] at h1
      have hcn : 0 ≤ (c : Int) * (rest.length : Int) := Int.mul_nonneg (by omega) (by omega)
      have hl2 : l.length = pre.length + (rest.length + 1) := by rw [h]; simp [markL_length]
      obtain ⟨K, hK⟩ := hg k1 (pre.length : Int) (by omega) (by omega) h0 (by omega) (by rw [h]; simp [markL])
      have e := ih (pre ++ [mk k1]) (k1 + c) (by rw [h]; simp [markL]) (by omega) (by omega)
      have e2 : (k1 + (c : Int)) + c * rest.length = k1 + c * ((x :: rest).length : Int) := by simp only [List.length_cons]; rw [hc]; omega
      rw [e2] at e
      refine Ev.step2 (f := fun k => g k (k1 + c) ((pre ++ [mk k1]).length : Int)) ⟨K, fun k hk => ?_⟩ e
      rw [hK k hk, wrap_id (by omega) (by omega)]
      simp
  exact key l0 [] k0 (by simpa using hl) h0 h1
theorem Ev.pos {α : Type} {c : Prop} [Decidable c] {f g : Nat → Option α} {r : α} (h : c) (e : Ev f r) : Ev (fun k => if c then f k else g k) r := by simp only [if_pos h]; exact e
theorem Ev.neg {α : Type} {c : Prop} [Decidable c] {f g : Nat → Option α} {r : α} (h : ¬ c) (e : Ev g r) : Ev (fun k => if c then f k else g k) r := by simp only [if_neg h]; exact e
theorem Ev.get {α β : Type} {f : Nat → α → Option β} {a : α} {r : β} (e : Ev (fun n => f n a) r) : Ev (fun n => (some a).bind (f n)) r := e
theorem and255 (n : Int) : Go.bits .and .i64 n 255 = n % 256 := by
  have h255 : (BitVec.ofInt 64 255).toNat = 2 ^ 8 - 1 := by decide
  have key : (BitVec.ofInt 64 n &&& BitVec.ofInt 64 255).toNat = (n % ((2 ^ 64 : Nat) : Int)).toNat % 2 ^ 8 := by
    rw [BitVec.toNat_and, BitVec.toNat_ofInt, h255, Nat.and_two_pow_sub_one_eq_mod]
  show IntKind.i64.wrap ((BitVec.ofInt 64 n &&& BitVec.ofInt 64 255).toNat : Nat) = n % 256
  rw [key, IntKind.wrap_i64]
  omega
/-- A cursor's place lies within the bytes. -/
def Cur (l : List Int) (i : Int) : Prop := 0 ≤ i ∧ i ≤ (l.length : Int) ∧ l.length ≤ 1048576
theorem byte_ok {l : List Int} {i : Int} (h : Int) (c : Cur l i) : ∃ x i' h', spec_l1Byte.f l i h = some (x, i', h') ∧ 0 ≤ x ∧ x ≤ 255 ∧ Cur l i' := by
  obtain ⟨c0, c1, c2⟩ := c
  unfold spec_l1Byte.f
  simp only [and255]
  by_cases g : i < (l.length : Int)
  · rw [if_pos g, if_pos c0]
    exact ⟨_, _, _, rfl, by omega, by omega, by rw [wrap_id (by omega) (by omega)]; exact ⟨by omega, by omega, c2⟩⟩
  · rw [if_neg g]
    exact ⟨_, _, _, rfl, by omega, by omega, c0, c1, c2⟩
theorem below_ok {l : List Int} {i : Int} (h : Int) (c : Cur l i) (n : Int) : ∃ x i' h', spec_l1Below.f l i h n = some (x, i', h') ∧ 0 ≤ x ∧ (0 < n → x < n) ∧ Cur l i' := by
  unfold spec_l1Below.f
  by_cases g0 : n ≤ 0
  · rw [if_pos g0]
    exact ⟨_, _, _, rfl, by omega, by omega, c⟩
  · rw [if_neg g0]
    by_cases g1 : n ≤ 256
    · rw [if_pos g1]
      obtain ⟨x, i', h', e, x0, x1, c'⟩ := byte_ok h c
      rw [e]
      simp only [Option.bind_some]
      rw [if_neg (by omega)]
      exact ⟨_, _, _, rfl, Int.tmod_nonneg n x0, fun hn => Int.tmod_lt_of_pos x hn, c'⟩
    · rw [if_neg g1]
      obtain ⟨x, i1, h1, e1, x0, x1, c1⟩ := byte_ok h c
      obtain ⟨y, i2, h2, e2, y0, y1, c2⟩ := byte_ok h1 c1
      obtain ⟨z, i3, h3, e3, z0, z1, c3⟩ := byte_ok h2 c2
      rw [e1]
      simp only [Option.bind_some]
      rw [e2]
      simp only [Option.bind_some]
      rw [e3]
      simp only [Option.bind_some]
      rw [if_neg (by omega), wrap_id (n := x * 65536) (by omega) (by omega), wrap_id (n := y * 256) (by omega) (by omega), wrap_id (n := x * 65536 + y * 256) (by omega) (by omega), wrap_id (n := x * 65536 + y * 256 + z) (by omega) (by omega)]
      exact ⟨_, _, _, rfl, Int.tmod_nonneg n (by omega), fun hn => Int.tmod_lt_of_pos _ hn, c3⟩
theorem new_loop {l : List Int} (hl : l.length ≤ 1048576) (d : Nat) : ∀ (i x : Int), 0 ≤ i → i + d = l.length → ∃ h, Ev (fun k => spec_l1New.l0 k l x i) (l, 0, h) := by
  induction d with
  | zero =>
    intro i x h0 h1
    refine ⟨x, Ev.step (f := fun _ => some (l, 0, x)) (fun k => ?_) (Ev.now _)⟩
    simp only [spec_l1New.l0]
    rw [if_neg (by omega)]
  | succ d ih =>
    intro i x h0 h1
    by_cases g : i < 4000
    · obtain ⟨h, e⟩ := ih (i + 1) (Go.bits .and .i64 (wrap64 ((wrap64 ((wrap64 (x * 139)) + (wrap64 (rd l i)))) + 11)) 1073741823) (by omega) (by omega)
      refine ⟨h, Ev.step (fun k => ?_) e⟩
      simp only [spec_l1New.l0]
      rw [if_pos (by omega), if_pos g, if_pos h0, wrap_id (n := i + 1) (by omega) (by omega)]
    · refine ⟨x, Ev.step (f := fun _ => some (l, 0, x)) (fun k => ?_) (Ev.now _)⟩
      simp only [spec_l1New.l0]
      rw [if_pos (by omega), if_neg g]
theorem new_ev (l : List Int) (hl : l.length ≤ 1048576) : ∃ h, Ev (fun k => spec_l1New.f k l) (l, 0, h) ∧ Cur l 0 := by
  obtain ⟨h, e⟩ := new_loop hl l.length 0 (wrap64 (271091 + (l.length : Int))) (by omega) (by omega)
  exact ⟨h, e, by omega, by omega, hl⟩
theorem int_ok {l : List Int} {i : Int} (h : Int) (c : Cur l i) (L : List Int) (hL : 0 < L.length) : ∃ x i' h', spec_l1Int.f l i h L = some (x, i', h') ∧ x ∈ L ∧ Cur l i' := by
  obtain ⟨q, i', h', e, q0, q1, c'⟩ := below_ok h c (L.length : Int)
  have q2 := q1 (by omega)
  unfold spec_l1Int.f
  rw [e]
  simp only [Option.bind_some]
  rw [if_pos q0, if_pos q2]
  refine ⟨_, _, _, rfl, ?_, c'⟩
  unfold rd
  have hq : q.toNat < L.length := by omega
  rw [List.getD_eq_getElem?_getD, List.getElem?_eq_getElem hq]
  exact List.getElem_mem hq
theorem odd_ok {l : List Int} {i : Int} (h : Int) (c : Cur l i) : ∃ x i' h', spec_l1Odd.f l i h = some (x, i', h') ∧ (-9223372036854775808 ≤ x ∧ x ≤ 9223372036854775807) ∧ Cur l i' := by
  obtain ⟨x, i', h', e, hx, c'⟩ := int_ok h c ([(-1), 0, 1, 2, 255, 256, 65535, 2147483647, 2147483648, 4294967295, 4294967296, (-2147483648), 9223372036854775807, (-9223372036854775808)] : List Int) (by decide)
  unfold spec_l1Odd.f
  rw [e]
  refine ⟨_, _, _, rfl, ?_, c'⟩
  have : ∀ y ∈ ([(-1), 0, 1, 2, 255, 256, 65535, 2147483647, 2147483648, 4294967295, 4294967296, (-2147483648), 9223372036854775807, (-9223372036854775808)] : List Int), -9223372036854775808 ≤ y ∧ y ≤ 9223372036854775807 := by decide
  exact this x hx
theorem wrap_in (x : Int) : -9223372036854775808 ≤ wrap64 x ∧ wrap64 x ≤ 9223372036854775807 := by unfold wrap64; omega
theorem one_ok {l : List Int} {i : Int} (h : Int) (c : Cur l i) : ∃ x i' h', spec_l1One.f l i h = some (x, i', h') ∧ (-9223372036854775808 ≤ x ∧ x ≤ 9223372036854775807) ∧ Cur l i' := by
  obtain ⟨q, i1, h1, e1, q0, q1, c1⟩ := below_ok h c 6
  unfold spec_l1One.f
  rw [e1]
  simp only [Option.bind_some]
  by_cases g0 : q = 0
  · rw [if_pos g0]
    obtain ⟨x, i2, h2, e2, b2, c2⟩ := odd_ok h1 c1
    rw [e2]
    exact ⟨_, _, _, rfl, b2, c2⟩
  · rw [if_neg g0]
    by_cases g1 : q = 1
    · rw [if_pos g1]
      obtain ⟨x, i2, h2, e2, _, _, c2⟩ := below_ok h1 c1 2000
      rw [e2]
      exact ⟨_, _, _, rfl, wrap_in _, c2⟩
    · rw [if_neg g1]
      by_cases g2 : q = 2
      · rw [if_pos g2]
        obtain ⟨x, i2, h2, e2, _, _, c2⟩ := below_ok h1 c1 1000000
        rw [e2]
        simp only [Option.bind_some]
        obtain ⟨y, i3, h3, e3, _, _, c3⟩ := below_ok h2 c2 1000000
        rw [e3]
        exact ⟨_, _, _, rfl, wrap_in _, c3⟩
      · rw [if_neg g2]
        obtain ⟨x, i2, h2, e2, x0, x1, c2⟩ := below_ok h1 c1 3000
        rw [e2]
        have := x1 (by omega)
        exact ⟨_, _, _, rfl, by omega, c2⟩
/-! ### Decimal numerals -/
def numL (n : Nat) : List Int := if h : n < 10 then [48 + (n : Int)] else numL (n / 10) ++ [48 + ((n % 10 : Nat) : Int)]
termination_by n
decreasing_by omega
theorem numL_small {n : Nat} (h : n < 10) : numL n = [48 + (n : Int)] := by rw [numL, dif_pos h]
theorem numL_big {n : Nat} (h : ¬ n < 10) : numL n = numL (n / 10) ++ [48 + ((n % 10 : Nat) : Int)] := by rw [numL, dif_neg h]
def valL (l : List Int) : Int := l.foldl (fun a b => 10 * a + (b - 48)) 0
theorem valL_concat (l : List Int) (b : Int) : valL (l ++ [b]) = 10 * valL l + (b - 48) := by unfold valL; rw [List.foldl_append]; rfl
theorem num_ind {p : Nat → Prop} (h0 : ∀ n, n < 10 → p n) (h1 : ∀ n, ¬ n < 10 → p (n / 10) → p n) (n : Nat) : p n := by
  induction n using Nat.strongRecOn with
  | _ n ih =>
    by_cases h : n < 10
    · exact h0 n h
    · exact h1 n h (ih (n / 10) (by omega))
theorem valL_num (n : Nat) : valL (numL n) = n := by
  induction n using num_ind with
  | h0 n h => rw [numL_small h]; simp [valL]; omega
  | h1 n h ih => rw [numL_big h, valL_concat, ih]; omega
theorem numL_digits (n : Nat) : ∀ x ∈ numL n, 48 ≤ x ∧ x ≤ 57 := by
  induction n using num_ind with
  | h0 n h => rw [numL_small h]; simp; omega
  | h1 n h ih =>
    rw [numL_big h]
    intro x hx
    rcases List.mem_append.1 hx with g | g
    · exact ih x g
    · simp at g; omega
theorem numL_ne (n : Nat) : numL n ≠ [] := by
  induction n using num_ind with
  | h0 n h => rw [numL_small h]; simp
  | h1 n h ih => rw [numL_big h]; simp
theorem numL_len (d : Nat) : ∀ n, n < 10 ^ (d + 1) → (numL n).length ≤ d + 1 := by
  induction d with
  | zero => intro n h; rw [numL_small (by simpa using h)]; simp
  | succ d ih =>
    intro n h
    by_cases g : n < 10
    · rw [numL_small g]; simp
    · rw [numL_big g, List.length_append]
      have := ih (n / 10) (by rw [Nat.pow_succ] at h; omega)
      simp; omega
theorem InB_digits {l : List Int} (h : ∀ x ∈ l, 48 ≤ x ∧ x ≤ 57) : InB l := fun x hx => by have := h x hx; omega
def fmtL (n : Int) : List Int := if n < 0 then 45 :: numL n.natAbs else numL n.toNat
def fmtV (n : Int) : ByteArray := strOfNums (fmtL n)
theorem InB_fmt (n : Int) : InB (fmtL n) := by
  unfold fmtL
  split
  · rw [InB_cons]; exact ⟨by omega, InB_digits (numL_digits _)⟩
  · exact InB_digits (numL_digits _)
theorem bytesOf_fmt (n : Int) : bytesOf (fmtV n) = fmtL n := bytesOf_strOf (InB_fmt n)
theorem valL_fmt {n : Int} (h : 0 ≤ n) : valL (fmtL n) = n := by
  unfold fmtL; rw [if_neg (by omega), valL_num]; omega
theorem fmtL_pos {n : Int} (h : 0 ≤ n) : fmtL n = numL n.toNat := by unfold fmtL; rw [if_neg (by omega)]
theorem fmtL_len (n : Int) (h0 : -9223372036854775808 ≤ n) (h1 : n ≤ 9223372036854775807) : (fmtL n).length ≤ 20 := by
  unfold fmtL
  split
  · have := numL_len 18 n.natAbs (by omega)
    simp only [List.length_cons]; omega
  · have := numL_len 18 n.toNat (by omega)
    omega
/-- The value of a text that is an integer's decimal form, up to a million millions. -/
def parseV (s : ByteArray) : Int × Bool := if 0 ≤ valL (bytesOf s) ∧ valL (bytesOf s) ≤ 1000000000000 ∧ fmtL (valL (bytesOf s)) = bytesOf s then (valL (bytesOf s), true) else (0, false)
theorem parseV_fmt {n : Int} (h0 : 0 ≤ n) (h1 : n ≤ 1000000000000) : parseV (fmtV n) = (n, true) := by
  unfold parseV
  rw [bytesOf_fmt, valL_fmt h0, if_pos ⟨h0, h1, rfl⟩]
theorem parseV_true {s : ByteArray} {n : Int} (h : parseV s = (n, true)) : 0 ≤ n ∧ n ≤ 1000000000000 ∧ s = fmtV n := by
  unfold parseV at h
  split at h
  · rename_i g
    simp only [Prod.mk.injEq, and_true] at h
    subst h
    exact ⟨g.1, g.2.1, bytesOf_inj (by rw [bytesOf_fmt, g.2.2])⟩
  · simp at h
theorem parseV_no {s : ByteArray} (h : ¬ (0 ≤ valL (bytesOf s) ∧ valL (bytesOf s) ≤ 1000000000000 ∧ fmtL (valL (bytesOf s)) = bytesOf s)) : parseV s = (0, false) := by unfold parseV; rw [if_neg h]
theorem fmtL_inj {n m : Int} (h : fmtL n = fmtL m) : n = m := by
  have head : ∀ z : Int, z < 0 → (fmtL z).head? = some 45 := by intro z hz; unfold fmtL; rw [if_pos hz]; rfl
  have head2 : ∀ z : Int, ¬ z < 0 → (fmtL z).head? ≠ some 45 := by
    intro z hz e
    unfold fmtL at e
    rw [if_neg hz] at e
    have := numL_digits z.toNat 45 (List.mem_of_mem_head? e)
    omega
  by_cases h1 : n < 0
  · by_cases h2 : m < 0
    · unfold fmtL at h
      rw [if_pos h1, if_pos h2] at h
      have := congrArg valL (List.cons.inj h).2
      rw [valL_num, valL_num] at this
      omega
    · exact absurd (by rw [← h]; exact head n h1) (head2 m h2)
  · by_cases h2 : m < 0
    · exact absurd (by rw [h]; exact head m h2) (head2 n h1)
    · have := congrArg valL h
      rw [valL_fmt (by omega), valL_fmt (by omega)] at this
      exact this
theorem parseV_fmt_no {n : Int} (h : ¬ (0 ≤ n ∧ n ≤ 1000000000000)) : parseV (fmtV n) = (0, false) := by
  unfold parseV
  rw [bytesOf_fmt, if_neg]
  rintro ⟨a, b, c⟩
  have := fmtL_inj c
  omega
theorem decDigits_map (u : Nat) : ((Lib.decDigits u).map fun b => (b.toNat : Int)) = numL u := by
  refine num_ind (p := fun u => ((Lib.decDigits u).map fun b => (b.toNat : Int)) = numL u) (fun n h => ?_) (fun n h ih => ?_) u
  · rw [Lib.decDigits, dif_pos h, numL_small h]
    simp [UInt8.toNat_ofNat']; omega
  · rw [Lib.decDigits, dif_neg h, numL_big h, List.map_append, ih]
    simp [UInt8.toNat_ofNat']; omega
theorem itoa_map (n : Int) : ((Lib.itoa n).map fun b => (b.toNat : Int)) = fmtL n := by
  unfold Lib.itoa fmtL
  split
  · simp only [List.map_cons, decDigits_map]; rfl
  · exact decDigits_map _
theorem impl_Fmt_eq (n : Int) (h0 : -9223372036854775808 ≤ n) (h1 : n ≤ 9223372036854775807) : impl_FormatInt.f n = some (fmtV n) := by
  unfold impl_FormatInt.f strconv_Itoa.f
  rw [if_pos ⟨h0, h1⟩, Option.bind_some]
  congr 1
  apply bytesOf_inj
  rw [bytesOf_fmt, ← itoa_map]; rfl
theorem itoa_map2 (n : Int) : ((Lib.itoa n).map fun b => (b.toNat : Int)) = fmtL n := by
  unfold Lib.itoa fmtL
  split
  · simp only [List.map_cons, decDigits_map]; rfl
  · exact decDigits_map _
theorem bytes_map (s : ByteArray) : (s.data.toList.map fun b => (b.toNat : Int)) = bytesOf s := rfl
theorem map_inj {l m : List UInt8} (h : (l.map fun b => (b.toNat : Int)) = m.map fun b => (b.toNat : Int)) : l = m := by
  have e := bytesOf_inj (s := ⟨l.toArray⟩) (t := ⟨m.toArray⟩) h
  injection e with e
  simpa using e
theorem decFrom_append (l m : List UInt8) : ∀ acc, Lib.decFrom acc (l ++ m) = (Lib.decFrom acc l).bind fun a => Lib.decFrom a m := by
  induction l with
  | nil => intro acc; rfl
  | cons b r ih =>
    intro acc
    simp only [List.cons_append, Lib.decFrom]
    cases Lib.digitVal b with
    | none => rfl
    | some d => exact ih _
theorem digitVal_of (d : Nat) (h : d < 10) : Lib.digitVal (UInt8.ofNat (48 + d)) = some d := by
  unfold Lib.digitVal
  have e : (UInt8.ofNat (48 + d)).toNat = 48 + d := by rw [UInt8.toNat_ofNat']; omega
  rw [e, if_pos (by omega)]; congr 1; omega
theorem decFrom_dec (u : Nat) : Lib.decFrom 0 (Lib.decDigits u) = some u := by
  refine num_ind (p := fun u => Lib.decFrom 0 (Lib.decDigits u) = some u) (fun n h => ?_) (fun n h ih => ?_) u
  · rw [Lib.decDigits, dif_pos h]
    simp only [Lib.decFrom, digitVal_of n h]
    congr 1; omega
  · rw [Lib.decDigits, dif_neg h, decFrom_append, ih, Option.bind_some]
    simp only [Lib.decFrom, digitVal_of (n % 10) (by omega)]
    congr 1; omega
theorem atoi_dec (u : Nat) : Lib.atoi (Lib.decDigits u) = some (u : Int) := by
  match h : Lib.decDigits u with
  | [] =>
    have := decDigits_map u
    rw [h] at this
    exact absurd this.symm (numL_ne u)
  | b :: r =>
    have hd : 48 ≤ (b.toNat : Int) ∧ (b.toNat : Int) ≤ 57 := by
      refine numL_digits u _ ?_
      rw [← decDigits_map, h]; simp
    have h1 : (b == 45) = false := by rw [beq_eq_false_iff_ne]; rintro rfl; simp at hd
    have h2 : (b == 43) = false := by rw [beq_eq_false_iff_ne]; rintro rfl; simp at hd
    unfold Lib.atoi
    simp only [h1, h2, Bool.false_eq_true, if_false]
    have e := decFrom_dec u
    rw [h] at e
    unfold Lib.decNat
    simp [e]
theorem impl_Parse_eq (s : ByteArray) : impl_ParseInt.f s = some (parseV s) := by
  unfold impl_ParseInt.f
  have key : ∀ v : Int, 0 ≤ v → fmtL v = bytesOf s → Lib.atoi s.data.toList = some v := by
    intro v h0 h
    have : s.data.toList = Lib.decDigits v.toNat := by
      apply map_inj
      rw [bytes_map, ← h, fmtL_pos h0, decDigits_map]
    rw [this, atoi_dec]; congr 1; omega
  by_cases h : s.size > 13
  · rw [if_pos h, parseV_no]
    rintro ⟨h0, h1, h2⟩
    have hl : (fmtL (valL (bytesOf s))).length = s.size := by rw [h2, bytesOf_length]
    rw [fmtL_pos h0] at hl
    have h3 := numL_len 12 (valL (bytesOf s)).toNat (by omega)
    omega
  · rw [if_neg h]
    cases ha : Lib.atoi s.data.toList with
    | none =>
      simp only
      rw [parseV_no]
      rintro ⟨h0, h1, h2⟩
      have := key _ h0 h2
      rw [ha] at this
      exact absurd this (by simp)
    | some n =>
      simp only
      by_cases g : (0 ≤ n ∧ n ≤ 1000000000000) ∧ Lib.itoa n = s.data.toList
      · rw [if_pos g]
        have e : s = fmtV n := by
          apply bytesOf_inj
          rw [bytesOf_fmt, ← itoa_map2, g.2, bytes_map]
        rw [e, parseV_fmt g.1.1 g.1.2]
      · rw [if_neg g, parseV_no]
        rintro ⟨h0, h1, h2⟩
        have := key _ h0 h2
        rw [ha] at this
        have e := Option.some.inj this
        subst e
        refine g ⟨⟨h0, h1⟩, ?_⟩
        apply map_inj
        rw [itoa_map2, h2, bytes_map]
/-- Zeros in front, up to a width, of at most twenty. -/
def padL (w : Int) (l : List Int) : List Int := List.replicate (min w 20 - (l.length : Int)).toNat 48 ++ l
def padV (w : Int) (s : ByteArray) : ByteArray := strOfNums (padL w (bytesOf s))
theorem padV_done {w : Int} {s : ByteArray} (h : ¬ ((s.size : Int) < w ∧ (s.size : Int) < 20)) : padV w s = s := by
  apply bytesOf_inj
  have e : padL w (bytesOf s) = bytesOf s := by
    unfold padL
    rw [← size_bytes, show (min w 20 - (s.size : Int)).toNat = 0 by omega]; rfl
  unfold padV
  rw [e, bytesOf_strOf (InB_bytes s)]
theorem padV_more {w : Int} {s : ByteArray} (h : (s.size : Int) < w ∧ (s.size : Int) < 20) : padV w s = padV w ((⟨#[48]⟩ : ByteArray) ++ s) := by
  unfold padV
  congr 1
  unfold padL
  rw [bytesOf_append, show bytesOf ⟨#[48]⟩ = [48] by decide, ← size_bytes]
  obtain ⟨m, hm⟩ : ∃ m, (min w 20 - (s.size : Int)).toNat = m + 1 := ⟨(min w 20 - (s.size : Int)).toNat - 1, by omega⟩
  have h2 : (min w 20 - ((([48] : List Int) ++ bytesOf s).length : Int)).toNat = m := by
    simp only [List.length_append, List.length_cons, List.length_nil, bytesOf_length]; omega
  rw [hm, h2, List.replicate_succ', List.append_assoc]
theorem impl_pad (w : Int) (d : Nat) : ∀ s : ByteArray, 20 ≤ s.size + d → s.size ≤ 1000 → Ev (fun k => impl_Digits.l0 k w s) (padV w s) := by
  induction d with
  | zero =>
    intro s h hs
    refine Ev.step (f := fun _ => some s) (fun k => ?_) (by rw [padV_done (by omega)]; exact Ev.now _)
    simp only [impl_Digits.l0]
    by_cases c : (s.size : Int) < w
    · rw [if_pos c, if_neg (by omega)]
    · rw [if_neg c]
  | succ d ih =>
    intro s h hs
    by_cases c : (s.size : Int) < w ∧ (s.size : Int) < 20
    · rw [padV_more c]
      have z : ((⟨#[48]⟩ : ByteArray) ++ s).size = 1 + s.size := by rw [ByteArray.size_append]; rfl
      refine Ev.step (fun k => ?_) (ih _ (by omega) (by omega))
      simp only [impl_Digits.l0]
      rw [if_pos c.1, if_pos c.2, if_pos (by omega)]
    · refine Ev.step (f := fun _ => some s) (fun k => ?_) (by rw [padV_done c]; exact Ev.now _)
      simp only [impl_Digits.l0]
      by_cases c1 : (s.size : Int) < w
      · rw [if_pos c1, if_neg (by omega)]
      · rw [if_neg c1]
def signed (n : Int) (t : ByteArray) : ByteArray := if n < 0 then (⟨#[45]⟩ : ByteArray) ++ t else t
theorem one_byte (d : Int) (h0 : 0 ≤ d) (h1 : d ≤ 9) : (wrap64 (48 + d)) % 256 = 48 + d := by rw [wrap_id (by omega) (by omega)]; omega
theorem fmtV_size {n : Int} (h0 : -9223372036854775808 ≤ n) (h1 : n ≤ 9223372036854775807) : (fmtV n).size ≤ 20 := by
  have := fmtL_len n h0 h1
  rw [← bytesOf_fmt, bytesOf_length] at this
  exact this
theorem wrap_range (x : Int) : -9223372036854775808 ≤ wrap64 x ∧ wrap64 x ≤ 9223372036854775807 := by unfold wrap64; omega
def digitsV (n w : Int) : ByteArray := padV w (fmtV (max 0 n))
theorem max0_le {n : Int} (h1 : n ≤ 9223372036854775807) : -9223372036854775808 ≤ max 0 n ∧ max 0 n ≤ 9223372036854775807 := by omega
theorem impl_Digits_ev (n w : Int) (h1 : n ≤ 9223372036854775807) : Ev (fun k => impl_Digits.f k n w) (digitsV n w) := by
  have e : mx 0 n = max 0 n := by unfold mx; split <;> omega
  have b := max0_le h1
  have z := fmtV_size b.1 b.2
  unfold impl_Digits.f
  rw [e, impl_Fmt_eq _ b.1 b.2]
  simp only [Option.bind_some]
  exact impl_pad w 20 _ (by omega) (by omega)
theorem tmod_fix (a m : Int) (h1 : 1 ≤ m) (h2 : m ≤ 1000000000000) : Int.tmod (wrap64 (Int.tmod a m + m)) m = a % m := by
  have e := Int.tmod_eq_emod (a := a) (b := m)
  have g1 := Int.emod_nonneg a (show m ≠ 0 by omega)
  have g2 := Int.emod_lt_of_pos a (show 0 < m by omega)
  have hn : (m.natAbs : Int) = m := by omega
  have hw : wrap64 (Int.tmod a m + m) = Int.tmod a m + m := by
    unfold wrap64
    rw [e]
    split
    · rw [show ((0 : Nat) : Int) = 0 from rfl]; omega
    · omega
  rw [hw, e]
  split
  · rw [show ((0 : Nat) : Int) = 0 from rfl, Int.sub_zero, Int.tmod_eq_emod_of_nonneg (by omega), Int.add_emod_right, Int.emod_emod_of_dvd a (Int.dvd_refl m)]
  · rw [hn, Int.sub_add_cancel, Int.tmod_eq_emod_of_nonneg (by omega), Int.emod_emod_of_dvd a (Int.dvd_refl m)]
def modV (a m : Int) : Int := if 1 ≤ m ∧ m ≤ 1000000000000 then a % m else 0
theorem modV_pos {a m : Int} (h1 : 1 ≤ m) (h2 : m ≤ 1000000000000) : modV a m = a % m := by unfold modV; rw [if_pos ⟨h1, h2⟩]
theorem impl_inRange_eq (a b c : Int) : impl_inRange.f a b c = some (decide (b ≤ a ∧ a ≤ c)) := by
  unfold impl_inRange.f
  by_cases h : b ≤ a
  · rw [if_pos h]; congr 1; apply decide_eq_decide.mpr; constructor
    · exact fun x => ⟨h, x⟩
    · exact fun x => x.2
  · rw [if_neg h]; congr 1; symm; apply decide_eq_false; omega
theorem impl_Mod_eq (a m : Int) : impl_Mod.f a m = some (modV a m) := by
  unfold impl_Mod.f modV
  rw [impl_inRange_eq, Option.bind_some]
  by_cases h : 1 ≤ m ∧ m ≤ 1000000000000
  · rw [if_pos (decide_eq_true h), if_neg (by omega), if_pos h, tmod_fix a m h.1 h.2]
  · rw [if_neg (by simp [h]), if_neg h]

theorem floor_ok {a b : Int} (hb1 : 1 ≤ b) (hb2 : b ≤ 1000000000000) (ha0 : -9223372036854775808 ≤ a) (ha1 : a ≤ 9223372036854775807) : ∃ q, impl_FloorDiv.f a b = some q ∧ wrap64 (wrap64 (q * b) + a % b) = a := by
  have e : b * Int.tdiv a b + Int.tmod a b = a := Int.mul_tdiv_add_tmod a b
  have em := Int.tmod_eq_emod (a := a) (b := b)
  have m0 := Int.emod_nonneg a (show b ≠ 0 by omega)
  have m1 := Int.emod_lt_of_pos a (show 0 < b by omega)
  have na : (Int.tdiv a b).natAbs = a.natAbs / b.natAbs := Int.natAbs_tdiv a b
  have hn1 : a.natAbs / b.natAbs ≤ a.natAbs := Nat.div_le_self _ _
  have hn : (b.natAbs : Int) = b := by omega
  have em2 : Int.tmod a b = a % b ∨ Int.tmod a b = a % b - b := by
    rw [em]
    split
    · left; rw [show ((0 : Nat) : Int) = 0 from rfl, Int.sub_zero]
    · right; rw [hn]
  have hr : a % b = if Int.tmod a b < 0 then Int.tmod a b + b else Int.tmod a b := by
    split <;> omega
  have h0 : -9223372036854775808 ≤ Int.tdiv a b ∧ Int.tdiv a b ≤ 9223372036854775807 := by
    rcases Int.lt_or_le a 0 with g | g
    · have : Int.tdiv a b ≤ 0 := by
        rcases Int.lt_or_le 0 (Int.tdiv a b) with q | q
        · have : b * 1 ≤ b * Int.tdiv a b := Int.mul_le_mul_of_nonneg_left (by omega) (by omega)
          omega
        · exact q
      omega
    · omega
  unfold impl_FloorDiv.f
  rw [impl_inRange_eq, Option.bind_some, if_pos (decide_eq_true ⟨hb1, hb2⟩), if_neg (by omega)]
  by_cases g : Int.tmod a b < 0
  · rw [if_pos g] at hr ⊢
    have hb : 2 ≤ b.natAbs := by
      rcases Nat.lt_or_ge b.natAbs 2 with q | q
      · have : b = 1 := by omega
        subst this
        rw [Int.tmod_one] at g
        omega
      · exact q
    have hn2 : a.natAbs / b.natAbs ≤ a.natAbs / 2 := Nat.div_le_div_left hb (by decide)
    refine ⟨_, rfl, ?_⟩
    rw [wrap_id h0.1 h0.2, wrap_id (n := Int.tdiv a b - 1) (by omega) (by omega), hr, Int.sub_mul, Int.one_mul, Int.mul_comm]
    generalize b * Int.tdiv a b = p at e
    unfold wrap64
    omega
  · rw [if_neg g] at hr ⊢
    refine ⟨_, rfl, ?_⟩
    rw [wrap_id h0.1 h0.2, hr, Int.mul_comm]
    generalize b * Int.tdiv a b = p at e
    unfold wrap64
    omega
theorem floor_some (a b : Int) : ∃ q, impl_FloorDiv.f a b = some q := by
  unfold impl_FloorDiv.f
  rw [impl_inRange_eq, Option.bind_some]
  by_cases h : 1 ≤ b ∧ b ≤ 1000000000000
  · rw [if_pos (decide_eq_true h), if_neg (by omega)]
    split
    · exact ⟨_, rfl⟩
    · exact ⟨_, rfl⟩
  · rw [if_neg (by simp [h])]
    exact ⟨_, rfl⟩
theorem digits_long (n w : Int) : min w 20 ≤ ((digitsV n w).size : Int) := by
  unfold digitsV padV
  rw [strOfNums_size]
  unfold padL
  rw [List.length_append, List.length_replicate]
  omega
theorem FnNumbers : laws_FnNumbers.Pure := by
  intro l hl hb
  apply Ev.rounds
  by_cases g : (l.length : Int) > 1048576
  · refine Ev.mp (Ev.now _) (fun k => ?_)
    unfold laws_FnNumbers.f laws_big.f
    rw [decide_eq_true g, Option.bind_some, if_pos rfl]
  obtain ⟨h, hn, c⟩ := new_ev l (by omega)
  obtain ⟨n, i1, h1, e1, n0, c1⟩ := one_ok h c
  obtain ⟨b, i2, h2, e2, b0, c2⟩ := int_ok h1 c1 ([1, 2, 7, 251, 0, (-3), 1000000000000, 1000000000001] : List Int) (by decide)
  obtain ⟨w, i3, h3, e3, w0, c3⟩ := int_ok h1 c1 ([0, 2, 4, 25, (-1)] : List Int) (by decide)
  have D1 : Ev (fun k => spec_DrawFormatInt.f k l) n := by
    unfold spec_DrawFormatInt.f
    refine Ev.bind hn ?_
    simp only [e1, Option.bind_some]
    exact Ev.now _
  have D2 : Ev (fun k => spec_DrawFloorDiv.f k l) (n, b) := by
    unfold spec_DrawFloorDiv.f
    refine Ev.bind hn ?_
    simp only [e1, e2, Option.bind_some]
    exact Ev.now _
  have D3 : Ev (fun k => spec_DrawDigits.f k l) (n, w) := by
    unfold spec_DrawDigits.f
    refine Ev.bind hn ?_
    simp only [e1, e3, Option.bind_some]
    exact Ev.now _
  have hbig : laws_big.f l = some false := by unfold laws_big.f; rw [decide_eq_false g]
  obtain ⟨q, hq⟩ := floor_some n b
  have hmn : impl_Min.f w 20 = some (min w 20) := by
    unfold impl_Min.f mn
    congr 1
    split <;> omega
  have hmx : impl_Max.f (modV n b) 0 = some (max (modV n b) 0) := by
    unfold impl_Max.f mx
    congr 1
    split <;> omega
  have hlong := digits_long n w
  have tail : ((impl_Min.f w 20).bind fun t => (if ((digitsV n w).size : Int) < t then (some false) else (if b < 1 then (some true) else (if b > 1000000000000 then (some true) else (if (wrap64 ((wrap64 (q * b)) + modV n b)) = n then (if modV n b ≥ 0 then (if modV n b < b then ((impl_Max.f (modV n b) 0).bind fun u => (some (u == modV n b))) else (some false)) else (some false)) else (some false)))))) = some true := by
    rw [hmn, Option.bind_some, if_neg (by omega)]
    by_cases g1 : b < 1
    · rw [if_pos g1]
    · rw [if_neg g1]
      by_cases g2 : b > 1000000000000
      · rw [if_pos g2]
      · have hm : modV n b = n % b := modV_pos (by omega) (by omega)
        have m0 := Int.emod_nonneg n (show b ≠ 0 by omega)
        have m1 := Int.emod_lt_of_pos n (show 0 < b by omega)
        obtain ⟨q', hq', hw⟩ := floor_ok (a := n) (b := b) (by omega) (by omega) n0.1 n0.2
        rw [hq] at hq'
        obtain rfl := Option.some.inj hq'
        rw [hm] at hmx
        rw [if_neg g2, hm, if_pos hw, if_pos m0, if_pos m1, hmx, Option.bind_some, show max (n % b) 0 = n % b by omega, beq_self_eq_true]
  unfold laws_FnNumbers.f
  simp only [hbig, Option.bind_some, Bool.false_eq_true, if_false]
  refine Ev.bind D1 ?_
  simp only [impl_Fmt_eq n n0.1 n0.2, Option.bind_some, impl_Parse_eq]
  refine Ev.bind D2 ?_
  simp only [hq, impl_Mod_eq, Option.bind_some]
  refine Ev.bind D3 ?_
  refine Ev.bind (impl_Digits_ev n w n0.2) ?_
  refine Ev.mp (Ev.now true) (fun k => ?_)
  by_cases p0 : 0 ≤ n
  · rw [if_pos p0]
    by_cases p1 : n ≤ 1000000000000
    · rw [parseV_fmt p0 p1]
      simp only
      rw [decide_eq_true p1, if_neg (by simp), if_pos trivial, if_pos trivial]
      exact tail
    · rw [parseV_fmt_no (fun z => p1 z.2)]
      simp only
      rw [decide_eq_false p1, if_neg (by simp), if_neg (by simp)]
      exact tail
  · rw [if_neg p0, parseV_fmt_no (fun z => p0 z.1)]
    simp only
    rw [if_neg (by simp), if_neg (by simp)]
    exact tail

end Go.Proofs.YtlboepkphddacaaDoor.Pure
