/- The pure part of FnFields: for every list of bytes within the statement's bounds the printed law answers true. Conditions: the statement's own bounds alone. -/
import Derived.Test.YtlboepkphddacaaDoorPreFnFields
import Derived.Test.YtlboepkphddacaaDoorRFnFieldsx1
import Derived.Test.YtlboepkphddacaaDoorRFnFieldsx2
import Derived.Test.YtlboepkphddacaaDoorRFnFieldsx3
import Derived.Test.YtlboepkphddacaaDoorRFnFieldsx4
import Derived.Test.YtlboepkphddacaaDoorRFnFieldsx5
import Derived.Test.YtlboepkphddacaaDoorRFnFieldsx6
import Derived.Test.YtlboepkphddacaaDoorRFnFieldsx7
import Derived.Test.YtlboepkphddacaaDoorRFnFieldsx8
import Derived.OpenShut
namespace Go.Proofs.YtlboepkphddacaaDoor.Pure
open Go.RowKit Go.Proofs.YtlboepkphddacaaDoor.RFnFields Go.Proofs.YtlboepkphddacaaDoorW.PrintWords Go.Proofs.YtlboepkphddacaaDoorW.PrintLast
set_option linter.unusedSimpArgs false
set_option linter.unusedVariables false

/-! ### Texts as lists of numbers -/
def InB (l : List Int) : Prop := ∀ x ∈ l, 0 ≤ x ∧ x ≤ 255
theorem InB_nil : InB [] := fun x hx => by simp at hx
theorem InB_cons {b : Int} {l : List Int} : InB (b :: l) ↔ (0 ≤ b ∧ b ≤ 255) ∧ InB l := by simp [InB]
theorem InB_append {l m : List Int} : InB (l ++ m) ↔ InB l ∧ InB m := by
  simp only [InB, List.mem_append]
  exact ⟨fun h => ⟨fun x hx => h x (.inl hx), fun x hx => h x (.inr hx)⟩, fun h x hx => hx.elim (h.1 x) (h.2 x)⟩
theorem InB_take {l : List Int} (n : Nat) (h : InB l) : InB (l.take n) := fun x hx => h x (List.mem_of_mem_take hx)
theorem InB_drop {l : List Int} (n : Nat) (h : InB l) : InB (l.drop n) := fun x hx => h x (List.mem_of_mem_drop hx)
theorem InB_bytes (s : ByteArray) : InB (bytesOf s) := by
  intro x hx
  unfold bytesOf at hx
  obtain ⟨b, _, rfl⟩ := List.mem_map.1 hx
  have := b.toNat_lt
  omega
theorem strOf_bytesOf (s : ByteArray) : strOfNums (bytesOf s) = s := by
  obtain ⟨⟨l⟩⟩ := s
  unfold strOfNums bytesOf
  simp only [List.map_map]
  congr 2
  exact (List.map_congr_left (fun b _ => by simp)).trans (List.map_id l)
theorem bytesOf_strOf {l : List Int} (h : InB l) : bytesOf (strOfNums l) = l := by
  unfold strOfNums bytesOf
  simp only [List.map_map]
  refine (List.map_congr_left (fun x hx => ?_)).trans (List.map_id l)
  have := h x hx
  simp only [Function.comp_apply, id, UInt8.toNat_ofNat']
  omega
theorem bytesOf_inj {s t : ByteArray} (h : bytesOf s = bytesOf t) : s = t := by rw [← strOf_bytesOf s, h, strOf_bytesOf]
theorem bytesOf_append (s t : ByteArray) : bytesOf (s ++ t) = bytesOf s ++ bytesOf t := by
  unfold bytesOf
  rw [ByteArray.data_append, Array.toList_append, List.map_append]
theorem bytesOf_extract (s : ByteArray) (a b : Nat) : bytesOf (s.extract a b) = ((bytesOf s).take b).drop a := by
  unfold bytesOf
  rw [ByteArray.data_extract, Array.toList_extract, List.extract_eq_take_drop, List.map_take, List.map_drop, List.take_drop]
  rcases Nat.le_total a b with h | h
  · rw [Nat.add_sub_cancel' h]
  · rw [Nat.sub_eq_zero_of_le h, List.drop_eq_nil_of_le (by simp; omega), List.drop_eq_nil_of_le (by simp; omega)]
theorem toList_iff {s t : ByteArray} : s.toList = t.toList ↔ s = t := by
  rw [ByteArray.toList_eq, ByteArray.toList_eq]
  constructor
  · intro h
    obtain ⟨⟨l⟩⟩ := s
    obtain ⟨⟨m⟩⟩ := t
    simp only at h
    rw [h]
  · rintro rfl; rfl
theorem size_bytes (s : ByteArray) : (s.size : Int) = ((bytesOf s).length : Int) := by rw [bytesOf_length]
theorem getD_mid {α : Type} {l pre rest : List α} {b d : α} (h : l = pre ++ b :: rest) : l.getD ((pre.length : Int)).toNat d = b := by subst h; simp
theorem len_mid {α : Type} {l pre rest : List α} (h : l = pre ++ rest) : l.length = pre.length + rest.length := by rw [h, List.length_append]
theorem rd_mid {l pre rest : List Int} {b : Int} (h : l = pre ++ b :: rest) : rd l (pre.length : Int) = b := by
  subst h
  unfold rd
  simp
theorem bt_mid {s : ByteArray} {pre rest : List Int} {b : Int} (h : bytesOf s = pre ++ b :: rest) : bt s (pre.length : Int) = b := by
  rw [← rd_bytesOf]; exact rd_mid h
theorem size_mid {s : ByteArray} {pre rest : List Int} (h : bytesOf s = pre ++ rest) : (s.size : Int) = (pre.length : Int) + (rest.length : Int) := by
  rw [size_bytes, h]; simp
theorem mid_step {l pre rest : List Int} {b : Int} (h : l = pre ++ b :: rest) : l = (pre ++ [b]) ++ rest := by simp [h]
theorem wrap_id {n : Int} (h0 : -9223372036854775808 ≤ n) (h1 : n ≤ 9223372036854775807) : wrap64 n = n := by unfold wrap64; omega
theorem len_step {α : Type} (pre : List α) (b : α) (h : pre.length ≤ 9223372036854775000) : wrap64 ((pre.length : Int) + 1) = ((pre ++ [b]).length : Int) := by
  rw [wrap_id (by omega) (by omega)]; simp
/-! ### Loops over lists -/
theorem map_loop {α β : Type} (da : α) (conv : α → β) (x0 : List α) (hn : x0.length ≤ 4611686018427387904) (g : Nat → List β → Int → Option (List β))
    (hg : ∀ k x3 i, g (k + 1) x3 i = if i < (x0.length : Int) then (if 0 ≤ i then (if i < (x3.length : Int) then g k (x3.set (i : Int).toNat (conv (x0.getD i.toNat da))) (wrap64 (i + 1)) else none) else none) else some x3) (z : β) :
    Ev (fun k => g k (List.replicate x0.length z) 0) (x0.map conv) := by
  have key : ∀ rest pre, x0 = pre ++ rest → Ev (fun k => g k (pre.map conv ++ List.replicate rest.length z) (pre.length : Int)) (x0.map conv) := by
    intro rest
    induction rest with
    | nil =>
      intro pre h
      refine Ev.step (f := fun _ => some (x0.map conv)) (fun k => ?_) (Ev.now _)
      rw [hg, if_neg (by rw [h]; simp)]
      simp [h]
    | cons b rest ih =>
      intro pre h
      have hl : x0.length = pre.length + (rest.length + 1) := by rw [h]; simp
      refine Ev.step (f := fun k => g k ((pre ++ [b]).map conv ++ List.replicate rest.length z) ((pre ++ [b]).length : Int)) (fun k => ?_) (ih (pre ++ [b]) (by simp [h]))
      rw [hg, if_pos (by omega), if_pos (by omega), if_pos (by simp; omega), wrap_id (by omega) (by omega)]
      have e1 : x0.getD ((pre.length : Int)).toNat da = b := by rw [h]; simp
      rw [e1]
      congr 1
      · simp [List.replicate_succ, List.set_append]
      · simp
  exact key x0 [] rfl
theorem same_loop {α : Type} (a : List α) (hn : a.length ≤ 4611686018427387904) (g : Nat → Int → Option Bool)
    (hg : ∀ k i, 0 ≤ i → i < (a.length : Int) → g (k + 1) i = g k (wrap64 (i + 1))) (he : ∀ k, g (k + 1) (a.length : Int) = some true) : Ev (fun k => g k 0) true := by
  have key : ∀ d i : Nat, i + d = a.length → Ev (fun k => g k (i : Int)) true := by
    intro d
    induction d with
    | zero => intro i h; obtain rfl : i = a.length := by omega
              exact Ev.step he (Ev.now _)
    | succ d ih =>
      intro i h
      refine Ev.step (f := fun k => g k ((i + 1 : Nat) : Int)) (fun k => ?_) (ih (i + 1) (by omega))
      rw [hg k i (by omega) (by omega), wrap_id (by omega) (by omega)]; rfl
  exact key a.length 0 (by omega)
theorem Ev.mp {α : Type} {g f : Nat → Option α} {r : α} (h : Ev f r) (e : ∀ k, g k = f k) : Ev g r := Ev.congr e h
theorem Ev.step2 {α : Type} {g f : Nat → Option α} {r : α} (h : ∃ K, ∀ k, K ≤ k → g (k + 1) = f k) (e : Ev f r) : Ev g r := by
  obtain ⟨K, hK⟩ := h
  obtain ⟨K', hK'⟩ := e
  refine ⟨max K K' + 1, fun k hk => ?_⟩
  obtain ⟨k, rfl⟩ : ∃ m, k = m + 1 := ⟨k - 1, by omega⟩
  rw [hK k (by omega), hK' k (by omega)]
/-- Every element turned into the next of a row of marks. -/
def markL {α : Type} (mk : Int → α) (c : Nat) : Int → List α → List α
  | _, [] => []
  | k, _ :: r => mk k :: markL mk c (k + c) r
theorem markL_length {α : Type} (mk : Int → α) (c : Nat) (l : List α) : ∀ k, (markL mk c k l).length = l.length := by
  induction l with
  | nil => intro k; rfl
  | cons x r ih => intro k; simp [markL, ih]
theorem mark_loop {α : Type} (mk : Int → α) (c : Nat) (g : Nat → List α → Int → Int → Option (Int × List α)) (B : Int) (hB : B ≤ 4611686018427387904)
    (hg : ∀ (l : List α) (k0 i : Int), 0 ≤ i → i < (l.length : Int) → 0 ≤ k0 → k0 + c ≤ B → ∃ K, ∀ k, K ≤ k → g (k + 1) l k0 i = g k (l.set i.toNat (mk k0)) (k0 + c) (wrap64 (i + 1)))
    (he : ∀ k (l : List α) (k0 : Int), g (k + 1) l k0 (l.length : Int) = some (k0, l)) (l : List α) (hl : l.length ≤ 4611686018427387904) (k0 : Int) (h0 : 0 ≤ k0) (h1 : k0 + c * l.length ≤ B) :
    Ev (fun k => g k l k0 0) (k0 + c * l.length, markL mk c k0 l) := by
  have key : ∀ (rest pre : List α) (k0 : Int), 0 ≤ k0 → k0 + c * rest.length ≤ B → pre.length + rest.length ≤ 4611686018427387904 → Ev (fun k => g k (pre ++ rest) k0 (pre.length : Int)) (k0 + c * rest.length, pre ++ markL mk c k0 rest) := by
    intro rest
    induction rest with
    | nil =>
      intro pre k0 _ _ _
      refine Ev.step (f := fun _ => some (k0, pre)) (fun k => ?_) (by simpa [markL] using Ev.now _)
      have := he k pre k0
      simpa using this
    | cons x rest ih =>
      intro pre k0 h0 h1 h2
      simp only [List.length_cons] at h1 h2
      have hc : (c : Int) * ((rest.length + 1 : Nat) : Int) = c * rest.length + c := by rw [Int.natCast_add, Int.mul_add]; simp
      rw [hc] at h1
      have hcn : 0 ≤ (c : Int) * (rest.length : Int) := Int.mul_nonneg (by omega) (by omega)
      obtain ⟨K, hK⟩ := hg (pre ++ x :: rest) k0 (pre.length : Int) (by omega) (by simp; omega) h0 (by omega)
      have e := ih (pre ++ [mk k0]) (k0 + c) (by omega) (by omega) (by simp; omega)
      have e2 : (k0 + (c : Int)) + c * rest.length = k0 + c * ((x :: rest).length : Int) := by simp only [List.length_cons]; rw [hc]; omega
      rw [e2] at e
      refine Ev.step2 (f := fun k => g k (pre ++ [mk k0] ++ rest) (k0 + c) ((pre ++ [mk k0]).length : Int)) ⟨K, fun k hk => ?_⟩ (by simpa [markL] using e)
      rw [hK k hk, wrap_id (by omega) (by omega)]
      simp [List.set_append]
  have := key l [] k0 h0 h1 (by simpa using hl)
  simpa using this
theorem held_loop {α : Type} (mk : Int → α) (c : Nat) (l0 l : List α) (k0 : Int) (hl : l = markL mk c k0 l0) (g : Nat → Int → Int → Option Int) (B : Int) (hB : B ≤ 4611686018427387904)
    (hg : ∀ (k1 i : Int), 0 ≤ i → i < (l.length : Int) → 0 ≤ k1 → k1 + c ≤ B → l[i.toNat]? = some (mk k1) → ∃ K, ∀ k, K ≤ k → g (k + 1) k1 i = g k (k1 + c) (wrap64 (i + 1)))
    (he : ∀ k (k1 : Int), g (k + 1) k1 (l.length : Int) = some k1) (hn : l0.length ≤ 4611686018427387904) (h0 : 0 ≤ k0) (h1 : k0 + c * l0.length ≤ B) :
    Ev (fun k => g k k0 0) (k0 + c * l0.length) := by
  have hlen : l.length = l0.length := by rw [hl, markL_length]
  have key : ∀ (rest : List α) (pre : List α) (k1 : Int), l = pre ++ markL mk c k1 rest → 0 ≤ k1 → k1 + c * rest.length ≤ B → Ev (fun k => g k k1 (pre.length : Int)) (k1 + c * rest.length) := by
    intro rest
    induction rest with
    | nil =>
      intro pre k1 h _ _
      refine Ev.step (f := fun _ => some k1) (fun k => ?_) (by simpa using Ev.now _)
      have := he k k1
      rw [h] at this
      simpa [markL] using this
    | cons x rest ih =>
      intro pre k1 h h0 h1
      simp only [List.length_cons] at h1
      have hc : (c : Int) * ((rest.length + 1 : Nat) : Int) = c * rest.length + c := by rw [Int.natCast_add, Int.mul_add]; simp
      rw [hc] at h1
      have hcn : 0 ≤ (c : Int) * (rest.length : Int) := Int.mul_nonneg (by omega) (by omega)
      have hl2 : l.length = pre.length + (rest.length + 1) := by rw [h]; simp [markL_length]
      obtain ⟨K, hK⟩ := hg k1 (pre.length : Int) (by omega) (by omega) h0 (by omega) (by rw [h]; simp [markL])
      have e := ih (pre ++ [mk k1]) (k1 + c) (by rw [h]; simp [markL]) (by omega) (by omega)
      have e2 : (k1 + (c : Int)) + c * rest.length = k1 + c * ((x :: rest).length : Int) := by simp only [List.length_cons]; rw [hc]; omega
      rw [e2] at e
      refine Ev.step2 (f := fun k => g k (k1 + c) ((pre ++ [mk k1]).length : Int)) ⟨K, fun k hk => ?_⟩ e
      rw [hK k hk, wrap_id (by omega) (by omega)]
      simp
  exact key l0 [] k0 (by simpa using hl) h0 h1
theorem Ev.pos {α : Type} {c : Prop} [Decidable c] {f g : Nat → Option α} {r : α} (h : c) (e : Ev f r) : Ev (fun k => if c then f k else g k) r := by simp only [if_pos h]; exact e
theorem Ev.neg {α : Type} {c : Prop} [Decidable c] {f g : Nat → Option α} {r : α} (h : ¬ c) (e : Ev g r) : Ev (fun k => if c then f k else g k) r := by simp only [if_neg h]; exact e
theorem Ev.get {α β : Type} {f : Nat → α → Option β} {a : α} {r : β} (e : Ev (fun n => f n a) r) : Ev (fun n => (some a).bind (f n)) r := e
theorem and255 (n : Int) : Go.bits .and .i64 n 255 = n % 256 := by
  have h255 : (BitVec.ofInt 64 255).toNat = 2 ^ 8 - 1 := by decide
  have key : (BitVec.ofInt 64 n &&& BitVec.ofInt 64 255).toNat = (n % ((2 ^ 64 : Nat) : Int)).toNat % 2 ^ 8 := by
    rw [BitVec.toNat_and, BitVec.toNat_ofInt, h255, Nat.and_two_pow_sub_one_eq_mod]
  show IntKind.i64.wrap ((BitVec.ofInt 64 n &&& BitVec.ofInt 64 255).toNat : Nat) = n % 256
  rw [key, IntKind.wrap_i64]
  omega
/-- A cursor's place lies within the bytes. -/
def Cur (l : List Int) (i : Int) : Prop := 0 ≤ i ∧ i ≤ (l.length : Int) ∧ l.length ≤ 1048576
theorem byte_ok {l : List Int} {i : Int} (h : Int) (c : Cur l i) : ∃ x i' h', spec_l1Byte.f l i h = some (x, i', h') ∧ 0 ≤ x ∧ x ≤ 255 ∧ Cur l i' := by
  obtain ⟨c0, c1, c2⟩ := c
  unfold spec_l1Byte.f
  simp only [and255]
  by_cases g : i < (l.length : Int)
  · rw [if_pos g, if_pos c0]
    exact ⟨_, _, _, rfl, by omega, by omega, by rw [wrap_id (by omega) (by omega)]; exact ⟨by omega, by omega, c2⟩⟩
  · rw [if_neg g]
    exact ⟨_, _, _, rfl, by omega, by omega, c0, c1, c2⟩
theorem below_ok {l : List Int} {i : Int} (h : Int) (c : Cur l i) (n : Int) : ∃ x i' h', spec_l1Below.f l i h n = some (x, i', h') ∧ 0 ≤ x ∧ (0 < n → x < n) ∧ Cur l i' := by
  unfold spec_l1Below.f
  by_cases g0 : n ≤ 0
  · rw [if_pos g0]
    exact ⟨_, _, _, rfl, by omega, by omega, c⟩
  · rw [if_neg g0]
    by_cases g1 : n ≤ 256
    · rw [if_pos g1]
      obtain ⟨x, i', h', e, x0, x1, c'⟩ := byte_ok h c
      rw [e]
      simp only [Option.bind_some]
      rw [if_neg (by omega)]
      exact ⟨_, _, _, rfl, Int.tmod_nonneg n x0, fun hn => Int.tmod_lt_of_pos x hn, c'⟩
    · rw [if_neg g1]
      obtain ⟨x, i1, h1, e1, x0, x1, c1⟩ := byte_ok h c
      obtain ⟨y, i2, h2, e2, y0, y1, c2⟩ := byte_ok h1 c1
      obtain ⟨z, i3, h3, e3, z0, z1, c3⟩ := byte_ok h2 c2
      rw [e1]
      simp only [Option.bind_some]
      rw [e2]
      simp only [Option.bind_some]
      rw [e3]
      simp only [Option.bind_some]
      rw [if_neg (by omega), wrap_id (n := x * 65536) (by omega) (by omega), wrap_id (n := y * 256) (by omega) (by omega), wrap_id (n := x * 65536 + y * 256) (by omega) (by omega), wrap_id (n := x * 65536 + y * 256 + z) (by omega) (by omega)]
      exact ⟨_, _, _, rfl, Int.tmod_nonneg n (by omega), fun hn => Int.tmod_lt_of_pos _ hn, c3⟩
theorem new_loop {l : List Int} (hl : l.length ≤ 1048576) (d : Nat) : ∀ (i x : Int), 0 ≤ i → i + d = l.length → ∃ h, Ev (fun k => spec_l1New.l0 k l x i) (l, 0, h) := by
  induction d with
  | zero =>
    intro i x h0 h1
    refine ⟨x, Ev.step (f := fun _ => some (l, 0, x)) (fun k => ?_) (Ev.now _)⟩
    simp only [spec_l1New.l0]
    rw [if_neg (by omega)]
  | succ d ih =>
    intro i x h0 h1
    by_cases g : i < 4000
    · obtain ⟨h, e⟩ := ih (i + 1) (Go.bits .and .i64 (wrap64 ((wrap64 ((wrap64 (x * 139)) + (wrap64 (rd l i)))) + 11)) 1073741823) (by omega) (by omega)
      refine ⟨h, Ev.step (fun k => ?_) e⟩
      simp only [spec_l1New.l0]
      rw [if_pos (by omega), if_pos g, if_pos h0, wrap_id (n := i + 1) (by omega) (by omega)]
    · refine ⟨x, Ev.step (f := fun _ => some (l, 0, x)) (fun k => ?_) (Ev.now _)⟩
      simp only [spec_l1New.l0]
      rw [if_pos (by omega), if_neg g]
theorem new_ev (l : List Int) (hl : l.length ≤ 1048576) : ∃ h, Ev (fun k => spec_l1New.f k l) (l, 0, h) ∧ Cur l 0 := by
  obtain ⟨h, e⟩ := new_loop hl l.length 0 (wrap64 (271091 + (l.length : Int))) (by omega) (by omega)
  exact ⟨h, e, by omega, by omega, hl⟩
theorem str_ok {l : List Int} {i : Int} (h : Int) (c : Cur l i) (L : List ByteArray) (hL : 0 < L.length) : ∃ x i' h', spec_l1Str.f l i h L = some (x, i', h') ∧ x ∈ L ∧ Cur l i' := by
  obtain ⟨q, i', h', e, q0, q1, c'⟩ := below_ok h c (L.length : Int)
  have hlen : (L.length : Int) ≤ L.length := by omega
  have q2 := q1 (by omega)
  unfold spec_l1Str.f
  rw [e]
  simp only [Option.bind_some]
  rw [if_pos q0, if_pos q2]
  refine ⟨_, _, _, rfl, ?_, c'⟩
  unfold rdOf
  have hq : q.toNat < L.length := by omega
  rw [List.getD_eq_getElem?_getD, List.getElem?_eq_getElem hq]
  exact List.getElem_mem hq
theorem str_small {l : List Int} {i : Int} (h : Int) (c : Cur l i) (L : List ByteArray) (hL : 0 < L.length) (n : Nat) (hs : (L.all fun x => decide (x.size ≤ n)) = true) : ∃ x i' h', spec_l1Str.f l i h L = some (x, i', h') ∧ x.size ≤ n ∧ Cur l i' := by
  obtain ⟨x, i', h', e, hx, c'⟩ := str_ok h c L hL
  exact ⟨x, i', h', e, of_decide_eq_true (List.all_eq_true.1 hs x hx), c'⟩
def totS : List ByteArray → Nat
  | [] => 0
  | x :: r => 1 + x.size + totS r
theorem totS_len (l : List ByteArray) : l.length ≤ totS l := by
  induction l with
  | nil => simp
  | cons x r ih => simp only [List.length_cons, totS]; omega
theorem rdS_mid {l pre rest : List ByteArray} {x : ByteArray} (h : l = pre ++ x :: rest) : rdOf ByteArray.empty l (pre.length : Int) = x := getD_mid h
def joinT : List ByteArray → List Int
  | [] => []
  | x :: r => [44, 32] ++ bytesOf x ++ joinT r
def joinI : List ByteArray → List Int
  | [] => []
  | x :: r => bytesOf x ++ joinT r
def joinV (l : List ByteArray) : ByteArray := strOfNums (joinI l)
theorem InB_joinT (l : List ByteArray) : InB (joinT l) := by
  induction l with
  | nil => exact InB_nil
  | cons x r ih =>
    simp only [joinT, InB_append]
    exact ⟨⟨by intro y hy; simp at hy; omega, InB_bytes x⟩, ih⟩
theorem InB_joinI (l : List ByteArray) : InB (joinI l) := by
  cases l with
  | nil => exact InB_nil
  | cons x r => simp only [joinI, InB_append]; exact ⟨InB_bytes x, InB_joinT r⟩
theorem bytesOf_joinV (l : List ByteArray) : bytesOf (joinV l) = joinI l := bytesOf_strOf (InB_joinI l)
theorem joinT_len (l : List ByteArray) : (joinT l).length ≤ 2 * totS l := by
  induction l with
  | nil => simp [joinT]
  | cons x r ih => simp only [joinT, totS, List.length_append, bytesOf_length, List.length_cons, List.length_nil]; omega
theorem joinI_len (l : List ByteArray) : (joinI l).length ≤ 2 * totS l := by
  cases l with
  | nil => simp [joinI]
  | cons x r => have := joinT_len r; simp only [joinI, totS, List.length_append, bytesOf_length]; omega
def valsL (l : List S67) (name : ByteArray) : List ByteArray := (l.filter (fun x => decide (x.f0 = name))).map (·.f1)
def totF2 : List S67 → Nat
  | [] => 0
  | x :: r => 1 + (x.f0.size + x.f1.size) + totF2 r
theorem totF2_len (l : List S67) : l.length ≤ totF2 l := by
  induction l with
  | nil => simp
  | cons x r ih => simp only [List.length_cons, totF2]; omega
theorem vals_tot (l : List S67) (name : ByteArray) : totS (valsL l name) ≤ totF2 l := by
  induction l with
  | nil => simp [valsL, totS]
  | cons x r ih =>
    unfold valsL at ih ⊢
    by_cases h : x.f0 = name
    · simp only [List.filter_cons, h, decide_true, if_true, List.map_cons, totS, totF2]; omega
    · simp only [List.filter_cons, h, decide_false, Bool.false_eq_true, if_false, totF2]; omega
theorem vals_cons_eq (x : S67) (r : List S67) (name : ByteArray) (h : x.f0 = name) : valsL (x :: r) name = x.f1 :: valsL r name := by simp [valsL, h]
theorem vals_cons_ne (x : S67) (r : List S67) (name : ByteArray) (h : x.f0 ≠ name) : valsL (x :: r) name = valsL r name := by simp [valsL, h]
theorem vals_some (l : List S67) (name : ByteArray) : decide (((valsL l name).length : Int) > 0) = l.any (fun y => decide (y.f0 = name)) := by
  induction l with
  | nil => simp [valsL]
  | cons x r ih =>
    by_cases h : x.f0 = name
    · rw [vals_cons_eq x r name h]; simp [h]
    · rw [vals_cons_ne x r name h, ih]; simp [h]
def getV (l : List S67) (name : ByteArray) : ByteArray × Bool := (joinV (valsL l name), l.any (fun y => decide (y.f0 = name)))
theorem totF2_snoc (l : List S67) (x : S67) : totF2 (l ++ [x]) = totF2 l + (1 + (x.f0.size + x.f1.size)) := by
  induction l with
  | nil => simp [totF2]
  | cons y r ih => simp only [List.cons_append, totF2, ih]; omega
theorem draw5_loop (l : List Int) (d : Nat) : ∀ (acc : List S67) (i h : Int), Cur l i → totF2 acc + 50 * d ≤ 300 → ∃ L i' h', Ev (fun k => spec_l5Draw.l0 k acc (d : Int) l i h) (L, i', h') ∧ totF2 L ≤ 300 ∧ Cur l i' := by
  induction d with
  | zero =>
    intro acc i h c ha
    refine ⟨acc, i, h, Ev.step (f := fun _ => some (acc, i, h)) (fun k => ?_) (Ev.now _), by omega, c⟩
    simp only [spec_l5Draw.l0]
    rw [if_neg (by omega)]
  | succ d ih =>
    intro acc i h c ha
    obtain ⟨a, i1, h1, e1, a1, c1⟩ := str_small h c ([(⟨#[97, 99, 99, 101, 112, 116, 45, 108, 97, 110, 103, 117, 97, 103, 101]⟩ : ByteArray), (⟨#[97]⟩ : ByteArray), (⟨#[98]⟩ : ByteArray), (⟨#[99, 97, 99, 104, 101, 45, 99, 111, 110, 116, 114, 111, 108]⟩ : ByteArray), (⟨#[120, 45, 107]⟩ : ByteArray), (⟨#[97]⟩ : ByteArray)] : List ByteArray) (by decide) 20 (by decide +kernel)
    obtain ⟨b, i2, h2, e2, b2, c2⟩ := str_small h1 c1 ([(⟨#[]⟩ : ByteArray), (⟨#[100, 101, 44, 32, 101, 110]⟩ : ByteArray), (⟨#[110, 111, 45, 99, 97, 99, 104, 101]⟩ : ByteArray), (⟨#[49]⟩ : ByteArray), (⟨#[120, 32, 32, 121]⟩ : ByteArray), (⟨#[109, 97, 120, 45, 97, 103, 101, 61, 53]⟩ : ByteArray), (⟨#[34, 113, 34]⟩ : ByteArray)] : List ByteArray) (by decide) 20 (by decide +kernel)
    have hs := totF2_snoc acc ⟨a, b⟩
    have hl := totF2_len acc
    obtain ⟨L, i', h', hL, hz, c'⟩ := ih (acc ++ [⟨a, b⟩]) i2 h2 c2 (by rw [hs]; simp only; omega)
    refine ⟨L, i', h', Ev.step (fun k => ?_) hL, hz, c'⟩
    simp only [spec_l5Draw.l0]
    rw [if_pos (by omega), e1, Option.bind_some]
    simp only
    rw [e2, Option.bind_some]
    simp only
    rw [if_pos (by omega), wrap_id (n := ((d + 1 : Nat) : Int) - 1) (by omega) (by omega), show ((d + 1 : Nat) : Int) - 1 = (d : Int) by omega]
theorem draw5_ev {l : List Int} {i : Int} (h : Int) (c : Cur l i) : ∃ L i' h', Ev (fun k => spec_l5Draw.f k l i h) (L, i', h') ∧ totF2 L ≤ 300 ∧ Cur l i' := by
  obtain ⟨n, i1, h1, e1, n0, n1, c1⟩ := below_ok h c 6
  have n2 := n1 (by omega)
  obtain ⟨L, i', h', hL, hz, c'⟩ := draw5_loop l n.toNat [] i1 h1 c1 (by simp only [totF2]; omega)
  refine ⟨L, i', h', ?_, hz, c'⟩
  unfold spec_l5Draw.f
  rw [e1]
  simp only [Option.bind_some]
  rw [show (n.toNat : Int) = n by omega] at hL
  exact hL
theorem once_ok {l : List Int} {i : Int} (h : Int) (c : Cur l i) (n : Int) : ∃ b i' h', spec_l1Once.f l i h n = some (b, i', h') ∧ Cur l i' := by
  obtain ⟨x, i1, h1, e1, _, _, c1⟩ := below_ok h c n
  unfold spec_l1Once.f
  rw [e1]
  exact ⟨_, _, _, rfl, c1⟩
theorem totF2_set0 (x : S67) (l : List S67) : totF2 (l.set 0 x) ≤ totF2 l + (x.f0.size + x.f1.size) := by
  cases l with
  | nil => simp [totF2]
  | cons y r => simp only [List.set_cons_zero, totF2]; omega
theorem any5_ev {l : List Int} {i : Int} (h : Int) (c : Cur l i) : ∃ L i' h', Ev (fun k => spec_l5Any.f k l i h) (L, i', h') ∧ totF2 L ≤ 400 ∧ Cur l i' := by
  obtain ⟨L, i1, h1, hL, hz, c1⟩ := draw5_ev h c
  have plain : ∀ i h, Ev (fun k => spec_l5Any.j0 k L false l i h) (L, i, h) := fun i h => Ev.step (f := fun _ => some (L, i, h)) (fun k => by simp only [spec_l5Any.j0]; rw [if_neg (by simp)]) (Ev.now _)
  by_cases g : (L.length : Int) > 0
  · obtain ⟨b, i2, h2, e2, c2⟩ := once_ok h1 c1 3
    cases b with
    | false =>
      refine ⟨L, i2, h2, ?_, by omega, c2⟩
      unfold spec_l5Any.f
      refine Ev.bind hL (Ev.pos g ?_)
      simp only [e2, Option.bind_some]
      exact plain _ _
    | true =>
      obtain ⟨a, i3, h3, e3, a3, c3⟩ := str_small h2 c2 ([(⟨#[65]⟩ : ByteArray), (⟨#[97, 32, 98]⟩ : ByteArray), (⟨#[]⟩ : ByteArray), (⟨#[98]⟩ : ByteArray)] : List ByteArray) (by decide) 20 (by decide +kernel)
      obtain ⟨v, i4, h4, e4, v4, c4⟩ := str_small h3 c3 ([(⟨#[32, 120]⟩ : ByteArray), (⟨#[195, 169]⟩ : ByteArray), (⟨#[97, 13, 10, 98]⟩ : ByteArray), (⟨#[111, 107]⟩ : ByteArray)] : List ByteArray) (by decide) 20 (by decide +kernel)
      have hs := totF2_set0 ⟨a, v⟩ L
      simp only at hs
      refine ⟨L.set 0 ⟨a, v⟩, i4, h4, ?_, by omega, c4⟩
      unfold spec_l5Any.f
      refine Ev.bind hL (Ev.pos g ?_)
      simp only [e2, Option.bind_some]
      refine Ev.step (f := fun _ => some (L.set 0 ⟨a, v⟩, i4, h4)) (fun k => ?_) (Ev.now _)
      simp only [spec_l5Any.j0]
      rw [if_pos trivial, e3, Option.bind_some]
      simp only
      rw [e4, Option.bind_some]
      simp only
      rw [if_pos (by omega)]
      rfl
  · refine ⟨L, i1, h1, ?_, by omega, c1⟩
    unfold spec_l5Any.f
    exact Ev.bind hL (Ev.neg g (plain _ _))
theorem some_ok {l : List Int} {i : Int} (h : Int) (c : Cur l i) : ∃ x i' h', spec_l4Some.f l i h = some (x, i', h') ∧ x.size ≤ 20 ∧ Cur l i' := by
  unfold spec_l4Some.f
  obtain ⟨x, i', h', e, hx, c'⟩ := str_small h c ([(⟨#[]⟩ : ByteArray), (⟨#[97]⟩ : ByteArray), (⟨#[109, 97, 120, 45, 97, 103, 101]⟩ : ByteArray), (⟨#[120, 32, 121]⟩ : ByteArray), (⟨#[34, 113, 34]⟩ : ByteArray), (⟨#[34, 97, 44, 32, 98, 34]⟩ : ByteArray), (⟨#[34, 92, 34, 34]⟩ : ByteArray), (⟨#[34, 111, 112, 101, 110]⟩ : ByteArray), (⟨#[32, 98, 32]⟩ : ByteArray), (⟨#[9, 99]⟩ : ByteArray), (⟨#[107, 61, 118]⟩ : ByteArray), (⟨#[107, 61, 34, 97, 44, 98, 34]⟩ : ByteArray), (⟨#[75, 32, 61, 32, 55]⟩ : ByteArray), (⟨#[61]⟩ : ByteArray), (⟨#[195, 169]⟩ : ByteArray), (⟨#[65, 45, 98]⟩ : ByteArray)] : List ByteArray) (by decide) 20 (by decide +kernel)
  refine ⟨x, i', h', ?_, hx, c'⟩
  rw [e]
  rfl
/-- The fields behind SetField: where the first of the name stands, the new one; the others of the name fall away. -/
def setL (name value : ByteArray) : Bool → List S67 → List S67
  | done, [] => if done then [] else [⟨name, value⟩]
  | done, x :: r => if x.f0 = name then (if done then setL name value done r else ⟨name, value⟩ :: setL name value true r) else x :: setL name value done r
theorem setL_length (name value : ByteArray) (l : List S67) : ∀ d, (setL name value d l).length ≤ l.length + 1 := by
  induction l with
  | nil => intro d; cases d <;> simp [setL]
  | cons x r ih =>
    intro d
    have h1 := ih d
    have h2 := ih true
    unfold setL
    split
    · split
      · simp only [List.length_cons]; omega
      · simp only [List.length_cons]; omega
    · simp only [List.length_cons]; omega
theorem impl_Set_ev (l : List S67) (hl : l.length ≤ 1048576) (name value : ByteArray) : Ev (fun k => impl_SetField.f k l name value) (setL name value false l) := by
  have key : ∀ (rest pre acc : List S67) (d : Bool), l = pre ++ rest → acc.length ≤ pre.length → Ev (fun k => impl_SetField.l0 k name value acc d l (l.length : Int) (pre.length : Int)) (acc ++ setL name value d rest) := by
    intro rest
    induction rest with
    | nil =>
      intro pre acc d h ha
      have hl2 := len_mid h
      simp only [List.length_nil] at hl2
      cases d with
      | true =>
        refine Ev.step (f := fun _ => some acc) (fun k => ?_) (by simpa [setL] using Ev.now _)
        simp only [impl_SetField.l0]
        rw [if_neg (by omega), if_pos trivial]
      | false =>
        refine Ev.step (f := fun _ => some (acc ++ [⟨name, value⟩])) (fun k => ?_) (by simpa [setL] using Ev.now _)
        simp only [impl_SetField.l0]
        rw [if_neg (by omega), if_neg (by simp), if_pos (by omega)]
    | cons x rest ih =>
      intro pre acc d h ha
      have hl2 := len_mid h
      simp only [List.length_cons] at hl2
      have hx : rd_T67 l (pre.length : Int) = x := getD_mid h
      have hw := len_step pre x (by omega)
      by_cases e : x.f0 = name
      · cases d with
        | true =>
          refine Ev.step (f := fun k => impl_SetField.l0 k name value acc true l (l.length : Int) ((pre ++ [x]).length : Int)) (fun k => ?_) ?_
          · simp only [impl_SetField.l0]
            rw [if_pos (by omega), if_pos (by omega), if_pos (by omega), hx, if_pos (toList_iff.mpr e), if_pos trivial, hw]
          · have := ih (pre ++ [x]) acc true (by simp [h]) (by simp; omega)
            simpa [setL, e] using this
        | false =>
          refine Ev.step (f := fun k => impl_SetField.l0 k name value (acc ++ [⟨name, value⟩]) true l (l.length : Int) ((pre ++ [x]).length : Int)) (fun k => ?_) ?_
          · simp only [impl_SetField.l0]
            rw [if_pos (by omega), if_pos (by omega), if_pos (by omega), hx, if_pos (toList_iff.mpr e), if_neg (by simp), if_pos (by omega), hw]
          · have := ih (pre ++ [x]) (acc ++ [⟨name, value⟩]) true (by simp [h]) (by simp; omega)
            simpa [setL, e] using this
      · refine Ev.step (f := fun k => impl_SetField.l0 k name value (acc ++ [x]) d l (l.length : Int) ((pre ++ [x]).length : Int)) (fun k => ?_) ?_
        · simp only [impl_SetField.l0]
          rw [if_pos (by omega), if_pos (by omega), if_pos (by omega), hx, if_neg (fun g => e (toList_iff.mp g)), if_pos (by omega), hw]
        · have := ih (pre ++ [x]) (acc ++ [x]) d (by simp [h]) (by simp; omega)
          simpa [setL, e] using this
  have := key l [] [] false rfl (by simp)
  simpa [impl_SetField.f] using this
def dropV (l : List S67) (name : ByteArray) : List S67 := l.filter (fun x => decide (x.f0 ≠ name))
theorem dropV_length (l : List S67) (name : ByteArray) : (dropV l name).length ≤ l.length := List.length_filter_le _ _
theorem impl_Drop_ev (l : List S67) (hl : l.length ≤ 1048576) (name : ByteArray) : Ev (fun k => impl_DropField.f k l name) (dropV l name) := by
  have key : ∀ (rest pre acc : List S67), l = pre ++ rest → acc.length ≤ pre.length → Ev (fun k => impl_DropField.l0 k name acc l (l.length : Int) (pre.length : Int)) (acc ++ dropV rest name) := by
    intro rest
    induction rest with
    | nil =>
      intro pre acc h ha
      refine Ev.step (f := fun _ => some acc) (fun k => ?_) (by simpa [dropV] using Ev.now _)
      simp only [impl_DropField.l0]
      rw [if_neg (by rw [h]; simp)]
    | cons x rest ih =>
      intro pre acc h ha
      have hl2 := len_mid h
      simp only [List.length_cons] at hl2
      have hx : rd_T67 l (pre.length : Int) = x := getD_mid h
      have hw := len_step pre x (by omega)
      by_cases e : x.f0 = name
      · refine Ev.step (f := fun k => impl_DropField.l0 k name acc l (l.length : Int) ((pre ++ [x]).length : Int)) (fun k => ?_) ?_
        · simp only [impl_DropField.l0]
          rw [if_pos (by omega), if_pos (by omega), if_pos (by omega), hx, if_pos (toList_iff.mpr e), hw]
        · have := ih (pre ++ [x]) acc (by simp [h]) (by simp; omega)
          simpa [dropV, e] using this
      · refine Ev.step (f := fun k => impl_DropField.l0 k name (acc ++ [x]) l (l.length : Int) ((pre ++ [x]).length : Int)) (fun k => ?_) ?_
        · simp only [impl_DropField.l0]
          rw [if_pos (by omega), if_pos (by omega), if_pos (by omega), hx, if_neg (fun g => e (toList_iff.mp g)), if_pos (by omega), hw]
        · have := ih (pre ++ [x]) (acc ++ [x]) (by simp [h]) (by simp; omega)
          simpa [dropV, e] using this
  have := key l [] [] rfl (by simp)
  simpa [impl_DropField.f] using this
def mergeV (l newer : List S67) : List S67 := l.filter (fun x => !(newer.any (fun y => decide (y.f0 = x.f0)))) ++ newer
theorem mergeV_length (l newer : List S67) : (mergeV l newer).length ≤ l.length + newer.length := by
  unfold mergeV
  have := List.length_filter_le (fun x : S67 => !(newer.any (fun y => decide (y.f0 = x.f0)))) l
  simp only [List.length_append]; omega
def fieldsEq : List S67 → List S67 → Bool
  | [], [] => true
  | x :: r, y :: q => (x.f0.toList == y.f0.toList && x.f1.toList == y.f1.toList) && fieldsEq r q
  | _, _ => false
theorem fieldsEq_len : ∀ (a b : List S67), a.length ≠ b.length → fieldsEq a b = false
  | [], [], h => absurd rfl h
  | [], _ :: _, _ => rfl
  | _ :: _, [], _ => rfl
  | x :: r, y :: q, h => by
    unfold fieldsEq
    rw [fieldsEq_len r q (by simp only [List.length_cons] at h; omega)]; simp
theorem impl_Same_ev0 (a b : List S67) (ha : a.length ≤ 4611686018427387904) : Ev (fun k => impl_Field.f k a b) (fieldsEq a b) := by
  by_cases hab : a.length = b.length
  · have key : ∀ (r q pre1 pre2 : List S67), a = pre1 ++ r → b = pre2 ++ q → pre1.length = pre2.length → Ev (fun k => impl_Field.l0 k a b (a.length : Int) (pre1.length : Int)) (fieldsEq r q) := by
      intro r
      induction r with
      | nil =>
        intro q pre1 pre2 h1 h2 h3
        have l1 := len_mid h1
        have l2 := len_mid h2
        simp only [List.length_nil] at l1
        obtain rfl : q = [] := List.eq_nil_of_length_eq_zero (by omega)
        refine Ev.step (f := fun _ => some true) (fun k => ?_) (by simpa [fieldsEq] using Ev.now _)
        simp only [impl_Field.l0]
        rw [if_neg (by omega)]
      | cons x r ih =>
        intro q pre1 pre2 h1 h2 h3
        have l1 := len_mid h1
        have l2 := len_mid h2
        simp only [List.length_cons] at l1
        match q, h2, l2 with
        | [], h2, l2 => simp only [List.length_nil] at l2; omega
        | y :: q, h2, l2 =>
          simp only [List.length_cons] at l2
          have hx : rd_T67 a (pre1.length : Int) = x := getD_mid h1
          have hy : rd_T67 b (pre1.length : Int) = y := by rw [h3]; exact getD_mid h2
          have hw := len_step pre1 x (by omega)
          by_cases e : (!(x.f0.toList == y.f0.toList) || !(x.f1.toList == y.f1.toList)) = true
          · have e2 : (x.f0.toList == y.f0.toList && x.f1.toList == y.f1.toList) = false := by
              revert e; cases (x.f0.toList == y.f0.toList) <;> cases (x.f1.toList == y.f1.toList) <;> simp
            refine Ev.step (f := fun _ => some false) (fun k => ?_) (by unfold fieldsEq; rw [e2]; exact Ev.now _)
            simp only [impl_Field.l0]
            rw [if_pos (by omega), if_pos (by omega), if_pos (by omega), if_pos (by omega), hx, hy, if_pos e]
          · have e2 : (x.f0.toList == y.f0.toList && x.f1.toList == y.f1.toList) = true := by
              revert e; cases (x.f0.toList == y.f0.toList) <;> cases (x.f1.toList == y.f1.toList) <;> simp
            refine Ev.step (f := fun k => impl_Field.l0 k a b (a.length : Int) ((pre1 ++ [x]).length : Int)) (fun k => ?_) (by unfold fieldsEq; rw [e2]; exact ih q (pre1 ++ [x]) (pre2 ++ [y]) (by simp [h1]) (by simp [h2]) (by simp [h3]))
            simp only [impl_Field.l0]
            rw [if_pos (by omega), if_pos (by omega), if_pos (by omega), if_pos (by omega), hx, hy, if_neg e, hw]
    refine Ev.mp (key a b [] [] rfl rfl rfl) (fun k => ?_)
    unfold impl_Field.f
    rw [if_pos (by omega)]
    rfl
  · rw [fieldsEq_len a b hab]
    refine Ev.mp (Ev.now _) (fun k => ?_)
    unfold impl_Field.f
    rw [if_neg (by omega)]
theorem impl_Same_ev (a b : List S67) (ha : a.length ≤ 4611686018427387904) : Ev (fun k => impl_SameFields.f k a b) (fieldsEq a b) := by
  unfold impl_SameFields.f
  exact Ev.bind (impl_Same_ev0 a b ha) (Ev.now _)
theorem fieldsEq_self (a : List S67) : fieldsEq a a = true := by
  induction a with
  | nil => rfl
  | cons x r ih => unfold fieldsEq; rw [ih]; simp
theorem join_one (v : ByteArray) : joinV [v] = v := by
  apply bytesOf_inj
  rw [bytesOf_joinV]
  simp [joinI, joinT]
theorem vals_set (name value : ByteArray) (l : List S67) : ∀ d, valsL (setL name value d l) name = if d = true then [] else [value] := by
  induction l with
  | nil => intro d; cases d <;> simp [setL, valsL]
  | cons x r ih =>
    intro d
    unfold setL
    by_cases h : x.f0 = name
    · rw [if_pos h]
      cases d with
      | true => simp only [if_true]; rw [ih true]; rfl
      | false =>
        simp only [Bool.false_eq_true, if_false]
        rw [vals_cons_eq _ _ _ (by rfl), ih true]; rfl
    · rw [if_neg h, vals_cons_ne _ _ _ h, ih d]
theorem drop_set (name value : ByteArray) (l : List S67) : ∀ d, dropV (setL name value d l) name = dropV l name := by
  induction l with
  | nil => intro d; cases d <;> simp [setL, dropV]
  | cons x r ih =>
    intro d
    unfold setL
    by_cases h : x.f0 = name
    · rw [if_pos h]
      have e : dropV (x :: r) name = dropV r name := by unfold dropV; rw [List.filter_cons_of_neg (by simp [h])]
      rw [e]
      cases d with
      | true => simp only [if_true]; exact ih true
      | false =>
        simp only [Bool.false_eq_true, if_false]
        have e2 : dropV (⟨name, value⟩ :: setL name value true r) name = dropV (setL name value true r) name := by unfold dropV; rw [List.filter_cons_of_neg (by simp)]
        rw [e2]; exact ih true
    · rw [if_neg h]
      have e : ∀ z, dropV (x :: z) name = x :: dropV z name := fun z => by unfold dropV; rw [List.filter_cons_of_pos (by simp [h])]
      rw [e, e, ih d]
theorem set_count (name value : ByteArray) (l : List S67) : ∀ d, (setL name value d l).length = (dropV l name).length + (if d = true then 0 else 1) := by
  induction l with
  | nil => intro d; cases d <;> simp [setL, dropV]
  | cons x r ih =>
    intro d
    unfold setL
    by_cases h : x.f0 = name
    · rw [if_pos h]
      have e : dropV (x :: r) name = dropV r name := by unfold dropV; rw [List.filter_cons_of_neg (by simp [h])]
      rw [e]
      cases d with
      | true => simp only [if_true]; rw [ih true]; rfl
      | false => simp only [Bool.false_eq_true, if_false, List.length_cons]; rw [ih true]; simp
    · rw [if_neg h]
      have e : ∀ z, dropV (x :: z) name = x :: dropV z name := fun z => by unfold dropV; rw [List.filter_cons_of_pos (by simp [h])]
      rw [e, List.length_cons, List.length_cons, ih d]; omega
theorem drop_still (l : List S67) (name : ByteArray) : (dropV l name).any (fun y => decide (y.f0 = name)) = false := by
  rw [List.any_eq_false]
  intro x hx
  unfold dropV at hx
  have := (List.mem_filter.1 hx).2
  simpa using this
theorem totF2_filter (p : S67 → Bool) (l : List S67) : totF2 (l.filter p) ≤ totF2 l := by
  induction l with
  | nil => simp
  | cons x r ih =>
    by_cases h : p x = true
    · rw [List.filter_cons_of_pos h]; simp only [totF2]; omega
    · rw [List.filter_cons_of_neg h]; simp only [totF2]; omega
theorem totF2_append (a b : List S67) : totF2 (a ++ b) = totF2 a + totF2 b := by
  induction a with
  | nil => simp [totF2]
  | cons x r ih => simp only [List.cons_append, totF2, ih]; omega
theorem totF2_set (name value : ByteArray) (l : List S67) : ∀ d, totF2 (setL name value d l) ≤ totF2 l + 1 + name.size + value.size := by
  induction l with
  | nil => intro d; cases d <;> simp [setL, totF2] <;> omega
  | cons x r ih =>
    intro d
    unfold setL
    by_cases h : x.f0 = name
    · rw [if_pos h]
      have h2 := ih true
      cases d with
      | true => simp only [if_true, totF2]; omega
      | false =>
        simp only [Bool.false_eq_true, if_false, totF2]
        have hx : totF2 (setL name value true r) ≤ totF2 r := by
          clear ih h2
          induction r with
          | nil => simp [setL]
          | cons y q ihq =>
            unfold setL
            by_cases hy : y.f0 = name
            · rw [if_pos hy]; simp only [if_true, totF2]; omega
            · rw [if_neg hy]; simp only [totF2]; omega
        omega
    · rw [if_neg h]
      have h2 := ih d
      simp only [totF2]; omega
theorem vals_merge (l newer : List S67) (x : S67) (hx : x ∈ newer) : valsL (mergeV l newer) x.f0 = valsL newer x.f0 := by
  unfold mergeV valsL
  rw [List.filter_append]
  have e : (l.filter (fun x => !(newer.any (fun y => decide (y.f0 = x.f0))))).filter (fun z => decide (z.f0 = x.f0)) = [] := by
    rw [List.filter_eq_nil_iff]
    intro z hz
    have h2 := (List.mem_filter.1 hz).2
    intro h
    have hzx : z.f0 = x.f0 := of_decide_eq_true h
    have : newer.any (fun y => decide (y.f0 = z.f0)) = true := List.any_eq_true.2 ⟨x, hx, by rw [hzx]; simp⟩
    rw [this] at h2
    simp at h2
  rw [e, List.nil_append]
def tokB (x : Int) : Bool := decide (97 ≤ x ∧ x ≤ 122) || decide (65 ≤ x ∧ x ≤ 90) || decide (48 ≤ x ∧ x ≤ 57) || ([33, 35, 36, 37, 38, 39, 42, 43, 45, 46, 94, 95, 124, 126, 96] : List Int).contains x
def tokL (l : List Int) : Bool := l.all tokB && decide (1 ≤ (l.length : Int) ∧ (l.length : Int) ≤ 40)
def tokV (s : ByteArray) : Bool := (bytesOf s).all tokB && decide (1 ≤ (s.size : Int) ∧ (s.size : Int) ≤ 40)
theorem tokV_L (s : ByteArray) : tokV s = tokL (bytesOf s) := by unfold tokV tokL; rw [size_bytes]
theorem fin256 {p : Int → Prop} (h : ∀ n : Fin 256, p (n.val : Int)) {b : Int} (h0 : 0 ≤ b) (h1 : b ≤ 255) : p b := by
  have := h ⟨b.toNat, by omega⟩
  rwa [show ((b.toNat : Nat) : Int) = b by omega] at this
def lowerV (s : ByteArray) : ByteArray := strOfNums ((bytesOf s).map lowB)
def rdropI (p : Int → Bool) : List Int → List Int
  | [] => []
  | b :: r => if rdropI p r = [] ∧ p b = true then [] else b :: rdropI p r
def trimP (p : Int → Bool) (l : List Int) : List Int := (rdropI p l).dropWhile p
def blankI (b : Int) : Bool := b == 32 || b == 9
theorem rdropI_concat (p : Int → Bool) (l : List Int) (b : Int) : rdropI p (l ++ [b]) = if p b = true then rdropI p l else l ++ [b] := by
  induction l with
  | nil => by_cases h : p b = true <;> simp [rdropI, h]
  | cons x r ih =>
    by_cases h : p b = true
    · rw [if_pos h] at ih ⊢
      simp only [List.cons_append, rdropI, ih]
    · rw [if_neg h] at ih ⊢
      simp only [List.cons_append, rdropI, ih]
      rw [if_neg (by simp)]
theorem rdropI_eq (p : Int → Bool) (l : List Int) : (l.reverse.dropWhile p).reverse = rdropI p l := by
  obtain ⟨n, hn⟩ : ∃ n, l.length = n := ⟨_, rfl⟩
  induction n generalizing l with
  | zero => obtain rfl := List.eq_nil_of_length_eq_zero hn; rfl
  | succ n ih =>
    rcases List.eq_nil_or_concat l with h | ⟨r, b, h⟩
    · subst h; rfl
    · subst h
      rw [List.concat_eq_append, rdropI_concat, List.reverse_append]
      simp only [List.reverse_cons, List.reverse_nil, List.nil_append, List.singleton_append, List.dropWhile_cons]
      by_cases hb : p b = true
      · rw [if_pos hb, if_pos hb]
        exact ih r (by simp at hn; omega)
      · rw [if_neg hb, if_neg hb]; simp
theorem rdropI_length (p : Int → Bool) (l : List Int) : (rdropI p l).length ≤ l.length := by
  induction l with
  | nil => simp [rdropI]
  | cons b r ih => unfold rdropI; split <;> simp only [List.length_nil, List.length_cons] <;> omega
theorem rdropI_all (p : Int → Bool) (l : List Int) : rdropI p l = [] ↔ ∀ x ∈ l, p x = true := by
  induction l with
  | nil => simp [rdropI]
  | cons b r ih =>
    unfold rdropI
    split
    · rename_i h
      simp only [List.mem_cons, forall_eq_or_imp, true_iff]
      exact ⟨h.2, ih.1 h.1⟩
    · rename_i h
      simp only [List.mem_cons, forall_eq_or_imp, reduceCtorEq, false_iff]
      exact fun g => h ⟨ih.2 g.2, g.1⟩
/-- It is all one which end goes first. -/
theorem drop_rdrop (p : Int → Bool) (l : List Int) : (rdropI p l).dropWhile p = rdropI p (l.dropWhile p) := by
  induction l with
  | nil => rfl
  | cons b r ih =>
    by_cases h : p b = true
    · rw [List.dropWhile_cons_of_pos h]
      by_cases g : rdropI p r = []
      · have e : rdropI p (b :: r) = [] := by unfold rdropI; rw [if_pos ⟨g, h⟩]
        rw [e, ← ih, g]
      · have e : rdropI p (b :: r) = b :: rdropI p r := by rw [rdropI, if_neg (fun z => g z.1)]
        rw [e, List.dropWhile_cons_of_pos h, ih]
    · have e : rdropI p (b :: r) = b :: rdropI p r := by rw [rdropI, if_neg (fun z => h z.2)]
      rw [e, List.dropWhile_cons_of_neg h, List.dropWhile_cons_of_neg h, e]
theorem trimP_length (p : Int → Bool) (l : List Int) : (trimP p l).length ≤ l.length :=
  Nat.le_trans (List.dropWhile_sublist p).length_le (rdropI_length p l)
theorem dropWhile_mem {p : Int → Bool} {l : List Int} {x : Int} (h : x ∈ l.dropWhile p) : x ∈ l := (List.dropWhile_sublist p).subset h
theorem rdropI_mem {p : Int → Bool} {l : List Int} {x : Int} (h : x ∈ rdropI p l) : x ∈ l := by
  rw [← rdropI_eq] at h
  have := dropWhile_mem (List.mem_reverse.1 h)
  exact List.mem_reverse.1 this
theorem trimP_mem {p : Int → Bool} {l : List Int} {x : Int} (h : x ∈ trimP p l) : x ∈ l := rdropI_mem (dropWhile_mem h)
theorem InB_trim {p : Int → Bool} {l : List Int} (h : InB l) : InB (trimP p l) := fun x hx => h x (trimP_mem hx)
theorem rdropI_nil_cons {p : Int → Bool} {l : List Int} : rdropI p (rdropI p l) = rdropI p l := by
  induction l with
  | nil => rfl
  | cons b r ih =>
    by_cases g : rdropI p r = [] ∧ p b = true
    · have e : rdropI p (b :: r) = [] := by rw [rdropI, if_pos g]
      rw [e]; rfl
    · have e : rdropI p (b :: r) = b :: rdropI p r := by rw [rdropI, if_neg g]
      rw [e, rdropI, ih, if_neg g]
theorem dropWhile_idem (p : Int → Bool) (l : List Int) : (l.dropWhile p).dropWhile p = l.dropWhile p := by
  induction l with
  | nil => rfl
  | cons b r ih =>
    by_cases h : p b = true
    · rw [List.dropWhile_cons_of_pos h, ih]
    · rw [List.dropWhile_cons_of_neg h, List.dropWhile_cons_of_neg h]
theorem trimP_idem (p : Int → Bool) (l : List Int) : trimP p (trimP p l) = trimP p l := by
  unfold trimP
  rw [drop_rdrop p (List.dropWhile p (rdropI p l)), dropWhile_idem, ← drop_rdrop, rdropI_nil_cons]
def trimV (s : ByteArray) : ByteArray := strOfNums (trimP blankI (bytesOf s))
theorem bytesOf_trimV (s : ByteArray) : bytesOf (trimV s) = trimP blankI (bytesOf s) := bytesOf_strOf (InB_trim (InB_bytes s))
theorem trimV_size (s : ByteArray) : (trimV s).size ≤ s.size := by
  rw [← bytesOf_length, ← bytesOf_length, bytesOf_trimV]; exact trimP_length _ _
def vB (x : Int) : Bool := decide (32 ≤ x ∧ x ≤ 126) || decide (x = 9)
def nameB (s : ByteArray) : Bool := tokV s && decide (lowerV s = s)
def valB (s : ByteArray) : Bool := (bytesOf s).all vB && (decide ((s.size : Int) ≤ 200) && decide (trimV s = s))
def areV (l : List S67) : Bool := l.all (fun x => nameB x.f0 && valB x.f1) && decide ((l.length : Int) ≤ 24)
theorem beq_toList (s t : ByteArray) : (s.toList == t.toList) = decide (s = t) := by
  by_cases h : s = t
  · rw [h]; simp
  · rw [decide_eq_false h]; exact beq_eq_false_iff_ne.mpr (fun g => h (toList_iff.mp g))
theorem totF2_mem (l : List S67) (x : S67) (h : x ∈ l) : x.f0.size ≤ totF2 l ∧ x.f1.size ≤ totF2 l := by
  induction l with
  | nil => simp at h
  | cons y r ih =>
    simp only [totF2]
    rcases List.mem_cons.1 h with g | g
    · subst g; omega
    · have := ih g; omega
def cutI (sep : List Int) : List Int → List Int × List Int × Bool
  | [] => ([], [], false)
  | b :: r => if sep.isPrefixOf (b :: r) = true then ([], (b :: r).drop sep.length, true) else (b :: (cutI sep r).1, (cutI sep r).2)
def cutV (sep : List Int) (s : ByteArray) : ByteArray × ByteArray × Bool := (strOfNums (cutI sep (bytesOf s)).1, strOfNums (cutI sep (bytesOf s)).2.1, (cutI sep (bytesOf s)).2.2)
theorem prefix_map (u l : List UInt8) : (u.map fun b => (b.toNat : Int)).isPrefixOf (l.map fun b => (b.toNat : Int)) = u.isPrefixOf l := by
  induction u generalizing l with
  | nil => simp
  | cons a u ih =>
    cases l with
    | nil => rfl
    | cons b l =>
      simp only [List.map_cons, List.isPrefixOf, ih]
      congr 1
      by_cases h : a = b
      · subst h; simp
      · have : ¬ (a.toNat : Int) = (b.toNat : Int) := fun z => h (UInt8.toNat_inj.1 (by omega))
        rw [beq_eq_false_iff_ne.mpr h, beq_eq_false_iff_ne.mpr this]
theorem libcut_cons_hit {b : UInt8} {l sep : List UInt8} (h : sep.isPrefixOf (b :: l) = true) : Lib.cut (b :: l) sep = ([], (b :: l).drop sep.length, true) := by
  have e : Lib.index (b :: l) sep = 0 := by unfold Lib.index; rw [if_pos h]
  unfold Lib.cut
  rw [e]; simp
theorem libcut_cons_miss {b : UInt8} {l sep : List UInt8} (h : ¬ sep.isPrefixOf (b :: l) = true) : Lib.cut (b :: l) sep = (b :: (Lib.cut l sep).1, (Lib.cut l sep).2) := by
  have e : Lib.index (b :: l) sep = if (Lib.index l sep == -1) = true then -1 else Lib.index l sep + 1 := by rw [Lib.index, if_neg h]
  have hg := Lib.index_ge l sep
  unfold Lib.cut
  by_cases g : Lib.index l sep = -1
  · rw [e, g]; simp
  · have g2 : 0 ≤ Lib.index l sep := by omega
    have e0 : Lib.index (b :: l) sep = Lib.index l sep + 1 := by rw [e, if_neg (by simpa using g)]
    rw [e0, if_pos (by omega), if_pos g2]
    obtain ⟨n, hn⟩ : ∃ n : Nat, Lib.index l sep = n := ⟨(Lib.index l sep).toNat, by omega⟩
    rw [hn]
    have e1 : ((n : Int) + 1).toNat = n + 1 := by omega
    have e2 : (n : Int).toNat = n := by omega
    rw [e1, e2, List.take_succ_cons]
    have e3 : n + 1 + sep.length = (n + sep.length) + 1 := by omega
    rw [e3, List.drop_succ_cons]
theorem libcut_map (l sep : List UInt8) (hs : sep ≠ []) :
    ((Lib.cut l sep).1.map fun b => (b.toNat : Int)) = (cutI (sep.map fun b => (b.toNat : Int)) (l.map fun b => (b.toNat : Int))).1 ∧ ((Lib.cut l sep).2.1.map fun b => (b.toNat : Int)) = (cutI (sep.map fun b => (b.toNat : Int)) (l.map fun b => (b.toNat : Int))).2.1 ∧
    (Lib.cut l sep).2.2 = (cutI (sep.map fun b => (b.toNat : Int)) (l.map fun b => (b.toNat : Int))).2.2 := by
  induction l with
  | nil =>
    have e : Lib.cut [] sep = ([], [], false) := by
      unfold Lib.cut Lib.index
      cases sep with
      | nil => exact absurd rfl hs
      | cons a s => simp
    rw [e]; exact ⟨rfl, rfl, rfl⟩
  | cons b r ih =>
    have hp := prefix_map sep (b :: r)
    rw [List.map_cons] at hp ⊢
    by_cases h : sep.isPrefixOf (b :: r) = true
    · rw [libcut_cons_hit h]
      unfold cutI
      rw [if_pos (by rw [hp]; exact h)]
      refine ⟨rfl, ?_, rfl⟩
      simp only
      rw [List.map_drop, List.map_cons, List.length_map]
    · rw [libcut_cons_miss h]
      unfold cutI
      rw [if_neg (by rw [hp]; exact h)]
      refine ⟨?_, ih.2.1, ih.2.2⟩
      simp only [List.map_cons]
      rw [ih.1]
theorem cut_parts (sep l : List Int) : (cutI sep l).2.2 = true → l = (cutI sep l).1 ++ sep ++ (cutI sep l).2.1 := by
  induction l with
  | nil => intro h; simp [cutI] at h
  | cons b r ih =>
    unfold cutI
    split
    · rename_i h
      intro _
      simp only [List.nil_append]
      exact (List.prefix_iff_eq_append.1 (List.isPrefixOf_iff_prefix.1 h)).symm
    · intro h
      simp only at h ⊢
      have := ih h
      rw [List.cons_append, List.cons_append, ← this]
theorem cut_none (sep l : List Int) : (cutI sep l).2.2 = false → cutI sep l = (l, [], false) := by
  induction l with
  | nil => intro _; rfl
  | cons b r ih =>
    unfold cutI
    split
    · intro h; simp at h
    · intro h
      simp only at h
      rw [ih h]
/-! ### A text divided at commas outside quoted strings -/
def cutL (q : Bool) (cur l : List Int) : List (List Int) :=
  match l with
  | [] => [cur]
  | b :: r =>
    if q = true ∧ b = 92 then (match r with
      | [] => [cur ++ [b]]
      | c :: r' => cutL q (cur ++ [b, c]) r')
    else if b = 34 then cutL (!q) (cur ++ [b]) r
    else if q = false ∧ b = 44 then cur :: cutL false [] r
    else cutL q (cur ++ [b]) r
termination_by l.length
decreasing_by all_goals simp only [List.length_cons]; omega
theorem cutL_nil (q : Bool) (cur : List Int) : cutL q cur [] = [cur] := by unfold cutL; rfl
theorem cutL_last (cur : List Int) : cutL true cur [92] = [cur ++ [92]] := by unfold cutL; simp
theorem cutL_esc (cur : List Int) (c : Int) (r : List Int) : cutL true cur (92 :: c :: r) = cutL true (cur ++ [92, c]) r := by rw [cutL.eq_def]; simp
theorem cutL_quote (q : Bool) (cur r : List Int) : cutL q cur (34 :: r) = cutL (!q) (cur ++ [34]) r := by rw [cutL.eq_def]; simp
theorem cutL_comma (cur r : List Int) : cutL false cur (44 :: r) = cur :: cutL false [] r := by rw [cutL.eq_def]; simp
theorem cutL_other (q : Bool) (cur r : List Int) (b : Int) (h1 : ¬ (q = true ∧ b = 92)) (h2 : b ≠ 34) (h3 : ¬ (q = false ∧ b = 44)) : cutL q cur (b :: r) = cutL q (cur ++ [b]) r := by
  rw [cutL.eq_def]
  simp only
  rw [if_neg h1, if_neg h2, if_neg h3]
/-- One way through a text at a time: what the five cases of cutL are good for. -/
theorem cut_cases {p : Bool → List Int → Prop} (hnil : ∀ q, p q []) (hlast : p true [92]) (hesc : ∀ c r, p true r → p true (92 :: c :: r)) (hquote : ∀ q r, p (!q) r → p q (34 :: r)) (hcomma : ∀ r, p false r → p false (44 :: r))
    (hother : ∀ q b r, ¬ (q = true ∧ b = 92) → b ≠ 34 → ¬ (q = false ∧ b = 44) → p q r → p q (b :: r)) : ∀ (n : Nat) (q : Bool) (l : List Int), l.length ≤ n → p q l := by
  intro n
  induction n with
  | zero => intro q l h; obtain rfl : l = [] := List.eq_nil_of_length_eq_zero (by omega); exact hnil q
  | succ n ih =>
    intro q l h
    match l, h with
    | [], _ => exact hnil q
    | b :: r, h =>
      simp only [List.length_cons] at h
      by_cases h1 : q = true ∧ b = 92
      · obtain ⟨rfl, rfl⟩ := h1
        match r, h with
        | [], _ => exact hlast
        | c :: r', h => exact hesc c r' (ih true r' (by simp only [List.length_cons] at h; omega))
      · by_cases h2 : b = 34
        · subst h2; exact hquote q r (ih _ r (by omega))
        · by_cases h3 : q = false ∧ b = 44
          · obtain ⟨rfl, rfl⟩ := h3; exact hcomma r (ih _ r (by omega))
          · exact hother q b r h1 h2 h3 (ih q r (by omega))
theorem cut_ind {p : Bool → List Int → Prop} (hnil : ∀ q, p q []) (hlast : p true [92]) (hesc : ∀ c r, p true r → p true (92 :: c :: r)) (hquote : ∀ q r, p (!q) r → p q (34 :: r)) (hcomma : ∀ r, p false r → p false (44 :: r))
    (hother : ∀ q b r, ¬ (q = true ∧ b = 92) → b ≠ 34 → ¬ (q = false ∧ b = 44) → p q r → p q (b :: r)) (q : Bool) (l : List Int) : p q l := cut_cases hnil hlast hesc hquote hcomma hother l.length q l (Nat.le_refl _)
def splitL (l : List Int) : List (List Int) := ((cutL false [] l).map (trimP blankI)).filter (fun x => decide (x ≠ []))
def splitV (s : ByteArray) : List ByteArray := (splitL (bytesOf s)).map strOfNums
theorem cutL_mem (q : Bool) (l : List Int) : ∀ (cur : List Int) (S : Int → Prop), (∀ x ∈ cur, S x) → (∀ x ∈ l, S x) → ∀ m ∈ cutL q cur l, ∀ x ∈ m, S x := by
  refine cut_ind (p := fun q l => ∀ (cur : List Int) (S : Int → Prop), (∀ x ∈ cur, S x) → (∀ x ∈ l, S x) → ∀ m ∈ cutL q cur l, ∀ x ∈ m, S x) ?_ ?_ ?_ ?_ ?_ ?_ q l
  · intro q cur S h0 h1 m hm; rw [cutL_nil] at hm; simp at hm; subst hm; exact h0
  · intro cur S h0 h1 m hm; rw [cutL_last] at hm; simp at hm; subst hm
    intro x hx; rcases List.mem_append.1 hx with g | g
    · exact h0 x g
    · exact h1 x g
  · intro c r ih cur S h0 h1 m hm
    rw [cutL_esc] at hm
    exact ih _ S (by intro x hx; rcases List.mem_append.1 hx with g | g
                     · exact h0 x g
                     · refine h1 x ?_; simp at g ⊢; rcases g with g | g <;> simp [g]) (fun x hx => h1 x (by simp [hx])) m hm
  · intro q r ih cur S h0 h1 m hm
    rw [cutL_quote] at hm
    exact ih _ S (by intro x hx; rcases List.mem_append.1 hx with g | g
                     · exact h0 x g
                     · exact h1 x (by simp at g; simp [g])) (fun x hx => h1 x (by simp [hx])) m hm
  · intro r ih cur S h0 h1 m hm
    rw [cutL_comma] at hm
    rcases List.mem_cons.1 hm with g | g
    · subst g; exact h0
    · exact ih [] S (by simp) (fun x hx => h1 x (by simp [hx])) m g
  · intro q b r g1 g2 g3 ih cur S h0 h1 m hm
    rw [cutL_other q cur r b g1 g2 g3] at hm
    exact ih _ S (by intro x hx; rcases List.mem_append.1 hx with g | g
                     · exact h0 x g
                     · exact h1 x (by simp at g; simp [g])) (fun x hx => h1 x (by simp [hx])) m hm
theorem cutL_total (q : Bool) (l : List Int) : ∀ cur : List Int, (cutL q cur l).length + ((cutL q cur l).map List.length).sum ≤ cur.length + l.length + 1 := by
  refine cut_ind (p := fun q l => ∀ cur : List Int, (cutL q cur l).length + ((cutL q cur l).map List.length).sum ≤ cur.length + l.length + 1) ?_ ?_ ?_ ?_ ?_ ?_ q l
  · intro q cur; rw [cutL_nil]; simp; omega
  · intro cur; rw [cutL_last]; simp; omega
  · intro c r ih cur; rw [cutL_esc]; have := ih (cur ++ [92, c]); simp only [List.length_append, List.length_cons, List.length_nil] at this ⊢; omega
  · intro q r ih cur; rw [cutL_quote]; have := ih (cur ++ [34]); simp only [List.length_append, List.length_cons, List.length_nil] at this ⊢; omega
  · intro r ih cur; rw [cutL_comma]; have := ih []; simp only [List.length_cons, List.length_nil, List.map_cons, List.sum_cons] at this ⊢; omega
  · intro q b r g1 g2 g3 ih cur; rw [cutL_other q cur r b g1 g2 g3]; have := ih (cur ++ [b]); simp only [List.length_append, List.length_cons, List.length_nil] at this ⊢; omega
theorem cutL_prepend (q : Bool) (l : List Int) : ∀ c1 c2 : List Int, ∃ h t, cutL q c2 l = h :: t ∧ cutL q (c1 ++ c2) l = (c1 ++ h) :: t := by
  refine cut_ind (p := fun q l => ∀ c1 c2 : List Int, ∃ h t, cutL q c2 l = h :: t ∧ cutL q (c1 ++ c2) l = (c1 ++ h) :: t) ?_ ?_ ?_ ?_ ?_ ?_ q l
  · intro q c1 c2; exact ⟨c2, [], by rw [cutL_nil], by rw [cutL_nil]⟩
  · intro c1 c2; exact ⟨c2 ++ [92], [], by rw [cutL_last], by rw [cutL_last]; simp⟩
  · intro c r ih c1 c2; rw [cutL_esc, cutL_esc, List.append_assoc]; exact ih c1 _
  · intro q r ih c1 c2; rw [cutL_quote, cutL_quote, List.append_assoc]; exact ih c1 _
  · intro r ih c1 c2; rw [cutL_comma, cutL_comma]; exact ⟨c2, _, rfl, rfl⟩
  · intro q b r g1 g2 g3 ih c1 c2; rw [cutL_other q _ r b g1 g2 g3, cutL_other q _ r b g1 g2 g3, List.append_assoc]; exact ih c1 _
theorem splitL_mem {l m : List Int} (h : m ∈ splitL l) : m ≠ [] ∧ trimP blankI m = m ∧ ∃ x, x ∈ cutL false [] l ∧ m = trimP blankI x := by
  unfold splitL at h
  obtain ⟨h1, h2⟩ := List.mem_filter.1 h
  obtain ⟨x, hx, rfl⟩ := List.mem_map.1 h1
  exact ⟨of_decide_eq_true h2, trimP_idem _ _, x, hx, rfl⟩
theorem InB_split {l : List Int} (hl : InB l) : ∀ m ∈ splitL l, InB m := by
  intro m hm
  obtain ⟨_, _, x, hx, rfl⟩ := splitL_mem hm
  exact InB_trim (cutL_mem false l [] (fun x => 0 ≤ x ∧ x ≤ 255) (by simp) hl x hx)
theorem splitL_total (l : List Int) : (splitL l).length + ((splitL l).map List.length).sum ≤ l.length + 1 := by
  have h := cutL_total false l []
  unfold splitL
  have aux : ∀ L : List (List Int), ((L.map (trimP blankI)).filter (fun x => decide (x ≠ []))).length + (((L.map (trimP blankI)).filter (fun x => decide (x ≠ []))).map List.length).sum ≤ L.length + (L.map List.length).sum := by
    intro L
    induction L with
    | nil => simp
    | cons x r ih =>
      have := trimP_length blankI x
      simp only [List.map_cons, List.sum_cons, List.length_cons]
      by_cases g : trimP blankI x = []
      · rw [List.filter_cons_of_neg (by simp [g])]; omega
      · rw [List.filter_cons_of_pos (by simp [g])]; simp only [List.length_cons, List.map_cons, List.sum_cons]; omega
  have := aux (cutL false [] l)
  simp only [List.length_nil] at h
  omega
theorem ext_mid {s : ByteArray} {pre cur rest : List Int} (h : bytesOf s = pre ++ cur ++ rest) : s.extract pre.length (pre.length + cur.length) = strOfNums cur := by
  apply bytesOf_inj
  have hb : InB cur := by have := InB_bytes s; rw [h, InB_append, InB_append] at this; exact this.1.2
  rw [bytesOf_strOf hb, bytesOf_extract, h]
  rw [show pre.length + cur.length = (pre ++ cur).length by simp, List.take_left, List.drop_left]
theorem ext_end {s : ByteArray} {pre cur : List Int} (h : bytesOf s = pre ++ cur) : s.extract pre.length s.size = strOfNums cur := by
  have e := ext_mid (s := s) (pre := pre) (cur := cur) (rest := []) (by simpa using h)
  have : s.size = pre.length + cur.length := by rw [← bytesOf_length, h, List.length_append]
  rw [this]; exact e
/-- The parts, trimmed, without the empty ones. -/
def partsV (m : List (List Int)) : List ByteArray := ((m.map (trimP blankI)).filter (fun x => decide (x ≠ []))).map strOfNums
theorem splitV_parts (s : ByteArray) : splitV s = partsV (cutL false [] (bytesOf s)) := rfl
theorem rdS_mid2 {l pre rest : List ByteArray} {x : ByteArray} (h : l = pre ++ x :: rest) : rdOf ByteArray.empty l (pre.length : Int) = x := getD_mid h
theorem partsV_nil : partsV [] = [] := rfl
theorem partsV_cons (x : List Int) (m : List (List Int)) : partsV (x :: m) = (if trimP blankI x = [] then [] else [strOfNums (trimP blankI x)]) ++ partsV m := by
  unfold partsV
  by_cases h : trimP blankI x = []
  · simp [h]
  · simp [h]
theorem partsV_append (a b : List (List Int)) : partsV (a ++ b) = partsV a ++ partsV b := by unfold partsV; simp
theorem partsV_len (m : List (List Int)) : (partsV m).length ≤ m.length := by
  unfold partsV
  rw [List.length_map]
  exact Nat.le_trans (List.length_filter_le _ _) (by simp)
theorem trimV_of {x : List Int} (h : InB x) : trimV (strOfNums x) = strOfNums (trimP blankI x) := by unfold trimV; rw [bytesOf_strOf h]
theorem strOf_nil {x : List Int} : (strOfNums x).toList = ([] : List UInt8) ↔ x = [] := by
  have e : ([] : List UInt8) = (⟨#[]⟩ : ByteArray).toList := by rw [ByteArray.toList_eq]
  rw [e, toList_iff]
  constructor
  · intro h
    have : (strOfNums x).size = 0 := by rw [h]; rfl
    rw [strOfNums_size] at this
    exact List.eq_nil_of_length_eq_zero this
  · rintro rfl; rfl
theorem mem_len_le {L : List (List Int)} {m : List Int} (h : m ∈ L) : m.length ≤ (L.map List.length).sum := by
  induction L with
  | nil => simp at h
  | cons x r ih =>
    simp only [List.map_cons, List.sum_cons]
    rcases List.mem_cons.1 h with g | g
    · subst g; omega
    · have := ih g; omega
theorem split_sizes (s : ByteArray) : ∀ t ∈ splitV s, t.size ≤ s.size + 1 := by
  intro t ht
  unfold splitV at ht
  obtain ⟨m, hm, rfl⟩ := List.mem_map.1 ht
  have h1 := splitL_total (bytesOf s)
  have h2 := mem_len_le hm
  rw [bytesOf_length] at h1
  rw [strOfNums_size]; omega
theorem split_count (s : ByteArray) : (splitV s).length ≤ s.size + 1 := by
  have := splitL_total (bytesOf s)
  rw [bytesOf_length] at this
  unfold splitV
  rw [List.length_map]; omega
def finF (acc : List S67) : List S67 × Bool := if areV acc = true then (acc, true) else ([], false)
theorem finF_yes {acc : List S67} (h : areV acc = true) : finF acc = (acc, true) := by unfold finF; rw [if_pos h]
theorem finF_no {acc : List S67} (h : ¬ areV acc = true) : finF acc = ([], false) := by unfold finF; rw [if_neg h]
def lineF (line : List Int) : S67 := ⟨lowerV (strOfNums (cutI [58] line).1), trimV (strOfNums (cutI [58] line).2.1)⟩
def pfN : Nat → List Int → List S67 → List S67 × Bool
  | 0, _, acc => finF acc
  | n + 1, l, acc => if l = [] then finF acc else
      if (cutI [13, 10] l).2.2 = true ∧ (cutI [58] (cutI [13, 10] l).1).2.2 = true then pfN n (cutI [13, 10] l).2.1 (acc ++ [lineF (cutI [13, 10] l).1]) else ([], false)
def pfV (s : ByteArray) : List S67 × Bool := pfN s.size (bytesOf s) []
theorem pfN_nil (n : Nat) (acc : List S67) : pfN n [] acc = finF acc := by cases n <;> simp [pfN]
theorem cut_rest_len (sep : List Int) (hs : sep ≠ []) (l : List Int) (h : (cutI sep l).2.2 = true) : (cutI sep l).1.length + (cutI sep l).2.1.length + sep.length = l.length := by
  have := congrArg List.length (cut_parts sep l h)
  simp only [List.length_append] at this
  omega
theorem InB_cut0 (sep l : List Int) (h : InB l) : InB (cutI sep l).1 ∧ InB (cutI sep l).2.1 := by
  induction l with
  | nil => exact ⟨InB_nil, InB_nil⟩
  | cons b r ih =>
    have hr := ih (InB_cons.1 h).2
    unfold cutI
    split
    · exact ⟨InB_nil, InB_drop _ h⟩
    · exact ⟨InB_cons.2 ⟨(InB_cons.1 h).1, hr.1⟩, hr.2⟩
theorem cut_le (sep l : List Int) : (cutI sep l).1.length ≤ l.length ∧ (cutI sep l).2.1.length ≤ l.length := by
  induction l with
  | nil => simp [cutI]
  | cons b r ih =>
    unfold cutI
    split
    · simp
    · simp only [List.length_cons]; omega
theorem lower_size0 (s : ByteArray) : (lowerV s).size = s.size := by unfold lowerV; rw [strOfNums_size, List.length_map, bytesOf_length]
theorem lineF_size (line : List Int) : (lineF line).f0.size ≤ line.length ∧ (lineF line).f1.size ≤ line.length := by
  have h := cut_le [58] line
  have h2 := trimV_size (strOfNums (cutI [58] line).2.1)
  unfold lineF
  simp only [lower_size0, strOfNums_size] at h2 ⊢
  omega
theorem totF2_app (a b : List S67) : totF2 (a ++ b) = totF2 a + totF2 b := by
  induction a with
  | nil => simp [totF2]
  | cons x r ih => simp only [List.cons_append, totF2, ih]; omega
theorem pfN_len (n : Nat) : ∀ (l : List Int) (acc : List S67), l.length ≤ n → (pfN n l acc).1.length ≤ acc.length + l.length := by
  induction n with
  | zero => intro l acc _; unfold pfN finF; split <;> simp
  | succ n ih =>
    intro l acc h
    unfold pfN
    split
    · unfold finF; split <;> simp
    · split
      · rename_i h1
        have hc := cut_rest_len [13, 10] (by simp) l h1.1
        simp only [List.length_cons, List.length_nil] at hc
        have := ih (cutI [13, 10] l).2.1 (acc ++ [lineF (cutI [13, 10] l).1]) (by omega)
        simp only [List.length_append, List.length_cons, List.length_nil] at this
        omega
      · simp
theorem scan_loop {α : Type} (s : ByteArray) (hs : s.size ≤ 4611686018427387904) (c : Int) (g : Nat → Int → Option α) (hg : ∀ k i, 0 ≤ i → i < (s.size : Int) → bt s i ≠ c → g (k + 1) i = g k (wrap64 (i + 1))) (r : α) (he : Ev (fun k => g k ((cutI [c] (bytesOf s)).1.length : Int)) r) : Ev (fun k => g k 0) r := by
  have key : ∀ rest pre, bytesOf s = pre ++ rest → (cutI [c] (bytesOf s)).1.length = pre.length + (cutI [c] rest).1.length → Ev (fun k => g k (pre.length : Int)) r := by
    intro rest
    induction rest with
    | nil => intro pre h e; rw [e] at he; simpa [cutI] using he
    | cons b rest ih =>
      intro pre h e
      by_cases q : b = c
      · subst q
        have : (cutI [b] (b :: rest)).1 = [] := by unfold cutI; simp
        rw [this] at e; rw [e] at he; simpa using he
      · have hz := size_mid h
        simp only [List.length_cons] at hz
        have hc : (cutI [c] (b :: rest)).1 = b :: (cutI [c] rest).1 := by
          conv => lhs; unfold cutI
          rw [if_neg (by simpa using Ne.symm q)]
        refine Ev.step (f := fun k => g k ((pre ++ [b]).length : Int)) (fun k => ?_) (ih (pre ++ [b]) (by simp [h]) (by rw [e, hc]; simp; omega))
        rw [hg k _ (by omega) (by omega) (by rw [bt_mid h]; exact q), len_step pre b (by omega)]
  exact key (bytesOf s) [] rfl (by simp)
theorem cut_hit (c : Int) (l : List Int) (h : (cutI [c] l).2.2 = true) : l = (cutI [c] l).1 ++ c :: (cutI [c] l).2.1 := by
  have := cut_parts [c] l h
  simpa using this
theorem cut_miss (sep l : List Int) (h : ¬ (cutI sep l).2.2 = true) : (cutI sep l).1 = l ∧ (cutI sep l).2.1 = [] := by
  have := cut_none sep l (by simpa using h)
  rw [this]; exact ⟨rfl, rfl⟩
theorem cut_first (c : Int) (l : List Int) : ∀ x ∈ (cutI [c] l).1, x ≠ c := by
  induction l with
  | nil => intro x hx; simp [cutI] at hx
  | cons b r ih =>
    intro x hx
    by_cases q : b = c
    · subst q
      have : (cutI [b] (b :: r)).1 = [] := by unfold cutI; simp
      rw [this] at hx; simp at hx
    · have hc : (cutI [c] (b :: r)).1 = b :: (cutI [c] r).1 := by
        conv => lhs; unfold cutI
        rw [if_neg (by simpa using Ne.symm q)]
      rw [hc] at hx
      rcases List.mem_cons.1 hx with e | e
      · subst e; exact q
      · exact ih x e
/-- A cut at a sign that does not stand ahead. -/
theorem cut_at (c : Int) (a r : List Int) (h : ∀ x ∈ a, x ≠ c) : cutI [c] (a ++ c :: r) = (a, r, true) := by
  induction a with
  | nil => unfold cutI; simp
  | cons b a ih =>
    have hb := h b (by simp)
    rw [List.cons_append]
    conv => lhs; unfold cutI
    rw [if_neg (by simpa using Ne.symm hb), ih (fun x hx => h x (by simp [hx]))]
theorem cut_not (c : Int) (a : List Int) (h : ∀ x ∈ a, x ≠ c) : cutI [c] a = (a, [], false) := by
  induction a with
  | nil => rfl
  | cons b a ih =>
    have hb := h b (by simp)
    conv => lhs; unfold cutI
    rw [if_neg (by simpa using Ne.symm hb), ih (fun x hx => h x (by simp [hx]))]
def ffL : List S67 → List Int
  | [] => []
  | x :: r => bytesOf x.f0 ++ [58, 32] ++ bytesOf x.f1 ++ [13, 10] ++ ffL r
def totF : List S67 → Nat
  | [] => 0
  | x :: r => 1 + (x.f0.size + x.f1.size) + totF r
theorem impl_FormatFields_ev (l : List S67) (hl : totF l ≤ 4611686018427387904 / 8) (hl0 : l.length ≤ 4611686018427387904) : Ev (fun k => impl_FormatFields.f k l) (strOfNums (ffL l)) := by
  have key : ∀ (rest pre : List S67) (acc : ByteArray), l = pre ++ rest → acc.size + 4 * totF rest ≤ 4611686018427387904 → Ev (fun k => impl_FormatFields.l0 k (acc) l (l.length : Int) (pre.length : Int)) (strOfNums (bytesOf acc ++ ffL rest)) := by
    intro rest
    induction rest with
    | nil =>
      intro pre acc h ha
      have hl2 := len_mid h
      simp only [List.length_nil] at hl2
      refine Ev.step (f := fun _ => some acc) (fun k => ?_) (by simpa [ffL, strOf_bytesOf] using Ev.now acc)
      simp only [impl_FormatFields.l0]
      rw [if_neg (by omega)]
    | cons x rest ih =>
      intro pre acc h ha
      have hl2 := len_mid h
      simp only [List.length_cons, totF] at hl2 ha
      have hx : rd_T67 l (pre.length : Int) = x := getD_mid h
      have hw := len_step pre x (by omega)
      have z1 : (⟨#[58, 32]⟩ : ByteArray).size = 2 := rfl
      have z2 : (⟨#[13, 10]⟩ : ByteArray).size = 2 := rfl
      have b1 : bytesOf (⟨#[58, 32]⟩ : ByteArray) = [58, 32] := by decide
      have b2 : bytesOf (⟨#[13, 10]⟩ : ByteArray) = [13, 10] := by decide
      refine Ev.step (f := fun k => impl_FormatFields.l0 k ((acc ++ (((x.f0 ++ (⟨#[58, 32]⟩ : ByteArray)) ++ x.f1) ++ (⟨#[13, 10]⟩ : ByteArray)))) l (l.length : Int) ((pre ++ [x]).length : Int)) (fun k => ?_) ?_
      · simp only [impl_FormatFields.l0]
        rw [if_pos (by omega), if_pos (by omega), if_pos (by omega), hx, if_pos (by omega), if_pos (by simp only [ByteArray.size_append]; omega), if_pos (by simp only [ByteArray.size_append]; omega), if_pos (by simp only [ByteArray.size_append]; omega), hw]
      · have := ih (pre ++ [x]) (acc ++ (((x.f0 ++ (⟨#[58, 32]⟩ : ByteArray)) ++ x.f1) ++ (⟨#[13, 10]⟩ : ByteArray))) (by simp [h]) (by simp only [ByteArray.size_append]; omega)
        simpa [bytesOf_append, b1, b2, ffL] using this
  have := key l [] ⟨#[]⟩ rfl (by have : (⟨#[]⟩ : ByteArray).size = 0 := rfl; omega)
  have b0 : bytesOf (⟨#[]⟩ : ByteArray) = [] := by decide
  simpa [impl_FormatFields.f, b0] using this
theorem cut_crlf (a r : List Int) (h : ∀ x ∈ a, x ≠ 13) : cutI [13, 10] (a ++ 13 :: 10 :: r) = (a, r, true) := by
  induction a with
  | nil => unfold cutI; simp
  | cons b a ih =>
    have hb := h b (by simp)
    rw [List.cons_append]
    conv => lhs; unfold cutI
    rw [if_neg (by simp [List.isPrefixOf, Ne.symm hb]), ih (fun x hx => h x (by simp [hx]))]
theorem tok_fin2 : ∀ n : Fin 256, tokB (n.val : Int) = true → (n.val : Int) ≠ 58 ∧ (n.val : Int) ≠ 13 := by decide +kernel
theorem tok_mem {s : ByteArray} (h : tokV s = true) : ∀ x ∈ bytesOf s, x ≠ 58 ∧ x ≠ 13 := by
  intro x hx
  unfold tokV at h
  rw [Bool.and_eq_true] at h
  have h1 := List.all_eq_true.1 h.1 x hx
  have h2 := InB_bytes s x hx
  exact fin256 (p := fun b => tokB b = true → b ≠ 58 ∧ b ≠ 13) tok_fin2 h2.1 h2.2 h1
theorem val_mem {s : ByteArray} (h : valB s = true) : ∀ x ∈ bytesOf s, x ≠ 13 := by
  intro x hx e
  unfold valB at h
  rw [Bool.and_eq_true] at h
  have h1 := List.all_eq_true.1 h.1 x hx
  rw [e] at h1
  simp [vB] at h1
theorem trimP_sp (l : List Int) : trimP blankI (32 :: l) = trimP blankI l := by
  unfold trimP
  rw [drop_rdrop, drop_rdrop, List.dropWhile_cons_of_pos (by decide)]
theorem line_ok {x : S67} (h : (nameB x.f0 && valB x.f1) = true) : cutI [58] (bytesOf x.f0 ++ [58, 32] ++ bytesOf x.f1) = (bytesOf x.f0, 32 :: bytesOf x.f1, true) ∧ lineF (bytesOf x.f0 ++ [58, 32] ++ bytesOf x.f1) = x ∧ (∀ b ∈ bytesOf x.f0 ++ [58, 32] ++ bytesOf x.f1, b ≠ 13) := by
  rw [Bool.and_eq_true] at h
  obtain ⟨h1, h2⟩ := h
  have hn := h1
  have hv := h2
  unfold nameB at hn
  unfold valB at hv
  rw [Bool.and_eq_true] at hn
  simp only [Bool.and_eq_true, decide_eq_true_eq] at hv
  have ht := tok_mem hn.1
  have e : cutI [58] (bytesOf x.f0 ++ [58, 32] ++ bytesOf x.f1) = (bytesOf x.f0, 32 :: bytesOf x.f1, true) := by
    have := cut_at 58 (bytesOf x.f0) (32 :: bytesOf x.f1) (fun b hb => (ht b hb).1)
    simpa using this
  refine ⟨e, ?_, ?_⟩
  · unfold lineF
    rw [e]
    have n1 : lowerV (strOfNums (bytesOf x.f0)) = x.f0 := by rw [strOf_bytesOf]; exact of_decide_eq_true hn.2
    have n2 : trimV (strOfNums (32 :: bytesOf x.f1)) = x.f1 := by
      have hb : InB (32 :: bytesOf x.f1) := by rw [InB_cons]; exact ⟨by omega, InB_bytes _⟩
      unfold trimV
      rw [bytesOf_strOf hb, trimP_sp]
      exact hv.2.2
    simp only [n1, n2]
  · intro b hb
    simp only [List.mem_append, List.mem_cons, List.not_mem_nil, or_false] at hb
    rcases hb with (g | g | g) | g
    · exact (ht b g).2
    · omega
    · omega
    · exact val_mem h2 b g
theorem pfN_round (f : List S67) : ∀ (n : Nat) (acc : List S67), (∀ x ∈ f, (nameB x.f0 && valB x.f1) = true) → (ffL f).length ≤ n → pfN n (ffL f) acc = finF (acc ++ f) := by
  induction f with
  | nil => intro n acc _ _; rw [show ffL [] = [] from rfl, pfN_nil, List.append_nil]
  | cons x r ih =>
    intro n acc h hn
    obtain ⟨l1, l2, l3⟩ := line_ok (h x (by simp))
    have e : ffL (x :: r) = (bytesOf x.f0 ++ [58, 32] ++ bytesOf x.f1) ++ 13 :: 10 :: ffL r := by simp [ffL]
    have c := cut_crlf _ (ffL r) l3
    rw [← e] at c
    have hl : (ffL (x :: r)).length = (bytesOf x.f0 ++ [58, 32] ++ bytesOf x.f1).length + (2 + (ffL r).length) := by rw [e]; simp only [List.length_append, List.length_cons]; omega
    match n, hn with
    | 0, hn => omega
    | n + 1, hn =>
      unfold pfN
      rw [if_neg (by intro z; rw [z] at hl; simp only [List.length_nil] at hl; omega), c]
      simp only
      rw [if_pos ⟨trivial, by rw [l1]⟩, l2, ih n (acc ++ [x]) (fun y hy => h y (by simp [hy])) (by omega)]
      simp
theorem InB_ffL (f : List S67) : InB (ffL f) := by
  induction f with
  | nil => exact InB_nil
  | cons x r ih =>
    simp only [ffL, InB_append]
    exact ⟨⟨⟨⟨InB_bytes _, by intro y hy; simp at hy; omega⟩, InB_bytes _⟩, by intro y hy; simp at hy; omega⟩, ih⟩
theorem pf_round (f : List S67) (h : areV f = true) : pfV (strOfNums (ffL f)) = (f, true) := by
  unfold pfV
  have h2 := h
  unfold areV at h2
  rw [Bool.and_eq_true] at h2
  rw [bytesOf_strOf (InB_ffL f), pfN_round f _ [] (fun x hx => List.all_eq_true.1 h2.1 x hx) (by rw [strOfNums_size]; exact Nat.le_refl _)]
  exact finF_yes h
theorem strings_Cut_eq (s sep : ByteArray) (hs : s.size < 4294967281) (hp : bytesOf sep ≠ []) : strings_Cut.f s sep = some (cutV (bytesOf sep) s) := by
  have hp2 : sep.data.toList ≠ [] := fun z => hp (by unfold bytesOf; rw [z]; rfl)
  obtain ⟨h1, h2, h3⟩ := libcut_map s.data.toList sep.data.toList hp2
  unfold strings_Cut.f cutV
  rw [if_pos hs]
  have e : ∀ (l : List UInt8) (m : List Int), (l.map fun b => (b.toNat : Int)) = m → (⟨l.toArray⟩ : ByteArray) = strOfNums m := by
    intro l m h
    have hb : bytesOf ⟨l.toArray⟩ = m := h
    rw [← hb, strOf_bytesOf]
  rw [e _ _ h1, e _ _ h2, h3]
  rfl
theorem impl_inRange_eq (a b c : Int) : impl_inRange.f a b c = some (decide (b ≤ a ∧ a ≤ c)) := by
  unfold impl_inRange.f
  by_cases h : b ≤ a
  · rw [if_pos h]; congr 1; apply decide_eq_decide.mpr; constructor
    · exact fun x => ⟨h, x⟩
    · exact fun x => x.2
  · rw [if_neg h]; congr 1; symm; apply decide_eq_false; omega
theorem impl_tok_fin : ∀ n : Fin 256, impl_isTokenByte.f (n.val : Int) = some (tokB (n.val : Int)) := by decide +kernel
theorem impl_tok_eq {b : Int} (h0 : 0 ≤ b) (h1 : b ≤ 255) : impl_isTokenByte.f b = some (tokB b) := fin256 (p := fun b => impl_isTokenByte.f b = some (tokB b)) impl_tok_fin h0 h1
theorem impl_IsToken_ev (s : ByteArray) (hs : s.size ≤ 4611686018427387904) : Ev (fun k => impl_IsToken.f k s) (tokV s) := by
  have key : ∀ (rest pre : List Int), bytesOf s = pre ++ rest → Ev (fun k => impl_IsToken.l0 k s (s.size : Int) (pre.length : Int)) (rest.all tokB && decide (1 ≤ (s.size : Int) ∧ (s.size : Int) ≤ 40)) := by
    intro rest
    induction rest with
    | nil =>
      intro pre h
      have hz := size_mid h
      simp only [List.length_nil] at hz
      refine Ev.step (f := fun _ => some (decide (1 ≤ (s.size : Int) ∧ (s.size : Int) ≤ 40))) (fun k => ?_) (by simpa using Ev.now _)
      simp only [impl_IsToken.l0]
      rw [if_neg (by omega), impl_inRange_eq, Option.bind_some]
    | cons b rest ih =>
      intro pre h
      have hz := size_mid h
      simp only [List.length_cons] at hz
      have hb := bt_mid h
      have hr : 0 ≤ b ∧ b ≤ 255 := by rw [← hb]; exact bt_range s _
      have hw := len_step pre b (by omega)
      refine Ev.step (f := fun k => if tokB b = true then impl_IsToken.l0 k s (s.size : Int) ((pre ++ [b]).length : Int) else some false) (fun k => ?_) ?_
      · simp only [impl_IsToken.l0]
        rw [if_pos (by omega), if_pos (by omega), if_pos (by omega), hb, hw, impl_tok_eq hr.1 hr.2, Option.bind_some]
      · cases e : tokB b with
        | true => simpa [e] using ih (pre ++ [b]) (by simp [h])
        | false => simpa [e] using Ev.now _
  exact key (bytesOf s) [] rfl
theorem impl_Lower_eq (s : ByteArray) (h : s.size ≤ 4611686018427387904) : impl_LowerText.f s = some (lowerV s) := by unfold impl_LowerText.f; rw [if_pos h]; rfl
theorem bytesOf_mk (l : List UInt8) : bytesOf ⟨l.toArray⟩ = l.map fun b => (b.toNat : Int) := rfl
theorem mk_of_bytes {l : List UInt8} {m : List Int} (h : (l.map fun b => (b.toNat : Int)) = m) : (⟨l.toArray⟩ : ByteArray) = strOfNums m := by
  apply bytesOf_inj
  rw [bytesOf_mk, h, bytesOf_strOf]
  subst h
  exact InB_bytes ⟨l.toArray⟩
theorem trimLeftS_map (l cs : List UInt8) : ((Lib.trimLeftS l cs).map fun b => (b.toNat : Int)) = (l.map fun b => (b.toNat : Int)).dropWhile (fun x => (cs.map fun b => (b.toNat : Int)).contains x) := by
  unfold Lib.trimLeftS
  induction l with
  | nil => rfl
  | cons b r ih =>
    have e : ((cs.map fun b => (b.toNat : Int)).contains (b.toNat : Int)) = cs.contains b := by
      rw [Bool.eq_iff_iff, List.contains_iff_mem, List.contains_iff_mem, List.mem_map]
      constructor
      · rintro ⟨c, hc, hcb⟩
        have : c = b := UInt8.toNat_inj.1 (by omega)
        exact this ▸ hc
      · exact fun h => ⟨b, h, rfl⟩
    simp only [List.dropWhile_cons, List.map_cons, e]
    split
    · exact ih
    · rfl
theorem trimS_map (l cs : List UInt8) : ((Lib.trimS l cs).map fun b => (b.toNat : Int)) = trimP (fun x => (cs.map fun b => (b.toNat : Int)).contains x) (l.map fun b => (b.toNat : Int)) := by
  have e : ((Lib.trimRightS l cs).map fun b => (b.toNat : Int)) = rdropI (fun x => (cs.map fun b => (b.toNat : Int)).contains x) (l.map fun b => (b.toNat : Int)) := by
    rw [← rdropI_eq, ← List.map_reverse, ← trimLeftS_map, ← List.map_reverse]
    rfl
  unfold Lib.trimS trimP
  rw [trimLeftS_map, e]
theorem strings_Trim_eq (s cs : ByteArray) (hs : s.size ≤ 4611686018427387904) (hc : cs.size < 4294967281) (ha : cs.data.toList.all (fun b => decide (b.toNat < 128)) = true) :
    strings_Trim.f s cs = some (strOfNums (trimP (fun x => (bytesOf cs).contains x) (bytesOf s))) := by
  unfold strings_Trim.f
  rw [if_pos ⟨hs, hc, ha⟩, mk_of_bytes (trimS_map _ _)]
  rfl
theorem impl_Trim_eq (s : ByteArray) (hs : s.size ≤ 4611686018427387904) : impl_TrimText.f s = some (trimV s) := by
  unfold impl_TrimText.f
  rw [strings_Trim_eq s ⟨#[32, 9]⟩ hs (by decide) (by decide), Option.bind_some]
  unfold trimV
  congr 3
  funext x
  have e : bytesOf ⟨#[32, 9]⟩ = [32, 9] := by decide
  rw [e]
  unfold blankI
  by_cases h : x = 32 <;> by_cases g : x = 9 <;> simp [h, g]
theorem impl_Val_ev (s : ByteArray) (hs : s.size ≤ 4611686018427387904) : Ev (fun k => impl_isFieldValue.f k s) (valB s) := by
  have key : ∀ (rest pre : List Int), bytesOf s = pre ++ rest → Ev (fun k => impl_isFieldValue.l0 k s (s.size : Int) (pre.length : Int)) (rest.all vB && (decide ((s.size : Int) ≤ 200) && decide (trimV s = s))) := by
    intro rest
    induction rest with
    | nil =>
      intro pre h
      have hz := size_mid h
      simp only [List.length_nil] at hz
      by_cases g : (s.size : Int) ≤ 200
      · refine Ev.step (f := fun _ => some (decide (trimV s = s))) (fun k => ?_) (by rw [decide_eq_true g]; simpa using Ev.now _)
        simp only [impl_isFieldValue.l0]
        rw [if_neg (by omega), if_pos g, impl_Trim_eq s hs, Option.bind_some, beq_toList]
      · refine Ev.step (f := fun _ => some false) (fun k => ?_) (by rw [decide_eq_false g]; simpa using Ev.now _)
        simp only [impl_isFieldValue.l0]
        rw [if_neg (by omega), if_neg g]
    | cons b rest ih =>
      intro pre h
      have hz := size_mid h
      simp only [List.length_cons] at hz
      have hb := bt_mid h
      have hr : 0 ≤ b ∧ b ≤ 255 := by rw [← hb]; exact bt_range s _
      have hw := len_step pre b (by omega)
      have nxt := ih (pre ++ [b]) (by simp [h])
      by_cases e9 : b = 9
      · have ev : vB b = true := by simp [vB, e9]
        rw [List.all_cons, ev, Bool.true_and]
        refine Ev.step (fun k => ?_) nxt
        simp only [impl_isFieldValue.l0]
        rw [if_pos (by omega), if_pos (by omega), if_pos (by omega), hb, if_pos e9, hw]
      · by_cases e : 32 ≤ b ∧ b ≤ 126
        · have hd : decide (32 ≤ b ∧ b ≤ 126) = true := decide_eq_true e
          have ev : vB b = true := by simp [vB, e]
          rw [List.all_cons, ev, Bool.true_and]
          refine Ev.step (fun k => ?_) nxt
          simp only [impl_isFieldValue.l0]
          rw [if_pos (by omega), if_pos (by omega), if_pos (by omega), hb, if_neg e9, wrap_id (n := b) (by omega) (by omega), impl_inRange_eq, Option.bind_some, if_pos hd, hw]
        · have hd : ¬ decide (32 ≤ b ∧ b ≤ 126) = true := by simp [e]
          refine Ev.step (f := fun _ => some false) (fun k => ?_) (by simpa [vB, e, e9] using Ev.now _)
          simp only [impl_isFieldValue.l0]
          rw [if_pos (by omega), if_pos (by omega), if_pos (by omega), hb, if_neg e9, wrap_id (n := b) (by omega) (by omega), impl_inRange_eq, Option.bind_some, if_neg hd]
  exact key (bytesOf s) [] rfl
theorem impl_Are_ev (l : List S67) (hl : totF2 l ≤ 1099511627776) : Ev (fun k => impl_AreFields.f k l) (areV l) := by
  have hlen := totF2_len l
  have key : ∀ (rest pre : List S67), l = pre ++ rest → Ev (fun k => impl_AreFields.l0 k l l (l.length : Int) (pre.length : Int)) (rest.all (fun x => nameB x.f0 && valB x.f1) && decide ((l.length : Int) ≤ 24)) := by
    intro rest
    induction rest with
    | nil =>
      intro pre h
      have hl2 := len_mid h
      simp only [List.length_nil] at hl2
      refine Ev.step (f := fun _ => some (decide ((l.length : Int) ≤ 24))) (fun k => ?_) (by simpa using Ev.now _)
      simp only [impl_AreFields.l0]
      rw [if_neg (by omega)]
    | cons x rest ih =>
      intro pre h
      have hl2 := len_mid h
      simp only [List.length_cons] at hl2
      have hx : rd_T67 l (pre.length : Int) = x := getD_mid h
      have hmx := totF2_mem l x (by rw [h]; simp)
      have hst := len_step pre x (by omega)
      have nxt := ih (pre ++ [x]) (by simp [h])
      refine Ev.step (f := fun k => (impl_IsToken.f k x.f0).bind fun t => if t = true then (if lowerV x.f0 = x.f0 then (impl_isFieldValue.f k x.f1).bind (fun u => if u = true then impl_AreFields.l0 k l l (l.length : Int) ((pre ++ [x]).length : Int) else some false) else some false) else some false) (fun k => ?_) (Ev.bind (impl_IsToken_ev x.f0 (by omega)) ?_)
      · simp only [impl_AreFields.l0]
        rw [if_pos (by omega), if_pos (by omega), if_pos (by omega), hx, hst, impl_Lower_eq x.f0 (by omega)]
        simp only [Option.bind_some, toList_iff]
      · cases hn : tokV x.f0 with
        | false => simpa [nameB, hn] using Ev.now _
        | true =>
          refine Ev.pos rfl ?_
          by_cases hw : lowerV x.f0 = x.f0
          · refine Ev.pos hw (Ev.bind (impl_Val_ev x.f1 (by omega)) ?_)
            cases hv : valB x.f1 with
            | false => simpa [nameB, hn, hw, hv] using Ev.now _
            | true => simpa [nameB, hn, hw, hv] using nxt
          · refine Ev.neg hw ?_
            simpa [nameB, hn, hw] using Ev.now _
  exact key l [] rfl
theorem impl_PF_loop (n : Nat) : ∀ (s : ByteArray) (acc : List S67), s.size ≤ n → s.size ≤ 2000000 → totF2 acc + 3 * s.size ≤ 6000000 → Ev (fun k => impl_ParseFields.l0 k s acc) (pfN n (bytesOf s) acc) := by
  have fin : ∀ (s : ByteArray) (acc : List S67), s = ⟨#[]⟩ → totF2 acc ≤ 6000000 → Ev (fun k => impl_ParseFields.l0 k s acc) (finF acc) := by
    intro s acc h ha
    have e : s.toList = ([] : List UInt8) := by rw [h, ByteArray.toList_eq]
    refine Ev.step (f := fun k => (impl_AreFields.f k acc).bind fun t => if t = true then some (acc, true) else some ([], false)) (fun k => ?_) (Ev.bind (impl_Are_ev acc (by omega)) ?_)
    · simp only [impl_ParseFields.l0]
      rw [if_pos e]
    · by_cases g : areV acc = true
      · rw [finF_yes g]; exact Ev.pos g (Ev.now _)
      · rw [finF_no g]; exact Ev.neg g (Ev.now _)
  induction n with
  | zero =>
    intro s acc h h2 ha
    have e : s = ⟨#[]⟩ := by
      apply bytesOf_inj
      rw [show bytesOf (⟨#[]⟩ : ByteArray) = [] by decide]
      exact List.eq_nil_of_length_eq_zero (by rw [bytesOf_length]; omega)
    exact fin s acc e (by omega)
  | succ n ih =>
    intro s acc h h2 ha
    have hb := bytesOf_length s
    by_cases e : s = ⟨#[]⟩
    · have : bytesOf s = [] := by rw [e]; decide
      rw [this, pfN_nil]
      exact fin s acc e (by omega)
    · have e1 : ¬ s.toList = ([] : List UInt8) := fun z => e (toList_iff.mp (z.trans (by rw [ByteArray.toList_eq])))
      have e2 : ¬ bytesOf s = [] := fun z => e (bytesOf_inj (by rw [z]; decide))
      have hi := InB_cut0 [13, 10] (bytesOf s) (InB_bytes s)
      have hle := cut_le [13, 10] (bytesOf s)
      have hle2 := cut_le [58] (cutI [13, 10] (bytesOf s)).1
      have c1 := strings_Cut_eq s (⟨#[13, 10]⟩ : ByteArray) (by omega) (by decide)
      have l1 : bytesOf (⟨#[13, 10]⟩ : ByteArray) = [13, 10] := by decide
      have l2 : bytesOf (⟨#[58]⟩ : ByteArray) = [58] := by decide
      rw [l1] at c1
      have c2 := strings_Cut_eq (cutV [13, 10] s).1 (⟨#[58]⟩ : ByteArray) (by unfold cutV; simp only [strOfNums_size]; omega) (by decide)
      rw [l2] at c2
      have b1 : bytesOf (cutV [13, 10] s).1 = (cutI [13, 10] (bytesOf s)).1 := bytesOf_strOf hi.1
      have b2 : bytesOf (cutV [13, 10] s).2.1 = (cutI [13, 10] (bytesOf s)).2.1 := bytesOf_strOf hi.2
      have q1 : (cutV [58] (cutV [13, 10] s).1).1 = strOfNums (cutI [58] (cutI [13, 10] (bytesOf s)).1).1 := by rw [show (cutV [58] (cutV [13, 10] s).1).1 = strOfNums (cutI [58] (bytesOf (cutV [13, 10] s).1)).1 from rfl, b1]
      have q2 : (cutV [58] (cutV [13, 10] s).1).2.1 = strOfNums (cutI [58] (cutI [13, 10] (bytesOf s)).1).2.1 := by rw [show (cutV [58] (cutV [13, 10] s).1).2.1 = strOfNums (cutI [58] (bytesOf (cutV [13, 10] s).1)).2.1 from rfl, b1]
      have q3 : (cutV [58] (cutV [13, 10] s).1).2.2 = (cutI [58] (cutI [13, 10] (bytesOf s)).1).2.2 := by rw [show (cutV [58] (cutV [13, 10] s).1).2.2 = (cutI [58] (bytesOf (cutV [13, 10] s).1)).2.2 from rfl, b1]
      have q4 : (cutV [13, 10] s).2.2 = (cutI [13, 10] (bytesOf s)).2.2 := rfl
      have stop : ∀ (a b c : ByteArray), Ev (fun k => impl_ParseFields.j1 k acc a b c true) (([] : List S67), false) := by
        intro a b c
        refine Ev.step (f := fun _ => some (([] : List S67), false)) (fun k => ?_) (Ev.now _)
        simp only [impl_ParseFields.j1]
        rw [if_pos trivial]
      unfold pfN
      rw [if_neg e2]
      by_cases f1 : (cutI [13, 10] (bytesOf s)).2.2 = true
      · by_cases f2 : (cutI [58] (cutI [13, 10] (bytesOf s)).1).2.2 = true
        · rw [if_pos ⟨f1, f2⟩]
          have hc := cut_rest_len [13, 10] (by simp) (bytesOf s) f1
          simp only [List.length_cons, List.length_nil] at hc
          have hsz := lineF_size (cutI [13, 10] (bytesOf s)).1
          have htl := totF2_app acc [lineF (cutI [13, 10] (bytesOf s)).1]
          simp only [totF2] at htl
          have hz : (cutV [13, 10] s).2.1.size = (cutI [13, 10] (bytesOf s)).2.1.length := by rw [← bytesOf_length, b2]
          have nxt := ih (cutV [13, 10] s).2.1 (acc ++ [lineF (cutI [13, 10] (bytesOf s)).1]) (by omega) (by omega) (by omega)
          rw [b2] at nxt
          have hla := totF2_len acc
          refine Ev.step (f := fun k => impl_ParseFields.j1 k acc (cutV [13, 10] s).2.1 (strOfNums (cutI [58] (cutI [13, 10] (bytesOf s)).1).1) (strOfNums (cutI [58] (cutI [13, 10] (bytesOf s)).1).2.1) false) (fun k => ?_) (Ev.step (fun k => ?_) nxt)
          · simp only [impl_ParseFields.l0]
            rw [if_neg e1, c1, Option.bind_some, c2, Option.bind_some, q4, if_pos f1, q1, q2, q3, f2]; rfl
          · simp only [impl_ParseFields.j1]
            rw [if_neg (by simp), impl_Lower_eq _ (by rw [strOfNums_size]; omega), Option.bind_some, impl_Trim_eq _ (by rw [strOfNums_size]; omega), Option.bind_some, if_pos (by omega)]
            rfl
        · rw [if_neg (fun z => f2 z.2)]
          refine Ev.step (fun k => ?_) (stop (cutV [13, 10] s).2.1 (cutV [58] (cutV [13, 10] s).1).1 (cutV [58] (cutV [13, 10] s).1).2.1)
          simp only [impl_ParseFields.l0]
          have f3 : (cutI [58] (cutI [13, 10] (bytesOf s)).1).2.2 = false := by simpa using f2
          rw [if_neg e1, c1, Option.bind_some, c2, Option.bind_some, q4, if_pos f1, q3, f3]; rfl
      · rw [if_neg (fun z => f1 z.1)]
        refine Ev.step (fun k => ?_) (stop (cutV [13, 10] s).2.1 (cutV [58] (cutV [13, 10] s).1).1 (cutV [58] (cutV [13, 10] s).1).2.1)
        simp only [impl_ParseFields.l0]
        rw [if_neg e1, c1, Option.bind_some, c2, Option.bind_some, q4, if_neg f1]
theorem impl_PF_ev (s : ByteArray) (hs : s.size ≤ 1048576) : Ev (fun k => impl_ParseFields.f k s) (pfV s) := impl_PF_loop s.size s [] (Nat.le_refl _) (by omega) (by simp only [totF2]; omega)
theorem impl_has_eq (newer : List S67) (hn : newer.length ≤ 4611686018427387904) (name : ByteArray) : impl_hasField.f newer name = some (newer.any (fun y => decide (y.f0 = name))) := by
  unfold impl_hasField.f
  rw [if_pos (by omega)]
  congr 1
  congr 1
  funext y
  have e : (y.f0.toList == name.toList) = decide (y.f0 = name) := by
    by_cases h : y.f0 = name
    · rw [h]; simp
    · rw [decide_eq_false h]; exact beq_eq_false_iff_ne.mpr (fun g => h (toList_iff.mp g))
  exact e
theorem impl_Merge_ev (l newer : List S67) (hl : l.length ≤ 1048576) (hn : totF2 newer ≤ 1048576) : Ev (fun k => impl_MergeFields.f k l newer) (mergeV l newer) := by
  have hnl := totF2_len newer
  have key : ∀ (rest pre acc : List S67), l = pre ++ rest → acc.length ≤ pre.length → Ev (fun k => impl_MergeFields.l0 k newer acc l (l.length : Int) (pre.length : Int)) (acc ++ mergeV rest newer) := by
    intro rest
    induction rest with
    | nil =>
      intro pre acc h ha
      have hl2 := len_mid h
      simp only [List.length_nil] at hl2
      refine Ev.step (f := fun _ => some (acc ++ newer)) (fun k => ?_) (by simpa [mergeV] using Ev.now _)
      simp only [impl_MergeFields.l0]
      rw [if_neg (by omega), if_pos (by omega)]
    | cons x rest ih =>
      intro pre acc h ha
      have hl2 := len_mid h
      simp only [List.length_cons] at hl2
      have hx : rd_T67 l (pre.length : Int) = x := getD_mid h
      have hw := len_step pre x (by omega)
      refine Ev.step (f := fun k => if (newer.any (fun y => decide (y.f0 = x.f0))) = true then impl_MergeFields.l0 k newer acc l (l.length : Int) ((pre ++ [x]).length : Int) else impl_MergeFields.l0 k newer (acc ++ [x]) l (l.length : Int) ((pre ++ [x]).length : Int)) (fun k => ?_) ?_
      · simp only [impl_MergeFields.l0]
        rw [if_pos (by omega), if_pos (by omega), if_pos (by omega), hx, hw, impl_has_eq newer (by omega), Option.bind_some, if_pos (show acc.length < 4398046511104 by omega)]
      · by_cases e : newer.any (fun y => decide (y.f0 = x.f0)) = true
        · refine Ev.pos e ?_
          have := ih (pre ++ [x]) acc (by simp [h]) (by simp; omega)
          unfold mergeV at this ⊢
          rw [List.filter_cons_of_neg (by rw [e]; simp)]
          exact this
        · refine Ev.neg e ?_
          have := ih (pre ++ [x]) (acc ++ [x]) (by simp [h]) (by simp; omega)
          unfold mergeV at this ⊢
          rw [List.filter_cons_of_pos (by simpa using e)]
          simpa using this
  have := key l [] [] rfl (by simp)
  simpa [impl_MergeFields.f] using this
theorem bytesOf_mk2 (l : List UInt8) : bytesOf ⟨l.toArray⟩ = l.map fun b => (b.toNat : Int) := rfl
theorem libjoin_map (l : List ByteArray) : ((Lib.join (l.map (·.data.toList)) [44, 32]).map fun b => (b.toNat : Int)) = joinI l := by
  have tail : ∀ r : List ByteArray, ((Lib.joinTail [44, 32] (r.map (·.data.toList))).map fun b => (b.toNat : Int)) = joinT r := by
    intro r
    induction r with
    | nil => rfl
    | cons x r ih =>
      simp only [Lib.joinTail, List.map_cons, List.flatten_cons, List.map_append, joinT] at ih ⊢
      rw [ih]; rfl
  cases l with
  | nil => rfl
  | cons x r =>
    rw [List.map_cons, Lib.join_cons, List.map_append, tail]; rfl
theorem impl_Join_eq (l : List ByteArray) (hl : totS l ≤ 1099511627776) : impl_JoinList.f l = some (joinV l) := by
  have hlen := totS_len l
  have h2 := joinI_len l
  have e : (⟨#[44, 32]⟩ : ByteArray).data.toList = [44, 32] := rfl
  have hl3 : (Lib.join (l.map (·.data.toList)) [44, 32]).length = (joinI l).length := by rw [← libjoin_map, List.length_map]
  unfold impl_JoinList.f strings_Join.f
  rw [e, if_pos ⟨by omega, by omega⟩, Option.bind_some]
  congr 1
  apply bytesOf_inj
  rw [bytesOf_joinV, bytesOf_mk2, libjoin_map]
theorem impl_Get_ev (l : List S67) (hl : totF2 l ≤ 1099511627776) (name : ByteArray) : Ev (fun k => impl_GetField.f k l name) (getV l name) := by
  have hlen := totF2_len l
  have key : ∀ (rest pre : List S67) (acc : List ByteArray), l = pre ++ rest → acc.length ≤ pre.length → acc ++ valsL rest name = valsL l name → Ev (fun k => impl_GetField.l0 k name acc l (l.length : Int) (pre.length : Int)) (getV l name) := by
    intro rest
    induction rest with
    | nil =>
      intro pre acc h ha hv
      have hl2 := len_mid h
      simp only [List.length_nil] at hl2
      have e : acc = valsL l name := by rw [← hv]; simp [valsL]
      refine Ev.step (f := fun k => (impl_JoinList.f acc).bind fun t => some (t, decide ((acc.length : Int) > 0))) (fun k => ?_) ?_
      · simp only [impl_GetField.l0]
        rw [if_neg (by omega)]
      · have ht := vals_tot l name
        rw [impl_Join_eq acc (by rw [e]; omega), e, vals_some]
        exact Ev.now _
    | cons x rest ih =>
      intro pre acc h ha hv
      have hl2 := len_mid h
      simp only [List.length_cons] at hl2
      have hx : rd_T67 l (pre.length : Int) = x := getD_mid h
      have hw := len_step pre x (by omega)
      by_cases e : x.f0 = name
      · refine Ev.step (f := fun k => impl_GetField.l0 k name (acc ++ [x.f1]) l (l.length : Int) ((pre ++ [x]).length : Int)) (fun k => ?_) (ih (pre ++ [x]) (acc ++ [x.f1]) (by simp [h]) (by simp; omega) (by rw [← hv, vals_cons_eq x rest name e]; simp))
        simp only [impl_GetField.l0]
        rw [if_pos (by omega), if_pos (by omega), if_pos (by omega), hx, if_pos (toList_iff.mpr e), if_pos (by omega), hw]
      · refine Ev.step (f := fun k => impl_GetField.l0 k name acc l (l.length : Int) ((pre ++ [x]).length : Int)) (fun k => ?_) (ih (pre ++ [x]) acc (by simp [h]) (by simp; omega) (by rw [← hv, vals_cons_ne x rest name e]))
        simp only [impl_GetField.l0]
        rw [if_pos (by omega), if_pos (by omega), if_pos (by omega), hx, if_neg (fun g => e (toList_iff.mp g)), hw]
  exact key l [] [] rfl (by simp) (by simp)
theorem spec_l1In_eq (a b c : Int) : spec_l1In.f a b c = some (decide (b ≤ a ∧ a ≤ c)) := by
  unfold spec_l1In.f
  by_cases h : a ≥ b
  · rw [if_pos h]; congr 1; apply decide_eq_decide.mpr; constructor
    · exact fun x => ⟨h, x⟩
    · exact fun x => x.2
  · rw [if_neg h]; congr 1; symm; apply decide_eq_false; omega
theorem spec_tok_fin : ∀ n : Fin 256, spec_l4Token.f 17 (n.val : Int) = some (tokB (n.val : Int)) := by decide +kernel
theorem spec_tok_ev {b : Int} (h0 : 0 ≤ b) (h1 : b ≤ 255) : Ev (fun k => spec_l4Token.f k b) (tokB b) := Ev.of (fun k => spec_l4Token.mono b k) (k := 17) (fin256 (p := fun b => spec_l4Token.f 17 b = some (tokB b)) spec_tok_fin h0 h1)
theorem spec_IsToken_ev (s : ByteArray) (hs : s.size ≤ 4611686018427387904) : Ev (fun k => spec_IsToken.f k s) (tokV s) := by
  have key : ∀ (rest pre : List Int), bytesOf s = pre ++ rest → Ev (fun k => spec_IsToken.l0 k s (pre.length : Int)) (rest.all tokB && decide (1 ≤ (s.size : Int) ∧ (s.size : Int) ≤ 40)) := by
    intro rest
    induction rest with
    | nil =>
      intro pre h
      have hz := size_mid h
      simp only [List.length_nil] at hz
      refine Ev.step (f := fun _ => some (decide (1 ≤ (s.size : Int) ∧ (s.size : Int) ≤ 40))) (fun k => ?_) (by simpa using Ev.now _)
      simp only [spec_IsToken.l0]
      rw [if_neg (by omega), spec_l1In_eq, Option.bind_some]
    | cons b rest ih =>
      intro pre h
      have hz := size_mid h
      simp only [List.length_cons] at hz
      have hb := bt_mid h
      have hr : 0 ≤ b ∧ b ≤ 255 := by rw [← hb]; exact bt_range s _
      have hw := len_step pre b (by omega)
      refine Ev.step (f := fun k => (spec_l4Token.f k b).bind fun t => if t = true then spec_IsToken.l0 k s ((pre ++ [b]).length : Int) else some false) (fun k => ?_) (Ev.bind (spec_tok_ev hr.1 hr.2) ?_)
      · simp only [spec_IsToken.l0]
        rw [if_pos (by omega), if_pos (by omega), hb, hw]
      · cases e : tokB b with
        | true => simpa [e] using ih (pre ++ [b]) (by simp [h])
        | false => simpa [e] using Ev.now _
  exact key (bytesOf s) [] rfl
theorem spec_Lower_eq (s : ByteArray) (h : s.size ≤ 4611686018427387904) : spec_LowerText.f s = some (lowerV s) := by unfold spec_LowerText.f; rw [if_pos h]; rfl
theorem spec_blank_eq (b : Int) : spec_l4Blank.f b = some (blankI b) := by
  unfold spec_l4Blank.f blankI
  by_cases h : b = 32
  · rw [if_pos h, h]; rfl
  · rw [if_neg h]; simp [h]
theorem spec_Trim_l1 (n : Nat) : ∀ s : ByteArray, s.size ≤ n → s.size ≤ 4611686018427387904 → Ev (fun k => spec_TrimText.l1 k s) (strOfNums (rdropI blankI (bytesOf s))) := by
  induction n with
  | zero =>
    intro s hn hs
    have e : bytesOf s = [] := List.eq_nil_of_length_eq_zero (by rw [bytesOf_length]; omega)
    refine Ev.step (f := fun _ => some s) (fun k => ?_) (by rw [e]; simp only [rdropI]; rw [← e, strOf_bytesOf]; exact Ev.now _)
    simp only [spec_TrimText.l1]
    rw [if_neg (by omega)]
  | succ n ih =>
    intro s hn hs
    rcases List.eq_nil_or_concat (bytesOf s) with h | ⟨r, b, h⟩
    · exact ih s (by rw [← bytesOf_length, h]; simp) hs
    · rw [List.concat_eq_append] at h
      have hz := size_mid h
      simp only [List.length_cons, List.length_nil] at hz
      have hw : wrap64 ((s.size : Int) - 1) = (r.length : Int) := by rw [wrap_id (by omega) (by omega)]; omega
      have hb := bt_mid h
      have hx : bytesOf (s.extract 0 ((r.length : Int) : Int).toNat) = r := by
        rw [bytesOf_extract, h]; simp
      rw [h, rdropI_concat]
      by_cases g : blankI b = true
      · rw [if_pos g]
        refine Ev.step (f := fun k => spec_TrimText.l1 k (s.extract 0 ((r.length : Int) : Int).toNat)) (fun k => ?_) ?_
        · simp only [spec_TrimText.l1]
          rw [if_pos (by omega), hw, if_pos (by omega), if_pos (by omega), hb, spec_blank_eq, Option.bind_some, if_pos g, if_pos (by omega)]
        · have hlen : (s.extract 0 ((r.length : Int) : Int).toNat).size = r.length := by rw [← bytesOf_length, hx]
          have := ih _ (by rw [hlen]; omega) (by rw [hlen]; omega)
          rwa [hx] at this
      · rw [if_neg g]
        refine Ev.step (f := fun _ => some s) (fun k => ?_) (by rw [← h, strOf_bytesOf]; exact Ev.now _)
        simp only [spec_TrimText.l1]
        rw [if_pos (by omega), hw, if_pos (by omega), if_pos (by omega), hb, spec_blank_eq, Option.bind_some, if_neg g]
theorem spec_Trim_l0 (l : List Int) : ∀ s : ByteArray, bytesOf s = l → s.size ≤ 4611686018427387904 → Ev (fun k => spec_TrimText.l0 k s) (strOfNums (rdropI blankI (l.dropWhile blankI))) := by
  induction l with
  | nil =>
    intro s h hs
    have hz := size_mid (pre := []) (rest := []) h
    simp only [List.length_nil] at hz
    refine Ev.step (f := fun k => spec_TrimText.j1 k s) (fun k => ?_) (Ev.step (f := fun k => spec_TrimText.l1 k s) (fun k => by simp only [spec_TrimText.j1]) ?_)
    · simp only [spec_TrimText.l0]
      rw [if_neg (by omega)]
    · have := spec_Trim_l1 _ s (Nat.le_refl _) hs
      rw [h] at this
      exact this
  | cons b r ih =>
    intro s h hs
    have hz := size_mid (pre := []) (rest := b :: r) h
    simp only [List.length_cons, List.length_nil] at hz
    have hb : bt s 0 = b := bt_mid (pre := []) h
    by_cases g : blankI b = true
    · rw [List.dropWhile_cons_of_pos g]
      have hx : bytesOf (s.extract 1 s.size) = r := by
        rw [bytesOf_extract, h, List.take_of_length_le (by simp only [List.length_cons]; omega)]; rfl
      refine Ev.step (f := fun k => spec_TrimText.l0 k (s.extract 1 s.size)) (fun k => ?_) (ih _ hx (by rw [← bytesOf_length, hx]; omega))
      simp only [spec_TrimText.l0]
      rw [if_pos (by omega), if_pos (by omega), hb, spec_blank_eq, Option.bind_some, if_pos g, if_pos (by omega)]
    · rw [List.dropWhile_cons_of_neg g]
      refine Ev.step (f := fun k => spec_TrimText.j1 k s) (fun k => ?_) (Ev.step (f := fun k => spec_TrimText.l1 k s) (fun k => by simp only [spec_TrimText.j1]) ?_)
      · simp only [spec_TrimText.l0]
        rw [if_pos (by omega), if_pos (by omega), hb, spec_blank_eq, Option.bind_some, if_neg g]
      · have := spec_Trim_l1 _ s (Nat.le_refl _) hs
        rwa [h] at this
theorem spec_Trim_ev (s : ByteArray) (hs : s.size ≤ 4611686018427387904) : Ev (fun k => spec_TrimText.f k s) (trimV s) := by
  have := spec_Trim_l0 (bytesOf s) s rfl hs
  rw [← drop_rdrop] at this
  exact this
theorem spec_Name_ev (s : ByteArray) (hs : s.size ≤ 4611686018427387904) : Ev (fun k => spec_l5Name.f k s) (nameB s) := by
  unfold spec_l5Name.f
  refine Ev.bind (spec_IsToken_ev s hs) ?_
  unfold nameB
  cases h : tokV s with
  | true => refine Ev.pos rfl ?_; rw [spec_Lower_eq s hs, Option.bind_some, beq_toList]; simpa using Ev.now _
  | false => refine Ev.neg (by simp) ?_; simpa using Ev.now _
theorem spec_Val_ev (s : ByteArray) (hs : s.size ≤ 4611686018427387904) : Ev (fun k => spec_l5Value.f k s) (valB s) := by
  have key : ∀ (rest pre : List Int), bytesOf s = pre ++ rest → Ev (fun k => spec_l5Value.l0 k s (pre.length : Int)) (rest.all vB && (decide ((s.size : Int) ≤ 200) && decide (trimV s = s))) := by
    intro rest
    induction rest with
    | nil =>
      intro pre h
      have hz := size_mid h
      simp only [List.length_nil] at hz
      by_cases g : (s.size : Int) ≤ 200
      · refine Ev.step (f := fun k => (spec_TrimText.f k s).bind fun t => some (t.toList == s.toList)) (fun k => ?_) (Ev.bind (spec_Trim_ev s hs) ?_)
        · simp only [spec_l5Value.l0]
          rw [if_neg (by omega), if_pos g]
        · rw [beq_toList, decide_eq_true g]; simpa using Ev.now _
      · refine Ev.step (f := fun _ => some false) (fun k => ?_) (by rw [decide_eq_false g]; simpa using Ev.now _)
        simp only [spec_l5Value.l0]
        rw [if_neg (by omega), if_neg g]
    | cons b rest ih =>
      intro pre h
      have hz := size_mid h
      simp only [List.length_cons] at hz
      have hb := bt_mid h
      have hr : 0 ≤ b ∧ b ≤ 255 := by rw [← hb]; exact bt_range s _
      have hw := len_step pre b (by omega)
      have nxt := ih (pre ++ [b]) (by simp [h])
      by_cases e : 32 ≤ b ∧ b ≤ 126
      · have hd : decide (32 ≤ b ∧ b ≤ 126) = true := decide_eq_true e
        have ev : vB b = true := by simp [vB, e]
        rw [List.all_cons, ev, Bool.true_and]
        refine Ev.step (fun k => ?_) nxt
        simp only [spec_l5Value.l0]
        rw [if_pos (by omega), if_pos (by omega), hb, wrap_id (n := b) (by omega) (by omega), spec_l1In_eq, Option.bind_some, if_pos hd, hw]
      · have hd : ¬ decide (32 ≤ b ∧ b ≤ 126) = true := by simp [e]
        by_cases e9 : b = 9
        · have ev : vB b = true := by simp [vB, e9]
          rw [List.all_cons, ev, Bool.true_and]
          refine Ev.step (fun k => ?_) nxt
          simp only [spec_l5Value.l0]
          rw [if_pos (by omega), if_pos (by omega), hb, wrap_id (n := b) (by omega) (by omega), spec_l1In_eq, Option.bind_some, if_neg hd, if_pos e9, hw]
        · refine Ev.step (f := fun _ => some false) (fun k => ?_) (by simpa [vB, e, e9] using Ev.now _)
          simp only [spec_l5Value.l0]
          rw [if_pos (by omega), if_pos (by omega), hb, wrap_id (n := b) (by omega) (by omega), spec_l1In_eq, Option.bind_some, if_neg hd, if_neg e9]
  exact key (bytesOf s) [] rfl
theorem spec_Are_ev (l : List S67) (hl : totF2 l ≤ 1099511627776) : Ev (fun k => spec_AreFields.f k l) (areV l) := by
  have hlen := totF2_len l
  have key : ∀ (rest pre : List S67), l = pre ++ rest → Ev (fun k => spec_AreFields.l0 k l (pre.length : Int)) (rest.all (fun x => nameB x.f0 && valB x.f1) && decide ((l.length : Int) ≤ 24)) := by
    intro rest
    induction rest with
    | nil =>
      intro pre h
      have hl2 := len_mid h
      simp only [List.length_nil] at hl2
      refine Ev.step (f := fun _ => some (decide ((l.length : Int) ≤ 24))) (fun k => ?_) (by simpa using Ev.now _)
      simp only [spec_AreFields.l0]
      rw [if_neg (by omega)]
    | cons x rest ih =>
      intro pre h
      have hl2 := len_mid h
      simp only [List.length_cons] at hl2
      have hx : rd_T67 l (pre.length : Int) = x := getD_mid h
      have hmx := totF2_mem l x (by rw [h]; simp)
      have hst := len_step pre x (by omega)
      have nxt := ih (pre ++ [x]) (by simp [h])
      refine Ev.step (f := fun k => (spec_l5Name.f k x.f0).bind fun t => if t = true then (spec_l5Value.f k x.f1).bind (fun u => if u = true then spec_AreFields.l0 k l ((pre ++ [x]).length : Int) else some false) else some false) (fun k => ?_) (Ev.bind (spec_Name_ev x.f0 (by omega)) ?_)
      · simp only [spec_AreFields.l0]
        rw [if_pos (by omega), if_pos (by omega), hx, hst]
      · cases hn : nameB x.f0 with
        | false => simpa [hn] using Ev.now _
        | true =>
          refine Ev.pos rfl (Ev.bind (spec_Val_ev x.f1 (by omega)) ?_)
          cases hv : valB x.f1 with
          | false => simpa [hn, hv] using Ev.now _
          | true => simpa [hn, hv] using nxt
  exact key l [] rfl

theorem totF_eq (l : List S67) : totF l = totF2 l := by
  induction l with
  | nil => rfl
  | cons x r ih => simp only [totF, totF2, ih]
theorem FnFields : laws_FnFields.Pure := by
  intro l hl hb
  apply Ev.rounds
  by_cases g : (l.length : Int) > 1048576
  · refine Ev.mp (Ev.now _) (fun k => ?_)
    unfold laws_FnFields.f laws_big.f
    rw [decide_eq_true g, Option.bind_some, if_pos rfl]
  obtain ⟨h, hn, c⟩ := new_ev l (by omega)
  obtain ⟨L, i1, h1, hL, zL, c1⟩ := any5_ev h c
  obtain ⟨name, i2, h2, e2, z2, c2⟩ := str_small h1 c1 ([(⟨#[97]⟩ : ByteArray), (⟨#[98]⟩ : ByteArray), (⟨#[120, 45, 107]⟩ : ByteArray), (⟨#[110, 111, 110, 101]⟩ : ByteArray)] : List ByteArray) (by decide) 20 (by decide +kernel)
  obtain ⟨value, i3, h3, e3, z3, c3⟩ := some_ok h2 c2
  obtain ⟨A, i4, h4, hA, zA, c4⟩ := draw5_ev h c
  obtain ⟨B, i5, h5, hB, zB, c5⟩ := draw5_ev h4 c4
  have D1 : Ev (fun k => spec_DrawSetField.f k l) (L, name, value) := by
    unfold spec_DrawSetField.f
    refine Ev.bind hn (Ev.bind hL ?_)
    simp only [e2, e3, Option.bind_some]
    exact Ev.now _
  have D2 : Ev (fun k => spec_DrawMergeFields.f k l) (A, B) := by
    unfold spec_DrawMergeFields.f
    exact Ev.bind hn (Ev.bind hA (Ev.bind hB (Ev.now _)))
  have D3 : Ev (fun k => spec_DrawFormatFields.f k l) L := by
    unfold spec_DrawFormatFields.f
    exact Ev.bind hn (Ev.bind hL (Ev.now _))
  have hbig : laws_big.f l = some false := by unfold laws_big.f; rw [decide_eq_false g]
  have nL := totF2_len L
  have nA := totF2_len A
  have nB := totF2_len B
  have tX := totF2_set name value L false
  have nX := totF2_len (setL name value false L)
  have tD : totF2 (dropV (setL name value false L) name) ≤ totF2 (setL name value false L) := totF2_filter _ _
  have nD := totF2_len (dropV (setL name value false L) name)
  have tM : totF2 (mergeV A B) ≤ totF2 A + totF2 B := by
    unfold mergeV
    rw [totF2_append]
    have := totF2_filter (fun x => !(B.any (fun y => decide (y.f0 = x.f0)))) A
    omega
  have v1 := vals_set name value L false
  have g1 : (getV (setL name value false L) name).1 = value := by unfold getV; simp only; rw [v1]; exact join_one value
  have g2 : (getV (setL name value false L) name).2 = true := by unfold getV; simp only; rw [← vals_some, v1]; rfl
  have g3 : (getV (dropV (setL name value false L) name) name).2 = false := drop_still _ _
  have hcnt := set_count name value L false
  have hds := drop_set name value L false
  -- the last part: lines read back
  have last : Ev (fun k => (spec_DrawFormatFields.f k l).bind fun t346 => ((impl_FormatFields.f k t346).bind fun t349 => ((impl_ParseFields.f k t349).bind fun bt350 => ((spec_AreFields.f k t346).bind fun t354 => (if t354 = true then (if bt350.2 = true then ((impl_SameFields.f k bt350.1 t346).bind fun t355 => (if t355 = true then ((impl_AreFields.f k bt350.1).bind fun t356 => (some t356)) else (some false))) else (some false)) else (some true)))))) true := by
    have tf := totF_eq L
    have hz : (strOfNums (ffL L)).size ≤ 4 * totF2 L := by
      rw [strOfNums_size]
      clear D1 D2 D3 hL zL nL tX nX tD nD v1 g1 g2 g3 hcnt hds tf e2
      induction L with
      | nil => simp [ffL, totF2]
      | cons x r ih => simp only [ffL, totF2, List.length_append, bytesOf_length, List.length_cons, List.length_nil]; omega
    refine Ev.bind D3 (Ev.bind (impl_FormatFields_ev L (by rw [tf]; omega) (by omega)) (Ev.bind (impl_PF_ev _ (by omega)) (Ev.bind (spec_Are_ev L (by omega)) ?_)))
    by_cases q : areV L = true
    · rw [pf_round L q]
      refine Ev.pos q (Ev.pos rfl (Ev.bind (impl_Same_ev L L (by omega)) ?_))
      rw [fieldsEq_self]
      refine Ev.pos rfl ?_
      have := impl_Are_ev L (by omega)
      rw [q] at this
      exact Ev.bind this (Ev.now _)
    · exact Ev.neg q (Ev.now _)
  have mid : ∀ rest pre, B = pre ++ rest → Ev (fun k => laws_FnFields.l0 k l B (mergeV A B) (pre.length : Int)) true := by
    intro rest
    induction rest with
    | nil =>
      intro pre hp
      have hlen := len_mid hp
      simp only [List.length_nil] at hlen
      apply Ev.step
      · intro k
        simp only [laws_FnFields.l0]
        rw [if_neg (by omega)]
      · exact last
    | cons x rest ih =>
      intro pre hp
      have hlen := len_mid hp
      simp only [List.length_cons] at hlen
      have hx : rd_T67 B (pre.length : Int) = x := getD_mid hp
      have hm := vals_merge A B x (by rw [hp]; simp)
      have he : (getV (mergeV A B) x.f0).1 = (getV B x.f0).1 := by unfold getV; simp only; rw [hm]
      refine Ev.step (f := fun k => (impl_GetField.f k (mergeV A B) x.f0).bind fun a => (impl_GetField.f k B x.f0).bind fun b => (if a.1.toList = b.1.toList then (laws_FnFields.l0 k l B (mergeV A B) ((pre ++ [x]).length : Int)) else (some false))) (fun k => ?_) (Ev.bind (impl_Get_ev (mergeV A B) (by omega) x.f0) (Ev.bind (impl_Get_ev B (by omega) x.f0) ?_))
      · simp only [laws_FnFields.l0]
        rw [if_pos (by omega), if_pos (by omega), hx, len_step pre x (by omega)]
      · exact Ev.pos (by rw [he]) (ih (pre ++ [x]) (by simp [hp]))
  have next : Ev (fun k => laws_FnFields.j0 k l false) true := by
    apply Ev.step
    · intro k
      simp only [laws_FnFields.j0]
      rw [if_neg (by simp)]
    · exact Ev.bind D2 (Ev.bind (impl_Merge_ev A B (by omega) (by omega)) (mid B [] rfl))
  unfold laws_FnFields.f
  simp only [hbig, Option.bind_some, Bool.false_eq_true, if_false]
  refine Ev.bind D1 (Ev.bind (impl_Set_ev L (by omega) name value) (Ev.bind (impl_Get_ev _ (by omega) name) (Ev.bind (impl_Drop_ev _ (by omega) name) (Ev.bind (impl_Get_ev _ (by omega) name) ?_))))
  refine Ev.pos g2 (Ev.pos (by rw [g1]) (Ev.neg (by rw [g3]; simp) (Ev.bind (impl_Drop_ev L (by omega) name) (Ev.bind (impl_Same_ev _ _ (by omega)) ?_))))
  rw [hds, fieldsEq_self]
  refine Ev.pos rfl ?_
  have : (((setL name value false L).length : Int) != wrap64 (((dropV L name).length : Int) + 1)) = false := by
    rw [hds] at nD
    rw [wrap_id (by omega) (by omega), bne_eq_false_iff_eq, hcnt]
    simp
  rw [this]
  exact next

end Go.Proofs.YtlboepkphddacaaDoor.Pure
