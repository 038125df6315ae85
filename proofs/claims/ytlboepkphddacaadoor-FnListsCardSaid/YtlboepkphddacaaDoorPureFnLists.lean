/- The pure part of FnLists: for every list of bytes within the statement's bounds the printed law answers true. Conditions: the statement's own bounds alone. -/
import Derived.Test.YtlboepkphddacaaDoorPreFnLists
import Derived.Test.YtlboepkphddacaaDoorRFnListsx1
import Derived.Test.YtlboepkphddacaaDoorRFnListsx2
import Derived.Test.YtlboepkphddacaaDoorRFnListsx3
import Derived.Test.YtlboepkphddacaaDoorRFnListsx4
import Derived.OpenShut
namespace Go.Proofs.YtlboepkphddacaaDoor.Pure
open Go.RowKit Go.Proofs.YtlboepkphddacaaDoor.RFnLists Go.Proofs.YtlboepkphddacaaDoorW.PrintWords Go.Proofs.YtlboepkphddacaaDoorW.PrintLast
set_option linter.unusedSimpArgs false
set_option linter.unusedVariables false

/-! ### Texts as lists of numbers -/
def InB (l : List Int) : Prop := ∀ x ∈ l, 0 ≤ x ∧ x ≤ 255
theorem InB_nil : InB [] := fun x hx => by simp at hx
theorem InB_cons {b : Int} {l : List Int} : InB (b :: l) ↔ (0 ≤ b ∧ b ≤ 255) ∧ InB l := by simp [InB]
theorem InB_append {l m : List Int} : InB (l ++ m) ↔ InB l ∧ InB m := by
  simp only [InB, List.mem_append]
  exact ⟨fun h => ⟨fun x hx => h x (.inl hx), fun x hx => h x (.inr hx)⟩, fun h x hx => hx.elim (h.1 x) (h.2 x)⟩
theorem InB_take {l : List Int} (n : Nat) (h : InB l) : InB (l.take n) := fun x hx => h x (List.mem_of_mem_take hx)
theorem InB_drop {l : List Int} (n : Nat) (h : InB l) : InB (l.drop n) := fun x hx => h x (List.mem_of_mem_drop hx)
theorem InB_bytes (s : ByteArray) : InB (bytesOf s) := by
  intro x hx
  unfold bytesOf at hx
  obtain ⟨b, _, rfl⟩ := List.mem_map.1 hx
  have := b.toNat_lt
  omega
theorem strOf_bytesOf (s : ByteArray) : strOfNums (bytesOf s) = s := by
  obtain ⟨⟨l⟩⟩ := s
  unfold strOfNums bytesOf
  simp only [List.map_map]
  congr 2
  exact (List.map_congr_left (fun b _ => by simp)).trans (List.map_id l)
theorem bytesOf_strOf {l : List Int} (h : InB l) : bytesOf (strOfNums l) = l := by
  unfold strOfNums bytesOf
  simp only [List.map_map]
  refine (List.map_congr_left (fun x hx => ?_)).trans (List.map_id l)
  have := h x hx
  simp only [Function.comp_apply, id, UInt8.toNat_ofNat']
  omega
theorem bytesOf_inj {s t : ByteArray} (h : bytesOf s = bytesOf t) : s = t := by rw [← strOf_bytesOf s, h, strOf_bytesOf]
theorem bytesOf_append (s t : ByteArray) : bytesOf (s ++ t) = bytesOf s ++ bytesOf t := by
  unfold bytesOf
  rw [ByteArray.data_append, Array.toList_append, List.map_append]
theorem bytesOf_extract (s : ByteArray) (a b : Nat) : bytesOf (s.extract a b) = ((bytesOf s).take b).drop a := by
  unfold bytesOf
  rw [ByteArray.data_extract, Array.toList_extract, List.extract_eq_take_drop, List.map_take, List.map_drop, List.take_drop]
  rcases Nat.le_total a b with h | h
  · rw [Nat.add_sub_cancel' h]
  · rw [Nat.sub_eq_zero_of_le h, List.drop_eq_nil_of_le (by simp; omega), List.drop_eq_nil_of_le (by simp; omega)]
theorem toList_iff {s t : ByteArray} : s.toList = t.toList ↔ s = t := by
  rw [ByteArray.toList_eq, ByteArray.toList_eq]
  constructor
  · intro h
    obtain ⟨⟨l⟩⟩ := s
    obtain ⟨⟨m⟩⟩ := t
    simp only at h
    rw [h]
  · rintro rfl; rfl
theorem size_bytes (s : ByteArray) : (s.size : Int) = ((bytesOf s).length : Int) := by rw [bytesOf_length]
theorem getD_mid {α : Type} {l pre rest : List α} {b d : α} (h : l = pre ++ b :: rest) : l.getD ((pre.length : Int)).toNat d = b := by subst h; simp
theorem len_mid {α : Type} {l pre rest : List α} (h : l = pre ++ rest) : l.length = pre.length + rest.length := by rw [h, List.length_append]
theorem rd_mid {l pre rest : List Int} {b : Int} (h : l = pre ++ b :: rest) : rd l (pre.length : Int) = b := by
  subst h
  unfold rd
  simp
theorem bt_mid {s : ByteArray} {pre rest : List Int} {b : Int} (h : bytesOf s = pre ++ b :: rest) : bt s (pre.length : Int) = b := by
  rw [← rd_bytesOf]; exact rd_mid h
theorem size_mid {s : ByteArray} {pre rest : List Int} (h : bytesOf s = pre ++ rest) : (s.size : Int) = (pre.length : Int) + (rest.length : Int) := by
  rw [size_bytes, h]; simp
theorem mid_step {l pre rest : List Int} {b : Int} (h : l = pre ++ b :: rest) : l = (pre ++ [b]) ++ rest := by simp [h]
theorem wrap_id {n : Int} (h0 : -9223372036854775808 ≤ n) (h1 : n ≤ 9223372036854775807) : wrap64 n = n := by unfold wrap64; omega
theorem len_step {α : Type} (pre : List α) (b : α) (h : pre.length ≤ 9223372036854775000) : wrap64 ((pre.length : Int) + 1) = ((pre ++ [b]).length : Int) := by
  rw [wrap_id (by omega) (by omega)]; simp
/-! ### Loops over lists -/
theorem map_loop {α β : Type} (da : α) (conv : α → β) (x0 : List α) (hn : x0.length ≤ 4611686018427387904) (g : Nat → List β → Int → Option (List β))
    (hg : ∀ k x3 i, g (k + 1) x3 i = if i < (x0.length : Int) then (if 0 ≤ i then (if i < (x3.length : Int) then g k (x3.set (i : Int).toNat (conv (x0.getD i.toNat da))) (wrap64 (i + 1)) else none) else none) else some x3) (z : β) :
    Ev (fun k => g k (List.replicate x0.length z) 0) (x0.map conv) := by
  have key : ∀ rest pre, x0 = pre ++ rest → Ev (fun k => g k (pre.map conv ++ List.replicate rest.length z) (pre.length : Int)) (x0.map conv) := by
    intro rest
    induction rest with
    | nil =>
      intro pre h
      refine Ev.step (f := fun _ => some (x0.map conv)) (fun k => ?_) (Ev.now _)
      rw [hg, if_neg (by rw [h]; simp)]
      simp [h]
    | cons b rest ih =>
      intro pre h
      have hl : x0.length = pre.length + (rest.length + 1) := by rw [h]; simp
      refine Ev.step (f := fun k => g k ((pre ++ [b]).map conv ++ List.replicate rest.length z) ((pre ++ [b]).length : Int)) (fun k => ?_) (ih (pre ++ [b]) (by simp [h]))
      rw [hg, if_pos (by omega), if_pos (by omega), if_pos (by simp; omega), wrap_id (by omega) (by omega)]
      have e1 : x0.getD ((pre.length : Int)).toNat da = b := by rw [h]; simp
      rw [e1]
      congr 1
      · simp [List.replicate_succ, List.set_append]
      · simp
  exact key x0 [] rfl
theorem same_loop {α : Type} (a : List α) (hn : a.length ≤ 4611686018427387904) (g : Nat → Int → Option Bool)
    (hg : ∀ k i, 0 ≤ i → i < (a.length : Int) → g (k + 1) i = g k (wrap64 (i + 1))) (he : ∀ k, g (k + 1) (a.length : Int) = some true) : Ev (fun k => g k 0) true := by
  have key : ∀ d i : Nat, i + d = a.length → Ev (fun k => g k (i : Int)) true := by
    intro d
    induction d with
    | zero => intro i h; obtain rfl : i = a.length := by omega
              exact Ev.step he (Ev.now _)
    | succ d ih =>
      intro i h
      refine Ev.step (f := fun k => g k ((i + 1 : Nat) : Int)) (fun k => ?_) (ih (i + 1) (by omega))
      rw [hg k i (by omega) (by omega), wrap_id (by omega) (by omega)]; rfl
  exact key a.length 0 (by omega)
theorem Ev.mp {α : Type} {g f : Nat → Option α} {r : α} (h : Ev f r) (e : ∀ k, g k = f k) : Ev g r := Ev.congr e h
theorem Ev.step2 {α : Type} {g f : Nat → Option α} {r : α} (h : ∃ K, ∀ k, K ≤ k → g (k + 1) = f k) (e : Ev f r) : Ev g r := by
  obtain ⟨K, hK⟩ := h
  obtain ⟨K', hK'⟩ := e
  refine ⟨max K K' + 1, fun k hk => ?_⟩
  obtain ⟨k, rfl⟩ : ∃ m, k = m + 1 := ⟨k - 1, by omega⟩
  rw [hK k (by omega), hK' k (by omega)]
/-- Every element turned into the next of a row of marks. -/
def markL {α : Type} (mk : Int → α) (c : Nat) : Int → List α → List α
  | _, [] => []
  | k, _ :: r => mk k :: markL mk c (k + c) r
theorem markL_length {α : Type} (mk : Int → α) (c : Nat) (l : List α) : ∀ k, (markL mk c k l).length = l.length := by
  induction l with
  | nil => intro k; rfl
  | cons x r ih => intro k; simp [markL, ih]
theorem mark_loop {α : Type} (mk : Int → α) (c : Nat) (g : Nat → List α → Int → Int → Option (Int × List α)) (B : Int) (hB : B ≤ 4611686018427387904)
    (hg : ∀ (l : List α) (k0 i : Int), 0 ≤ i → i < (l.length : Int) → 0 ≤ k0 → k0 + c ≤ B → ∃ K, ∀ k, K ≤ k → g (k + 1) l k0 i = g k (l.set i.toNat (mk k0)) (k0 + c) (wrap64 (i + 1)))
    (he : ∀ k (l : List α) (k0 : Int), g (k + 1) l k0 (l.length : Int) = some (k0, l)) (l : List α) (hl : l.length ≤ 4611686018427387904) (k0 : Int) (h0 : 0 ≤ k0) (h1 : k0 + c * l.length ≤ B) :
    Ev (fun k => g k l k0 0) (k0 + c * l.length, markL mk c k0 l) := by
  have key : ∀ (rest pre : List α) (k0 : Int), 0 ≤ k0 → k0 + c * rest.length ≤ B → pre.length + rest.length ≤ 4611686018427387904 → Ev (fun k => g k (pre ++ rest) k0 (pre.length : Int)) (k0 + c * rest.length, pre ++ markL mk c k0 rest) := by
    intro rest
    induction rest with
    | nil =>
      intro pre k0 _ _ _
      refine Ev.step (f := fun _ => some (k0, pre)) (fun k => ?_) (by simpa [markL] using Ev.now _)
      have := he k pre k0
      simpa using this
    | cons x rest ih =>
      intro pre k0 h0 h1 h2
      simp only [List.length_cons] at h1 h2
      have hc : (c : Int) * ((rest.length + 1 : Nat) : Int) = c * rest.length + c := by rw [Int.natCast_add, Int.mul_add]; simp
      rw [hc] at h1
      have hcn : 0 ≤ (c : Int) * (rest.length : Int) := Int.mul_nonneg (by omega) (by omega)
      obtain ⟨K, hK⟩ := hg (pre ++ x :: rest) k0 (pre.length : Int) (by omega) (by simp; omega) h0 (by omega)
      have e := ih (pre ++ [mk k0]) (k0 + c) (by omega) (by omega) (by simp; omega)
      have e2 : (k0 + (c : Int)) + c * rest.length = k0 + c * ((x :: rest).length : Int) := by simp only [List.length_cons]; rw [hc]; omega
      rw [e2] at e
      refine Ev.step2 (f := fun k => g k (pre ++ [mk k0] ++ rest) (k0 + c) ((pre ++ [mk k0]).length : Int)) ⟨K, fun k hk => ?_⟩ (by simpa [markL] using e)
      rw [hK k hk, wrap_id (by omega) (by omega)]
      simp [List.set_append]
  have := key l [] k0 h0 h1 (by simpa using hl)
  simpa using this
theorem held_loop {α : Type} (mk : Int → α) (c : Nat) (l0 l : List α) (k0 : Int) (hl : l = markL mk c k0 l0) (g : Nat → Int → Int → Option Int) (B : Int) (hB : B ≤ 4611686018427387904)
    (hg : ∀ (k1 i : Int), 0 ≤ i → i < (l.length : Int) → 0 ≤ k1 → k1 + c ≤ B → l[i.toNat]? = some (mk k1) → ∃ K, ∀ k, K ≤ k → g (k + 1) k1 i = g k (k1 + c) (wrap64 (i + 1)))
    (he : ∀ k (k1 : Int), g (k + 1) k1 (l.length : Int) = some k1) (hn : l0.length ≤ 4611686018427387904) (h0 : 0 ≤ k0) (h1 : k0 + c * l0.length ≤ B) :
    Ev (fun k => g k k0 0) (k0 + c * l0.length) := by
  have hlen : l.length = l0.length := by rw [hl, markL_length]
  have key : ∀ (rest : List α) (pre : List α) (k1 : Int), l = pre ++ markL mk c k1 rest → 0 ≤ k1 → k1 + c * rest.length ≤ B → Ev (fun k => g k k1 (pre.length : Int)) (k1 + c * rest.length) := by
    intro rest
    induction rest with
    | nil =>
      intro pre k1 h _ _
      refine Ev.step (f := fun _ => some k1) (fun k => ?_) (by simpa using Ev.now _)
      have := he k k1
      rw [h] at this
      simpa [markL] using this
    | cons x rest ih =>
      intro pre k1 h h0 h1
      simp only [List.length_cons] at h1
      have hc : (c : Int) * ((rest.length + 1 : Nat) : Int) = c * rest.length + c := by rw [Int.natCast_add, Int.mul_add]; simp
      rw [hc] at h1
      have hcn : 0 ≤ (c : Int) * (rest.length : Int) := Int.mul_nonneg (by omega) (by omega)
      have hl2 : l.length = pre.length + (rest.length + 1) := by rw [h]; simp [markL_length]
      obtain ⟨K, hK⟩ := hg k1 (pre.length : Int) (by omega) (by omega) h0 (by omega) (by rw [h]; simp [markL])
      have e := ih (pre ++ [mk k1]) (k1 + c) (by rw [h]; simp [markL]) (by omega) (by omega)
      have e2 : (k1 + (c : Int)) + c * rest.length = k1 + c * ((x :: rest).length : Int) := by simp only [List.length_cons]; rw [hc]; omega
      rw [e2] at e
      refine Ev.step2 (f := fun k => g k (k1 + c) ((pre ++ [mk k1]).length : Int)) ⟨K, fun k hk => ?_⟩ e
      rw [hK k hk, wrap_id (by omega) (by omega)]
      simp
  exact key l0 [] k0 (by simpa using hl) h0 h1
theorem Ev.pos {α : Type} {c : Prop} [Decidable c] {f g : Nat → Option α} {r : α} (h : c) (e : Ev f r) : Ev (fun k => if c then f k else g k) r := by simp only [if_pos h]; exact e
theorem Ev.neg {α : Type} {c : Prop} [Decidable c] {f g : Nat → Option α} {r : α} (h : ¬ c) (e : Ev g r) : Ev (fun k => if c then f k else g k) r := by simp only [if_neg h]; exact e
theorem Ev.get {α β : Type} {f : Nat → α → Option β} {a : α} {r : β} (e : Ev (fun n => f n a) r) : Ev (fun n => (some a).bind (f n)) r := e
theorem and255 (n : Int) : Go.bits .and .i64 n 255 = n % 256 := by
  have h255 : (BitVec.ofInt 64 255).toNat = 2 ^ 8 - 1 := by decide
  have key : (BitVec.ofInt 64 n &&& BitVec.ofInt 64 255).toNat = (n % ((2 ^ 64 : Nat) : Int)).toNat % 2 ^ 8 := by
    rw [BitVec.toNat_and, BitVec.toNat_ofInt, h255, Nat.and_two_pow_sub_one_eq_mod]
  show IntKind.i64.wrap ((BitVec.ofInt 64 n &&& BitVec.ofInt 64 255).toNat : Nat) = n % 256
  rw [key, IntKind.wrap_i64]
  omega
/-- A cursor's place lies within the bytes. -/
def Cur (l : List Int) (i : Int) : Prop := 0 ≤ i ∧ i ≤ (l.length : Int) ∧ l.length ≤ 1048576
theorem byte_ok {l : List Int} {i : Int} (h : Int) (c : Cur l i) : ∃ x i' h', spec_l1Byte.f l i h = some (x, i', h') ∧ 0 ≤ x ∧ x ≤ 255 ∧ Cur l i' := by
  obtain ⟨c0, c1, c2⟩ := c
  unfold spec_l1Byte.f
  simp only [and255]
  by_cases g : i < (l.length : Int)
  · rw [if_pos g, if_pos c0]
    exact ⟨_, _, _, rfl, by omega, by omega, by rw [wrap_id (by omega) (by omega)]; exact ⟨by omega, by omega, c2⟩⟩
  · rw [if_neg g]
    exact ⟨_, _, _, rfl, by omega, by omega, c0, c1, c2⟩
theorem below_ok {l : List Int} {i : Int} (h : Int) (c : Cur l i) (n : Int) : ∃ x i' h', spec_l1Below.f l i h n = some (x, i', h') ∧ 0 ≤ x ∧ (0 < n → x < n) ∧ Cur l i' := by
  unfold spec_l1Below.f
  by_cases g0 : n ≤ 0
  · rw [if_pos g0]
    exact ⟨_, _, _, rfl, by omega, by omega, c⟩
  · rw [if_neg g0]
    by_cases g1 : n ≤ 256
    · rw [if_pos g1]
      obtain ⟨x, i', h', e, x0, x1, c'⟩ := byte_ok h c
      rw [e]
      simp only [Option.bind_some]
      rw [if_neg (by omega)]
      exact ⟨_, _, _, rfl, Int.tmod_nonneg n x0, fun hn => Int.tmod_lt_of_pos x hn, c'⟩
    · rw [if_neg g1]
      obtain ⟨x, i1, h1, e1, x0, x1, c1⟩ := byte_ok h c
      obtain ⟨y, i2, h2, e2, y0, y1, c2⟩ := byte_ok h1 c1
      obtain ⟨z, i3, h3, e3, z0, z1, c3⟩ := byte_ok h2 c2
      rw [e1]
      simp only [Option.bind_some]
      rw [e2]
      simp only [Option.bind_some]
      rw [e3]
      simp only [Option.bind_some]
      rw [if_neg (by omega), wrap_id (n := x * 65536) (by omega) (by omega), wrap_id (n := y * 256) (by omega) (by omega), wrap_id (n := x * 65536 + y * 256) (by omega) (by omega), wrap_id (n := x * 65536 + y * 256 + z) (by omega) (by omega)]
      exact ⟨_, _, _, rfl, Int.tmod_nonneg n (by omega), fun hn => Int.tmod_lt_of_pos _ hn, c3⟩
theorem new_loop {l : List Int} (hl : l.length ≤ 1048576) (d : Nat) : ∀ (i x : Int), 0 ≤ i → i + d = l.length → ∃ h, Ev (fun k => spec_l1New.l0 k l x i) (l, 0, h) := by
  induction d with
  | zero =>
    intro i x h0 h1
    refine ⟨x, Ev.step (f := fun _ => some (l, 0, x)) (fun k => ?_) (Ev.now _)⟩
    simp only [spec_l1New.l0]
    rw [if_neg (by omega)]
  | succ d ih =>
    intro i x h0 h1
    by_cases g : i < 4000
    · obtain ⟨h, e⟩ := ih (i + 1) (Go.bits .and .i64 (wrap64 ((wrap64 ((wrap64 (x * 139)) + (wrap64 (rd l i)))) + 11)) 1073741823) (by omega) (by omega)
      refine ⟨h, Ev.step (fun k => ?_) e⟩
      simp only [spec_l1New.l0]
      rw [if_pos (by omega), if_pos g, if_pos h0, wrap_id (n := i + 1) (by omega) (by omega)]
    · refine ⟨x, Ev.step (f := fun _ => some (l, 0, x)) (fun k => ?_) (Ev.now _)⟩
      simp only [spec_l1New.l0]
      rw [if_pos (by omega), if_neg g]
theorem new_ev (l : List Int) (hl : l.length ≤ 1048576) : ∃ h, Ev (fun k => spec_l1New.f k l) (l, 0, h) ∧ Cur l 0 := by
  obtain ⟨h, e⟩ := new_loop hl l.length 0 (wrap64 (271091 + (l.length : Int))) (by omega) (by omega)
  exact ⟨h, e, by omega, by omega, hl⟩
theorem str_ok {l : List Int} {i : Int} (h : Int) (c : Cur l i) (L : List ByteArray) (hL : 0 < L.length) : ∃ x i' h', spec_l1Str.f l i h L = some (x, i', h') ∧ x ∈ L ∧ Cur l i' := by
  obtain ⟨q, i', h', e, q0, q1, c'⟩ := below_ok h c (L.length : Int)
  have hlen : (L.length : Int) ≤ L.length := by omega
  have q2 := q1 (by omega)
  unfold spec_l1Str.f
  rw [e]
  simp only [Option.bind_some]
  rw [if_pos q0, if_pos q2]
  refine ⟨_, _, _, rfl, ?_, c'⟩
  unfold rdOf
  have hq : q.toNat < L.length := by omega
  rw [List.getD_eq_getElem?_getD, List.getElem?_eq_getElem hq]
  exact List.getElem_mem hq
theorem str_small {l : List Int} {i : Int} (h : Int) (c : Cur l i) (L : List ByteArray) (hL : 0 < L.length) (n : Nat) (hs : (L.all fun x => decide (x.size ≤ n)) = true) : ∃ x i' h', spec_l1Str.f l i h L = some (x, i', h') ∧ x.size ≤ n ∧ Cur l i' := by
  obtain ⟨x, i', h', e, hx, c'⟩ := str_ok h c L hL
  exact ⟨x, i', h', e, of_decide_eq_true (List.all_eq_true.1 hs x hx), c'⟩
theorem some_ok {l : List Int} {i : Int} (h : Int) (c : Cur l i) : ∃ x i' h', spec_l4Some.f l i h = some (x, i', h') ∧ x.size ≤ 20 ∧ Cur l i' := by
  unfold spec_l4Some.f
  obtain ⟨x, i', h', e, hx, c'⟩ := str_small h c ([(⟨#[]⟩ : ByteArray), (⟨#[97]⟩ : ByteArray), (⟨#[109, 97, 120, 45, 97, 103, 101]⟩ : ByteArray), (⟨#[120, 32, 121]⟩ : ByteArray), (⟨#[34, 113, 34]⟩ : ByteArray), (⟨#[34, 97, 44, 32, 98, 34]⟩ : ByteArray), (⟨#[34, 92, 34, 34]⟩ : ByteArray), (⟨#[34, 111, 112, 101, 110]⟩ : ByteArray), (⟨#[32, 98, 32]⟩ : ByteArray), (⟨#[9, 99]⟩ : ByteArray), (⟨#[107, 61, 118]⟩ : ByteArray), (⟨#[107, 61, 34, 97, 44, 98, 34]⟩ : ByteArray), (⟨#[75, 32, 61, 32, 55]⟩ : ByteArray), (⟨#[61]⟩ : ByteArray), (⟨#[195, 169]⟩ : ByteArray), (⟨#[65, 45, 98]⟩ : ByteArray)] : List ByteArray) (by decide) 20 (by decide +kernel)
  refine ⟨x, i', h', ?_, hx, c'⟩
  rw [e]
  rfl
/-- The bytes of a quoted text, without the quotes. -/
def quoteL : List Int → List Int
  | [] => []
  | b :: r => if b = 34 then 92 :: b :: quoteL r else if b = 92 then 92 :: b :: quoteL r else b :: quoteL r
theorem quoteL_length (l : List Int) : (quoteL l).length ≤ 2 * l.length := by
  induction l with
  | nil => simp [quoteL]
  | cons b r ih => unfold quoteL; split <;> (try split) <;> simp only [List.length_cons] <;> omega
def quoteV (s : ByteArray) : ByteArray := strOfNums (34 :: quoteL (bytesOf s) ++ [34])
/-- What stands behind the first sign of a quoted text: the bytes, and how many signs are left from the closing quote on; none if it does not close. -/
def unqL (l : List Int) : List Int × Option Nat :=
  match l with
  | [] => ([], none)
  | b :: r =>
    if b = 34 then ([], some (r.length + 1))
    else if b = 92 then
      match r with
      | [] => ([b], none)
      | c :: r' => (c :: (unqL r').1, (unqL r').2)
    else (b :: (unqL r).1, (unqL r).2)
termination_by l.length
decreasing_by all_goals simp only [List.length_cons]; omega
theorem unqL_nil : unqL [] = ([], none) := by unfold unqL; rfl
theorem unqL_quote (r : List Int) : unqL (34 :: r) = ([], some (r.length + 1)) := by rw [unqL.eq_def]; simp
theorem unqL_esc (c : Int) (r : List Int) : unqL (92 :: c :: r) = (c :: (unqL r).1, (unqL r).2) := by rw [unqL.eq_def]; simp
theorem unqL_last : unqL [92] = ([92], none) := by rw [unqL.eq_def]; simp
theorem unqL_other (r : List Int) (b : Int) (h1 : b ≠ 34) (h2 : b ≠ 92) : unqL (b :: r) = (b :: (unqL r).1, (unqL r).2) := by rw [unqL.eq_def]; simp only [if_neg h1, if_neg h2]
def unqV (s : ByteArray) : ByteArray × Bool :=
  (strOfNums (unqL (bytesOf s).tail).1, decide ((bytesOf s).head? = some 34 ∧ (unqL (bytesOf s).tail).2 = some 1))
def unqR (f : Int) (acc rest : List Int) : ByteArray × Bool := (strOfNums (acc ++ (unqL rest).1), decide (f = 34 ∧ (unqL rest).2 = some 1))
theorem unqR_nil (f : Int) (acc : List Int) : unqR f acc [] = (strOfNums acc, false) := by simp [unqR, unqL_nil]
theorem unqR_quote (f : Int) (acc r : List Int) : unqR f acc (34 :: r) = (strOfNums acc, decide (f = 34 ∧ r.length = 0)) := by simp [unqR, unqL_quote]
theorem unqR_esc (f : Int) (acc : List Int) (c : Int) (r : List Int) : unqR f acc (92 :: c :: r) = unqR f (acc ++ [c]) r := by simp [unqR, unqL_esc]
theorem unqR_last (f : Int) (acc : List Int) : unqR f acc [92] = (strOfNums (acc ++ [92]), false) := by simp [unqR, unqL_last]
theorem unqR_other (f : Int) (acc r : List Int) (b : Int) (h1 : b ≠ 34) (h2 : b ≠ 92) : unqR f acc (b :: r) = unqR f (acc ++ [b]) r := by simp [unqR, unqL_other r b h1 h2]
theorem InB_quoteL {l : List Int} (h : InB l) : InB (quoteL l) := by
  induction l with
  | nil => exact InB_nil
  | cons b r ih =>
    rw [InB_cons] at h
    unfold quoteL
    split
    · simp only [InB_cons]; exact ⟨by omega, h.1, ih h.2⟩
    · split
      · simp only [InB_cons]; exact ⟨by omega, h.1, ih h.2⟩
      · rw [InB_cons]; exact ⟨h.1, ih h.2⟩
theorem bytesOf_quoteV (s : ByteArray) : bytesOf (quoteV s) = 34 :: quoteL (bytesOf s) ++ [34] := by
  unfold quoteV
  refine bytesOf_strOf ?_
  rw [InB_append, InB_cons]
  exact ⟨⟨by omega, InB_quoteL (InB_bytes s)⟩, by intro x hx; simp at hx; omega⟩
theorem unqL_quoteL (l t : List Int) : unqL (quoteL l ++ t) = (l ++ (unqL t).1, (unqL t).2) := by
  induction l with
  | nil => simp [quoteL]
  | cons b r ih =>
    unfold quoteL
    by_cases h1 : b = 34
    · rw [if_pos h1, List.cons_append, List.cons_append, unqL_esc, ih]; rfl
    · by_cases h2 : b = 92
      · rw [if_neg h1, if_pos h2, List.cons_append, List.cons_append, unqL_esc, ih]; rfl
      · rw [if_neg h1, if_neg h2, List.cons_append, unqL_other _ b h1 h2, ih]; rfl
theorem unq_quote (s : ByteArray) : unqV (quoteV s) = (s, true) := by
  unfold unqV
  rw [bytesOf_quoteV]
  have e : (34 :: quoteL (bytesOf s) ++ [34]).tail = quoteL (bytesOf s) ++ [34] := rfl
  have e2 : (34 :: quoteL (bytesOf s) ++ [34]).head? = some 34 := rfl
  rw [e, e2, unqL_quoteL, unqL_quote]
  simp [strOf_bytesOf]
theorem hasQuote (s : ByteArray) (hs : s.size ≤ 140737488351232) : strings_HasPrefix.f s (⟨#[34]⟩ : ByteArray) = some (decide ((bytesOf s).head? = some 34)) := by
  unfold strings_HasPrefix.f stringslite_HasPrefix.f
  have e : ((⟨#[34]⟩ : ByteArray).size : Int) = 1 := rfl
  rw [e]
  match h : bytesOf s with
  | [] =>
    have hz := size_bytes s
    rw [h] at hz
    simp only [List.length_nil] at hz
    rw [if_neg (by omega)]; rfl
  | b :: r =>
    have hz := size_bytes s
    rw [h] at hz
    simp only [List.length_cons] at hz
    rw [if_pos (by omega), if_pos (by omega), if_pos (by omega), Option.bind_some]
    congr 1
    rw [Bool.eq_iff_iff, beq_iff_eq, decide_eq_true_iff, toList_iff]
    have e2 : bytesOf (s.extract 0 ((1 : Int) : Int).toNat) = [b] := by
      rw [bytesOf_extract, h]; rfl
    have e3 : bytesOf (⟨#[34]⟩ : ByteArray) = [34] := by decide
    constructor
    · intro hh
      rw [hh, e3] at e2
      injection e2 with e2
      simp [← e2]
    · intro hh
      apply bytesOf_inj
      rw [e2, e3]
      simp at hh
      rw [hh]
theorem impl_Unq_end (s : ByteArray) (hs : s.size ≤ 140737488351232) (f : Int) (pre acc rest : List Int) (h : bytesOf s = f :: (pre ++ rest)) (hq : rest = [] ∨ ∃ r, rest = 34 :: r) :
    Ev (fun k => impl_UnquoteText.j1 k s acc (((f :: pre).length : Nat) : Int) false) (unqR f acc rest) := by
  have hz := size_mid (pre := f :: pre) (rest := rest) h
  simp only [List.length_cons] at hz
  refine Ev.step (f := fun _ => some (unqR f acc rest)) (fun k => ?_) (Ev.now _)
  simp only [impl_UnquoteText.j1]
  rw [if_neg (by simp), hasQuote s hs, Option.bind_some, h]
  simp only [List.head?_cons, Option.some.injEq, decide_eq_true_eq]
  rcases hq with rfl | ⟨r, rfl⟩
  · simp only [List.length_nil] at hz
    rw [unqR_nil]
    split
    · congr 2
      rw [wrap_id (by omega) (by omega), beq_eq_false_iff_ne]
      simp only [List.length_cons]
      omega
    · rfl
  · simp only [List.length_cons] at hz
    rw [unqR_quote]
    split
    · rename_i hf
      congr 2
      rw [wrap_id (by omega) (by omega), Bool.eq_iff_iff, beq_iff_eq, decide_eq_true_iff]
      simp only [List.length_cons, hf, true_and]
      omega
    · rename_i hf
      simp [hf]
theorem impl_Unq_loop (s : ByteArray) (hs : s.size ≤ 140737488351232) (f : Int) (n : Nat) : ∀ (pre acc rest : List Int), rest.length ≤ n → bytesOf s = f :: (pre ++ rest) → acc.length ≤ pre.length →
    Ev (fun k => impl_UnquoteText.l0 k s acc (((f :: pre).length : Nat) : Int)) (unqR f acc rest) := by
  induction n with
  | zero =>
    intro pre acc rest hr h ha
    obtain rfl : rest = [] := List.eq_nil_of_length_eq_zero (by omega)
    have hz := size_mid (pre := f :: pre) (rest := []) h
    simp only [List.length_nil, List.length_cons] at hz
    refine Ev.step (f := fun k => impl_UnquoteText.j1 k s acc (((f :: pre).length : Nat) : Int) false) (fun k => ?_) (impl_Unq_end s hs f pre acc [] h (.inl rfl))
    simp only [impl_UnquoteText.l0, List.length_cons]
    rw [if_neg (by omega)]
  | succ n ih =>
    intro pre acc rest hr h ha
    match rest, hr with
    | [], _ => exact ih pre acc [] (by simp) h ha
    | b :: rest, hr =>
      have hz := size_mid (pre := f :: pre) (rest := b :: rest) h
      simp only [List.length_cons] at hz hr
      have hb := bt_mid (pre := f :: pre) (rest := rest) h
      have hw := len_step (f :: pre) b (by simp; omega)
      refine Ev.step (f := fun k => impl_UnquoteText.j1 k s acc (((f :: pre).length : Nat) : Int) (b != 34)) (fun k => ?_) ?_
      · simp only [impl_UnquoteText.l0]
        rw [if_pos (by simp; omega), if_pos (by omega), hb]
      by_cases h1 : b = 34
      · subst h1
        exact impl_Unq_end s hs f pre acc (34 :: rest) h (.inr ⟨rest, rfl⟩)
      · have hbn : (b != 34) = true := bne_iff_ne.mpr h1
        rw [hbn]
        by_cases h2 : b = 92
        · subst h2
          match rest, h, hz, hr, hb with
          | [], h, hz, hr, hb =>
            simp only [List.length_nil] at hz
            rw [unqR_last]
            have e := ih (pre ++ [92]) (acc ++ [92]) [] (by simp) (by simpa using h) (by simp; omega)
            rw [unqR_nil] at e
            refine Ev.step (f := fun k => impl_UnquoteText.l0 k s (acc ++ [92]) ((((f :: (pre ++ [92])).length : Nat)) : Int)) (fun k => ?_) e
            simp only [impl_UnquoteText.j1]
            rw [if_pos trivial, if_pos (by omega), if_pos (by simp; omega), hb, if_pos rfl, hw, if_neg (by simp; omega), if_pos (by omega)]
            rfl
          | c :: rest, h, hz, hr, hb =>
            simp only [List.length_cons] at hz hr
            have hc := bt_mid (s := s) (pre := (f :: pre) ++ [92]) (rest := rest) (b := c) (by simpa using h)
            have hw2 := len_step ((f :: pre) ++ [92]) c (by simp; omega)
            rw [unqR_esc]
            have e := ih (pre ++ [92, c]) (acc ++ [c]) rest (by omega) (by simpa using h) (by simp; omega)
            refine Ev.step (f := fun k => impl_UnquoteText.l0 k s (acc ++ [c]) ((((f :: (pre ++ [92, c])).length : Nat)) : Int)) (fun k => ?_) e
            simp only [impl_UnquoteText.j1]
            rw [if_pos trivial, if_pos (by omega), if_pos (by simp; omega), hb, if_pos rfl, hw, if_pos (by simp; omega), if_pos (by omega), if_pos (by omega), hc, hw2]
            simp
        · rw [unqR_other f acc rest b h1 h2]
          have e := ih (pre ++ [b]) (acc ++ [b]) rest (by omega) (by simpa using h) (by simp; omega)
          refine Ev.step (f := fun k => impl_UnquoteText.l0 k s (acc ++ [b]) ((((f :: (pre ++ [b])).length : Nat)) : Int)) (fun k => ?_) e
          simp only [impl_UnquoteText.j1]
          rw [if_pos trivial, if_pos (by omega), if_pos (by simp; omega), hb, if_neg h2, if_pos (by omega), hw]
          rfl
theorem impl_Unq_ev (s : ByteArray) (hs : s.size ≤ 140737488351232) : Ev (fun k => impl_UnquoteText.f k s) (unqV s) := by
  unfold impl_UnquoteText.f unqV
  match h : bytesOf s with
  | [] =>
    have hz := size_bytes s
    rw [h] at hz
    simp only [List.length_nil] at hz
    refine Ev.step (f := fun k => impl_UnquoteText.j1 k s [] 1 false) (fun k => ?_) (Ev.step (f := fun _ => some (strOfNums [], false)) (fun k => ?_) (by simpa [unqL_nil] using Ev.now _))
    · simp only [impl_UnquoteText.l0]
      rw [if_neg (by omega)]
    · simp only [impl_UnquoteText.j1]
      rw [if_neg (by simp), hasQuote s hs, Option.bind_some, h]
      simp
  | f :: rest =>
    have := impl_Unq_loop s hs f rest.length [] [] rest (Nat.le_refl _) h (by simp)
    simpa [unqR] using this
theorem impl_Quote_loop (s : ByteArray) (hs : s.size ≤ 140737488351232 / 4) (rest : List Int) : ∀ (pre acc : List Int), bytesOf s = pre ++ rest → acc.length ≤ 1 + 2 * pre.length →
    Ev (fun k => impl_QuoteText.l0 k s acc (s.size : Int) (pre.length : Int)) (strOfNums (acc ++ quoteL rest ++ [34])) := by
  induction rest with
  | nil =>
    intro pre acc h ha
    have hz := size_mid h
    simp only [List.length_nil] at hz
    refine Ev.step (f := fun _ => some (strOfNums (acc ++ quoteL [] ++ [34]))) (fun k => ?_) (Ev.now _)
    simp only [impl_QuoteText.l0]
    rw [if_neg (by omega), if_pos (by omega)]; simp [quoteL]
  | cons b rest ih =>
    intro pre acc h ha
    have hz := size_mid h
    simp only [List.length_cons] at hz
    have hst := mid_step h
    have hb := bt_mid h
    have hw := len_step pre b (by omega)
    by_cases h1 : b = 34
    · refine Ev.step (f := fun k => impl_QuoteText.l0 k s (acc ++ [92] ++ [b]) (s.size : Int) ((pre ++ [b]).length : Int)) (fun k => ?_) ?_
      · simp only [impl_QuoteText.l0]
        rw [if_pos (by omega), if_pos (by omega), if_pos (by omega), hb, if_pos h1, if_pos (by omega), Option.bind_some, if_pos (by simp; omega), hw]
      · have := ih (pre ++ [b]) (acc ++ [92] ++ [b]) hst (by simp; omega)
        simpa [quoteL, h1] using this
    · by_cases h2 : b = 92
      · refine Ev.step (f := fun k => impl_QuoteText.l0 k s (acc ++ [92] ++ [b]) (s.size : Int) ((pre ++ [b]).length : Int)) (fun k => ?_) ?_
        · simp only [impl_QuoteText.l0]
          rw [if_pos (by omega), if_pos (by omega), if_pos (by omega), hb, if_neg h1, if_pos h2, if_pos (by omega), Option.bind_some, if_pos (by simp; omega), hw]
        · have := ih (pre ++ [b]) (acc ++ [92] ++ [b]) hst (by simp; omega)
          simpa [quoteL, h2] using this
      · refine Ev.step (f := fun k => impl_QuoteText.l0 k s (acc ++ [b]) (s.size : Int) ((pre ++ [b]).length : Int)) (fun k => ?_) ?_
        · simp only [impl_QuoteText.l0]
          rw [if_pos (by omega), if_pos (by omega), if_pos (by omega), hb, if_neg h1, if_neg h2, if_pos (by omega), hw]
        · have := ih (pre ++ [b]) (acc ++ [b]) hst (by simp; omega)
          simpa [quoteL, h1, h2] using this
theorem impl_Quote_ev (s : ByteArray) (hs : s.size ≤ 140737488351232 / 4) : Ev (fun k => impl_QuoteText.f k s) (quoteV s) := by
  have := impl_Quote_loop s hs (bytesOf s) [] [34] rfl (by simp)
  simpa [impl_QuoteText.f, quoteV] using this
def rdropI (p : Int → Bool) : List Int → List Int
  | [] => []
  | b :: r => if rdropI p r = [] ∧ p b = true then [] else b :: rdropI p r
def trimP (p : Int → Bool) (l : List Int) : List Int := (rdropI p l).dropWhile p
def blankI (b : Int) : Bool := b == 32 || b == 9
theorem rdropI_concat (p : Int → Bool) (l : List Int) (b : Int) : rdropI p (l ++ [b]) = if p b = true then rdropI p l else l ++ [b] := by
  induction l with
  | nil => by_cases h : p b = true <;> simp [rdropI, h]
  | cons x r ih =>
    by_cases h : p b = true
    · rw [if_pos h] at ih ⊢
      simp only [List.cons_append, rdropI, ih]
    · rw [if_neg h] at ih ⊢
      simp only [List.cons_append, rdropI, ih]
      rw [if_neg (by simp)]
theorem rdropI_eq (p : Int → Bool) (l : List Int) : (l.reverse.dropWhile p).reverse = rdropI p l := by
  obtain ⟨n, hn⟩ : ∃ n, l.length = n := ⟨_, rfl⟩
  induction n generalizing l with
  | zero => obtain rfl := List.eq_nil_of_length_eq_zero hn; rfl
  | succ n ih =>
    rcases List.eq_nil_or_concat l with h | ⟨r, b, h⟩
    · subst h; rfl
    · subst h
      rw [List.concat_eq_append, rdropI_concat, List.reverse_append]
      simp only [List.reverse_cons, List.reverse_nil, List.nil_append, List.singleton_append, List.dropWhile_cons]
      by_cases hb : p b = true
      · rw [if_pos hb, if_pos hb]
        exact ih r (by simp at hn; omega)
      · rw [if_neg hb, if_neg hb]; simp
theorem rdropI_length (p : Int → Bool) (l : List Int) : (rdropI p l).length ≤ l.length := by
  induction l with
  | nil => simp [rdropI]
  | cons b r ih => unfold rdropI; split <;> simp only [List.length_nil, List.length_cons] <;> omega
theorem rdropI_all (p : Int → Bool) (l : List Int) : rdropI p l = [] ↔ ∀ x ∈ l, p x = true := by
  induction l with
  | nil => simp [rdropI]
  | cons b r ih =>
    unfold rdropI
    split
    · rename_i h
      simp only [List.mem_cons, forall_eq_or_imp, true_iff]
      exact ⟨h.2, ih.1 h.1⟩
    · rename_i h
      simp only [List.mem_cons, forall_eq_or_imp, reduceCtorEq, false_iff]
      exact fun g => h ⟨ih.2 g.2, g.1⟩
/-- It is all one which end goes first. -/
theorem drop_rdrop (p : Int → Bool) (l : List Int) : (rdropI p l).dropWhile p = rdropI p (l.dropWhile p) := by
  induction l with
  | nil => rfl
  | cons b r ih =>
    by_cases h : p b = true
    · rw [List.dropWhile_cons_of_pos h]
      by_cases g : rdropI p r = []
      · have e : rdropI p (b :: r) = [] := by unfold rdropI; rw [if_pos ⟨g, h⟩]
        rw [e, ← ih, g]
      · have e : rdropI p (b :: r) = b :: rdropI p r := by rw [rdropI, if_neg (fun z => g z.1)]
        rw [e, List.dropWhile_cons_of_pos h, ih]
    · have e : rdropI p (b :: r) = b :: rdropI p r := by rw [rdropI, if_neg (fun z => h z.2)]
      rw [e, List.dropWhile_cons_of_neg h, List.dropWhile_cons_of_neg h, e]
theorem trimP_length (p : Int → Bool) (l : List Int) : (trimP p l).length ≤ l.length :=
  Nat.le_trans (List.dropWhile_sublist p).length_le (rdropI_length p l)
theorem dropWhile_mem {p : Int → Bool} {l : List Int} {x : Int} (h : x ∈ l.dropWhile p) : x ∈ l := (List.dropWhile_sublist p).subset h
theorem rdropI_mem {p : Int → Bool} {l : List Int} {x : Int} (h : x ∈ rdropI p l) : x ∈ l := by
  rw [← rdropI_eq] at h
  have := dropWhile_mem (List.mem_reverse.1 h)
  exact List.mem_reverse.1 this
theorem trimP_mem {p : Int → Bool} {l : List Int} {x : Int} (h : x ∈ trimP p l) : x ∈ l := rdropI_mem (dropWhile_mem h)
theorem InB_trim {p : Int → Bool} {l : List Int} (h : InB l) : InB (trimP p l) := fun x hx => h x (trimP_mem hx)
theorem rdropI_nil_cons {p : Int → Bool} {l : List Int} : rdropI p (rdropI p l) = rdropI p l := by
  induction l with
  | nil => rfl
  | cons b r ih =>
    by_cases g : rdropI p r = [] ∧ p b = true
    · have e : rdropI p (b :: r) = [] := by rw [rdropI, if_pos g]
      rw [e]; rfl
    · have e : rdropI p (b :: r) = b :: rdropI p r := by rw [rdropI, if_neg g]
      rw [e, rdropI, ih, if_neg g]
theorem dropWhile_idem (p : Int → Bool) (l : List Int) : (l.dropWhile p).dropWhile p = l.dropWhile p := by
  induction l with
  | nil => rfl
  | cons b r ih =>
    by_cases h : p b = true
    · rw [List.dropWhile_cons_of_pos h, ih]
    · rw [List.dropWhile_cons_of_neg h, List.dropWhile_cons_of_neg h]
theorem trimP_idem (p : Int → Bool) (l : List Int) : trimP p (trimP p l) = trimP p l := by
  unfold trimP
  rw [drop_rdrop p (List.dropWhile p (rdropI p l)), dropWhile_idem, ← drop_rdrop, rdropI_nil_cons]
def trimV (s : ByteArray) : ByteArray := strOfNums (trimP blankI (bytesOf s))
theorem bytesOf_trimV (s : ByteArray) : bytesOf (trimV s) = trimP blankI (bytesOf s) := bytesOf_strOf (InB_trim (InB_bytes s))
theorem trimV_size (s : ByteArray) : (trimV s).size ≤ s.size := by
  rw [← bytesOf_length, ← bytesOf_length, bytesOf_trimV]; exact trimP_length _ _
/-! ### A text divided at commas outside quoted strings -/
def cutL (q : Bool) (cur l : List Int) : List (List Int) :=
  match l with
  | [] => [cur]
  | b :: r =>
    if q = true ∧ b = 92 then (match r with
      | [] => [cur ++ [b]]
      | c :: r' => cutL q (cur ++ [b, c]) r')
    else if b = 34 then cutL (!q) (cur ++ [b]) r
    else if q = false ∧ b = 44 then cur :: cutL false [] r
    else cutL q (cur ++ [b]) r
termination_by l.length
decreasing_by all_goals simp only [List.length_cons]; omega
theorem cutL_nil (q : Bool) (cur : List Int) : cutL q cur [] = [cur] := by unfold cutL; rfl
theorem cutL_last (cur : List Int) : cutL true cur [92] = [cur ++ [92]] := by unfold cutL; simp
theorem cutL_esc (cur : List Int) (c : Int) (r : List Int) : cutL true cur (92 :: c :: r) = cutL true (cur ++ [92, c]) r := by rw [cutL.eq_def]; simp
theorem cutL_quote (q : Bool) (cur r : List Int) : cutL q cur (34 :: r) = cutL (!q) (cur ++ [34]) r := by rw [cutL.eq_def]; simp
theorem cutL_comma (cur r : List Int) : cutL false cur (44 :: r) = cur :: cutL false [] r := by rw [cutL.eq_def]; simp
theorem cutL_other (q : Bool) (cur r : List Int) (b : Int) (h1 : ¬ (q = true ∧ b = 92)) (h2 : b ≠ 34) (h3 : ¬ (q = false ∧ b = 44)) : cutL q cur (b :: r) = cutL q (cur ++ [b]) r := by
  rw [cutL.eq_def]
  simp only
  rw [if_neg h1, if_neg h2, if_neg h3]
/-- One way through a text at a time: what the five cases of cutL are good for. -/
theorem cut_cases {p : Bool → List Int → Prop} (hnil : ∀ q, p q []) (hlast : p true [92]) (hesc : ∀ c r, p true r → p true (92 :: c :: r)) (hquote : ∀ q r, p (!q) r → p q (34 :: r)) (hcomma : ∀ r, p false r → p false (44 :: r))
    (hother : ∀ q b r, ¬ (q = true ∧ b = 92) → b ≠ 34 → ¬ (q = false ∧ b = 44) → p q r → p q (b :: r)) : ∀ (n : Nat) (q : Bool) (l : List Int), l.length ≤ n → p q l := by
  intro n
  induction n with
  | zero => intro q l h; obtain rfl : l = [] := List.eq_nil_of_length_eq_zero (by omega); exact hnil q
  | succ n ih =>
    intro q l h
    match l, h with
    | [], _ => exact hnil q
    | b :: r, h =>
      simp only [List.length_cons] at h
      by_cases h1 : q = true ∧ b = 92
      · obtain ⟨rfl, rfl⟩ := h1
        match r, h with
        | [], _ => exact hlast
        | c :: r', h => exact hesc c r' (ih true r' (by simp only [List.length_cons] at h; omega))
      · by_cases h2 : b = 34
        · subst h2; exact hquote q r (ih _ r (by omega))
        · by_cases h3 : q = false ∧ b = 44
          · obtain ⟨rfl, rfl⟩ := h3; exact hcomma r (ih _ r (by omega))
          · exact hother q b r h1 h2 h3 (ih q r (by omega))
theorem cut_ind {p : Bool → List Int → Prop} (hnil : ∀ q, p q []) (hlast : p true [92]) (hesc : ∀ c r, p true r → p true (92 :: c :: r)) (hquote : ∀ q r, p (!q) r → p q (34 :: r)) (hcomma : ∀ r, p false r → p false (44 :: r))
    (hother : ∀ q b r, ¬ (q = true ∧ b = 92) → b ≠ 34 → ¬ (q = false ∧ b = 44) → p q r → p q (b :: r)) (q : Bool) (l : List Int) : p q l := cut_cases hnil hlast hesc hquote hcomma hother l.length q l (Nat.le_refl _)
def splitL (l : List Int) : List (List Int) := ((cutL false [] l).map (trimP blankI)).filter (fun x => decide (x ≠ []))
def splitV (s : ByteArray) : List ByteArray := (splitL (bytesOf s)).map strOfNums
theorem cutL_mem (q : Bool) (l : List Int) : ∀ (cur : List Int) (S : Int → Prop), (∀ x ∈ cur, S x) → (∀ x ∈ l, S x) → ∀ m ∈ cutL q cur l, ∀ x ∈ m, S x := by
  refine cut_ind (p := fun q l => ∀ (cur : List Int) (S : Int → Prop), (∀ x ∈ cur, S x) → (∀ x ∈ l, S x) → ∀ m ∈ cutL q cur l, ∀ x ∈ m, S x) ?_ ?_ ?_ ?_ ?_ ?_ q l
  · intro q cur S h0 h1 m hm; rw [cutL_nil] at hm; simp at hm; subst hm; exact h0
  · intro cur S h0 h1 m hm; rw [cutL_last] at hm; simp at hm; subst hm
    intro x hx; rcases List.mem_append.1 hx with g | g
    · exact h0 x g
    · exact h1 x g
  · intro c r ih cur S h0 h1 m hm
    rw [cutL_esc] at hm
    exact ih _ S (by intro x hx; rcases List.mem_append.1 hx with g | g
                     · exact h0 x g
                     · refine h1 x ?_; simp at g ⊢; rcases g with g | g <;> simp [g]) (fun x hx => h1 x (by simp [hx])) m hm
  · intro q r ih cur S h0 h1 m hm
    rw [cutL_quote] at hm
    exact ih _ S (by intro x hx; rcases List.mem_append.1 hx with g | g
                     · exact h0 x g
                     · exact h1 x (by simp at g; simp [g])) (fun x hx => h1 x (by simp [hx])) m hm
  · intro r ih cur S h0 h1 m hm
    rw [cutL_comma] at hm
    rcases List.mem_cons.1 hm with g | g
    · subst g; exact h0
    · exact ih [] S (by simp) (fun x hx => h1 x (by simp [hx])) m g
  · intro q b r g1 g2 g3 ih cur S h0 h1 m hm
    rw [cutL_other q cur r b g1 g2 g3] at hm
    exact ih _ S (by intro x hx; rcases List.mem_append.1 hx with g | g
                     · exact h0 x g
                     · exact h1 x (by simp at g; simp [g])) (fun x hx => h1 x (by simp [hx])) m hm
theorem cutL_total (q : Bool) (l : List Int) : ∀ cur : List Int, (cutL q cur l).length + ((cutL q cur l).map List.length).sum ≤ cur.length + l.length + 1 := by
  refine cut_ind (p := fun q l => ∀ cur : List Int, (cutL q cur l).length + ((cutL q cur l).map List.length).sum ≤ cur.length + l.length + 1) ?_ ?_ ?_ ?_ ?_ ?_ q l
  · intro q cur; rw [cutL_nil]; simp; omega
  · intro cur; rw [cutL_last]; simp; omega
  · intro c r ih cur; rw [cutL_esc]; have := ih (cur ++ [92, c]); simp only [List.length_append, List.length_cons, List.length_nil] at this ⊢; omega
  · intro q r ih cur; rw [cutL_quote]; have := ih (cur ++ [34]); simp only [List.length_append, List.length_cons, List.length_nil] at this ⊢; omega
  · intro r ih cur; rw [cutL_comma]; have := ih []; simp only [List.length_cons, List.length_nil, List.map_cons, List.sum_cons] at this ⊢; omega
  · intro q b r g1 g2 g3 ih cur; rw [cutL_other q cur r b g1 g2 g3]; have := ih (cur ++ [b]); simp only [List.length_append, List.length_cons, List.length_nil] at this ⊢; omega
theorem cutL_prepend (q : Bool) (l : List Int) : ∀ c1 c2 : List Int, ∃ h t, cutL q c2 l = h :: t ∧ cutL q (c1 ++ c2) l = (c1 ++ h) :: t := by
  refine cut_ind (p := fun q l => ∀ c1 c2 : List Int, ∃ h t, cutL q c2 l = h :: t ∧ cutL q (c1 ++ c2) l = (c1 ++ h) :: t) ?_ ?_ ?_ ?_ ?_ ?_ q l
  · intro q c1 c2; exact ⟨c2, [], by rw [cutL_nil], by rw [cutL_nil]⟩
  · intro c1 c2; exact ⟨c2 ++ [92], [], by rw [cutL_last], by rw [cutL_last]; simp⟩
  · intro c r ih c1 c2; rw [cutL_esc, cutL_esc, List.append_assoc]; exact ih c1 _
  · intro q r ih c1 c2; rw [cutL_quote, cutL_quote, List.append_assoc]; exact ih c1 _
  · intro r ih c1 c2; rw [cutL_comma, cutL_comma]; exact ⟨c2, _, rfl, rfl⟩
  · intro q b r g1 g2 g3 ih c1 c2; rw [cutL_other q _ r b g1 g2 g3, cutL_other q _ r b g1 g2 g3, List.append_assoc]; exact ih c1 _
theorem splitL_mem {l m : List Int} (h : m ∈ splitL l) : m ≠ [] ∧ trimP blankI m = m ∧ ∃ x, x ∈ cutL false [] l ∧ m = trimP blankI x := by
  unfold splitL at h
  obtain ⟨h1, h2⟩ := List.mem_filter.1 h
  obtain ⟨x, hx, rfl⟩ := List.mem_map.1 h1
  exact ⟨of_decide_eq_true h2, trimP_idem _ _, x, hx, rfl⟩
theorem InB_split {l : List Int} (hl : InB l) : ∀ m ∈ splitL l, InB m := by
  intro m hm
  obtain ⟨_, _, x, hx, rfl⟩ := splitL_mem hm
  exact InB_trim (cutL_mem false l [] (fun x => 0 ≤ x ∧ x ≤ 255) (by simp) hl x hx)
theorem splitL_total (l : List Int) : (splitL l).length + ((splitL l).map List.length).sum ≤ l.length + 1 := by
  have h := cutL_total false l []
  unfold splitL
  have aux : ∀ L : List (List Int), ((L.map (trimP blankI)).filter (fun x => decide (x ≠ []))).length + (((L.map (trimP blankI)).filter (fun x => decide (x ≠ []))).map List.length).sum ≤ L.length + (L.map List.length).sum := by
    intro L
    induction L with
    | nil => simp
    | cons x r ih =>
      have := trimP_length blankI x
      simp only [List.map_cons, List.sum_cons, List.length_cons]
      by_cases g : trimP blankI x = []
      · rw [List.filter_cons_of_neg (by simp [g])]; omega
      · rw [List.filter_cons_of_pos (by simp [g])]; simp only [List.length_cons, List.map_cons, List.sum_cons]; omega
  have := aux (cutL false [] l)
  simp only [List.length_nil] at h
  omega
theorem ext_mid {s : ByteArray} {pre cur rest : List Int} (h : bytesOf s = pre ++ cur ++ rest) : s.extract pre.length (pre.length + cur.length) = strOfNums cur := by
  apply bytesOf_inj
  have hb : InB cur := by have := InB_bytes s; rw [h, InB_append, InB_append] at this; exact this.1.2
  rw [bytesOf_strOf hb, bytesOf_extract, h]
  rw [show pre.length + cur.length = (pre ++ cur).length by simp, List.take_left, List.drop_left]
theorem ext_end {s : ByteArray} {pre cur : List Int} (h : bytesOf s = pre ++ cur) : s.extract pre.length s.size = strOfNums cur := by
  have e := ext_mid (s := s) (pre := pre) (cur := cur) (rest := []) (by simpa using h)
  have : s.size = pre.length + cur.length := by rw [← bytesOf_length, h, List.length_append]
  rw [this]; exact e
/-- The parts, trimmed, without the empty ones. -/
def partsV (m : List (List Int)) : List ByteArray := ((m.map (trimP blankI)).filter (fun x => decide (x ≠ []))).map strOfNums
theorem splitV_parts (s : ByteArray) : splitV s = partsV (cutL false [] (bytesOf s)) := rfl
theorem rdS_mid2 {l pre rest : List ByteArray} {x : ByteArray} (h : l = pre ++ x :: rest) : rdOf ByteArray.empty l (pre.length : Int) = x := getD_mid h
theorem partsV_nil : partsV [] = [] := rfl
theorem partsV_cons (x : List Int) (m : List (List Int)) : partsV (x :: m) = (if trimP blankI x = [] then [] else [strOfNums (trimP blankI x)]) ++ partsV m := by
  unfold partsV
  by_cases h : trimP blankI x = []
  · simp [h]
  · simp [h]
theorem partsV_append (a b : List (List Int)) : partsV (a ++ b) = partsV a ++ partsV b := by unfold partsV; simp
theorem partsV_len (m : List (List Int)) : (partsV m).length ≤ m.length := by
  unfold partsV
  rw [List.length_map]
  exact Nat.le_trans (List.length_filter_le _ _) (by simp)
theorem trimV_of {x : List Int} (h : InB x) : trimV (strOfNums x) = strOfNums (trimP blankI x) := by unfold trimV; rw [bytesOf_strOf h]
theorem strOf_nil {x : List Int} : (strOfNums x).toList = ([] : List UInt8) ↔ x = [] := by
  have e : ([] : List UInt8) = (⟨#[]⟩ : ByteArray).toList := by rw [ByteArray.toList_eq]
  rw [e, toList_iff]
  constructor
  · intro h
    have : (strOfNums x).size = 0 := by rw [h]; rfl
    rw [strOfNums_size] at this
    exact List.eq_nil_of_length_eq_zero this
  · rintro rfl; rfl
theorem mem_len_le {L : List (List Int)} {m : List Int} (h : m ∈ L) : m.length ≤ (L.map List.length).sum := by
  induction L with
  | nil => simp at h
  | cons x r ih =>
    simp only [List.map_cons, List.sum_cons]
    rcases List.mem_cons.1 h with g | g
    · subst g; omega
    · have := ih g; omega
theorem split_sizes (s : ByteArray) : ∀ t ∈ splitV s, t.size ≤ s.size + 1 := by
  intro t ht
  unfold splitV at ht
  obtain ⟨m, hm, rfl⟩ := List.mem_map.1 ht
  have h1 := splitL_total (bytesOf s)
  have h2 := mem_len_le hm
  rw [bytesOf_length] at h1
  rw [strOfNums_size]; omega
theorem split_count (s : ByteArray) : (splitV s).length ≤ s.size + 1 := by
  have := splitL_total (bytesOf s)
  rw [bytesOf_length] at this
  unfold splitV
  rw [List.length_map]; omega
theorem bytesOf_mk (l : List UInt8) : bytesOf ⟨l.toArray⟩ = l.map fun b => (b.toNat : Int) := rfl
theorem mk_of_bytes {l : List UInt8} {m : List Int} (h : (l.map fun b => (b.toNat : Int)) = m) : (⟨l.toArray⟩ : ByteArray) = strOfNums m := by
  apply bytesOf_inj
  rw [bytesOf_mk, h, bytesOf_strOf]
  subst h
  exact InB_bytes ⟨l.toArray⟩
theorem trimLeftS_map (l cs : List UInt8) : ((Lib.trimLeftS l cs).map fun b => (b.toNat : Int)) = (l.map fun b => (b.toNat : Int)).dropWhile (fun x => (cs.map fun b => (b.toNat : Int)).contains x) := by
  unfold Lib.trimLeftS
  induction l with
  | nil => rfl
  | cons b r ih =>
    have e : ((cs.map fun b => (b.toNat : Int)).contains (b.toNat : Int)) = cs.contains b := by
      rw [Bool.eq_iff_iff, List.contains_iff_mem, List.contains_iff_mem, List.mem_map]
      constructor
      · rintro ⟨c, hc, hcb⟩
        have : c = b := UInt8.toNat_inj.1 (by omega)
        exact this ▸ hc
      · exact fun h => ⟨b, h, rfl⟩
    simp only [List.dropWhile_cons, List.map_cons, e]
    split
    · exact ih
    · rfl
theorem trimS_map (l cs : List UInt8) : ((Lib.trimS l cs).map fun b => (b.toNat : Int)) = trimP (fun x => (cs.map fun b => (b.toNat : Int)).contains x) (l.map fun b => (b.toNat : Int)) := by
  have e : ((Lib.trimRightS l cs).map fun b => (b.toNat : Int)) = rdropI (fun x => (cs.map fun b => (b.toNat : Int)).contains x) (l.map fun b => (b.toNat : Int)) := by
    rw [← rdropI_eq, ← List.map_reverse, ← trimLeftS_map, ← List.map_reverse]
    rfl
  unfold Lib.trimS trimP
  rw [trimLeftS_map, e]
theorem strings_Trim_eq (s cs : ByteArray) (hs : s.size ≤ 4611686018427387904) (hc : cs.size < 4294967281) (ha : cs.data.toList.all (fun b => decide (b.toNat < 128)) = true) :
    strings_Trim.f s cs = some (strOfNums (trimP (fun x => (bytesOf cs).contains x) (bytesOf s))) := by
  unfold strings_Trim.f
  rw [if_pos ⟨hs, hc, ha⟩, mk_of_bytes (trimS_map _ _)]
  rfl
theorem impl_Trim_eq (s : ByteArray) (hs : s.size ≤ 4611686018427387904) : impl_TrimText.f s = some (trimV s) := by
  unfold impl_TrimText.f
  rw [strings_Trim_eq s ⟨#[32, 9]⟩ hs (by decide) (by decide), Option.bind_some]
  unfold trimV
  congr 3
  funext x
  have e : bytesOf ⟨#[32, 9]⟩ = [32, 9] := by decide
  rw [e]
  unfold blankI
  by_cases h : x = 32 <;> by_cases g : x = 9 <;> simp [h, g]
theorem mn_min (a b : Int) : mn a b = min a b := by unfold mn; split <;> omega
theorem impl_Split_loop (s : ByteArray) (hs : s.size ≤ 1099511627776) (q : Bool) (rest : List Int) : ∀ (done cur : List Int) (acc : List ByteArray), bytesOf s = done ++ cur ++ rest → acc.length ≤ done.length →
    Ev (fun k => impl_SplitList.l0 k s acc (done.length : Int) q ((done ++ cur).length : Int)) (acc ++ partsV (cutL q cur rest)) := by
  have hin : ∀ {pre cur rest : List Int}, bytesOf s = pre ++ cur ++ rest → InB cur := by
    intro pre cur rest h
    have := InB_bytes s; rw [h, InB_append, InB_append] at this; exact this.1.2
  have trim1 : ∀ {pre cur rest : List Int}, bytesOf s = pre ++ cur ++ rest → impl_TrimText.f (s.extract pre.length (pre.length + cur.length)) = some (strOfNums (trimP blankI cur)) := by
    intro pre cur rest h
    have hz : (s.extract pre.length (pre.length + cur.length)).size ≤ s.size := by rw [ByteArray.size_extract]; omega
    rw [impl_Trim_eq _ (by omega), ext_mid h, trimV_of (hin h)]
  have facts : ∀ {done cur rest : List Int} {b : Int}, bytesOf s = done ++ cur ++ b :: rest → ((done ++ cur).length : Int) < (s.size : Int) ∧ bt s ((done ++ cur).length : Int) = b ∧ wrap64 (((done ++ cur).length : Int) + 1) = ((done ++ (cur ++ [b])).length : Int) ∧ (s.size : Int) = (done ++ cur).length + (rest.length + 1) := by
    intro done cur rest b h
    have hz := size_mid h
    simp only [List.length_cons] at hz
    refine ⟨by omega, bt_mid h, ?_, by omega⟩
    have := len_step (done ++ cur) b (by omega)
    rw [this, List.append_assoc]
  have over : ∀ (q : Bool) (done : List Int) (acc : List ByteArray) (i : Int), (s.size : Int) < i → (s.size : Int) ≤ done.length → Ev (fun k => impl_SplitList.l0 k s acc (done.length : Int) q i) acc := by
    intro q done acc i hi hd
    refine Ev.step (f := fun _ => some acc) (fun k => ?_) (Ev.now _)
    simp only [impl_SplitList.l0]
    rw [if_neg (by omega), if_neg (by omega)]
  refine cut_ind (p := fun q rest => ∀ (done cur : List Int) (acc : List ByteArray), bytesOf s = done ++ cur ++ rest → acc.length ≤ done.length → Ev (fun k => impl_SplitList.l0 k s acc (done.length : Int) q ((done ++ cur).length : Int)) (acc ++ partsV (cutL q cur rest))) ?_ ?_ ?_ ?_ ?_ ?_ q rest
  · intro q done cur acc h ha
    rw [cutL_nil]
    have hz := size_mid h
    simp only [List.length_nil] at hz
    have hL : (done ++ cur).length = done.length + cur.length := List.length_append
    have hw : wrap64 (((done ++ cur).length : Int) + 1) = ((done ++ cur ++ [0]).length : Int) := len_step (done ++ cur) 0 (by omega)
    have hn1 : ((done.length : Int)).toNat = done.length := by omega
    have hn2 : (((done ++ cur).length : Int)).toNat = done.length + cur.length := by simp only [List.length_append]; omega
    have hm : mn ((done ++ cur).length : Int) (s.size : Int) = ((done ++ cur).length : Int) := by rw [mn_min]; omega
    rw [partsV_cons, partsV_nil, List.append_nil]
    refine Ev.step (f := fun k => impl_SplitList.j1 k s acc (done.length : Int) q ((done ++ cur).length : Int) false) (fun k => ?_) ?_
    · simp only [impl_SplitList.l0]
      rw [if_pos (by omega), if_neg (by omega)]
    · by_cases g : trimP blankI cur = []
      · rw [if_pos g, List.append_nil]
        refine Ev.step (f := fun k => impl_SplitList.l0 k s acc ((done ++ cur ++ [0]).length : Int) q ((done ++ cur ++ [0]).length : Int)) (fun k => ?_) (over q (done ++ cur ++ [0]) acc _ (by simp at hz ⊢; omega) (by simp at hz ⊢; omega))
        simp only [impl_SplitList.j1]
        rw [if_neg (by simp), if_pos (by omega), hm, if_pos (by omega), if_pos (by omega), hn1, hn2, trim1 h, Option.bind_some, if_pos (strOf_nil.mpr g), hw]
      · rw [if_neg g]
        refine Ev.step (f := fun k => impl_SplitList.l0 k s (acc ++ [strOfNums (trimP blankI cur)]) ((done ++ cur ++ [0]).length : Int) q ((done ++ cur ++ [0]).length : Int)) (fun k => ?_) (over q (done ++ cur ++ [0]) _ _ (by simp at hz ⊢; omega) (by simp at hz ⊢; omega))
        simp only [impl_SplitList.j1]
        rw [if_neg (by simp), if_pos (by omega), hm, if_pos (by omega), if_pos (by omega), hn1, hn2, trim1 h, Option.bind_some, if_neg (fun z => g (strOf_nil.mp z)), if_pos (by omega), hw]
  · intro done cur acc h ha
    obtain ⟨f1, f2, f3, f4⟩ := facts h
    rw [cutL_last]
    simp only [List.length_nil] at f4
    have hL : (done ++ cur).length = done.length + cur.length := List.length_append
    have e : wrap64 ((wrap64 (((done ++ cur).length : Int) + 1)) + 1) = (s.size : Int) + 1 := by
      rw [f3, wrap_id (by omega) (by simp at f4 ⊢; omega)]; simp at f4 ⊢; omega
    have h2 : bytesOf s = done ++ (cur ++ [92]) := by rw [h]; simp
    have hz2 : s.size = done.length + (cur ++ [92]).length := by rw [← bytesOf_length, h2, List.length_append]
    have hn1 : ((done.length : Int)).toNat = done.length := by omega
    have tr : impl_TrimText.f (s.extract done.length s.size) = some (strOfNums (trimP blankI (cur ++ [92]))) := by
      have := trim1 (pre := done) (cur := cur ++ [92]) (rest := []) (by simpa using h2)
      rwa [← hz2] at this
    refine Ev.step (f := fun k => impl_SplitList.j1 k s acc (done.length : Int) true ((done ++ cur).length : Int) true) (fun k => ?_) (Ev.step (f := fun k => impl_SplitList.j2 k s acc (done.length : Int) true ((done ++ cur).length : Int)) (fun k => ?_) (Ev.step (f := fun k => impl_SplitList.j3 k s acc (done.length : Int) true ((done ++ cur).length : Int) true) (fun k => ?_) (Ev.step (f := fun k => impl_SplitList.l0 k s acc (done.length : Int) true ((s.size : Int) + 1)) (fun k => ?_) (Ev.step (f := fun _ => some (acc ++ partsV [cur ++ [92]])) (fun k => ?_) (Ev.now _)))))
    · simp only [impl_SplitList.l0]
      rw [if_pos (by omega), if_pos f1, if_pos trivial]
    · simp only [impl_SplitList.j1]
      rw [if_pos trivial, if_pos (by omega), if_pos f1, if_neg (by rw [f2]; decide)]
    · simp only [impl_SplitList.j2]
      rw [if_pos trivial, if_pos (by omega), if_pos f1, f2]; rfl
    · simp only [impl_SplitList.j3]
      rw [if_pos trivial, e]
    · simp only [impl_SplitList.l0]
      rw [if_neg (by omega), if_pos (by omega), if_pos (by omega), if_pos (by omega), hn1, tr, Option.bind_some, partsV_cons, partsV_nil, List.append_nil]
      by_cases g : trimP blankI (cur ++ [92]) = []
      · rw [if_pos (strOf_nil.mpr g), if_pos g, List.append_nil]
      · rw [if_neg (fun z => g (strOf_nil.mp z)), if_neg g, if_pos (by omega)]
  · intro c r ih done cur acc h ha
    obtain ⟨f1, f2, f3, f4⟩ := facts h
    rw [cutL_esc]
    have n := ih done (cur ++ [92, c]) acc (by rw [h]; simp) ha
    have e : wrap64 ((wrap64 (((done ++ cur).length : Int) + 1)) + 1) = ((done ++ (cur ++ [92, c])).length : Int) := by
      rw [f3, wrap_id (by omega) (by simp at f4 ⊢; omega)]; simp; omega
    rw [← e] at n
    refine Ev.step (f := fun k => impl_SplitList.j1 k s acc (done.length : Int) true ((done ++ cur).length : Int) true) (fun k => ?_) (Ev.step (f := fun k => impl_SplitList.j2 k s acc (done.length : Int) true ((done ++ cur).length : Int)) (fun k => ?_) (Ev.step (f := fun k => impl_SplitList.j3 k s acc (done.length : Int) true ((done ++ cur).length : Int) true) (fun k => ?_) (Ev.step (fun k => ?_) n)))
    · simp only [impl_SplitList.l0]
      rw [if_pos (by omega), if_pos f1, if_pos trivial]
    · simp only [impl_SplitList.j1]
      rw [if_pos trivial, if_pos (by omega), if_pos f1, if_neg (by rw [f2]; decide)]
    · simp only [impl_SplitList.j2]
      rw [if_pos trivial, if_pos (by omega), if_pos f1, f2]; rfl
    · simp only [impl_SplitList.j3]
      rw [if_pos trivial]
  · intro q r ih done cur acc h ha
    obtain ⟨f1, f2, f3, f4⟩ := facts h
    rw [cutL_quote]
    have n := ih done (cur ++ [34]) acc (by rw [h]; simp) ha
    rw [← f3] at n
    refine Ev.step (f := fun k => impl_SplitList.j1 k s acc (done.length : Int) q ((done ++ cur).length : Int) true) (fun k => ?_) (Ev.step (f := fun k => impl_SplitList.j2 k s acc (done.length : Int) (!q) ((done ++ cur).length : Int)) (fun k => ?_) (Ev.step (f := fun k => impl_SplitList.j3 k s acc (done.length : Int) (!q) ((done ++ cur).length : Int) false) (fun k => ?_) (Ev.step (fun k => ?_) n)))
    · simp only [impl_SplitList.l0]
      rw [if_pos (by omega), if_pos f1]
      cases q
      · rw [if_neg (by simp), if_pos (by omega), f2]; rfl
      · rw [if_pos rfl]
    · simp only [impl_SplitList.j1]
      rw [if_pos trivial, if_pos (by omega), if_pos f1, if_pos f2]
    · simp only [impl_SplitList.j2]
      cases q
      · simp only [Bool.not_false]
        rw [if_pos trivial, if_pos (by omega), if_pos f1, f2]; rfl
      · simp
    · simp only [impl_SplitList.j3]
      rw [if_neg (by simp)]
  · intro r ih done cur acc h ha
    obtain ⟨f1, f2, f3, f4⟩ := facts h
    rw [cutL_comma]
    have hL : (done ++ cur).length = done.length + cur.length := List.length_append
    have hm : mn ((done ++ cur).length : Int) (s.size : Int) = ((done ++ cur).length : Int) := by rw [mn_min]; omega
    have hn1 : ((done.length : Int)).toNat = done.length := by omega
    have hn2 : (((done ++ cur).length : Int)).toNat = done.length + cur.length := by omega
    have tr := trim1 h
    rw [partsV_cons]
    refine Ev.step (f := fun k => impl_SplitList.j1 k s acc (done.length : Int) false ((done ++ cur).length : Int) false) (fun k => ?_) ?_
    · simp only [impl_SplitList.l0]
      rw [if_pos (by omega), if_pos f1, if_neg (by simp), if_pos (by omega), f2]; rfl
    · by_cases g : trimP blankI cur = []
      · rw [if_pos g, List.nil_append]
        have n := ih (done ++ (cur ++ [44])) [] acc (by rw [h]; simp) (by simp; omega)
        rw [List.append_nil, ← f3] at n
        refine Ev.step (fun k => ?_) n
        simp only [impl_SplitList.j1]
        rw [if_neg (by simp), if_pos (by omega), hm, if_pos (by omega), if_pos (by omega), hn1, hn2, tr, Option.bind_some, if_pos (strOf_nil.mpr g)]
      · rw [if_neg g]
        have n := ih (done ++ (cur ++ [44])) [] (acc ++ [strOfNums (trimP blankI cur)]) (by rw [h]; simp) (by simp; omega)
        rw [List.append_nil, ← f3, List.append_assoc] at n
        refine Ev.step (fun k => ?_) n
        simp only [impl_SplitList.j1]
        rw [if_neg (by simp), if_pos (by omega), hm, if_pos (by omega), if_pos (by omega), hn1, hn2, tr, Option.bind_some, if_neg (fun z => g (strOf_nil.mp z)), if_pos (by omega)]
  · intro q b r g1 g2 g3 ih done cur acc h ha
    obtain ⟨f1, f2, f3, f4⟩ := facts h
    rw [cutL_other q cur r b g1 g2 g3]
    have n := ih done (cur ++ [b]) acc (by rw [h]; simp) ha
    rw [← f3] at n
    refine Ev.step (f := fun k => impl_SplitList.j1 k s acc (done.length : Int) q ((done ++ cur).length : Int) true) (fun k => ?_) (Ev.step (f := fun k => impl_SplitList.j2 k s acc (done.length : Int) q ((done ++ cur).length : Int)) (fun k => ?_) (Ev.step (f := fun k => impl_SplitList.j3 k s acc (done.length : Int) q ((done ++ cur).length : Int) false) (fun k => ?_) (Ev.step (fun k => ?_) n)))
    · simp only [impl_SplitList.l0]
      rw [if_pos (by omega), if_pos f1]
      cases q
      · have : (b != 44) = true := bne_iff_ne.mpr (fun z => g3 ⟨rfl, z⟩)
        rw [if_neg (by simp), if_pos (by omega), f2, this]
      · rw [if_pos rfl]
    · simp only [impl_SplitList.j1]
      rw [if_pos trivial, if_pos (by omega), if_pos f1, if_neg (by rw [f2]; exact g2)]
    · simp only [impl_SplitList.j2]
      cases q
      · rfl
      · have : (b == 92) = false := beq_eq_false_iff_ne.mpr (fun z => g1 ⟨rfl, z⟩)
        rw [if_pos rfl, if_pos (by omega), if_pos f1, f2, this]
    · simp only [impl_SplitList.j3]
      rw [if_neg (by simp)]
theorem impl_Split_ev (s : ByteArray) (hs : s.size ≤ 1099511627776) : Ev (fun k => impl_SplitList.f k s) (splitV s) := by
  have := impl_Split_loop s hs false (bytesOf s) [] [] [] (by simp) (by simp)
  simpa [impl_SplitList.f, splitV_parts] using this
def totS : List ByteArray → Nat
  | [] => 0
  | x :: r => 1 + x.size + totS r
theorem totS_len (l : List ByteArray) : l.length ≤ totS l := by
  induction l with
  | nil => simp
  | cons x r ih => simp only [List.length_cons, totS]; omega
theorem rdS_mid {l pre rest : List ByteArray} {x : ByteArray} (h : l = pre ++ x :: rest) : rdOf ByteArray.empty l (pre.length : Int) = x := getD_mid h
def joinT : List ByteArray → List Int
  | [] => []
  | x :: r => [44, 32] ++ bytesOf x ++ joinT r
def joinI : List ByteArray → List Int
  | [] => []
  | x :: r => bytesOf x ++ joinT r
def joinV (l : List ByteArray) : ByteArray := strOfNums (joinI l)
theorem InB_joinT (l : List ByteArray) : InB (joinT l) := by
  induction l with
  | nil => exact InB_nil
  | cons x r ih =>
    simp only [joinT, InB_append]
    exact ⟨⟨by intro y hy; simp at hy; omega, InB_bytes x⟩, ih⟩
theorem InB_joinI (l : List ByteArray) : InB (joinI l) := by
  cases l with
  | nil => exact InB_nil
  | cons x r => simp only [joinI, InB_append]; exact ⟨InB_bytes x, InB_joinT r⟩
theorem bytesOf_joinV (l : List ByteArray) : bytesOf (joinV l) = joinI l := bytesOf_strOf (InB_joinI l)
theorem joinT_len (l : List ByteArray) : (joinT l).length ≤ 2 * totS l := by
  induction l with
  | nil => simp [joinT]
  | cons x r ih => simp only [joinT, totS, List.length_append, bytesOf_length, List.length_cons, List.length_nil]; omega
theorem joinI_len (l : List ByteArray) : (joinI l).length ≤ 2 * totS l := by
  cases l with
  | nil => simp [joinI]
  | cons x r => have := joinT_len r; simp only [joinI, totS, List.length_append, bytesOf_length]; omega
/-! ### What was divided and is joined again is divided in the same way -/
def runL (q : Bool) (l : List Int) : Option Bool :=
  match l with
  | [] => some q
  | b :: r =>
    if q = true ∧ b = 92 then (match r with
      | [] => none
      | _ :: r' => runL q r')
    else if b = 34 then runL (!q) r
    else if q = false ∧ b = 44 then none
    else runL q r
termination_by l.length
decreasing_by all_goals simp only [List.length_cons]; omega
theorem runL_nil (q : Bool) : runL q [] = some q := by unfold runL; rfl
theorem runL_last : runL true [92] = none := by unfold runL; simp
theorem runL_esc (c : Int) (r : List Int) : runL true (92 :: c :: r) = runL true r := by rw [runL.eq_def]; simp
theorem runL_quote (q : Bool) (r : List Int) : runL q (34 :: r) = runL (!q) r := by rw [runL.eq_def]; simp
theorem runL_comma (r : List Int) : runL false (44 :: r) = none := by rw [runL.eq_def]; simp
theorem runL_other (q : Bool) (r : List Int) (b : Int) (h1 : ¬ (q = true ∧ b = 92)) (h2 : b ≠ 34) (h3 : ¬ (q = false ∧ b = 44)) : runL q (b :: r) = runL q r := by
  rw [runL.eq_def]
  simp only
  rw [if_neg h1, if_neg h2, if_neg h3]
theorem run_cut (q : Bool) (p : List Int) : ∀ (q' : Bool) (cur rest : List Int), runL q p = some q' → cutL q cur (p ++ rest) = cutL q' (cur ++ p) rest := by
  refine cut_ind (p := fun q p => ∀ (q' : Bool) (cur rest : List Int), runL q p = some q' → cutL q cur (p ++ rest) = cutL q' (cur ++ p) rest) ?_ ?_ ?_ ?_ ?_ ?_ q p
  · intro q q' cur rest h; rw [runL_nil] at h; obtain rfl := Option.some.inj h; simp
  · intro q' cur rest h; rw [runL_last] at h; exact absurd h (by simp)
  · intro c r ih q' cur rest h; rw [runL_esc] at h; have := ih q' (cur ++ [92, c]) rest h; rw [List.cons_append, List.cons_append, cutL_esc, this]; simp
  · intro q r ih q' cur rest h; rw [runL_quote] at h; have := ih q' (cur ++ [34]) rest h; rw [List.cons_append, cutL_quote, this]; simp
  · intro r ih q' cur rest h; rw [runL_comma] at h; exact absurd h (by simp)
  · intro q b r g1 g2 g3 ih q' cur rest h; rw [runL_other q r b g1 g2 g3] at h; have := ih q' (cur ++ [b]) rest h; rw [List.cons_append, cutL_other q cur _ b g1 g2 g3, this]; simp
def GoodP : List (List Int) → Prop
  | [] => True
  | [m] => cutL false [] m = [m]
  | m :: m2 :: r => runL false m = some false ∧ GoodP (m2 :: r)
theorem run_one {m : List Int} {q : Bool} (h : runL false m = some q) : cutL false [] m = [m] := by
  have := run_cut false m q [] [] h
  rw [List.append_nil, cutL_nil] at this
  simpa using this
theorem good_tail {m : List Int} {r : List (List Int)} (h : GoodP (m :: r)) : GoodP r := by
  cases r with
  | nil => trivial
  | cons x r => exact h.2
theorem good_cons {m : List Int} {r : List (List Int)} (h : runL false m = some false) (g : GoodP r) : GoodP (m :: r) := by
  cases r with
  | nil => exact run_one h
  | cons x r => exact ⟨h, g⟩
theorem good_cut0 (q : Bool) (l : List Int) : ∃ h t, cutL q [] l = h :: t ∧ ((t = [] ∧ cutL q [] h = [h]) ∨ (t ≠ [] ∧ runL q h = some false ∧ GoodP t)) := by
  refine cut_ind (p := fun q l => ∃ h t, cutL q [] l = h :: t ∧ ((t = [] ∧ cutL q [] h = [h]) ∨ (t ≠ [] ∧ runL q h = some false ∧ GoodP t))) ?_ ?_ ?_ ?_ ?_ ?_ q l
  · intro q; exact ⟨[], [], cutL_nil _ _, .inl ⟨rfl, cutL_nil _ _⟩⟩
  · exact ⟨[92], [], by rw [cutL_last]; rfl, .inl ⟨rfl, by rw [cutL_last]; rfl⟩⟩
  · intro c r ⟨h, t, e, k⟩
    obtain ⟨h', t', e1, e2⟩ := cutL_prepend true r [92, c] []
    rw [e] at e1; injection e1 with e3 e4; subst e3; subst e4
    refine ⟨[92, c] ++ h, t, by rw [cutL_esc]; exact e2, ?_⟩
    rcases k with ⟨k1, k2⟩ | ⟨k1, k2, k3⟩
    · refine .inl ⟨k1, ?_⟩
      obtain ⟨h', t', e5, e6⟩ := cutL_prepend true h [92, c] []
      rw [k2] at e5; injection e5 with e7 e8; subst e7; subst e8
      show cutL true [] (92 :: c :: h) = _
      rw [cutL_esc]; exact e6
    · exact .inr ⟨k1, by show runL true (92 :: c :: h) = _; rw [runL_esc]; exact k2, k3⟩
  · intro q r ⟨h, t, e, k⟩
    obtain ⟨h', t', e1, e2⟩ := cutL_prepend (!q) r [34] []
    rw [e] at e1; injection e1 with e3 e4; subst e3; subst e4
    refine ⟨[34] ++ h, t, by rw [cutL_quote]; exact e2, ?_⟩
    rcases k with ⟨k1, k2⟩ | ⟨k1, k2, k3⟩
    · refine .inl ⟨k1, ?_⟩
      obtain ⟨h', t', e5, e6⟩ := cutL_prepend (!q) h [34] []
      rw [k2] at e5; injection e5 with e7 e8; subst e7; subst e8
      show cutL q [] (34 :: h) = _
      rw [cutL_quote]; exact e6
    · exact .inr ⟨k1, by show runL q (34 :: h) = _; rw [runL_quote]; exact k2, k3⟩
  · intro r ⟨h, t, e, k⟩
    refine ⟨[], cutL false [] r, cutL_comma _ _, .inr ⟨by rw [e]; simp, runL_nil _, ?_⟩⟩
    rw [e]
    rcases k with ⟨k1, k2⟩ | ⟨k1, k2, k3⟩
    · subst k1; exact k2
    · exact good_cons k2 k3
  · intro q b r g1 g2 g3 ⟨h, t, e, k⟩
    obtain ⟨h', t', e1, e2⟩ := cutL_prepend q r [b] []
    rw [e] at e1; injection e1 with e3 e4; subst e3; subst e4
    refine ⟨[b] ++ h, t, by rw [cutL_other q [] r b g1 g2 g3]; exact e2, ?_⟩
    rcases k with ⟨k1, k2⟩ | ⟨k1, k2, k3⟩
    · refine .inl ⟨k1, ?_⟩
      obtain ⟨h', t', e5, e6⟩ := cutL_prepend q h [b] []
      rw [k2] at e5; injection e5 with e7 e8; subst e7; subst e8
      show cutL q [] (b :: h) = _
      rw [cutL_other q [] h b g1 g2 g3]; exact e6
    · exact .inr ⟨k1, by show runL q (b :: h) = _; rw [runL_other q h b g1 g2 g3]; exact k2, k3⟩
theorem good_cut (l : List Int) : GoodP (cutL false [] l) := by
  obtain ⟨h, t, e, k⟩ := good_cut0 false l
  rw [e]
  rcases k with ⟨k1, k2⟩ | ⟨k1, k2, k3⟩
  · subst k1; exact k2
  · exact good_cons k2 k3
theorem blank_other {q : Bool} {b : Int} (h : blankI b = true) : ¬ (q = true ∧ b = 92) ∧ b ≠ 34 ∧ ¬ (q = false ∧ b = 44) := by
  unfold blankI at h
  have : b = 32 ∨ b = 9 := by simpa using h
  omega
theorem run_drop (m : List Int) : ∀ q, runL false m = some q → runL false (m.dropWhile blankI) = some q := by
  induction m with
  | nil => intro q h; exact h
  | cons b r ih =>
    intro q h
    by_cases g : blankI b = true
    · obtain ⟨g1, g2, g3⟩ := blank_other (q := false) g
      rw [List.dropWhile_cons_of_pos g]
      rw [runL_other false r b g1 g2 g3] at h
      exact ih q h
    · rw [List.dropWhile_cons_of_neg g]; exact h
theorem run_init (q : Bool) (m : List Int) : ∀ b, blankI b = true → runL q (m ++ [b]) = some false → runL q m = some false := by
  refine cut_ind (p := fun q m => ∀ b, blankI b = true → runL q (m ++ [b]) = some false → runL q m = some false) ?_ ?_ ?_ ?_ ?_ ?_ q m
  · intro q b hb h
    obtain ⟨g1, g2, g3⟩ := blank_other (q := q) hb
    rw [List.nil_append, runL_other q [] b g1 g2 g3] at h; exact h
  · intro b hb h
    have : runL true [92, b] = some true := by rw [runL_esc, runL_nil]
    rw [List.singleton_append, this] at h; exact absurd h (by simp)
  · intro c r ih b hb h
    rw [List.cons_append, List.cons_append, runL_esc] at h; rw [runL_esc]; exact ih b hb h
  · intro q r ih b hb h
    rw [List.cons_append, runL_quote] at h; rw [runL_quote]; exact ih b hb h
  · intro r ih b hb h
    rw [List.cons_append, runL_comma] at h; exact absurd h (by simp)
  · intro q x r g1 g2 g3 ih b hb h
    rw [List.cons_append, runL_other q _ x g1 g2 g3] at h; rw [runL_other q r x g1 g2 g3]; exact ih b hb h
theorem run_rdrop (m : List Int) : runL false m = some false → runL false (rdropI blankI m) = some false := by
  obtain ⟨n, hn⟩ : ∃ n, m.length = n := ⟨_, rfl⟩
  induction n generalizing m with
  | zero => obtain rfl := List.eq_nil_of_length_eq_zero hn; exact fun h => h
  | succ n ih =>
    intro h
    rcases List.eq_nil_or_concat m with e | ⟨r, b, e⟩
    · subst e; exact h
    · subst e
      rw [List.concat_eq_append] at h hn ⊢
      rw [rdropI_concat]
      split
      · rename_i g
        exact ih r (by simp at hn; omega) (run_init false r b g h)
      · exact h
theorem cut_single (q : Bool) (l : List Int) : ∀ cur h, cutL q cur l = [h] → h = cur ++ l := by
  refine cut_ind (p := fun q l => ∀ cur h, cutL q cur l = [h] → h = cur ++ l) ?_ ?_ ?_ ?_ ?_ ?_ q l
  · intro q cur h e; rw [cutL_nil] at e; simp at e; simp [e]
  · intro cur h e; rw [cutL_last] at e; simp at e; exact e.symm
  · intro c r ih cur h e; rw [cutL_esc] at e; have := ih _ _ e; simpa using this
  · intro q r ih cur h e; rw [cutL_quote] at e; have := ih _ _ e; simpa using this
  · intro r ih cur h e
    rw [cutL_comma] at e
    obtain ⟨h', t', e1, _⟩ := cutL_prepend false r [] []
    rw [e1] at e; simp at e
  · intro q b r g1 g2 g3 ih cur h e; rw [cutL_other q cur r b g1 g2 g3] at e; have := ih _ _ e; simpa using this
theorem cut_count (q : Bool) (l : List Int) : ∀ cur b, (cutL q cur l).length ≤ (cutL q cur (l ++ [b])).length := by
  have pos : ∀ q cur m, 1 ≤ (cutL q cur m).length := by
    intro q cur m
    obtain ⟨h, t, _, e⟩ := cutL_prepend q m cur []
    rw [List.append_nil] at e
    rw [e]; simp
  refine cut_ind (p := fun q l => ∀ cur b, (cutL q cur l).length ≤ (cutL q cur (l ++ [b])).length) ?_ ?_ ?_ ?_ ?_ ?_ q l
  · intro q cur b; rw [cutL_nil]; exact pos _ _ _
  · intro cur b; rw [cutL_last]; exact pos _ _ _
  · intro c r ih cur b; rw [List.cons_append, List.cons_append, cutL_esc, cutL_esc]; exact ih _ b
  · intro q r ih cur b; rw [List.cons_append, cutL_quote, cutL_quote]; exact ih _ b
  · intro r ih cur b; rw [List.cons_append, cutL_comma, cutL_comma]; simp only [List.length_cons]; have := ih [] b; omega
  · intro q x r g1 g2 g3 ih cur b; rw [List.cons_append, cutL_other q _ _ x g1 g2 g3, cutL_other q _ _ x g1 g2 g3]; exact ih _ b
theorem one_init {m : List Int} {b : Int} (h : cutL false [] (m ++ [b]) = [m ++ [b]]) : cutL false [] m = [m] := by
  have h1 := cut_count false m [] b
  rw [h] at h1
  obtain ⟨x, t, e, _⟩ := cutL_prepend false m [] []
  rw [e] at h1 ⊢
  have ht : t = [] := List.eq_nil_of_length_eq_zero (by simp only [List.length_cons, List.length_nil] at h1; omega)
  subst ht
  rw [cut_single false m [] x e]; rfl
theorem one_rdrop (m : List Int) : cutL false [] m = [m] → cutL false [] (rdropI blankI m) = [rdropI blankI m] := by
  obtain ⟨n, hn⟩ : ∃ n, m.length = n := ⟨_, rfl⟩
  induction n generalizing m with
  | zero => obtain rfl := List.eq_nil_of_length_eq_zero hn; exact fun h => h
  | succ n ih =>
    intro h
    rcases List.eq_nil_or_concat m with e | ⟨r, b, e⟩
    · subst e; exact h
    · subst e
      rw [List.concat_eq_append] at h hn ⊢
      rw [rdropI_concat]
      split
      · exact ih r (by simp at hn; omega) (one_init h)
      · exact h
theorem one_drop (m : List Int) : cutL false [] m = [m] → cutL false [] (m.dropWhile blankI) = [m.dropWhile blankI] := by
  induction m with
  | nil => exact fun h => h
  | cons b r ih =>
    intro h
    by_cases g : blankI b = true
    · obtain ⟨g1, g2, g3⟩ := blank_other (q := false) g
      rw [List.dropWhile_cons_of_pos g]
      rw [cutL_other false [] r b g1 g2 g3] at h
      obtain ⟨x, t, e1, e2⟩ := cutL_prepend false r [b] []
      rw [List.nil_append] at h
      rw [List.append_nil, h] at e2
      simp only [List.cons.injEq, List.singleton_append] at e2
      obtain ⟨⟨_, e3⟩, e4⟩ := e2
      refine ih ?_
      rw [e1, ← e3, ← e4]
    · rw [List.dropWhile_cons_of_neg g]; exact h
theorem good_trim (L : List (List Int)) (h : GoodP L) : GoodP ((L.map (trimP blankI)).filter (fun x => decide (x ≠ []))) := by
  induction L with
  | nil => trivial
  | cons m r ih =>
    have ht := ih (good_tail h)
    by_cases g : trimP blankI m = []
    · rw [List.map_cons, List.filter_cons_of_neg (by simp [g])]; exact ht
    · rw [List.map_cons, List.filter_cons_of_pos (by simp [g])]
      cases r with
      | nil => exact one_drop _ (one_rdrop m h)
      | cons x r => exact good_cons (run_drop _ _ (run_rdrop m h.1)) ht
def joinLL : List (List Int) → List Int
  | [] => []
  | [x] => x
  | x :: y :: r => x ++ 44 :: 32 :: joinLL (y :: r)
theorem trim_blank (b : Int) (h : blankI b = true) (l : List Int) : trimP blankI (b :: l) = trimP blankI l := by
  unfold trimP
  rw [drop_rdrop, drop_rdrop, List.dropWhile_cons_of_pos h]
theorem cut_join (L : List (List Int)) (hne : L ≠ []) (h : GoodP L) (ht : ∀ m ∈ L, trimP blankI m = m) : (cutL false [] (joinLL L)).map (trimP blankI) = L := by
  induction L with
  | nil => exact absurd rfl hne
  | cons m r ih =>
    cases r with
    | nil =>
      simp only [joinLL]
      rw [h]; simp [ht m (by simp)]
    | cons x r =>
      simp only [joinLL]
      rw [run_cut false m false [] _ h.1, List.nil_append, cutL_comma]
      obtain ⟨g1, g2, g3⟩ := blank_other (q := false) (b := 32) (by decide)
      rw [cutL_other false [] _ 32 g1 g2 g3, List.nil_append]
      have e := ih (by simp) h.2 (fun m hm => ht m (by simp [hm]))
      obtain ⟨y, t, e1, e2⟩ := cutL_prepend false (joinLL (x :: r)) [32] []
      rw [List.append_nil] at e2
      rw [e1] at e
      rw [e2, List.map_cons, List.map_cons, List.singleton_append, trim_blank 32 (by decide), ht m (by simp)]
      rw [List.map_cons] at e
      rw [e]
theorem split_join (L : List (List Int)) (h : GoodP L) (ht : ∀ m ∈ L, trimP blankI m = m) (hn : ∀ m ∈ L, m ≠ []) : splitL (joinLL L) = L := by
  unfold splitL
  by_cases e : L = []
  · subst e; simp [joinLL, cutL_nil, trimP, rdropI]
  · rw [cut_join L e h ht]
    exact List.filter_eq_self.2 (fun m hm => by simp [hn m hm])
theorem split_join_split (l : List Int) : splitL (joinLL (splitL l)) = splitL l :=
  split_join (splitL l) (good_trim _ (good_cut l)) (fun _ hm => (splitL_mem hm).2.1) (fun _ hm => (splitL_mem hm).1)
theorem joinT_map (L : List (List Int)) (h : ∀ m ∈ L, InB m) (x : List Int) : x ++ joinT (L.map strOfNums) = joinLL (x :: L) := by
  induction L generalizing x with
  | nil => simp [joinT, joinLL]
  | cons y r ih =>
    simp only [List.map_cons, joinT, joinLL]
    rw [bytesOf_strOf (h y (by simp)), ← ih (fun m hm => h m (by simp [hm])) y]
    simp
theorem joinI_map (L : List (List Int)) (h : ∀ m ∈ L, InB m) : joinI (L.map strOfNums) = joinLL L := by
  cases L with
  | nil => rfl
  | cons x r =>
    simp only [List.map_cons, joinI]
    rw [bytesOf_strOf (h x (by simp)), joinT_map r (fun m hm => h m (by simp [hm]))]
theorem splitV_join (s : ByteArray) : splitV (joinV (splitV s)) = splitV s := by
  unfold splitV
  rw [bytesOf_joinV, joinI_map _ (InB_split (InB_bytes s)), split_join_split]
theorem bytesOf_mk2 (l : List UInt8) : bytesOf ⟨l.toArray⟩ = l.map fun b => (b.toNat : Int) := rfl
theorem libjoin_map (l : List ByteArray) : ((Lib.join (l.map (·.data.toList)) [44, 32]).map fun b => (b.toNat : Int)) = joinI l := by
  have tail : ∀ r : List ByteArray, ((Lib.joinTail [44, 32] (r.map (·.data.toList))).map fun b => (b.toNat : Int)) = joinT r := by
    intro r
    induction r with
    | nil => rfl
    | cons x r ih =>
      simp only [Lib.joinTail, List.map_cons, List.flatten_cons, List.map_append, joinT] at ih ⊢
      rw [ih]; rfl
  cases l with
  | nil => rfl
  | cons x r =>
    rw [List.map_cons, Lib.join_cons, List.map_append, tail]; rfl
theorem impl_Join_eq (l : List ByteArray) (hl : totS l ≤ 1099511627776) : impl_JoinList.f l = some (joinV l) := by
  have hlen := totS_len l
  have h2 := joinI_len l
  have e : (⟨#[44, 32]⟩ : ByteArray).data.toList = [44, 32] := rfl
  have hl3 : (Lib.join (l.map (·.data.toList)) [44, 32]).length = (joinI l).length := by rw [← libjoin_map, List.length_map]
  unfold impl_JoinList.f strings_Join.f
  rw [e, if_pos ⟨by omega, by omega⟩, Option.bind_some]
  congr 1
  apply bytesOf_inj
  rw [bytesOf_joinV, bytesOf_mk2, libjoin_map]
def cutI (sep : List Int) : List Int → List Int × List Int × Bool
  | [] => ([], [], false)
  | b :: r => if sep.isPrefixOf (b :: r) = true then ([], (b :: r).drop sep.length, true) else (b :: (cutI sep r).1, (cutI sep r).2)
def cutV (sep : List Int) (s : ByteArray) : ByteArray × ByteArray × Bool := (strOfNums (cutI sep (bytesOf s)).1, strOfNums (cutI sep (bytesOf s)).2.1, (cutI sep (bytesOf s)).2.2)
theorem prefix_map (u l : List UInt8) : (u.map fun b => (b.toNat : Int)).isPrefixOf (l.map fun b => (b.toNat : Int)) = u.isPrefixOf l := by
  induction u generalizing l with
  | nil => simp
  | cons a u ih =>
    cases l with
    | nil => rfl
    | cons b l =>
      simp only [List.map_cons, List.isPrefixOf, ih]
      congr 1
      by_cases h : a = b
      · subst h; simp
      · have : ¬ (a.toNat : Int) = (b.toNat : Int) := fun z => h (UInt8.toNat_inj.1 (by omega))
        rw [beq_eq_false_iff_ne.mpr h, beq_eq_false_iff_ne.mpr this]
theorem libcut_cons_hit {b : UInt8} {l sep : List UInt8} (h : sep.isPrefixOf (b :: l) = true) : Lib.cut (b :: l) sep = ([], (b :: l).drop sep.length, true) := by
  have e : Lib.index (b :: l) sep = 0 := by unfold Lib.index; rw [if_pos h]
  unfold Lib.cut
  rw [e]; simp
theorem libcut_cons_miss {b : UInt8} {l sep : List UInt8} (h : ¬ sep.isPrefixOf (b :: l) = true) : Lib.cut (b :: l) sep = (b :: (Lib.cut l sep).1, (Lib.cut l sep).2) := by
  have e : Lib.index (b :: l) sep = if (Lib.index l sep == -1) = true then -1 else Lib.index l sep + 1 := by rw [Lib.index, if_neg h]
  have hg := Lib.index_ge l sep
  unfold Lib.cut
  by_cases g : Lib.index l sep = -1
  · rw [e, g]; simp
  · have g2 : 0 ≤ Lib.index l sep := by omega
    have e0 : Lib.index (b :: l) sep = Lib.index l sep + 1 := by rw [e, if_neg (by simpa using g)]
    rw [e0, if_pos (by omega), if_pos g2]
    obtain ⟨n, hn⟩ : ∃ n : Nat, Lib.index l sep = n := ⟨(Lib.index l sep).toNat, by omega⟩
    rw [hn]
    have e1 : ((n : Int) + 1).toNat = n + 1 := by omega
    have e2 : (n : Int).toNat = n := by omega
    rw [e1, e2, List.take_succ_cons]
    have e3 : n + 1 + sep.length = (n + sep.length) + 1 := by omega
    rw [e3, List.drop_succ_cons]
theorem libcut_map (l sep : List UInt8) (hs : sep ≠ []) :
    ((Lib.cut l sep).1.map fun b => (b.toNat : Int)) = (cutI (sep.map fun b => (b.toNat : Int)) (l.map fun b => (b.toNat : Int))).1 ∧ ((Lib.cut l sep).2.1.map fun b => (b.toNat : Int)) = (cutI (sep.map fun b => (b.toNat : Int)) (l.map fun b => (b.toNat : Int))).2.1 ∧
    (Lib.cut l sep).2.2 = (cutI (sep.map fun b => (b.toNat : Int)) (l.map fun b => (b.toNat : Int))).2.2 := by
  induction l with
  | nil =>
    have e : Lib.cut [] sep = ([], [], false) := by
      unfold Lib.cut Lib.index
      cases sep with
      | nil => exact absurd rfl hs
      | cons a s => simp
    rw [e]; exact ⟨rfl, rfl, rfl⟩
  | cons b r ih =>
    have hp := prefix_map sep (b :: r)
    rw [List.map_cons] at hp ⊢
    by_cases h : sep.isPrefixOf (b :: r) = true
    · rw [libcut_cons_hit h]
      unfold cutI
      rw [if_pos (by rw [hp]; exact h)]
      refine ⟨rfl, ?_, rfl⟩
      simp only
      rw [List.map_drop, List.map_cons, List.length_map]
    · rw [libcut_cons_miss h]
      unfold cutI
      rw [if_neg (by rw [hp]; exact h)]
      refine ⟨?_, ih.2.1, ih.2.2⟩
      simp only [List.map_cons]
      rw [ih.1]
theorem cut_parts (sep l : List Int) : (cutI sep l).2.2 = true → l = (cutI sep l).1 ++ sep ++ (cutI sep l).2.1 := by
  induction l with
  | nil => intro h; simp [cutI] at h
  | cons b r ih =>
    unfold cutI
    split
    · rename_i h
      intro _
      simp only [List.nil_append]
      exact (List.prefix_iff_eq_append.1 (List.isPrefixOf_iff_prefix.1 h)).symm
    · intro h
      simp only at h ⊢
      have := ih h
      rw [List.cons_append, List.cons_append, ← this]
theorem cut_none (sep l : List Int) : (cutI sep l).2.2 = false → cutI sep l = (l, [], false) := by
  induction l with
  | nil => intro _; rfl
  | cons b r ih =>
    unfold cutI
    split
    · intro h; simp at h
    · intro h
      simp only at h
      rw [ih h]
def pairV (s : ByteArray) : ByteArray × ByteArray × Bool := (trimV (cutV [61] s).1, trimV (cutV [61] s).2.1, (cutV [61] s).2.2)
theorem strings_Cut_eq (s sep : ByteArray) (hs : s.size < 4294967281) (hp : bytesOf sep ≠ []) : strings_Cut.f s sep = some (cutV (bytesOf sep) s) := by
  have hp2 : sep.data.toList ≠ [] := fun z => hp (by unfold bytesOf; rw [z]; rfl)
  obtain ⟨h1, h2, h3⟩ := libcut_map s.data.toList sep.data.toList hp2
  unfold strings_Cut.f cutV
  rw [if_pos hs]
  have e : ∀ (l : List UInt8) (m : List Int), (l.map fun b => (b.toNat : Int)) = m → (⟨l.toArray⟩ : ByteArray) = strOfNums m := by
    intro l m h
    have hb : bytesOf ⟨l.toArray⟩ = m := h
    rw [← hb, strOf_bytesOf]
  rw [e _ _ h1, e _ _ h2, h3]
  rfl
theorem cut_len (sep l : List Int) : (cutI sep l).1.length ≤ l.length ∧ (cutI sep l).2.1.length ≤ l.length := by
  induction l with
  | nil => simp [cutI]
  | cons b r ih =>
    unfold cutI
    split
    · simp
    · simp only [List.length_cons]; omega
theorem cutV_size (sep : List Int) (s : ByteArray) : (cutV sep s).1.size ≤ s.size ∧ (cutV sep s).2.1.size ≤ s.size := by
  have := cut_len sep (bytesOf s)
  unfold cutV
  simp only [strOfNums_size]
  rw [bytesOf_length] at this
  exact this
theorem impl_Pair_eq (s : ByteArray) (hs : s.size ≤ 4000000000) : impl_SplitPair.f s = some (pairV s) := by
  have hz := cutV_size [61] s
  unfold impl_SplitPair.f
  rw [strings_Cut_eq s ⟨#[61]⟩ (by omega) (by decide)]
  have e : bytesOf (⟨#[61]⟩ : ByteArray) = [61] := by decide
  rw [e, Option.bind_some, impl_Trim_eq _ (by omega), Option.bind_some, impl_Trim_eq _ (by omega), Option.bind_some]
  rfl
def lowerV (s : ByteArray) : ByteArray := strOfNums ((bytesOf s).map lowB)
theorem impl_Lower_eq (s : ByteArray) (h : s.size ≤ 4611686018427387904) : impl_LowerText.f s = some (lowerV s) := by unfold impl_LowerText.f; rw [if_pos h]; rfl
theorem sameT_self (l : List ByteArray) (hn : l.length ≤ 4611686018427387904) : Ev (fun k => laws_sameTexts.f k l l) true := by
  have e := same_loop l hn (fun k i => laws_sameTexts.l0 k l l i) (fun k i h0 h1 => by
    simp only [laws_sameTexts.l0]
    rw [if_pos h1, if_pos h0, if_pos h1, if_pos trivial]) (fun k => by
    simp only [laws_sameTexts.l0]
    rw [if_neg (by omega)])
  refine Ev.mp e (fun k => ?_)
  unfold laws_sameTexts.f
  rw [if_pos rfl]
theorem InB_lower1 (s : ByteArray) : InB ((bytesOf s).map lowB) := by
  intro x hx
  obtain ⟨b, hb, rfl⟩ := List.mem_map.1 hx
  have := InB_bytes s b hb
  unfold lowB
  split <;> omega
theorem lowB_idem1 (b : Int) : lowB (lowB b) = lowB b := by
  by_cases h : 65 ≤ b ∧ b ≤ 90
  · have e : lowB b = b + 32 := by unfold lowB; rw [if_pos h]
    rw [e]; unfold lowB; rw [if_neg (by omega)]
  · have e : lowB b = b := by unfold lowB; rw [if_neg h]
    rw [e, e]
theorem lower_idem1 (s : ByteArray) : lowerV (lowerV s) = lowerV s := by
  unfold lowerV
  rw [bytesOf_strOf (InB_lower1 s), List.map_map]
  congr 1
  refine List.map_congr_left (fun b _ => ?_)
  exact lowB_idem1 b
theorem lower_size1 (s : ByteArray) : (lowerV s).size = s.size := by unfold lowerV; rw [strOfNums_size, List.length_map, bytesOf_length]
theorem trimV_idem (s : ByteArray) : trimV (trimV s) = trimV s := by
  apply bytesOf_inj
  rw [bytesOf_trimV, bytesOf_trimV, trimP_idem]
theorem trim_nil1 : trimV (strOfNums []) = (⟨#[]⟩ : ByteArray) := by
  apply bytesOf_inj
  rw [bytesOf_trimV, bytesOf_strOf InB_nil]
  decide
theorem totS_le (L : List ByteArray) (B : Nat) (h : ∀ x ∈ L, x.size ≤ B) : totS L ≤ L.length * (B + 1) := by
  induction L with
  | nil => simp [totS]
  | cons x r ih =>
    have h1 := h x (by simp)
    have h2 := ih (fun y hy => h y (by simp [hy]))
    simp only [totS, List.length_cons, Nat.succ_mul]
    omega
theorem nil_list (s : ByteArray) : s.toList = ([] : List UInt8) ↔ s = ⟨#[]⟩ := by
  have e : ([] : List UInt8) = (⟨#[]⟩ : ByteArray).toList := by rw [ByteArray.toList_eq]
  exact ⟨fun h => toList_iff.mp (h.trans e), fun h => (toList_iff.mpr h).trans e.symm⟩

theorem split_draw_loop (l : List Int) (d : Nat) : ∀ (x : ByteArray) (i h : Int), Cur l i → x.size + 30 * d ≤ 1000 → ∃ t, Ev (fun k => spec_DrawSplitList.l0 k x (d : Int) l i h) t ∧ t.size ≤ 1000 := by
  induction d with
  | zero =>
    intro x i h c hx
    refine ⟨x, Ev.step (f := fun _ => some x) (fun k => ?_) (Ev.now _), by omega⟩
    simp only [spec_DrawSplitList.l0]
    rw [if_neg (by omega)]
  | succ d ih =>
    intro x i h c hx
    obtain ⟨a, i1, h1, e1, a1, c1⟩ := some_ok h c
    obtain ⟨b, i2, h2, e2, b2, c2⟩ := str_small h1 c1 ([(⟨#[44]⟩ : ByteArray), (⟨#[44, 32]⟩ : ByteArray), (⟨#[32, 44]⟩ : ByteArray), (⟨#[44, 44]⟩ : ByteArray), (⟨#[]⟩ : ByteArray)] : List ByteArray) (by decide) 2 (by decide +kernel)
    have z1 : (x ++ a).size = x.size + a.size := ByteArray.size_append
    have z2 : ((x ++ a) ++ b).size = x.size + a.size + b.size := by rw [ByteArray.size_append, z1]
    obtain ⟨t, ht, hs⟩ := ih ((x ++ a) ++ b) i2 h2 c2 (by omega)
    refine ⟨t, Ev.step (fun k => ?_) ht, hs⟩
    simp only [spec_DrawSplitList.l0]
    rw [if_pos (by omega), e1, Option.bind_some]
    simp only
    rw [if_pos (by omega), e2, Option.bind_some]
    simp only
    rw [if_pos (by omega), wrap_id (n := ((d + 1 : Nat) : Int) - 1) (by omega) (by omega), show ((d + 1 : Nat) : Int) - 1 = (d : Int) by omega]
theorem FnLists : laws_FnLists.Pure := by
  intro l hl hb
  apply Ev.rounds
  by_cases g : (l.length : Int) > 1048576
  · refine Ev.mp (Ev.now _) (fun k => ?_)
    unfold laws_FnLists.f laws_big.f
    rw [decide_eq_true g, Option.bind_some, if_pos rfl]
  obtain ⟨h, hn, c⟩ := new_ev l (by omega)
  obtain ⟨a, i1, h1, e1, a1, c1⟩ := some_ok h c
  obtain ⟨b, i2, h2, e2, b2, c2⟩ := some_ok h1 c1
  have zab : (a ++ b).size = a.size + b.size := ByteArray.size_append
  have D1 : Ev (fun k => spec_DrawQuoteText.f k l) (a ++ b) := by
    unfold spec_DrawQuoteText.f
    refine Ev.bind hn ?_
    simp only [e1, e2, Option.bind_some]
    exact Ev.pos (by omega) (Ev.now _)
  have D2 : ∃ T, Ev (fun k => spec_DrawSplitList.f k l) T ∧ T.size ≤ 1000 := by
    obtain ⟨n, i3, h3, e3, n0, n1, c3⟩ := below_ok h c 6
    have n2 := n1 (by omega)
    obtain ⟨T, hT, hs⟩ := split_draw_loop l n.toNat ⟨#[]⟩ i3 h3 c3 (by have : (⟨#[]⟩ : ByteArray).size = 0 := rfl; omega)
    refine ⟨T, ?_, hs⟩
    unfold spec_DrawSplitList.f
    refine Ev.bind hn ?_
    simp only [e3, Option.bind_some]
    rw [show (n.toNat : Int) = n by omega] at hT
    exact hT
  obtain ⟨T, D2, hT⟩ := D2
  have D3 : Ev (fun k => spec_DrawSplitPair.f k l) a := by
    unfold spec_DrawSplitPair.f
    refine Ev.bind hn ?_
    simp only [e1, Option.bind_some]
    exact Ev.now _
  have hbig : laws_big.f l = some false := by unfold laws_big.f; rw [decide_eq_false g]
  have hqs : (quoteV (a ++ b)).size ≤ 100 := by
    unfold quoteV
    rw [strOfNums_size]
    have := quoteL_length (bytesOf (a ++ b))
    rw [bytesOf_length] at this
    simp only [List.length_append, List.length_cons, List.length_nil]
    omega
  have hc1 := split_count T
  have hs1 := split_sizes T
  have htot : totS (splitV T) ≤ 2000000 := by
    have h1 := totS_le (splitV T) 1001 (fun x hx => by have := hs1 x hx; omega)
    have h2 : (splitV T).length ≤ 1001 := by omega
    generalize (splitV T).length = z at h1 h2
    omega
  have hjs : (joinV (splitV T)).size ≤ 4000000 := by
    have := joinI_len (splitV T)
    rw [← bytesOf_joinV, bytesOf_length] at this
    omega
  have hround := splitV_join T
  have hel : ∀ x ∈ splitV T, x ≠ ⟨#[]⟩ ∧ trimV x = x ∧ x.size ≤ 1001 := by
    intro x hx
    have hs := hs1 x hx
    unfold splitV at hx
    obtain ⟨m, hm, rfl⟩ := List.mem_map.1 hx
    obtain ⟨q1, q2, _⟩ := splitL_mem hm
    have hi := InB_split (InB_bytes T) m hm
    refine ⟨fun z => q1 ?_, ?_, by omega⟩
    · rw [← bytesOf_strOf hi, z]; decide
    · rw [trimV_of hi, q2]
  unfold laws_FnLists.f
  simp only [hbig, Option.bind_some, Bool.false_eq_true, if_false]
  refine Ev.bind D1 (Ev.bind (impl_Quote_ev _ (by omega)) (Ev.bind (impl_Unq_ev _ (by omega)) ?_))
  rw [unq_quote]
  refine Ev.bind D2 (Ev.bind (impl_Split_ev T (by omega)) ?_)
  rw [impl_Join_eq _ (by omega)]
  simp only [Option.bind_some]
  refine Ev.bind (impl_Split_ev (joinV (splitV T)) (by omega)) ?_
  rw [hround]
  have hlow : impl_LowerText.f (a ++ b) = some (lowerV (a ++ b)) := impl_Lower_eq _ (by omega)
  have hlow2 : impl_LowerText.f (lowerV (a ++ b)) = some (lowerV (a ++ b)) := by
    have := impl_Lower_eq (lowerV (a ++ b)) (by rw [lower_size1]; omega)
    rwa [lower_idem1] at this
  have hpz := trimV_size (cutV [61] a).1
  have hcz : (cutV [61] a).1.size ≤ a.size := (cutV_size [61] a).1
  have htrim : impl_TrimText.f (pairV a).1 = some (pairV a).1 := by
    have := impl_Trim_eq (pairV a).1 (by unfold pairV; simp only; omega)
    rwa [show trimV (pairV a).1 = (pairV a).1 from trimV_idem _] at this
  have hno : ¬ (pairV a).2.2 = true → (pairV a).2.1.toList = ([] : List UInt8) := by
    intro z
    have h1 : (cutI [61] (bytesOf a)).2.2 = false := by simpa using (show ¬ (cutI [61] (bytesOf a)).2.2 = true from z)
    have h2 := cut_none [61] (bytesOf a) h1
    rw [nil_list]
    unfold pairV cutV
    simp only
    rw [h2]
    exact trim_nil1
  have key : ∀ rest pre, splitV T = pre ++ rest → Ev (fun k => laws_FnLists.l0 k l (a ++ b) (a ++ b) true (splitV T) (splitV T) (pre.length : Int)) true := by
    intro rest
    induction rest with
    | nil =>
      intro pre hp
      have hlen := len_mid hp
      simp only [List.length_nil] at hlen
      apply Ev.step
      · intro k
        simp only [laws_FnLists.l0]
        rw [if_neg (by omega)]
      · refine Ev.bind D3 ?_
        rw [impl_Pair_eq a (by omega)]
        simp only [Option.bind_some, if_true, hlow, hlow2, htrim]
        refine Ev.bind (sameT_self _ (by omega)) (Ev.pos rfl ?_)
        refine Ev.mp (Ev.now true) (fun k => ?_)
        by_cases z : (pairV a).2.2 = true
        · rw [if_pos z, beq_self_eq_true]
        · rw [if_neg z, if_pos (hno z), beq_self_eq_true]
    | cons x rest ih =>
      intro pre hp
      have hlen := len_mid hp
      simp only [List.length_cons] at hlen
      obtain ⟨x1, x2, x3⟩ := hel x (by rw [hp]; simp)
      refine Ev.step (fun k => ?_) (ih (pre ++ [x]) (by simp [hp]))
      simp only [laws_FnLists.l0]
      rw [if_pos (by omega), if_pos (by omega), rdS_mid2 hp, if_neg (fun z => x1 ((nil_list x).mp z)), impl_Trim_eq x (by omega), x2, Option.bind_some, if_pos rfl, len_step pre x (by omega)]
  exact key _ [] rfl

end Go.Proofs.YtlboepkphddacaaDoor.Pure
