/- The pure part of FnTags: for every list of bytes within the statement's bounds the printed law answers true. Conditions: the statement's own bounds alone. -/
import Derived.Test.YtlboepkphddacabDoorPreFnTags
import Derived.Test.YtlboepkphddacabDoorRFnTagsx1
import Derived.Test.YtlboepkphddacabDoorRFnTagsx2
import Derived.Test.YtlboepkphddacabDoorRFnTagsx3
import Derived.Test.YtlboepkphddacabDoorRFnTagsx4
import Derived.Test.YtlboepkphddacabDoorRFnTagsx5
import Derived.Test.YtlboepkphddacabDoorRFnTagsx6
import Derived.OpenShut
namespace Go.Proofs.YtlboepkphddacabDoor.Pure
open Go.RowKit Go.Proofs.YtlboepkphddacabDoor.RFnTags Go.Proofs.YtlboepkphddacabDoorW.PrintWords Go.Proofs.YtlboepkphddacabDoorW.PrintLast
set_option linter.unusedSimpArgs false
set_option linter.unusedVariables false

/-! ### Texts as lists of numbers -/
def InB (l : List Int) : Prop := ∀ x ∈ l, 0 ≤ x ∧ x ≤ 255
theorem InB_nil : InB [] := fun x hx => by simp at hx
theorem InB_cons {b : Int} {l : List Int} : InB (b :: l) ↔ (0 ≤ b ∧ b ≤ 255) ∧ InB l := by simp [InB]
theorem InB_append {l m : List Int} : InB (l ++ m) ↔ InB l ∧ InB m := by
  simp only [InB, List.mem_append]
  exact ⟨fun h => ⟨fun x hx => h x (.inl hx), fun x hx => h x (.inr hx)⟩, fun h x hx => hx.elim (h.1 x) (h.2 x)⟩
theorem InB_take {l : List Int} (n : Nat) (h : InB l) : InB (l.take n) := fun x hx => h x (List.mem_of_mem_take hx)
theorem InB_drop {l : List Int} (n : Nat) (h : InB l) : InB (l.drop n) := fun x hx => h x (List.mem_of_mem_drop hx)
theorem InB_bytes (s : ByteArray) : InB (bytesOf s) := by
  intro x hx
  unfold bytesOf at hx
  obtain ⟨b, _, rfl⟩ := List.mem_map.1 hx
  have := b.toNat_lt
  omega
theorem strOf_bytesOf (s : ByteArray) : strOfNums (bytesOf s) = s := by
  obtain ⟨⟨l⟩⟩ := s
  unfold strOfNums bytesOf
  simp only [List.map_map]
  congr 2
  exact (List.map_congr_left (fun b _ => by simp)).trans (List.map_id l)
theorem bytesOf_strOf {l : List Int} (h : InB l) : bytesOf (strOfNums l) = l := by
  unfold strOfNums bytesOf
  simp only [List.map_map]
  refine (List.map_congr_left (fun x hx => ?_)).trans (List.map_id l)
  have := h x hx
  simp only [Function.comp_apply, id, UInt8.toNat_ofNat']
  omega
theorem bytesOf_inj {s t : ByteArray} (h : bytesOf s = bytesOf t) : s = t := by rw [← strOf_bytesOf s, h, strOf_bytesOf]
theorem bytesOf_append (s t : ByteArray) : bytesOf (s ++ t) = bytesOf s ++ bytesOf t := by
  unfold bytesOf
  rw [ByteArray.data_append, Array.toList_append, List.map_append]
theorem bytesOf_extract (s : ByteArray) (a b : Nat) : bytesOf (s.extract a b) = ((bytesOf s).take b).drop a := by
  unfold bytesOf
  rw [ByteArray.data_extract, Array.toList_extract, List.extract_eq_take_drop, List.map_take, List.map_drop, List.take_drop]
  rcases Nat.le_total a b with h | h
  · rw [Nat.add_sub_cancel' h]
  · rw [Nat.sub_eq_zero_of_le h, List.drop_eq_nil_of_le (by simp; omega), List.drop_eq_nil_of_le (by simp; omega)]
theorem toList_iff {s t : ByteArray} : s.toList = t.toList ↔ s = t := by
  rw [ByteArray.toList_eq, ByteArray.toList_eq]
  constructor
  · intro h
    obtain ⟨⟨l⟩⟩ := s
    obtain ⟨⟨m⟩⟩ := t
    simp only at h
    rw [h]
  · rintro rfl; rfl
theorem size_bytes (s : ByteArray) : (s.size : Int) = ((bytesOf s).length : Int) := by rw [bytesOf_length]
theorem getD_mid {α : Type} {l pre rest : List α} {b d : α} (h : l = pre ++ b :: rest) : l.getD ((pre.length : Int)).toNat d = b := by subst h; simp
theorem len_mid {α : Type} {l pre rest : List α} (h : l = pre ++ rest) : l.length = pre.length + rest.length := by rw [h, List.length_append]
theorem rd_mid {l pre rest : List Int} {b : Int} (h : l = pre ++ b :: rest) : rd l (pre.length : Int) = b := by
  subst h
  unfold rd
  simp
theorem bt_mid {s : ByteArray} {pre rest : List Int} {b : Int} (h : bytesOf s = pre ++ b :: rest) : bt s (pre.length : Int) = b := by
  rw [← rd_bytesOf]; exact rd_mid h
theorem size_mid {s : ByteArray} {pre rest : List Int} (h : bytesOf s = pre ++ rest) : (s.size : Int) = (pre.length : Int) + (rest.length : Int) := by
  rw [size_bytes, h]; simp
theorem mid_step {l pre rest : List Int} {b : Int} (h : l = pre ++ b :: rest) : l = (pre ++ [b]) ++ rest := by simp [h]
theorem wrap_id {n : Int} (h0 : -9223372036854775808 ≤ n) (h1 : n ≤ 9223372036854775807) : wrap64 n = n := by unfold wrap64; omega
theorem len_step {α : Type} (pre : List α) (b : α) (h : pre.length ≤ 9223372036854775000) : wrap64 ((pre.length : Int) + 1) = ((pre ++ [b]).length : Int) := by
  rw [wrap_id (by omega) (by omega)]; simp
/-! ### Loops over lists -/
theorem map_loop {α β : Type} (da : α) (conv : α → β) (x0 : List α) (hn : x0.length ≤ 4611686018427387904) (g : Nat → List β → Int → Option (List β))
    (hg : ∀ k x3 i, g (k + 1) x3 i = if i < (x0.length : Int) then (if 0 ≤ i then (if i < (x3.length : Int) then g k (x3.set (i : Int).toNat (conv (x0.getD i.toNat da))) (wrap64 (i + 1)) else none) else none) else some x3) (z : β) :
    Ev (fun k => g k (List.replicate x0.length z) 0) (x0.map conv) := by
  have key : ∀ rest pre, x0 = pre ++ rest → Ev (fun k => g k (pre.map conv ++ List.replicate rest.length z) (pre.length : Int)) (x0.map conv) := by
    intro rest
    induction rest with
    | nil =>
      intro pre h
      refine Ev.step (f := fun _ => some (x0.map conv)) (fun k => ?_) (Ev.now _)
      rw [hg, if_neg (by rw [h]; simp)]
      simp [h]
    | cons b rest ih =>
      intro pre h
      have hl : x0.length = pre.length + (rest.length + 1) := by rw [h]; simp
      refine Ev.step (f := fun k => g k ((pre ++ [b]).map conv ++ List.replicate rest.length z) ((pre ++ [b]).length : Int)) (fun k => ?_) (ih (pre ++ [b]) (by simp [h]))
      rw [hg, if_pos (by omega), if_pos (by omega), if_pos (by simp; omega), wrap_id (by omega) (by omega)]
      have e1 : x0.getD ((pre.length : Int)).toNat da = b := by rw [h]; simp
      rw [e1]
      congr 1
      · simp [List.replicate_succ, List.set_append]
      · simp
  exact key x0 [] rfl
theorem same_loop {α : Type} (a : List α) (hn : a.length ≤ 4611686018427387904) (g : Nat → Int → Option Bool)
    (hg : ∀ k i, 0 ≤ i → i < (a.length : Int) → g (k + 1) i = g k (wrap64 (i + 1))) (he : ∀ k, g (k + 1) (a.length : Int) = some true) : Ev (fun k => g k 0) true := by
  have key : ∀ d i : Nat, i + d = a.length → Ev (fun k => g k (i : Int)) true := by
    intro d
    induction d with
    | zero => intro i h; obtain rfl : i = a.length := by omega
              exact Ev.step he (Ev.now _)
    | succ d ih =>
      intro i h
      refine Ev.step (f := fun k => g k ((i + 1 : Nat) : Int)) (fun k => ?_) (ih (i + 1) (by omega))
      rw [hg k i (by omega) (by omega), wrap_id (by omega) (by omega)]; rfl
  exact key a.length 0 (by omega)
theorem Ev.mp {α : Type} {g f : Nat → Option α} {r : α} (h : Ev f r) (e : ∀ k, g k = f k) : Ev g r := Ev.congr e h
theorem Ev.step2 {α : Type} {g f : Nat → Option α} {r : α} (h : ∃ K, ∀ k, K ≤ k → g (k + 1) = f k) (e : Ev f r) : Ev g r := by
  obtain ⟨K, hK⟩ := h
  obtain ⟨K', hK'⟩ := e
  refine ⟨max K K' + 1, fun k hk => ?_⟩
  obtain ⟨k, rfl⟩ : ∃ m, k = m + 1 := ⟨k - 1, by omega⟩
  rw [hK k (by omega), hK' k (by omega)]
/-- Every element turned into the next of a row of marks. -/
def markL {α : Type} (mk : Int → α) (c : Nat) : Int → List α → List α
  | _, [] => []
  | k, _ :: r => mk k :: markL mk c (k + c) r
theorem markL_length {α : Type} (mk : Int → α) (c : Nat) (l : List α) : ∀ k, (markL mk c k l).length = l.length := by
  induction l with
  | nil => intro k; rfl
  | cons x r ih => intro k; simp [markL, ih]
theorem mark_loop {α : Type} (mk : Int → α) (c : Nat) (g : Nat → List α → Int → Int → Option (Int × List α)) (B : Int) (hB : B ≤ 4611686018427387904)
    (hg : ∀ (l : List α) (k0 i : Int), 0 ≤ i → i < (l.length : Int) → 0 ≤ k0 → k0 + c ≤ B → ∃ K, ∀ k, K ≤ k → g (k + 1) l k0 i = g k (l.set i.toNat (mk k0)) (k0 + c) (wrap64 (i + 1)))
    (he : ∀ k (l : List α) (k0 : Int), g (k + 1) l k0 (l.length : Int) = some (k0, l)) (l : List α) (hl : l.length ≤ 4611686018427387904) (k0 : Int) (h0 : 0 ≤ k0) (h1 : k0 + c * l.length ≤ B) :
    Ev (fun k => g k l k0 0) (k0 + c * l.length, markL mk c k0 l) := by
  have key : ∀ (rest pre : List α) (k0 : Int), 0 ≤ k0 → k0 + c * rest.length ≤ B → pre.length + rest.length ≤ 4611686018427387904 → Ev (fun k => g k (pre ++ rest) k0 (pre.length : Int)) (k0 + c * rest.length, pre ++ markL mk c k0 rest) := by
    intro rest
    induction rest with
    | nil =>
      intro pre k0 _ _ _
      refine Ev.step (f := fun _ => some (k0, pre)) (fun k => ?_) (by simpa [markL] using Ev.now _)
      have := he k pre k0
      simpa using this
    | cons x rest ih =>
      intro pre k0 h0 h1 h2
      simp only [List.length_cons] at h1 h2
      have hc : (c : Int) * ((rest.length + 1 : Nat) : Int) = c * rest.length + c := by rw [Int.natCast_add, Int.mul_add]; simp
      rw [hc] at h1
      have hcn : 0 ≤ (c : Int) * (rest.length : Int) := Int.mul_nonneg (by omega) (by omega)
      obtain ⟨K, hK⟩ := hg (pre ++ x :: rest) k0 (pre.length : Int) (by omega) (by simp; omega) h0 (by omega)
      have e := ih (pre ++ [mk k0]) (k0 + c) (by omega) (by omega) (by simp; omega)
      have e2 : (k0 + (c : Int)) + c * rest.length = k0 + c * ((x :: rest).length : Int) := by simp only [List.length_cons]; rw [hc]; omega
      rw [e2] at e
      refine Ev.step2 (f := fun k => g k (pre ++ [mk k0] ++ rest) (k0 + c) ((pre ++ [mk k0]).length : Int)) ⟨K, fun k hk => ?_⟩ (by simpa [markL] using e)
      rw [hK k hk, wrap_id (by omega) (by omega)]
      simp [List.set_append]
  have := key l [] k0 h0 h1 (by simpa using hl)
  simpa using this
theorem held_loop {α : Type} (mk : Int → α) (c : Nat) (l0 l : List α) (k0 : Int) (hl : l = markL mk c k0 l0) (g : Nat → Int → Int → Option Int) (B : Int) (hB : B ≤ 4611686018427387904)
    (hg : ∀ (k1 i : Int), 0 ≤ i → i < (l.length : Int) → 0 ≤ k1 → k1 + c ≤ B → l[i.toNat]? = some (mk k1) → ∃ K, ∀ k, K ≤ k → g (k + 1) k1 i = g k (k1 + c) (wrap64 (i + 1)))
    (he : ∀ k (k1 : Int), g (k + 1) k1 (l.length : Int) = some k1) (hn : l0.length ≤ 4611686018427387904) (h0 : 0 ≤ k0) (h1 : k0 + c * l0.length ≤ B) :
    Ev (fun k => g k k0 0) (k0 + c * l0.length) := by
  have hlen : l.length = l0.length := by rw [hl, markL_length]
  have key : ∀ (rest : List α) (pre : List α) (k1 : Int), l = pre ++ markL mk c k1 rest → 0 ≤ k1 → k1 + c * rest.length ≤ B → Ev (fun k => g k k1 (pre.length : Int)) (k1 + c * rest.length) := by
    intro rest
    induction rest with
    | nil =>
      intro pre k1 h _ _
      refine Ev.step (f := fun _ => some k1) (fun k => ?_) (by simpa using Ev.now _)
      have := he k k1
      rw [h] at this
      simpa [markL] using this
    | cons x rest ih =>
      intro pre k1 h h0 h1
      simp only [List.length_cons] at h1
      have hc : (c : Int) * ((rest.length + 1 : Nat) : Int) = c * rest.length + c := by rw [Int.natCast_add, Int.mul_add]; simp
      rw [hc] at h1
      have hcn : 0 ≤ (c : Int) * (rest.length : Int) := Int.mul_nonneg (by omega) (by omega)
      have hl2 : l.length = pre.length + (rest.length + 1) := by rw [h]; simp [markL_length]
      obtain ⟨K, hK⟩ := hg k1 (pre.length : Int) (by omega) (by omega) h0 (by omega) (by rw [h]; simp [markL])
      have e := ih (pre ++ [mk k1]) (k1 + c) (by rw [h]; simp [markL]) (by omega) (by omega)
      have e2 : (k1 + (c : Int)) + c * rest.length = k1 + c * ((x :: rest).length : Int) := by simp only [List.length_cons]; rw [hc]; omega
      rw [e2] at e
      refine Ev.step2 (f := fun k => g k (k1 + c) ((pre ++ [mk k1]).length : Int)) ⟨K, fun k hk => ?_⟩ e
      rw [hK k hk, wrap_id (by omega) (by omega)]
      simp
  exact key l0 [] k0 (by simpa using hl) h0 h1
theorem Ev.pos {α : Type} {c : Prop} [Decidable c] {f g : Nat → Option α} {r : α} (h : c) (e : Ev f r) : Ev (fun k => if c then f k else g k) r := by simp only [if_pos h]; exact e
theorem Ev.neg {α : Type} {c : Prop} [Decidable c] {f g : Nat → Option α} {r : α} (h : ¬ c) (e : Ev g r) : Ev (fun k => if c then f k else g k) r := by simp only [if_neg h]; exact e
theorem Ev.get {α β : Type} {f : Nat → α → Option β} {a : α} {r : β} (e : Ev (fun n => f n a) r) : Ev (fun n => (some a).bind (f n)) r := e
theorem and255 (n : Int) : Go.bits .and .i64 n 255 = n % 256 := by
  have h255 : (BitVec.ofInt 64 255).toNat = 2 ^ 8 - 1 := by decide
  have key : (BitVec.ofInt 64 n &&& BitVec.ofInt 64 255).toNat = (n % ((2 ^ 64 : Nat) : Int)).toNat % 2 ^ 8 := by
    rw [BitVec.toNat_and, BitVec.toNat_ofInt, h255, Nat.and_two_pow_sub_one_eq_mod]
  show IntKind.i64.wrap ((BitVec.ofInt 64 n &&& BitVec.ofInt 64 255).toNat : Nat) = n % 256
  rw [key, IntKind.wrap_i64]
  omega
/-- A cursor's place lies within the bytes. -/
def Cur (l : List Int) (i : Int) : Prop := 0 ≤ i ∧ i ≤ (l.length : Int) ∧ l.length ≤ 1048576
theorem byte_ok {l : List Int} {i : Int} (h : Int) (c : Cur l i) : ∃ x i' h', spec_l1Byte.f l i h = some (x, i', h') ∧ 0 ≤ x ∧ x ≤ 255 ∧ Cur l i' := by
  obtain ⟨c0, c1, c2⟩ := c
  unfold spec_l1Byte.f
  simp only [and255]
  by_cases g : i < (l.length : Int)
  · rw [if_pos g, if_pos c0]
    exact ⟨_, _, _, rfl, by omega, by omega, by rw [wrap_id (by omega) (by omega)]; exact ⟨by omega, by omega, c2⟩⟩
  · rw [if_neg g]
    exact ⟨_, _, _, rfl, by omega, by omega, c0, c1, c2⟩
theorem below_ok {l : List Int} {i : Int} (h : Int) (c : Cur l i) (n : Int) : ∃ x i' h', spec_l1Below.f l i h n = some (x, i', h') ∧ 0 ≤ x ∧ (0 < n → x < n) ∧ Cur l i' := by
  unfold spec_l1Below.f
  by_cases g0 : n ≤ 0
  · rw [if_pos g0]
    exact ⟨_, _, _, rfl, by omega, by omega, c⟩
  · rw [if_neg g0]
    by_cases g1 : n ≤ 256
    · rw [if_pos g1]
      obtain ⟨x, i', h', e, x0, x1, c'⟩ := byte_ok h c
      rw [e]
      simp only [Option.bind_some]
      rw [if_neg (by omega)]
      exact ⟨_, _, _, rfl, Int.tmod_nonneg n x0, fun hn => Int.tmod_lt_of_pos x hn, c'⟩
    · rw [if_neg g1]
      obtain ⟨x, i1, h1, e1, x0, x1, c1⟩ := byte_ok h c
      obtain ⟨y, i2, h2, e2, y0, y1, c2⟩ := byte_ok h1 c1
      obtain ⟨z, i3, h3, e3, z0, z1, c3⟩ := byte_ok h2 c2
      rw [e1]
      simp only [Option.bind_some]
      rw [e2]
      simp only [Option.bind_some]
      rw [e3]
      simp only [Option.bind_some]
      rw [if_neg (by omega), wrap_id (n := x * 65536) (by omega) (by omega), wrap_id (n := y * 256) (by omega) (by omega), wrap_id (n := x * 65536 + y * 256) (by omega) (by omega), wrap_id (n := x * 65536 + y * 256 + z) (by omega) (by omega)]
      exact ⟨_, _, _, rfl, Int.tmod_nonneg n (by omega), fun hn => Int.tmod_lt_of_pos _ hn, c3⟩
theorem new_loop {l : List Int} (hl : l.length ≤ 1048576) (d : Nat) : ∀ (i x : Int), 0 ≤ i → i + d = l.length → ∃ h, Ev (fun k => spec_l1New.l0 k l x i) (l, 0, h) := by
  induction d with
  | zero =>
    intro i x h0 h1
    refine ⟨x, Ev.step (f := fun _ => some (l, 0, x)) (fun k => ?_) (Ev.now _)⟩
    simp only [spec_l1New.l0]
    rw [if_neg (by omega)]
  | succ d ih =>
    intro i x h0 h1
    by_cases g : i < 4000
    · obtain ⟨h, e⟩ := ih (i + 1) (Go.bits .and .i64 (wrap64 ((wrap64 ((wrap64 (x * 139)) + (wrap64 (rd l i)))) + 11)) 1073741823) (by omega) (by omega)
      refine ⟨h, Ev.step (fun k => ?_) e⟩
      simp only [spec_l1New.l0]
      rw [if_pos (by omega), if_pos g, if_pos h0, wrap_id (n := i + 1) (by omega) (by omega)]
    · refine ⟨x, Ev.step (f := fun _ => some (l, 0, x)) (fun k => ?_) (Ev.now _)⟩
      simp only [spec_l1New.l0]
      rw [if_pos (by omega), if_neg g]
theorem new_ev (l : List Int) (hl : l.length ≤ 1048576) : ∃ h, Ev (fun k => spec_l1New.f k l) (l, 0, h) ∧ Cur l 0 := by
  obtain ⟨h, e⟩ := new_loop hl l.length 0 (wrap64 (271091 + (l.length : Int))) (by omega) (by omega)
  exact ⟨h, e, by omega, by omega, hl⟩
theorem int_ok {l : List Int} {i : Int} (h : Int) (c : Cur l i) (L : List Int) (hL : 0 < L.length) : ∃ x i' h', spec_l1Int.f l i h L = some (x, i', h') ∧ x ∈ L ∧ Cur l i' := by
  obtain ⟨q, i', h', e, q0, q1, c'⟩ := below_ok h c (L.length : Int)
  have q2 := q1 (by omega)
  unfold spec_l1Int.f
  rw [e]
  simp only [Option.bind_some]
  rw [if_pos q0, if_pos q2]
  refine ⟨_, _, _, rfl, ?_, c'⟩
  unfold rd
  have hq : q.toNat < L.length := by omega
  rw [List.getD_eq_getElem?_getD, List.getElem?_eq_getElem hq]
  exact List.getElem_mem hq
theorem str_ok {l : List Int} {i : Int} (h : Int) (c : Cur l i) (L : List ByteArray) (hL : 0 < L.length) : ∃ x i' h', spec_l1Str.f l i h L = some (x, i', h') ∧ x ∈ L ∧ Cur l i' := by
  obtain ⟨q, i', h', e, q0, q1, c'⟩ := below_ok h c (L.length : Int)
  have hlen : (L.length : Int) ≤ L.length := by omega
  have q2 := q1 (by omega)
  unfold spec_l1Str.f
  rw [e]
  simp only [Option.bind_some]
  rw [if_pos q0, if_pos q2]
  refine ⟨_, _, _, rfl, ?_, c'⟩
  unfold rdOf
  have hq : q.toNat < L.length := by omega
  rw [List.getD_eq_getElem?_getD, List.getElem?_eq_getElem hq]
  exact List.getElem_mem hq
theorem str_small {l : List Int} {i : Int} (h : Int) (c : Cur l i) (L : List ByteArray) (hL : 0 < L.length) (n : Nat) (hs : (L.all fun x => decide (x.size ≤ n)) = true) : ∃ x i' h', spec_l1Str.f l i h L = some (x, i', h') ∧ x.size ≤ n ∧ Cur l i' := by
  obtain ⟨x, i', h', e, hx, c'⟩ := str_ok h c L hL
  exact ⟨x, i', h', e, of_decide_eq_true (List.all_eq_true.1 hs x hx), c'⟩
theorem bent_ok {l : List Int} {i : Int} (h : Int) (c : Cur l i) (s : ByteArray) (hs : s.size ≤ 900000) : ∃ x i' h', spec_l1Bent.f l i h s = some (x, i', h') ∧ x.size ≤ s.size + 1 ∧ Cur l i' := by
  have hl := bytesOf_length s
  obtain ⟨q, i1, h1, e1, q0, q1, c1⟩ := below_ok h c 7
  unfold spec_l1Bent.f
  rw [if_pos (by omega), e1]
  simp only [Option.bind_some]
  by_cases g0 : q = 0
  · rw [if_pos g0]
    by_cases z : 0 < s.size
    · obtain ⟨x, i2, h2, e2, x0, x1, c2⟩ := below_ok h1 c1 (s.size : Int)
      obtain ⟨y, i3, h3, e3, y0, y1, c3⟩ := below_ok h2 c2 256
      have x2 := x1 (by omega)
      rw [if_pos z, e2]
      simp only [Option.bind_some]
      rw [e3]
      simp only [Option.bind_some]
      rw [if_pos ⟨x0, x2⟩]
      exact ⟨_, _, _, rfl, by rw [strOfNums_size, List.length_set]; omega, c3⟩
    · rw [if_neg z]
      exact ⟨_, _, _, rfl, by omega, c1⟩
  · rw [if_neg g0]
    by_cases g1 : q = 1
    · obtain ⟨x, i2, h2, e2, x0, x1, c2⟩ := below_ok h1 c1 ((s.size : Int) + 1)
      have x2 := x1 (by omega)
      rw [if_pos g1, e2]
      simp only [Option.bind_some]
      rw [if_pos ⟨x0, by omega⟩]
      exact ⟨_, _, _, rfl, by rw [strOfNums_size, List.length_take]; omega, c2⟩
    · rw [if_neg g1]
      by_cases g2 : q = 2
      · obtain ⟨x, i2, h2, e2, _, c2⟩ := int_ok h1 c1 ([0, 32, 44, 34, 255] : List Int) (by decide)
        rw [if_pos g2, e2]
        exact ⟨_, _, _, rfl, by rw [strOfNums_size, List.length_append, hl]; exact Nat.le_refl _, c2⟩
      · rw [if_neg g2]
        by_cases g3 : q = 3
        · rw [if_pos g3]
          by_cases z : 0 < s.size
          · obtain ⟨x, i2, h2, e2, x0, x1, c2⟩ := below_ok h1 c1 (s.size : Int)
            have x2 := x1 (by omega)
            rw [if_pos z, e2]
            simp only [Option.bind_some]
            rw [if_pos ⟨x0, x2⟩]
            exact ⟨_, _, _, rfl, by rw [strOfNums_size, List.length_append, List.length_take, List.length_drop]; omega, c2⟩
          · rw [if_neg z]
            exact ⟨_, _, _, rfl, by omega, c1⟩
        · rw [if_neg g3]
          exact ⟨_, _, _, rfl, by omega, c1⟩
theorem once1_ok {l : List Int} {i : Int} (h : Int) (c : Cur l i) (n : Int) : ∃ b i' h', spec_l1Once.f l i h n = some (b, i', h') ∧ Cur l i' := by
  obtain ⟨x, i1, h1, e1, _, _, c1⟩ := below_ok h c n
  unfold spec_l1Once.f
  rw [e1]
  exact ⟨_, _, _, rfl, c1⟩
theorem spec_l1In_eq (a b c : Int) : spec_l1In.f a b c = some (decide (b ≤ a ∧ a ≤ c)) := by
  unfold spec_l1In.f
  by_cases h : a ≥ b
  · rw [if_pos h]; congr 1; apply decide_eq_decide.mpr; constructor
    · exact fun x => ⟨h, x⟩
    · exact fun x => x.2
  · rw [if_neg h]; congr 1; symm; apply decide_eq_false; omega
theorem impl_inRange_eq (a b c : Int) : impl_inRange.f a b c = some (decide (b ≤ a ∧ a ≤ c)) := by
  unfold impl_inRange.f
  by_cases h : b ≤ a
  · rw [if_pos h]; congr 1; apply decide_eq_decide.mpr; constructor
    · exact fun x => ⟨h, x⟩
    · exact fun x => x.2
  · rw [if_neg h]; congr 1; symm; apply decide_eq_false; omega
def tagB (b : Int) : Bool := decide (33 ≤ b ∧ b ≤ 126 ∧ b ≠ 34)
def tagV (s : ByteArray) : Bool := (bytesOf s).all tagB && decide ((s.size : Int) ≤ 40)
theorem spec_IsTag_ev (w : Bool) (s : ByteArray) (hs : s.size ≤ 4611686018427387904) : Ev (fun k => spec_IsTag.f k w s) (tagV s) := by
  have key : ∀ (rest pre : List Int), bytesOf s = pre ++ rest → Ev (fun k => spec_IsTag.l0 k (pre.length : Int) w s) (rest.all tagB && decide ((s.size : Int) ≤ 40)) := by
    intro rest
    induction rest with
    | nil =>
      intro pre h
      have hz := size_mid h
      simp only [List.length_nil] at hz
      refine Ev.step (f := fun _ => some (decide ((s.size : Int) ≤ 40))) (fun k => ?_) (by simpa using Ev.now _)
      simp only [spec_IsTag.l0]
      rw [if_neg (by omega)]
    | cons b rest ih =>
      intro pre h
      have hz := size_mid h
      simp only [List.length_cons] at hz
      have hb := bt_mid h
      have hr : 0 ≤ b ∧ b ≤ 255 := by rw [← hb]; exact bt_range s _
      have hw := len_step pre b (by omega)
      by_cases e : 33 ≤ b ∧ b ≤ 126
      · have hd : decide (33 ≤ b ∧ b ≤ 126) = true := decide_eq_true e
        by_cases q : b = 34
        · refine Ev.step (f := fun _ => some false) (fun k => ?_) (by simpa [tagB, e, q] using Ev.now _)
          simp only [spec_IsTag.l0]
          rw [if_pos (by omega), if_pos (by omega), hb, wrap_id (by omega) (by omega), spec_l1In_eq, Option.bind_some, if_pos hd, if_pos q]
        · refine Ev.step (f := fun k => spec_IsTag.l0 k ((pre ++ [b]).length : Int) w s) (fun k => ?_) (by simpa [tagB, e, q] using ih (pre ++ [b]) (by simp [h]))
          simp only [spec_IsTag.l0]
          rw [if_pos (by omega), if_pos (by omega), hb, wrap_id (n := b) (by omega) (by omega), spec_l1In_eq, Option.bind_some, if_pos hd, if_neg q, hw]
      · have hd : ¬ decide (33 ≤ b ∧ b ≤ 126) = true := by simp [e]
        have ht : tagB b = false := by unfold tagB; apply decide_eq_false; exact fun g => e ⟨g.1, g.2.1⟩
        refine Ev.step (f := fun _ => some false) (fun k => ?_) (by simpa [ht] using Ev.now _)
        simp only [spec_IsTag.l0]
        rw [if_pos (by omega), if_pos (by omega), hb, wrap_id (by omega) (by omega), spec_l1In_eq, Option.bind_some, if_neg hd]
  have := key (bytesOf s) [] rfl
  simpa [spec_IsTag.f, tagV] using this
theorem impl_IsTag_ev (w : Bool) (s : ByteArray) (hs : s.size ≤ 4611686018427387904) : Ev (fun k => impl_IsTag.f k w s) (tagV s) := by
  have key : ∀ (rest pre : List Int), bytesOf s = pre ++ rest → Ev (fun k => impl_IsTag.l0 k (s.size : Int) (pre.length : Int) w s) (rest.all tagB && decide ((s.size : Int) ≤ 40)) := by
    intro rest
    induction rest with
    | nil =>
      intro pre h
      have hz := size_mid h
      simp only [List.length_nil] at hz
      refine Ev.step (f := fun _ => some (decide ((s.size : Int) ≤ 40))) (fun k => ?_) (by simpa using Ev.now _)
      simp only [impl_IsTag.l0]
      rw [if_neg (by omega)]
    | cons b rest ih =>
      intro pre h
      have hz := size_mid h
      simp only [List.length_cons] at hz
      have hb := bt_mid h
      have hr : 0 ≤ b ∧ b ≤ 255 := by rw [← hb]; exact bt_range s _
      have hw := len_step pre b (by omega)
      by_cases e : 33 ≤ b ∧ b ≤ 126
      · have hd : decide (33 ≤ b ∧ b ≤ 126) = true := decide_eq_true e
        by_cases q : b = 34
        · refine Ev.step (f := fun _ => some false) (fun k => ?_) (by simpa [tagB, e, q] using Ev.now _)
          simp only [impl_IsTag.l0]
          rw [if_pos (by omega), if_pos (by omega), if_pos (by omega), hb, wrap_id (by omega) (by omega), impl_inRange_eq, Option.bind_some, if_pos hd, if_pos q]
        · refine Ev.step (f := fun k => impl_IsTag.l0 k (s.size : Int) ((pre ++ [b]).length : Int) w s) (fun k => ?_) (by simpa [tagB, e, q] using ih (pre ++ [b]) (by simp [h]))
          simp only [impl_IsTag.l0]
          rw [if_pos (by omega), if_pos (by omega), if_pos (by omega), hb, wrap_id (n := b) (by omega) (by omega), impl_inRange_eq, Option.bind_some, if_pos hd, if_neg q, hw]
      · have hd : ¬ decide (33 ≤ b ∧ b ≤ 126) = true := by simp [e]
        have ht : tagB b = false := by unfold tagB; apply decide_eq_false; exact fun g => e ⟨g.1, g.2.1⟩
        refine Ev.step (f := fun _ => some false) (fun k => ?_) (by simpa [ht] using Ev.now _)
        simp only [impl_IsTag.l0]
        rw [if_pos (by omega), if_pos (by omega), if_pos (by omega), hb, wrap_id (by omega) (by omega), impl_inRange_eq, Option.bind_some, if_neg hd]
  have := key (bytesOf s) [] rfl
  simpa [impl_IsTag.f, tagV] using this
def ftagV (w : Bool) (s : ByteArray) : ByteArray := if tagV s = true then (if w = true then ((⟨#[87, 47, 34]⟩ : ByteArray) ++ s) ++ (⟨#[34]⟩ : ByteArray) else ((⟨#[34]⟩ : ByteArray) ++ s) ++ (⟨#[34]⟩ : ByteArray)) else (⟨#[]⟩ : ByteArray)
theorem spec_FormatTag_ev (w : Bool) (s : ByteArray) (hs : s.size ≤ 4611686018427387904) : Ev (fun k => spec_FormatTag.f k w s) (ftagV w s) := by
  unfold spec_FormatTag.f ftagV
  refine Ev.bind (spec_IsTag_ev w s hs) ?_
  by_cases h : tagV s = true
  · simp only [if_pos h]
    by_cases g : w = true
    · simp only [if_pos g]
      rw [if_pos (by omega), if_pos (by rw [ByteArray.size_append]; have : (⟨#[87, 47, 34]⟩ : ByteArray).size = 3 := rfl; omega)]
      exact Ev.now _
    · simp only [if_neg g]
      rw [if_pos (by omega), if_pos (by rw [ByteArray.size_append]; have : (⟨#[34]⟩ : ByteArray).size = 1 := rfl; omega)]
      exact Ev.now _
  · simp only [if_neg h]
    exact Ev.now _
theorem draw7_ok {l : List Int} {i : Int} (h : Int) (c : Cur l i) : ∃ w t i' h', spec_l7Draw.f l i h = some (w, t, i', h') ∧ t.size ≤ 50 ∧ Cur l i' := by
  obtain ⟨w, i1, h1, e1, c1⟩ := once1_ok h c 3
  obtain ⟨t, i2, h2, e2, t2, c2⟩ := str_small h1 c1 ([(⟨#[118, 49]⟩ : ByteArray), (⟨#[118, 50]⟩ : ByteArray), (⟨#[]⟩ : ByteArray), (⟨#[97, 44, 98]⟩ : ByteArray), (⟨#[120, 32, 121]⟩ : ByteArray), (⟨#[118, 49, 45, 100, 101]⟩ : ByteArray), (⟨#[34]⟩ : ByteArray), (⟨#[97, 98, 99, 100, 101, 102, 103, 104, 105, 106, 97, 98, 99, 100, 101, 102, 103, 104, 105, 106, 97, 98, 99, 100, 101, 102, 103, 104, 105, 106, 97, 98, 99, 100, 101, 102, 103, 104, 105, 106, 107]⟩ : ByteArray)] : List ByteArray) (by decide) 50 (by decide +kernel)
  unfold spec_l7Draw.f
  rw [e1]
  simp only [Option.bind_some]
  rw [e2]
  exact ⟨w, t, i2, h2, rfl, t2, c2⟩
theorem ftag_size (w : Bool) (s : ByteArray) : (ftagV w s).size ≤ s.size + 4 := by
  unfold ftagV
  have z1 : (⟨#[34]⟩ : ByteArray).size = 1 := rfl
  have z2 : (⟨#[87, 47, 34]⟩ : ByteArray).size = 3 := rfl
  have z3 : (⟨#[]⟩ : ByteArray).size = 0 := rfl
  repeat' split
  all_goals (try simp only [ByteArray.size_append]) <;> omega
theorem tagl_loop (l : List Int) (d : Nat) : ∀ (x : ByteArray) (i h : Int), Cur l i → x.size + 60 * d ≤ 1000 → ∃ t, Ev (fun k => spec_DrawParseTagList.l0 k x (d : Int) l i h) t ∧ t.size ≤ 1001 := by
  induction d with
  | zero =>
    intro x i h c hx
    obtain ⟨b, i1, h1, e1, c1⟩ := once1_ok h c 6
    cases b with
    | true =>
      obtain ⟨t, i2, h2, e2, t2, c2⟩ := str_small h1 c1 ([(⟨#[42]⟩ : ByteArray), (⟨#[32, 42, 32]⟩ : ByteArray), (⟨#[42, 44, 32, 34, 97, 34]⟩ : ByteArray), (⟨#[34, 49, 34, 44, 34, 50, 34, 44, 34, 51, 34, 44, 34, 52, 34, 44, 34, 53, 34, 44, 34, 54, 34, 44, 34, 55, 34, 44, 34, 56, 34, 44, 34, 57, 34]⟩ : ByteArray)] : List ByteArray) (by decide) 50 (by decide +kernel)
      refine ⟨t, Ev.step (f := fun _ => some t) (fun k => ?_) (Ev.now _), by omega⟩
      simp only [spec_DrawParseTagList.l0]
      rw [if_neg (by omega), e1, Option.bind_some]
      simp only
      rw [if_pos trivial, e2]
      rfl
    | false =>
      obtain ⟨t, i2, h2, e2, t2, c2⟩ := bent_ok h1 c1 x (by omega)
      refine ⟨t, Ev.step (f := fun _ => some t) (fun k => ?_) (Ev.now _), by omega⟩
      simp only [spec_DrawParseTagList.l0]
      rw [if_neg (by omega), e1, Option.bind_some]
      simp only
      rw [if_neg (by simp), e2]
      rfl
  | succ d ih =>
    intro x i h c hx
    obtain ⟨w, t, i1, h1, e1, t1, c1⟩ := draw7_ok h c
    obtain ⟨b, i2, h2, e2, b2, c2⟩ := str_small h1 c1 ([(⟨#[44, 32]⟩ : ByteArray), (⟨#[44]⟩ : ByteArray), (⟨#[32, 44, 32]⟩ : ByteArray)] : List ByteArray) (by decide) 3 (by decide +kernel)
    have zt := ftag_size w t
    have z1 : (x ++ ftagV w t).size = x.size + (ftagV w t).size := ByteArray.size_append
    have z2 : ((x ++ ftagV w t) ++ b).size = x.size + (ftagV w t).size + b.size := by rw [ByteArray.size_append, z1]
    obtain ⟨r, hr, hs⟩ := ih ((x ++ ftagV w t) ++ b) i2 h2 c2 (by omega)
    refine ⟨r, Ev.step (f := fun k => (spec_FormatTag.f k w t).bind fun u => (if x.size + u.size ≤ 9223372036854775807 then ((spec_l1Str.f l i1 h1 (([(⟨#[44, 32]⟩ : ByteArray), (⟨#[44]⟩ : ByteArray), (⟨#[32, 44, 32]⟩ : ByteArray)] : List ByteArray))).bind fun v => (if (x ++ u).size + v.1.size ≤ 9223372036854775807 then (spec_DrawParseTagList.l0 k ((x ++ u) ++ v.1) (d : Int) l v.2.1 v.2.2) else (none))) else (none))) (fun k => ?_) (Ev.bind (spec_FormatTag_ev w t (by omega)) ?_), hs⟩
    · simp only [spec_DrawParseTagList.l0]
      rw [if_pos (by omega), e1, Option.bind_some, wrap_id (n := ((d + 1 : Nat) : Int) - 1) (by omega) (by omega), show ((d + 1 : Nat) : Int) - 1 = (d : Int) by omega]
    · refine Ev.pos (by omega) ?_
      rw [e2]
      simp only [Option.bind_some]
      exact Ev.pos (by omega) hr
def rdropI (p : Int → Bool) : List Int → List Int
  | [] => []
  | b :: r => if rdropI p r = [] ∧ p b = true then [] else b :: rdropI p r
def trimP (p : Int → Bool) (l : List Int) : List Int := (rdropI p l).dropWhile p
def blankI (b : Int) : Bool := b == 32 || b == 9
theorem rdropI_concat (p : Int → Bool) (l : List Int) (b : Int) : rdropI p (l ++ [b]) = if p b = true then rdropI p l else l ++ [b] := by
  induction l with
  | nil => by_cases h : p b = true <;> simp [rdropI, h]
  | cons x r ih =>
    by_cases h : p b = true
    · rw [if_pos h] at ih ⊢
      simp only [List.cons_append, rdropI, ih]
    · rw [if_neg h] at ih ⊢
      simp only [List.cons_append, rdropI, ih]
      rw [if_neg (by simp)]
theorem rdropI_eq (p : Int → Bool) (l : List Int) : (l.reverse.dropWhile p).reverse = rdropI p l := by
  obtain ⟨n, hn⟩ : ∃ n, l.length = n := ⟨_, rfl⟩
  induction n generalizing l with
  | zero => obtain rfl := List.eq_nil_of_length_eq_zero hn; rfl
  | succ n ih =>
    rcases List.eq_nil_or_concat l with h | ⟨r, b, h⟩
    · subst h; rfl
    · subst h
      rw [List.concat_eq_append, rdropI_concat, List.reverse_append]
      simp only [List.reverse_cons, List.reverse_nil, List.nil_append, List.singleton_append, List.dropWhile_cons]
      by_cases hb : p b = true
      · rw [if_pos hb, if_pos hb]
        exact ih r (by simp at hn; omega)
      · rw [if_neg hb, if_neg hb]; simp
theorem rdropI_length (p : Int → Bool) (l : List Int) : (rdropI p l).length ≤ l.length := by
  induction l with
  | nil => simp [rdropI]
  | cons b r ih => unfold rdropI; split <;> simp only [List.length_nil, List.length_cons] <;> omega
theorem rdropI_all (p : Int → Bool) (l : List Int) : rdropI p l = [] ↔ ∀ x ∈ l, p x = true := by
  induction l with
  | nil => simp [rdropI]
  | cons b r ih =>
    unfold rdropI
    split
    · rename_i h
      simp only [List.mem_cons, forall_eq_or_imp, true_iff]
      exact ⟨h.2, ih.1 h.1⟩
    · rename_i h
      simp only [List.mem_cons, forall_eq_or_imp, reduceCtorEq, false_iff]
      exact fun g => h ⟨ih.2 g.2, g.1⟩
/-- It is all one which end goes first. -/
theorem drop_rdrop (p : Int → Bool) (l : List Int) : (rdropI p l).dropWhile p = rdropI p (l.dropWhile p) := by
  induction l with
  | nil => rfl
  | cons b r ih =>
    by_cases h : p b = true
    · rw [List.dropWhile_cons_of_pos h]
      by_cases g : rdropI p r = []
      · have e : rdropI p (b :: r) = [] := by unfold rdropI; rw [if_pos ⟨g, h⟩]
        rw [e, ← ih, g]
      · have e : rdropI p (b :: r) = b :: rdropI p r := by rw [rdropI, if_neg (fun z => g z.1)]
        rw [e, List.dropWhile_cons_of_pos h, ih]
    · have e : rdropI p (b :: r) = b :: rdropI p r := by rw [rdropI, if_neg (fun z => h z.2)]
      rw [e, List.dropWhile_cons_of_neg h, List.dropWhile_cons_of_neg h, e]
theorem trimP_length (p : Int → Bool) (l : List Int) : (trimP p l).length ≤ l.length :=
  Nat.le_trans (List.dropWhile_sublist p).length_le (rdropI_length p l)
theorem dropWhile_mem {p : Int → Bool} {l : List Int} {x : Int} (h : x ∈ l.dropWhile p) : x ∈ l := (List.dropWhile_sublist p).subset h
theorem rdropI_mem {p : Int → Bool} {l : List Int} {x : Int} (h : x ∈ rdropI p l) : x ∈ l := by
  rw [← rdropI_eq] at h
  have := dropWhile_mem (List.mem_reverse.1 h)
  exact List.mem_reverse.1 this
theorem trimP_mem {p : Int → Bool} {l : List Int} {x : Int} (h : x ∈ trimP p l) : x ∈ l := rdropI_mem (dropWhile_mem h)
theorem InB_trim {p : Int → Bool} {l : List Int} (h : InB l) : InB (trimP p l) := fun x hx => h x (trimP_mem hx)
theorem rdropI_nil_cons {p : Int → Bool} {l : List Int} : rdropI p (rdropI p l) = rdropI p l := by
  induction l with
  | nil => rfl
  | cons b r ih =>
    by_cases g : rdropI p r = [] ∧ p b = true
    · have e : rdropI p (b :: r) = [] := by rw [rdropI, if_pos g]
      rw [e]; rfl
    · have e : rdropI p (b :: r) = b :: rdropI p r := by rw [rdropI, if_neg g]
      rw [e, rdropI, ih, if_neg g]
theorem dropWhile_idem (p : Int → Bool) (l : List Int) : (l.dropWhile p).dropWhile p = l.dropWhile p := by
  induction l with
  | nil => rfl
  | cons b r ih =>
    by_cases h : p b = true
    · rw [List.dropWhile_cons_of_pos h, ih]
    · rw [List.dropWhile_cons_of_neg h, List.dropWhile_cons_of_neg h]
theorem trimP_idem (p : Int → Bool) (l : List Int) : trimP p (trimP p l) = trimP p l := by
  unfold trimP
  rw [drop_rdrop p (List.dropWhile p (rdropI p l)), dropWhile_idem, ← drop_rdrop, rdropI_nil_cons]
def trimV (s : ByteArray) : ByteArray := strOfNums (trimP blankI (bytesOf s))
theorem bytesOf_trimV (s : ByteArray) : bytesOf (trimV s) = trimP blankI (bytesOf s) := bytesOf_strOf (InB_trim (InB_bytes s))
theorem trimV_size (s : ByteArray) : (trimV s).size ≤ s.size := by
  rw [← bytesOf_length, ← bytesOf_length, bytesOf_trimV]; exact trimP_length _ _
/-! ### A text divided at commas outside quoted strings -/
def cutL (q : Bool) (cur l : List Int) : List (List Int) :=
  match l with
  | [] => [cur]
  | b :: r =>
    if q = true ∧ b = 92 then (match r with
      | [] => [cur ++ [b]]
      | c :: r' => cutL q (cur ++ [b, c]) r')
    else if b = 34 then cutL (!q) (cur ++ [b]) r
    else if q = false ∧ b = 44 then cur :: cutL false [] r
    else cutL q (cur ++ [b]) r
termination_by l.length
decreasing_by all_goals simp only [List.length_cons]; omega
theorem cutL_nil (q : Bool) (cur : List Int) : cutL q cur [] = [cur] := by unfold cutL; rfl
theorem cutL_last (cur : List Int) : cutL true cur [92] = [cur ++ [92]] := by unfold cutL; simp
theorem cutL_esc (cur : List Int) (c : Int) (r : List Int) : cutL true cur (92 :: c :: r) = cutL true (cur ++ [92, c]) r := by rw [cutL.eq_def]; simp
theorem cutL_quote (q : Bool) (cur r : List Int) : cutL q cur (34 :: r) = cutL (!q) (cur ++ [34]) r := by rw [cutL.eq_def]; simp
theorem cutL_comma (cur r : List Int) : cutL false cur (44 :: r) = cur :: cutL false [] r := by rw [cutL.eq_def]; simp
theorem cutL_other (q : Bool) (cur r : List Int) (b : Int) (h1 : ¬ (q = true ∧ b = 92)) (h2 : b ≠ 34) (h3 : ¬ (q = false ∧ b = 44)) : cutL q cur (b :: r) = cutL q (cur ++ [b]) r := by
  rw [cutL.eq_def]
  simp only
  rw [if_neg h1, if_neg h2, if_neg h3]
/-- One way through a text at a time: what the five cases of cutL are good for. -/
theorem cut_cases {p : Bool → List Int → Prop} (hnil : ∀ q, p q []) (hlast : p true [92]) (hesc : ∀ c r, p true r → p true (92 :: c :: r)) (hquote : ∀ q r, p (!q) r → p q (34 :: r)) (hcomma : ∀ r, p false r → p false (44 :: r))
    (hother : ∀ q b r, ¬ (q = true ∧ b = 92) → b ≠ 34 → ¬ (q = false ∧ b = 44) → p q r → p q (b :: r)) : ∀ (n : Nat) (q : Bool) (l : List Int), l.length ≤ n → p q l := by
  intro n
  induction n with
  | zero => intro q l h; obtain rfl : l = [] := List.eq_nil_of_length_eq_zero (by omega); exact hnil q
  | succ n ih =>
    intro q l h
    match l, h with
    | [], _ => exact hnil q
    | b :: r, h =>
      simp only [List.length_cons] at h
      by_cases h1 : q = true ∧ b = 92
      · obtain ⟨rfl, rfl⟩ := h1
        match r, h with
        | [], _ => exact hlast
        | c :: r', h => exact hesc c r' (ih true r' (by simp only [List.length_cons] at h; omega))
      · by_cases h2 : b = 34
        · subst h2; exact hquote q r (ih _ r (by omega))
        · by_cases h3 : q = false ∧ b = 44
          · obtain ⟨rfl, rfl⟩ := h3; exact hcomma r (ih _ r (by omega))
          · exact hother q b r h1 h2 h3 (ih q r (by omega))
theorem cut_ind {p : Bool → List Int → Prop} (hnil : ∀ q, p q []) (hlast : p true [92]) (hesc : ∀ c r, p true r → p true (92 :: c :: r)) (hquote : ∀ q r, p (!q) r → p q (34 :: r)) (hcomma : ∀ r, p false r → p false (44 :: r))
    (hother : ∀ q b r, ¬ (q = true ∧ b = 92) → b ≠ 34 → ¬ (q = false ∧ b = 44) → p q r → p q (b :: r)) (q : Bool) (l : List Int) : p q l := cut_cases hnil hlast hesc hquote hcomma hother l.length q l (Nat.le_refl _)
def splitL (l : List Int) : List (List Int) := ((cutL false [] l).map (trimP blankI)).filter (fun x => decide (x ≠ []))
def splitV (s : ByteArray) : List ByteArray := (splitL (bytesOf s)).map strOfNums
theorem cutL_mem (q : Bool) (l : List Int) : ∀ (cur : List Int) (S : Int → Prop), (∀ x ∈ cur, S x) → (∀ x ∈ l, S x) → ∀ m ∈ cutL q cur l, ∀ x ∈ m, S x := by
  refine cut_ind (p := fun q l => ∀ (cur : List Int) (S : Int → Prop), (∀ x ∈ cur, S x) → (∀ x ∈ l, S x) → ∀ m ∈ cutL q cur l, ∀ x ∈ m, S x) ?_ ?_ ?_ ?_ ?_ ?_ q l
  · intro q cur S h0 h1 m hm; rw [cutL_nil] at hm; simp at hm; subst hm; exact h0
  · intro cur S h0 h1 m hm; rw [cutL_last] at hm; simp at hm; subst hm
    intro x hx; rcases List.mem_append.1 hx with g | g
    · exact h0 x g
    · exact h1 x g
  · intro c r ih cur S h0 h1 m hm
    rw [cutL_esc] at hm
    exact ih _ S (by intro x hx; rcases List.mem_append.1 hx with g | g
                     · exact h0 x g
                     · refine h1 x ?_; simp at g ⊢; rcases g with g | g <;> simp [g]) (fun x hx => h1 x (by simp [hx])) m hm
  · intro q r ih cur S h0 h1 m hm
    rw [cutL_quote] at hm
    exact ih _ S (by intro x hx; rcases List.mem_append.1 hx with g | g
                     · exact h0 x g
                     · exact h1 x (by simp at g; simp [g])) (fun x hx => h1 x (by simp [hx])) m hm
  · intro r ih cur S h0 h1 m hm
    rw [cutL_comma] at hm
    rcases List.mem_cons.1 hm with g | g
    · subst g; exact h0
    · exact ih [] S (by simp) (fun x hx => h1 x (by simp [hx])) m g
  · intro q b r g1 g2 g3 ih cur S h0 h1 m hm
    rw [cutL_other q cur r b g1 g2 g3] at hm
    exact ih _ S (by intro x hx; rcases List.mem_append.1 hx with g | g
                     · exact h0 x g
                     · exact h1 x (by simp at g; simp [g])) (fun x hx => h1 x (by simp [hx])) m hm
theorem cutL_total (q : Bool) (l : List Int) : ∀ cur : List Int, (cutL q cur l).length + ((cutL q cur l).map List.length).sum ≤ cur.length + l.length + 1 := by
  refine cut_ind (p := fun q l => ∀ cur : List Int, (cutL q cur l).length + ((cutL q cur l).map List.length).sum ≤ cur.length + l.length + 1) ?_ ?_ ?_ ?_ ?_ ?_ q l
  · intro q cur; rw [cutL_nil]; simp; omega
  · intro cur; rw [cutL_last]; simp; omega
  · intro c r ih cur; rw [cutL_esc]; have := ih (cur ++ [92, c]); simp only [List.length_append, List.length_cons, List.length_nil] at this ⊢; omega
  · intro q r ih cur; rw [cutL_quote]; have := ih (cur ++ [34]); simp only [List.length_append, List.length_cons, List.length_nil] at this ⊢; omega
  · intro r ih cur; rw [cutL_comma]; have := ih []; simp only [List.length_cons, List.length_nil, List.map_cons, List.sum_cons] at this ⊢; omega
  · intro q b r g1 g2 g3 ih cur; rw [cutL_other q cur r b g1 g2 g3]; have := ih (cur ++ [b]); simp only [List.length_append, List.length_cons, List.length_nil] at this ⊢; omega
theorem cutL_prepend (q : Bool) (l : List Int) : ∀ c1 c2 : List Int, ∃ h t, cutL q c2 l = h :: t ∧ cutL q (c1 ++ c2) l = (c1 ++ h) :: t := by
  refine cut_ind (p := fun q l => ∀ c1 c2 : List Int, ∃ h t, cutL q c2 l = h :: t ∧ cutL q (c1 ++ c2) l = (c1 ++ h) :: t) ?_ ?_ ?_ ?_ ?_ ?_ q l
  · intro q c1 c2; exact ⟨c2, [], by rw [cutL_nil], by rw [cutL_nil]⟩
  · intro c1 c2; exact ⟨c2 ++ [92], [], by rw [cutL_last], by rw [cutL_last]; simp⟩
  · intro c r ih c1 c2; rw [cutL_esc, cutL_esc, List.append_assoc]; exact ih c1 _
  · intro q r ih c1 c2; rw [cutL_quote, cutL_quote, List.append_assoc]; exact ih c1 _
  · intro r ih c1 c2; rw [cutL_comma, cutL_comma]; exact ⟨c2, _, rfl, rfl⟩
  · intro q b r g1 g2 g3 ih c1 c2; rw [cutL_other q _ r b g1 g2 g3, cutL_other q _ r b g1 g2 g3, List.append_assoc]; exact ih c1 _
theorem splitL_mem {l m : List Int} (h : m ∈ splitL l) : m ≠ [] ∧ trimP blankI m = m ∧ ∃ x, x ∈ cutL false [] l ∧ m = trimP blankI x := by
  unfold splitL at h
  obtain ⟨h1, h2⟩ := List.mem_filter.1 h
  obtain ⟨x, hx, rfl⟩ := List.mem_map.1 h1
  exact ⟨of_decide_eq_true h2, trimP_idem _ _, x, hx, rfl⟩
theorem InB_split {l : List Int} (hl : InB l) : ∀ m ∈ splitL l, InB m := by
  intro m hm
  obtain ⟨_, _, x, hx, rfl⟩ := splitL_mem hm
  exact InB_trim (cutL_mem false l [] (fun x => 0 ≤ x ∧ x ≤ 255) (by simp) hl x hx)
theorem splitL_total (l : List Int) : (splitL l).length + ((splitL l).map List.length).sum ≤ l.length + 1 := by
  have h := cutL_total false l []
  unfold splitL
  have aux : ∀ L : List (List Int), ((L.map (trimP blankI)).filter (fun x => decide (x ≠ []))).length + (((L.map (trimP blankI)).filter (fun x => decide (x ≠ []))).map List.length).sum ≤ L.length + (L.map List.length).sum := by
    intro L
    induction L with
    | nil => simp
    | cons x r ih =>
      have := trimP_length blankI x
      simp only [List.map_cons, List.sum_cons, List.length_cons]
      by_cases g : trimP blankI x = []
      · rw [List.filter_cons_of_neg (by simp [g])]; omega
      · rw [List.filter_cons_of_pos (by simp [g])]; simp only [List.length_cons, List.map_cons, List.sum_cons]; omega
  have := aux (cutL false [] l)
  simp only [List.length_nil] at h
  omega
theorem ext_mid {s : ByteArray} {pre cur rest : List Int} (h : bytesOf s = pre ++ cur ++ rest) : s.extract pre.length (pre.length + cur.length) = strOfNums cur := by
  apply bytesOf_inj
  have hb : InB cur := by have := InB_bytes s; rw [h, InB_append, InB_append] at this; exact this.1.2
  rw [bytesOf_strOf hb, bytesOf_extract, h]
  rw [show pre.length + cur.length = (pre ++ cur).length by simp, List.take_left, List.drop_left]
theorem ext_end {s : ByteArray} {pre cur : List Int} (h : bytesOf s = pre ++ cur) : s.extract pre.length s.size = strOfNums cur := by
  have e := ext_mid (s := s) (pre := pre) (cur := cur) (rest := []) (by simpa using h)
  have : s.size = pre.length + cur.length := by rw [← bytesOf_length, h, List.length_append]
  rw [this]; exact e
/-- The parts, trimmed, without the empty ones. -/
def partsV (m : List (List Int)) : List ByteArray := ((m.map (trimP blankI)).filter (fun x => decide (x ≠ []))).map strOfNums
theorem splitV_parts (s : ByteArray) : splitV s = partsV (cutL false [] (bytesOf s)) := rfl
theorem rdS_mid2 {l pre rest : List ByteArray} {x : ByteArray} (h : l = pre ++ x :: rest) : rdOf ByteArray.empty l (pre.length : Int) = x := getD_mid h
theorem partsV_nil : partsV [] = [] := rfl
theorem partsV_cons (x : List Int) (m : List (List Int)) : partsV (x :: m) = (if trimP blankI x = [] then [] else [strOfNums (trimP blankI x)]) ++ partsV m := by
  unfold partsV
  by_cases h : trimP blankI x = []
  · simp [h]
  · simp [h]
theorem partsV_append (a b : List (List Int)) : partsV (a ++ b) = partsV a ++ partsV b := by unfold partsV; simp
theorem partsV_len (m : List (List Int)) : (partsV m).length ≤ m.length := by
  unfold partsV
  rw [List.length_map]
  exact Nat.le_trans (List.length_filter_le _ _) (by simp)
theorem trimV_of {x : List Int} (h : InB x) : trimV (strOfNums x) = strOfNums (trimP blankI x) := by unfold trimV; rw [bytesOf_strOf h]
theorem strOf_nil {x : List Int} : (strOfNums x).toList = ([] : List UInt8) ↔ x = [] := by
  have e : ([] : List UInt8) = (⟨#[]⟩ : ByteArray).toList := by rw [ByteArray.toList_eq]
  rw [e, toList_iff]
  constructor
  · intro h
    have : (strOfNums x).size = 0 := by rw [h]; rfl
    rw [strOfNums_size] at this
    exact List.eq_nil_of_length_eq_zero this
  · rintro rfl; rfl
theorem mem_len_le {L : List (List Int)} {m : List Int} (h : m ∈ L) : m.length ≤ (L.map List.length).sum := by
  induction L with
  | nil => simp at h
  | cons x r ih =>
    simp only [List.map_cons, List.sum_cons]
    rcases List.mem_cons.1 h with g | g
    · subst g; omega
    · have := ih g; omega
theorem split_sizes (s : ByteArray) : ∀ t ∈ splitV s, t.size ≤ s.size + 1 := by
  intro t ht
  unfold splitV at ht
  obtain ⟨m, hm, rfl⟩ := List.mem_map.1 ht
  have h1 := splitL_total (bytesOf s)
  have h2 := mem_len_le hm
  rw [bytesOf_length] at h1
  rw [strOfNums_size]; omega
theorem split_count (s : ByteArray) : (splitV s).length ≤ s.size + 1 := by
  have := splitL_total (bytesOf s)
  rw [bytesOf_length] at this
  unfold splitV
  rw [List.length_map]; omega
def tagOK (m : List Int) : Bool := m.all tagB && decide ((m.length : Int) ≤ 40)
theorem tagV_OK {m : List Int} (h : InB m) : tagV (strOfNums m) = tagOK m := by unfold tagV tagOK; rw [bytesOf_strOf h, strOfNums_size]
def midL (l : List Int) : List Int := (l.drop 1).take (l.length - 2)
def bodyOK (l : List Int) : Prop := 2 ≤ l.length ∧ l.head? = some 34 ∧ l.getLast? = some 34 ∧ tagOK (midL l) = true
instance (l : List Int) : Decidable (bodyOK l) := by unfold bodyOK; exact inferInstance
def tagR (w : Bool) (l : List Int) : Bool × ByteArray × Bool := if bodyOK l then (w, strOfNums (midL l), true) else (false, ⟨#[]⟩, false)
def weakB (l : List Int) : Bool := decide (2 < l.length ∧ l.take 2 = [87, 47])
def ptagV (s : ByteArray) : Bool × ByteArray × Bool := if weakB (bytesOf s) = true then tagR true ((bytesOf s).drop 2) else tagR false (bytesOf s)
theorem two_ends {l : List Int} (h : 2 ≤ l.length) : ∃ x m y, l = x :: m ++ [y] := by
  match l, h with
  | x :: r, h =>
    have hr : r ≠ [] := by rintro rfl; simp at h
    exact ⟨x, r.dropLast, r.getLast hr, by rw [List.cons_append, List.dropLast_concat_getLast hr]⟩
theorem mid_ends (x y : Int) (m : List Int) : midL (x :: m ++ [y]) = m := by
  unfold midL
  simp
theorem body_ends {x y : Int} {m : List Int} : bodyOK (x :: m ++ [y]) ↔ x = 34 ∧ y = 34 ∧ tagOK m = true := by
  unfold bodyOK
  rw [mid_ends]
  have e1 : (x :: m ++ [y]).head? = some x := rfl
  have e2 : (x :: m ++ [y]).getLast? = some y := by rw [List.cons_append, ← List.cons_append, List.getLast?_append]; rfl
  rw [e1, e2]
  simp
theorem ptag_empty : ptagV ⟨#[]⟩ = (false, ⟨#[]⟩, false) := by
  unfold ptagV
  have : bytesOf (⟨#[]⟩ : ByteArray) = [] := by decide
  rw [this]
  simp [weakB, tagR, bodyOK]
theorem tagR_quoted (w : Bool) (s : ByteArray) (h : tagV s = true) : tagR w (34 :: bytesOf s ++ [34]) = (w, s, true) := by
  unfold tagR
  rw [if_pos (body_ends.mpr ⟨rfl, rfl, by rw [← tagV_OK (InB_bytes s), strOf_bytesOf]; exact h⟩), mid_ends, strOf_bytesOf]
theorem ptag_ftag (w : Bool) (s : ByteArray) (h : tagV s = true) : ptagV (ftagV w s) = (w, s, true) := by
  unfold ftagV
  rw [if_pos h]
  have b1 : bytesOf (⟨#[34]⟩ : ByteArray) = [34] := by decide
  have b2 : bytesOf (⟨#[87, 47, 34]⟩ : ByteArray) = [87, 47, 34] := by decide
  cases w with
  | false =>
    rw [if_neg (by simp)]
    have e : bytesOf (((⟨#[34]⟩ : ByteArray) ++ s) ++ (⟨#[34]⟩ : ByteArray)) = 34 :: bytesOf s ++ [34] := by rw [bytesOf_append, bytesOf_append, b1]; simp
    unfold ptagV
    rw [e, if_neg, tagR_quoted false s h]
    simp [weakB]
  | true =>
    rw [if_pos rfl]
    have e : bytesOf (((⟨#[87, 47, 34]⟩ : ByteArray) ++ s) ++ (⟨#[34]⟩ : ByteArray)) = 87 :: 47 :: (34 :: bytesOf s ++ [34]) := by rw [bytesOf_append, bytesOf_append, b1, b2]; simp
    unfold ptagV
    rw [e, if_pos, show (87 :: 47 :: (34 :: bytesOf s ++ [34])).drop 2 = 34 :: bytesOf s ++ [34] from rfl, tagR_quoted true s h]
    simp [weakB]
theorem ptag_no (w : Bool) (s : ByteArray) (h : ¬ tagV s = true) : ptagV (ftagV w s) = (false, ⟨#[]⟩, false) := by
  unfold ftagV
  rw [if_neg h, ptag_empty]
theorem tagR_good {w : Bool} {l : List Int} (hb : InB l) (h : (tagR w l).2.2 = true) : tagV (tagR w l).2.1 = true := by
  unfold tagR at h ⊢
  by_cases g : bodyOK l
  · rw [if_pos g]
    simp only
    rw [tagV_OK (show InB (midL l) from InB_take _ (InB_drop 1 hb))]
    exact g.2.2.2
  · rw [if_neg g] at h; simp at h
theorem ptag_isgood (t : ByteArray) (h : (ptagV t).2.2 = true) : tagV (ptagV t).2.1 = true := by
  unfold ptagV at h ⊢
  split at h
  · rename_i g; rw [if_pos g]; exact tagR_good (InB_drop _ (InB_bytes t)) h
  · rename_i g; rw [if_neg g]; exact tagR_good (InB_bytes t) h
def tagOf (t : ByteArray) : S37 := ⟨(ptagV t).1, (ptagV t).2.1⟩
def tagGood (t : ByteArray) : Bool := (ptagV t).2.2
def ptlV (s : ByteArray) : List S37 × Bool × Bool :=
  if trimV s = ⟨#[42]⟩ then ([], true, true)
  else if (splitV s).all tagGood = true ∧ 1 ≤ (splitV s).length ∧ (splitV s).length ≤ 8 then ((splitV s).map tagOf, false, true) else ([], false, false)
theorem ptlV_len (s : ByteArray) : (ptlV s).1.length ≤ 8 := by
  unfold ptlV
  split
  · simp
  · split
    · rename_i h; simpa using h.2.2
    · simp
theorem star_iff (t : ByteArray) : t.toList = ([42] : List UInt8) ↔ t = ⟨#[42]⟩ := by
  have e : ([42] : List UInt8) = (⟨#[42]⟩ : ByteArray).toList := by rw [ByteArray.toList_eq]
  exact ⟨fun h => toList_iff.mp (h.trans e), fun h => (toList_iff.mpr h).trans e.symm⟩
theorem impl_FormatTag_ev (w : Bool) (s : ByteArray) (hs : s.size ≤ 4611686018427387904) : Ev (fun k => impl_FormatTag.f k w s) (ftagV w s) := by
  unfold impl_FormatTag.f ftagV
  refine Ev.bind (impl_IsTag_ev w s hs) ?_
  by_cases h : tagV s = true
  · simp only [if_pos h]
    by_cases g : w = true
    · simp only [if_pos g]
      rw [if_pos (by omega), if_pos (by rw [ByteArray.size_append]; have : (⟨#[87, 47, 34]⟩ : ByteArray).size = 3 := rfl; omega)]
      exact Ev.now _
    · simp only [if_neg g]
      rw [if_pos (by omega), if_pos (by rw [ByteArray.size_append]; have : (⟨#[34]⟩ : ByteArray).size = 1 := rfl; omega)]
      exact Ev.now _
  · simp only [if_neg h]
    exact Ev.now _
theorem bytesOf_mk (l : List UInt8) : bytesOf ⟨l.toArray⟩ = l.map fun b => (b.toNat : Int) := rfl
theorem mk_of_bytes {l : List UInt8} {m : List Int} (h : (l.map fun b => (b.toNat : Int)) = m) : (⟨l.toArray⟩ : ByteArray) = strOfNums m := by
  apply bytesOf_inj
  rw [bytesOf_mk, h, bytesOf_strOf]
  subst h
  exact InB_bytes ⟨l.toArray⟩
theorem trimLeftS_map (l cs : List UInt8) : ((Lib.trimLeftS l cs).map fun b => (b.toNat : Int)) = (l.map fun b => (b.toNat : Int)).dropWhile (fun x => (cs.map fun b => (b.toNat : Int)).contains x) := by
  unfold Lib.trimLeftS
  induction l with
  | nil => rfl
  | cons b r ih =>
    have e : ((cs.map fun b => (b.toNat : Int)).contains (b.toNat : Int)) = cs.contains b := by
      rw [Bool.eq_iff_iff, List.contains_iff_mem, List.contains_iff_mem, List.mem_map]
      constructor
      · rintro ⟨c, hc, hcb⟩
        have : c = b := UInt8.toNat_inj.1 (by omega)
        exact this ▸ hc
      · exact fun h => ⟨b, h, rfl⟩
    simp only [List.dropWhile_cons, List.map_cons, e]
    split
    · exact ih
    · rfl
theorem trimS_map (l cs : List UInt8) : ((Lib.trimS l cs).map fun b => (b.toNat : Int)) = trimP (fun x => (cs.map fun b => (b.toNat : Int)).contains x) (l.map fun b => (b.toNat : Int)) := by
  have e : ((Lib.trimRightS l cs).map fun b => (b.toNat : Int)) = rdropI (fun x => (cs.map fun b => (b.toNat : Int)).contains x) (l.map fun b => (b.toNat : Int)) := by
    rw [← rdropI_eq, ← List.map_reverse, ← trimLeftS_map, ← List.map_reverse]
    rfl
  unfold Lib.trimS trimP
  rw [trimLeftS_map, e]
theorem strings_Trim_eq (s cs : ByteArray) (hs : s.size ≤ 4611686018427387904) (hc : cs.size < 4294967281) (ha : cs.data.toList.all (fun b => decide (b.toNat < 128)) = true) :
    strings_Trim.f s cs = some (strOfNums (trimP (fun x => (bytesOf cs).contains x) (bytesOf s))) := by
  unfold strings_Trim.f
  rw [if_pos ⟨hs, hc, ha⟩, mk_of_bytes (trimS_map _ _)]
  rfl
def quoB (x : Int) : Bool := (bytesOf (⟨#[34]⟩ : ByteArray)).contains x
theorem quoB_iff (x : Int) : quoB x = true ↔ x = 34 := by
  unfold quoB
  rw [show bytesOf (⟨#[34]⟩ : ByteArray) = [34] by decide]
  simp
theorem tag_no34 {m : List Int} (h : tagOK m = true) : ∀ x ∈ m, quoB x = false := by
  intro x hx
  unfold tagOK at h
  rw [Bool.and_eq_true] at h
  have := List.all_eq_true.1 h.1 x hx
  unfold tagB at this
  have h2 := of_decide_eq_true this
  cases hq : quoB x with
  | false => rfl
  | true => exact absurd ((quoB_iff x).1 hq) h2.2.2
theorem trim_quotes {m : List Int} (h : tagOK m = true) : trimP quoB (34 :: m ++ [34]) = m := by
  have hn := tag_no34 h
  have q34 : quoB 34 = true := (quoB_iff 34).2 rfl
  unfold trimP
  rw [rdropI_concat, if_pos q34]
  rcases List.eq_nil_or_concat m with e | ⟨r, y, e⟩
  · subst e
    have : rdropI quoB [34] = [] := (rdropI_all quoB [34]).2 (by intro x hx; simp at hx; subst hx; exact q34)
    rw [this]; rfl
  · have hy : quoB y = false := hn y (by rw [e]; simp)
    have e2 : (34 : Int) :: m = (34 :: r) ++ [y] := by rw [e]; simp
    rw [e2, rdropI_concat, if_neg (by rw [hy]; simp), ← e2, List.dropWhile_cons_of_pos q34]
    cases m with
    | nil => rfl
    | cons a m' => exact List.dropWhile_cons_of_neg (by rw [hn a (by simp)]; simp)
theorem bytes_ftag_w {m : List Int} (hm : InB m) (h : tagOK m = true) : bytesOf (ftagV true (strOfNums m)) = 87 :: 47 :: (34 :: m ++ [34]) := by
  unfold ftagV
  rw [tagV_OK hm, if_pos h, if_pos rfl, bytesOf_append, bytesOf_append, bytesOf_strOf hm, show bytesOf (⟨#[87, 47, 34]⟩ : ByteArray) = [87, 47, 34] by decide, show bytesOf (⟨#[34]⟩ : ByteArray) = [34] by decide]
  simp
theorem bytes_ftag_s {m : List Int} (hm : InB m) (h : tagOK m = true) : bytesOf (ftagV false (strOfNums m)) = 34 :: m ++ [34] := by
  unfold ftagV
  rw [tagV_OK hm, if_pos h, if_neg (by simp), bytesOf_append, bytesOf_append, bytesOf_strOf hm, show bytesOf (⟨#[34]⟩ : ByteArray) = [34] by decide]
  simp
theorem ftag_bad {w : Bool} {m : List Int} (hm : InB m) (h : ¬ tagOK m = true) : ftagV w (strOfNums m) = ⟨#[]⟩ := by
  unfold ftagV
  rw [tagV_OK hm, if_neg h]
def preB (l : List Int) : Bool := decide (l.take 2 = [87, 47])
/-- What the cut of the prefix leaves. -/
def restL (l : List Int) : List Int := if preB l = true then l.drop 2 else l
theorem body_form {l : List Int} (h : bodyOK l) : l = 34 :: midL l ++ [34] ∧ tagOK (midL l) = true := by
  obtain ⟨x, m, y, e⟩ := two_ends h.1
  have h2 := h
  rw [e] at h2
  obtain ⟨rfl, rfl, ht⟩ := body_ends.mp h2
  have em : midL l = m := by rw [e, mid_ends]
  rw [em]
  exact ⟨e, ht⟩
theorem ptag_good (s : ByteArray) (hne : s ≠ ⟨#[]⟩) (h : ftagV (preB (bytesOf s)) (strOfNums (trimP quoB (restL (bytesOf s)))) = s) : ptagV s = (preB (bytesOf s), strOfNums (trimP quoB (restL (bytesOf s))), true) := by
  have hi : InB (trimP quoB (restL (bytesOf s))) := by
    apply InB_trim
    unfold restL
    split
    · exact InB_drop 2 (InB_bytes s)
    · exact InB_bytes s
  generalize hT : trimP quoB (restL (bytesOf s)) = T at h hi ⊢
  by_cases ht : tagOK T = true
  · cases hp : preB (bytesOf s) with
    | true =>
      rw [hp] at h
      have e : bytesOf s = 87 :: 47 :: (34 :: T ++ [34]) := by rw [← bytes_ftag_w hi ht, h]
      unfold ptagV
      have hw : weakB (bytesOf s) = true := by rw [e]; unfold weakB; apply decide_eq_true; simp
      rw [if_pos hw, e]
      show tagR true (34 :: T ++ [34]) = _
      unfold tagR
      rw [if_pos (body_ends.mpr ⟨rfl, rfl, ht⟩), mid_ends]
    | false =>
      rw [hp] at h
      have e : bytesOf s = 34 :: T ++ [34] := by rw [← bytes_ftag_s hi ht, h]
      unfold ptagV
      have hw : ¬ weakB (bytesOf s) = true := by rw [e]; unfold weakB; rw [decide_eq_true_eq]; intro z; cases T <;> simp at z
      rw [if_neg hw, e]
      unfold tagR
      rw [if_pos (body_ends.mpr ⟨rfl, rfl, ht⟩), mid_ends]
  · rw [ftag_bad hi ht] at h
    exact absurd h.symm hne
theorem ptag_bad (s : ByteArray) (h : ¬ ftagV (preB (bytesOf s)) (strOfNums (trimP quoB (restL (bytesOf s)))) = s) : ptagV s = (false, ⟨#[]⟩, false) := by
  unfold ptagV
  have sb := InB_bytes s
  by_cases hw : weakB (bytesOf s) = true
  · rw [if_pos hw]
    unfold tagR
    rw [if_neg]
    intro hb
    obtain ⟨e, ht⟩ := body_form hb
    have hw2 := of_decide_eq_true hw
    have hp : preB (bytesOf s) = true := decide_eq_true hw2.2
    apply h
    have hr : restL (bytesOf s) = (bytesOf s).drop 2 := by unfold restL; rw [if_pos hp]
    have hm : InB (midL ((bytesOf s).drop 2)) := by have := InB_drop 2 sb; rw [e, InB_append, InB_cons] at this; exact this.1.2
    rw [hp, hr, e, trim_quotes ht]
    apply bytesOf_inj
    rw [bytes_ftag_w hm ht, ← e]
    have := List.take_append_drop 2 (bytesOf s)
    rw [hw2.2] at this
    exact this
  · rw [if_neg hw]
    unfold tagR
    rw [if_neg]
    intro hb
    obtain ⟨e, ht⟩ := body_form hb
    have hp : preB (bytesOf s) = false := by
      unfold preB; rw [e]; apply decide_eq_false; intro z; cases hmm : midL (bytesOf s) <;> rw [hmm] at z <;> simp at z
    apply h
    have hr : restL (bytesOf s) = bytesOf s := by unfold restL; rw [if_neg (by rw [hp]; simp)]
    have hm : InB (midL (bytesOf s)) := by have := sb; rw [e, InB_append, InB_cons] at this; exact this.1.2
    have hT : trimP quoB (bytesOf s) = midL (bytesOf s) := by
      have := trim_quotes ht
      rwa [← e] at this
    rw [hp, hr, hT]
    apply bytesOf_inj
    rw [bytes_ftag_s hm ht, ← e]
theorem cutPrefix_eq (s : ByteArray) (hs : s.size ≤ 4611686018427387904) : strings_CutPrefix.f s (⟨#[87, 47]⟩ : ByteArray) = some (strOfNums (restL (bytesOf s)), preB (bytesOf s)) := by
  have hl := bytesOf_length s
  have z : (⟨#[87, 47]⟩ : ByteArray).size = 2 := rfl
  have lit : bytesOf (⟨#[87, 47]⟩ : ByteArray) = [87, 47] := by decide
  have n2 : (((⟨#[87, 47]⟩ : ByteArray).size : Int)).toNat = 2 := rfl
  have hpre : stringslite_HasPrefix.f s (⟨#[87, 47]⟩ : ByteArray) = some (preB (bytesOf s)) := by
    unfold stringslite_HasPrefix.f
    by_cases g : (s.size : Int) ≥ ((⟨#[87, 47]⟩ : ByteArray).size : Int)
    · rw [if_pos g, if_pos (by omega), if_pos (by omega), n2]
      congr 1
      unfold preB
      by_cases h : s.extract 0 2 = ⟨#[87, 47]⟩
      · have : (bytesOf s).take 2 = [87, 47] := by
          have h2 := bytesOf_extract s 0 2
          rw [h, lit] at h2
          simpa using h2.symm
        rw [h, decide_eq_true this]; simp
      · have : ¬ (bytesOf s).take 2 = [87, 47] := fun z => h (bytesOf_inj (by rw [bytesOf_extract, lit]; simpa using z))
        rw [decide_eq_false this]
        exact beq_eq_false_iff_ne.mpr (fun z => h (toList_iff.mp z))
    · rw [if_neg g]
      congr 1
      unfold preB
      symm
      apply decide_eq_false
      intro q
      have := congrArg List.length q
      simp at this
      omega
  unfold strings_CutPrefix.f stringslite_CutPrefix.f
  rw [hpre, Option.bind_some]
  unfold restL
  by_cases h : preB (bytesOf s) = true
  · have h2 : (2 : Nat) ≤ s.size := by
      have := congrArg List.length (of_decide_eq_true h)
      simp at this
      omega
    have e : s.extract 2 s.size = strOfNums ((bytesOf s).drop 2) := by
      apply bytesOf_inj
      rw [bytesOf_strOf (InB_drop 2 (InB_bytes s)), bytesOf_extract, ← hl, List.take_length]
    rw [if_pos h, if_pos (by omega), if_pos (by omega), n2, Option.bind_some, if_pos h, h, e]
  · rw [if_neg h, Option.bind_some, if_neg h, strOf_bytesOf]
    simp at h
    rw [h]
theorem impl_PTag_ev (s : ByteArray) (hs : s.size ≤ 1099511627776) : Ev (fun k => impl_ParseTag.f k s) (ptagV s) := by
  have hr : InB (restL (bytesOf s)) := by
    unfold restL
    split
    · exact InB_drop 2 (InB_bytes s)
    · exact InB_bytes s
  have hrl : (restL (bytesOf s)).length ≤ s.size := by
    have := bytesOf_length s
    unfold restL
    split
    · rw [List.length_drop]; omega
    · omega
  unfold impl_ParseTag.f
  rw [cutPrefix_eq s (by omega)]
  simp only [Option.bind_some]
  rw [strings_Trim_eq _ (⟨#[34]⟩ : ByteArray) (by rw [strOfNums_size]; omega) (by decide) (by decide), bytesOf_strOf hr]
  simp only [Option.bind_some]
  have hq : (fun x => (bytesOf (⟨#[34]⟩ : ByteArray)).contains x) = quoB := rfl
  rw [hq]
  have e0 : ([] : List UInt8) = (⟨#[]⟩ : ByteArray).toList := by rw [ByteArray.toList_eq]
  by_cases h0 : s = ⟨#[]⟩
  · have : ptagV s = (false, ⟨#[]⟩, false) := by
      apply ptag_bad
      subst h0
      have hb : bytesOf (⟨#[]⟩ : ByteArray) = [] := by decide
      rw [hb]
      intro z
      have hT : trimP quoB (restL []) = [] := by decide +kernel
      rw [hT] at z
      have := congrArg ByteArray.size z
      have hp : preB [] = false := by decide
      rw [hp] at this
      exact absurd this (by decide +kernel)
    rw [this]
    exact Ev.pos (by rw [e0]; exact toList_iff.mpr h0) (Ev.now _)
  · refine Ev.neg (by rw [e0]; exact fun z => h0 (toList_iff.mp z)) ?_
    have htl := trimP_length quoB (restL (bytesOf s))
    refine Ev.bind (impl_FormatTag_ev _ _ (by rw [strOfNums_size]; omega)) ?_
    by_cases h : ftagV (preB (bytesOf s)) (strOfNums (trimP quoB (restL (bytesOf s)))) = s
    · rw [ptag_good s h0 h]
      exact Ev.pos (toList_iff.mpr h) (Ev.now _)
    · rw [ptag_bad s h]
      exact Ev.neg (fun z => h (toList_iff.mp z)) (Ev.now _)
theorem impl_Trim_eq (s : ByteArray) (hs : s.size ≤ 4611686018427387904) : impl_TrimText.f s = some (trimV s) := by
  unfold impl_TrimText.f
  rw [strings_Trim_eq s ⟨#[32, 9]⟩ hs (by decide) (by decide), Option.bind_some]
  unfold trimV
  congr 3
  funext x
  have e : bytesOf ⟨#[32, 9]⟩ = [32, 9] := by decide
  rw [e]
  unfold blankI
  by_cases h : x = 32 <;> by_cases g : x = 9 <;> simp [h, g]
theorem mn_min (a b : Int) : mn a b = min a b := by unfold mn; split <;> omega
theorem impl_Split_loop (s : ByteArray) (hs : s.size ≤ 1099511627776) (q : Bool) (rest : List Int) : ∀ (done cur : List Int) (acc : List ByteArray), bytesOf s = done ++ cur ++ rest → acc.length ≤ done.length →
    Ev (fun k => impl_SplitList.l0 k s acc (done.length : Int) q ((done ++ cur).length : Int)) (acc ++ partsV (cutL q cur rest)) := by
  have hin : ∀ {pre cur rest : List Int}, bytesOf s = pre ++ cur ++ rest → InB cur := by
    intro pre cur rest h
    have := InB_bytes s; rw [h, InB_append, InB_append] at this; exact this.1.2
  have trim1 : ∀ {pre cur rest : List Int}, bytesOf s = pre ++ cur ++ rest → impl_TrimText.f (s.extract pre.length (pre.length + cur.length)) = some (strOfNums (trimP blankI cur)) := by
    intro pre cur rest h
    have hz : (s.extract pre.length (pre.length + cur.length)).size ≤ s.size := by rw [ByteArray.size_extract]; omega
    rw [impl_Trim_eq _ (by omega), ext_mid h, trimV_of (hin h)]
  have facts : ∀ {done cur rest : List Int} {b : Int}, bytesOf s = done ++ cur ++ b :: rest → ((done ++ cur).length : Int) < (s.size : Int) ∧ bt s ((done ++ cur).length : Int) = b ∧ wrap64 (((done ++ cur).length : Int) + 1) = ((done ++ (cur ++ [b])).length : Int) ∧ (s.size : Int) = (done ++ cur).length + (rest.length + 1) := by
    intro done cur rest b h
    have hz := size_mid h
    simp only [List.length_cons] at hz
    refine ⟨by omega, bt_mid h, ?_, by omega⟩
    have := len_step (done ++ cur) b (by omega)
    rw [this, List.append_assoc]
  have over : ∀ (q : Bool) (done : List Int) (acc : List ByteArray) (i : Int), (s.size : Int) < i → (s.size : Int) ≤ done.length → Ev (fun k => impl_SplitList.l0 k s acc (done.length : Int) q i) acc := by
    intro q done acc i hi hd
    refine Ev.step (f := fun _ => some acc) (fun k => ?_) (Ev.now _)
    simp only [impl_SplitList.l0]
    rw [if_neg (by omega), if_neg (by omega)]
  refine cut_ind (p := fun q rest => ∀ (done cur : List Int) (acc : List ByteArray), bytesOf s = done ++ cur ++ rest → acc.length ≤ done.length → Ev (fun k => impl_SplitList.l0 k s acc (done.length : Int) q ((done ++ cur).length : Int)) (acc ++ partsV (cutL q cur rest))) ?_ ?_ ?_ ?_ ?_ ?_ q rest
  · intro q done cur acc h ha
    rw [cutL_nil]
    have hz := size_mid h
    simp only [List.length_nil] at hz
    have hL : (done ++ cur).length = done.length + cur.length := List.length_append
    have hw : wrap64 (((done ++ cur).length : Int) + 1) = ((done ++ cur ++ [0]).length : Int) := len_step (done ++ cur) 0 (by omega)
    have hn1 : ((done.length : Int)).toNat = done.length := by omega
    have hn2 : (((done ++ cur).length : Int)).toNat = done.length + cur.length := by simp only [List.length_append]; omega
    have hm : mn ((done ++ cur).length : Int) (s.size : Int) = ((done ++ cur).length : Int) := by rw [mn_min]; omega
    rw [partsV_cons, partsV_nil, List.append_nil]
    refine Ev.step (f := fun k => impl_SplitList.j1 k s acc (done.length : Int) q ((done ++ cur).length : Int) false) (fun k => ?_) ?_
    · simp only [impl_SplitList.l0]
      rw [if_pos (by omega), if_neg (by omega)]
    · by_cases g : trimP blankI cur = []
      · rw [if_pos g, List.append_nil]
        refine Ev.step (f := fun k => impl_SplitList.l0 k s acc ((done ++ cur ++ [0]).length : Int) q ((done ++ cur ++ [0]).length : Int)) (fun k => ?_) (over q (done ++ cur ++ [0]) acc _ (by simp at hz ⊢; omega) (by simp at hz ⊢; omega))
        simp only [impl_SplitList.j1]
        rw [if_neg (by simp), if_pos (by omega), hm, if_pos (by omega), if_pos (by omega), hn1, hn2, trim1 h, Option.bind_some, if_pos (strOf_nil.mpr g), hw]
      · rw [if_neg g]
        refine Ev.step (f := fun k => impl_SplitList.l0 k s (acc ++ [strOfNums (trimP blankI cur)]) ((done ++ cur ++ [0]).length : Int) q ((done ++ cur ++ [0]).length : Int)) (fun k => ?_) (over q (done ++ cur ++ [0]) _ _ (by simp at hz ⊢; omega) (by simp at hz ⊢; omega))
        simp only [impl_SplitList.j1]
        rw [if_neg (by simp), if_pos (by omega), hm, if_pos (by omega), if_pos (by omega), hn1, hn2, trim1 h, Option.bind_some, if_neg (fun z => g (strOf_nil.mp z)), if_pos (by omega), hw]
  · intro done cur acc h ha
    obtain ⟨f1, f2, f3, f4⟩ := facts h
    rw [cutL_last]
    simp only [List.length_nil] at f4
    have hL : (done ++ cur).length = done.length + cur.length := List.length_append
    have e : wrap64 ((wrap64 (((done ++ cur).length : Int) + 1)) + 1) = (s.size : Int) + 1 := by
      rw [f3, wrap_id (by omega) (by simp at f4 ⊢; omega)]; simp at f4 ⊢; omega
    have h2 : bytesOf s = done ++ (cur ++ [92]) := by rw [h]; simp
    have hz2 : s.size = done.length + (cur ++ [92]).length := by rw [← bytesOf_length, h2, List.length_append]
    have hn1 : ((done.length : Int)).toNat = done.length := by omega
    have tr : impl_TrimText.f (s.extract done.length s.size) = some (strOfNums (trimP blankI (cur ++ [92]))) := by
      have := trim1 (pre := done) (cur := cur ++ [92]) (rest := []) (by simpa using h2)
      rwa [← hz2] at this
    refine Ev.step (f := fun k => impl_SplitList.j1 k s acc (done.length : Int) true ((done ++ cur).length : Int) true) (fun k => ?_) (Ev.step (f := fun k => impl_SplitList.j2 k s acc (done.length : Int) true ((done ++ cur).length : Int)) (fun k => ?_) (Ev.step (f := fun k => impl_SplitList.j3 k s acc (done.length : Int) true ((done ++ cur).length : Int) true) (fun k => ?_) (Ev.step (f := fun k => impl_SplitList.l0 k s acc (done.length : Int) true ((s.size : Int) + 1)) (fun k => ?_) (Ev.step (f := fun _ => some (acc ++ partsV [cur ++ [92]])) (fun k => ?_) (Ev.now _)))))
    · simp only [impl_SplitList.l0]
      rw [if_pos (by omega), if_pos f1, if_pos trivial]
    · simp only [impl_SplitList.j1]
      rw [if_pos trivial, if_pos (by omega), if_pos f1, if_neg (by rw [f2]; decide)]
    · simp only [impl_SplitList.j2]
      rw [if_pos trivial, if_pos (by omega), if_pos f1, f2]; rfl
    · simp only [impl_SplitList.j3]
      rw [if_pos trivial, e]
    · simp only [impl_SplitList.l0]
      rw [if_neg (by omega), if_pos (by omega), if_pos (by omega), if_pos (by omega), hn1, tr, Option.bind_some, partsV_cons, partsV_nil, List.append_nil]
      by_cases g : trimP blankI (cur ++ [92]) = []
      · rw [if_pos (strOf_nil.mpr g), if_pos g, List.append_nil]
      · rw [if_neg (fun z => g (strOf_nil.mp z)), if_neg g, if_pos (by omega)]
  · intro c r ih done cur acc h ha
    obtain ⟨f1, f2, f3, f4⟩ := facts h
    rw [cutL_esc]
    have n := ih done (cur ++ [92, c]) acc (by rw [h]; simp) ha
    have e : wrap64 ((wrap64 (((done ++ cur).length : Int) + 1)) + 1) = ((done ++ (cur ++ [92, c])).length : Int) := by
      rw [f3, wrap_id (by omega) (by simp at f4 ⊢; omega)]; simp; omega
    rw [← e] at n
    refine Ev.step (f := fun k => impl_SplitList.j1 k s acc (done.length : Int) true ((done ++ cur).length : Int) true) (fun k => ?_) (Ev.step (f := fun k => impl_SplitList.j2 k s acc (done.length : Int) true ((done ++ cur).length : Int)) (fun k => ?_) (Ev.step (f := fun k => impl_SplitList.j3 k s acc (done.length : Int) true ((done ++ cur).length : Int) true) (fun k => ?_) (Ev.step (fun k => ?_) n)))
    · simp only [impl_SplitList.l0]
      rw [if_pos (by omega), if_pos f1, if_pos trivial]
    · simp only [impl_SplitList.j1]
      rw [if_pos trivial, if_pos (by omega), if_pos f1, if_neg (by rw [f2]; decide)]
    · simp only [impl_SplitList.j2]
      rw [if_pos trivial, if_pos (by omega), if_pos f1, f2]; rfl
    · simp only [impl_SplitList.j3]
      rw [if_pos trivial]
  · intro q r ih done cur acc h ha
    obtain ⟨f1, f2, f3, f4⟩ := facts h
    rw [cutL_quote]
    have n := ih done (cur ++ [34]) acc (by rw [h]; simp) ha
    rw [← f3] at n
    refine Ev.step (f := fun k => impl_SplitList.j1 k s acc (done.length : Int) q ((done ++ cur).length : Int) true) (fun k => ?_) (Ev.step (f := fun k => impl_SplitList.j2 k s acc (done.length : Int) (!q) ((done ++ cur).length : Int)) (fun k => ?_) (Ev.step (f := fun k => impl_SplitList.j3 k s acc (done.length : Int) (!q) ((done ++ cur).length : Int) false) (fun k => ?_) (Ev.step (fun k => ?_) n)))
    · simp only [impl_SplitList.l0]
      rw [if_pos (by omega), if_pos f1]
      cases q
      · rw [if_neg (by simp), if_pos (by omega), f2]; rfl
      · rw [if_pos rfl]
    · simp only [impl_SplitList.j1]
      rw [if_pos trivial, if_pos (by omega), if_pos f1, if_pos f2]
    · simp only [impl_SplitList.j2]
      cases q
      · simp only [Bool.not_false]
        rw [if_pos trivial, if_pos (by omega), if_pos f1, f2]; rfl
      · simp
    · simp only [impl_SplitList.j3]
      rw [if_neg (by simp)]
  · intro r ih done cur acc h ha
    obtain ⟨f1, f2, f3, f4⟩ := facts h
    rw [cutL_comma]
    have hL : (done ++ cur).length = done.length + cur.length := List.length_append
    have hm : mn ((done ++ cur).length : Int) (s.size : Int) = ((done ++ cur).length : Int) := by rw [mn_min]; omega
    have hn1 : ((done.length : Int)).toNat = done.length := by omega
    have hn2 : (((done ++ cur).length : Int)).toNat = done.length + cur.length := by omega
    have tr := trim1 h
    rw [partsV_cons]
    refine Ev.step (f := fun k => impl_SplitList.j1 k s acc (done.length : Int) false ((done ++ cur).length : Int) false) (fun k => ?_) ?_
    · simp only [impl_SplitList.l0]
      rw [if_pos (by omega), if_pos f1, if_neg (by simp), if_pos (by omega), f2]; rfl
    · by_cases g : trimP blankI cur = []
      · rw [if_pos g, List.nil_append]
        have n := ih (done ++ (cur ++ [44])) [] acc (by rw [h]; simp) (by simp; omega)
        rw [List.append_nil, ← f3] at n
        refine Ev.step (fun k => ?_) n
        simp only [impl_SplitList.j1]
        rw [if_neg (by simp), if_pos (by omega), hm, if_pos (by omega), if_pos (by omega), hn1, hn2, tr, Option.bind_some, if_pos (strOf_nil.mpr g)]
      · rw [if_neg g]
        have n := ih (done ++ (cur ++ [44])) [] (acc ++ [strOfNums (trimP blankI cur)]) (by rw [h]; simp) (by simp; omega)
        rw [List.append_nil, ← f3, List.append_assoc] at n
        refine Ev.step (fun k => ?_) n
        simp only [impl_SplitList.j1]
        rw [if_neg (by simp), if_pos (by omega), hm, if_pos (by omega), if_pos (by omega), hn1, hn2, tr, Option.bind_some, if_neg (fun z => g (strOf_nil.mp z)), if_pos (by omega)]
  · intro q b r g1 g2 g3 ih done cur acc h ha
    obtain ⟨f1, f2, f3, f4⟩ := facts h
    rw [cutL_other q cur r b g1 g2 g3]
    have n := ih done (cur ++ [b]) acc (by rw [h]; simp) ha
    rw [← f3] at n
    refine Ev.step (f := fun k => impl_SplitList.j1 k s acc (done.length : Int) q ((done ++ cur).length : Int) true) (fun k => ?_) (Ev.step (f := fun k => impl_SplitList.j2 k s acc (done.length : Int) q ((done ++ cur).length : Int)) (fun k => ?_) (Ev.step (f := fun k => impl_SplitList.j3 k s acc (done.length : Int) q ((done ++ cur).length : Int) false) (fun k => ?_) (Ev.step (fun k => ?_) n)))
    · simp only [impl_SplitList.l0]
      rw [if_pos (by omega), if_pos f1]
      cases q
      · have : (b != 44) = true := bne_iff_ne.mpr (fun z => g3 ⟨rfl, z⟩)
        rw [if_neg (by simp), if_pos (by omega), f2, this]
      · rw [if_pos rfl]
    · simp only [impl_SplitList.j1]
      rw [if_pos trivial, if_pos (by omega), if_pos f1, if_neg (by rw [f2]; exact g2)]
    · simp only [impl_SplitList.j2]
      cases q
      · rfl
      · have : (b == 92) = false := beq_eq_false_iff_ne.mpr (fun z => g1 ⟨rfl, z⟩)
        rw [if_pos rfl, if_pos (by omega), if_pos f1, f2, this]
    · simp only [impl_SplitList.j3]
      rw [if_neg (by simp)]
theorem impl_Split_ev (s : ByteArray) (hs : s.size ≤ 1099511627776) : Ev (fun k => impl_SplitList.f k s) (splitV s) := by
  have := impl_Split_loop s hs false (bytesOf s) [] [] [] (by simp) (by simp)
  simpa [impl_SplitList.f, splitV_parts] using this
theorem impl_PTL_loop (L : List ByteArray) (hL : L.length ≤ 2097152) (hz : ∀ t ∈ L, t.size ≤ 1099511627776) (rest : List ByteArray) : ∀ pre, L = pre ++ rest → pre.all tagGood = true →
    Ev (fun k => impl_ParseTagList.l0 k (pre.map tagOf) L (L.length : Int) (pre.length : Int)) (if L.all tagGood = true ∧ 1 ≤ L.length ∧ L.length ≤ 8 then (L.map tagOf, false, true) else ([], false, false)) := by
  induction rest with
  | nil =>
    intro pre h hg
    have hl2 := len_mid h
    simp only [List.length_nil] at hl2
    have e : pre = L := by rw [h]; simp
    subst e
    have hm : (pre.map tagOf).length = pre.length := by simp
    refine Ev.step (f := fun _ => if decide (1 ≤ ((pre.map tagOf).length : Int) ∧ ((pre.map tagOf).length : Int) ≤ 8) = true then some (pre.map tagOf, false, true) else some (([] : List S37), false, false)) (fun k => ?_) ?_
    · simp only [impl_ParseTagList.l0]
      rw [if_neg (by omega), impl_inRange_eq, Option.bind_some]
    · by_cases c : 1 ≤ pre.length ∧ pre.length ≤ 8
      · have hv : (if pre.all tagGood = true ∧ 1 ≤ pre.length ∧ pre.length ≤ 8 then (pre.map tagOf, false, true) else (([] : List S37), false, false)) = (pre.map tagOf, false, true) := if_pos ⟨hg, c⟩
        rw [hv]; exact Ev.pos (decide_eq_true (by omega)) (Ev.now _)
      · have hv : (if pre.all tagGood = true ∧ 1 ≤ pre.length ∧ pre.length ≤ 8 then (pre.map tagOf, false, true) else (([] : List S37), false, false)) = (([] : List S37), false, false) := if_neg (fun z => c z.2)
        rw [hv]; exact Ev.neg (by rw [decide_eq_true_eq]; omega) (Ev.now _)
  | cons x rest ih =>
    intro pre h hg
    have hl2 := len_mid h
    simp only [List.length_cons] at hl2
    have hx := rdS_mid2 h
    have hst := len_step pre x (by omega)
    have hm : (pre.map tagOf).length = pre.length := by simp
    refine Ev.step (f := fun k => (impl_ParseTag.f k x).bind fun t => if t.2.2 = true then impl_ParseTagList.l0 k (pre.map tagOf ++ [(⟨t.1, t.2.1⟩ : S37)]) L (L.length : Int) ((pre ++ [x]).length : Int) else some (([] : List S37), false, false)) (fun k => ?_) (Ev.bind (impl_PTag_ev x (hz x (by rw [h]; simp))) ?_)
    · simp only [impl_ParseTagList.l0]
      rw [if_pos (by omega), if_pos (by omega), if_pos (by omega), hx, hst]
      congr 1; funext t
      rw [if_pos (show (pre.map tagOf).length < 5864062014805 by omega)]
    · by_cases g : tagGood x = true
      · refine Ev.pos g ?_
        have := ih (pre ++ [x]) (by simp [h]) (by simp [hg, g])
        rw [List.map_append] at this
        exact this
      · rw [if_neg (by intro z; exact g (List.all_eq_true.1 z.1 x (by rw [h]; simp)))]
        exact Ev.neg g (Ev.now _)
theorem impl_PTL_ev (s : ByteArray) (hs : s.size ≤ 1048576) : Ev (fun k => impl_ParseTagList.f k s) (ptlV s) := by
  unfold impl_ParseTagList.f
  rw [impl_Trim_eq s (by omega)]
  simp only [Option.bind_some]
  unfold ptlV
  by_cases h : trimV s = ⟨#[42]⟩
  · rw [if_pos h]; exact Ev.pos ((star_iff _).mpr h) (Ev.now _)
  · rw [if_neg h]
    refine Ev.neg (fun z => h ((star_iff _).mp z)) (Ev.bind (impl_Split_ev s (by omega)) ?_)
    have h1 := split_sizes s
    have h2 := split_count s
    exact impl_PTL_loop (splitV s) (by omega) (fun t ht => by have := h1 t ht; omega) (splitV s) [] rfl rfl

theorem ptl_props (s : ByteArray) : (∀ t ∈ (ptlV s).1, tagV t.f1 = true) ∧ ((ptlV s).2.1 = true → (ptlV s).2.2 = true ∧ (ptlV s).1 = []) ∧ ((ptlV s).2.2 = false → (ptlV s).1 = []) := by
  unfold ptlV
  by_cases h : trimV s = ⟨#[42]⟩
  · simp only [if_pos h]
    exact ⟨by simp, by simp, by simp⟩
  · simp only [if_neg h]
    by_cases g : (splitV s).all tagGood = true ∧ 1 ≤ (splitV s).length ∧ (splitV s).length ≤ 8
    · simp only [if_pos g]
      refine ⟨fun t ht => ?_, by simp, by simp⟩
      obtain ⟨p, hp, rfl⟩ := List.mem_map.1 ht
      exact ptag_isgood p (List.all_eq_true.1 g.1 p hp)
    · simp only [if_neg g]
      exact ⟨by simp, by simp, by simp⟩
theorem FnTags : laws_FnTags.Pure := by
  intro l hl hb
  apply Ev.rounds
  by_cases g : (l.length : Int) > 1048576
  · refine Ev.mp (Ev.now _) (fun k => ?_)
    unfold laws_FnTags.f laws_big.f
    rw [decide_eq_true g, Option.bind_some, if_pos rfl]
  obtain ⟨h, hn, c⟩ := new_ev l (by omega)
  obtain ⟨w, s, i1, h1, e1, s1, c1⟩ := draw7_ok h c
  obtain ⟨w2, s2, i2, h2, e2, s22, c2⟩ := draw7_ok h1 c1
  obtain ⟨n, i3, h3, e3, n0, n1, c3⟩ := below_ok h c 5
  have n2 := n1 (by omega)
  obtain ⟨T, hT, zT⟩ := tagl_loop l n.toNat ⟨#[]⟩ i3 h3 c3 (by have : (⟨#[]⟩ : ByteArray).size = 0 := rfl; omega)
  have D1 : Ev (fun k => spec_DrawFormatTag.f k l) (w, s) := by
    unfold spec_DrawFormatTag.f
    refine Ev.bind hn ?_
    simp only [e1, Option.bind_some]
    exact Ev.now _
  have D2 : Ev (fun k => spec_DrawStrongSame.f k l) (w, s, w2, s2) := by
    unfold spec_DrawStrongSame.f
    refine Ev.bind hn ?_
    simp only [e1, e2, Option.bind_some]
    exact Ev.now _
  have D3 : Ev (fun k => spec_DrawParseTagList.f k l) T := by
    unfold spec_DrawParseTagList.f
    refine Ev.bind hn ?_
    simp only [e3, Option.bind_some]
    rw [show (n.toNat : Int) = n by omega] at hT
    exact hT
  have hbig : laws_big.f l = some false := by unfold laws_big.f; rw [decide_eq_false g]
  have zf := ftag_size w s
  obtain ⟨P1, P2, P3⟩ := ptl_props T
  have I := impl_PTL_ev T (by omega)
  have hlen := ptlV_len T
  generalize (ptlV T) = R at *
  obtain ⟨L, any, fine⟩ := R
  simp only at P1 P2 P3 hlen
  have fin : (if any = true then (if fine = true then (if (L.length : Int) = 0 then (some true) else (some false)) else (some false)) else (if fine = true then (some true) else (some ((L.length : Int) == 0)))) = some true := by
    cases any with
    | true =>
      obtain ⟨f1, f2⟩ := P2 rfl
      rw [if_pos rfl, if_pos f1, f2]; rfl
    | false =>
      rw [if_neg (by simp)]
      cases fine with
      | true => rw [if_pos rfl]
      | false => rw [if_neg (by simp), P3 rfl]; rfl
  have tail : ((impl_StrongSame.f w s w2 s2).bind fun t264 => (if t264 = true then ((impl_WeakSame.f w s w2 s2).bind fun t265 => (if t265 = true then (if any = true then (if fine = true then (if (L.length : Int) = 0 then (some true) else (some false)) else (some false)) else (if fine = true then (some true) else (some ((L.length : Int) == 0)))) else (some false))) else (if any = true then (if fine = true then (if (L.length : Int) = 0 then (some true) else (some false)) else (some false)) else (if fine = true then (some true) else (some ((L.length : Int) == 0)))))) = some true := by
    rw [fin]
    unfold impl_StrongSame.f impl_WeakSame.f
    cases w with
    | true => rfl
    | false =>
      rw [if_neg (by simp)]
      cases w2 with
      | true => rfl
      | false =>
        rw [if_neg (by simp), Option.bind_some, Option.bind_some]
        cases (s.toList == s2.toList) with
        | true => rfl
        | false => rfl
  unfold laws_FnTags.f
  simp only [hbig, Option.bind_some, Bool.false_eq_true, if_false]
  refine Ev.bind D1 (Ev.bind (impl_FormatTag_ev w s (by omega)) (Ev.bind (impl_PTag_ev _ (by omega)) (Ev.bind D2 (Ev.bind D3 (Ev.bind I ?_)))))
  simp only
  have key : ∀ (ok uw : Bool) (us : ByteArray), (ok = tagV s) → (ok = true → uw = w ∧ us = s) → ∀ rest pre, L = pre ++ rest → Ev (fun k => laws_FnTags.l0 k ok L any fine (pre.length : Int) w s uw us w s w2 s2) true := by
    intro ok uw us hok hu rest
    induction rest with
    | nil =>
      intro pre hp
      have hln := len_mid hp
      simp only [List.length_nil] at hln
      apply Ev.step
      · intro k
        simp only [laws_FnTags.l0]
        rw [if_neg (by omega)]
      · refine Ev.bind (spec_IsTag_ev w s (by omega)) ?_
        refine Ev.mp (Ev.now true) (fun k => ?_)
        rw [hok, beq_self_eq_true, if_pos rfl]
        cases hv : tagV s with
        | true =>
          obtain ⟨u1, u2⟩ := hu (by rw [hok, hv])
          rw [if_pos rfl, u1, u2, beq_self_eq_true, beq_self_eq_true, show (true && true) = true from rfl, if_pos rfl]
          exact tail
        | false =>
          rw [if_neg (by simp)]
          exact tail
    | cons x rest ih =>
      intro pre hp
      have hln := len_mid hp
      simp only [List.length_cons] at hln
      have hx : rd_T37 L (pre.length : Int) = x := getD_mid hp
      have ht := P1 x (by rw [hp]; simp)
      have hz : x.f1.size ≤ 40 := by
        unfold tagV at ht
        rw [Bool.and_eq_true, decide_eq_true_eq] at ht
        omega
      refine Ev.step (f := fun k => (impl_IsTag.f k x.f0 x.f1).bind fun t => (if t = true then (laws_FnTags.l0 k ok L any fine ((pre ++ [x]).length : Int) w s uw us w s w2 s2) else (some false))) (fun k => ?_) (Ev.bind (impl_IsTag_ev x.f0 x.f1 (by omega)) (Ev.pos ht (ih (pre ++ [x]) (by simp [hp]))))
      simp only [laws_FnTags.l0]
      rw [if_pos (by omega), if_pos (by omega), hx, len_step pre x (by omega)]
  by_cases hv : tagV s = true
  · have hp := ptag_ftag w s hv
    rw [hp]
    exact key true w s hv.symm (fun _ => ⟨rfl, rfl⟩) L [] rfl
  · have hp := ptag_no w s hv
    rw [hp]
    exact key false false ⟨#[]⟩ (by simpa using hv) (fun z => by simp at z) L [] rfl

end Go.Proofs.YtlboepkphddacabDoor.Pure
