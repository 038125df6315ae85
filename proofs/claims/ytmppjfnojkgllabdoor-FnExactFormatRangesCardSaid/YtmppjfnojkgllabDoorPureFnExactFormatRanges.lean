/- The pure part of FnExactFormatRanges: for every input within the statement's bounds the printed law answers true. Conditions: the statement's own bounds alone. -/
import Derived.Test.YtmppjfnojkgllabDoorPreFnExactFormatRanges
import Derived.Test.YtmppjfnojkgllabDoorRFnExactFormatRangesx1
import Derived.Test.YtmppjfnojkgllabDoorRFnExactFormatRangesx2
import Derived.Test.YtmppjfnojkgllabDoorRFnExactFormatRangesx3
import Derived.OpenShut
namespace Go.Proofs.YtmppjfnojkgllabDoor.Pure
open Go.RowKit Go.Proofs.YtmppjfnojkgllabDoor.RFnExactFormatRanges Go.Proofs.YtmppjfnojkgllabDoorW.PrintWords Go.Proofs.YtmppjfnojkgllabDoorW.PrintLast
set_option linter.unusedSimpArgs false
set_option linter.unusedVariables false

/-! ### Texts as lists of numbers -/
def InB (l : List Int) : Prop := ∀ x ∈ l, 0 ≤ x ∧ x ≤ 255
theorem InB_nil : InB [] := fun x hx => by simp at hx
theorem InB_cons {b : Int} {l : List Int} : InB (b :: l) ↔ (0 ≤ b ∧ b ≤ 255) ∧ InB l := by simp [InB]
theorem InB_append {l m : List Int} : InB (l ++ m) ↔ InB l ∧ InB m := by
  simp only [InB, List.mem_append]
  exact ⟨fun h => ⟨fun x hx => h x (.inl hx), fun x hx => h x (.inr hx)⟩, fun h x hx => hx.elim (h.1 x) (h.2 x)⟩
theorem InB_take {l : List Int} (n : Nat) (h : InB l) : InB (l.take n) := fun x hx => h x (List.mem_of_mem_take hx)
theorem InB_drop {l : List Int} (n : Nat) (h : InB l) : InB (l.drop n) := fun x hx => h x (List.mem_of_mem_drop hx)
theorem InB_bytes (s : ByteArray) : InB (bytesOf s) := by
  intro x hx
  unfold bytesOf at hx
  obtain ⟨b, _, rfl⟩ := List.mem_map.1 hx
  have := b.toNat_lt
  omega
theorem strOf_bytesOf (s : ByteArray) : strOfNums (bytesOf s) = s := by
  obtain ⟨⟨l⟩⟩ := s
  unfold strOfNums bytesOf
  simp only [List.map_map]
  congr 2
  exact (List.map_congr_left (fun b _ => by simp)).trans (List.map_id l)
theorem bytesOf_strOf {l : List Int} (h : InB l) : bytesOf (strOfNums l) = l := by
  unfold strOfNums bytesOf
  simp only [List.map_map]
  refine (List.map_congr_left (fun x hx => ?_)).trans (List.map_id l)
  have := h x hx
  simp only [Function.comp_apply, id, UInt8.toNat_ofNat']
  omega
theorem bytesOf_inj {s t : ByteArray} (h : bytesOf s = bytesOf t) : s = t := by rw [← strOf_bytesOf s, h, strOf_bytesOf]
theorem bytesOf_append (s t : ByteArray) : bytesOf (s ++ t) = bytesOf s ++ bytesOf t := by
  unfold bytesOf
  rw [ByteArray.data_append, Array.toList_append, List.map_append]
theorem bytesOf_extract (s : ByteArray) (a b : Nat) : bytesOf (s.extract a b) = ((bytesOf s).take b).drop a := by
  unfold bytesOf
  rw [ByteArray.data_extract, Array.toList_extract, List.extract_eq_take_drop, List.map_take, List.map_drop, List.take_drop]
  rcases Nat.le_total a b with h | h
  · rw [Nat.add_sub_cancel' h]
  · rw [Nat.sub_eq_zero_of_le h, List.drop_eq_nil_of_le (by simp; omega), List.drop_eq_nil_of_le (by simp; omega)]
theorem toList_iff {s t : ByteArray} : s.toList = t.toList ↔ s = t := by
  rw [ByteArray.toList_eq, ByteArray.toList_eq]
  constructor
  · intro h
    obtain ⟨⟨l⟩⟩ := s
    obtain ⟨⟨m⟩⟩ := t
    simp only at h
    rw [h]
  · rintro rfl; rfl
theorem size_bytes (s : ByteArray) : (s.size : Int) = ((bytesOf s).length : Int) := by rw [bytesOf_length]
theorem getD_mid {α : Type} {l pre rest : List α} {b d : α} (h : l = pre ++ b :: rest) : l.getD ((pre.length : Int)).toNat d = b := by subst h; simp
theorem len_mid {α : Type} {l pre rest : List α} (h : l = pre ++ rest) : l.length = pre.length + rest.length := by rw [h, List.length_append]
theorem rd_mid {l pre rest : List Int} {b : Int} (h : l = pre ++ b :: rest) : rd l (pre.length : Int) = b := by
  subst h
  unfold rd
  simp
theorem bt_mid {s : ByteArray} {pre rest : List Int} {b : Int} (h : bytesOf s = pre ++ b :: rest) : bt s (pre.length : Int) = b := by
  rw [← rd_bytesOf]; exact rd_mid h
theorem size_mid {s : ByteArray} {pre rest : List Int} (h : bytesOf s = pre ++ rest) : (s.size : Int) = (pre.length : Int) + (rest.length : Int) := by
  rw [size_bytes, h]; simp
theorem mid_step {l pre rest : List Int} {b : Int} (h : l = pre ++ b :: rest) : l = (pre ++ [b]) ++ rest := by simp [h]
theorem wrap_id {n : Int} (h0 : -9223372036854775808 ≤ n) (h1 : n ≤ 9223372036854775807) : wrap64 n = n := by unfold wrap64; omega
theorem len_step {α : Type} (pre : List α) (b : α) (h : pre.length ≤ 9223372036854775000) : wrap64 ((pre.length : Int) + 1) = ((pre ++ [b]).length : Int) := by
  rw [wrap_id (by omega) (by omega)]; simp
/-! ### Loops over lists -/
theorem map_loop {α β : Type} (da : α) (conv : α → β) (x0 : List α) (hn : x0.length ≤ 4611686018427387904) (g : Nat → List β → Int → Option (List β))
    (hg : ∀ k x3 i, g (k + 1) x3 i = if i < (x0.length : Int) then (if 0 ≤ i then (if i < (x3.length : Int) then g k (x3.set (i : Int).toNat (conv (x0.getD i.toNat da))) (wrap64 (i + 1)) else none) else none) else some x3) (z : β) :
    Ev (fun k => g k (List.replicate x0.length z) 0) (x0.map conv) := by
  have key : ∀ rest pre, x0 = pre ++ rest → Ev (fun k => g k (pre.map conv ++ List.replicate rest.length z) (pre.length : Int)) (x0.map conv) := by
    intro rest
    induction rest with
    | nil =>
      intro pre h
      refine Ev.step (f := fun _ => some (x0.map conv)) (fun k => ?_) (Ev.now _)
      rw [hg, if_neg (by rw [h]; simp)]
      simp [h]
    | cons b rest ih =>
      intro pre h
      have hl : x0.length = pre.length + (rest.length + 1) := by rw [h]; simp
      refine Ev.step (f := fun k => g k ((pre ++ [b]).map conv ++ List.replicate rest.length z) ((pre ++ [b]).length : Int)) (fun k => ?_) (ih (pre ++ [b]) (by simp [h]))
      rw [hg, if_pos (by omega), if_pos (by omega), if_pos (by simp; omega), wrap_id (by omega) (by omega)]
      have e1 : x0.getD ((pre.length : Int)).toNat da = b := by rw [h]; simp
      rw [e1]
      congr 1
      · simp [List.replicate_succ, List.set_append]
      · simp
  exact key x0 [] rfl
theorem same_loop {α : Type} (a : List α) (hn : a.length ≤ 4611686018427387904) (g : Nat → Int → Option Bool)
    (hg : ∀ k i, 0 ≤ i → i < (a.length : Int) → g (k + 1) i = g k (wrap64 (i + 1))) (he : ∀ k, g (k + 1) (a.length : Int) = some true) : Ev (fun k => g k 0) true := by
  have key : ∀ d i : Nat, i + d = a.length → Ev (fun k => g k (i : Int)) true := by
    intro d
    induction d with
    | zero => intro i h; obtain rfl : i = a.length := by omega
              exact Ev.step he (Ev.now _)
    | succ d ih =>
      intro i h
      refine Ev.step (f := fun k => g k ((i + 1 : Nat) : Int)) (fun k => ?_) (ih (i + 1) (by omega))
      rw [hg k i (by omega) (by omega), wrap_id (by omega) (by omega)]; rfl
  exact key a.length 0 (by omega)
theorem Ev.mp {α : Type} {g f : Nat → Option α} {r : α} (h : Ev f r) (e : ∀ k, g k = f k) : Ev g r := Ev.congr e h
theorem Ev.step2 {α : Type} {g f : Nat → Option α} {r : α} (h : ∃ K, ∀ k, K ≤ k → g (k + 1) = f k) (e : Ev f r) : Ev g r := by
  obtain ⟨K, hK⟩ := h
  obtain ⟨K', hK'⟩ := e
  refine ⟨max K K' + 1, fun k hk => ?_⟩
  obtain ⟨k, rfl⟩ : ∃ m, k = m + 1 := ⟨k - 1, by omega⟩
  rw [hK k (by omega), hK' k (by omega)]
/-- Every element turned into the next of a row of marks. -/
def markL {α : Type} (mk : Int → α) (c : Nat) : Int → List α → List α
  | _, [] => []
  | k, _ :: r => mk k :: markL mk c (k + c) r
theorem markL_length {α : Type} (mk : Int → α) (c : Nat) (l : List α) : ∀ k, (markL mk c k l).length = l.length := by
  induction l with
  | nil => intro k; rfl
  | cons x r ih => intro k; simp [markL, ih]
theorem mark_loop {α : Type} (mk : Int → α) (c : Nat) (g : Nat → List α → Int → Int → Option (Int × List α)) (B : Int) (hB : B ≤ 4611686018427387904)
    (hg : ∀ (l : List α) (k0 i : Int), 0 ≤ i → i < (l.length : Int) → 0 ≤ k0 → k0 + c ≤ B → ∃ K, ∀ k, K ≤ k → g (k + 1) l k0 i = g k (l.set i.toNat (mk k0)) (k0 + c) (wrap64 (i + 1)))
    (he : ∀ k (l : List α) (k0 : Int), g (k + 1) l k0 (l.length : Int) = some (k0, l)) (l : List α) (hl : l.length ≤ 4611686018427387904) (k0 : Int) (h0 : 0 ≤ k0) (h1 : k0 + c * l.length ≤ B) :
    Ev (fun k => g k l k0 0) (k0 + c * l.length, markL mk c k0 l) := by
  have key : ∀ (rest pre : List α) (k0 : Int), 0 ≤ k0 → k0 + c * rest.length ≤ B → pre.length + rest.length ≤ 4611686018427387904 → Ev (fun k => g k (pre ++ rest) k0 (pre.length : Int)) (k0 + c * rest.length, pre ++ markL mk c k0 rest) := by
    intro rest
    induction rest with
    | nil =>
      intro pre k0 _ _ _
      refine Ev.step (f := fun _ => some (k0, pre)) (fun k => ?_) (by simpa [markL] using Ev.now _)
      have := he k pre k0
      simpa using this
    | cons x rest ih =>
      intro pre k0 h0 h1 h2
      simp only [List.length_cons] at h1 h2
      have hc : (c : Int) * ((rest.length + 1 : Nat) : Int) = c * rest.length + c := by rw [Int.natCast_add, Int.mul_add]; simp
      rw [hc] at h1
      have hcn : 0 ≤ (c : Int) * (rest.length : Int) := Int.mul_nonneg (by omega) (by omega)
      obtain ⟨K, hK⟩ := hg (pre ++ x :: rest) k0 (pre.length : Int) (by omega) (by simp; omega) h0 (by omega)
      have e := ih (pre ++ [mk k0]) (k0 + c) (by omega) (by omega) (by simp; omega)
      have e2 : (k0 + (c : Int)) + c * rest.length = k0 + c * ((x :: rest).length : Int) := by simp only [List.length_cons]; rw [hc]; omega
      rw [e2] at e
      refine Ev.step2 (f := fun k => g k (pre ++ [mk k0] ++ rest) (k0 + c) ((pre ++ [mk k0]).length : Int)) ⟨K, fun k hk => ?_⟩ (by simpa [markL] using e)
      rw [hK k hk, wrap_id (by omega) (by omega)]
      simp [List.set_append]
  have := key l [] k0 h0 h1 (by simpa using hl)
  simpa using this
theorem held_loop {α : Type} (mk : Int → α) (c : Nat) (l0 l : List α) (k0 : Int) (hl : l = markL mk c k0 l0) (g : Nat → Int → Int → Option Int) (B : Int) (hB : B ≤ 4611686018427387904)
    (hg : ∀ (k1 i : Int), 0 ≤ i → i < (l.length : Int) → 0 ≤ k1 → k1 + c ≤ B → l[i.toNat]? = some (mk k1) → ∃ K, ∀ k, K ≤ k → g (k + 1) k1 i = g k (k1 + c) (wrap64 (i + 1)))
    (he : ∀ k (k1 : Int), g (k + 1) k1 (l.length : Int) = some k1) (hn : l0.length ≤ 4611686018427387904) (h0 : 0 ≤ k0) (h1 : k0 + c * l0.length ≤ B) :
    Ev (fun k => g k k0 0) (k0 + c * l0.length) := by
  have hlen : l.length = l0.length := by rw [hl, markL_length]
  have key : ∀ (rest : List α) (pre : List α) (k1 : Int), l = pre ++ markL mk c k1 rest → 0 ≤ k1 → k1 + c * rest.length ≤ B → Ev (fun k => g k k1 (pre.length : Int)) (k1 + c * rest.length) := by
    intro rest
    induction rest with
    | nil =>
      intro pre k1 h _ _
      refine Ev.step (f := fun _ => some k1) (fun k => ?_) (by simpa using Ev.now _)
      have := he k k1
      rw [h] at this
      simpa [markL] using this
    | cons x rest ih =>
      intro pre k1 h h0 h1
      simp only [List.length_cons] at h1
      have hc : (c : Int) * ((rest.length + 1 : Nat) : Int) = c * rest.length + c := by rw [Int.natCast_add, Int.mul_add]; simp
      rw [hc] at h1
      have hcn : 0 ≤ (c : Int) * (rest.length : Int) := Int.mul_nonneg (by omega) (by omega)
      have hl2 : l.length = pre.length + (rest.length + 1) := by rw [h]; simp [markL_length]
      obtain ⟨K, hK⟩ := hg k1 (pre.length : Int) (by omega) (by omega) h0 (by omega) (by rw [h]; simp [markL])
      have e := ih (pre ++ [mk k1]) (k1 + c) (by rw [h]; simp [markL]) (by omega) (by omega)
      have e2 : (k1 + (c : Int)) + c * rest.length = k1 + c * ((x :: rest).length : Int) := by simp only [List.length_cons]; rw [hc]; omega
      rw [e2] at e
      refine Ev.step2 (f := fun k => g k (k1 + c) ((pre ++ [mk k1]).length : Int)) ⟨K, fun k hk => ?_⟩ e
      rw [hK k hk, wrap_id (by omega) (by omega)]
      simp
  exact key l0 [] k0 (by simpa using hl) h0 h1
theorem Ev.pos {α : Type} {c : Prop} [Decidable c] {f g : Nat → Option α} {r : α} (h : c) (e : Ev f r) : Ev (fun k => if c then f k else g k) r := by simp only [if_pos h]; exact e
theorem Ev.neg {α : Type} {c : Prop} [Decidable c] {f g : Nat → Option α} {r : α} (h : ¬ c) (e : Ev g r) : Ev (fun k => if c then f k else g k) r := by simp only [if_neg h]; exact e
theorem Ev.get {α β : Type} {f : Nat → α → Option β} {a : α} {r : β} (e : Ev (fun n => f n a) r) : Ev (fun n => (some a).bind (f n)) r := e

def conv_Ask (x : S56) : S53 := ⟨x.f0, x.f1⟩
theorem toAskS_ev (l : List S56) (hn : l.length ≤ 1048576) : Ev (fun k => laws_toAskS.f k l) (l.map conv_Ask) := by
  have e := map_loop z56 conv_Ask l (by omega) (fun k => laws_toAskS.l0 k l) (fun k x3 i => rfl) z53
  refine Ev.mp e (fun k => ?_)
  unfold laws_toAskS.f
  rw [if_pos (by omega), if_pos (by omega), Int.toNat_natCast]

theorem eqAsk_self (x : S53) : laws_eqAsk.f x.f0 x.f1 x.f0 x.f1 = some true := by simp [laws_eqAsk.f]
theorem eqAskS_self (l : List S53) (hn : l.length ≤ 4611686018427387904) : Ev (fun k => laws_eqAskS.f k l l) true := by
  have e := same_loop l hn (fun k => laws_eqAskS.l0 k l l) (fun k i h0 h1 => by
    simp only [laws_eqAskS.l0]
    rw [if_pos h1, if_pos h0, if_pos h1, eqAsk_self, Option.bind_some, if_pos rfl]) (fun k => by
    simp only [laws_eqAskS.l0]
    rw [if_neg (by omega)])
  refine Ev.mp e (fun k => ?_)
  unfold laws_eqAskS.f
  rw [if_pos rfl]

theorem szAskS_some (l : List S56) (hl : l.length ≤ 140737488355328) : ∃ r, laws_szAskS.f l 1048576 = some r ∧ (¬ r < 0 → l.length ≤ 1048576) := by
  unfold laws_szAskS.f
  rw [wrap_id (by omega) (by omega)]
  split
  · exact ⟨_, rfl, fun h => absurd (show (-1 : Int) < 0 by decide) h⟩
  · exact ⟨_, rfl, fun h => by omega⟩

def totS : List ByteArray → Nat
  | [] => 0
  | x :: r => 1 + x.size + totS r
theorem totS_len (l : List ByteArray) : l.length ≤ totS l := by
  induction l with
  | nil => simp
  | cons x r ih => simp only [List.length_cons, totS]; omega
theorem rdS_mid {l pre rest : List ByteArray} {x : ByteArray} (h : l = pre ++ x :: rest) : rdOf ByteArray.empty l (pre.length : Int) = x := getD_mid h

def joinT : List ByteArray → List Int
  | [] => []
  | x :: r => [44, 32] ++ bytesOf x ++ joinT r
def joinI : List ByteArray → List Int
  | [] => []
  | x :: r => bytesOf x ++ joinT r
def joinV (l : List ByteArray) : ByteArray := strOfNums (joinI l)
theorem InB_joinT (l : List ByteArray) : InB (joinT l) := by
  induction l with
  | nil => exact InB_nil
  | cons x r ih =>
    simp only [joinT, InB_append]
    exact ⟨⟨by intro y hy; simp at hy; omega, InB_bytes x⟩, ih⟩
theorem InB_joinI (l : List ByteArray) : InB (joinI l) := by
  cases l with
  | nil => exact InB_nil
  | cons x r => simp only [joinI, InB_append]; exact ⟨InB_bytes x, InB_joinT r⟩
theorem bytesOf_joinV (l : List ByteArray) : bytesOf (joinV l) = joinI l := bytesOf_strOf (InB_joinI l)
theorem joinT_len (l : List ByteArray) : (joinT l).length ≤ 2 * totS l := by
  induction l with
  | nil => simp [joinT]
  | cons x r ih => simp only [joinT, totS, List.length_append, bytesOf_length, List.length_cons, List.length_nil]; omega
theorem joinI_len (l : List ByteArray) : (joinI l).length ≤ 2 * totS l := by
  cases l with
  | nil => simp [joinI]
  | cons x r => have := joinT_len r; simp only [joinI, totS, List.length_append, bytesOf_length]; omega

/-! ### Decimal numerals -/
def numL (n : Nat) : List Int := if h : n < 10 then [48 + (n : Int)] else numL (n / 10) ++ [48 + ((n % 10 : Nat) : Int)]
termination_by n
decreasing_by omega
theorem numL_small {n : Nat} (h : n < 10) : numL n = [48 + (n : Int)] := by rw [numL, dif_pos h]
theorem numL_big {n : Nat} (h : ¬ n < 10) : numL n = numL (n / 10) ++ [48 + ((n % 10 : Nat) : Int)] := by rw [numL, dif_neg h]
def valL (l : List Int) : Int := l.foldl (fun a b => 10 * a + (b - 48)) 0
theorem valL_concat (l : List Int) (b : Int) : valL (l ++ [b]) = 10 * valL l + (b - 48) := by unfold valL; rw [List.foldl_append]; rfl
theorem num_ind {p : Nat → Prop} (h0 : ∀ n, n < 10 → p n) (h1 : ∀ n, ¬ n < 10 → p (n / 10) → p n) (n : Nat) : p n := by
  induction n using Nat.strongRecOn with
  | _ n ih =>
    by_cases h : n < 10
    · exact h0 n h
    · exact h1 n h (ih (n / 10) (by omega))
theorem valL_num (n : Nat) : valL (numL n) = n := by
  induction n using num_ind with
  | h0 n h => rw [numL_small h]; simp [valL]; omega
  | h1 n h ih => rw [numL_big h, valL_concat, ih]; omega
theorem numL_digits (n : Nat) : ∀ x ∈ numL n, 48 ≤ x ∧ x ≤ 57 := by
  induction n using num_ind with
  | h0 n h => rw [numL_small h]; simp; omega
  | h1 n h ih =>
    rw [numL_big h]
    intro x hx
    rcases List.mem_append.1 hx with g | g
    · exact ih x g
    · simp at g; omega
theorem numL_ne (n : Nat) : numL n ≠ [] := by
  induction n using num_ind with
  | h0 n h => rw [numL_small h]; simp
  | h1 n h ih => rw [numL_big h]; simp
theorem numL_len (d : Nat) : ∀ n, n < 10 ^ (d + 1) → (numL n).length ≤ d + 1 := by
  induction d with
  | zero => intro n h; rw [numL_small (by simpa using h)]; simp
  | succ d ih =>
    intro n h
    by_cases g : n < 10
    · rw [numL_small g]; simp
    · rw [numL_big g, List.length_append]
      have := ih (n / 10) (by rw [Nat.pow_succ] at h; omega)
      simp; omega
theorem InB_digits {l : List Int} (h : ∀ x ∈ l, 48 ≤ x ∧ x ≤ 57) : InB l := fun x hx => by have := h x hx; omega
def fmtL (n : Int) : List Int := if n < 0 then 45 :: numL n.natAbs else numL n.toNat
def fmtV (n : Int) : ByteArray := strOfNums (fmtL n)
theorem InB_fmt (n : Int) : InB (fmtL n) := by
  unfold fmtL
  split
  · rw [InB_cons]; exact ⟨by omega, InB_digits (numL_digits _)⟩
  · exact InB_digits (numL_digits _)
theorem bytesOf_fmt (n : Int) : bytesOf (fmtV n) = fmtL n := bytesOf_strOf (InB_fmt n)
theorem valL_fmt {n : Int} (h : 0 ≤ n) : valL (fmtL n) = n := by
  unfold fmtL; rw [if_neg (by omega), valL_num]; omega
theorem fmtL_pos {n : Int} (h : 0 ≤ n) : fmtL n = numL n.toNat := by unfold fmtL; rw [if_neg (by omega)]
theorem fmtL_len (n : Int) (h0 : -9223372036854775808 ≤ n) (h1 : n ≤ 9223372036854775807) : (fmtL n).length ≤ 20 := by
  unfold fmtL
  split
  · have := numL_len 18 n.natAbs (by omega)
    simp only [List.length_cons]; omega
  · have := numL_len 18 n.toNat (by omega)
    omega
/-- The value of a text that is an integer's decimal form, up to a million millions. -/
def parseV (s : ByteArray) : Int × Bool := if 0 ≤ valL (bytesOf s) ∧ valL (bytesOf s) ≤ 1000000000000 ∧ fmtL (valL (bytesOf s)) = bytesOf s then (valL (bytesOf s), true) else (0, false)
theorem parseV_fmt {n : Int} (h0 : 0 ≤ n) (h1 : n ≤ 1000000000000) : parseV (fmtV n) = (n, true) := by
  unfold parseV
  rw [bytesOf_fmt, valL_fmt h0, if_pos ⟨h0, h1, rfl⟩]
theorem parseV_true {s : ByteArray} {n : Int} (h : parseV s = (n, true)) : 0 ≤ n ∧ n ≤ 1000000000000 ∧ s = fmtV n := by
  unfold parseV at h
  split at h
  · rename_i g
    simp only [Prod.mk.injEq, and_true] at h
    subst h
    exact ⟨g.1, g.2.1, bytesOf_inj (by rw [bytesOf_fmt, g.2.2])⟩
  · simp at h
theorem parseV_no {s : ByteArray} (h : ¬ (0 ≤ valL (bytesOf s) ∧ valL (bytesOf s) ≤ 1000000000000 ∧ fmtL (valL (bytesOf s)) = bytesOf s)) : parseV s = (0, false) := by unfold parseV; rw [if_neg h]

theorem fmtV_size {n : Int} (h0 : -9223372036854775808 ≤ n) (h1 : n ≤ 9223372036854775807) : (fmtV n).size ≤ 20 := by
  have := fmtL_len n h0 h1
  rw [← bytesOf_fmt, bytesOf_length] at this
  exact this
theorem wrap_range (x : Int) : -9223372036854775808 ≤ wrap64 x ∧ wrap64 x ≤ 9223372036854775807 := by unfold wrap64; omega

def askV (a : S53) : ByteArray := if a.f0 < 0 then (⟨#[45]⟩ : ByteArray) ++ fmtV a.f1 else if a.f1 < 0 then fmtV a.f0 ++ (⟨#[45]⟩ : ByteArray) else (fmtV a.f0 ++ (⟨#[45]⟩ : ByteArray)) ++ fmtV a.f1
def bytesEq : ByteArray := ⟨#[98, 121, 116, 101, 115, 61]⟩
def frV (l : List S53) : ByteArray := bytesEq ++ joinV (l.map askV)
def wfA (a : S53) : Prop := (-9223372036854775808 ≤ a.f0 ∧ a.f0 ≤ 9223372036854775807) ∧ (-9223372036854775808 ≤ a.f1 ∧ a.f1 ≤ 9223372036854775807)
theorem sz45 : (⟨#[45]⟩ : ByteArray).size = 1 := rfl
theorem askV_size (a : S53) (h : wfA a) : (askV a).size ≤ 41 := by
  have h0 := fmtV_size h.1.1 h.1.2
  have h1 := fmtV_size h.2.1 h.2.2
  unfold askV
  split
  · rw [ByteArray.size_append, sz45]; omega
  · split
    · rw [ByteArray.size_append, sz45]; omega
    · rw [ByteArray.size_append, ByteArray.size_append, sz45]; omega
theorem totS_asks (l : List S53) (h : ∀ a ∈ l, wfA a) : totS (l.map askV) ≤ 42 * l.length := by
  induction l with
  | nil => simp [totS]
  | cons x r ih =>
    have := ih (fun a ha => h a (by simp [ha]))
    have h0 := askV_size x (h x (by simp))
    simp only [List.map_cons, totS, List.length_cons]; omega
theorem joinV_size (l : List ByteArray) : (joinV l).size ≤ 2 * totS l := by
  have := joinI_len l
  rw [← bytesOf_joinV, bytesOf_length] at this
  exact this

theorem spec_Join_ev (l : List ByteArray) (hl : totS l ≤ 1099511627776) : Ev (fun k => spec_JoinList.f k l) (joinV l) := by
  have hlen := totS_len l
  have key : ∀ (rest pre : List ByteArray) (acc : ByteArray), l = pre ++ rest → 0 < pre.length → acc.size + 2 * totS rest ≤ 4611686018427387904 → Ev (fun k => spec_JoinList.l0 k l acc (pre.length : Int)) (strOfNums (bytesOf acc ++ joinT rest)) := by
    intro rest
    induction rest with
    | nil =>
      intro pre acc h hp ha
      have hl2 := len_mid h
      simp only [List.length_nil] at hl2
      refine Ev.step (f := fun _ => some acc) (fun k => ?_) (by simpa [joinT, strOf_bytesOf] using Ev.now acc)
      simp only [spec_JoinList.l0]
      rw [if_neg (by omega)]
    | cons x rest ih =>
      intro pre acc h hp ha
      have hl2 := len_mid h
      simp only [List.length_cons, totS] at hl2 ha
      have hx := rdS_mid h
      have hw := len_step pre x (by omega)
      have z1 : (⟨#[44, 32]⟩ : ByteArray).size = 2 := rfl
      have b1 : bytesOf (⟨#[44, 32]⟩ : ByteArray) = [44, 32] := by decide
      refine Ev.step (f := fun k => spec_JoinList.l0 k l ((acc ++ (⟨#[44, 32]⟩ : ByteArray)) ++ x) ((pre ++ [x]).length : Int)) (fun k => ?_) ?_
      · simp only [spec_JoinList.l0]
        rw [if_pos (by omega), if_pos (by omega), if_pos (by omega), if_pos (by omega), hx, if_pos (by simp only [ByteArray.size_append]; omega), hw]
      · have := ih (pre ++ [x]) ((acc ++ (⟨#[44, 32]⟩ : ByteArray)) ++ x) (by simp [h]) (by simp) (by simp only [ByteArray.size_append]; omega)
        simpa [bytesOf_append, b1, joinT] using this
  unfold spec_JoinList.f
  match l, hl, hlen, key with
  | [], hl, hlen, key =>
    refine Ev.step (f := fun _ => some (⟨#[]⟩ : ByteArray)) (fun k => ?_) ?_
    · simp only [spec_JoinList.l0]
      rw [if_neg (by simp)]
    · have e : joinV [] = ⟨#[]⟩ := by apply bytesOf_inj; rw [bytesOf_joinV]; decide
      rw [e]; exact Ev.now _
  | x :: r, hl, hlen, key =>
    simp only [totS, List.length_cons] at hl hlen
    have hx : rdOf ByteArray.empty (x :: r) 0 = x := rfl
    have e0 : (⟨#[]⟩ : ByteArray) ++ x = x := by apply bytesOf_inj; rw [bytesOf_append, show bytesOf ⟨#[]⟩ = [] by decide]; rfl
    refine Ev.step (f := fun k => spec_JoinList.l0 k (x :: r) x (([x] : List ByteArray).length : Int)) (fun k => ?_) ?_
    · simp only [spec_JoinList.l0]
      rw [if_pos (by simp only [List.length_cons]; omega), if_neg (by omega), if_pos (by omega), hx, e0, if_pos (by have : (⟨#[]⟩ : ByteArray).size = 0 := rfl; omega), wrap_id (by omega) (by omega)]
      rfl
    · exact key r [x] x rfl (by simp) (by omega)

def signed (n : Int) (t : ByteArray) : ByteArray := if n < 0 then (⟨#[45]⟩ : ByteArray) ++ t else t
theorem one_byte (d : Int) (h0 : 0 ≤ d) (h1 : d ≤ 9) : (wrap64 (48 + d)) % 256 = 48 + d := by rw [wrap_id (by omega) (by omega)]; omega
theorem spec_Fmt_end (n : Int) (s : ByteArray) (hs : s.size ≤ 1000) : Ev (fun k => spec_FormatInt.l0 k n s 0) (signed n s) := by
  refine Ev.step (f := fun _ => some (signed n s)) (fun k => ?_) (Ev.now _)
  simp only [spec_FormatInt.l0]
  rw [if_pos trivial]
  unfold signed
  split
  · rw [if_pos (by omega)]
  · rfl
theorem spec_Fmt_loop (n : Int) (d : Nat) : ∀ (x : Int) (s : ByteArray), x ≠ 0 → x.natAbs < 10 ^ d → -9223372036854775808 ≤ x → x ≤ 9223372036854775807 → s.size + d ≤ 1000 →
    Ev (fun k => spec_FormatInt.l0 k n s x) (signed n (strOfNums (numL x.natAbs) ++ s)) := by
  induction d with
  | zero => intro x s hx h; simp at h; omega
  | succ d ih =>
    intro x s hx h hlo hhi hs
    have hq : (x.natAbs / 10) < 10 ^ d := by rw [Nat.pow_succ] at h; omega
    obtain ⟨dg, hdg⟩ : ∃ dg : Int, dg = ((x.natAbs % 10 : Nat) : Int) := ⟨_, rfl⟩
    obtain ⟨x', hx'⟩ : ∃ x' : Int, x' = Int.tdiv x 10 := ⟨_, rfl⟩
    have hdb : 0 ≤ dg ∧ dg ≤ 9 := by omega
    have habs : x'.natAbs = x.natAbs / 10 := by rw [hx', Int.natAbs_tdiv]; rfl
    have hb' : -9223372036854775808 ≤ x' ∧ x' ≤ 9223372036854775807 := by omega
    have hw : wrap64 (Int.tdiv x 10) = x' := by rw [← hx', wrap_id hb'.1 hb'.2]
    have hstep : ∀ k, spec_FormatInt.l0 (k + 1) n s x = spec_FormatInt.l0 k n (strOfNums [48 + dg] ++ s) x' := by
      intro k
      have hsz : (strOfNums [48 + dg]).size + s.size ≤ 9223372036854775807 := by rw [strOfNums_size]; simp; omega
      simp only [spec_FormatInt.l0]
      rw [if_neg hx]
      by_cases hneg : x < 0
      · have e : Int.tmod x 10 = -dg := by
          have : x = -((x.natAbs : Nat) : Int) := by omega
          rw [this, Int.neg_tmod, hdg]; rfl
        by_cases z : dg = 0
        · have e0 : Int.tmod x 10 = 0 := by omega
          rw [if_neg (by omega), e0, z, Option.bind_some]
          rw [z] at hsz
          have o := one_byte 0 (by omega) (by omega)
          rw [o, if_pos hsz, hw]
        · rw [if_pos (by omega), e, Int.neg_neg, wrap_id (n := dg) (by omega) (by omega), one_byte dg hdb.1 hdb.2, Option.bind_some, if_pos hsz, hw]
      · have e : Int.tmod x 10 = dg := by
          have : x = ((x.natAbs : Nat) : Int) := by omega
          rw [this, hdg]; rfl
        rw [if_neg (by omega), e, one_byte dg hdb.1 hdb.2, Option.bind_some, if_pos hsz, hw]
    have hsz1 : (strOfNums [48 + dg] ++ s).size = 1 + s.size := by rw [ByteArray.size_append, strOfNums_size]; rfl
    by_cases z : x' = 0
    · have h10 : x.natAbs < 10 := by omega
      have e : strOfNums (numL x.natAbs) = strOfNums [48 + dg] := by rw [numL_small h10, hdg, Nat.mod_eq_of_lt h10]
      rw [e]
      refine Ev.step hstep ?_
      rw [z]
      exact spec_Fmt_end n _ (by omega)
    · have h10 : ¬ x.natAbs < 10 := by omega
      have e : strOfNums (numL x.natAbs) ++ s = strOfNums (numL x'.natAbs) ++ (strOfNums [48 + dg] ++ s) := by
        apply bytesOf_inj
        have i1 : InB [48 + dg] := by rw [InB_cons]; exact ⟨by omega, InB_nil⟩
        rw [bytesOf_append, bytesOf_append, bytesOf_append, bytesOf_strOf (InB_digits (numL_digits _)), bytesOf_strOf (InB_digits (numL_digits _)), bytesOf_strOf i1, numL_big h10, habs, hdg, List.append_assoc]
      rw [e]
      exact Ev.step hstep (ih x' _ z (by omega) hb'.1 hb'.2 (by omega))
theorem spec_Fmt_ev (n : Int) (h0 : -9223372036854775808 ≤ n) (h1 : n ≤ 9223372036854775807) : Ev (fun k => spec_FormatInt.f k n) (fmtV n) := by
  unfold spec_FormatInt.f
  by_cases z : n = 0
  · subst z
    refine Ev.pos rfl ?_
    have e : (⟨#[48]⟩ : ByteArray) = fmtV 0 := by
      apply bytesOf_inj
      rw [bytesOf_fmt, fmtL_pos (by omega), numL_small (by decide)]
      decide
    rw [e]; exact Ev.now _
  · refine Ev.neg z ?_
    have := spec_Fmt_loop n 19 n ⟨#[]⟩ z (by omega) h0 h1 (by decide)
    have e : signed n (strOfNums (numL n.natAbs) ++ ⟨#[]⟩) = fmtV n := by
      have e0 : strOfNums (numL n.natAbs) ++ ⟨#[]⟩ = strOfNums (numL n.natAbs) := by apply bytesOf_inj; rw [bytesOf_append, show bytesOf ⟨#[]⟩ = [] by decide, List.append_nil]
      apply bytesOf_inj
      rw [e0, bytesOf_fmt]
      unfold signed fmtL
      split
      · rw [bytesOf_append, bytesOf_strOf (InB_digits (numL_digits _))]; rfl
      · rw [bytesOf_strOf (InB_digits (numL_digits _))]
        congr 1; omega
    rwa [e] at this

theorem spec_FR_ev (l : List S53) (hl : l.length ≤ 1048576) (hw : ∀ a ∈ l, wfA a) : Ev (fun k => spec_FormatRanges.f k l) (frV l) := by
  have key : ∀ (rest pre : List S53), l = pre ++ rest → Ev (fun k => spec_FormatRanges.l0 k l (pre.map askV) (pre.length : Int)) (frV l) := by
    intro rest
    induction rest with
    | nil =>
      intro pre h
      have hl2 := len_mid h
      simp only [List.length_nil] at hl2
      have e : pre = l := by rw [h]; simp
      have ht := totS_asks l hw
      have hj := joinV_size (l.map askV)
      refine Ev.step (f := fun k => (spec_JoinList.f k (l.map askV)).bind fun t => if 6 + t.size ≤ 9223372036854775807 then some (bytesEq ++ t) else none) (fun k => ?_) (Ev.bind (spec_Join_ev (l.map askV) (by omega)) (Ev.pos (by omega) (Ev.now _)))
      simp only [spec_FormatRanges.l0]
      rw [if_neg (by omega), e]
      rfl
    | cons x rest ih =>
      intro pre h
      have hl2 := len_mid h
      simp only [List.length_cons] at hl2
      have hx : rd_T53 l (pre.length : Int) = x := getD_mid h
      have hwx := hw x (by rw [h]; simp)
      have h0 := fmtV_size hwx.1.1 hwx.1.2
      have h1 := fmtV_size hwx.2.1 hwx.2.2
      have hst := len_step pre x (by omega)
      have hm : (pre.map askV).length = pre.length := by simp
      have hap : pre.map askV ++ [askV x] = (pre ++ [x]).map askV := by simp
      have nxt := ih (pre ++ [x]) (by simp [h])
      rw [← hap, ← hst] at nxt
      by_cases g0 : x.f0 < 0
      · have ea : askV x = (⟨#[45]⟩ : ByteArray) ++ fmtV x.f1 := by unfold askV; rw [if_pos g0]
        rw [ea] at nxt
        refine Ev.step (f := fun k => (spec_FormatInt.f k x.f1).bind fun t => if 1 + t.size ≤ 9223372036854775807 then spec_FormatRanges.l0 k l (pre.map askV ++ [(⟨#[45]⟩ : ByteArray) ++ t]) (wrap64 ((pre.length : Int) + 1)) else none) (fun k => ?_) (Ev.bind (spec_Fmt_ev _ hwx.2.1 hwx.2.2) (Ev.pos (by omega) nxt))
        simp only [spec_FormatRanges.l0]
        rw [if_pos (by omega), if_pos (by omega), hx, if_pos g0]
        congr 1; funext t; rw [if_pos (show (pre.map askV).length < 8796093022208 by omega)]
      · by_cases g1 : x.f1 < 0
        · have ea : askV x = fmtV x.f0 ++ (⟨#[45]⟩ : ByteArray) := by unfold askV; rw [if_neg g0, if_pos g1]
          rw [ea] at nxt
          refine Ev.step (f := fun k => (spec_FormatInt.f k x.f0).bind fun t => if t.size + 1 ≤ 9223372036854775807 then spec_FormatRanges.l0 k l (pre.map askV ++ [t ++ (⟨#[45]⟩ : ByteArray)]) (wrap64 ((pre.length : Int) + 1)) else none) (fun k => ?_) (Ev.bind (spec_Fmt_ev _ hwx.1.1 hwx.1.2) (Ev.pos (by omega) nxt))
          simp only [spec_FormatRanges.l0]
          rw [if_pos (by omega), if_pos (by omega), hx, if_neg g0, if_pos g1]
          congr 1; funext t; rw [if_pos (show (pre.map askV).length < 8796093022208 by omega)]
        · have ea : askV x = (fmtV x.f0 ++ (⟨#[45]⟩ : ByteArray)) ++ fmtV x.f1 := by unfold askV; rw [if_neg g0, if_neg g1]
          rw [ea] at nxt
          refine Ev.step (f := fun k => (spec_FormatInt.f k x.f0).bind fun t => if t.size + 1 ≤ 9223372036854775807 then (spec_FormatInt.f k x.f1).bind (fun u => if (t ++ (⟨#[45]⟩ : ByteArray)).size + u.size ≤ 9223372036854775807 then spec_FormatRanges.l0 k l (pre.map askV ++ [(t ++ (⟨#[45]⟩ : ByteArray)) ++ u]) (wrap64 ((pre.length : Int) + 1)) else none) else none) (fun k => ?_) (Ev.bind (spec_Fmt_ev _ hwx.1.1 hwx.1.2) (Ev.pos (by omega) (Ev.bind (spec_Fmt_ev _ hwx.2.1 hwx.2.2) (Ev.pos (by rw [ByteArray.size_append, sz45]; omega) nxt))))
          simp only [spec_FormatRanges.l0]
          rw [if_pos (by omega), if_pos (by omega), hx, if_neg g0, if_neg g1]
          congr 1; funext t; congr 1; congr 1; funext u; rw [if_pos (show (pre.map askV).length < 8796093022208 by omega)]
  exact key l [] rfl

theorem bytesOf_mk2 (l : List UInt8) : bytesOf ⟨l.toArray⟩ = l.map fun b => (b.toNat : Int) := rfl
theorem libjoin_map (l : List ByteArray) : ((Lib.join (l.map (·.data.toList)) [44, 32]).map fun b => (b.toNat : Int)) = joinI l := by
  have tail : ∀ r : List ByteArray, ((Lib.joinTail [44, 32] (r.map (·.data.toList))).map fun b => (b.toNat : Int)) = joinT r := by
    intro r
    induction r with
    | nil => rfl
    | cons x r ih =>
      simp only [Lib.joinTail, List.map_cons, List.flatten_cons, List.map_append, joinT] at ih ⊢
      rw [ih]; rfl
  cases l with
  | nil => rfl
  | cons x r =>
    rw [List.map_cons, Lib.join_cons, List.map_append, tail]; rfl
theorem impl_Join_eq (l : List ByteArray) (hl : totS l ≤ 1099511627776) : impl_JoinList.f l = some (joinV l) := by
  have hlen := totS_len l
  have h2 := joinI_len l
  have e : (⟨#[44, 32]⟩ : ByteArray).data.toList = [44, 32] := rfl
  have hl3 : (Lib.join (l.map (·.data.toList)) [44, 32]).length = (joinI l).length := by rw [← libjoin_map, List.length_map]
  unfold impl_JoinList.f strings_Join.f
  rw [e, if_pos ⟨by omega, by omega⟩, Option.bind_some]
  congr 1
  apply bytesOf_inj
  rw [bytesOf_joinV, bytesOf_mk2, libjoin_map]

theorem decDigits_map (u : Nat) : ((Lib.decDigits u).map fun b => (b.toNat : Int)) = numL u := by
  refine num_ind (p := fun u => ((Lib.decDigits u).map fun b => (b.toNat : Int)) = numL u) (fun n h => ?_) (fun n h ih => ?_) u
  · rw [Lib.decDigits, dif_pos h, numL_small h]
    simp [UInt8.toNat_ofNat']; omega
  · rw [Lib.decDigits, dif_neg h, numL_big h, List.map_append, ih]
    simp [UInt8.toNat_ofNat']; omega

theorem itoa_map (n : Int) : ((Lib.itoa n).map fun b => (b.toNat : Int)) = fmtL n := by
  unfold Lib.itoa fmtL
  split
  · simp only [List.map_cons, decDigits_map]; rfl
  · exact decDigits_map _
theorem impl_Fmt_eq (n : Int) (h0 : -9223372036854775808 ≤ n) (h1 : n ≤ 9223372036854775807) : impl_FormatInt.f n = some (fmtV n) := by
  unfold impl_FormatInt.f strconv_Itoa.f
  rw [if_pos ⟨h0, h1⟩, Option.bind_some]
  congr 1
  apply bytesOf_inj
  rw [bytesOf_fmt, ← itoa_map]; rfl

theorem impl_FR_ev (l : List S53) (hl : l.length ≤ 1048576) (hw : ∀ a ∈ l, wfA a) : Ev (fun k => impl_FormatRanges.f k l) (frV l) := by
  have key : ∀ (rest pre : List S53), l = pre ++ rest → Ev (fun k => impl_FormatRanges.l0 k (pre.map askV) l (l.length : Int) (pre.length : Int)) (frV l) := by
    intro rest
    induction rest with
    | nil =>
      intro pre h
      have hl2 := len_mid h
      simp only [List.length_nil] at hl2
      have e : pre = l := by rw [h]; simp
      have ht := totS_asks l hw
      have hj := joinV_size (l.map askV)
      refine Ev.step (f := fun k => some (frV l)) (fun k => ?_) (Ev.now _)
      simp only [impl_FormatRanges.l0]
      rw [if_neg (by omega), e, impl_Join_eq (l.map askV) (by omega), Option.bind_some, if_pos (by omega)]
      rfl
    | cons x rest ih =>
      intro pre h
      have hl2 := len_mid h
      simp only [List.length_cons] at hl2
      have hx : rd_T53 l (pre.length : Int) = x := getD_mid h
      have hwx := hw x (by rw [h]; simp)
      have h0 := fmtV_size hwx.1.1 hwx.1.2
      have h1 := fmtV_size hwx.2.1 hwx.2.2
      have hst := len_step pre x (by omega)
      have hm : (pre.map askV).length = pre.length := by simp
      have hap : pre.map askV ++ [askV x] = (pre ++ [x]).map askV := by simp
      have nxt := ih (pre ++ [x]) (by simp [h])
      rw [← hap, ← hst] at nxt
      refine Ev.step (f := fun k => impl_FormatRanges.l0 k (pre.map askV ++ [askV x]) l (l.length : Int) (wrap64 ((pre.length : Int) + 1))) (fun k => ?_) nxt
      simp only [impl_FormatRanges.l0]
      rw [if_pos (by omega), if_pos (by omega), if_pos (by omega), hx]
      by_cases g0 : x.f0 < 0
      · have ea : askV x = (⟨#[45]⟩ : ByteArray) ++ fmtV x.f1 := by unfold askV; rw [if_pos g0]
        rw [ea, if_pos g0, impl_Fmt_eq _ hwx.2.1 hwx.2.2, Option.bind_some, if_pos (by omega), if_pos (by omega)]
      · rw [if_neg g0]
        by_cases g1 : x.f1 < 0
        · have ea : askV x = fmtV x.f0 ++ (⟨#[45]⟩ : ByteArray) := by unfold askV; rw [if_neg g0, if_pos g1]
          rw [ea, if_pos g1, impl_Fmt_eq _ hwx.1.1 hwx.1.2, Option.bind_some, if_pos (by omega), if_pos (by omega)]
        · have ea : askV x = (fmtV x.f0 ++ (⟨#[45]⟩ : ByteArray)) ++ fmtV x.f1 := by unfold askV; rw [if_neg g0, if_neg g1]
          rw [ea, if_neg g1, impl_Fmt_eq _ hwx.1.1 hwx.1.2, Option.bind_some, if_pos (by omega), impl_Fmt_eq _ hwx.2.1 hwx.2.2, Option.bind_some, if_pos (by rw [ByteArray.size_append, sz45]; omega), if_pos (by omega)]
  exact key l [] rfl

theorem FnExactFormatRanges : laws_FnExactFormatRanges.Pure := by
  intro l hlen hgood
  unfold laws_FnExactFormatRanges.f
  apply Ev.rounds
  obtain ⟨r, hr, hr2⟩ := szAskS_some l (by omega)
  simp only [hr, Option.bind_some]
  by_cases hneg : r < 0
  · exact Ev.pos hneg (Ev.now _)
  · refine Ev.neg hneg ?_
    have hn := hr2 hneg
    have hm : (l.map conv_Ask).length ≤ 1048576 := by simpa using hn
    have hg : ∀ a ∈ l.map conv_Ask, wfA a := by
      intro a ha
      obtain ⟨b, hb, rfl⟩ := List.mem_map.1 ha
      exact ⟨bounds_i64 (hgood b hb).1, bounds_i64 (hgood b hb).2⟩
    refine Ev.bind (toAskS_ev l hn) (Ev.bind (spec_FR_ev _ hm hg) (Ev.bind (toAskS_ev l hn) (Ev.bind (impl_FR_ev _ hm hg) (Ev.pos rfl ?_))))
    exact Ev.bind (toAskS_ev l hn) (Ev.bind (eqAskS_self _ (by omega)) (Ev.pos rfl (Ev.now _)))

end Go.Proofs.YtmppjfnojkgllabDoor.Pure
