/- The pure part of FnExactFormatDate: for every input within the statement's bounds the printed law answers true. Conditions: the statement's own bounds alone. -/
import Derived.Test.YtlboepkphddacabDoorPreFnExactFormatDate
import Derived.Test.YtlboepkphddacabDoorRFnExactFormatDatex1
import Derived.Test.YtlboepkphddacabDoorRFnExactFormatDatex2
import Derived.Test.YtlboepkphddacabDoorRFnExactFormatDatex3
import Derived.Test.YtlboepkphddacabDoorRFnExactFormatDatex4
import Derived.OpenShut
namespace Go.Proofs.YtlboepkphddacabDoor.Pure
open Go.RowKit Go.Proofs.YtlboepkphddacabDoor.RFnExactFormatDate Go.Proofs.YtlboepkphddacabDoorW.PrintWords Go.Proofs.YtlboepkphddacabDoorW.PrintLast
set_option linter.unusedSimpArgs false
set_option linter.unusedVariables false

/-! ### Texts as lists of numbers -/
def InB (l : List Int) : Prop := ∀ x ∈ l, 0 ≤ x ∧ x ≤ 255
theorem InB_nil : InB [] := fun x hx => by simp at hx
theorem InB_cons {b : Int} {l : List Int} : InB (b :: l) ↔ (0 ≤ b ∧ b ≤ 255) ∧ InB l := by simp [InB]
theorem InB_append {l m : List Int} : InB (l ++ m) ↔ InB l ∧ InB m := by
  simp only [InB, List.mem_append]
  exact ⟨fun h => ⟨fun x hx => h x (.inl hx), fun x hx => h x (.inr hx)⟩, fun h x hx => hx.elim (h.1 x) (h.2 x)⟩
theorem InB_take {l : List Int} (n : Nat) (h : InB l) : InB (l.take n) := fun x hx => h x (List.mem_of_mem_take hx)
theorem InB_drop {l : List Int} (n : Nat) (h : InB l) : InB (l.drop n) := fun x hx => h x (List.mem_of_mem_drop hx)
theorem InB_bytes (s : ByteArray) : InB (bytesOf s) := by
  intro x hx
  unfold bytesOf at hx
  obtain ⟨b, _, rfl⟩ := List.mem_map.1 hx
  have := b.toNat_lt
  omega
theorem strOf_bytesOf (s : ByteArray) : strOfNums (bytesOf s) = s := by
  obtain ⟨⟨l⟩⟩ := s
  unfold strOfNums bytesOf
  simp only [List.map_map]
  congr 2
  exact (List.map_congr_left (fun b _ => by simp)).trans (List.map_id l)
theorem bytesOf_strOf {l : List Int} (h : InB l) : bytesOf (strOfNums l) = l := by
  unfold strOfNums bytesOf
  simp only [List.map_map]
  refine (List.map_congr_left (fun x hx => ?_)).trans (List.map_id l)
  have := h x hx
  simp only [Function.comp_apply, id, UInt8.toNat_ofNat']
  omega
theorem bytesOf_inj {s t : ByteArray} (h : bytesOf s = bytesOf t) : s = t := by rw [← strOf_bytesOf s, h, strOf_bytesOf]
theorem bytesOf_append (s t : ByteArray) : bytesOf (s ++ t) = bytesOf s ++ bytesOf t := by
  unfold bytesOf
  rw [ByteArray.data_append, Array.toList_append, List.map_append]
theorem bytesOf_extract (s : ByteArray) (a b : Nat) : bytesOf (s.extract a b) = ((bytesOf s).take b).drop a := by
  unfold bytesOf
  rw [ByteArray.data_extract, Array.toList_extract, List.extract_eq_take_drop, List.map_take, List.map_drop, List.take_drop]
  rcases Nat.le_total a b with h | h
  · rw [Nat.add_sub_cancel' h]
  · rw [Nat.sub_eq_zero_of_le h, List.drop_eq_nil_of_le (by simp; omega), List.drop_eq_nil_of_le (by simp; omega)]
theorem toList_iff {s t : ByteArray} : s.toList = t.toList ↔ s = t := by
  rw [ByteArray.toList_eq, ByteArray.toList_eq]
  constructor
  · intro h
    obtain ⟨⟨l⟩⟩ := s
    obtain ⟨⟨m⟩⟩ := t
    simp only at h
    rw [h]
  · rintro rfl; rfl
theorem size_bytes (s : ByteArray) : (s.size : Int) = ((bytesOf s).length : Int) := by rw [bytesOf_length]
theorem getD_mid {α : Type} {l pre rest : List α} {b d : α} (h : l = pre ++ b :: rest) : l.getD ((pre.length : Int)).toNat d = b := by subst h; simp
theorem len_mid {α : Type} {l pre rest : List α} (h : l = pre ++ rest) : l.length = pre.length + rest.length := by rw [h, List.length_append]
theorem rd_mid {l pre rest : List Int} {b : Int} (h : l = pre ++ b :: rest) : rd l (pre.length : Int) = b := by
  subst h
  unfold rd
  simp
theorem bt_mid {s : ByteArray} {pre rest : List Int} {b : Int} (h : bytesOf s = pre ++ b :: rest) : bt s (pre.length : Int) = b := by
  rw [← rd_bytesOf]; exact rd_mid h
theorem size_mid {s : ByteArray} {pre rest : List Int} (h : bytesOf s = pre ++ rest) : (s.size : Int) = (pre.length : Int) + (rest.length : Int) := by
  rw [size_bytes, h]; simp
theorem mid_step {l pre rest : List Int} {b : Int} (h : l = pre ++ b :: rest) : l = (pre ++ [b]) ++ rest := by simp [h]
theorem wrap_id {n : Int} (h0 : -9223372036854775808 ≤ n) (h1 : n ≤ 9223372036854775807) : wrap64 n = n := by unfold wrap64; omega
theorem len_step {α : Type} (pre : List α) (b : α) (h : pre.length ≤ 9223372036854775000) : wrap64 ((pre.length : Int) + 1) = ((pre ++ [b]).length : Int) := by
  rw [wrap_id (by omega) (by omega)]; simp
/-! ### Loops over lists -/
theorem map_loop {α β : Type} (da : α) (conv : α → β) (x0 : List α) (hn : x0.length ≤ 4611686018427387904) (g : Nat → List β → Int → Option (List β))
    (hg : ∀ k x3 i, g (k + 1) x3 i = if i < (x0.length : Int) then (if 0 ≤ i then (if i < (x3.length : Int) then g k (x3.set (i : Int).toNat (conv (x0.getD i.toNat da))) (wrap64 (i + 1)) else none) else none) else some x3) (z : β) :
    Ev (fun k => g k (List.replicate x0.length z) 0) (x0.map conv) := by
  have key : ∀ rest pre, x0 = pre ++ rest → Ev (fun k => g k (pre.map conv ++ List.replicate rest.length z) (pre.length : Int)) (x0.map conv) := by
    intro rest
    induction rest with
    | nil =>
      intro pre h
      refine Ev.step (f := fun _ => some (x0.map conv)) (fun k => ?_) (Ev.now _)
      rw [hg, if_neg (by rw [h]; simp)]
      simp [h]
    | cons b rest ih =>
      intro pre h
      have hl : x0.length = pre.length + (rest.length + 1) := by rw [h]; simp
      refine Ev.step (f := fun k => g k ((pre ++ [b]).map conv ++ List.replicate rest.length z) ((pre ++ [b]).length : Int)) (fun k => ?_) (ih (pre ++ [b]) (by simp [h]))
      rw [hg, if_pos (by omega), if_pos (by omega), if_pos (by simp; omega), wrap_id (by omega) (by omega)]
      have e1 : x0.getD ((pre.length : Int)).toNat da = b := by rw [h]; simp
      rw [e1]
      congr 1
      · simp [List.replicate_succ, List.set_append]
      · simp
  exact key x0 [] rfl
theorem same_loop {α : Type} (a : List α) (hn : a.length ≤ 4611686018427387904) (g : Nat → Int → Option Bool)
    (hg : ∀ k i, 0 ≤ i → i < (a.length : Int) → g (k + 1) i = g k (wrap64 (i + 1))) (he : ∀ k, g (k + 1) (a.length : Int) = some true) : Ev (fun k => g k 0) true := by
  have key : ∀ d i : Nat, i + d = a.length → Ev (fun k => g k (i : Int)) true := by
    intro d
    induction d with
    | zero => intro i h; obtain rfl : i = a.length := by omega
              exact Ev.step he (Ev.now _)
    | succ d ih =>
      intro i h
      refine Ev.step (f := fun k => g k ((i + 1 : Nat) : Int)) (fun k => ?_) (ih (i + 1) (by omega))
      rw [hg k i (by omega) (by omega), wrap_id (by omega) (by omega)]; rfl
  exact key a.length 0 (by omega)
theorem Ev.mp {α : Type} {g f : Nat → Option α} {r : α} (h : Ev f r) (e : ∀ k, g k = f k) : Ev g r := Ev.congr e h
theorem Ev.step2 {α : Type} {g f : Nat → Option α} {r : α} (h : ∃ K, ∀ k, K ≤ k → g (k + 1) = f k) (e : Ev f r) : Ev g r := by
  obtain ⟨K, hK⟩ := h
  obtain ⟨K', hK'⟩ := e
  refine ⟨max K K' + 1, fun k hk => ?_⟩
  obtain ⟨k, rfl⟩ : ∃ m, k = m + 1 := ⟨k - 1, by omega⟩
  rw [hK k (by omega), hK' k (by omega)]
/-- Every element turned into the next of a row of marks. -/
def markL {α : Type} (mk : Int → α) (c : Nat) : Int → List α → List α
  | _, [] => []
  | k, _ :: r => mk k :: markL mk c (k + c) r
theorem markL_length {α : Type} (mk : Int → α) (c : Nat) (l : List α) : ∀ k, (markL mk c k l).length = l.length := by
  induction l with
  | nil => intro k; rfl
  | cons x r ih => intro k; simp [markL, ih]
theorem mark_loop {α : Type} (mk : Int → α) (c : Nat) (g : Nat → List α → Int → Int → Option (Int × List α)) (B : Int) (hB : B ≤ 4611686018427387904)
    (hg : ∀ (l : List α) (k0 i : Int), 0 ≤ i → i < (l.length : Int) → 0 ≤ k0 → k0 + c ≤ B → ∃ K, ∀ k, K ≤ k → g (k + 1) l k0 i = g k (l.set i.toNat (mk k0)) (k0 + c) (wrap64 (i + 1)))
    (he : ∀ k (l : List α) (k0 : Int), g (k + 1) l k0 (l.length : Int) = some (k0, l)) (l : List α) (hl : l.length ≤ 4611686018427387904) (k0 : Int) (h0 : 0 ≤ k0) (h1 : k0 + c * l.length ≤ B) :
    Ev (fun k => g k l k0 0) (k0 + c * l.length, markL mk c k0 l) := by
  have key : ∀ (rest pre : List α) (k0 : Int), 0 ≤ k0 → k0 + c * rest.length ≤ B → pre.length + rest.length ≤ 4611686018427387904 → Ev (fun k => g k (pre ++ rest) k0 (pre.length : Int)) (k0 + c * rest.length, pre ++ markL mk c k0 rest) := by
    intro rest
    induction rest with
    | nil =>
      intro pre k0 _ _ _
      refine Ev.step (f := fun _ => some (k0, pre)) (fun k => ?_) (by simpa [markL] using Ev.now _)
      have := he k pre k0
      simpa using this
    | cons x rest ih =>
      intro pre k0 h0 h1 h2
      simp only [List.length_cons] at h1 h2
      have hc : (c : Int) * ((rest.length + 1 : Nat) : Int) = c * rest.length + c := by rw [Int.natCast_add, Int.mul_add]; simp
      rw [hc] at h1
      have hcn : 0 ≤ (c : Int) * (rest.length : Int) := Int.mul_nonneg (by omega) (by omega)
      obtain ⟨K, hK⟩ := hg (pre ++ x :: rest) k0 (pre.length : Int) (by omega) (by simp; omega) h0 (by omega)
      have e := ih (pre ++ [mk k0]) (k0 + c) (by omega) (by omega) (by simp; omega)
      have e2 : (k0 + (c : Int)) + c * rest.length = k0 + c * ((x :: rest).length : Int) := by simp only [List.length_cons]; rw [hc]; omega
      rw [e2] at e
      refine Ev.step2 (f := fun k => g k (pre ++ [mk k0] ++ rest) (k0 + c) ((pre ++ [mk k0]).length : Int)) ⟨K, fun k hk => ?_⟩ (by simpa [markL] using e)
      rw [hK k hk, wrap_id (by omega) (by omega)]
      simp [List.set_append]
  have := key l [] k0 h0 h1 (by simpa using hl)
  simpa using this
theorem held_loop {α : Type} (mk : Int → α) (c : Nat) (l0 l : List α) (k0 : Int) (hl : l = markL mk c k0 l0) (g : Nat → Int → Int → Option Int) (B : Int) (hB : B ≤ 4611686018427387904)
    (hg : ∀ (k1 i : Int), 0 ≤ i → i < (l.length : Int) → 0 ≤ k1 → k1 + c ≤ B → l[i.toNat]? = some (mk k1) → ∃ K, ∀ k, K ≤ k → g (k + 1) k1 i = g k (k1 + c) (wrap64 (i + 1)))
    (he : ∀ k (k1 : Int), g (k + 1) k1 (l.length : Int) = some k1) (hn : l0.length ≤ 4611686018427387904) (h0 : 0 ≤ k0) (h1 : k0 + c * l0.length ≤ B) :
    Ev (fun k => g k k0 0) (k0 + c * l0.length) := by
  have hlen : l.length = l0.length := by rw [hl, markL_length]
  have key : ∀ (rest : List α) (pre : List α) (k1 : Int), l = pre ++ markL mk c k1 rest → 0 ≤ k1 → k1 + c * rest.length ≤ B → Ev (fun k => g k k1 (pre.length : Int)) (k1 + c * rest.length) := by
    intro rest
    induction rest with
    | nil =>
      intro pre k1 h _ _
      refine Ev.step (f := fun _ => some k1) (fun k => ?_) (by simpa using Ev.now _)
      have := he k k1
      rw [h] at this
      simpa [markL] using this
    | cons x rest ih =>
      intro pre k1 h h0 h1
      simp only [List.length_cons] at h1
      have hc : (c : Int) * ((rest.length + 1 : Nat) : Int) = c * rest.length + c := by rw [Int.natCast_add, Int.mul_add]; simp
      rw [hc] at h1
      have hcn : 0 ≤ (c : Int) * (rest.length : Int) := Int.mul_nonneg (by omega) (by omega)
      have hl2 : l.length = pre.length + (rest.length + 1) := by rw [h]; simp [markL_length]
      obtain ⟨K, hK⟩ := hg k1 (pre.length : Int) (by omega) (by omega) h0 (by omega) (by rw [h]; simp [markL])
      have e := ih (pre ++ [mk k1]) (k1 + c) (by rw [h]; simp [markL]) (by omega) (by omega)
      have e2 : (k1 + (c : Int)) + c * rest.length = k1 + c * ((x :: rest).length : Int) := by simp only [List.length_cons]; rw [hc]; omega
      rw [e2] at e
      refine Ev.step2 (f := fun k => g k (k1 + c) ((pre ++ [mk k1]).length : Int)) ⟨K, fun k hk => ?_⟩ e
      rw [hK k hk, wrap_id (by omega) (by omega)]
      simp
  exact key l0 [] k0 (by simpa using hl) h0 h1
theorem Ev.pos {α : Type} {c : Prop} [Decidable c] {f g : Nat → Option α} {r : α} (h : c) (e : Ev f r) : Ev (fun k => if c then f k else g k) r := by simp only [if_pos h]; exact e
theorem Ev.neg {α : Type} {c : Prop} [Decidable c] {f g : Nat → Option α} {r : α} (h : ¬ c) (e : Ev g r) : Ev (fun k => if c then f k else g k) r := by simp only [if_neg h]; exact e
theorem Ev.get {α β : Type} {f : Nat → α → Option β} {a : α} {r : β} (e : Ev (fun n => f n a) r) : Ev (fun n => (some a).bind (f n)) r := e
/-- Zeros in front, up to a width, of at most twenty. -/
def padL (w : Int) (l : List Int) : List Int := List.replicate (min w 20 - (l.length : Int)).toNat 48 ++ l
def padV (w : Int) (s : ByteArray) : ByteArray := strOfNums (padL w (bytesOf s))
theorem padV_done {w : Int} {s : ByteArray} (h : ¬ ((s.size : Int) < w ∧ (s.size : Int) < 20)) : padV w s = s := by
  apply bytesOf_inj
  have e : padL w (bytesOf s) = bytesOf s := by
    unfold padL
    rw [← size_bytes, show (min w 20 - (s.size : Int)).toNat = 0 by omega]; rfl
  unfold padV
  rw [e, bytesOf_strOf (InB_bytes s)]
theorem padV_more {w : Int} {s : ByteArray} (h : (s.size : Int) < w ∧ (s.size : Int) < 20) : padV w s = padV w ((⟨#[48]⟩ : ByteArray) ++ s) := by
  unfold padV
  congr 1
  unfold padL
  rw [bytesOf_append, show bytesOf ⟨#[48]⟩ = [48] by decide, ← size_bytes]
  obtain ⟨m, hm⟩ : ∃ m, (min w 20 - (s.size : Int)).toNat = m + 1 := ⟨(min w 20 - (s.size : Int)).toNat - 1, by omega⟩
  have h2 : (min w 20 - ((([48] : List Int) ++ bytesOf s).length : Int)).toNat = m := by
    simp only [List.length_append, List.length_cons, List.length_nil, bytesOf_length]; omega
  rw [hm, h2, List.replicate_succ', List.append_assoc]
theorem spec_pad (w : Int) (d : Nat) : ∀ s : ByteArray, 20 ≤ s.size + d → s.size ≤ 1000 → Ev (fun k => spec_Digits.l0 k w s) (padV w s) := by
  induction d with
  | zero =>
    intro s h hs
    refine Ev.step (f := fun _ => some s) (fun k => ?_) (by rw [padV_done (by omega)]; exact Ev.now _)
    simp only [spec_Digits.l0]
    by_cases c : (s.size : Int) < w
    · rw [if_pos c, if_neg (by omega)]
    · rw [if_neg c]
  | succ d ih =>
    intro s h hs
    by_cases c : (s.size : Int) < w ∧ (s.size : Int) < 20
    · rw [padV_more c]
      have z : ((⟨#[48]⟩ : ByteArray) ++ s).size = 1 + s.size := by rw [ByteArray.size_append]; rfl
      refine Ev.step (fun k => ?_) (ih _ (by omega) (by omega))
      simp only [spec_Digits.l0]
      rw [if_pos c.1, if_pos c.2, if_pos (by omega)]
    · refine Ev.step (f := fun _ => some s) (fun k => ?_) (by rw [padV_done c]; exact Ev.now _)
      simp only [spec_Digits.l0]
      by_cases c1 : (s.size : Int) < w
      · rw [if_pos c1, if_neg (by omega)]
      · rw [if_neg c1]
theorem impl_pad (w : Int) (d : Nat) : ∀ s : ByteArray, 20 ≤ s.size + d → s.size ≤ 1000 → Ev (fun k => impl_Digits.l0 k w s) (padV w s) := by
  induction d with
  | zero =>
    intro s h hs
    refine Ev.step (f := fun _ => some s) (fun k => ?_) (by rw [padV_done (by omega)]; exact Ev.now _)
    simp only [impl_Digits.l0]
    by_cases c : (s.size : Int) < w
    · rw [if_pos c, if_neg (by omega)]
    · rw [if_neg c]
  | succ d ih =>
    intro s h hs
    by_cases c : (s.size : Int) < w ∧ (s.size : Int) < 20
    · rw [padV_more c]
      have z : ((⟨#[48]⟩ : ByteArray) ++ s).size = 1 + s.size := by rw [ByteArray.size_append]; rfl
      refine Ev.step (fun k => ?_) (ih _ (by omega) (by omega))
      simp only [impl_Digits.l0]
      rw [if_pos c.1, if_pos c.2, if_pos (by omega)]
    · refine Ev.step (f := fun _ => some s) (fun k => ?_) (by rw [padV_done c]; exact Ev.now _)
      simp only [impl_Digits.l0]
      by_cases c1 : (s.size : Int) < w
      · rw [if_pos c1, if_neg (by omega)]
      · rw [if_neg c1]
/-! ### Decimal numerals -/
def numL (n : Nat) : List Int := if h : n < 10 then [48 + (n : Int)] else numL (n / 10) ++ [48 + ((n % 10 : Nat) : Int)]
termination_by n
decreasing_by omega
theorem numL_small {n : Nat} (h : n < 10) : numL n = [48 + (n : Int)] := by rw [numL, dif_pos h]
theorem numL_big {n : Nat} (h : ¬ n < 10) : numL n = numL (n / 10) ++ [48 + ((n % 10 : Nat) : Int)] := by rw [numL, dif_neg h]
def valL (l : List Int) : Int := l.foldl (fun a b => 10 * a + (b - 48)) 0
theorem valL_concat (l : List Int) (b : Int) : valL (l ++ [b]) = 10 * valL l + (b - 48) := by unfold valL; rw [List.foldl_append]; rfl
theorem num_ind {p : Nat → Prop} (h0 : ∀ n, n < 10 → p n) (h1 : ∀ n, ¬ n < 10 → p (n / 10) → p n) (n : Nat) : p n := by
  induction n using Nat.strongRecOn with
  | _ n ih =>
    by_cases h : n < 10
    · exact h0 n h
    · exact h1 n h (ih (n / 10) (by omega))
theorem valL_num (n : Nat) : valL (numL n) = n := by
  induction n using num_ind with
  | h0 n h => rw [numL_small h]; simp [valL]; omega
  | h1 n h ih => rw [numL_big h, valL_concat, ih]; omega
theorem numL_digits (n : Nat) : ∀ x ∈ numL n, 48 ≤ x ∧ x ≤ 57 := by
  induction n using num_ind with
  | h0 n h => rw [numL_small h]; simp; omega
  | h1 n h ih =>
    rw [numL_big h]
    intro x hx
    rcases List.mem_append.1 hx with g | g
    · exact ih x g
    · simp at g; omega
theorem numL_ne (n : Nat) : numL n ≠ [] := by
  induction n using num_ind with
  | h0 n h => rw [numL_small h]; simp
  | h1 n h ih => rw [numL_big h]; simp
theorem numL_len (d : Nat) : ∀ n, n < 10 ^ (d + 1) → (numL n).length ≤ d + 1 := by
  induction d with
  | zero => intro n h; rw [numL_small (by simpa using h)]; simp
  | succ d ih =>
    intro n h
    by_cases g : n < 10
    · rw [numL_small g]; simp
    · rw [numL_big g, List.length_append]
      have := ih (n / 10) (by rw [Nat.pow_succ] at h; omega)
      simp; omega
theorem InB_digits {l : List Int} (h : ∀ x ∈ l, 48 ≤ x ∧ x ≤ 57) : InB l := fun x hx => by have := h x hx; omega
def fmtL (n : Int) : List Int := if n < 0 then 45 :: numL n.natAbs else numL n.toNat
def fmtV (n : Int) : ByteArray := strOfNums (fmtL n)
theorem InB_fmt (n : Int) : InB (fmtL n) := by
  unfold fmtL
  split
  · rw [InB_cons]; exact ⟨by omega, InB_digits (numL_digits _)⟩
  · exact InB_digits (numL_digits _)
theorem bytesOf_fmt (n : Int) : bytesOf (fmtV n) = fmtL n := bytesOf_strOf (InB_fmt n)
theorem valL_fmt {n : Int} (h : 0 ≤ n) : valL (fmtL n) = n := by
  unfold fmtL; rw [if_neg (by omega), valL_num]; omega
theorem fmtL_pos {n : Int} (h : 0 ≤ n) : fmtL n = numL n.toNat := by unfold fmtL; rw [if_neg (by omega)]
theorem fmtL_len (n : Int) (h0 : -9223372036854775808 ≤ n) (h1 : n ≤ 9223372036854775807) : (fmtL n).length ≤ 20 := by
  unfold fmtL
  split
  · have := numL_len 18 n.natAbs (by omega)
    simp only [List.length_cons]; omega
  · have := numL_len 18 n.toNat (by omega)
    omega
/-- The value of a text that is an integer's decimal form, up to a million millions. -/
def parseV (s : ByteArray) : Int × Bool := if 0 ≤ valL (bytesOf s) ∧ valL (bytesOf s) ≤ 1000000000000 ∧ fmtL (valL (bytesOf s)) = bytesOf s then (valL (bytesOf s), true) else (0, false)
theorem parseV_fmt {n : Int} (h0 : 0 ≤ n) (h1 : n ≤ 1000000000000) : parseV (fmtV n) = (n, true) := by
  unfold parseV
  rw [bytesOf_fmt, valL_fmt h0, if_pos ⟨h0, h1, rfl⟩]
theorem parseV_true {s : ByteArray} {n : Int} (h : parseV s = (n, true)) : 0 ≤ n ∧ n ≤ 1000000000000 ∧ s = fmtV n := by
  unfold parseV at h
  split at h
  · rename_i g
    simp only [Prod.mk.injEq, and_true] at h
    subst h
    exact ⟨g.1, g.2.1, bytesOf_inj (by rw [bytesOf_fmt, g.2.2])⟩
  · simp at h
theorem parseV_no {s : ByteArray} (h : ¬ (0 ≤ valL (bytesOf s) ∧ valL (bytesOf s) ≤ 1000000000000 ∧ fmtL (valL (bytesOf s)) = bytesOf s)) : parseV s = (0, false) := by unfold parseV; rw [if_neg h]
def signed (n : Int) (t : ByteArray) : ByteArray := if n < 0 then (⟨#[45]⟩ : ByteArray) ++ t else t
theorem one_byte (d : Int) (h0 : 0 ≤ d) (h1 : d ≤ 9) : (wrap64 (48 + d)) % 256 = 48 + d := by rw [wrap_id (by omega) (by omega)]; omega
theorem spec_Fmt_end (n : Int) (s : ByteArray) (hs : s.size ≤ 1000) : Ev (fun k => spec_FormatInt.l0 k n s 0) (signed n s) := by
  refine Ev.step (f := fun _ => some (signed n s)) (fun k => ?_) (Ev.now _)
  simp only [spec_FormatInt.l0]
  rw [if_pos trivial]
  unfold signed
  split
  · rw [if_pos (by omega)]
  · rfl
theorem spec_Fmt_loop (n : Int) (d : Nat) : ∀ (x : Int) (s : ByteArray), x ≠ 0 → x.natAbs < 10 ^ d → -9223372036854775808 ≤ x → x ≤ 9223372036854775807 → s.size + d ≤ 1000 →
    Ev (fun k => spec_FormatInt.l0 k n s x) (signed n (strOfNums (numL x.natAbs) ++ s)) := by
  induction d with
  | zero => intro x s hx h; simp at h; omega
  | succ d ih =>
    intro x s hx h hlo hhi hs
    have hq : (x.natAbs / 10) < 10 ^ d := by rw [Nat.pow_succ] at h; omega
    obtain ⟨dg, hdg⟩ : ∃ dg : Int, dg = ((x.natAbs % 10 : Nat) : Int) := ⟨_, rfl⟩
    obtain ⟨x', hx'⟩ : ∃ x' : Int, x' = Int.tdiv x 10 := ⟨_, rfl⟩
    have hdb : 0 ≤ dg ∧ dg ≤ 9 := by omega
    have habs : x'.natAbs = x.natAbs / 10 := by rw [hx', Int.natAbs_tdiv]; rfl
    have hb' : -9223372036854775808 ≤ x' ∧ x' ≤ 9223372036854775807 := by omega
    have hw : wrap64 (Int.tdiv x 10) = x' := by rw [← hx', wrap_id hb'.1 hb'.2]
    have hstep : ∀ k, spec_FormatInt.l0 (k + 1) n s x = spec_FormatInt.l0 k n (strOfNums [48 + dg] ++ s) x' := by
      intro k
      have hsz : (strOfNums [48 + dg]).size + s.size ≤ 9223372036854775807 := by rw [strOfNums_size]; simp; omega
      simp only [spec_FormatInt.l0]
      rw [if_neg hx]
      by_cases hneg : x < 0
      · have e : Int.tmod x 10 = -dg := by
          have : x = -((x.natAbs : Nat) : Int) := by omega
          rw [this, Int.neg_tmod, hdg]; rfl
        by_cases z : dg = 0
        · have e0 : Int.tmod x 10 = 0 := by omega
          rw [if_neg (by omega), e0, z, Option.bind_some]
          rw [z] at hsz
          have o := one_byte 0 (by omega) (by omega)
          rw [o, if_pos hsz, hw]
        · rw [if_pos (by omega), e, Int.neg_neg, wrap_id (n := dg) (by omega) (by omega), one_byte dg hdb.1 hdb.2, Option.bind_some, if_pos hsz, hw]
      · have e : Int.tmod x 10 = dg := by
          have : x = ((x.natAbs : Nat) : Int) := by omega
          rw [this, hdg]; rfl
        rw [if_neg (by omega), e, one_byte dg hdb.1 hdb.2, Option.bind_some, if_pos hsz, hw]
    have hsz1 : (strOfNums [48 + dg] ++ s).size = 1 + s.size := by rw [ByteArray.size_append, strOfNums_size]; rfl
    by_cases z : x' = 0
    · have h10 : x.natAbs < 10 := by omega
      have e : strOfNums (numL x.natAbs) = strOfNums [48 + dg] := by rw [numL_small h10, hdg, Nat.mod_eq_of_lt h10]
      rw [e]
      refine Ev.step hstep ?_
      rw [z]
      exact spec_Fmt_end n _ (by omega)
    · have h10 : ¬ x.natAbs < 10 := by omega
      have e : strOfNums (numL x.natAbs) ++ s = strOfNums (numL x'.natAbs) ++ (strOfNums [48 + dg] ++ s) := by
        apply bytesOf_inj
        have i1 : InB [48 + dg] := by rw [InB_cons]; exact ⟨by omega, InB_nil⟩
        rw [bytesOf_append, bytesOf_append, bytesOf_append, bytesOf_strOf (InB_digits (numL_digits _)), bytesOf_strOf (InB_digits (numL_digits _)), bytesOf_strOf i1, numL_big h10, habs, hdg, List.append_assoc]
      rw [e]
      exact Ev.step hstep (ih x' _ z (by omega) hb'.1 hb'.2 (by omega))
theorem spec_Fmt_ev (n : Int) (h0 : -9223372036854775808 ≤ n) (h1 : n ≤ 9223372036854775807) : Ev (fun k => spec_FormatInt.f k n) (fmtV n) := by
  unfold spec_FormatInt.f
  by_cases z : n = 0
  · subst z
    refine Ev.pos rfl ?_
    have e : (⟨#[48]⟩ : ByteArray) = fmtV 0 := by
      apply bytesOf_inj
      rw [bytesOf_fmt, fmtL_pos (by omega), numL_small (by decide)]
      decide
    rw [e]; exact Ev.now _
  · refine Ev.neg z ?_
    have := spec_Fmt_loop n 19 n ⟨#[]⟩ z (by omega) h0 h1 (by decide)
    have e : signed n (strOfNums (numL n.natAbs) ++ ⟨#[]⟩) = fmtV n := by
      have e0 : strOfNums (numL n.natAbs) ++ ⟨#[]⟩ = strOfNums (numL n.natAbs) := by apply bytesOf_inj; rw [bytesOf_append, show bytesOf ⟨#[]⟩ = [] by decide, List.append_nil]
      apply bytesOf_inj
      rw [e0, bytesOf_fmt]
      unfold signed fmtL
      split
      · rw [bytesOf_append, bytesOf_strOf (InB_digits (numL_digits _))]; rfl
      · rw [bytesOf_strOf (InB_digits (numL_digits _))]
        congr 1; omega
    rwa [e] at this
theorem decDigits_map (u : Nat) : ((Lib.decDigits u).map fun b => (b.toNat : Int)) = numL u := by
  refine num_ind (p := fun u => ((Lib.decDigits u).map fun b => (b.toNat : Int)) = numL u) (fun n h => ?_) (fun n h ih => ?_) u
  · rw [Lib.decDigits, dif_pos h, numL_small h]
    simp [UInt8.toNat_ofNat']; omega
  · rw [Lib.decDigits, dif_neg h, numL_big h, List.map_append, ih]
    simp [UInt8.toNat_ofNat']; omega
theorem itoa_map (n : Int) : ((Lib.itoa n).map fun b => (b.toNat : Int)) = fmtL n := by
  unfold Lib.itoa fmtL
  split
  · simp only [List.map_cons, decDigits_map]; rfl
  · exact decDigits_map _
theorem impl_Fmt_eq (n : Int) (h0 : -9223372036854775808 ≤ n) (h1 : n ≤ 9223372036854775807) : impl_FormatInt.f n = some (fmtV n) := by
  unfold impl_FormatInt.f strconv_Itoa.f
  rw [if_pos ⟨h0, h1⟩, Option.bind_some]
  congr 1
  apply bytesOf_inj
  rw [bytesOf_fmt, ← itoa_map]; rfl
theorem fmtV_size {n : Int} (h0 : -9223372036854775808 ≤ n) (h1 : n ≤ 9223372036854775807) : (fmtV n).size ≤ 20 := by
  have := fmtL_len n h0 h1
  rw [← bytesOf_fmt, bytesOf_length] at this
  exact this
theorem wrap_range (x : Int) : -9223372036854775808 ≤ wrap64 x ∧ wrap64 x ≤ 9223372036854775807 := by unfold wrap64; omega
def digitsV (n w : Int) : ByteArray := padV w (fmtV (max 0 n))
theorem max0_le {n : Int} (h1 : n ≤ 9223372036854775807) : -9223372036854775808 ≤ max 0 n ∧ max 0 n ≤ 9223372036854775807 := by omega
theorem spec_Digits_ev (n w : Int) (h1 : n ≤ 9223372036854775807) : Ev (fun k => spec_Digits.f k n w) (digitsV n w) := by
  have e : spec_Max.f 0 n = some (max 0 n) := by
    unfold spec_Max.f
    by_cases c : n > 0
    · rw [if_pos c, Int.max_eq_right (by omega)]
    · rw [if_neg c, Int.max_eq_left (by omega)]
  have b := max0_le h1
  unfold spec_Digits.f
  rw [e]
  simp only [Option.bind_some]
  have z := fmtV_size b.1 b.2
  exact Ev.bind (spec_Fmt_ev _ b.1 b.2) (spec_pad w 20 _ (by omega) (by omega))
theorem impl_Digits_ev (n w : Int) (h1 : n ≤ 9223372036854775807) : Ev (fun k => impl_Digits.f k n w) (digitsV n w) := by
  have e : mx 0 n = max 0 n := by unfold mx; split <;> omega
  have b := max0_le h1
  have z := fmtV_size b.1 b.2
  unfold impl_Digits.f
  rw [e, impl_Fmt_eq _ b.1 b.2]
  simp only [Option.bind_some]
  exact impl_pad w 20 _ (by omega) (by omega)
theorem tmod_fix (a m : Int) (h1 : 1 ≤ m) (h2 : m ≤ 1000000000000) : Int.tmod (wrap64 (Int.tmod a m + m)) m = a % m := by
  have e := Int.tmod_eq_emod (a := a) (b := m)
  have g1 := Int.emod_nonneg a (show m ≠ 0 by omega)
  have g2 := Int.emod_lt_of_pos a (show 0 < m by omega)
  have hn : (m.natAbs : Int) = m := by omega
  have hw : wrap64 (Int.tmod a m + m) = Int.tmod a m + m := by
    unfold wrap64
    rw [e]
    split
    · rw [show ((0 : Nat) : Int) = 0 from rfl]; omega
    · omega
  rw [hw, e]
  split
  · rw [show ((0 : Nat) : Int) = 0 from rfl, Int.sub_zero, Int.tmod_eq_emod_of_nonneg (by omega), Int.add_emod_right, Int.emod_emod_of_dvd a (Int.dvd_refl m)]
  · rw [hn, Int.sub_add_cancel, Int.tmod_eq_emod_of_nonneg (by omega), Int.emod_emod_of_dvd a (Int.dvd_refl m)]
def modV (a m : Int) : Int := if 1 ≤ m ∧ m ≤ 1000000000000 then a % m else 0
theorem modV_pos {a m : Int} (h1 : 1 ≤ m) (h2 : m ≤ 1000000000000) : modV a m = a % m := by unfold modV; rw [if_pos ⟨h1, h2⟩]
theorem spec_l1In_eq (a b c : Int) : spec_l1In.f a b c = some (decide (b ≤ a ∧ a ≤ c)) := by
  unfold spec_l1In.f
  by_cases h : a ≥ b
  · rw [if_pos h]; congr 1; apply decide_eq_decide.mpr; constructor
    · exact fun x => ⟨h, x⟩
    · exact fun x => x.2
  · rw [if_neg h]; congr 1; symm; apply decide_eq_false; omega
theorem spec_Mod_eq (a m : Int) : spec_Mod.f a m = some (modV a m) := by
  unfold spec_Mod.f modV
  rw [spec_l1In_eq, Option.bind_some]
  by_cases h : 1 ≤ m ∧ m ≤ 1000000000000
  · rw [if_pos (decide_eq_true h), if_neg (by omega), if_pos h, tmod_fix a m h.1 h.2]
  · rw [if_neg (by simp [h]), if_neg h]
def leapV (y : Int) : Bool := decide (y % 4 = 0 ∧ (y % 100 ≠ 0 ∨ y % 400 = 0))
theorem leap_ways (y : Int) : (if y % 4 = 0 then (if y % 100 = 0 then some (y % 400 == 0) else some true) else some false) = some (leapV y) := by
  unfold leapV
  by_cases h : y % 4 = 0 <;> by_cases h1 : y % 100 = 0 <;> by_cases h2 : y % 400 = 0 <;> simp [h, h1, h2]
theorem spec_IsLeap_eq (y : Int) : spec_IsLeap.f y = some (leapV y) := by
  unfold spec_IsLeap.f
  simp only [spec_Mod_eq, Option.bind_some, modV_pos (show (1 : Int) ≤ 4 by decide) (by decide), modV_pos (show (1 : Int) ≤ 100 by decide) (by decide), modV_pos (show (1 : Int) ≤ 400 by decide) (by decide)]
  exact leap_ways y
theorem impl_inRange_eq (a b c : Int) : impl_inRange.f a b c = some (decide (b ≤ a ∧ a ≤ c)) := by
  unfold impl_inRange.f
  by_cases h : b ≤ a
  · rw [if_pos h]; congr 1; apply decide_eq_decide.mpr; constructor
    · exact fun x => ⟨h, x⟩
    · exact fun x => x.2
  · rw [if_neg h]; congr 1; symm; apply decide_eq_false; omega
theorem impl_Mod_eq (a m : Int) : impl_Mod.f a m = some (modV a m) := by
  unfold impl_Mod.f modV
  rw [impl_inRange_eq, Option.bind_some]
  by_cases h : 1 ≤ m ∧ m ≤ 1000000000000
  · rw [if_pos (decide_eq_true h), if_neg (by omega), if_pos h, tmod_fix a m h.1 h.2]
  · rw [if_neg (by simp [h]), if_neg h]
theorem impl_IsLeap_eq (y : Int) : impl_IsLeap.f y = some (leapV y) := by
  unfold impl_IsLeap.f
  simp only [impl_Mod_eq, Option.bind_some, modV_pos (show (1 : Int) ≤ 4 by decide) (by decide), modV_pos (show (1 : Int) ≤ 100 by decide) (by decide), modV_pos (show (1 : Int) ≤ 400 by decide) (by decide)]
  exact leap_ways y

def md (y m : Int) : Int := if m = 2 then (if leapV y = true then 29 else 28) else if m = 4 ∨ m = 6 ∨ m = 9 ∨ m = 11 then 30 else 31
def yd (y : Int) : Int := if leapV y = true then 366 else 365
theorem md_bd (y m : Int) : 28 ≤ md y m ∧ md y m ≤ 31 := by
  unfold md
  split
  · split <;> omega
  · split <;> omega
theorem yd_bd (y : Int) : 365 ≤ yd y ∧ yd y ≤ 366 := by unfold yd; split <;> omega
def sumY : Nat → Int → Int
  | 0, _ => 0
  | d + 1, i => yd i + sumY d (i + 1)
def sumM (y : Int) : Nat → Int → Int
  | 0, _ => 0
  | d + 1, m => md y m + sumM y d (m + 1)
theorem sumY_bd (d : Nat) : ∀ i, 365 * (d : Int) ≤ sumY d i ∧ sumY d i ≤ 366 * d := by
  induction d with
  | zero => intro i; simp [sumY]
  | succ d ih => intro i; have := ih (i + 1); have := yd_bd i; simp only [sumY]; omega
theorem sumM_bd (y : Int) (d : Nat) : ∀ m, 28 * (d : Int) ≤ sumM y d m ∧ sumM y d m ≤ 31 * d := by
  induction d with
  | zero => intro i; simp [sumM]
  | succ d ih => intro i; have := ih (i + 1); have := md_bd y i; simp only [sumM]; omega
theorem months_of (y : Int) : sumM y 12 1 = yd y := by
  simp only [sumM, md, yd]
  by_cases h : leapV y = true <;> simp [h]
theorem spec_Long_eq (y m : Int) (h1 : 1 ≤ m) (h2 : m ≤ 12) : spec_l3Long.f y m = some (md y m) := by
  unfold spec_l3Long.f
  rw [spec_IsLeap_eq]
  simp only [Option.bind_some]
  have : m = 1 ∨ m = 2 ∨ m = 3 ∨ m = 4 ∨ m = 5 ∨ m = 6 ∨ m = 7 ∨ m = 8 ∨ m = 9 ∨ m = 10 ∨ m = 11 ∨ m = 12 := by omega
  rcases this with rfl | rfl | rfl | rfl | rfl | rfl | rfl | rfl | rfl | rfl | rfl | rfl
  case inr.inl => by_cases h : leapV y = true <;> simp [md, h] <;> decide +kernel
  all_goals first | rfl | (simp [md]; done) | (simp [md]; decide +kernel)
theorem impl_monthDays_eq (y m : Int) : impl_monthDays.f y m = some (md y m) := by
  unfold impl_monthDays.f md
  rw [impl_IsLeap_eq]
  simp only [Option.bind_some]
  by_cases h : m = 2
  · rw [if_pos h, if_pos h]; by_cases g : leapV y = true <;> simp [g]
  · rw [if_neg h, if_neg h]
    by_cases h4 : m = 4 <;> by_cases h6 : m = 6 <;> by_cases h9 : m = 9 <;> by_cases h11 : m = 11 <;> simp [h4, h6, h9, h11]
theorem impl_yearDays_eq (y : Int) : impl_yearDays.f y = some (yd y) := by
  unfold impl_yearDays.f yd
  rw [impl_IsLeap_eq, Option.bind_some]
  by_cases g : leapV y = true <;> simp [g]
/-- Year and rest of a count of days, from a year on. -/
def civY : Nat → Int → Int → Int × Int
  | 0, day, y => (day, y)
  | f + 1, day, y => if day ≥ yd y then civY f (day - yd y) (y + 1) else (day, y)
def civM (y : Int) : Nat → Int → Int → Int × Int
  | 0, day, m => (day, m)
  | f + 1, day, m => if day ≥ md y m then civM y f (day - md y m) (m + 1) else (day, m)
theorem civY_spec (f : Nat) : ∀ (day y : Int), 0 ≤ day → day < 365 * (f : Int) → 0 ≤ (civY f day y).1 ∧ (civY f day y).1 < yd (civY f day y).2 ∧ y ≤ (civY f day y).2 ∧ (civY f day y).2 < y + f ∧ day = (civY f day y).1 + sumY ((civY f day y).2 - y).toNat y := by
  induction f with
  | zero => intro day y h0 h1; simp at h1; omega
  | succ f ih =>
    intro day y h0 h1
    have hb := yd_bd y
    unfold civY
    by_cases h : day ≥ yd y
    · rw [if_pos h]
      obtain ⟨a, b, c, d, e⟩ := ih (day - yd y) (y + 1) (by omega) (by omega)
      refine ⟨a, b, by omega, by omega, ?_⟩
      obtain ⟨n, hn⟩ : ∃ n : Nat, ((civY f (day - yd y) (y + 1)).2 - (y + 1)).toNat = n := ⟨_, rfl⟩
      have hs : ((civY f (day - yd y) (y + 1)).2 - y).toNat = n + 1 := by omega
      rw [hn] at e
      rw [hs]
      simp only [sumY]
      omega
    · rw [if_neg h]
      exact ⟨h0, by simpa using h, by simp, by simp; omega, by simp [sumY]⟩
theorem civM_spec (y : Int) (f : Nat) : ∀ (day m : Int), 0 ≤ day → day < sumM y f m → 0 ≤ (civM y f day m).1 ∧ (civM y f day m).1 < md y (civM y f day m).2 ∧ m ≤ (civM y f day m).2 ∧ (civM y f day m).2 < m + f ∧ day = (civM y f day m).1 + sumM y ((civM y f day m).2 - m).toNat m := by
  induction f with
  | zero => intro day m h0 h1; simp [sumM] at h1; omega
  | succ f ih =>
    intro day m h0 h1
    simp only [sumM] at h1
    unfold civM
    by_cases h : day ≥ md y m
    · rw [if_pos h]
      obtain ⟨a, b, c, d, e⟩ := ih (day - md y m) (m + 1) (by omega) (by omega)
      refine ⟨a, b, by omega, by omega, ?_⟩
      obtain ⟨n, hn⟩ : ∃ n : Nat, ((civM y f (day - md y m) (m + 1)).2 - (m + 1)).toNat = n := ⟨_, rfl⟩
      have hs : ((civM y f (day - md y m) (m + 1)).2 - m).toNat = n + 1 := by omega
      rw [hn] at e
      rw [hs]
      simp only [sumM]
      omega
    · rw [if_neg h]
      exact ⟨h0, by simpa using h, by simp, by simp; omega, by simp [sumM]⟩
def civV (day : Int) : Int × Int × Int :=
  if 0 ≤ day ∧ day ≤ 47481 then
    ((civY 131 day 1970).2, (civM (civY 131 day 1970).2 12 (civY 131 day 1970).1 1).2, (civM (civY 131 day 1970).2 12 (civY 131 day 1970).1 1).1 + 1)
  else (0, 0, 0)
theorem spec_Civ_l1 (y : Int) (f : Nat) : ∀ (day m : Int), 0 ≤ day → day ≤ 1000 → day < sumM y f m → 1 ≤ m → m + f = 13 → Ev (fun k => spec_CivilOf.l1 k (day) y (m)) (y, (civM y f day m).2, (civM y f day m).1 + 1) := by
  induction f with
  | zero => intro day m h0 h00 hs h1 h; simp [sumM] at hs; omega
  | succ f ih =>
    intro day m h0 h00 hs h1 h
    simp only [sumM] at hs
    have hb := md_bd y m
    unfold civM
    by_cases g : day ≥ md y m
    · rw [if_pos g]
      refine Ev.step (f := fun k => spec_CivilOf.l1 k (day - md y m) y (m + 1)) (fun k => ?_) (ih (day - md y m) (m + 1) (by omega) (by omega) (by omega) (by omega) (by omega))
      simp only [spec_CivilOf.l1]
      rw [spec_Long_eq y m h1 (by omega), Option.bind_some, if_pos g, Option.bind_some, wrap_id (by omega) (by omega), wrap_id (by omega) (by omega)]
    · rw [if_neg g]
      refine Ev.step (f := fun _ => some (y, m, day + 1)) (fun k => ?_) (Ev.now _)
      simp only [spec_CivilOf.l1]
      rw [spec_Long_eq y m h1 (by omega), Option.bind_some, if_neg g, wrap_id (by omega) (by omega)]
theorem spec_Civ_l0 (f : Nat) : ∀ (day y : Int), 0 ≤ day → day ≤ 100000 → day < 365 * (f : Int) → 0 ≤ y → y + f ≤ 5000 →
    Ev (fun k => spec_CivilOf.l0 k (day) (y)) ((civY f day y).2, (civM (civY f day y).2 12 (civY f day y).1 1).2, (civM (civY f day y).2 12 (civY f day y).1 1).1 + 1) := by
  induction f with
  | zero => intro day y h0 h00 h1; simp at h1; omega
  | succ f ih =>
    intro day y h0 h00 h1 hy hyf
    have hb := yd_bd y
    unfold civY
    by_cases g : day ≥ yd y
    · simp only [if_pos g]
      refine Ev.step (f := fun k => spec_CivilOf.l0 k (day - yd y) (y + 1)) (fun k => ?_) (ih (day - yd y) (y + 1) (by omega) (by omega) (by omega) (by omega) (by omega))
      simp only [spec_CivilOf.l0]
      rw [spec_IsLeap_eq, Option.bind_some, wrap_id (n := y + 1) (by omega) (by omega)]; by_cases q : leapV y = true; (have hy2 : yd y = 366 := by unfold yd; rw [if_pos q]); rw [hy2] at g ⊢; rw [if_pos q, if_neg (by omega), wrap_id (by omega) (by omega)]; (have hy2 : yd y = 365 := by unfold yd; rw [if_neg q]); rw [hy2] at g ⊢; rw [if_neg q, if_neg (by omega), wrap_id (by omega) (by omega)]
    · simp only [if_neg g]
      have hm := spec_Civ_l1 y 12 day 1 h0 (by omega) (by rw [months_of]; omega) (by omega) (by omega)
      refine Ev.step (f := fun k => spec_CivilOf.j1 k day y) (fun k => ?_) (Ev.step (f := fun k => spec_CivilOf.l1 k day y 1) (fun k => by simp only [spec_CivilOf.j1]) hm); simp only [spec_CivilOf.l0]; rw [spec_IsLeap_eq, Option.bind_some]; by_cases q : leapV y = true; (have hy2 : yd y = 366 := by unfold yd; rw [if_pos q]); rw [hy2] at g; rw [if_pos q, if_pos (by omega)]; (have hy2 : yd y = 365 := by unfold yd; rw [if_neg q]); rw [hy2] at g; rw [if_neg q, if_pos (by omega)]
theorem spec_CivilOf_ev (day : Int) : Ev (fun k => spec_CivilOf.f k day) (civV day) := by
  unfold spec_CivilOf.f civV
  simp only [spec_l1In_eq, Option.bind_some]
  by_cases h : 0 ≤ day ∧ day ≤ 47481
  · rw [if_pos h]
    exact Ev.pos (decide_eq_true h) (spec_Civ_l0 131 day 1970 h.1 (by omega) (by omega) (by omega) (by omega))
  · rw [if_neg h]
    exact Ev.neg (by simp [h]) (Ev.now _)
theorem impl_Civ_l1 (y : Int) (f : Nat) : ∀ (day m : Int), 0 ≤ day → day ≤ 1000 → day < sumM y f m → 1 ≤ m → m + f = 13 → Ev (fun k => impl_CivilOf.l1 k (day) y (m)) (y, (civM y f day m).2, (civM y f day m).1 + 1) := by
  induction f with
  | zero => intro day m h0 h00 hs h1 h; simp [sumM] at hs; omega
  | succ f ih =>
    intro day m h0 h00 hs h1 h
    simp only [sumM] at hs
    have hb := md_bd y m
    unfold civM
    by_cases g : day ≥ md y m
    · rw [if_pos g]
      refine Ev.step (f := fun k => impl_CivilOf.l1 k (day - md y m) y (m + 1)) (fun k => ?_) (ih (day - md y m) (m + 1) (by omega) (by omega) (by omega) (by omega) (by omega))
      simp only [impl_CivilOf.l1]
      rw [impl_monthDays_eq, Option.bind_some, if_pos g, Option.bind_some, wrap_id (by omega) (by omega), wrap_id (by omega) (by omega)]
    · rw [if_neg g]
      refine Ev.step (f := fun _ => some (y, m, day + 1)) (fun k => ?_) (Ev.now _)
      simp only [impl_CivilOf.l1]
      rw [impl_monthDays_eq, Option.bind_some, if_neg g, wrap_id (by omega) (by omega)]
theorem impl_Civ_l0 (f : Nat) : ∀ (day y : Int), 0 ≤ day → day ≤ 100000 → day < 365 * (f : Int) → 0 ≤ y → y + f ≤ 5000 →
    Ev (fun k => impl_CivilOf.l0 k (day) (y) 1) ((civY f day y).2, (civM (civY f day y).2 12 (civY f day y).1 1).2, (civM (civY f day y).2 12 (civY f day y).1 1).1 + 1) := by
  induction f with
  | zero => intro day y h0 h00 h1; simp at h1; omega
  | succ f ih =>
    intro day y h0 h00 h1 hy hyf
    have hb := yd_bd y
    unfold civY
    by_cases g : day ≥ yd y
    · simp only [if_pos g]
      refine Ev.step (f := fun k => impl_CivilOf.l0 k (day - yd y) (y + 1) 1) (fun k => ?_) (ih (day - yd y) (y + 1) (by omega) (by omega) (by omega) (by omega) (by omega))
      simp only [impl_CivilOf.l0]
      rw [impl_yearDays_eq, Option.bind_some, if_pos g, Option.bind_some, wrap_id (by omega) (by omega), wrap_id (by omega) (by omega)]
    · simp only [if_neg g]
      have hm := impl_Civ_l1 y 12 day 1 h0 (by omega) (by rw [months_of]; omega) (by omega) (by omega)
      refine Ev.step (f := fun k => impl_CivilOf.l1 k day y 1) (fun k => ?_) hm; simp only [impl_CivilOf.l0]; rw [impl_yearDays_eq, Option.bind_some, if_neg g]
theorem impl_CivilOf_ev (day : Int) : Ev (fun k => impl_CivilOf.f k day) (civV day) := by
  unfold impl_CivilOf.f civV
  simp only [impl_inRange_eq, Option.bind_some]
  by_cases h : 0 ≤ day ∧ day ≤ 47481
  · rw [if_pos h]
    exact Ev.pos (decide_eq_true h) (impl_Civ_l0 131 day 1970 h.1 (by omega) (by omega) (by omega) (by omega))
  · rw [if_neg h]
    exact Ev.neg (by simp [h]) (Ev.now _)
def dayOK (y m d : Int) : Prop := 1970 ≤ y ∧ y ≤ 2099 ∧ 1 ≤ m ∧ m ≤ 12 ∧ 1 ≤ d ∧ d ≤ md y m
instance (y m d : Int) : Decidable (dayOK y m d) := by unfold dayOK; infer_instance
def daysV (y m d : Int) : Int := if dayOK y m d then d - 1 + sumY (y - 1970).toNat 1970 + sumM y (m - 1).toNat 1 else -1
theorem civ_facts {day : Int} (h0 : 0 ≤ day) (h1 : day ≤ 47481) : ∃ y m d, civV day = (y, m, d) ∧ dayOK y m d ∧ daysV y m d = day := by
  obtain ⟨a, b, c, e, f⟩ := civY_spec 131 day 1970 h0 (by omega)
  have hy : (civY 131 day 1970).2 ≤ 2099 := by
    rcases Int.lt_or_le (civY 131 day 1970).2 2100 with g | g
    · omega
    · exfalso
      have e1 : ((civY 131 day 1970).2 - 1970).toNat = 130 := by omega
      rw [e1] at f
      have : sumY 130 1970 = 47482 := by decide +kernel
      omega
  obtain ⟨a2, b2, c2, e2, f2⟩ := civM_spec (civY 131 day 1970).2 12 (civY 131 day 1970).1 1 a (by rw [months_of]; exact b)
  have ok : dayOK (civY 131 day 1970).2 (civM (civY 131 day 1970).2 12 (civY 131 day 1970).1 1).2 ((civM (civY 131 day 1970).2 12 (civY 131 day 1970).1 1).1 + 1) := ⟨by omega, hy, by omega, by omega, by omega, by omega⟩
  refine ⟨_, _, _, by unfold civV; rw [if_pos ⟨h0, h1⟩], ok, ?_⟩
  unfold daysV
  rw [if_pos ok]
  omega
/-! ### Digits of a fixed count -/
def two (n : Int) : List Int := [48 + n / 10, 48 + n % 10]
def four (n : Int) : List Int := [48 + n / 1000, 48 + n / 100 % 10, 48 + n / 10 % 10, 48 + n % 10]
theorem fmtL_one {n : Int} (h0 : 0 ≤ n) (h1 : n ≤ 9) : fmtL n = [48 + n] := by
  rw [fmtL_pos h0, numL_small (by omega), Int.toNat_of_nonneg h0]
theorem fmtL_two {n : Int} (h0 : 10 ≤ n) (h1 : n ≤ 99) : fmtL n = two n := by
  obtain ⟨m, rfl⟩ : ∃ m : Nat, n = m := ⟨n.toNat, by omega⟩
  rw [fmtL_pos (by omega), Int.toNat_natCast, numL_big (by omega), numL_small (by omega)]
  unfold two
  simp only [List.singleton_append, List.cons.injEq, and_true]
  omega
theorem fmtL_four {n : Int} (h0 : 1000 ≤ n) (h1 : n ≤ 9999) : fmtL n = four n := by
  obtain ⟨m, rfl⟩ : ∃ m : Nat, n = m := ⟨n.toNat, by omega⟩
  rw [fmtL_pos (by omega), Int.toNat_natCast, numL_big (by omega), numL_big (by omega), numL_big (by omega), numL_small (by omega)]
  unfold four
  simp only [List.append_assoc, List.cons_append, List.nil_append, List.singleton_append, List.cons.injEq, and_true]
  omega
theorem InB_padL {w : Int} {l : List Int} (h : InB l) : InB (padL w l) := by
  unfold padL
  rw [InB_append]
  exact ⟨fun x hx => by have := List.eq_of_mem_replicate hx; omega, h⟩
theorem bytesOf_padV (w : Int) (s : ByteArray) : bytesOf (padV w s) = padL w (bytesOf s) := bytesOf_strOf (InB_padL (InB_bytes s))
theorem bytesOf_digits {n : Int} (w : Int) (h0 : 0 ≤ n) : bytesOf (digitsV n w) = padL w (fmtL n) := by
  unfold digitsV
  rw [bytesOf_padV, bytesOf_fmt, show max 0 n = n by omega]
theorem digits_two {n : Int} (h0 : 0 ≤ n) (h1 : n ≤ 99) : bytesOf (digitsV n 2) = two n := by
  rw [bytesOf_digits 2 h0]
  by_cases h : n ≤ 9
  · rw [fmtL_one h0 h]
    have e : two n = [48, 48 + n] := by unfold two; simp only [List.cons.injEq, and_true]; omega
    rw [e]; rfl
  · rw [fmtL_two (by omega) h1]; rfl
theorem digits_four {n : Int} (h0 : 1000 ≤ n) (h1 : n ≤ 9999) : bytesOf (digitsV n 4) = four n := by
  rw [bytesOf_digits 4 (by omega), fmtL_four h0 h1]; rfl
/-! ### The three forms of a time -/
def dayN (w : Int) : List Int :=
  if w = 0 then [83, 117, 110, 100, 97, 121] else if w = 1 then [77, 111, 110, 100, 97, 121] else if w = 2 then [84, 117, 101, 115, 100, 97, 121] else if w = 3 then [87, 101, 100, 110, 101, 115, 100, 97, 121]
  else if w = 4 then [84, 104, 117, 114, 115, 100, 97, 121] else if w = 5 then [70, 114, 105, 100, 97, 121] else [83, 97, 116, 117, 114, 100, 97, 121]
def monN (m : Int) : List Int :=
  if m = 1 then [74, 97, 110] else if m = 2 then [70, 101, 98] else if m = 3 then [77, 97, 114] else if m = 4 then [65, 112, 114] else if m = 5 then [77, 97, 121] else if m = 6 then [74, 117, 110]
  else if m = 7 then [74, 117, 108] else if m = 8 then [65, 117, 103] else if m = 9 then [83, 101, 112] else if m = 10 then [79, 99, 116] else if m = 11 then [78, 111, 118] else [68, 101, 99]
def dY (t : Int) : Int := (civV (t / 86400)).1
def dM (t : Int) : Int := (civV (t / 86400)).2.1
def dD (t : Int) : Int := (civV (t / 86400)).2.2
def dW (t : Int) : Int := (t / 86400 % 7 + 4) % 7
def clkL (t : Int) : List Int := two (t / 3600 % 24) ++ [58] ++ two (t / 60 % 60) ++ [58] ++ two (t % 60)
def dayD (d : Int) : List Int := if d < 10 then [32, 48 + d] else two d
def F1 (t : Int) : List Int := (dayN (dW t)).take 3 ++ [44, 32] ++ two (dD t) ++ [32] ++ monN (dM t) ++ [32] ++ four (dY t) ++ [32] ++ clkL t ++ [32, 71, 77, 84]
def F2 (t : Int) : List Int := dayN (dW t) ++ [44, 32] ++ two (dD t) ++ [45] ++ monN (dM t) ++ [45] ++ two (dY t % 100) ++ [32] ++ clkL t ++ [32, 71, 77, 84]
def F3 (t : Int) : List Int := (dayN (dW t)).take 3 ++ [32] ++ monN (dM t) ++ [32] ++ dayD (dD t) ++ [32] ++ clkL t ++ [32] ++ four (dY t)
def okT (t : Int) : Prop := 0 ≤ t ∧ t ≤ 4102444799
instance (t : Int) : Decidable (okT t) := by unfold okT; infer_instance
theorem t_facts {t : Int} (h : okT t) : dayOK (dY t) (dM t) (dD t) ∧ daysV (dY t) (dM t) (dD t) = t / 86400 := by
  obtain ⟨y, m, d, e, ok, hd⟩ := civ_facts (day := t / 86400) (by have := h.1; omega) (by have := h.2; omega)
  unfold dY dM dD
  rw [e]
  exact ⟨ok, hd⟩
/-- A text is a form of a time; the second form alone for years up to 2069. -/
def Dated (s : ByteArray) (t : Int) : Prop := bytesOf s = F1 t ∨ (bytesOf s = F2 t ∧ dY t ≤ 2069) ∨ bytesOf s = F3 t
/-- What a reader of dates answers. -/
def Reads (s : ByteArray) (r : Int × Bool) : Prop := (r.2 = false → r = (0, false)) ∧ (r.2 = true → okT r.1 ∧ Dated s r.1) ∧ (∀ t, okT t → Dated s t → r = (t, true))
theorem reads_same {s : ByteArray} {r1 r2 : Int × Bool} (h1 : Reads s r1) (h2 : Reads s r2) : r1 = r2 := by
  obtain ⟨a1, b1, c1⟩ := h1
  obtain ⟨a2, b2, c2⟩ := h2
  cases e1 : r1.2 with
  | true =>
    obtain ⟨o, d⟩ := b1 e1
    have := c2 _ o d
    rw [this]
    exact Prod.ext rfl e1
  | false =>
    cases e2 : r2.2 with
    | true =>
      obtain ⟨o, d⟩ := b2 e2
      have := c1 _ o d
      rw [this] at e1
      simp at e1
    | false => rw [a1 e1, a2 e2]
def daysL : List ByteArray := [(⟨#[83, 117, 110, 100, 97, 121]⟩ : ByteArray), (⟨#[77, 111, 110, 100, 97, 121]⟩ : ByteArray), (⟨#[84, 117, 101, 115, 100, 97, 121]⟩ : ByteArray), (⟨#[87, 101, 100, 110, 101, 115, 100, 97, 121]⟩ : ByteArray), (⟨#[84, 104, 117, 114, 115, 100, 97, 121]⟩ : ByteArray), (⟨#[70, 114, 105, 100, 97, 121]⟩ : ByteArray), (⟨#[83, 97, 116, 117, 114, 100, 97, 121]⟩ : ByteArray)]
def monsL : List ByteArray := [(⟨#[74, 97, 110]⟩ : ByteArray), (⟨#[70, 101, 98]⟩ : ByteArray), (⟨#[77, 97, 114]⟩ : ByteArray), (⟨#[65, 112, 114]⟩ : ByteArray), (⟨#[77, 97, 121]⟩ : ByteArray), (⟨#[74, 117, 110]⟩ : ByteArray), (⟨#[74, 117, 108]⟩ : ByteArray), (⟨#[65, 117, 103]⟩ : ByteArray), (⟨#[83, 101, 112]⟩ : ByteArray), (⟨#[79, 99, 116]⟩ : ByteArray), (⟨#[78, 111, 118]⟩ : ByteArray), (⟨#[68, 101, 99]⟩ : ByteArray)]
theorem seven {w : Int} (h0 : 0 ≤ w) (h1 : w ≤ 6) : w = 0 ∨ w = 1 ∨ w = 2 ∨ w = 3 ∨ w = 4 ∨ w = 5 ∨ w = 6 := by omega
theorem twelve {m : Int} (h0 : 1 ≤ m) (h1 : m ≤ 12) : m = 1 ∨ m = 2 ∨ m = 3 ∨ m = 4 ∨ m = 5 ∨ m = 6 ∨ m = 7 ∨ m = 8 ∨ m = 9 ∨ m = 10 ∨ m = 11 ∨ m = 12 := by omega
theorem days_at {w : Int} (h0 : 0 ≤ w) (h1 : w ≤ 6) : bytesOf (rdOf ByteArray.empty daysL w) = dayN w := by
  rcases seven h0 h1 with rfl | rfl | rfl | rfl | rfl | rfl | rfl <;> decide +kernel
theorem mons_at {m : Int} (h0 : 1 ≤ m) (h1 : m ≤ 12) : bytesOf (rdOf ByteArray.empty monsL (m - 1)) = monN m := by
  rcases twelve h0 h1 with rfl | rfl | rfl | rfl | rfl | rfl | rfl | rfl | rfl | rfl | rfl | rfl <;> decide +kernel
theorem dayN_len (w : Int) : 6 ≤ (dayN w).length ∧ (dayN w).length ≤ 9 := by
  unfold dayN
  repeat' split
  all_goals decide
theorem monN_len (m : Int) : (monN m).length = 3 := by
  unfold monN
  repeat' split
  all_goals decide
theorem dW_bd (t : Int) : 0 ≤ dW t ∧ dW t ≤ 6 := by unfold dW; omega
theorem clk_len (t : Int) : (clkL t).length = 8 := rfl
theorem b_comma : bytesOf (⟨#[44, 32]⟩ : ByteArray) = [44, 32] := by decide
theorem b_sp : bytesOf (⟨#[32]⟩ : ByteArray) = [32] := by decide
theorem b_dash : bytesOf (⟨#[45]⟩ : ByteArray) = [45] := by decide
theorem b_col : bytesOf (⟨#[58]⟩ : ByteArray) = [58] := by decide
theorem b_gmt : bytesOf (⟨#[32, 71, 77, 84]⟩ : ByteArray) = [32, 71, 77, 84] := by decide
theorem bytes_take (s : ByteArray) (n : Nat) : bytesOf (s.extract 0 n) = (bytesOf s).take n := by rw [bytesOf_extract, List.drop_zero]
theorem bytes_clk {a b c : ByteArray} {t : Int} (h1 : bytesOf a = two (t / 3600 % 24)) (h2 : bytesOf b = two (t / 60 % 60)) (h3 : bytesOf c = two (t % 60)) : bytesOf ((((a ++ (⟨#[58]⟩ : ByteArray)) ++ b) ++ (⟨#[58]⟩ : ByteArray)) ++ c) = clkL t := by
  simp only [bytesOf_append, h1, h2, h3, b_col]
  rfl
theorem bytes_F1 {dn dd mn yy ck : ByteArray} {t : Int} (h1 : bytesOf dn = (dayN (dW t)).take 3) (h2 : bytesOf dd = two (dD t)) (h3 : bytesOf mn = monN (dM t)) (h4 : bytesOf yy = four (dY t)) (h5 : bytesOf ck = clkL t) :
    bytesOf (((((((((dn ++ (⟨#[44, 32]⟩ : ByteArray)) ++ dd) ++ (⟨#[32]⟩ : ByteArray)) ++ mn) ++ (⟨#[32]⟩ : ByteArray)) ++ yy) ++ (⟨#[32]⟩ : ByteArray)) ++ ck) ++ (⟨#[32, 71, 77, 84]⟩ : ByteArray)) = F1 t := by
  simp only [bytesOf_append, h1, h2, h3, h4, h5, b_comma, b_sp, b_gmt]
  rfl
theorem bytes_F2 {dn dd mn yy ck : ByteArray} {t : Int} (h1 : bytesOf dn = dayN (dW t)) (h2 : bytesOf dd = two (dD t)) (h3 : bytesOf mn = monN (dM t)) (h4 : bytesOf yy = two (dY t % 100)) (h5 : bytesOf ck = clkL t) :
    bytesOf (((((((((dn ++ (⟨#[44, 32]⟩ : ByteArray)) ++ dd) ++ (⟨#[45]⟩ : ByteArray)) ++ mn) ++ (⟨#[45]⟩ : ByteArray)) ++ yy) ++ (⟨#[32]⟩ : ByteArray)) ++ ck) ++ (⟨#[32, 71, 77, 84]⟩ : ByteArray)) = F2 t := by
  simp only [bytesOf_append, h1, h2, h3, h4, h5, b_comma, b_sp, b_gmt, b_dash]
  rfl
theorem bytes_F3 {dn dd mn yy ck : ByteArray} {t : Int} (h1 : bytesOf dn = (dayN (dW t)).take 3) (h2 : bytesOf dd = dayD (dD t)) (h3 : bytesOf mn = monN (dM t)) (h4 : bytesOf yy = four (dY t)) (h5 : bytesOf ck = clkL t) :
    bytesOf ((((((((dn ++ (⟨#[32]⟩ : ByteArray)) ++ mn) ++ (⟨#[32]⟩ : ByteArray)) ++ dd) ++ (⟨#[32]⟩ : ByteArray)) ++ ck) ++ (⟨#[32]⟩ : ByteArray)) ++ yy) = F3 t := by
  simp only [bytesOf_append, h1, h2, h3, h4, h5, b_sp]
  rfl
theorem size_of {s : ByteArray} {l : List Int} (h : bytesOf s = l) : s.size = l.length := by rw [← h, bytesOf_length]
theorem tdiv_pos {t d : Int} (h0 : 0 ≤ t) (h1 : t ≤ 9000000000000000000) (hd : 1 ≤ d) : wrap64 (Int.tdiv t d) = t / d := by
  rw [Int.tdiv_eq_ediv_of_nonneg h0]
  have h2 := Int.ediv_le_self d h0
  have h3 := Int.ediv_nonneg h0 (show 0 ≤ d by omega)
  exact wrap_id (by omega) (by omega)
theorem day1 {d : Int} (h0 : 1 ≤ d) (h1 : d < 10) {a : ByteArray} (h : bytesOf a = fmtL d) : bytesOf ((⟨#[32]⟩ : ByteArray) ++ a) = dayD d := by
  rw [bytesOf_append, h, b_sp, fmtL_one (by omega) (by omega)]
  unfold dayD
  rw [if_pos h1]; rfl
theorem day2 {d : Int} (h1 : ¬ d < 10) {a : ByteArray} (h : bytesOf a = two d) : bytesOf a = dayD d := by
  rw [h]; unfold dayD; rw [if_neg h1]
theorem spec_Week_eq {t : Int} (h : okT t) : spec_WeekdayOf.f (t / 86400) = some (dW t) := by
  have h1 := h.1
  have h2 := h.2
  unfold spec_WeekdayOf.f dW
  rw [spec_Mod_eq, Option.bind_some, modV_pos (by omega) (by omega), spec_Mod_eq, Option.bind_some, modV_pos (by omega) (by omega), wrap_id (by omega) (by omega)]
theorem spec_Clock_ev {t : Int} (h : okT t) : ∃ ck, Ev (fun k => spec_l3Clock.f k t) ck ∧ bytesOf ck = clkL t := by
  have h1 := h.1
  have h2 := h.2
  have e0 : Int.tmod t 86400 = t % 86400 := Int.tmod_eq_emod_of_nonneg h1
  have e1 : wrap64 (Int.tdiv (Int.tmod t 86400) 3600) = t / 3600 % 24 := by rw [e0, tdiv_pos (by omega) (by omega) (by omega)]; omega
  have e2 : Int.tmod (wrap64 (Int.tdiv (Int.tmod t 86400) 60)) 60 = t / 60 % 60 := by rw [e0, tdiv_pos (by omega) (by omega) (by omega), Int.tmod_eq_emod_of_nonneg (by omega)]; omega
  have e3 : Int.tmod (Int.tmod t 86400) 60 = t % 60 := by rw [e0, Int.tmod_eq_emod_of_nonneg (by omega)]; omega
  have a1 := digits_two (n := t / 3600 % 24) (by omega) (by omega)
  have a2 := digits_two (n := t / 60 % 60) (by omega) (by omega)
  have a3 := digits_two (n := t % 60) (by omega) (by omega)
  have s1 : (digitsV (t / 3600 % 24) 2).size = 2 := size_of a1
  have s2 : (digitsV (t / 60 % 60) 2).size = 2 := size_of a2
  have s3 : (digitsV (t % 60) 2).size = 2 := size_of a3
  have z1 : (⟨#[58]⟩ : ByteArray).size = 1 := rfl
  refine ⟨_, ?_, bytes_clk a1 a2 a3⟩
  unfold spec_l3Clock.f
  rw [e1, e2, e3]
  refine Ev.bind (spec_Digits_ev _ _ (by omega)) (Ev.pos (by omega) (Ev.bind (spec_Digits_ev _ _ (by omega)) (Ev.pos ?_ (Ev.pos ?_ (Ev.bind (spec_Digits_ev _ _ (by omega)) (Ev.pos ?_ (Ev.now _)))))))
  all_goals (simp only [ByteArray.size_append]; omega)
set_option maxHeartbeats 4000000 in
theorem spec_Forms_ev {t : Int} (h : okT t) : ∃ A B C, Ev (fun k => spec_l3Forms.f k t) [A, B, C] ∧ bytesOf A = F1 t ∧ bytesOf B = F2 t ∧ bytesOf C = F3 t := by
  have h1 := h.1
  have h2 := h.2
  obtain ⟨ok, _⟩ := t_facts h
  obtain ⟨y1, y2, m1, m2, d1, d2⟩ := ok
  have d3 := (md_bd (dY t) (dM t)).2
  obtain ⟨w1, w2⟩ := dW_bd t
  obtain ⟨ck, hck, bck⟩ := spec_Clock_ev h
  have sck : ck.size = 8 := size_of bck
  have e0 : wrap64 (Int.tdiv t 86400) = t / 86400 := tdiv_pos h1 (by omega) (by omega)
  have ev : civV (t / 86400) = (dY t, dM t, dD t) := rfl
  have em : wrap64 (dM t - 1) = dM t - 1 := wrap_id (by omega) (by omega)
  have ey : Int.tmod (dY t) 100 = dY t % 100 := Int.tmod_eq_emod_of_nonneg (by omega)
  have a1 := digits_two (n := dD t) (by omega) (by omega)
  have a2 := digits_four (n := dY t) (by omega) (by omega)
  have a3 := digits_two (n := dY t % 100) (by omega) (by omega)
  have s1 : (digitsV (dD t) 2).size = 2 := size_of a1
  have s2 : (digitsV (dY t) 4).size = 4 := size_of a2
  have s3 : (digitsV (dY t % 100) 2).size = 2 := size_of a3
  have bd := days_at w1 w2
  have bm := mons_at m1 m2
  have hdl := dayN_len (dW t)
  have sm : (rdOf ByteArray.empty monsL (dM t - 1)).size = 3 := by rw [size_of bm, monN_len]
  have sd := size_of bd
  have b3 : bytesOf ((rdOf ByteArray.empty daysL (dW t)).extract 0 3) = (dayN (dW t)).take 3 := by rw [bytes_take, bd]
  have s4 : ((rdOf ByteArray.empty daysL (dW t)).extract 0 3).size ≤ 3 := by rw [size_of b3, List.length_take]; omega
  have z1 : (⟨#[58]⟩ : ByteArray).size = 1 := rfl
  have z2 : (⟨#[32]⟩ : ByteArray).size = 1 := rfl
  have z3 : (⟨#[45]⟩ : ByteArray).size = 1 := rfl
  have z4 : (⟨#[44, 32]⟩ : ByteArray).size = 2 := rfl
  have z5 : (⟨#[32, 71, 77, 84]⟩ : ByteArray).size = 4 := rfl
  have lD : (daysL.length : Int) = 7 := rfl
  have lM : (monsL.length : Int) = 12 := rfl
  have sf := fmtV_size (n := dD t) (by omega) (by omega)
  refine ⟨_, _, if dD t < 10 then (((((((((rdOf ByteArray.empty daysL (dW t)).extract 0 3) ++ (⟨#[32]⟩ : ByteArray)) ++ (rdOf ByteArray.empty monsL (dM t - 1))) ++ (⟨#[32]⟩ : ByteArray)) ++ ((⟨#[32]⟩ : ByteArray) ++ fmtV (dD t))) ++ (⟨#[32]⟩ : ByteArray)) ++ ck) ++ (⟨#[32]⟩ : ByteArray)) ++ digitsV (dY t) 4 else (((((((((rdOf ByteArray.empty daysL (dW t)).extract 0 3) ++ (⟨#[32]⟩ : ByteArray)) ++ (rdOf ByteArray.empty monsL (dM t - 1))) ++ (⟨#[32]⟩ : ByteArray)) ++ digitsV (dD t) 2) ++ (⟨#[32]⟩ : ByteArray)) ++ ck) ++ (⟨#[32]⟩ : ByteArray)) ++ digitsV (dY t) 4, ?_, bytes_F1 b3 a1 bm a2 bck, bytes_F2 bd a1 bm a3 bck, ?_⟩
  · unfold spec_l3Forms.f
    rw [e0]
    refine Ev.bind (spec_CivilOf_ev _) ?_
    rw [ev, show spec_l3Days.f = some daysL from rfl, show spec_l3Months.f = some monsL from rfl, spec_Week_eq h]
    simp only [Option.bind_some]
    rw [em, ey]
    generalize rdOf ByteArray.empty daysL (dW t) = DN at *
    generalize rdOf ByteArray.empty monsL (dM t - 1) = MN at *
    generalize DN.extract 0 3 = D3 at *
    refine Ev.pos (by omega) (Ev.pos (by omega) (Ev.pos (by omega) (Ev.pos (by omega) (Ev.pos (by omega) (Ev.pos (by omega) ?_)))))
    repeat first
      | (with_reducible refine Ev.pos (c := _ ≤ 9223372036854775807) ?_ ?_; first | omega | (simp only [ByteArray.size_append]; omega))
      | (with_reducible refine Ev.bind (spec_Digits_ev _ _ ?_) ?_; omega)
      | (with_reducible refine Ev.bind hck ?_)
    by_cases c : dD t < 10
    · rw [if_pos c]
      refine Ev.pos c (Ev.bind (spec_Fmt_ev _ (by omega) (by omega)) ?_)
      repeat first
        | (with_reducible refine Ev.pos (c := _ ≤ 9223372036854775807) ?_ ?_; first | omega | (simp only [ByteArray.size_append]; omega))
        | (with_reducible refine Ev.bind (spec_Digits_ev _ _ ?_) ?_; omega)
        | (with_reducible refine Ev.bind hck ?_)
      exact Ev.now _
    · rw [if_neg c]
      refine Ev.neg c ?_
      repeat first
        | (with_reducible refine Ev.pos (c := _ ≤ 9223372036854775807) ?_ ?_; first | omega | (simp only [ByteArray.size_append]; omega))
        | (with_reducible refine Ev.bind (spec_Digits_ev _ _ ?_) ?_; omega)
        | (with_reducible refine Ev.bind hck ?_)
      exact Ev.now _
  · by_cases c : dD t < 10
    · rw [if_pos c]
      exact bytes_F3 b3 (day1 d1 c (bytesOf_fmt _)) bm a2 bck
    · rw [if_neg c]
      exact bytes_F3 b3 (day2 c a1) bm a2 bck
theorem impl_Week_eq {t : Int} (h : okT t) : impl_WeekdayOf.f (t / 86400) = some (dW t) := by
  have h1 := h.1
  have h2 := h.2
  unfold impl_WeekdayOf.f dW
  rw [impl_Mod_eq, Option.bind_some, modV_pos (by omega) (by omega), impl_Mod_eq, Option.bind_some, modV_pos (by omega) (by omega), wrap_id (by omega) (by omega)]
theorem dayT_at {w : Int} (h0 : 0 ≤ w) (h1 : w ≤ 6) : bytesOf (dayT w) = (dayN w).take 3 := by
  rcases seven h0 h1 with rfl | rfl | rfl | rfl | rfl | rfl | rfl <;> decide +kernel
theorem monT_at {m : Int} (h0 : 1 ≤ m) (h1 : m ≤ 12) : bytesOf (monT m) = monN m := by
  rcases twelve h0 h1 with rfl | rfl | rfl | rfl | rfl | rfl | rfl | rfl | rfl | rfl | rfl | rfl <;> decide +kernel
theorem full_at {w : Int} (h0 : 0 ≤ w) (h1 : w ≤ 6) : impl_fullDay.f w = some (rdOf ByteArray.empty daysL w) := by
  unfold impl_fullDay.f
  rw [Option.bind_some, if_pos h0, if_pos (by show w < (7 : Int); omega)]
  rfl
theorem impl_Text_no {t : Int} (h : ¬ okT t) (a : Int) (k : Nat) : impl_dateText.f k t a = some (⟨#[]⟩ : ByteArray) := by unfold impl_dateText.f; exact if_neg h
set_option maxHeartbeats 4000000 in
theorem impl_Text_ev {t : Int} (h : okT t) (a : Int) : ∃ x, Ev (fun k => impl_dateText.f k t a) x ∧ (a = 1 → bytesOf x = F1 t) ∧ (a = 2 → bytesOf x = if dY t ≤ 2069 then F2 t else []) ∧ (a ≠ 1 → a ≠ 2 → bytesOf x = F3 t) := by
  have h1 := h.1
  have h2 := h.2
  obtain ⟨ok, _⟩ := t_facts h
  obtain ⟨y1, y2, m1, m2, d1, d2⟩ := ok
  have d3 := (md_bd (dY t) (dM t)).2
  obtain ⟨w1, w2⟩ := dW_bd t
  have e0 : wrap64 (Int.tdiv t 86400) = t / 86400 := tdiv_pos h1 (by omega) (by omega)
  have e1 : Int.tmod (wrap64 (Int.tdiv t 3600)) 24 = t / 3600 % 24 := by rw [tdiv_pos h1 (by omega) (by omega), Int.tmod_eq_emod_of_nonneg (by omega)]
  have e2 : Int.tmod (wrap64 (Int.tdiv t 60)) 60 = t / 60 % 60 := by rw [tdiv_pos h1 (by omega) (by omega), Int.tmod_eq_emod_of_nonneg (by omega)]
  have e3 : Int.tmod t 60 = t % 60 := Int.tmod_eq_emod_of_nonneg h1
  have ev : civV (t / 86400) = (dY t, dM t, dD t) := rfl
  have ey : Int.tmod (dY t) 100 = dY t % 100 := Int.tmod_eq_emod_of_nonneg (by omega)
  have c1 := digits_two (n := t / 3600 % 24) (by omega) (by omega)
  have c2 := digits_two (n := t / 60 % 60) (by omega) (by omega)
  have c3 := digits_two (n := t % 60) (by omega) (by omega)
  have bck := bytes_clk c1 c2 c3
  have a1 := digits_two (n := dD t) (by omega) (by omega)
  have a2 : bytesOf (fmtV (dY t)) = four (dY t) := by rw [bytesOf_fmt, fmtL_four (by omega) (by omega)]
  have a3 := digits_two (n := dY t % 100) (by omega) (by omega)
  have z1 : (digitsV (t / 3600 % 24) 2).size = 2 := size_of c1
  have z2 : (digitsV (t / 60 % 60) 2).size = 2 := size_of c2
  have z3 : (digitsV (t % 60) 2).size = 2 := size_of c3
  have z4 : (digitsV (dD t) 2).size = 2 := size_of a1
  have z5 := fmtV_size (n := dY t) (by omega) (by omega)
  have z6 : (digitsV (dY t % 100) 2).size = 2 := size_of a3
  have z7 := fmtV_size (n := dD t) (by omega) (by omega)
  have bd := days_at w1 w2
  have b3 := dayT_at w1 w2
  have bm := monT_at m1 m2
  have hdl := dayN_len (dW t)
  have sd := size_of bd
  have head : ∀ x, Ev (fun k => impl_dateText.form k a (dY t) (dD t) (dW t) (dayT (dW t)) (monT (dM t)) ((((digitsV (t / 3600 % 24) 2 ++ (⟨#[58]⟩ : ByteArray)) ++ digitsV (t / 60 % 60) 2) ++ (⟨#[58]⟩ : ByteArray)) ++ digitsV (t % 60) 2)) x → Ev (fun k => impl_dateText.f k t a) x := by
    intro x hx
    unfold impl_dateText.f
    rw [e0, e1, e2, e3]
    refine Ev.pos h (Ev.bind (impl_CivilOf_ev _) ?_)
    rw [ev, impl_Week_eq h]
    simp only [Option.bind_some]
    exact Ev.bind (impl_Digits_ev _ _ (by omega)) (Ev.bind (impl_Digits_ev _ _ (by omega)) (Ev.bind (impl_Digits_ev _ _ (by omega)) (Ev.pos (by omega) hx)))
  by_cases g1 : a = 1
  · subst g1
    refine ⟨_, head _ ?_, fun _ => bytes_F1 b3 a1 bm a2 bck, fun z => absurd z (by decide), fun z => absurd rfl z⟩
    unfold impl_dateText.form
    refine Ev.pos rfl (Ev.bind (impl_Digits_ev _ _ (by omega)) ?_)
    rw [impl_Fmt_eq _ (by omega) (by omega)]
    simp only [Option.bind_some]
    exact Ev.pos (by omega) (Ev.now _)
  · by_cases g2 : a = 2
    · subst g2
      by_cases g3 : dY t ≤ 2069
      · refine ⟨_, head _ ?_, fun z => absurd z (by decide), fun _ => by rw [if_pos g3]; exact bytes_F2 bd a1 bm a3 bck, fun _ z => absurd rfl z⟩
        unfold impl_dateText.form
        rw [full_at w1 w2, ey]
        refine Ev.neg (by decide) (Ev.pos rfl (Ev.neg (by omega) ?_))
        simp only [Option.bind_some]
        exact Ev.bind (impl_Digits_ev _ _ (by omega)) (Ev.bind (impl_Digits_ev _ _ (by omega)) (Ev.pos (by omega) (Ev.now _)))
      · refine ⟨⟨#[]⟩, head _ ?_, fun z => absurd z (by decide), fun _ => by rw [if_neg g3]; decide, fun _ z => absurd rfl z⟩
        unfold impl_dateText.form
        exact Ev.neg (by decide) (Ev.pos rfl (Ev.pos (by omega) (Ev.now _)))
    · by_cases c : dD t < 10
      · refine ⟨_, head _ ?_, fun z => absurd z g1, fun z => absurd z g2, fun _ _ => bytes_F3 b3 (day1 d1 c (bytesOf_fmt _)) bm a2 bck⟩
        unfold impl_dateText.form
        refine Ev.neg g1 (Ev.neg g2 ?_)
        rw [impl_Fmt_eq _ (by omega) (by omega), impl_Fmt_eq (dY t) (by omega) (by omega)]
        simp only [Option.bind_some]
        exact Ev.pos (by omega) (Ev.pos c (Ev.now _))
      · have bf : bytesOf (fmtV (dD t)) = two (dD t) := by rw [bytesOf_fmt, fmtL_two (by omega) (by omega)]
        refine ⟨_, head _ ?_, fun z => absurd z g1, fun z => absurd z g2, fun _ _ => bytes_F3 b3 (day2 c bf) bm a2 bck⟩
        unfold impl_dateText.form
        refine Ev.neg g1 (Ev.neg g2 ?_)
        rw [impl_Fmt_eq _ (by omega) (by omega), impl_Fmt_eq (dY t) (by omega) (by omega)]
        simp only [Option.bind_some]
        exact Ev.pos (by omega) (Ev.neg c (Ev.now _))

theorem spec_FormatDate_ev (t : Int) : ∃ x, Ev (fun k => spec_FormatDate.f k t) x ∧ bytesOf x = if okT t then F1 t else [] := by
  unfold spec_FormatDate.f
  rw [spec_l1In_eq]
  simp only [Option.bind_some]
  by_cases h : okT t
  · obtain ⟨A, B, C, hF, bA, _, _⟩ := spec_Forms_ev h
    refine ⟨A, Ev.pos (decide_eq_true h) (Ev.bind hF (Ev.pos (by simp) (Ev.now _))), by rw [if_pos h]; exact bA⟩
  · exact ⟨⟨#[]⟩, Ev.neg (by rw [decide_eq_true_eq]; exact h) (Ev.now _), by rw [if_neg h]; decide⟩
theorem impl_FormatDate_ev (t : Int) : ∃ x, Ev (fun k => impl_FormatDate.f k t) x ∧ bytesOf x = if okT t then F1 t else [] := by
  unfold impl_FormatDate.f
  by_cases h : okT t
  · obtain ⟨x, hx, h1, _, _⟩ := impl_Text_ev h 1
    exact ⟨x, Ev.bind hx (Ev.now _), by rw [if_pos h]; exact h1 rfl⟩
  · refine ⟨⟨#[]⟩, Ev.mp (Ev.now _) (fun k => by rw [impl_Text_no h, Option.bind_some]), by rw [if_neg h]; decide⟩
theorem FnExactFormatDate : laws_FnExactFormatDate.Pure := by
  intro t _
  apply Ev.rounds
  unfold laws_FnExactFormatDate.f
  obtain ⟨x, hx, bx⟩ := spec_FormatDate_ev t
  obtain ⟨y, hy, hb⟩ := impl_FormatDate_ev t
  have e : y = x := bytesOf_inj (hb.trans bx.symm)
  subst e
  exact Ev.bind hx (Ev.bind hy (Ev.pos rfl (Ev.now _)))

end Go.Proofs.YtlboepkphddacabDoor.Pure
