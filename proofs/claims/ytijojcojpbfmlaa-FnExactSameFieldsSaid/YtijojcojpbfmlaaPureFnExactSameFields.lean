/- The pure part of FnExactSameFields: for every input within the statement's bounds the printed law answers true. Conditions: the statement's own bounds alone. -/
import Derived.Test.YtijojcojpbfmlaaPreFnExactSameFields
import Derived.Test.YtijojcojpbfmlaaPFnExactSameFieldsx1
import Derived.Test.YtijojcojpbfmlaaPFnExactSameFieldsx2
import Derived.Test.YtijojcojpbfmlaaPFnExactSameFieldsx3
import Derived.OpenShut
namespace Go.Proofs.Ytijojcojpbfmlaa.Pure
open Go.RowKit Go.Proofs.Ytijojcojpbfmlaa.PFnExactSameFields Go.Proofs.YtijojcojpbfmlaaW.PrintWords Go.Proofs.YtijojcojpbfmlaaW.PrintLast
set_option linter.unusedSimpArgs false
set_option linter.unusedVariables false

/-! ### Texts as lists of numbers -/
def InB (l : List Int) : Prop := ∀ x ∈ l, 0 ≤ x ∧ x ≤ 255
theorem InB_nil : InB [] := fun x hx => by simp at hx
theorem InB_cons {b : Int} {l : List Int} : InB (b :: l) ↔ (0 ≤ b ∧ b ≤ 255) ∧ InB l := by simp [InB]
theorem InB_append {l m : List Int} : InB (l ++ m) ↔ InB l ∧ InB m := by
  simp only [InB, List.mem_append]
  exact ⟨fun h => ⟨fun x hx => h x (.inl hx), fun x hx => h x (.inr hx)⟩, fun h x hx => hx.elim (h.1 x) (h.2 x)⟩
theorem InB_take {l : List Int} (n : Nat) (h : InB l) : InB (l.take n) := fun x hx => h x (List.mem_of_mem_take hx)
theorem InB_drop {l : List Int} (n : Nat) (h : InB l) : InB (l.drop n) := fun x hx => h x (List.mem_of_mem_drop hx)
theorem InB_bytes (s : ByteArray) : InB (bytesOf s) := by
  intro x hx
  unfold bytesOf at hx
  obtain ⟨b, _, rfl⟩ := List.mem_map.1 hx
  have := b.toNat_lt
  omega
theorem strOf_bytesOf (s : ByteArray) : strOfNums (bytesOf s) = s := by
  obtain ⟨⟨l⟩⟩ := s
  unfold strOfNums bytesOf
  simp only [List.map_map]
  congr 2
  exact (List.map_congr_left (fun b _ => by simp)).trans (List.map_id l)
theorem bytesOf_strOf {l : List Int} (h : InB l) : bytesOf (strOfNums l) = l := by
  unfold strOfNums bytesOf
  simp only [List.map_map]
  refine (List.map_congr_left (fun x hx => ?_)).trans (List.map_id l)
  have := h x hx
  simp only [Function.comp_apply, id, UInt8.toNat_ofNat']
  omega
theorem bytesOf_inj {s t : ByteArray} (h : bytesOf s = bytesOf t) : s = t := by rw [← strOf_bytesOf s, h, strOf_bytesOf]
theorem bytesOf_append (s t : ByteArray) : bytesOf (s ++ t) = bytesOf s ++ bytesOf t := by
  unfold bytesOf
  rw [ByteArray.data_append, Array.toList_append, List.map_append]
theorem bytesOf_extract (s : ByteArray) (a b : Nat) : bytesOf (s.extract a b) = ((bytesOf s).take b).drop a := by
  unfold bytesOf
  rw [ByteArray.data_extract, Array.toList_extract, List.extract_eq_take_drop, List.map_take, List.map_drop, List.take_drop]
  rcases Nat.le_total a b with h | h
  · rw [Nat.add_sub_cancel' h]
  · rw [Nat.sub_eq_zero_of_le h, List.drop_eq_nil_of_le (by simp; omega), List.drop_eq_nil_of_le (by simp; omega)]
theorem toList_iff {s t : ByteArray} : s.toList = t.toList ↔ s = t := by
  rw [ByteArray.toList_eq, ByteArray.toList_eq]
  constructor
  · intro h
    obtain ⟨⟨l⟩⟩ := s
    obtain ⟨⟨m⟩⟩ := t
    simp only at h
    rw [h]
  · rintro rfl; rfl
theorem size_bytes (s : ByteArray) : (s.size : Int) = ((bytesOf s).length : Int) := by rw [bytesOf_length]
theorem getD_mid {α : Type} {l pre rest : List α} {b d : α} (h : l = pre ++ b :: rest) : l.getD ((pre.length : Int)).toNat d = b := by subst h; simp
theorem len_mid {α : Type} {l pre rest : List α} (h : l = pre ++ rest) : l.length = pre.length + rest.length := by rw [h, List.length_append]
theorem rd_mid {l pre rest : List Int} {b : Int} (h : l = pre ++ b :: rest) : rd l (pre.length : Int) = b := by
  subst h
  unfold rd
  simp
theorem bt_mid {s : ByteArray} {pre rest : List Int} {b : Int} (h : bytesOf s = pre ++ b :: rest) : bt s (pre.length : Int) = b := by
  rw [← rd_bytesOf]; exact rd_mid h
theorem size_mid {s : ByteArray} {pre rest : List Int} (h : bytesOf s = pre ++ rest) : (s.size : Int) = (pre.length : Int) + (rest.length : Int) := by
  rw [size_bytes, h]; simp
theorem mid_step {l pre rest : List Int} {b : Int} (h : l = pre ++ b :: rest) : l = (pre ++ [b]) ++ rest := by simp [h]
theorem wrap_id {n : Int} (h0 : -9223372036854775808 ≤ n) (h1 : n ≤ 9223372036854775807) : wrap64 n = n := by unfold wrap64; omega
theorem len_step {α : Type} (pre : List α) (b : α) (h : pre.length ≤ 9223372036854775000) : wrap64 ((pre.length : Int) + 1) = ((pre ++ [b]).length : Int) := by
  rw [wrap_id (by omega) (by omega)]; simp
/-! ### Loops over lists -/
theorem map_loop {α β : Type} (da : α) (conv : α → β) (x0 : List α) (hn : x0.length ≤ 4611686018427387904) (g : Nat → List β → Int → Option (List β))
    (hg : ∀ k x3 i, g (k + 1) x3 i = if i < (x0.length : Int) then (if 0 ≤ i then (if i < (x3.length : Int) then g k (x3.set (i : Int).toNat (conv (x0.getD i.toNat da))) (wrap64 (i + 1)) else none) else none) else some x3) (z : β) :
    Ev (fun k => g k (List.replicate x0.length z) 0) (x0.map conv) := by
  have key : ∀ rest pre, x0 = pre ++ rest → Ev (fun k => g k (pre.map conv ++ List.replicate rest.length z) (pre.length : Int)) (x0.map conv) := by
    intro rest
    induction rest with
    | nil =>
      intro pre h
      refine Ev.step (f := fun _ => some (x0.map conv)) (fun k => ?_) (Ev.now _)
      rw [hg, if_neg (by rw [h]; simp)]
      simp [h]
    | cons b rest ih =>
      intro pre h
      have hl : x0.length = pre.length + (rest.length + 1) := by rw [h]; simp
      refine Ev.step (f := fun k => g k ((pre ++ [b]).map conv ++ List.replicate rest.length z) ((pre ++ [b]).length : Int)) (fun k => ?_) (ih (pre ++ [b]) (by simp [h]))
      rw [hg, if_pos (by omega), if_pos (by omega), if_pos (by simp; omega), wrap_id (by omega) (by omega)]
      have e1 : x0.getD ((pre.length : Int)).toNat da = b := by rw [h]; simp
      rw [e1]
      congr 1
      · simp [List.replicate_succ, List.set_append]
      · simp
  exact key x0 [] rfl
theorem same_loop {α : Type} (a : List α) (hn : a.length ≤ 4611686018427387904) (g : Nat → Int → Option Bool)
    (hg : ∀ k i, 0 ≤ i → i < (a.length : Int) → g (k + 1) i = g k (wrap64 (i + 1))) (he : ∀ k, g (k + 1) (a.length : Int) = some true) : Ev (fun k => g k 0) true := by
  have key : ∀ d i : Nat, i + d = a.length → Ev (fun k => g k (i : Int)) true := by
    intro d
    induction d with
    | zero => intro i h; obtain rfl : i = a.length := by omega
              exact Ev.step he (Ev.now _)
    | succ d ih =>
      intro i h
      refine Ev.step (f := fun k => g k ((i + 1 : Nat) : Int)) (fun k => ?_) (ih (i + 1) (by omega))
      rw [hg k i (by omega) (by omega), wrap_id (by omega) (by omega)]; rfl
  exact key a.length 0 (by omega)
theorem Ev.mp {α : Type} {g f : Nat → Option α} {r : α} (h : Ev f r) (e : ∀ k, g k = f k) : Ev g r := Ev.congr e h
theorem Ev.step2 {α : Type} {g f : Nat → Option α} {r : α} (h : ∃ K, ∀ k, K ≤ k → g (k + 1) = f k) (e : Ev f r) : Ev g r := by
  obtain ⟨K, hK⟩ := h
  obtain ⟨K', hK'⟩ := e
  refine ⟨max K K' + 1, fun k hk => ?_⟩
  obtain ⟨k, rfl⟩ : ∃ m, k = m + 1 := ⟨k - 1, by omega⟩
  rw [hK k (by omega), hK' k (by omega)]
/-- Every element turned into the next of a row of marks. -/
def markL {α : Type} (mk : Int → α) (c : Nat) : Int → List α → List α
  | _, [] => []
  | k, _ :: r => mk k :: markL mk c (k + c) r
theorem markL_length {α : Type} (mk : Int → α) (c : Nat) (l : List α) : ∀ k, (markL mk c k l).length = l.length := by
  induction l with
  | nil => intro k; rfl
  | cons x r ih => intro k; simp [markL, ih]
theorem mark_loop {α : Type} (mk : Int → α) (c : Nat) (g : Nat → List α → Int → Int → Option (Int × List α)) (B : Int) (hB : B ≤ 4611686018427387904)
    (hg : ∀ (l : List α) (k0 i : Int), 0 ≤ i → i < (l.length : Int) → 0 ≤ k0 → k0 + c ≤ B → ∃ K, ∀ k, K ≤ k → g (k + 1) l k0 i = g k (l.set i.toNat (mk k0)) (k0 + c) (wrap64 (i + 1)))
    (he : ∀ k (l : List α) (k0 : Int), g (k + 1) l k0 (l.length : Int) = some (k0, l)) (l : List α) (hl : l.length ≤ 4611686018427387904) (k0 : Int) (h0 : 0 ≤ k0) (h1 : k0 + c * l.length ≤ B) :
    Ev (fun k => g k l k0 0) (k0 + c * l.length, markL mk c k0 l) := by
  have key : ∀ (rest pre : List α) (k0 : Int), 0 ≤ k0 → k0 + c * rest.length ≤ B → pre.length + rest.length ≤ 4611686018427387904 → Ev (fun k => g k (pre ++ rest) k0 (pre.length : Int)) (k0 + c * rest.length, pre ++ markL mk c k0 rest) := by
    intro rest
    induction rest with
    | nil =>
      intro pre k0 _ _ _
      refine Ev.step (f := fun _ => some (k0, pre)) (fun k => ?_) (by simpa [markL] using Ev.now _)
      have := he k pre k0
      simpa using this
    | cons x rest ih =>
      intro pre k0 h0 h1 h2
      simp only [List.length_cons] at h1 h2
      have hc : (c : Int) * ((rest.length + 1 : Nat) : Int) = c * rest.length + c := by rw [Int.natCast_add, Int.mul_add]; simp
      rw [hc] at h1
      have hcn : 0 ≤ (c : Int) * (rest.length : Int) := Int.mul_nonneg (by omega) (by omega)
      obtain ⟨K, hK⟩ := hg (pre ++ x :: rest) k0 (pre.length : Int) (by omega) (by simp; omega) h0 (by omega)
      have e := ih (pre ++ [mk k0]) (k0 + c) (by omega) (by omega) (by simp; omega)
      have e2 : (k0 + (c : Int)) + c * rest.length = k0 + c * ((x :: rest).length : Int) := by simp only [List.length_cons]; rw [hc]; omega
      rw [e2] at e
      refine Ev.step2 (f := fun k => g k (pre ++ [mk k0] ++ rest) (k0 + c) ((pre ++ [mk k0]).length : Int)) ⟨K, fun k hk => ?_⟩ (by simpa [markL] using e)
      rw [hK k hk, wrap_id (by omega) (by omega)]
      simp [List.set_append]
  have := key l [] k0 h0 h1 (by simpa using hl)
  simpa using this
theorem held_loop {α : Type} (mk : Int → α) (c : Nat) (l0 l : List α) (k0 : Int) (hl : l = markL mk c k0 l0) (g : Nat → Int → Int → Option Int) (B : Int) (hB : B ≤ 4611686018427387904)
    (hg : ∀ (k1 i : Int), 0 ≤ i → i < (l.length : Int) → 0 ≤ k1 → k1 + c ≤ B → l[i.toNat]? = some (mk k1) → ∃ K, ∀ k, K ≤ k → g (k + 1) k1 i = g k (k1 + c) (wrap64 (i + 1)))
    (he : ∀ k (k1 : Int), g (k + 1) k1 (l.length : Int) = some k1) (hn : l0.length ≤ 4611686018427387904) (h0 : 0 ≤ k0) (h1 : k0 + c * l0.length ≤ B) :
    Ev (fun k => g k k0 0) (k0 + c * l0.length) := by
  have hlen : l.length = l0.length := by rw [hl, markL_length]
  have key : ∀ (rest : List α) (pre : List α) (k1 : Int), l = pre ++ markL mk c k1 rest → 0 ≤ k1 → k1 + c * rest.length ≤ B → Ev (fun k => g k k1 (pre.length : Int)) (k1 + c * rest.length) := by
    intro rest
    induction rest with
    | nil =>
      intro pre k1 h _ _
      refine Ev.step (f := fun _ => some k1) (fun k => ?_) (by simpa using Ev.now _)
      have := he k k1
      rw [h] at this
      simpa [markL] using this
    | cons x rest ih =>
      intro pre k1 h h0 h1
      simp only [List.length_cons] at h1
      have hc : (c : Int) * ((rest.length + 1 : Nat) : Int) = c * rest.length + c := by rw [Int.natCast_add, Int.mul_add]; simp
      rw [hc] at h1
      have hcn : 0 ≤ (c : Int) * (rest.length : Int) := Int.mul_nonneg (by omega) (by omega)
      have hl2 : l.length = pre.length + (rest.length + 1) := by rw [h]; simp [markL_length]
      obtain ⟨K, hK⟩ := hg k1 (pre.length : Int) (by omega) (by omega) h0 (by omega) (by rw [h]; simp [markL])
      have e := ih (pre ++ [mk k1]) (k1 + c) (by rw [h]; simp [markL]) (by omega) (by omega)
      have e2 : (k1 + (c : Int)) + c * rest.length = k1 + c * ((x :: rest).length : Int) := by simp only [List.length_cons]; rw [hc]; omega
      rw [e2] at e
      refine Ev.step2 (f := fun k => g k (k1 + c) ((pre ++ [mk k1]).length : Int)) ⟨K, fun k hk => ?_⟩ e
      rw [hK k hk, wrap_id (by omega) (by omega)]
      simp
  exact key l0 [] k0 (by simpa using hl) h0 h1
theorem Ev.pos {α : Type} {c : Prop} [Decidable c] {f g : Nat → Option α} {r : α} (h : c) (e : Ev f r) : Ev (fun k => if c then f k else g k) r := by simp only [if_pos h]; exact e
theorem Ev.neg {α : Type} {c : Prop} [Decidable c] {f g : Nat → Option α} {r : α} (h : ¬ c) (e : Ev g r) : Ev (fun k => if c then f k else g k) r := by simp only [if_neg h]; exact e
theorem Ev.get {α β : Type} {f : Nat → α → Option β} {a : α} {r : β} (e : Ev (fun n => f n a) r) : Ev (fun n => (some a).bind (f n)) r := e

def conv_Field (x : S56) : S57 := ⟨x.f0, x.f1⟩
theorem toFieldS_ev (l : List S56) (hn : l.length ≤ 1048576) : Ev (fun k => laws_toFieldS.f k l) (l.map conv_Field) := by
  have e := map_loop z56 conv_Field l (by omega) (fun k => laws_toFieldS.l0 k l) (fun k x3 i => rfl) z57
  refine Ev.mp e (fun k => ?_)
  unfold laws_toFieldS.f
  rw [if_pos (by omega), if_pos (by omega), Int.toNat_natCast]

theorem eqField_self (x : S57) : laws_eqField.f x.f0 x.f1 x.f0 x.f1 = some true := by simp [laws_eqField.f]
theorem eqFieldS_self (l : List S57) (hn : l.length ≤ 4611686018427387904) : Ev (fun k => laws_eqFieldS.f k l l) true := by
  have e := same_loop l hn (fun k => laws_eqFieldS.l0 k l l) (fun k i h0 h1 => by
    simp only [laws_eqFieldS.l0]
    rw [if_pos h1, if_pos h0, if_pos h1, eqField_self, Option.bind_some, if_pos rfl]) (fun k => by
    simp only [laws_eqFieldS.l0]
    rw [if_neg (by omega)])
  refine Ev.mp e (fun k => ?_)
  unfold laws_eqFieldS.f
  rw [if_pos rfl]

def tot_Field : List S56 → Nat
  | [] => 0
  | x :: r => 1 + (x.f0.size + x.f1.size) + tot_Field r
theorem tot_Field_len (l : List S56) : l.length ≤ tot_Field l := by
  induction l with
  | nil => simp
  | cons x r ih => simp only [List.length_cons, tot_Field]; omega
theorem szField_some (x : S56) (n : Int) (hn0 : 0 ≤ n) (hn : n ≤ 1048576) (h0 : x.f0.size ≤ maxLen) (h1 : x.f1.size ≤ maxLen) : ∃ r, laws_szField.f x.f0 x.f1 n = some r ∧ (¬ r < 0 → r = n - ((x.f0.size : Int) + (x.f1.size : Int))) := by
  unfold laws_szField.f
  unfold maxLen at h0 h1
  rw [wrap_id (n := n - (x.f0.size : Int)) (by omega) (by omega)]
  by_cases g0 : n - (x.f0.size : Int) < 0
  · rw [if_pos g0]
    exact ⟨_, rfl, fun h => absurd (show (-1 : Int) < 0 by decide) h⟩
  · rw [if_neg g0]
    rw [wrap_id (n := n - (x.f0.size : Int) - (x.f1.size : Int)) (by omega) (by omega)]
    by_cases g1 : n - (x.f0.size : Int) - (x.f1.size : Int) < 0
    · rw [if_pos g1]
      exact ⟨_, rfl, fun h => absurd (show (-1 : Int) < 0 by decide) h⟩
    · rw [if_neg g1]
      exact ⟨_, rfl, fun _ => by omega⟩
theorem szFieldS_ev (l : List S56) (hl : l.length ≤ 140737488355328) (hs : ∀ x ∈ l, x.f0.size ≤ maxLen ∧ x.f1.size ≤ maxLen) (n0 : Int) (hn0 : 0 ≤ n0) (hn1 : n0 ≤ 1048576) : ∃ r, Ev (fun k => laws_szFieldS.f k l n0) r ∧ (¬ r < 0 → r = n0 - tot_Field l) := by
  have key : ∀ (rest pre : List S56) (n : Int), l = pre ++ rest → 0 ≤ n → n ≤ 1048576 → ∃ r, Ev (fun k => laws_szFieldS.l0 k l n (pre.length : Int)) r ∧ (¬ r < 0 → r = n + rest.length - tot_Field rest) := by
    intro rest
    induction rest with
    | nil =>
      intro pre n h h0 h1
      refine ⟨n, Ev.step (f := fun _ => some n) (fun k => ?_) (Ev.now _), fun _ => by simp [tot_Field]⟩
      simp only [laws_szFieldS.l0]
      rw [if_neg (by rw [h]; simp)]
    | cons x rest ih =>
      intro pre n h h0 h1
      have hl2 : l.length = pre.length + (rest.length + 1) := by rw [h]; simp
      have hx : rd_T56 l (pre.length : Int) = x := by unfold rd_T56; rw [h]; simp
      obtain ⟨q, hq, hq2⟩ := szField_some x n h0 h1 (hs x (by rw [h]; simp)).1 (hs x (by rw [h]; simp)).2
      by_cases hneg : q < 0
      · refine ⟨-1, Ev.step (f := fun _ => some (-1)) (fun k => ?_) (Ev.now _), fun h => absurd (show (-1 : Int) < 0 by decide) h⟩
        simp only [laws_szFieldS.l0]
        rw [if_pos (by omega), if_pos (by omega), hx, hq, Option.bind_some, if_pos hneg]
      · obtain ⟨r, hr, hr2⟩ := ih (pre ++ [x]) q (by simp [h]) (by omega) (by have := hq2 hneg; omega)
        refine ⟨r, Ev.step (f := fun k => laws_szFieldS.l0 k l q ((pre ++ [x]).length : Int)) (fun k => ?_) hr, fun h => ?_⟩
        · simp only [laws_szFieldS.l0]
          rw [if_pos (by omega), if_pos (by omega), hx, hq, Option.bind_some, if_neg hneg, wrap_id (by omega) (by omega)]
          simp
        · rw [hr2 h, hq2 hneg]
          simp only [tot_Field, List.length_cons]
          omega
  by_cases hneg : n0 - (l.length : Int) < 0
  · refine ⟨-1, Ev.mp (Ev.now _) (fun k => ?_), fun h => absurd (show (-1 : Int) < 0 by decide) h⟩
    unfold laws_szFieldS.f
    rw [wrap_id (by omega) (by omega), if_pos hneg]
  · obtain ⟨r, hr, hr2⟩ := key l [] (n0 - l.length) rfl (by omega) (by omega)
    refine ⟨r, Ev.mp hr (fun k => ?_), fun h => by rw [hr2 h]; omega⟩
    unfold laws_szFieldS.f
    rw [wrap_id (by omega) (by omega), if_neg hneg]
    rfl

def fieldsEq : List S57 → List S57 → Bool
  | [], [] => true
  | x :: r, y :: q => (x.f0.toList == y.f0.toList && x.f1.toList == y.f1.toList) && fieldsEq r q
  | _, _ => false
theorem fieldsEq_len : ∀ (a b : List S57), a.length ≠ b.length → fieldsEq a b = false
  | [], [], h => absurd rfl h
  | [], _ :: _, _ => rfl
  | _ :: _, [], _ => rfl
  | x :: r, y :: q, h => by
    unfold fieldsEq
    rw [fieldsEq_len r q (by simp only [List.length_cons] at h; omega)]; simp
theorem spec_Same_ev0 (a b : List S57) (ha : a.length ≤ 4611686018427387904) : Ev (fun k => spec_SameFields.f k a b) (fieldsEq a b) := by
  by_cases hab : a.length = b.length
  · have key : ∀ (r q pre1 pre2 : List S57), a = pre1 ++ r → b = pre2 ++ q → pre1.length = pre2.length → Ev (fun k => spec_SameFields.l0 k a b (pre1.length : Int)) (fieldsEq r q) := by
      intro r
      induction r with
      | nil =>
        intro q pre1 pre2 h1 h2 h3
        have l1 := len_mid h1
        have l2 := len_mid h2
        simp only [List.length_nil] at l1
        obtain rfl : q = [] := List.eq_nil_of_length_eq_zero (by omega)
        refine Ev.step (f := fun _ => some true) (fun k => ?_) (by simpa [fieldsEq] using Ev.now _)
        simp only [spec_SameFields.l0]
        rw [if_neg (by omega)]
      | cons x r ih =>
        intro q pre1 pre2 h1 h2 h3
        have l1 := len_mid h1
        have l2 := len_mid h2
        simp only [List.length_cons] at l1
        match q, h2, l2 with
        | [], h2, l2 => simp only [List.length_nil] at l2; omega
        | y :: q, h2, l2 =>
          simp only [List.length_cons] at l2
          have hx : rd_T57 a (pre1.length : Int) = x := getD_mid h1
          have hy : rd_T57 b (pre1.length : Int) = y := by rw [h3]; exact getD_mid h2
          have hw := len_step pre1 x (by omega)
          by_cases e : (!(x.f0.toList == y.f0.toList) || !(x.f1.toList == y.f1.toList)) = true
          · have e2 : (x.f0.toList == y.f0.toList && x.f1.toList == y.f1.toList) = false := by
              revert e; cases (x.f0.toList == y.f0.toList) <;> cases (x.f1.toList == y.f1.toList) <;> simp
            refine Ev.step (f := fun _ => some false) (fun k => ?_) (by unfold fieldsEq; rw [e2]; exact Ev.now _)
            simp only [spec_SameFields.l0]
            rw [if_pos (by omega), if_pos (by omega), if_pos (by omega), hx, hy, if_pos e]
          · have e2 : (x.f0.toList == y.f0.toList && x.f1.toList == y.f1.toList) = true := by
              revert e; cases (x.f0.toList == y.f0.toList) <;> cases (x.f1.toList == y.f1.toList) <;> simp
            refine Ev.step (f := fun k => spec_SameFields.l0 k a b ((pre1 ++ [x]).length : Int)) (fun k => ?_) (by unfold fieldsEq; rw [e2]; exact ih q (pre1 ++ [x]) (pre2 ++ [y]) (by simp [h1]) (by simp [h2]) (by simp [h3]))
            simp only [spec_SameFields.l0]
            rw [if_pos (by omega), if_pos (by omega), if_pos (by omega), hx, hy, if_neg e, hw]
    refine Ev.mp (key a b [] [] rfl rfl rfl) (fun k => ?_)
    unfold spec_SameFields.f
    rw [if_pos (by omega)]
    rfl
  · rw [fieldsEq_len a b hab]
    refine Ev.mp (Ev.now _) (fun k => ?_)
    unfold spec_SameFields.f
    rw [if_neg (by omega)]
theorem impl_Same_ev0 (a b : List S57) (ha : a.length ≤ 4611686018427387904) : Ev (fun k => impl_Field.f k a b) (fieldsEq a b) := by
  by_cases hab : a.length = b.length
  · have key : ∀ (r q pre1 pre2 : List S57), a = pre1 ++ r → b = pre2 ++ q → pre1.length = pre2.length → Ev (fun k => impl_Field.l0 k a b (a.length : Int) (pre1.length : Int)) (fieldsEq r q) := by
      intro r
      induction r with
      | nil =>
        intro q pre1 pre2 h1 h2 h3
        have l1 := len_mid h1
        have l2 := len_mid h2
        simp only [List.length_nil] at l1
        obtain rfl : q = [] := List.eq_nil_of_length_eq_zero (by omega)
        refine Ev.step (f := fun _ => some true) (fun k => ?_) (by simpa [fieldsEq] using Ev.now _)
        simp only [impl_Field.l0]
        rw [if_neg (by omega)]
      | cons x r ih =>
        intro q pre1 pre2 h1 h2 h3
        have l1 := len_mid h1
        have l2 := len_mid h2
        simp only [List.length_cons] at l1
        match q, h2, l2 with
        | [], h2, l2 => simp only [List.length_nil] at l2; omega
        | y :: q, h2, l2 =>
          simp only [List.length_cons] at l2
          have hx : rd_T57 a (pre1.length : Int) = x := getD_mid h1
          have hy : rd_T57 b (pre1.length : Int) = y := by rw [h3]; exact getD_mid h2
          have hw := len_step pre1 x (by omega)
          by_cases e : (!(x.f0.toList == y.f0.toList) || !(x.f1.toList == y.f1.toList)) = true
          · have e2 : (x.f0.toList == y.f0.toList && x.f1.toList == y.f1.toList) = false := by
              revert e; cases (x.f0.toList == y.f0.toList) <;> cases (x.f1.toList == y.f1.toList) <;> simp
            refine Ev.step (f := fun _ => some false) (fun k => ?_) (by unfold fieldsEq; rw [e2]; exact Ev.now _)
            simp only [impl_Field.l0]
            rw [if_pos (by omega), if_pos (by omega), if_pos (by omega), if_pos (by omega), hx, hy, if_pos e]
          · have e2 : (x.f0.toList == y.f0.toList && x.f1.toList == y.f1.toList) = true := by
              revert e; cases (x.f0.toList == y.f0.toList) <;> cases (x.f1.toList == y.f1.toList) <;> simp
            refine Ev.step (f := fun k => impl_Field.l0 k a b (a.length : Int) ((pre1 ++ [x]).length : Int)) (fun k => ?_) (by unfold fieldsEq; rw [e2]; exact ih q (pre1 ++ [x]) (pre2 ++ [y]) (by simp [h1]) (by simp [h2]) (by simp [h3]))
            simp only [impl_Field.l0]
            rw [if_pos (by omega), if_pos (by omega), if_pos (by omega), if_pos (by omega), hx, hy, if_neg e, hw]
    refine Ev.mp (key a b [] [] rfl rfl rfl) (fun k => ?_)
    unfold impl_Field.f
    rw [if_pos (by omega)]
    rfl
  · rw [fieldsEq_len a b hab]
    refine Ev.mp (Ev.now _) (fun k => ?_)
    unfold impl_Field.f
    rw [if_neg (by omega)]
theorem spec_Same_ev (a b : List S57) (ha : a.length ≤ 4611686018427387904) : Ev (fun k => spec_SameFields.f k a b) (fieldsEq a b) := spec_Same_ev0 a b ha
theorem impl_Same_ev (a b : List S57) (ha : a.length ≤ 4611686018427387904) : Ev (fun k => impl_SameFields.f k a b) (fieldsEq a b) := by
  unfold impl_SameFields.f
  exact Ev.bind (impl_Same_ev0 a b ha) (Ev.now _)

theorem FnExactSameFields : laws_FnExactSameFields.Pure := by
  intro a b ha hga hb hgb
  unfold laws_FnExactSameFields.f
  apply Ev.rounds
  obtain ⟨r, hr, hr2⟩ := szFieldS_ev a (by omega) hga 1048576 (by omega) (by omega)
  refine Ev.bind hr ?_
  by_cases hneg : r < 0
  · exact Ev.pos hneg (Ev.now _)
  · refine Ev.neg hneg ?_
    have ht := tot_Field_len a
    have h1 := hr2 hneg
    have hn : a.length ≤ 1048576 := by omega
    obtain ⟨q, hq, hq2⟩ := szFieldS_ev b (by omega) hgb r (by omega) (by omega)
    refine Ev.bind hq ?_
    by_cases hneg2 : q < 0
    · exact Ev.pos hneg2 (Ev.now _)
    · refine Ev.neg hneg2 ?_
      have ht2 := tot_Field_len b
      have h2 := hq2 hneg2
      have hn2 : b.length ≤ 1048576 := by omega
      have hm : (a.map conv_Field).length ≤ 1048576 := by simpa using hn
      have hm2 : (b.map conv_Field).length ≤ 1048576 := by simpa using hn2
      refine Ev.bind (toFieldS_ev a hn) (Ev.bind (toFieldS_ev b hn2) (Ev.bind (spec_Same_ev _ _ (by omega)) (Ev.bind (toFieldS_ev a hn) (Ev.bind (toFieldS_ev b hn2) (Ev.bind (impl_Same_ev _ _ (by omega)) (Ev.neg (by simp) ?_))))))
      refine Ev.bind (toFieldS_ev a hn) (Ev.bind (eqFieldS_self _ (by omega)) (Ev.pos rfl ?_))
      exact Ev.bind (toFieldS_ev b hn2) (Ev.bind (eqFieldS_self _ (by omega)) (Ev.pos rfl (Ev.now _)))

end Go.Proofs.Ytijojcojpbfmlaa.Pure
