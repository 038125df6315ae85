/- The pure part of FnExactAreFields: for every input within the statement's bounds the printed law answers true. Conditions: the statement's own bounds alone. -/
import Derived.Test.YtmppjfnojkgllacDoorPreFnExactAreFields
import Derived.Test.YtmppjfnojkgllacDoorRFnExactAreFieldsx1
import Derived.Test.YtmppjfnojkgllacDoorRFnExactAreFieldsx2
import Derived.Test.YtmppjfnojkgllacDoorRFnExactAreFieldsx3
import Derived.Test.YtmppjfnojkgllacDoorRFnExactAreFieldsx4
import Derived.Test.YtmppjfnojkgllacDoorRFnExactAreFieldsx5
import Derived.OpenShut
namespace Go.Proofs.YtmppjfnojkgllacDoor.Pure
open Go.RowKit Go.Proofs.YtmppjfnojkgllacDoor.RFnExactAreFields Go.Proofs.YtmppjfnojkgllacDoorW.PrintWords Go.Proofs.YtmppjfnojkgllacDoorW.PrintLast
set_option linter.unusedSimpArgs false
set_option linter.unusedVariables false

/-! ### Texts as lists of numbers -/
def InB (l : List Int) : Prop := ∀ x ∈ l, 0 ≤ x ∧ x ≤ 255
theorem InB_nil : InB [] := fun x hx => by simp at hx
theorem InB_cons {b : Int} {l : List Int} : InB (b :: l) ↔ (0 ≤ b ∧ b ≤ 255) ∧ InB l := by simp [InB]
theorem InB_append {l m : List Int} : InB (l ++ m) ↔ InB l ∧ InB m := by
  simp only [InB, List.mem_append]
  exact ⟨fun h => ⟨fun x hx => h x (.inl hx), fun x hx => h x (.inr hx)⟩, fun h x hx => hx.elim (h.1 x) (h.2 x)⟩
theorem InB_take {l : List Int} (n : Nat) (h : InB l) : InB (l.take n) := fun x hx => h x (List.mem_of_mem_take hx)
theorem InB_drop {l : List Int} (n : Nat) (h : InB l) : InB (l.drop n) := fun x hx => h x (List.mem_of_mem_drop hx)
theorem InB_bytes (s : ByteArray) : InB (bytesOf s) := by
  intro x hx
  unfold bytesOf at hx
  obtain ⟨b, _, rfl⟩ := List.mem_map.1 hx
  have := b.toNat_lt
  omega
theorem strOf_bytesOf (s : ByteArray) : strOfNums (bytesOf s) = s := by
  obtain ⟨⟨l⟩⟩ := s
  unfold strOfNums bytesOf
  simp only [List.map_map]
  congr 2
  exact (List.map_congr_left (fun b _ => by simp)).trans (List.map_id l)
theorem bytesOf_strOf {l : List Int} (h : InB l) : bytesOf (strOfNums l) = l := by
  unfold strOfNums bytesOf
  simp only [List.map_map]
  refine (List.map_congr_left (fun x hx => ?_)).trans (List.map_id l)
  have := h x hx
  simp only [Function.comp_apply, id, UInt8.toNat_ofNat']
  omega
theorem bytesOf_inj {s t : ByteArray} (h : bytesOf s = bytesOf t) : s = t := by rw [← strOf_bytesOf s, h, strOf_bytesOf]
theorem bytesOf_append (s t : ByteArray) : bytesOf (s ++ t) = bytesOf s ++ bytesOf t := by
  unfold bytesOf
  rw [ByteArray.data_append, Array.toList_append, List.map_append]
theorem bytesOf_extract (s : ByteArray) (a b : Nat) : bytesOf (s.extract a b) = ((bytesOf s).take b).drop a := by
  unfold bytesOf
  rw [ByteArray.data_extract, Array.toList_extract, List.extract_eq_take_drop, List.map_take, List.map_drop, List.take_drop]
  rcases Nat.le_total a b with h | h
  · rw [Nat.add_sub_cancel' h]
  · rw [Nat.sub_eq_zero_of_le h, List.drop_eq_nil_of_le (by simp; omega), List.drop_eq_nil_of_le (by simp; omega)]
theorem toList_iff {s t : ByteArray} : s.toList = t.toList ↔ s = t := by
  rw [ByteArray.toList_eq, ByteArray.toList_eq]
  constructor
  · intro h
    obtain ⟨⟨l⟩⟩ := s
    obtain ⟨⟨m⟩⟩ := t
    simp only at h
    rw [h]
  · rintro rfl; rfl
theorem size_bytes (s : ByteArray) : (s.size : Int) = ((bytesOf s).length : Int) := by rw [bytesOf_length]
theorem getD_mid {α : Type} {l pre rest : List α} {b d : α} (h : l = pre ++ b :: rest) : l.getD ((pre.length : Int)).toNat d = b := by subst h; simp
theorem len_mid {α : Type} {l pre rest : List α} (h : l = pre ++ rest) : l.length = pre.length + rest.length := by rw [h, List.length_append]
theorem rd_mid {l pre rest : List Int} {b : Int} (h : l = pre ++ b :: rest) : rd l (pre.length : Int) = b := by
  subst h
  unfold rd
  simp
theorem bt_mid {s : ByteArray} {pre rest : List Int} {b : Int} (h : bytesOf s = pre ++ b :: rest) : bt s (pre.length : Int) = b := by
  rw [← rd_bytesOf]; exact rd_mid h
theorem size_mid {s : ByteArray} {pre rest : List Int} (h : bytesOf s = pre ++ rest) : (s.size : Int) = (pre.length : Int) + (rest.length : Int) := by
  rw [size_bytes, h]; simp
theorem mid_step {l pre rest : List Int} {b : Int} (h : l = pre ++ b :: rest) : l = (pre ++ [b]) ++ rest := by simp [h]
theorem wrap_id {n : Int} (h0 : -9223372036854775808 ≤ n) (h1 : n ≤ 9223372036854775807) : wrap64 n = n := by unfold wrap64; omega
theorem len_step {α : Type} (pre : List α) (b : α) (h : pre.length ≤ 9223372036854775000) : wrap64 ((pre.length : Int) + 1) = ((pre ++ [b]).length : Int) := by
  rw [wrap_id (by omega) (by omega)]; simp
/-! ### Loops over lists -/
theorem map_loop {α β : Type} (da : α) (conv : α → β) (x0 : List α) (hn : x0.length ≤ 4611686018427387904) (g : Nat → List β → Int → Option (List β))
    (hg : ∀ k x3 i, g (k + 1) x3 i = if i < (x0.length : Int) then (if 0 ≤ i then (if i < (x3.length : Int) then g k (x3.set (i : Int).toNat (conv (x0.getD i.toNat da))) (wrap64 (i + 1)) else none) else none) else some x3) (z : β) :
    Ev (fun k => g k (List.replicate x0.length z) 0) (x0.map conv) := by
  have key : ∀ rest pre, x0 = pre ++ rest → Ev (fun k => g k (pre.map conv ++ List.replicate rest.length z) (pre.length : Int)) (x0.map conv) := by
    intro rest
    induction rest with
    | nil =>
      intro pre h
      refine Ev.step (f := fun _ => some (x0.map conv)) (fun k => ?_) (Ev.now _)
      rw [hg, if_neg (by rw [h]; simp)]
      simp [h]
    | cons b rest ih =>
      intro pre h
      have hl : x0.length = pre.length + (rest.length + 1) := by rw [h]; simp
      refine Ev.step (f := fun k => g k ((pre ++ [b]).map conv ++ List.replicate rest.length z) ((pre ++ [b]).length : Int)) (fun k => ?_) (ih (pre ++ [b]) (by simp [h]))
      rw [hg, if_pos (by omega), if_pos (by omega), if_pos (by simp; omega), wrap_id (by omega) (by omega)]
      have e1 : x0.getD ((pre.length : Int)).toNat da = b := by rw [h]; simp
      rw [e1]
      congr 1
      · simp [List.replicate_succ, List.set_append]
      · simp
  exact key x0 [] rfl
theorem same_loop {α : Type} (a : List α) (hn : a.length ≤ 4611686018427387904) (g : Nat → Int → Option Bool)
    (hg : ∀ k i, 0 ≤ i → i < (a.length : Int) → g (k + 1) i = g k (wrap64 (i + 1))) (he : ∀ k, g (k + 1) (a.length : Int) = some true) : Ev (fun k => g k 0) true := by
  have key : ∀ d i : Nat, i + d = a.length → Ev (fun k => g k (i : Int)) true := by
    intro d
    induction d with
    | zero => intro i h; obtain rfl : i = a.length := by omega
              exact Ev.step he (Ev.now _)
    | succ d ih =>
      intro i h
      refine Ev.step (f := fun k => g k ((i + 1 : Nat) : Int)) (fun k => ?_) (ih (i + 1) (by omega))
      rw [hg k i (by omega) (by omega), wrap_id (by omega) (by omega)]; rfl
  exact key a.length 0 (by omega)
theorem Ev.mp {α : Type} {g f : Nat → Option α} {r : α} (h : Ev f r) (e : ∀ k, g k = f k) : Ev g r := Ev.congr e h
theorem Ev.step2 {α : Type} {g f : Nat → Option α} {r : α} (h : ∃ K, ∀ k, K ≤ k → g (k + 1) = f k) (e : Ev f r) : Ev g r := by
  obtain ⟨K, hK⟩ := h
  obtain ⟨K', hK'⟩ := e
  refine ⟨max K K' + 1, fun k hk => ?_⟩
  obtain ⟨k, rfl⟩ : ∃ m, k = m + 1 := ⟨k - 1, by omega⟩
  rw [hK k (by omega), hK' k (by omega)]
/-- Every element turned into the next of a row of marks. -/
def markL {α : Type} (mk : Int → α) (c : Nat) : Int → List α → List α
  | _, [] => []
  | k, _ :: r => mk k :: markL mk c (k + c) r
theorem markL_length {α : Type} (mk : Int → α) (c : Nat) (l : List α) : ∀ k, (markL mk c k l).length = l.length := by
  induction l with
  | nil => intro k; rfl
  | cons x r ih => intro k; simp [markL, ih]
theorem mark_loop {α : Type} (mk : Int → α) (c : Nat) (g : Nat → List α → Int → Int → Option (Int × List α)) (B : Int) (hB : B ≤ 4611686018427387904)
    (hg : ∀ (l : List α) (k0 i : Int), 0 ≤ i → i < (l.length : Int) → 0 ≤ k0 → k0 + c ≤ B → ∃ K, ∀ k, K ≤ k → g (k + 1) l k0 i = g k (l.set i.toNat (mk k0)) (k0 + c) (wrap64 (i + 1)))
    (he : ∀ k (l : List α) (k0 : Int), g (k + 1) l k0 (l.length : Int) = some (k0, l)) (l : List α) (hl : l.length ≤ 4611686018427387904) (k0 : Int) (h0 : 0 ≤ k0) (h1 : k0 + c * l.length ≤ B) :
    Ev (fun k => g k l k0 0) (k0 + c * l.length, markL mk c k0 l) := by
  have key : ∀ (rest pre : List α) (k0 : Int), 0 ≤ k0 → k0 + c * rest.length ≤ B → pre.length + rest.length ≤ 4611686018427387904 → Ev (fun k => g k (pre ++ rest) k0 (pre.length : Int)) (k0 + c * rest.length, pre ++ markL mk c k0 rest) := by
    intro rest
    induction rest with
    | nil =>
      intro pre k0 _ _ _
      refine Ev.step (f := fun _ => some (k0, pre)) (fun k => ?_) (by simpa [markL] using Ev.now _)
      have := he k pre k0
      simpa using this
    | cons x rest ih =>
      intro pre k0 h0 h1 h2
      simp only [List.length_cons] at h1 h2
      have hc : (c : Int) * ((rest.length + 1 : Nat) : Int) = c * rest.length + c := by rw [Int.natCast_add, Int.mul_add]; simp
      rw [hc] at h1
      have hcn : 0 ≤ (c : Int) * (rest.length : Int) := Int.mul_nonneg (by omega) (by omega)
      obtain ⟨K, hK⟩ := hg (pre ++ x :: rest) k0 (pre.length : Int) (by omega) (by simp; omega) h0 (by omega)
      have e := ih (pre ++ [mk k0]) (k0 + c) (by omega) (by omega) (by simp; omega)
      have e2 : (k0 + (c : Int)) + c * rest.length = k0 + c * ((x :: rest).length : Int) := by simp only [List.length_cons]; rw [hc]; omega
      rw [e2] at e
      refine Ev.step2 (f := fun k => g k (pre ++ [mk k0] ++ rest) (k0 + c) ((pre ++ [mk k0]).length : Int)) ⟨K, fun k hk => ?_⟩ (by simpa [markL] using e)
      rw [hK k hk, wrap_id (by omega) (by omega)]
      simp [List.set_append]
  have := key l [] k0 h0 h1 (by simpa using hl)
  simpa using this
theorem held_loop {α : Type} (mk : Int → α) (c : Nat) (l0 l : List α) (k0 : Int) (hl : l = markL mk c k0 l0) (g : Nat → Int → Int → Option Int) (B : Int) (hB : B ≤ 4611686018427387904)
    (hg : ∀ (k1 i : Int), 0 ≤ i → i < (l.length : Int) → 0 ≤ k1 → k1 + c ≤ B → l[i.toNat]? = some (mk k1) → ∃ K, ∀ k, K ≤ k → g (k + 1) k1 i = g k (k1 + c) (wrap64 (i + 1)))
    (he : ∀ k (k1 : Int), g (k + 1) k1 (l.length : Int) = some k1) (hn : l0.length ≤ 4611686018427387904) (h0 : 0 ≤ k0) (h1 : k0 + c * l0.length ≤ B) :
    Ev (fun k => g k k0 0) (k0 + c * l0.length) := by
  have hlen : l.length = l0.length := by rw [hl, markL_length]
  have key : ∀ (rest : List α) (pre : List α) (k1 : Int), l = pre ++ markL mk c k1 rest → 0 ≤ k1 → k1 + c * rest.length ≤ B → Ev (fun k => g k k1 (pre.length : Int)) (k1 + c * rest.length) := by
    intro rest
    induction rest with
    | nil =>
      intro pre k1 h _ _
      refine Ev.step (f := fun _ => some k1) (fun k => ?_) (by simpa using Ev.now _)
      have := he k k1
      rw [h] at this
      simpa [markL] using this
    | cons x rest ih =>
      intro pre k1 h h0 h1
      simp only [List.length_cons] at h1
      have hc : (c : Int) * ((rest.length + 1 : Nat) : Int) = c * rest.length + c := by rw [Int.natCast_add, Int.mul_add]; simp
      rw [hc] at h1
      have hcn : 0 ≤ (c : Int) * (rest.length : Int) := Int.mul_nonneg (by omega) (by omega)
      have hl2 : l.length = pre.length + (rest.length + 1) := by rw [h]; simp [markL_length]
      obtain ⟨K, hK⟩ := hg k1 (pre.length : Int) (by omega) (by omega) h0 (by omega) (by rw [h]; simp [markL])
      have e := ih (pre ++ [mk k1]) (k1 + c) (by rw [h]; simp [markL]) (by omega) (by omega)
      have e2 : (k1 + (c : Int)) + c * rest.length = k1 + c * ((x :: rest).length : Int) := by simp only [List.length_cons]; rw [hc]; omega
      rw [e2] at e
      refine Ev.step2 (f := fun k => g k (k1 + c) ((pre ++ [mk k1]).length : Int)) ⟨K, fun k hk => ?_⟩ e
      rw [hK k hk, wrap_id (by omega) (by omega)]
      simp
  exact key l0 [] k0 (by simpa using hl) h0 h1
theorem Ev.pos {α : Type} {c : Prop} [Decidable c] {f g : Nat → Option α} {r : α} (h : c) (e : Ev f r) : Ev (fun k => if c then f k else g k) r := by simp only [if_pos h]; exact e
theorem Ev.neg {α : Type} {c : Prop} [Decidable c] {f g : Nat → Option α} {r : α} (h : ¬ c) (e : Ev g r) : Ev (fun k => if c then f k else g k) r := by simp only [if_neg h]; exact e
theorem Ev.get {α β : Type} {f : Nat → α → Option β} {a : α} {r : β} (e : Ev (fun n => f n a) r) : Ev (fun n => (some a).bind (f n)) r := e

def conv_Field (x : S75) : S57 := ⟨x.f0, x.f1⟩
theorem toFieldS_ev (l : List S75) (hn : l.length ≤ 1048576) : Ev (fun k => laws_toFieldS.f k l) (l.map conv_Field) := by
  have e := map_loop z75 conv_Field l (by omega) (fun k => laws_toFieldS.l0 k l) (fun k x3 i => rfl) z57
  refine Ev.mp e (fun k => ?_)
  unfold laws_toFieldS.f
  rw [if_pos (by omega), if_pos (by omega), Int.toNat_natCast]

theorem eqField_self (x : S57) : laws_eqField.f x.f0 x.f1 x.f0 x.f1 = some true := by simp [laws_eqField.f]
theorem eqFieldS_self (l : List S57) (hn : l.length ≤ 4611686018427387904) : Ev (fun k => laws_eqFieldS.f k l l) true := by
  have e := same_loop l hn (fun k => laws_eqFieldS.l0 k l l) (fun k i h0 h1 => by
    simp only [laws_eqFieldS.l0]
    rw [if_pos h1, if_pos h0, if_pos h1, eqField_self, Option.bind_some, if_pos rfl]) (fun k => by
    simp only [laws_eqFieldS.l0]
    rw [if_neg (by omega)])
  refine Ev.mp e (fun k => ?_)
  unfold laws_eqFieldS.f
  rw [if_pos rfl]

def tot_Field : List S75 → Nat
  | [] => 0
  | x :: r => 1 + (x.f0.size + x.f1.size) + tot_Field r
theorem tot_Field_len (l : List S75) : l.length ≤ tot_Field l := by
  induction l with
  | nil => simp
  | cons x r ih => simp only [List.length_cons, tot_Field]; omega
theorem szField_some (x : S75) (n : Int) (hn0 : 0 ≤ n) (hn : n ≤ 1048576) (h0 : x.f0.size ≤ maxLen) (h1 : x.f1.size ≤ maxLen) : ∃ r, laws_szField.f x.f0 x.f1 n = some r ∧ (¬ r < 0 → r = n - ((x.f0.size : Int) + (x.f1.size : Int))) := by
  unfold laws_szField.f
  unfold maxLen at h0 h1
  rw [wrap_id (n := n - (x.f0.size : Int)) (by omega) (by omega)]
  by_cases g0 : n - (x.f0.size : Int) < 0
  · rw [if_pos g0]
    exact ⟨_, rfl, fun h => absurd (show (-1 : Int) < 0 by decide) h⟩
  · rw [if_neg g0]
    rw [wrap_id (n := n - (x.f0.size : Int) - (x.f1.size : Int)) (by omega) (by omega)]
    by_cases g1 : n - (x.f0.size : Int) - (x.f1.size : Int) < 0
    · rw [if_pos g1]
      exact ⟨_, rfl, fun h => absurd (show (-1 : Int) < 0 by decide) h⟩
    · rw [if_neg g1]
      exact ⟨_, rfl, fun _ => by omega⟩
theorem szFieldS_ev (l : List S75) (hl : l.length ≤ 140737488355328) (hs : ∀ x ∈ l, x.f0.size ≤ maxLen ∧ x.f1.size ≤ maxLen) (n0 : Int) (hn0 : 0 ≤ n0) (hn1 : n0 ≤ 1048576) : ∃ r, Ev (fun k => laws_szFieldS.f k l n0) r ∧ (¬ r < 0 → r = n0 - tot_Field l) := by
  have key : ∀ (rest pre : List S75) (n : Int), l = pre ++ rest → 0 ≤ n → n ≤ 1048576 → ∃ r, Ev (fun k => laws_szFieldS.l0 k l n (pre.length : Int)) r ∧ (¬ r < 0 → r = n + rest.length - tot_Field rest) := by
    intro rest
    induction rest with
    | nil =>
      intro pre n h h0 h1
      refine ⟨n, Ev.step (f := fun _ => some n) (fun k => ?_) (Ev.now _), fun _ => by simp [tot_Field]⟩
      simp only [laws_szFieldS.l0]
      rw [if_neg (by rw [h]; simp)]
    | cons x rest ih =>
      intro pre n h h0 h1
      have hl2 : l.length = pre.length + (rest.length + 1) := by rw [h]; simp
      have hx : rd_T75 l (pre.length : Int) = x := by unfold rd_T75; rw [h]; simp
      obtain ⟨q, hq, hq2⟩ := szField_some x n h0 h1 (hs x (by rw [h]; simp)).1 (hs x (by rw [h]; simp)).2
      by_cases hneg : q < 0
      · refine ⟨-1, Ev.step (f := fun _ => some (-1)) (fun k => ?_) (Ev.now _), fun h => absurd (show (-1 : Int) < 0 by decide) h⟩
        simp only [laws_szFieldS.l0]
        rw [if_pos (by omega), if_pos (by omega), hx, hq, Option.bind_some, if_pos hneg]
      · obtain ⟨r, hr, hr2⟩ := ih (pre ++ [x]) q (by simp [h]) (by omega) (by have := hq2 hneg; omega)
        refine ⟨r, Ev.step (f := fun k => laws_szFieldS.l0 k l q ((pre ++ [x]).length : Int)) (fun k => ?_) hr, fun h => ?_⟩
        · simp only [laws_szFieldS.l0]
          rw [if_pos (by omega), if_pos (by omega), hx, hq, Option.bind_some, if_neg hneg, wrap_id (by omega) (by omega)]
          simp
        · rw [hr2 h, hq2 hneg]
          simp only [tot_Field, List.length_cons]
          omega
  by_cases hneg : n0 - (l.length : Int) < 0
  · refine ⟨-1, Ev.mp (Ev.now _) (fun k => ?_), fun h => absurd (show (-1 : Int) < 0 by decide) h⟩
    unfold laws_szFieldS.f
    rw [wrap_id (by omega) (by omega), if_pos hneg]
  · obtain ⟨r, hr, hr2⟩ := key l [] (n0 - l.length) rfl (by omega) (by omega)
    refine ⟨r, Ev.mp hr (fun k => ?_), fun h => by rw [hr2 h]; omega⟩
    unfold laws_szFieldS.f
    rw [wrap_id (by omega) (by omega), if_neg hneg]
    rfl

def totS : List ByteArray → Nat
  | [] => 0
  | x :: r => 1 + x.size + totS r
theorem totS_len (l : List ByteArray) : l.length ≤ totS l := by
  induction l with
  | nil => simp
  | cons x r ih => simp only [List.length_cons, totS]; omega
theorem rdS_mid {l pre rest : List ByteArray} {x : ByteArray} (h : l = pre ++ x :: rest) : rdOf ByteArray.empty l (pre.length : Int) = x := getD_mid h

def joinT : List ByteArray → List Int
  | [] => []
  | x :: r => [44, 32] ++ bytesOf x ++ joinT r
def joinI : List ByteArray → List Int
  | [] => []
  | x :: r => bytesOf x ++ joinT r
def joinV (l : List ByteArray) : ByteArray := strOfNums (joinI l)
theorem InB_joinT (l : List ByteArray) : InB (joinT l) := by
  induction l with
  | nil => exact InB_nil
  | cons x r ih =>
    simp only [joinT, InB_append]
    exact ⟨⟨by intro y hy; simp at hy; omega, InB_bytes x⟩, ih⟩
theorem InB_joinI (l : List ByteArray) : InB (joinI l) := by
  cases l with
  | nil => exact InB_nil
  | cons x r => simp only [joinI, InB_append]; exact ⟨InB_bytes x, InB_joinT r⟩
theorem bytesOf_joinV (l : List ByteArray) : bytesOf (joinV l) = joinI l := bytesOf_strOf (InB_joinI l)
theorem joinT_len (l : List ByteArray) : (joinT l).length ≤ 2 * totS l := by
  induction l with
  | nil => simp [joinT]
  | cons x r ih => simp only [joinT, totS, List.length_append, bytesOf_length, List.length_cons, List.length_nil]; omega
theorem joinI_len (l : List ByteArray) : (joinI l).length ≤ 2 * totS l := by
  cases l with
  | nil => simp [joinI]
  | cons x r => have := joinT_len r; simp only [joinI, totS, List.length_append, bytesOf_length]; omega

def valsL (l : List S57) (name : ByteArray) : List ByteArray := (l.filter (fun x => decide (x.f0 = name))).map (·.f1)
def totF2 : List S57 → Nat
  | [] => 0
  | x :: r => 1 + (x.f0.size + x.f1.size) + totF2 r
theorem totF2_len (l : List S57) : l.length ≤ totF2 l := by
  induction l with
  | nil => simp
  | cons x r ih => simp only [List.length_cons, totF2]; omega
theorem vals_tot (l : List S57) (name : ByteArray) : totS (valsL l name) ≤ totF2 l := by
  induction l with
  | nil => simp [valsL, totS]
  | cons x r ih =>
    unfold valsL at ih ⊢
    by_cases h : x.f0 = name
    · simp only [List.filter_cons, h, decide_true, if_true, List.map_cons, totS, totF2]; omega
    · simp only [List.filter_cons, h, decide_false, Bool.false_eq_true, if_false, totF2]; omega
theorem vals_cons_eq (x : S57) (r : List S57) (name : ByteArray) (h : x.f0 = name) : valsL (x :: r) name = x.f1 :: valsL r name := by simp [valsL, h]
theorem vals_cons_ne (x : S57) (r : List S57) (name : ByteArray) (h : x.f0 ≠ name) : valsL (x :: r) name = valsL r name := by simp [valsL, h]
theorem vals_some (l : List S57) (name : ByteArray) : decide (((valsL l name).length : Int) > 0) = l.any (fun y => decide (y.f0 = name)) := by
  induction l with
  | nil => simp [valsL]
  | cons x r ih =>
    by_cases h : x.f0 = name
    · rw [vals_cons_eq x r name h]; simp [h]
    · rw [vals_cons_ne x r name h, ih]; simp [h]
def getV (l : List S57) (name : ByteArray) : ByteArray × Bool := (joinV (valsL l name), l.any (fun y => decide (y.f0 = name)))

theorem totF2_map (l : List S75) : totF2 (l.map conv_Field) = tot_Field l := by
  induction l with
  | nil => rfl
  | cons x r ih => simp only [List.map_cons, totF2, tot_Field, ih]; rfl

def tokB (x : Int) : Bool := decide (97 ≤ x ∧ x ≤ 122) || decide (65 ≤ x ∧ x ≤ 90) || decide (48 ≤ x ∧ x ≤ 57) || ([33, 35, 36, 37, 38, 39, 42, 43, 45, 46, 94, 95, 124, 126, 96] : List Int).contains x
def tokL (l : List Int) : Bool := l.all tokB && decide (1 ≤ (l.length : Int) ∧ (l.length : Int) ≤ 40)
def tokV (s : ByteArray) : Bool := (bytesOf s).all tokB && decide (1 ≤ (s.size : Int) ∧ (s.size : Int) ≤ 40)
theorem tokV_L (s : ByteArray) : tokV s = tokL (bytesOf s) := by unfold tokV tokL; rw [size_bytes]
theorem fin256 {p : Int → Prop} (h : ∀ n : Fin 256, p (n.val : Int)) {b : Int} (h0 : 0 ≤ b) (h1 : b ≤ 255) : p b := by
  have := h ⟨b.toNat, by omega⟩
  rwa [show ((b.toNat : Nat) : Int) = b by omega] at this

def lowerV (s : ByteArray) : ByteArray := strOfNums ((bytesOf s).map lowB)

def rdropI (p : Int → Bool) : List Int → List Int
  | [] => []
  | b :: r => if rdropI p r = [] ∧ p b = true then [] else b :: rdropI p r
def trimP (p : Int → Bool) (l : List Int) : List Int := (rdropI p l).dropWhile p
def blankI (b : Int) : Bool := b == 32 || b == 9
theorem rdropI_concat (p : Int → Bool) (l : List Int) (b : Int) : rdropI p (l ++ [b]) = if p b = true then rdropI p l else l ++ [b] := by
  induction l with
  | nil => by_cases h : p b = true <;> simp [rdropI, h]
  | cons x r ih =>
    by_cases h : p b = true
    · rw [if_pos h] at ih ⊢
      simp only [List.cons_append, rdropI, ih]
    · rw [if_neg h] at ih ⊢
      simp only [List.cons_append, rdropI, ih]
      rw [if_neg (by simp)]
theorem rdropI_eq (p : Int → Bool) (l : List Int) : (l.reverse.dropWhile p).reverse = rdropI p l := by
  obtain ⟨n, hn⟩ : ∃ n, l.length = n := ⟨_, rfl⟩
  induction n generalizing l with
  | zero => obtain rfl := List.eq_nil_of_length_eq_zero hn; rfl
  | succ n ih =>
    rcases List.eq_nil_or_concat l with h | ⟨r, b, h⟩
    · subst h; rfl
    · subst h
      rw [List.concat_eq_append, rdropI_concat, List.reverse_append]
      simp only [List.reverse_cons, List.reverse_nil, List.nil_append, List.singleton_append, List.dropWhile_cons]
      by_cases hb : p b = true
      · rw [if_pos hb, if_pos hb]
        exact ih r (by simp at hn; omega)
      · rw [if_neg hb, if_neg hb]; simp
theorem rdropI_length (p : Int → Bool) (l : List Int) : (rdropI p l).length ≤ l.length := by
  induction l with
  | nil => simp [rdropI]
  | cons b r ih => unfold rdropI; split <;> simp only [List.length_nil, List.length_cons] <;> omega
theorem rdropI_all (p : Int → Bool) (l : List Int) : rdropI p l = [] ↔ ∀ x ∈ l, p x = true := by
  induction l with
  | nil => simp [rdropI]
  | cons b r ih =>
    unfold rdropI
    split
    · rename_i h
      simp only [List.mem_cons, forall_eq_or_imp, true_iff]
      exact ⟨h.2, ih.1 h.1⟩
    · rename_i h
      simp only [List.mem_cons, forall_eq_or_imp, reduceCtorEq, false_iff]
      exact fun g => h ⟨ih.2 g.2, g.1⟩
/-- It is all one which end goes first. -/
theorem drop_rdrop (p : Int → Bool) (l : List Int) : (rdropI p l).dropWhile p = rdropI p (l.dropWhile p) := by
  induction l with
  | nil => rfl
  | cons b r ih =>
    by_cases h : p b = true
    · rw [List.dropWhile_cons_of_pos h]
      by_cases g : rdropI p r = []
      · have e : rdropI p (b :: r) = [] := by unfold rdropI; rw [if_pos ⟨g, h⟩]
        rw [e, ← ih, g]
      · have e : rdropI p (b :: r) = b :: rdropI p r := by rw [rdropI, if_neg (fun z => g z.1)]
        rw [e, List.dropWhile_cons_of_pos h, ih]
    · have e : rdropI p (b :: r) = b :: rdropI p r := by rw [rdropI, if_neg (fun z => h z.2)]
      rw [e, List.dropWhile_cons_of_neg h, List.dropWhile_cons_of_neg h, e]
theorem trimP_length (p : Int → Bool) (l : List Int) : (trimP p l).length ≤ l.length :=
  Nat.le_trans (List.dropWhile_sublist p).length_le (rdropI_length p l)
theorem dropWhile_mem {p : Int → Bool} {l : List Int} {x : Int} (h : x ∈ l.dropWhile p) : x ∈ l := (List.dropWhile_sublist p).subset h
theorem rdropI_mem {p : Int → Bool} {l : List Int} {x : Int} (h : x ∈ rdropI p l) : x ∈ l := by
  rw [← rdropI_eq] at h
  have := dropWhile_mem (List.mem_reverse.1 h)
  exact List.mem_reverse.1 this
theorem trimP_mem {p : Int → Bool} {l : List Int} {x : Int} (h : x ∈ trimP p l) : x ∈ l := rdropI_mem (dropWhile_mem h)
theorem InB_trim {p : Int → Bool} {l : List Int} (h : InB l) : InB (trimP p l) := fun x hx => h x (trimP_mem hx)
theorem rdropI_nil_cons {p : Int → Bool} {l : List Int} : rdropI p (rdropI p l) = rdropI p l := by
  induction l with
  | nil => rfl
  | cons b r ih =>
    by_cases g : rdropI p r = [] ∧ p b = true
    · have e : rdropI p (b :: r) = [] := by rw [rdropI, if_pos g]
      rw [e]; rfl
    · have e : rdropI p (b :: r) = b :: rdropI p r := by rw [rdropI, if_neg g]
      rw [e, rdropI, ih, if_neg g]
theorem dropWhile_idem (p : Int → Bool) (l : List Int) : (l.dropWhile p).dropWhile p = l.dropWhile p := by
  induction l with
  | nil => rfl
  | cons b r ih =>
    by_cases h : p b = true
    · rw [List.dropWhile_cons_of_pos h, ih]
    · rw [List.dropWhile_cons_of_neg h, List.dropWhile_cons_of_neg h]
theorem trimP_idem (p : Int → Bool) (l : List Int) : trimP p (trimP p l) = trimP p l := by
  unfold trimP
  rw [drop_rdrop p (List.dropWhile p (rdropI p l)), dropWhile_idem, ← drop_rdrop, rdropI_nil_cons]
def trimV (s : ByteArray) : ByteArray := strOfNums (trimP blankI (bytesOf s))
theorem bytesOf_trimV (s : ByteArray) : bytesOf (trimV s) = trimP blankI (bytesOf s) := bytesOf_strOf (InB_trim (InB_bytes s))
theorem trimV_size (s : ByteArray) : (trimV s).size ≤ s.size := by
  rw [← bytesOf_length, ← bytesOf_length, bytesOf_trimV]; exact trimP_length _ _

def vB (x : Int) : Bool := decide (32 ≤ x ∧ x ≤ 126) || decide (x = 9)
def nameB (s : ByteArray) : Bool := tokV s && decide (lowerV s = s)
def valB (s : ByteArray) : Bool := (bytesOf s).all vB && (decide ((s.size : Int) ≤ 200) && decide (trimV s = s))
def areV (l : List S57) : Bool := l.all (fun x => nameB x.f0 && valB x.f1) && decide ((l.length : Int) ≤ 24)
theorem beq_toList (s t : ByteArray) : (s.toList == t.toList) = decide (s = t) := by
  by_cases h : s = t
  · rw [h]; simp
  · rw [decide_eq_false h]; exact beq_eq_false_iff_ne.mpr (fun g => h (toList_iff.mp g))
theorem totF2_mem (l : List S57) (x : S57) (h : x ∈ l) : x.f0.size ≤ totF2 l ∧ x.f1.size ≤ totF2 l := by
  induction l with
  | nil => simp at h
  | cons y r ih =>
    simp only [totF2]
    rcases List.mem_cons.1 h with g | g
    · subst g; omega
    · have := ih g; omega

theorem spec_l1In_eq (a b c : Int) : spec_l1In.f a b c = some (decide (b ≤ a ∧ a ≤ c)) := by
  unfold spec_l1In.f
  by_cases h : a ≥ b
  · rw [if_pos h]; congr 1; apply decide_eq_decide.mpr; constructor
    · exact fun x => ⟨h, x⟩
    · exact fun x => x.2
  · rw [if_neg h]; congr 1; symm; apply decide_eq_false; omega

theorem spec_tok_fin : ∀ n : Fin 256, spec_l4Token.f 17 (n.val : Int) = some (tokB (n.val : Int)) := by decide +kernel
theorem spec_tok_ev {b : Int} (h0 : 0 ≤ b) (h1 : b ≤ 255) : Ev (fun k => spec_l4Token.f k b) (tokB b) := Ev.of (fun k => spec_l4Token.mono b k) (k := 17) (fin256 (p := fun b => spec_l4Token.f 17 b = some (tokB b)) spec_tok_fin h0 h1)
theorem spec_IsToken_ev (s : ByteArray) (hs : s.size ≤ 4611686018427387904) : Ev (fun k => spec_IsToken.f k s) (tokV s) := by
  have key : ∀ (rest pre : List Int), bytesOf s = pre ++ rest → Ev (fun k => spec_IsToken.l0 k s (pre.length : Int)) (rest.all tokB && decide (1 ≤ (s.size : Int) ∧ (s.size : Int) ≤ 40)) := by
    intro rest
    induction rest with
    | nil =>
      intro pre h
      have hz := size_mid h
      simp only [List.length_nil] at hz
      refine Ev.step (f := fun _ => some (decide (1 ≤ (s.size : Int) ∧ (s.size : Int) ≤ 40))) (fun k => ?_) (by simpa using Ev.now _)
      simp only [spec_IsToken.l0]
      rw [if_neg (by omega), spec_l1In_eq, Option.bind_some]
    | cons b rest ih =>
      intro pre h
      have hz := size_mid h
      simp only [List.length_cons] at hz
      have hb := bt_mid h
      have hr : 0 ≤ b ∧ b ≤ 255 := by rw [← hb]; exact bt_range s _
      have hw := len_step pre b (by omega)
      refine Ev.step (f := fun k => (spec_l4Token.f k b).bind fun t => if t = true then spec_IsToken.l0 k s ((pre ++ [b]).length : Int) else some false) (fun k => ?_) (Ev.bind (spec_tok_ev hr.1 hr.2) ?_)
      · simp only [spec_IsToken.l0]
        rw [if_pos (by omega), if_pos (by omega), hb, hw]
      · cases e : tokB b with
        | true => simpa [e] using ih (pre ++ [b]) (by simp [h])
        | false => simpa [e] using Ev.now _
  exact key (bytesOf s) [] rfl

theorem spec_Lower_eq (s : ByteArray) (h : s.size ≤ 4611686018427387904) : spec_LowerText.f s = some (lowerV s) := by unfold spec_LowerText.f; rw [if_pos h]; rfl

theorem spec_blank_eq (b : Int) : spec_l4Blank.f b = some (blankI b) := by
  unfold spec_l4Blank.f blankI
  by_cases h : b = 32
  · rw [if_pos h, h]; rfl
  · rw [if_neg h]; simp [h]
theorem spec_Trim_l1 (n : Nat) : ∀ s : ByteArray, s.size ≤ n → s.size ≤ 4611686018427387904 → Ev (fun k => spec_TrimText.l1 k s) (strOfNums (rdropI blankI (bytesOf s))) := by
  induction n with
  | zero =>
    intro s hn hs
    have e : bytesOf s = [] := List.eq_nil_of_length_eq_zero (by rw [bytesOf_length]; omega)
    refine Ev.step (f := fun _ => some s) (fun k => ?_) (by rw [e]; simp only [rdropI]; rw [← e, strOf_bytesOf]; exact Ev.now _)
    simp only [spec_TrimText.l1]
    rw [if_neg (by omega)]
  | succ n ih =>
    intro s hn hs
    rcases List.eq_nil_or_concat (bytesOf s) with h | ⟨r, b, h⟩
    · exact ih s (by rw [← bytesOf_length, h]; simp) hs
    · rw [List.concat_eq_append] at h
      have hz := size_mid h
      simp only [List.length_cons, List.length_nil] at hz
      have hw : wrap64 ((s.size : Int) - 1) = (r.length : Int) := by rw [wrap_id (by omega) (by omega)]; omega
      have hb := bt_mid h
      have hx : bytesOf (s.extract 0 ((r.length : Int) : Int).toNat) = r := by
        rw [bytesOf_extract, h]; simp
      rw [h, rdropI_concat]
      by_cases g : blankI b = true
      · rw [if_pos g]
        refine Ev.step (f := fun k => spec_TrimText.l1 k (s.extract 0 ((r.length : Int) : Int).toNat)) (fun k => ?_) ?_
        · simp only [spec_TrimText.l1]
          rw [if_pos (by omega), hw, if_pos (by omega), if_pos (by omega), hb, spec_blank_eq, Option.bind_some, if_pos g, if_pos (by omega)]
        · have hlen : (s.extract 0 ((r.length : Int) : Int).toNat).size = r.length := by rw [← bytesOf_length, hx]
          have := ih _ (by rw [hlen]; omega) (by rw [hlen]; omega)
          rwa [hx] at this
      · rw [if_neg g]
        refine Ev.step (f := fun _ => some s) (fun k => ?_) (by rw [← h, strOf_bytesOf]; exact Ev.now _)
        simp only [spec_TrimText.l1]
        rw [if_pos (by omega), hw, if_pos (by omega), if_pos (by omega), hb, spec_blank_eq, Option.bind_some, if_neg g]
theorem spec_Trim_l0 (l : List Int) : ∀ s : ByteArray, bytesOf s = l → s.size ≤ 4611686018427387904 → Ev (fun k => spec_TrimText.l0 k s) (strOfNums (rdropI blankI (l.dropWhile blankI))) := by
  induction l with
  | nil =>
    intro s h hs
    have hz := size_mid (pre := []) (rest := []) h
    simp only [List.length_nil] at hz
    refine Ev.step (f := fun k => spec_TrimText.j1 k s) (fun k => ?_) (Ev.step (f := fun k => spec_TrimText.l1 k s) (fun k => by simp only [spec_TrimText.j1]) ?_)
    · simp only [spec_TrimText.l0]
      rw [if_neg (by omega)]
    · have := spec_Trim_l1 _ s (Nat.le_refl _) hs
      rw [h] at this
      exact this
  | cons b r ih =>
    intro s h hs
    have hz := size_mid (pre := []) (rest := b :: r) h
    simp only [List.length_cons, List.length_nil] at hz
    have hb : bt s 0 = b := bt_mid (pre := []) h
    by_cases g : blankI b = true
    · rw [List.dropWhile_cons_of_pos g]
      have hx : bytesOf (s.extract 1 s.size) = r := by
        rw [bytesOf_extract, h, List.take_of_length_le (by simp only [List.length_cons]; omega)]; rfl
      refine Ev.step (f := fun k => spec_TrimText.l0 k (s.extract 1 s.size)) (fun k => ?_) (ih _ hx (by rw [← bytesOf_length, hx]; omega))
      simp only [spec_TrimText.l0]
      rw [if_pos (by omega), if_pos (by omega), hb, spec_blank_eq, Option.bind_some, if_pos g, if_pos (by omega)]
    · rw [List.dropWhile_cons_of_neg g]
      refine Ev.step (f := fun k => spec_TrimText.j1 k s) (fun k => ?_) (Ev.step (f := fun k => spec_TrimText.l1 k s) (fun k => by simp only [spec_TrimText.j1]) ?_)
      · simp only [spec_TrimText.l0]
        rw [if_pos (by omega), if_pos (by omega), hb, spec_blank_eq, Option.bind_some, if_neg g]
      · have := spec_Trim_l1 _ s (Nat.le_refl _) hs
        rwa [h] at this
theorem spec_Trim_ev (s : ByteArray) (hs : s.size ≤ 4611686018427387904) : Ev (fun k => spec_TrimText.f k s) (trimV s) := by
  have := spec_Trim_l0 (bytesOf s) s rfl hs
  rw [← drop_rdrop] at this
  exact this

theorem spec_Name_ev (s : ByteArray) (hs : s.size ≤ 4611686018427387904) : Ev (fun k => spec_l5Name.f k s) (nameB s) := by
  unfold spec_l5Name.f
  refine Ev.bind (spec_IsToken_ev s hs) ?_
  unfold nameB
  cases h : tokV s with
  | true => refine Ev.pos rfl ?_; rw [spec_Lower_eq s hs, Option.bind_some, beq_toList]; simpa using Ev.now _
  | false => refine Ev.neg (by simp) ?_; simpa using Ev.now _
theorem spec_Val_ev (s : ByteArray) (hs : s.size ≤ 4611686018427387904) : Ev (fun k => spec_l5Value.f k s) (valB s) := by
  have key : ∀ (rest pre : List Int), bytesOf s = pre ++ rest → Ev (fun k => spec_l5Value.l0 k s (pre.length : Int)) (rest.all vB && (decide ((s.size : Int) ≤ 200) && decide (trimV s = s))) := by
    intro rest
    induction rest with
    | nil =>
      intro pre h
      have hz := size_mid h
      simp only [List.length_nil] at hz
      by_cases g : (s.size : Int) ≤ 200
      · refine Ev.step (f := fun k => (spec_TrimText.f k s).bind fun t => some (t.toList == s.toList)) (fun k => ?_) (Ev.bind (spec_Trim_ev s hs) ?_)
        · simp only [spec_l5Value.l0]
          rw [if_neg (by omega), if_pos g]
        · rw [beq_toList, decide_eq_true g]; simpa using Ev.now _
      · refine Ev.step (f := fun _ => some false) (fun k => ?_) (by rw [decide_eq_false g]; simpa using Ev.now _)
        simp only [spec_l5Value.l0]
        rw [if_neg (by omega), if_neg g]
    | cons b rest ih =>
      intro pre h
      have hz := size_mid h
      simp only [List.length_cons] at hz
      have hb := bt_mid h
      have hr : 0 ≤ b ∧ b ≤ 255 := by rw [← hb]; exact bt_range s _
      have hw := len_step pre b (by omega)
      have nxt := ih (pre ++ [b]) (by simp [h])
      by_cases e : 32 ≤ b ∧ b ≤ 126
      · have hd : decide (32 ≤ b ∧ b ≤ 126) = true := decide_eq_true e
        have ev : vB b = true := by simp [vB, e]
        rw [List.all_cons, ev, Bool.true_and]
        refine Ev.step (fun k => ?_) nxt
        simp only [spec_l5Value.l0]
        rw [if_pos (by omega), if_pos (by omega), hb, wrap_id (n := b) (by omega) (by omega), spec_l1In_eq, Option.bind_some, if_pos hd, hw]
      · have hd : ¬ decide (32 ≤ b ∧ b ≤ 126) = true := by simp [e]
        by_cases e9 : b = 9
        · have ev : vB b = true := by simp [vB, e9]
          rw [List.all_cons, ev, Bool.true_and]
          refine Ev.step (fun k => ?_) nxt
          simp only [spec_l5Value.l0]
          rw [if_pos (by omega), if_pos (by omega), hb, wrap_id (n := b) (by omega) (by omega), spec_l1In_eq, Option.bind_some, if_neg hd, if_pos e9, hw]
        · refine Ev.step (f := fun _ => some false) (fun k => ?_) (by simpa [vB, e, e9] using Ev.now _)
          simp only [spec_l5Value.l0]
          rw [if_pos (by omega), if_pos (by omega), hb, wrap_id (n := b) (by omega) (by omega), spec_l1In_eq, Option.bind_some, if_neg hd, if_neg e9]
  exact key (bytesOf s) [] rfl
theorem spec_Are_ev (l : List S57) (hl : totF2 l ≤ 1099511627776) : Ev (fun k => spec_AreFields.f k l) (areV l) := by
  have hlen := totF2_len l
  have key : ∀ (rest pre : List S57), l = pre ++ rest → Ev (fun k => spec_AreFields.l0 k l (pre.length : Int)) (rest.all (fun x => nameB x.f0 && valB x.f1) && decide ((l.length : Int) ≤ 24)) := by
    intro rest
    induction rest with
    | nil =>
      intro pre h
      have hl2 := len_mid h
      simp only [List.length_nil] at hl2
      refine Ev.step (f := fun _ => some (decide ((l.length : Int) ≤ 24))) (fun k => ?_) (by simpa using Ev.now _)
      simp only [spec_AreFields.l0]
      rw [if_neg (by omega)]
    | cons x rest ih =>
      intro pre h
      have hl2 := len_mid h
      simp only [List.length_cons] at hl2
      have hx : rd_T57 l (pre.length : Int) = x := getD_mid h
      have hmx := totF2_mem l x (by rw [h]; simp)
      have hst := len_step pre x (by omega)
      have nxt := ih (pre ++ [x]) (by simp [h])
      refine Ev.step (f := fun k => (spec_l5Name.f k x.f0).bind fun t => if t = true then (spec_l5Value.f k x.f1).bind (fun u => if u = true then spec_AreFields.l0 k l ((pre ++ [x]).length : Int) else some false) else some false) (fun k => ?_) (Ev.bind (spec_Name_ev x.f0 (by omega)) ?_)
      · simp only [spec_AreFields.l0]
        rw [if_pos (by omega), if_pos (by omega), hx, hst]
      · cases hn : nameB x.f0 with
        | false => simpa [hn] using Ev.now _
        | true =>
          refine Ev.pos rfl (Ev.bind (spec_Val_ev x.f1 (by omega)) ?_)
          cases hv : valB x.f1 with
          | false => simpa [hn, hv] using Ev.now _
          | true => simpa [hn, hv] using nxt
  exact key l [] rfl

theorem impl_inRange_eq (a b c : Int) : impl_inRange.f a b c = some (decide (b ≤ a ∧ a ≤ c)) := by
  unfold impl_inRange.f
  by_cases h : b ≤ a
  · rw [if_pos h]; congr 1; apply decide_eq_decide.mpr; constructor
    · exact fun x => ⟨h, x⟩
    · exact fun x => x.2
  · rw [if_neg h]; congr 1; symm; apply decide_eq_false; omega

theorem impl_tok_fin : ∀ n : Fin 256, impl_isTokenByte.f (n.val : Int) = some (tokB (n.val : Int)) := by decide +kernel
theorem impl_tok_eq {b : Int} (h0 : 0 ≤ b) (h1 : b ≤ 255) : impl_isTokenByte.f b = some (tokB b) := fin256 (p := fun b => impl_isTokenByte.f b = some (tokB b)) impl_tok_fin h0 h1
theorem impl_IsToken_ev (s : ByteArray) (hs : s.size ≤ 4611686018427387904) : Ev (fun k => impl_IsToken.f k s) (tokV s) := by
  have key : ∀ (rest pre : List Int), bytesOf s = pre ++ rest → Ev (fun k => impl_IsToken.l0 k s (s.size : Int) (pre.length : Int)) (rest.all tokB && decide (1 ≤ (s.size : Int) ∧ (s.size : Int) ≤ 40)) := by
    intro rest
    induction rest with
    | nil =>
      intro pre h
      have hz := size_mid h
      simp only [List.length_nil] at hz
      refine Ev.step (f := fun _ => some (decide (1 ≤ (s.size : Int) ∧ (s.size : Int) ≤ 40))) (fun k => ?_) (by simpa using Ev.now _)
      simp only [impl_IsToken.l0]
      rw [if_neg (by omega), impl_inRange_eq, Option.bind_some]
    | cons b rest ih =>
      intro pre h
      have hz := size_mid h
      simp only [List.length_cons] at hz
      have hb := bt_mid h
      have hr : 0 ≤ b ∧ b ≤ 255 := by rw [← hb]; exact bt_range s _
      have hw := len_step pre b (by omega)
      refine Ev.step (f := fun k => if tokB b = true then impl_IsToken.l0 k s (s.size : Int) ((pre ++ [b]).length : Int) else some false) (fun k => ?_) ?_
      · simp only [impl_IsToken.l0]
        rw [if_pos (by omega), if_pos (by omega), if_pos (by omega), hb, hw, impl_tok_eq hr.1 hr.2, Option.bind_some]
      · cases e : tokB b with
        | true => simpa [e] using ih (pre ++ [b]) (by simp [h])
        | false => simpa [e] using Ev.now _
  exact key (bytesOf s) [] rfl

theorem impl_Lower_eq (s : ByteArray) (h : s.size ≤ 4611686018427387904) : impl_LowerText.f s = some (lowerV s) := by unfold impl_LowerText.f; rw [if_pos h]; rfl

theorem bytesOf_mk (l : List UInt8) : bytesOf ⟨l.toArray⟩ = l.map fun b => (b.toNat : Int) := rfl
theorem mk_of_bytes {l : List UInt8} {m : List Int} (h : (l.map fun b => (b.toNat : Int)) = m) : (⟨l.toArray⟩ : ByteArray) = strOfNums m := by
  apply bytesOf_inj
  rw [bytesOf_mk, h, bytesOf_strOf]
  subst h
  exact InB_bytes ⟨l.toArray⟩
theorem trimLeftS_map (l cs : List UInt8) : ((Lib.trimLeftS l cs).map fun b => (b.toNat : Int)) = (l.map fun b => (b.toNat : Int)).dropWhile (fun x => (cs.map fun b => (b.toNat : Int)).contains x) := by
  unfold Lib.trimLeftS
  induction l with
  | nil => rfl
  | cons b r ih =>
    have e : ((cs.map fun b => (b.toNat : Int)).contains (b.toNat : Int)) = cs.contains b := by
      rw [Bool.eq_iff_iff, List.contains_iff_mem, List.contains_iff_mem, List.mem_map]
      constructor
      · rintro ⟨c, hc, hcb⟩
        have : c = b := UInt8.toNat_inj.1 (by omega)
        exact this ▸ hc
      · exact fun h => ⟨b, h, rfl⟩
    simp only [List.dropWhile_cons, List.map_cons, e]
    split
    · exact ih
    · rfl
theorem trimS_map (l cs : List UInt8) : ((Lib.trimS l cs).map fun b => (b.toNat : Int)) = trimP (fun x => (cs.map fun b => (b.toNat : Int)).contains x) (l.map fun b => (b.toNat : Int)) := by
  have e : ((Lib.trimRightS l cs).map fun b => (b.toNat : Int)) = rdropI (fun x => (cs.map fun b => (b.toNat : Int)).contains x) (l.map fun b => (b.toNat : Int)) := by
    rw [← rdropI_eq, ← List.map_reverse, ← trimLeftS_map, ← List.map_reverse]
    rfl
  unfold Lib.trimS trimP
  rw [trimLeftS_map, e]
theorem strings_Trim_eq (s cs : ByteArray) (hs : s.size ≤ 4611686018427387904) (hc : cs.size < 4294967281) (ha : cs.data.toList.all (fun b => decide (b.toNat < 128)) = true) :
    strings_Trim.f s cs = some (strOfNums (trimP (fun x => (bytesOf cs).contains x) (bytesOf s))) := by
  unfold strings_Trim.f
  rw [if_pos ⟨hs, hc, ha⟩, mk_of_bytes (trimS_map _ _)]
  rfl
theorem impl_Trim_eq (s : ByteArray) (hs : s.size ≤ 4611686018427387904) : impl_TrimText.f s = some (trimV s) := by
  unfold impl_TrimText.f
  rw [strings_Trim_eq s ⟨#[32, 9]⟩ hs (by decide) (by decide), Option.bind_some]
  unfold trimV
  congr 3
  funext x
  have e : bytesOf ⟨#[32, 9]⟩ = [32, 9] := by decide
  rw [e]
  unfold blankI
  by_cases h : x = 32 <;> by_cases g : x = 9 <;> simp [h, g]

theorem impl_Val_ev (s : ByteArray) (hs : s.size ≤ 4611686018427387904) : Ev (fun k => impl_isFieldValue.f k s) (valB s) := by
  have key : ∀ (rest pre : List Int), bytesOf s = pre ++ rest → Ev (fun k => impl_isFieldValue.l0 k s (s.size : Int) (pre.length : Int)) (rest.all vB && (decide ((s.size : Int) ≤ 200) && decide (trimV s = s))) := by
    intro rest
    induction rest with
    | nil =>
      intro pre h
      have hz := size_mid h
      simp only [List.length_nil] at hz
      by_cases g : (s.size : Int) ≤ 200
      · refine Ev.step (f := fun _ => some (decide (trimV s = s))) (fun k => ?_) (by rw [decide_eq_true g]; simpa using Ev.now _)
        simp only [impl_isFieldValue.l0]
        rw [if_neg (by omega), if_pos g, impl_Trim_eq s hs, Option.bind_some, beq_toList]
      · refine Ev.step (f := fun _ => some false) (fun k => ?_) (by rw [decide_eq_false g]; simpa using Ev.now _)
        simp only [impl_isFieldValue.l0]
        rw [if_neg (by omega), if_neg g]
    | cons b rest ih =>
      intro pre h
      have hz := size_mid h
      simp only [List.length_cons] at hz
      have hb := bt_mid h
      have hr : 0 ≤ b ∧ b ≤ 255 := by rw [← hb]; exact bt_range s _
      have hw := len_step pre b (by omega)
      have nxt := ih (pre ++ [b]) (by simp [h])
      by_cases e9 : b = 9
      · have ev : vB b = true := by simp [vB, e9]
        rw [List.all_cons, ev, Bool.true_and]
        refine Ev.step (fun k => ?_) nxt
        simp only [impl_isFieldValue.l0]
        rw [if_pos (by omega), if_pos (by omega), if_pos (by omega), hb, if_pos e9, hw]
      · by_cases e : 32 ≤ b ∧ b ≤ 126
        · have hd : decide (32 ≤ b ∧ b ≤ 126) = true := decide_eq_true e
          have ev : vB b = true := by simp [vB, e]
          rw [List.all_cons, ev, Bool.true_and]
          refine Ev.step (fun k => ?_) nxt
          simp only [impl_isFieldValue.l0]
          rw [if_pos (by omega), if_pos (by omega), if_pos (by omega), hb, if_neg e9, wrap_id (n := b) (by omega) (by omega), impl_inRange_eq, Option.bind_some, if_pos hd, hw]
        · have hd : ¬ decide (32 ≤ b ∧ b ≤ 126) = true := by simp [e]
          refine Ev.step (f := fun _ => some false) (fun k => ?_) (by simpa [vB, e, e9] using Ev.now _)
          simp only [impl_isFieldValue.l0]
          rw [if_pos (by omega), if_pos (by omega), if_pos (by omega), hb, if_neg e9, wrap_id (n := b) (by omega) (by omega), impl_inRange_eq, Option.bind_some, if_neg hd]
  exact key (bytesOf s) [] rfl
theorem impl_Are_ev (l : List S57) (hl : totF2 l ≤ 1099511627776) : Ev (fun k => impl_AreFields.f k l) (areV l) := by
  have hlen := totF2_len l
  have key : ∀ (rest pre : List S57), l = pre ++ rest → Ev (fun k => impl_AreFields.l0 k l l (l.length : Int) (pre.length : Int)) (rest.all (fun x => nameB x.f0 && valB x.f1) && decide ((l.length : Int) ≤ 24)) := by
    intro rest
    induction rest with
    | nil =>
      intro pre h
      have hl2 := len_mid h
      simp only [List.length_nil] at hl2
      refine Ev.step (f := fun _ => some (decide ((l.length : Int) ≤ 24))) (fun k => ?_) (by simpa using Ev.now _)
      simp only [impl_AreFields.l0]
      rw [if_neg (by omega)]
    | cons x rest ih =>
      intro pre h
      have hl2 := len_mid h
      simp only [List.length_cons] at hl2
      have hx : rd_T57 l (pre.length : Int) = x := getD_mid h
      have hmx := totF2_mem l x (by rw [h]; simp)
      have hst := len_step pre x (by omega)
      have nxt := ih (pre ++ [x]) (by simp [h])
      refine Ev.step (f := fun k => (impl_IsToken.f k x.f0).bind fun t => if t = true then (if lowerV x.f0 = x.f0 then (impl_isFieldValue.f k x.f1).bind (fun u => if u = true then impl_AreFields.l0 k l l (l.length : Int) ((pre ++ [x]).length : Int) else some false) else some false) else some false) (fun k => ?_) (Ev.bind (impl_IsToken_ev x.f0 (by omega)) ?_)
      · simp only [impl_AreFields.l0]
        rw [if_pos (by omega), if_pos (by omega), if_pos (by omega), hx, hst, impl_Lower_eq x.f0 (by omega)]
        simp only [Option.bind_some, toList_iff]
      · cases hn : tokV x.f0 with
        | false => simpa [nameB, hn] using Ev.now _
        | true =>
          refine Ev.pos rfl ?_
          by_cases hw : lowerV x.f0 = x.f0
          · refine Ev.pos hw (Ev.bind (impl_Val_ev x.f1 (by omega)) ?_)
            cases hv : valB x.f1 with
            | false => simpa [nameB, hn, hw, hv] using Ev.now _
            | true => simpa [nameB, hn, hw, hv] using nxt
          · refine Ev.neg hw ?_
            simpa [nameB, hn, hw] using Ev.now _
  exact key l [] rfl

theorem FnExactAreFields : laws_FnExactAreFields.Pure := by
  intro l hlen hgood
  unfold laws_FnExactAreFields.f
  apply Ev.rounds
  obtain ⟨r, hr, hr2⟩ := szFieldS_ev l (by omega) hgood 1048576 (by omega) (by omega)
  refine Ev.bind hr ?_
  by_cases hneg : r < 0
  · exact Ev.pos hneg (Ev.now _)
  · refine Ev.neg hneg ?_
    have ht := tot_Field_len l
    have h2 := hr2 hneg
    have hn : l.length ≤ 1048576 := by omega
    have hm : (l.map conv_Field).length ≤ 1048576 := by simpa using hn
    have hs : totF2 (l.map conv_Field) ≤ 1099511627776 := by rw [totF2_map]; omega
    refine Ev.bind (toFieldS_ev l hn) (Ev.bind (spec_Are_ev _ hs) (Ev.bind (toFieldS_ev l hn) (Ev.bind (impl_Are_ev _ hs) (Ev.neg (by simp) ?_))))
    exact Ev.bind (toFieldS_ev l hn) (Ev.bind (eqFieldS_self _ (by omega)) (Ev.pos rfl (Ev.now _)))

end Go.Proofs.YtmppjfnojkgllacDoor.Pure
