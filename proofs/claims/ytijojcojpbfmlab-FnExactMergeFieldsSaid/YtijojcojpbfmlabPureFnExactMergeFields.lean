/- The pure part of FnExactMergeFields: for every input within the statement's bounds the printed law answers true. Conditions: the statement's own bounds alone. -/
import Derived.Test.YtijojcojpbfmlabPreFnExactMergeFields
import Derived.Test.YtijojcojpbfmlabRFnExactMergeFieldsx1
import Derived.Test.YtijojcojpbfmlabRFnExactMergeFieldsx2
import Derived.Test.YtijojcojpbfmlabRFnExactMergeFieldsx3
import Derived.Test.YtijojcojpbfmlabRFnExactMergeFieldsx4
import Derived.OpenShut
namespace Go.Proofs.Ytijojcojpbfmlab.Pure
open Go.RowKit Go.Proofs.Ytijojcojpbfmlab.RFnExactMergeFields Go.Proofs.YtijojcojpbfmlabW.PrintWords Go.Proofs.YtijojcojpbfmlabW.PrintLast
set_option linter.unusedSimpArgs false
set_option linter.unusedVariables false

/-! ### Texts as lists of numbers -/
def InB (l : List Int) : Prop := ∀ x ∈ l, 0 ≤ x ∧ x ≤ 255
theorem InB_nil : InB [] := fun x hx => by simp at hx
theorem InB_cons {b : Int} {l : List Int} : InB (b :: l) ↔ (0 ≤ b ∧ b ≤ 255) ∧ InB l := by simp [InB]
theorem InB_append {l m : List Int} : InB (l ++ m) ↔ InB l ∧ InB m := by
  simp only [InB, List.mem_append]
  exact ⟨fun h => ⟨fun x hx => h x (.inl hx), fun x hx => h x (.inr hx)⟩, fun h x hx => hx.elim (h.1 x) (h.2 x)⟩
theorem InB_take {l : List Int} (n : Nat) (h : InB l) : InB (l.take n) := fun x hx => h x (List.mem_of_mem_take hx)
theorem InB_drop {l : List Int} (n : Nat) (h : InB l) : InB (l.drop n) := fun x hx => h x (List.mem_of_mem_drop hx)
theorem InB_bytes (s : ByteArray) : InB (bytesOf s) := by
  intro x hx
  unfold bytesOf at hx
  obtain ⟨b, _, rfl⟩ := List.mem_map.1 hx
  have := b.toNat_lt
  omega
theorem strOf_bytesOf (s : ByteArray) : strOfNums (bytesOf s) = s := by
  obtain ⟨⟨l⟩⟩ := s
  unfold strOfNums bytesOf
  simp only [List.map_map]
  congr 2
  exact (List.map_congr_left (fun b _ => by simp)).trans (List.map_id l)
theorem bytesOf_strOf {l : List Int} (h : InB l) : bytesOf (strOfNums l) = l := by
  unfold strOfNums bytesOf
  simp only [List.map_map]
  refine (List.map_congr_left (fun x hx => ?_)).trans (List.map_id l)
  have := h x hx
  simp only [Function.comp_apply, id, UInt8.toNat_ofNat']
  omega
theorem bytesOf_inj {s t : ByteArray} (h : bytesOf s = bytesOf t) : s = t := by rw [← strOf_bytesOf s, h, strOf_bytesOf]
theorem bytesOf_append (s t : ByteArray) : bytesOf (s ++ t) = bytesOf s ++ bytesOf t := by
  unfold bytesOf
  rw [ByteArray.data_append, Array.toList_append, List.map_append]
theorem bytesOf_extract (s : ByteArray) (a b : Nat) : bytesOf (s.extract a b) = ((bytesOf s).take b).drop a := by
  unfold bytesOf
  rw [ByteArray.data_extract, Array.toList_extract, List.extract_eq_take_drop, List.map_take, List.map_drop, List.take_drop]
  rcases Nat.le_total a b with h | h
  · rw [Nat.add_sub_cancel' h]
  · rw [Nat.sub_eq_zero_of_le h, List.drop_eq_nil_of_le (by simp; omega), List.drop_eq_nil_of_le (by simp; omega)]
theorem toList_iff {s t : ByteArray} : s.toList = t.toList ↔ s = t := by
  rw [ByteArray.toList_eq, ByteArray.toList_eq]
  constructor
  · intro h
    obtain ⟨⟨l⟩⟩ := s
    obtain ⟨⟨m⟩⟩ := t
    simp only at h
    rw [h]
  · rintro rfl; rfl
theorem size_bytes (s : ByteArray) : (s.size : Int) = ((bytesOf s).length : Int) := by rw [bytesOf_length]
theorem getD_mid {α : Type} {l pre rest : List α} {b d : α} (h : l = pre ++ b :: rest) : l.getD ((pre.length : Int)).toNat d = b := by subst h; simp
theorem len_mid {α : Type} {l pre rest : List α} (h : l = pre ++ rest) : l.length = pre.length + rest.length := by rw [h, List.length_append]
theorem rd_mid {l pre rest : List Int} {b : Int} (h : l = pre ++ b :: rest) : rd l (pre.length : Int) = b := by
  subst h
  unfold rd
  simp
theorem bt_mid {s : ByteArray} {pre rest : List Int} {b : Int} (h : bytesOf s = pre ++ b :: rest) : bt s (pre.length : Int) = b := by
  rw [← rd_bytesOf]; exact rd_mid h
theorem size_mid {s : ByteArray} {pre rest : List Int} (h : bytesOf s = pre ++ rest) : (s.size : Int) = (pre.length : Int) + (rest.length : Int) := by
  rw [size_bytes, h]; simp
theorem mid_step {l pre rest : List Int} {b : Int} (h : l = pre ++ b :: rest) : l = (pre ++ [b]) ++ rest := by simp [h]
theorem wrap_id {n : Int} (h0 : -9223372036854775808 ≤ n) (h1 : n ≤ 9223372036854775807) : wrap64 n = n := by unfold wrap64; omega
theorem len_step {α : Type} (pre : List α) (b : α) (h : pre.length ≤ 9223372036854775000) : wrap64 ((pre.length : Int) + 1) = ((pre ++ [b]).length : Int) := by
  rw [wrap_id (by omega) (by omega)]; simp
/-! ### Loops over lists -/
theorem map_loop {α β : Type} (da : α) (conv : α → β) (x0 : List α) (hn : x0.length ≤ 4611686018427387904) (g : Nat → List β → Int → Option (List β))
    (hg : ∀ k x3 i, g (k + 1) x3 i = if i < (x0.length : Int) then (if 0 ≤ i then (if i < (x3.length : Int) then g k (x3.set (i : Int).toNat (conv (x0.getD i.toNat da))) (wrap64 (i + 1)) else none) else none) else some x3) (z : β) :
    Ev (fun k => g k (List.replicate x0.length z) 0) (x0.map conv) := by
  have key : ∀ rest pre, x0 = pre ++ rest → Ev (fun k => g k (pre.map conv ++ List.replicate rest.length z) (pre.length : Int)) (x0.map conv) := by
    intro rest
    induction rest with
    | nil =>
      intro pre h
      refine Ev.step (f := fun _ => some (x0.map conv)) (fun k => ?_) (Ev.now _)
      rw [hg, if_neg (by rw [h]; simp)]
      simp [h]
    | cons b rest ih =>
      intro pre h
      have hl : x0.length = pre.length + (rest.length + 1) := by rw [h]; simp
      refine Ev.step (f := fun k => g k ((pre ++ [b]).map conv ++ List.replicate rest.length z) ((pre ++ [b]).length : Int)) (fun k => ?_) (ih (pre ++ [b]) (by simp [h]))
      rw [hg, if_pos (by omega), if_pos (by omega), if_pos (by simp; omega), wrap_id (by omega) (by omega)]
      have e1 : x0.getD ((pre.length : Int)).toNat da = b := by rw [h]; simp
      rw [e1]
      congr 1
      · simp [List.replicate_succ, List.set_append]
      · simp
  exact key x0 [] rfl
theorem same_loop {α : Type} (a : List α) (hn : a.length ≤ 4611686018427387904) (g : Nat → Int → Option Bool)
    (hg : ∀ k i, 0 ≤ i → i < (a.length : Int) → g (k + 1) i = g k (wrap64 (i + 1))) (he : ∀ k, g (k + 1) (a.length : Int) = some true) : Ev (fun k => g k 0) true := by
  have key : ∀ d i : Nat, i + d = a.length → Ev (fun k => g k (i : Int)) true := by
    intro d
    induction d with
    | zero => intro i h; obtain rfl : i = a.length := by omega
              exact Ev.step he (Ev.now _)
    | succ d ih =>
      intro i h
      refine Ev.step (f := fun k => g k ((i + 1 : Nat) : Int)) (fun k => ?_) (ih (i + 1) (by omega))
      rw [hg k i (by omega) (by omega), wrap_id (by omega) (by omega)]; rfl
  exact key a.length 0 (by omega)
theorem Ev.mp {α : Type} {g f : Nat → Option α} {r : α} (h : Ev f r) (e : ∀ k, g k = f k) : Ev g r := Ev.congr e h
theorem Ev.step2 {α : Type} {g f : Nat → Option α} {r : α} (h : ∃ K, ∀ k, K ≤ k → g (k + 1) = f k) (e : Ev f r) : Ev g r := by
  obtain ⟨K, hK⟩ := h
  obtain ⟨K', hK'⟩ := e
  refine ⟨max K K' + 1, fun k hk => ?_⟩
  obtain ⟨k, rfl⟩ : ∃ m, k = m + 1 := ⟨k - 1, by omega⟩
  rw [hK k (by omega), hK' k (by omega)]
/-- Every element turned into the next of a row of marks. -/
def markL {α : Type} (mk : Int → α) (c : Nat) : Int → List α → List α
  | _, [] => []
  | k, _ :: r => mk k :: markL mk c (k + c) r
theorem markL_length {α : Type} (mk : Int → α) (c : Nat) (l : List α) : ∀ k, (markL mk c k l).length = l.length := by
  induction l with
  | nil => intro k; rfl
  | cons x r ih => intro k; simp [markL, ih]
theorem mark_loop {α : Type} (mk : Int → α) (c : Nat) (g : Nat → List α → Int → Int → Option (Int × List α)) (B : Int) (hB : B ≤ 4611686018427387904)
    (hg : ∀ (l : List α) (k0 i : Int), 0 ≤ i → i < (l.length : Int) → 0 ≤ k0 → k0 + c ≤ B → ∃ K, ∀ k, K ≤ k → g (k + 1) l k0 i = g k (l.set i.toNat (mk k0)) (k0 + c) (wrap64 (i + 1)))
    (he : ∀ k (l : List α) (k0 : Int), g (k + 1) l k0 (l.length : Int) = some (k0, l)) (l : List α) (hl : l.length ≤ 4611686018427387904) (k0 : Int) (h0 : 0 ≤ k0) (h1 : k0 + c * l.length ≤ B) :
    Ev (fun k => g k l k0 0) (k0 + c * l.length, markL mk c k0 l) := by
  have key : ∀ (rest pre : List α) (k0 : Int), 0 ≤ k0 → k0 + c * rest.length ≤ B → pre.length + rest.length ≤ 4611686018427387904 → Ev (fun k => g k (pre ++ rest) k0 (pre.length : Int)) (k0 + c * rest.length, pre ++ markL mk c k0 rest) := by
    intro rest
    induction rest with
    | nil =>
      intro pre k0 _ _ _
      refine Ev.step (f := fun _ => some (k0, pre)) (fun k => ?_) (by simpa [markL] using Ev.now _)
      have := he k pre k0
      simpa using this
    | cons x rest ih =>
      intro pre k0 h0 h1 h2
      simp only [List.length_cons] at h1 h2
      have hc : (c : Int) * ((rest.length + 1 : Nat) : Int) = c * rest.length + c := by rw [Int.natCast_add, Int.mul_add]; simp
      rw [hc] at h1
      have hcn : 0 ≤ (c : Int) * (rest.length : Int) := Int.mul_nonneg (by omega) (by omega)
      obtain ⟨K, hK⟩ := hg (pre ++ x :: rest) k0 (pre.length : Int) (by omega) (by simp; omega) h0 (by omega)
      have e := ih (pre ++ [mk k0]) (k0 + c) (by omega) (by omega) (by simp; omega)
      have e2 : (k0 + (c : Int)) + c * rest.length = k0 + c * ((x :: rest).length : Int) := by simp only [List.length_cons]; rw [hc]; omega
      rw [e2] at e
      refine Ev.step2 (f := fun k => g k (pre ++ [mk k0] ++ rest) (k0 + c) ((pre ++ [mk k0]).length : Int)) ⟨K, fun k hk => ?_⟩ (by simpa [markL] using e)
      rw [hK k hk, wrap_id (by omega) (by omega)]
      simp [List.set_append]
  have := key l [] k0 h0 h1 (by simpa using hl)
  simpa using this
theorem held_loop {α : Type} (mk : Int → α) (c : Nat) (l0 l : List α) (k0 : Int) (hl : l = markL mk c k0 l0) (g : Nat → Int → Int → Option Int) (B : Int) (hB : B ≤ 4611686018427387904)
    (hg : ∀ (k1 i : Int), 0 ≤ i → i < (l.length : Int) → 0 ≤ k1 → k1 + c ≤ B → l[i.toNat]? = some (mk k1) → ∃ K, ∀ k, K ≤ k → g (k + 1) k1 i = g k (k1 + c) (wrap64 (i + 1)))
    (he : ∀ k (k1 : Int), g (k + 1) k1 (l.length : Int) = some k1) (hn : l0.length ≤ 4611686018427387904) (h0 : 0 ≤ k0) (h1 : k0 + c * l0.length ≤ B) :
    Ev (fun k => g k k0 0) (k0 + c * l0.length) := by
  have hlen : l.length = l0.length := by rw [hl, markL_length]
  have key : ∀ (rest : List α) (pre : List α) (k1 : Int), l = pre ++ markL mk c k1 rest → 0 ≤ k1 → k1 + c * rest.length ≤ B → Ev (fun k => g k k1 (pre.length : Int)) (k1 + c * rest.length) := by
    intro rest
    induction rest with
    | nil =>
      intro pre k1 h _ _
      refine Ev.step (f := fun _ => some k1) (fun k => ?_) (by simpa using Ev.now _)
      have := he k k1
      rw [h] at this
      simpa [markL] using this
    | cons x rest ih =>
      intro pre k1 h h0 h1
      simp only [List.length_cons] at h1
      have hc : (c : Int) * ((rest.length + 1 : Nat) : Int) = c * rest.length + c := by rw [Int.natCast_add, Int.mul_add]; simp
      rw [hc] at h1
      have hcn : 0 ≤ (c : Int) * (rest.length : Int) := Int.mul_nonneg (by omega) (by omega)
      have hl2 : l.length = pre.length + (rest.length + 1) := by rw [h]; simp [markL_length]
      obtain ⟨K, hK⟩ := hg k1 (pre.length : Int) (by omega) (by omega) h0 (by omega) (by rw [h]; simp [markL])
      have e := ih (pre ++ [mk k1]) (k1 + c) (by rw [h]; simp [markL]) (by omega) (by omega)
      have e2 : (k1 + (c : Int)) + c * rest.length = k1 + c * ((x :: rest).length : Int) := by simp only [List.length_cons]; rw [hc]; omega
      rw [e2] at e
      refine Ev.step2 (f := fun k => g k (k1 + c) ((pre ++ [mk k1]).length : Int)) ⟨K, fun k hk => ?_⟩ e
      rw [hK k hk, wrap_id (by omega) (by omega)]
      simp
  exact key l0 [] k0 (by simpa using hl) h0 h1
theorem Ev.pos {α : Type} {c : Prop} [Decidable c] {f g : Nat → Option α} {r : α} (h : c) (e : Ev f r) : Ev (fun k => if c then f k else g k) r := by simp only [if_pos h]; exact e
theorem Ev.neg {α : Type} {c : Prop} [Decidable c] {f g : Nat → Option α} {r : α} (h : ¬ c) (e : Ev g r) : Ev (fun k => if c then f k else g k) r := by simp only [if_neg h]; exact e
theorem Ev.get {α β : Type} {f : Nat → α → Option β} {a : α} {r : β} (e : Ev (fun n => f n a) r) : Ev (fun n => (some a).bind (f n)) r := e

def conv_Field (x : S57) : S58 := ⟨x.f0, x.f1⟩
theorem toFieldS_ev (l : List S57) (hn : l.length ≤ 1048576) : Ev (fun k => laws_toFieldS.f k l) (l.map conv_Field) := by
  have e := map_loop z57 conv_Field l (by omega) (fun k => laws_toFieldS.l0 k l) (fun k x3 i => rfl) z58
  refine Ev.mp e (fun k => ?_)
  unfold laws_toFieldS.f
  rw [if_pos (by omega), if_pos (by omega), Int.toNat_natCast]

theorem eqField_self (x : S58) : laws_eqField.f x.f0 x.f1 x.f0 x.f1 = some true := by simp [laws_eqField.f]
theorem eqFieldS_self (l : List S58) (hn : l.length ≤ 4611686018427387904) : Ev (fun k => laws_eqFieldS.f k l l) true := by
  have e := same_loop l hn (fun k => laws_eqFieldS.l0 k l l) (fun k i h0 h1 => by
    simp only [laws_eqFieldS.l0]
    rw [if_pos h1, if_pos h0, if_pos h1, eqField_self, Option.bind_some, if_pos rfl]) (fun k => by
    simp only [laws_eqFieldS.l0]
    rw [if_neg (by omega)])
  refine Ev.mp e (fun k => ?_)
  unfold laws_eqFieldS.f
  rw [if_pos rfl]

def tot_Field : List S57 → Nat
  | [] => 0
  | x :: r => 1 + (x.f0.size + x.f1.size) + tot_Field r
theorem tot_Field_len (l : List S57) : l.length ≤ tot_Field l := by
  induction l with
  | nil => simp
  | cons x r ih => simp only [List.length_cons, tot_Field]; omega
theorem szField_some (x : S57) (n : Int) (hn0 : 0 ≤ n) (hn : n ≤ 1048576) (h0 : x.f0.size ≤ maxLen) (h1 : x.f1.size ≤ maxLen) : ∃ r, laws_szField.f x.f0 x.f1 n = some r ∧ (¬ r < 0 → r = n - ((x.f0.size : Int) + (x.f1.size : Int))) := by
  unfold laws_szField.f
  unfold maxLen at h0 h1
  rw [wrap_id (n := n - (x.f0.size : Int)) (by omega) (by omega)]
  by_cases g0 : n - (x.f0.size : Int) < 0
  · rw [if_pos g0]
    exact ⟨_, rfl, fun h => absurd (show (-1 : Int) < 0 by decide) h⟩
  · rw [if_neg g0]
    rw [wrap_id (n := n - (x.f0.size : Int) - (x.f1.size : Int)) (by omega) (by omega)]
    by_cases g1 : n - (x.f0.size : Int) - (x.f1.size : Int) < 0
    · rw [if_pos g1]
      exact ⟨_, rfl, fun h => absurd (show (-1 : Int) < 0 by decide) h⟩
    · rw [if_neg g1]
      exact ⟨_, rfl, fun _ => by omega⟩
theorem szFieldS_ev (l : List S57) (hl : l.length ≤ 140737488355328) (hs : ∀ x ∈ l, x.f0.size ≤ maxLen ∧ x.f1.size ≤ maxLen) (n0 : Int) (hn0 : 0 ≤ n0) (hn1 : n0 ≤ 1048576) : ∃ r, Ev (fun k => laws_szFieldS.f k l n0) r ∧ (¬ r < 0 → r = n0 - tot_Field l) := by
  have key : ∀ (rest pre : List S57) (n : Int), l = pre ++ rest → 0 ≤ n → n ≤ 1048576 → ∃ r, Ev (fun k => laws_szFieldS.l0 k l n (pre.length : Int)) r ∧ (¬ r < 0 → r = n + rest.length - tot_Field rest) := by
    intro rest
    induction rest with
    | nil =>
      intro pre n h h0 h1
      refine ⟨n, Ev.step (f := fun _ => some n) (fun k => ?_) (Ev.now _), fun _ => by simp [tot_Field]⟩
      simp only [laws_szFieldS.l0]
      rw [if_neg (by rw [h]; simp)]
    | cons x rest ih =>
      intro pre n h h0 h1
      have hl2 : l.length = pre.length + (rest.length + 1) := by rw [h]; simp
      have hx : rd_T57 l (pre.length : Int) = x := by unfold rd_T57; rw [h]; simp
      obtain ⟨q, hq, hq2⟩ := szField_some x n h0 h1 (hs x (by rw [h]; simp)).1 (hs x (by rw [h]; simp)).2
      by_cases hneg : q < 0
      · refine ⟨-1, Ev.step (f := fun _ => some (-1)) (fun k => ?_) (Ev.now _), fun h => absurd (show (-1 : Int) < 0 by decide) h⟩
        simp only [laws_szFieldS.l0]
        rw [if_pos (by omega), if_pos (by omega), hx, hq, Option.bind_some, if_pos hneg]
      · obtain ⟨r, hr, hr2⟩ := ih (pre ++ [x]) q (by simp [h]) (by omega) (by have := hq2 hneg; omega)
        refine ⟨r, Ev.step (f := fun k => laws_szFieldS.l0 k l q ((pre ++ [x]).length : Int)) (fun k => ?_) hr, fun h => ?_⟩
        · simp only [laws_szFieldS.l0]
          rw [if_pos (by omega), if_pos (by omega), hx, hq, Option.bind_some, if_neg hneg, wrap_id (by omega) (by omega)]
          simp
        · rw [hr2 h, hq2 hneg]
          simp only [tot_Field, List.length_cons]
          omega
  by_cases hneg : n0 - (l.length : Int) < 0
  · refine ⟨-1, Ev.mp (Ev.now _) (fun k => ?_), fun h => absurd (show (-1 : Int) < 0 by decide) h⟩
    unfold laws_szFieldS.f
    rw [wrap_id (by omega) (by omega), if_pos hneg]
  · obtain ⟨r, hr, hr2⟩ := key l [] (n0 - l.length) rfl (by omega) (by omega)
    refine ⟨r, Ev.mp hr (fun k => ?_), fun h => by rw [hr2 h]; omega⟩
    unfold laws_szFieldS.f
    rw [wrap_id (by omega) (by omega), if_neg hneg]
    rfl

theorem mt_loop (d : Nat) : ∀ (n : Int) (x : ByteArray), 0 ≤ n → n < 10 ^ d → n ≤ 9223372036854775807 → x.size + d ≤ 1000 → ∃ t, Ev (fun k => laws_markText.l0 k n x) t := by
  induction d with
  | zero =>
    intro n x h0 h1 hb hx
    refine ⟨_, Ev.step (f := fun _ => some ((⟨#[109]⟩ : ByteArray) ++ x)) (fun k => ?_) (Ev.now _)⟩
    simp only [laws_markText.l0]
    rw [if_neg (by simp at h1; omega), if_pos (by omega)]
  | succ d ih =>
    intro n x h0 h1 hb hx
    by_cases hz : n > 0
    · have hdiv : Int.tdiv n 10 = n / 10 := Int.tdiv_eq_ediv_of_nonneg h0
      have hlt : n / 10 < 10 ^ d := by
        rw [Int.pow_succ] at h1
        omega
      have hw : wrap64 (Int.tdiv n 10) = n / 10 := by rw [hdiv, wrap_id (by omega) (by omega)]
      obtain ⟨t, ht⟩ := ih (n / 10) (strOfNums [(wrap64 (48 + (Int.tmod n 10))) % 256] ++ x) (by omega) hlt (by omega) (by rw [ByteArray.size_append, strOfNums_size]; simp; omega)
      refine ⟨t, Ev.step (f := fun k => laws_markText.l0 k (n / 10) (strOfNums [(wrap64 (48 + (Int.tmod n 10))) % 256] ++ x)) (fun k => ?_) ht⟩
      simp only [laws_markText.l0]
      rw [if_pos hz, Option.bind_some, if_pos (by rw [strOfNums_size]; simp; omega), hw]
    · refine ⟨_, Ev.step (f := fun _ => some ((⟨#[109]⟩ : ByteArray) ++ x)) (fun k => ?_) (Ev.now _)⟩
      simp only [laws_markText.l0]
      rw [if_neg hz, if_pos (by omega)]
theorem mt_one (n : Int) (hb : n ≤ 9223372036854775807) : ∃ t, Ev (fun k => laws_markText.f k n) t := by
  by_cases h : n ≤ 0
  · exact ⟨_, Ev.mp (Ev.now (⟨#[109, 48]⟩ : ByteArray)) (fun k => by unfold laws_markText.f; rw [if_pos h])⟩
  · obtain ⟨t, ht⟩ := mt_loop 19 n ⟨#[]⟩ (by omega) (by omega) hb (by decide)
    exact ⟨t, Ev.mp ht (fun k => by unfold laws_markText.f; rw [if_neg h])⟩
theorem mt_all : ∃ mt : Int → ByteArray, ∀ n, n ≤ 9223372036854775807 → Ev (fun k => laws_markText.f k n) (mt n) := by
  refine ⟨fun n => if h : n ≤ 9223372036854775807 then Classical.choose (mt_one n h) else ByteArray.empty, fun n h => ?_⟩
  simp only [dif_pos h]
  exact Classical.choose_spec (mt_one n h)

def mk_Field (mt : Int → ByteArray) (k : Int) : S58 := ⟨mt k, mt (k + 1)⟩
theorem rd_set_Field (l : List S58) (i : Int) (h0 : 0 ≤ i) (h : i < (l.length : Int)) (v : S58) : rd_T58 (l.set i.toNat v) i = v := by
  unfold rd_T58
  have : i.toNat < (l.set i.toNat v).length := by simp; omega
  rw [List.getD_eq_getElem?_getD, List.getElem?_eq_getElem this]
  simp
theorem markFieldS_from (mt : Int → ByteArray) (hmt : ∀ n, n ≤ 9223372036854775807 → Ev (fun k => laws_markText.f k n) (mt n)) (l : List S58) (hl : l.length ≤ 1000000000) (q0 : Int) (hq0 : 0 ≤ q0) (hq1 : q0 ≤ 1000000000000) : Ev (fun k => laws_markFieldS.f k l q0) (q0 + (2 : Nat) * l.length, markL (mk_Field mt ) 2 q0 l) := by
  refine mark_loop (mk_Field mt ) 2 (fun k l k0 i => laws_markFieldS.l0 k l k0 i) 4611686018427387904 (by omega) (fun l k0 i h0 h1 hk0 hk1 => ?_) (fun k l k0 => ?_) l (by omega) q0 (by omega) (by omega)
  · have hk2 : k0 + 2 ≤ 4611686018427387904 := by simpa using hk1
    obtain ⟨K0, hK0⟩ := hmt k0 (by omega)
    obtain ⟨K1, hK1⟩ := hmt (k0 + 1) (by omega)
    have w0 : wrap64 (k0 + 1) = k0 + 1 := by rw [wrap_id (by omega) (by omega)]
    have w1 : wrap64 ((k0 + 1) + 1) = k0 + 2 := by rw [wrap_id (by omega) (by omega)]; omega
    refine ⟨K0 + K1, fun k hk => ?_⟩
    simp only [laws_markFieldS.l0]
    rw [if_pos h1]
    simp only [hK0 k (by omega), hK1 k (by omega), w0, w1, if_pos h0, Option.bind_some]
    have r := rd_set_Field l i h0 h1
    simp only [r, List.set_set]
    rfl
  · simp only [laws_markFieldS.l0]
    rw [if_neg (by omega)]
theorem markFieldS_ev (mt : Int → ByteArray) (hmt : ∀ n, n ≤ 9223372036854775807 → Ev (fun k => laws_markText.f k n) (mt n)) (l : List S58) (hl : l.length ≤ 1000000000) : Ev (fun k => laws_markFieldS.f k l 1) (1 + (2 : Nat) * l.length, markL (mk_Field mt ) 2 1 l) := markFieldS_from mt hmt l hl 1 (by omega) (by omega)
theorem markFieldS_any (mt : Int → ByteArray) (hmt : ∀ n, n ≤ 9223372036854775807 → Ev (fun k => laws_markText.f k n) (mt n)) (l : List S58) (hl : l.length ≤ 1000000000) (q0 : Int) (hq0 : 0 ≤ q0) (hq1 : q0 ≤ 1000000000000) : ∃ q1 Q1, Ev (fun k => laws_markFieldS.f k l q0) (q1, Q1) ∧ ¬ q1 < 0 := ⟨_, _, markFieldS_from mt hmt l hl q0 hq0 hq1, by have : 0 ≤ (2 : Int) * (l.length : Int) := Int.mul_nonneg (by omega) (by omega); simp; omega⟩

theorem heldFieldS_ev (mt : Int → ByteArray) (hmt : ∀ n, n ≤ 9223372036854775807 → Ev (fun k => laws_markText.f k n) (mt n)) (l0 : List S58) (hl : l0.length ≤ 1000000000) : Ev (fun k => laws_heldFieldS.f k (markL (mk_Field mt ) 2 1 l0) 1) (1 + (2 : Nat) * l0.length) := by
  refine held_loop (mk_Field mt ) 2 l0 _ 1 rfl (fun k k0 i => laws_heldFieldS.l0 k (markL (mk_Field mt ) 2 1 l0) k0 i) 4611686018427387904 (by omega) (fun k0 i h0 h1 hk0 hk1 hx => ?_) (fun k k1 => ?_) (by omega) (by omega) (by omega)
  · have hk2 : k0 + 2 ≤ 4611686018427387904 := by simpa using hk1
    obtain ⟨K0, hK0⟩ := hmt k0 (by omega)
    obtain ⟨K1, hK1⟩ := hmt (k0 + 1) (by omega)
    have w0 : wrap64 (k0 + 1) = k0 + 1 := by rw [wrap_id (by omega) (by omega)]
    have w1 : wrap64 ((k0 + 1) + 1) = k0 + 2 := by rw [wrap_id (by omega) (by omega)]; omega
    have hr : rd_T58 (markL (mk_Field mt ) 2 1 l0) i = mk_Field mt k0 := by unfold rd_T58; rw [List.getD_eq_getElem?_getD, hx]; rfl
    refine ⟨K0 + K1, fun k hk => ?_⟩
    simp only [laws_heldFieldS.l0]
    rw [if_pos h1, if_pos h0]
    simp only [hr, hK0 k (by omega), hK1 k (by omega), w0, w1, Option.bind_some, mk_Field, if_true, bne_self_eq_false, Bool.false_eq_true, if_false]
    rfl
  · simp only [laws_heldFieldS.l0]
    rw [if_neg (by omega)]

def totS : List ByteArray → Nat
  | [] => 0
  | x :: r => 1 + x.size + totS r
theorem totS_len (l : List ByteArray) : l.length ≤ totS l := by
  induction l with
  | nil => simp
  | cons x r ih => simp only [List.length_cons, totS]; omega
theorem rdS_mid {l pre rest : List ByteArray} {x : ByteArray} (h : l = pre ++ x :: rest) : rdOf ByteArray.empty l (pre.length : Int) = x := getD_mid h

def joinT : List ByteArray → List Int
  | [] => []
  | x :: r => [44, 32] ++ bytesOf x ++ joinT r
def joinI : List ByteArray → List Int
  | [] => []
  | x :: r => bytesOf x ++ joinT r
def joinV (l : List ByteArray) : ByteArray := strOfNums (joinI l)
theorem InB_joinT (l : List ByteArray) : InB (joinT l) := by
  induction l with
  | nil => exact InB_nil
  | cons x r ih =>
    simp only [joinT, InB_append]
    exact ⟨⟨by intro y hy; simp at hy; omega, InB_bytes x⟩, ih⟩
theorem InB_joinI (l : List ByteArray) : InB (joinI l) := by
  cases l with
  | nil => exact InB_nil
  | cons x r => simp only [joinI, InB_append]; exact ⟨InB_bytes x, InB_joinT r⟩
theorem bytesOf_joinV (l : List ByteArray) : bytesOf (joinV l) = joinI l := bytesOf_strOf (InB_joinI l)
theorem joinT_len (l : List ByteArray) : (joinT l).length ≤ 2 * totS l := by
  induction l with
  | nil => simp [joinT]
  | cons x r ih => simp only [joinT, totS, List.length_append, bytesOf_length, List.length_cons, List.length_nil]; omega
theorem joinI_len (l : List ByteArray) : (joinI l).length ≤ 2 * totS l := by
  cases l with
  | nil => simp [joinI]
  | cons x r => have := joinT_len r; simp only [joinI, totS, List.length_append, bytesOf_length]; omega

def valsL (l : List S58) (name : ByteArray) : List ByteArray := (l.filter (fun x => decide (x.f0 = name))).map (·.f1)
def totF2 : List S58 → Nat
  | [] => 0
  | x :: r => 1 + (x.f0.size + x.f1.size) + totF2 r
theorem totF2_len (l : List S58) : l.length ≤ totF2 l := by
  induction l with
  | nil => simp
  | cons x r ih => simp only [List.length_cons, totF2]; omega
theorem vals_tot (l : List S58) (name : ByteArray) : totS (valsL l name) ≤ totF2 l := by
  induction l with
  | nil => simp [valsL, totS]
  | cons x r ih =>
    unfold valsL at ih ⊢
    by_cases h : x.f0 = name
    · simp only [List.filter_cons, h, decide_true, if_true, List.map_cons, totS, totF2]; omega
    · simp only [List.filter_cons, h, decide_false, Bool.false_eq_true, if_false, totF2]; omega
theorem vals_cons_eq (x : S58) (r : List S58) (name : ByteArray) (h : x.f0 = name) : valsL (x :: r) name = x.f1 :: valsL r name := by simp [valsL, h]
theorem vals_cons_ne (x : S58) (r : List S58) (name : ByteArray) (h : x.f0 ≠ name) : valsL (x :: r) name = valsL r name := by simp [valsL, h]
theorem vals_some (l : List S58) (name : ByteArray) : decide (((valsL l name).length : Int) > 0) = l.any (fun y => decide (y.f0 = name)) := by
  induction l with
  | nil => simp [valsL]
  | cons x r ih =>
    by_cases h : x.f0 = name
    · rw [vals_cons_eq x r name h]; simp [h]
    · rw [vals_cons_ne x r name h, ih]; simp [h]
def getV (l : List S58) (name : ByteArray) : ByteArray × Bool := (joinV (valsL l name), l.any (fun y => decide (y.f0 = name)))

theorem totF2_map (l : List S57) : totF2 (l.map conv_Field) = tot_Field l := by
  induction l with
  | nil => rfl
  | cons x r ih => simp only [List.map_cons, totF2, tot_Field, ih]; rfl

theorem spec_Join_ev (l : List ByteArray) (hl : totS l ≤ 1099511627776) : Ev (fun k => spec_JoinList.f k l) (joinV l) := by
  have hlen := totS_len l
  have key : ∀ (rest pre : List ByteArray) (acc : ByteArray), l = pre ++ rest → 0 < pre.length → acc.size + 2 * totS rest ≤ 4611686018427387904 → Ev (fun k => spec_JoinList.l0 k l acc (pre.length : Int)) (strOfNums (bytesOf acc ++ joinT rest)) := by
    intro rest
    induction rest with
    | nil =>
      intro pre acc h hp ha
      have hl2 := len_mid h
      simp only [List.length_nil] at hl2
      refine Ev.step (f := fun _ => some acc) (fun k => ?_) (by simpa [joinT, strOf_bytesOf] using Ev.now acc)
      simp only [spec_JoinList.l0]
      rw [if_neg (by omega)]
    | cons x rest ih =>
      intro pre acc h hp ha
      have hl2 := len_mid h
      simp only [List.length_cons, totS] at hl2 ha
      have hx := rdS_mid h
      have hw := len_step pre x (by omega)
      have z1 : (⟨#[44, 32]⟩ : ByteArray).size = 2 := rfl
      have b1 : bytesOf (⟨#[44, 32]⟩ : ByteArray) = [44, 32] := by decide
      refine Ev.step (f := fun k => spec_JoinList.l0 k l ((acc ++ (⟨#[44, 32]⟩ : ByteArray)) ++ x) ((pre ++ [x]).length : Int)) (fun k => ?_) ?_
      · simp only [spec_JoinList.l0]
        rw [if_pos (by omega), if_pos (by omega), if_pos (by omega), if_pos (by omega), hx, if_pos (by simp only [ByteArray.size_append]; omega), hw]
      · have := ih (pre ++ [x]) ((acc ++ (⟨#[44, 32]⟩ : ByteArray)) ++ x) (by simp [h]) (by simp) (by simp only [ByteArray.size_append]; omega)
        simpa [bytesOf_append, b1, joinT] using this
  unfold spec_JoinList.f
  match l, hl, hlen, key with
  | [], hl, hlen, key =>
    refine Ev.step (f := fun _ => some (⟨#[]⟩ : ByteArray)) (fun k => ?_) ?_
    · simp only [spec_JoinList.l0]
      rw [if_neg (by simp)]
    · have e : joinV [] = ⟨#[]⟩ := by apply bytesOf_inj; rw [bytesOf_joinV]; decide
      rw [e]; exact Ev.now _
  | x :: r, hl, hlen, key =>
    simp only [totS, List.length_cons] at hl hlen
    have hx : rdOf ByteArray.empty (x :: r) 0 = x := rfl
    have e0 : (⟨#[]⟩ : ByteArray) ++ x = x := by apply bytesOf_inj; rw [bytesOf_append, show bytesOf ⟨#[]⟩ = [] by decide]; rfl
    refine Ev.step (f := fun k => spec_JoinList.l0 k (x :: r) x (([x] : List ByteArray).length : Int)) (fun k => ?_) ?_
    · simp only [spec_JoinList.l0]
      rw [if_pos (by simp only [List.length_cons]; omega), if_neg (by omega), if_pos (by omega), hx, e0, if_pos (by have : (⟨#[]⟩ : ByteArray).size = 0 := rfl; omega), wrap_id (by omega) (by omega)]
      rfl
    · exact key r [x] x rfl (by simp) (by omega)

theorem spec_Get_ev (l : List S58) (hl : totF2 l ≤ 1099511627776) (name : ByteArray) : Ev (fun k => spec_GetField.f k l name) (getV l name) := by
  have hlen := totF2_len l
  have key : ∀ (rest pre : List S58) (acc : List ByteArray), l = pre ++ rest → acc.length ≤ pre.length → acc ++ valsL rest name = valsL l name → Ev (fun k => spec_GetField.l0 k l name acc (pre.length : Int)) (getV l name) := by
    intro rest
    induction rest with
    | nil =>
      intro pre acc h ha hv
      have hl2 := len_mid h
      simp only [List.length_nil] at hl2
      have e : acc = valsL l name := by rw [← hv]; simp [valsL]
      refine Ev.step (f := fun k => (spec_JoinList.f k acc).bind fun t => some (t, decide ((acc.length : Int) > 0))) (fun k => ?_) ?_
      · simp only [spec_GetField.l0]
        rw [if_neg (by omega)]
      · have ht := vals_tot l name
        refine Ev.bind (spec_Join_ev acc (by rw [e]; omega)) ?_
        rw [e, vals_some]
        exact Ev.now _
    | cons x rest ih =>
      intro pre acc h ha hv
      have hl2 := len_mid h
      simp only [List.length_cons] at hl2
      have hx : rd_T58 l (pre.length : Int) = x := getD_mid h
      have hw := len_step pre x (by omega)
      by_cases e : x.f0 = name
      · refine Ev.step (f := fun k => spec_GetField.l0 k l name (acc ++ [x.f1]) ((pre ++ [x]).length : Int)) (fun k => ?_) (ih (pre ++ [x]) (acc ++ [x.f1]) (by simp [h]) (by simp; omega) (by rw [← hv, vals_cons_eq x rest name e]; simp))
        simp only [spec_GetField.l0]
        rw [if_pos (by omega), if_pos (by omega), hx, if_pos (toList_iff.mpr e), if_pos (by omega), hw]
      · refine Ev.step (f := fun k => spec_GetField.l0 k l name acc ((pre ++ [x]).length : Int)) (fun k => ?_) (ih (pre ++ [x]) acc (by simp [h]) (by simp; omega) (by rw [← hv, vals_cons_ne x rest name e]))
        simp only [spec_GetField.l0]
        rw [if_pos (by omega), if_pos (by omega), hx, if_neg (fun g => e (toList_iff.mp g)), hw]
  exact key l [] [] rfl (by simp) (by simp)

def mergeV (l newer : List S58) : List S58 := l.filter (fun x => !(newer.any (fun y => decide (y.f0 = x.f0)))) ++ newer
theorem mergeV_length (l newer : List S58) : (mergeV l newer).length ≤ l.length + newer.length := by
  unfold mergeV
  have := List.length_filter_le (fun x : S58 => !(newer.any (fun y => decide (y.f0 = x.f0)))) l
  simp only [List.length_append]; omega
theorem spec_Merge_ev (l newer : List S58) (hl : l.length ≤ 1048576) (hn : totF2 newer ≤ 1048576) : Ev (fun k => spec_MergeFields.f k l newer) (mergeV l newer) := by
  have hnl := totF2_len newer
  have key : ∀ (rest pre acc : List S58), l = pre ++ rest → acc.length ≤ pre.length → Ev (fun k => spec_MergeFields.l0 k l newer acc (pre.length : Int)) (acc ++ mergeV rest newer) := by
    intro rest
    induction rest with
    | nil =>
      intro pre acc h ha
      have hl2 := len_mid h
      simp only [List.length_nil] at hl2
      refine Ev.step (f := fun _ => some (acc ++ newer)) (fun k => ?_) (by simpa [mergeV] using Ev.now _)
      simp only [spec_MergeFields.l0]
      rw [if_neg (by omega), if_pos (by omega)]
    | cons x rest ih =>
      intro pre acc h ha
      have hl2 := len_mid h
      simp only [List.length_cons] at hl2
      have hx : rd_T58 l (pre.length : Int) = x := getD_mid h
      have hw := len_step pre x (by omega)
      have hg := spec_Get_ev newer (by omega) x.f0
      refine Ev.step (f := fun k => (spec_GetField.f k newer x.f0).bind fun t => if t.2 = true then spec_MergeFields.l0 k l newer acc ((pre ++ [x]).length : Int) else spec_MergeFields.l0 k l newer (acc ++ [x]) ((pre ++ [x]).length : Int)) (fun k => ?_) (Ev.bind hg ?_)
      · simp only [spec_MergeFields.l0]
        rw [if_pos (by omega), if_pos (by omega), hx, hw]
        congr 1
        funext t
        rw [if_pos (show acc.length < 4398046511104 by omega)]
      · by_cases e : newer.any (fun y => decide (y.f0 = x.f0)) = true
        · refine Ev.pos e ?_
          have := ih (pre ++ [x]) acc (by simp [h]) (by simp; omega)
          unfold mergeV at this ⊢
          rw [List.filter_cons_of_neg (by rw [e]; simp)]
          exact this
        · refine Ev.neg e ?_
          have := ih (pre ++ [x]) (acc ++ [x]) (by simp [h]) (by simp; omega)
          unfold mergeV at this ⊢
          rw [List.filter_cons_of_pos (by simpa using e)]
          simpa using this
  have := key l [] [] rfl (by simp)
  simpa [spec_MergeFields.f] using this

theorem impl_has_eq (newer : List S58) (hn : newer.length ≤ 4611686018427387904) (name : ByteArray) : impl_hasField.f newer name = some (newer.any (fun y => decide (y.f0 = name))) := by
  unfold impl_hasField.f
  rw [if_pos (by omega)]
  congr 1
  congr 1
  funext y
  have e : (y.f0.toList == name.toList) = decide (y.f0 = name) := by
    by_cases h : y.f0 = name
    · rw [h]; simp
    · rw [decide_eq_false h]; exact beq_eq_false_iff_ne.mpr (fun g => h (toList_iff.mp g))
  exact e
theorem impl_Merge_ev (l newer : List S58) (hl : l.length ≤ 1048576) (hn : totF2 newer ≤ 1048576) : Ev (fun k => impl_MergeFields.f k l newer) (mergeV l newer) := by
  have hnl := totF2_len newer
  have key : ∀ (rest pre acc : List S58), l = pre ++ rest → acc.length ≤ pre.length → Ev (fun k => impl_MergeFields.l0 k newer acc l (l.length : Int) (pre.length : Int)) (acc ++ mergeV rest newer) := by
    intro rest
    induction rest with
    | nil =>
      intro pre acc h ha
      have hl2 := len_mid h
      simp only [List.length_nil] at hl2
      refine Ev.step (f := fun _ => some (acc ++ newer)) (fun k => ?_) (by simpa [mergeV] using Ev.now _)
      simp only [impl_MergeFields.l0]
      rw [if_neg (by omega), if_pos (by omega)]
    | cons x rest ih =>
      intro pre acc h ha
      have hl2 := len_mid h
      simp only [List.length_cons] at hl2
      have hx : rd_T58 l (pre.length : Int) = x := getD_mid h
      have hw := len_step pre x (by omega)
      refine Ev.step (f := fun k => if (newer.any (fun y => decide (y.f0 = x.f0))) = true then impl_MergeFields.l0 k newer acc l (l.length : Int) ((pre ++ [x]).length : Int) else impl_MergeFields.l0 k newer (acc ++ [x]) l (l.length : Int) ((pre ++ [x]).length : Int)) (fun k => ?_) ?_
      · simp only [impl_MergeFields.l0]
        rw [if_pos (by omega), if_pos (by omega), if_pos (by omega), hx, hw, impl_has_eq newer (by omega), Option.bind_some, if_pos (show acc.length < 4398046511104 by omega)]
      · by_cases e : newer.any (fun y => decide (y.f0 = x.f0)) = true
        · refine Ev.pos e ?_
          have := ih (pre ++ [x]) acc (by simp [h]) (by simp; omega)
          unfold mergeV at this ⊢
          rw [List.filter_cons_of_neg (by rw [e]; simp)]
          exact this
        · refine Ev.neg e ?_
          have := ih (pre ++ [x]) (acc ++ [x]) (by simp [h]) (by simp; omega)
          unfold mergeV at this ⊢
          rw [List.filter_cons_of_pos (by simpa using e)]
          simpa using this
  have := key l [] [] rfl (by simp)
  simpa [impl_MergeFields.f] using this

theorem FnExactMergeFields : laws_FnExactMergeFields.Pure := by
  intro l l2 hlen hgood hlen2 hgood2
  unfold laws_FnExactMergeFields.f
  apply Ev.rounds
  obtain ⟨r, hr, hr2⟩ := szFieldS_ev l (by omega) hgood 1048576 (by omega) (by omega)
  refine Ev.bind hr ?_
  by_cases hneg : r < 0
  · exact Ev.pos hneg (Ev.now _)
  · refine Ev.neg hneg ?_
    have ht := tot_Field_len l
    have h1 := hr2 hneg
    obtain ⟨q, hq, hq2⟩ := szFieldS_ev l2 (by omega) hgood2 r (by omega) (by omega)
    refine Ev.bind hq ?_
    by_cases hneg2 : q < 0
    · exact Ev.pos hneg2 (Ev.now _)
    · refine Ev.neg hneg2 ?_
      have ht2 := tot_Field_len l2
      have h2 := hq2 hneg2
      have hn : l.length ≤ 1048576 := by omega
      have hn2 : l2.length ≤ 1048576 := by omega
      obtain ⟨mt, hmt⟩ := mt_all
      have hm : (l.map conv_Field).length ≤ 1048576 := by simpa using hn
      have hm2 : (l2.map conv_Field).length ≤ 1048576 := by simpa using hn2
      have hs : totF2 (l2.map conv_Field) ≤ 1048576 := by rw [totF2_map]; omega
      have hd := mergeV_length (l.map conv_Field) (l2.map conv_Field)
      have T1 := toFieldS_ev l hn
      have T2 := toFieldS_ev l2 hn2
      have M := impl_Merge_ev _ _ hm hs
      refine Ev.bind T1 (Ev.bind T2 (Ev.bind (spec_Merge_ev _ _ hm hs) (Ev.bind T1 (Ev.bind T2 (Ev.bind M (Ev.bind (eqFieldS_self _ (by omega)) (Ev.pos rfl ?_)))))))
      refine Ev.bind T1 (Ev.bind (eqFieldS_self _ (by omega)) (Ev.pos rfl ?_))
      refine Ev.bind T2 (Ev.bind (eqFieldS_self _ (by omega)) (Ev.pos rfl ?_))
      refine Ev.bind (markFieldS_ev mt hmt _ (by omega)) ?_
      obtain ⟨q2, Q2, hQ2, hQn⟩ := markFieldS_any mt hmt (l2.map conv_Field) (by omega) (1 + (2 : Nat) * ((l.map conv_Field).length : Int)) (by omega) (by omega)
      refine Ev.bind hQ2 (Ev.neg hQn (Ev.bind (eqFieldS_self _ (by omega)) ?_))
      refine Ev.step (f := _) (fun k => by simp only [laws_FnExactMergeFields.j0]; rfl) (Ev.neg (by simp) ?_)
      refine Ev.bind (markFieldS_ev mt hmt _ (by omega)) (Ev.bind (heldFieldS_ev mt hmt _ (by omega)) (Ev.neg (by omega) (Ev.pos rfl ?_)))
      refine Ev.bind T1 (Ev.bind T2 (Ev.bind M (Ev.bind (eqFieldS_self _ (by omega)) (Ev.pos rfl ?_))))
      exact Ev.bind (heldFieldS_ev mt hmt _ (by omega)) (Ev.neg (by omega) (Ev.pos rfl (Ev.now _)))

end Go.Proofs.Ytijojcojpbfmlab.Pure
