/- The pure part of FnExactParseContentRange: for every input within the statement's bounds the printed law answers true. Conditions: the statement's own bounds alone. -/
import Derived.Test.YtlboepkphddacaaDoorPreFnExactParseContentRange
import Derived.Test.YtlboepkphddacaaDoorRFnExactParseContentRangex1
import Derived.Test.YtlboepkphddacaaDoorRFnExactParseContentRangex2
import Derived.Test.YtlboepkphddacaaDoorRFnExactParseContentRangex3
import Derived.OpenShut
namespace Go.Proofs.YtlboepkphddacaaDoor.Pure
open Go.RowKit Go.Proofs.YtlboepkphddacaaDoor.RFnExactParseContentRange Go.Proofs.YtlboepkphddacaaDoorW.PrintWords Go.Proofs.YtlboepkphddacaaDoorW.PrintLast
set_option linter.unusedSimpArgs false
set_option linter.unusedVariables false

/-! ### Texts as lists of numbers -/
def InB (l : List Int) : Prop := ∀ x ∈ l, 0 ≤ x ∧ x ≤ 255
theorem InB_nil : InB [] := fun x hx => by simp at hx
theorem InB_cons {b : Int} {l : List Int} : InB (b :: l) ↔ (0 ≤ b ∧ b ≤ 255) ∧ InB l := by simp [InB]
theorem InB_append {l m : List Int} : InB (l ++ m) ↔ InB l ∧ InB m := by
  simp only [InB, List.mem_append]
  exact ⟨fun h => ⟨fun x hx => h x (.inl hx), fun x hx => h x (.inr hx)⟩, fun h x hx => hx.elim (h.1 x) (h.2 x)⟩
theorem InB_take {l : List Int} (n : Nat) (h : InB l) : InB (l.take n) := fun x hx => h x (List.mem_of_mem_take hx)
theorem InB_drop {l : List Int} (n : Nat) (h : InB l) : InB (l.drop n) := fun x hx => h x (List.mem_of_mem_drop hx)
theorem InB_bytes (s : ByteArray) : InB (bytesOf s) := by
  intro x hx
  unfold bytesOf at hx
  obtain ⟨b, _, rfl⟩ := List.mem_map.1 hx
  have := b.toNat_lt
  omega
theorem strOf_bytesOf (s : ByteArray) : strOfNums (bytesOf s) = s := by
  obtain ⟨⟨l⟩⟩ := s
  unfold strOfNums bytesOf
  simp only [List.map_map]
  congr 2
  exact (List.map_congr_left (fun b _ => by simp)).trans (List.map_id l)
theorem bytesOf_strOf {l : List Int} (h : InB l) : bytesOf (strOfNums l) = l := by
  unfold strOfNums bytesOf
  simp only [List.map_map]
  refine (List.map_congr_left (fun x hx => ?_)).trans (List.map_id l)
  have := h x hx
  simp only [Function.comp_apply, id, UInt8.toNat_ofNat']
  omega
theorem bytesOf_inj {s t : ByteArray} (h : bytesOf s = bytesOf t) : s = t := by rw [← strOf_bytesOf s, h, strOf_bytesOf]
theorem bytesOf_append (s t : ByteArray) : bytesOf (s ++ t) = bytesOf s ++ bytesOf t := by
  unfold bytesOf
  rw [ByteArray.data_append, Array.toList_append, List.map_append]
theorem bytesOf_extract (s : ByteArray) (a b : Nat) : bytesOf (s.extract a b) = ((bytesOf s).take b).drop a := by
  unfold bytesOf
  rw [ByteArray.data_extract, Array.toList_extract, List.extract_eq_take_drop, List.map_take, List.map_drop, List.take_drop]
  rcases Nat.le_total a b with h | h
  · rw [Nat.add_sub_cancel' h]
  · rw [Nat.sub_eq_zero_of_le h, List.drop_eq_nil_of_le (by simp; omega), List.drop_eq_nil_of_le (by simp; omega)]
theorem toList_iff {s t : ByteArray} : s.toList = t.toList ↔ s = t := by
  rw [ByteArray.toList_eq, ByteArray.toList_eq]
  constructor
  · intro h
    obtain ⟨⟨l⟩⟩ := s
    obtain ⟨⟨m⟩⟩ := t
    simp only at h
    rw [h]
  · rintro rfl; rfl
theorem size_bytes (s : ByteArray) : (s.size : Int) = ((bytesOf s).length : Int) := by rw [bytesOf_length]
theorem getD_mid {α : Type} {l pre rest : List α} {b d : α} (h : l = pre ++ b :: rest) : l.getD ((pre.length : Int)).toNat d = b := by subst h; simp
theorem len_mid {α : Type} {l pre rest : List α} (h : l = pre ++ rest) : l.length = pre.length + rest.length := by rw [h, List.length_append]
theorem rd_mid {l pre rest : List Int} {b : Int} (h : l = pre ++ b :: rest) : rd l (pre.length : Int) = b := by
  subst h
  unfold rd
  simp
theorem bt_mid {s : ByteArray} {pre rest : List Int} {b : Int} (h : bytesOf s = pre ++ b :: rest) : bt s (pre.length : Int) = b := by
  rw [← rd_bytesOf]; exact rd_mid h
theorem size_mid {s : ByteArray} {pre rest : List Int} (h : bytesOf s = pre ++ rest) : (s.size : Int) = (pre.length : Int) + (rest.length : Int) := by
  rw [size_bytes, h]; simp
theorem mid_step {l pre rest : List Int} {b : Int} (h : l = pre ++ b :: rest) : l = (pre ++ [b]) ++ rest := by simp [h]
theorem wrap_id {n : Int} (h0 : -9223372036854775808 ≤ n) (h1 : n ≤ 9223372036854775807) : wrap64 n = n := by unfold wrap64; omega
theorem len_step {α : Type} (pre : List α) (b : α) (h : pre.length ≤ 9223372036854775000) : wrap64 ((pre.length : Int) + 1) = ((pre ++ [b]).length : Int) := by
  rw [wrap_id (by omega) (by omega)]; simp
/-! ### Loops over lists -/
theorem map_loop {α β : Type} (da : α) (conv : α → β) (x0 : List α) (hn : x0.length ≤ 4611686018427387904) (g : Nat → List β → Int → Option (List β))
    (hg : ∀ k x3 i, g (k + 1) x3 i = if i < (x0.length : Int) then (if 0 ≤ i then (if i < (x3.length : Int) then g k (x3.set (i : Int).toNat (conv (x0.getD i.toNat da))) (wrap64 (i + 1)) else none) else none) else some x3) (z : β) :
    Ev (fun k => g k (List.replicate x0.length z) 0) (x0.map conv) := by
  have key : ∀ rest pre, x0 = pre ++ rest → Ev (fun k => g k (pre.map conv ++ List.replicate rest.length z) (pre.length : Int)) (x0.map conv) := by
    intro rest
    induction rest with
    | nil =>
      intro pre h
      refine Ev.step (f := fun _ => some (x0.map conv)) (fun k => ?_) (Ev.now _)
      rw [hg, if_neg (by rw [h]; simp)]
      simp [h]
    | cons b rest ih =>
      intro pre h
      have hl : x0.length = pre.length + (rest.length + 1) := by rw [h]; simp
      refine Ev.step (f := fun k => g k ((pre ++ [b]).map conv ++ List.replicate rest.length z) ((pre ++ [b]).length : Int)) (fun k => ?_) (ih (pre ++ [b]) (by simp [h]))
      rw [hg, if_pos (by omega), if_pos (by omega), if_pos (by simp; omega), wrap_id (by omega) (by omega)]
      have e1 : x0.getD ((pre.length : Int)).toNat da = b := by rw [h]; simp
      rw [e1]
      congr 1
      · simp [List.replicate_succ, List.set_append]
      · simp
  exact key x0 [] rfl
theorem same_loop {α : Type} (a : List α) (hn : a.length ≤ 4611686018427387904) (g : Nat → Int → Option Bool)
    (hg : ∀ k i, 0 ≤ i → i < (a.length : Int) → g (k + 1) i = g k (wrap64 (i + 1))) (he : ∀ k, g (k + 1) (a.length : Int) = some true) : Ev (fun k => g k 0) true := by
  have key : ∀ d i : Nat, i + d = a.length → Ev (fun k => g k (i : Int)) true := by
    intro d
    induction d with
    | zero => intro i h; obtain rfl : i = a.length := by omega
              exact Ev.step he (Ev.now _)
    | succ d ih =>
      intro i h
      refine Ev.step (f := fun k => g k ((i + 1 : Nat) : Int)) (fun k => ?_) (ih (i + 1) (by omega))
      rw [hg k i (by omega) (by omega), wrap_id (by omega) (by omega)]; rfl
  exact key a.length 0 (by omega)
theorem Ev.mp {α : Type} {g f : Nat → Option α} {r : α} (h : Ev f r) (e : ∀ k, g k = f k) : Ev g r := Ev.congr e h
theorem Ev.step2 {α : Type} {g f : Nat → Option α} {r : α} (h : ∃ K, ∀ k, K ≤ k → g (k + 1) = f k) (e : Ev f r) : Ev g r := by
  obtain ⟨K, hK⟩ := h
  obtain ⟨K', hK'⟩ := e
  refine ⟨max K K' + 1, fun k hk => ?_⟩
  obtain ⟨k, rfl⟩ : ∃ m, k = m + 1 := ⟨k - 1, by omega⟩
  rw [hK k (by omega), hK' k (by omega)]
/-- Every element turned into the next of a row of marks. -/
def markL {α : Type} (mk : Int → α) (c : Nat) : Int → List α → List α
  | _, [] => []
  | k, _ :: r => mk k :: markL mk c (k + c) r
theorem markL_length {α : Type} (mk : Int → α) (c : Nat) (l : List α) : ∀ k, (markL mk c k l).length = l.length := by
  induction l with
  | nil => intro k; rfl
  | cons x r ih => intro k; simp [markL, ih]
theorem mark_loop {α : Type} (mk : Int → α) (c : Nat) (g : Nat → List α → Int → Int → Option (Int × List α)) (B : Int) (hB : B ≤ 4611686018427387904)
    (hg : ∀ (l : List α) (k0 i : Int), 0 ≤ i → i < (l.length : Int) → 0 ≤ k0 → k0 + c ≤ B → ∃ K, ∀ k, K ≤ k → g (k + 1) l k0 i = g k (l.set i.toNat (mk k0)) (k0 + c) (wrap64 (i + 1)))
    (he : ∀ k (l : List α) (k0 : Int), g (k + 1) l k0 (l.length : Int) = some (k0, l)) (l : List α) (hl : l.length ≤ 4611686018427387904) (k0 : Int) (h0 : 0 ≤ k0) (h1 : k0 + c * l.length ≤ B) :
    Ev (fun k => g k l k0 0) (k0 + c * l.length, markL mk c k0 l) := by
  have key : ∀ (rest pre : List α) (k0 : Int), 0 ≤ k0 → k0 + c * rest.length ≤ B → pre.length + rest.length ≤ 4611686018427387904 → Ev (fun k => g k (pre ++ rest) k0 (pre.length : Int)) (k0 + c * rest.length, pre ++ markL mk c k0 rest) := by
    intro rest
    induction rest with
    | nil =>
      intro pre k0 _ _ _
      refine Ev.step (f := fun _ => some (k0, pre)) (fun k => ?_) (by simpa [markL] using Ev.now _)
      have := he k pre k0
      simpa using this
    | cons x rest ih =>
      intro pre k0 h0 h1 h2
      simp only [List.length_cons] at h1 h2
      have hc : (c : Int) * ((rest.length + 1 : Nat) : Int) = c * rest.length + c := by rw [Int.natCast_add, Int.mul_add]; simp
      rw [hc] at h1
      have hcn : 0 ≤ (c : Int) * (rest.length : Int) := Int.mul_nonneg (by omega) (by omega)
      obtain ⟨K, hK⟩ := hg (pre ++ x :: rest) k0 (pre.length : Int) (by omega) (by simp; omega) h0 (by omega)
      have e := ih (pre ++ [mk k0]) (k0 + c) (by omega) (by omega) (by simp; omega)
      have e2 : (k0 + (c : Int)) + c * rest.length = k0 + c * ((x :: rest).length : Int) := by simp only [List.length_cons]; rw [hc]; omega
      rw [e2] at e
      refine Ev.step2 (f := fun k => g k (pre ++ [mk k0] ++ rest) (k0 + c) ((pre ++ [mk k0]).length : Int)) ⟨K, fun k hk => ?_⟩ (by simpa [markL] using e)
      rw [hK k hk, wrap_id (by omega) (by omega)]
      simp [List.set_append]
  have := key l [] k0 h0 h1 (by simpa using hl)
  simpa using this
theorem held_loop {α : Type} (mk : Int → α) (c : Nat) (l0 l : List α) (k0 : Int) (hl : l = markL mk c k0 l0) (g : Nat → Int → Int → Option Int) (B : Int) (hB : B ≤ 4611686018427387904)
    (hg : ∀ (k1 i : Int), 0 ≤ i → i < (l.length : Int) → 0 ≤ k1 → k1 + c ≤ B → l[i.toNat]? = some (mk k1) → ∃ K, ∀ k, K ≤ k → g (k + 1) k1 i = g k (k1 + c) (wrap64 (i + 1)))
    (he : ∀ k (k1 : Int), g (k + 1) k1 (l.length : Int) = some k1) (hn : l0.length ≤ 4611686018427387904) (h0 : 0 ≤ k0) (h1 : k0 + c * l0.length ≤ B) :
    Ev (fun k => g k k0 0) (k0 + c * l0.length) := by
  have hlen : l.length = l0.length := by rw [hl, markL_length]
  have key : ∀ (rest : List α) (pre : List α) (k1 : Int), l = pre ++ markL mk c k1 rest → 0 ≤ k1 → k1 + c * rest.length ≤ B → Ev (fun k => g k k1 (pre.length : Int)) (k1 + c * rest.length) := by
    intro rest
    induction rest with
    | nil =>
      intro pre k1 h _ _
      refine Ev.step (f := fun _ => some k1) (fun k => ?_) (by simpa using Ev.now _)
      have := he k k1
      rw [h] at this
      simpa [markL] using this
    | cons x rest ih =>
      intro pre k1 h h0 h1
      simp only [List.length_cons] at h1
      have hc : (c : Int) * ((rest.length + 1 : Nat) : Int) = c * rest.length + c := by rw [Int.natCast_add, Int.mul_add]; simp
      rw [hc] at h1
      have hcn : 0 ≤ (c : Int) * (rest.length : Int) := Int.mul_nonneg (by omega) (by omega)
      have hl2 : l.length = pre.length + (rest.length + 1) := by rw [h]; simp [markL_length]
      obtain ⟨K, hK⟩ := hg k1 (pre.length : Int) (by omega) (by omega) h0 (by omega) (by rw [h]; simp [markL])
      have e := ih (pre ++ [mk k1]) (k1 + c) (by rw [h]; simp [markL]) (by omega) (by omega)
      have e2 : (k1 + (c : Int)) + c * rest.length = k1 + c * ((x :: rest).length : Int) := by simp only [List.length_cons]; rw [hc]; omega
      rw [e2] at e
      refine Ev.step2 (f := fun k => g k (k1 + c) ((pre ++ [mk k1]).length : Int)) ⟨K, fun k hk => ?_⟩ e
      rw [hK k hk, wrap_id (by omega) (by omega)]
      simp
  exact key l0 [] k0 (by simpa using hl) h0 h1
theorem Ev.pos {α : Type} {c : Prop} [Decidable c] {f g : Nat → Option α} {r : α} (h : c) (e : Ev f r) : Ev (fun k => if c then f k else g k) r := by simp only [if_pos h]; exact e
theorem Ev.neg {α : Type} {c : Prop} [Decidable c] {f g : Nat → Option α} {r : α} (h : ¬ c) (e : Ev g r) : Ev (fun k => if c then f k else g k) r := by simp only [if_neg h]; exact e
theorem Ev.get {α β : Type} {f : Nat → α → Option β} {a : α} {r : β} (e : Ev (fun n => f n a) r) : Ev (fun n => (some a).bind (f n)) r := e
def cutI (sep : List Int) : List Int → List Int × List Int × Bool
  | [] => ([], [], false)
  | b :: r => if sep.isPrefixOf (b :: r) = true then ([], (b :: r).drop sep.length, true) else (b :: (cutI sep r).1, (cutI sep r).2)
def cutV (sep : List Int) (s : ByteArray) : ByteArray × ByteArray × Bool := (strOfNums (cutI sep (bytesOf s)).1, strOfNums (cutI sep (bytesOf s)).2.1, (cutI sep (bytesOf s)).2.2)
theorem prefix_map (u l : List UInt8) : (u.map fun b => (b.toNat : Int)).isPrefixOf (l.map fun b => (b.toNat : Int)) = u.isPrefixOf l := by
  induction u generalizing l with
  | nil => simp
  | cons a u ih =>
    cases l with
    | nil => rfl
    | cons b l =>
      simp only [List.map_cons, List.isPrefixOf, ih]
      congr 1
      by_cases h : a = b
      · subst h; simp
      · have : ¬ (a.toNat : Int) = (b.toNat : Int) := fun z => h (UInt8.toNat_inj.1 (by omega))
        rw [beq_eq_false_iff_ne.mpr h, beq_eq_false_iff_ne.mpr this]
theorem libcut_cons_hit {b : UInt8} {l sep : List UInt8} (h : sep.isPrefixOf (b :: l) = true) : Lib.cut (b :: l) sep = ([], (b :: l).drop sep.length, true) := by
  have e : Lib.index (b :: l) sep = 0 := by unfold Lib.index; rw [if_pos h]
  unfold Lib.cut
  rw [e]; simp
theorem libcut_cons_miss {b : UInt8} {l sep : List UInt8} (h : ¬ sep.isPrefixOf (b :: l) = true) : Lib.cut (b :: l) sep = (b :: (Lib.cut l sep).1, (Lib.cut l sep).2) := by
  have e : Lib.index (b :: l) sep = if (Lib.index l sep == -1) = true then -1 else Lib.index l sep + 1 := by rw [Lib.index, if_neg h]
  have hg := Lib.index_ge l sep
  unfold Lib.cut
  by_cases g : Lib.index l sep = -1
  · rw [e, g]; simp
  · have g2 : 0 ≤ Lib.index l sep := by omega
    have e0 : Lib.index (b :: l) sep = Lib.index l sep + 1 := by rw [e, if_neg (by simpa using g)]
    rw [e0, if_pos (by omega), if_pos g2]
    obtain ⟨n, hn⟩ : ∃ n : Nat, Lib.index l sep = n := ⟨(Lib.index l sep).toNat, by omega⟩
    rw [hn]
    have e1 : ((n : Int) + 1).toNat = n + 1 := by omega
    have e2 : (n : Int).toNat = n := by omega
    rw [e1, e2, List.take_succ_cons]
    have e3 : n + 1 + sep.length = (n + sep.length) + 1 := by omega
    rw [e3, List.drop_succ_cons]
theorem libcut_map (l sep : List UInt8) (hs : sep ≠ []) :
    ((Lib.cut l sep).1.map fun b => (b.toNat : Int)) = (cutI (sep.map fun b => (b.toNat : Int)) (l.map fun b => (b.toNat : Int))).1 ∧ ((Lib.cut l sep).2.1.map fun b => (b.toNat : Int)) = (cutI (sep.map fun b => (b.toNat : Int)) (l.map fun b => (b.toNat : Int))).2.1 ∧
    (Lib.cut l sep).2.2 = (cutI (sep.map fun b => (b.toNat : Int)) (l.map fun b => (b.toNat : Int))).2.2 := by
  induction l with
  | nil =>
    have e : Lib.cut [] sep = ([], [], false) := by
      unfold Lib.cut Lib.index
      cases sep with
      | nil => exact absurd rfl hs
      | cons a s => simp
    rw [e]; exact ⟨rfl, rfl, rfl⟩
  | cons b r ih =>
    have hp := prefix_map sep (b :: r)
    rw [List.map_cons] at hp ⊢
    by_cases h : sep.isPrefixOf (b :: r) = true
    · rw [libcut_cons_hit h]
      unfold cutI
      rw [if_pos (by rw [hp]; exact h)]
      refine ⟨rfl, ?_, rfl⟩
      simp only
      rw [List.map_drop, List.map_cons, List.length_map]
    · rw [libcut_cons_miss h]
      unfold cutI
      rw [if_neg (by rw [hp]; exact h)]
      refine ⟨?_, ih.2.1, ih.2.2⟩
      simp only [List.map_cons]
      rw [ih.1]
theorem cut_parts (sep l : List Int) : (cutI sep l).2.2 = true → l = (cutI sep l).1 ++ sep ++ (cutI sep l).2.1 := by
  induction l with
  | nil => intro h; simp [cutI] at h
  | cons b r ih =>
    unfold cutI
    split
    · rename_i h
      intro _
      simp only [List.nil_append]
      exact (List.prefix_iff_eq_append.1 (List.isPrefixOf_iff_prefix.1 h)).symm
    · intro h
      simp only at h ⊢
      have := ih h
      rw [List.cons_append, List.cons_append, ← this]
theorem cut_none (sep l : List Int) : (cutI sep l).2.2 = false → cutI sep l = (l, [], false) := by
  induction l with
  | nil => intro _; rfl
  | cons b r ih =>
    unfold cutI
    split
    · intro h; simp at h
    · intro h
      simp only at h
      rw [ih h]
def rdropI (p : Int → Bool) : List Int → List Int
  | [] => []
  | b :: r => if rdropI p r = [] ∧ p b = true then [] else b :: rdropI p r
def trimP (p : Int → Bool) (l : List Int) : List Int := (rdropI p l).dropWhile p
def blankI (b : Int) : Bool := b == 32 || b == 9
theorem rdropI_concat (p : Int → Bool) (l : List Int) (b : Int) : rdropI p (l ++ [b]) = if p b = true then rdropI p l else l ++ [b] := by
  induction l with
  | nil => by_cases h : p b = true <;> simp [rdropI, h]
  | cons x r ih =>
    by_cases h : p b = true
    · rw [if_pos h] at ih ⊢
      simp only [List.cons_append, rdropI, ih]
    · rw [if_neg h] at ih ⊢
      simp only [List.cons_append, rdropI, ih]
      rw [if_neg (by simp)]
theorem rdropI_eq (p : Int → Bool) (l : List Int) : (l.reverse.dropWhile p).reverse = rdropI p l := by
  obtain ⟨n, hn⟩ : ∃ n, l.length = n := ⟨_, rfl⟩
  induction n generalizing l with
  | zero => obtain rfl := List.eq_nil_of_length_eq_zero hn; rfl
  | succ n ih =>
    rcases List.eq_nil_or_concat l with h | ⟨r, b, h⟩
    · subst h; rfl
    · subst h
      rw [List.concat_eq_append, rdropI_concat, List.reverse_append]
      simp only [List.reverse_cons, List.reverse_nil, List.nil_append, List.singleton_append, List.dropWhile_cons]
      by_cases hb : p b = true
      · rw [if_pos hb, if_pos hb]
        exact ih r (by simp at hn; omega)
      · rw [if_neg hb, if_neg hb]; simp
theorem rdropI_length (p : Int → Bool) (l : List Int) : (rdropI p l).length ≤ l.length := by
  induction l with
  | nil => simp [rdropI]
  | cons b r ih => unfold rdropI; split <;> simp only [List.length_nil, List.length_cons] <;> omega
theorem rdropI_all (p : Int → Bool) (l : List Int) : rdropI p l = [] ↔ ∀ x ∈ l, p x = true := by
  induction l with
  | nil => simp [rdropI]
  | cons b r ih =>
    unfold rdropI
    split
    · rename_i h
      simp only [List.mem_cons, forall_eq_or_imp, true_iff]
      exact ⟨h.2, ih.1 h.1⟩
    · rename_i h
      simp only [List.mem_cons, forall_eq_or_imp, reduceCtorEq, false_iff]
      exact fun g => h ⟨ih.2 g.2, g.1⟩
/-- It is all one which end goes first. -/
theorem drop_rdrop (p : Int → Bool) (l : List Int) : (rdropI p l).dropWhile p = rdropI p (l.dropWhile p) := by
  induction l with
  | nil => rfl
  | cons b r ih =>
    by_cases h : p b = true
    · rw [List.dropWhile_cons_of_pos h]
      by_cases g : rdropI p r = []
      · have e : rdropI p (b :: r) = [] := by unfold rdropI; rw [if_pos ⟨g, h⟩]
        rw [e, ← ih, g]
      · have e : rdropI p (b :: r) = b :: rdropI p r := by rw [rdropI, if_neg (fun z => g z.1)]
        rw [e, List.dropWhile_cons_of_pos h, ih]
    · have e : rdropI p (b :: r) = b :: rdropI p r := by rw [rdropI, if_neg (fun z => h z.2)]
      rw [e, List.dropWhile_cons_of_neg h, List.dropWhile_cons_of_neg h, e]
theorem trimP_length (p : Int → Bool) (l : List Int) : (trimP p l).length ≤ l.length :=
  Nat.le_trans (List.dropWhile_sublist p).length_le (rdropI_length p l)
theorem dropWhile_mem {p : Int → Bool} {l : List Int} {x : Int} (h : x ∈ l.dropWhile p) : x ∈ l := (List.dropWhile_sublist p).subset h
theorem rdropI_mem {p : Int → Bool} {l : List Int} {x : Int} (h : x ∈ rdropI p l) : x ∈ l := by
  rw [← rdropI_eq] at h
  have := dropWhile_mem (List.mem_reverse.1 h)
  exact List.mem_reverse.1 this
theorem trimP_mem {p : Int → Bool} {l : List Int} {x : Int} (h : x ∈ trimP p l) : x ∈ l := rdropI_mem (dropWhile_mem h)
theorem InB_trim {p : Int → Bool} {l : List Int} (h : InB l) : InB (trimP p l) := fun x hx => h x (trimP_mem hx)
theorem rdropI_nil_cons {p : Int → Bool} {l : List Int} : rdropI p (rdropI p l) = rdropI p l := by
  induction l with
  | nil => rfl
  | cons b r ih =>
    by_cases g : rdropI p r = [] ∧ p b = true
    · have e : rdropI p (b :: r) = [] := by rw [rdropI, if_pos g]
      rw [e]; rfl
    · have e : rdropI p (b :: r) = b :: rdropI p r := by rw [rdropI, if_neg g]
      rw [e, rdropI, ih, if_neg g]
theorem dropWhile_idem (p : Int → Bool) (l : List Int) : (l.dropWhile p).dropWhile p = l.dropWhile p := by
  induction l with
  | nil => rfl
  | cons b r ih =>
    by_cases h : p b = true
    · rw [List.dropWhile_cons_of_pos h, ih]
    · rw [List.dropWhile_cons_of_neg h, List.dropWhile_cons_of_neg h]
theorem trimP_idem (p : Int → Bool) (l : List Int) : trimP p (trimP p l) = trimP p l := by
  unfold trimP
  rw [drop_rdrop p (List.dropWhile p (rdropI p l)), dropWhile_idem, ← drop_rdrop, rdropI_nil_cons]
def trimV (s : ByteArray) : ByteArray := strOfNums (trimP blankI (bytesOf s))
theorem bytesOf_trimV (s : ByteArray) : bytesOf (trimV s) = trimP blankI (bytesOf s) := bytesOf_strOf (InB_trim (InB_bytes s))
theorem trimV_size (s : ByteArray) : (trimV s).size ≤ s.size := by
  rw [← bytesOf_length, ← bytesOf_length, bytesOf_trimV]; exact trimP_length _ _
/-! ### A text divided at commas outside quoted strings -/
def cutL (q : Bool) (cur l : List Int) : List (List Int) :=
  match l with
  | [] => [cur]
  | b :: r =>
    if q = true ∧ b = 92 then (match r with
      | [] => [cur ++ [b]]
      | c :: r' => cutL q (cur ++ [b, c]) r')
    else if b = 34 then cutL (!q) (cur ++ [b]) r
    else if q = false ∧ b = 44 then cur :: cutL false [] r
    else cutL q (cur ++ [b]) r
termination_by l.length
decreasing_by all_goals simp only [List.length_cons]; omega
theorem cutL_nil (q : Bool) (cur : List Int) : cutL q cur [] = [cur] := by unfold cutL; rfl
theorem cutL_last (cur : List Int) : cutL true cur [92] = [cur ++ [92]] := by unfold cutL; simp
theorem cutL_esc (cur : List Int) (c : Int) (r : List Int) : cutL true cur (92 :: c :: r) = cutL true (cur ++ [92, c]) r := by rw [cutL.eq_def]; simp
theorem cutL_quote (q : Bool) (cur r : List Int) : cutL q cur (34 :: r) = cutL (!q) (cur ++ [34]) r := by rw [cutL.eq_def]; simp
theorem cutL_comma (cur r : List Int) : cutL false cur (44 :: r) = cur :: cutL false [] r := by rw [cutL.eq_def]; simp
theorem cutL_other (q : Bool) (cur r : List Int) (b : Int) (h1 : ¬ (q = true ∧ b = 92)) (h2 : b ≠ 34) (h3 : ¬ (q = false ∧ b = 44)) : cutL q cur (b :: r) = cutL q (cur ++ [b]) r := by
  rw [cutL.eq_def]
  simp only
  rw [if_neg h1, if_neg h2, if_neg h3]
/-- One way through a text at a time: what the five cases of cutL are good for. -/
theorem cut_cases {p : Bool → List Int → Prop} (hnil : ∀ q, p q []) (hlast : p true [92]) (hesc : ∀ c r, p true r → p true (92 :: c :: r)) (hquote : ∀ q r, p (!q) r → p q (34 :: r)) (hcomma : ∀ r, p false r → p false (44 :: r))
    (hother : ∀ q b r, ¬ (q = true ∧ b = 92) → b ≠ 34 → ¬ (q = false ∧ b = 44) → p q r → p q (b :: r)) : ∀ (n : Nat) (q : Bool) (l : List Int), l.length ≤ n → p q l := by
  intro n
  induction n with
  | zero => intro q l h; obtain rfl : l = [] := List.eq_nil_of_length_eq_zero (by omega); exact hnil q
  | succ n ih =>
    intro q l h
    match l, h with
    | [], _ => exact hnil q
    | b :: r, h =>
      simp only [List.length_cons] at h
      by_cases h1 : q = true ∧ b = 92
      · obtain ⟨rfl, rfl⟩ := h1
        match r, h with
        | [], _ => exact hlast
        | c :: r', h => exact hesc c r' (ih true r' (by simp only [List.length_cons] at h; omega))
      · by_cases h2 : b = 34
        · subst h2; exact hquote q r (ih _ r (by omega))
        · by_cases h3 : q = false ∧ b = 44
          · obtain ⟨rfl, rfl⟩ := h3; exact hcomma r (ih _ r (by omega))
          · exact hother q b r h1 h2 h3 (ih q r (by omega))
theorem cut_ind {p : Bool → List Int → Prop} (hnil : ∀ q, p q []) (hlast : p true [92]) (hesc : ∀ c r, p true r → p true (92 :: c :: r)) (hquote : ∀ q r, p (!q) r → p q (34 :: r)) (hcomma : ∀ r, p false r → p false (44 :: r))
    (hother : ∀ q b r, ¬ (q = true ∧ b = 92) → b ≠ 34 → ¬ (q = false ∧ b = 44) → p q r → p q (b :: r)) (q : Bool) (l : List Int) : p q l := cut_cases hnil hlast hesc hquote hcomma hother l.length q l (Nat.le_refl _)
def splitL (l : List Int) : List (List Int) := ((cutL false [] l).map (trimP blankI)).filter (fun x => decide (x ≠ []))
def splitV (s : ByteArray) : List ByteArray := (splitL (bytesOf s)).map strOfNums
theorem cutL_mem (q : Bool) (l : List Int) : ∀ (cur : List Int) (S : Int → Prop), (∀ x ∈ cur, S x) → (∀ x ∈ l, S x) → ∀ m ∈ cutL q cur l, ∀ x ∈ m, S x := by
  refine cut_ind (p := fun q l => ∀ (cur : List Int) (S : Int → Prop), (∀ x ∈ cur, S x) → (∀ x ∈ l, S x) → ∀ m ∈ cutL q cur l, ∀ x ∈ m, S x) ?_ ?_ ?_ ?_ ?_ ?_ q l
  · intro q cur S h0 h1 m hm; rw [cutL_nil] at hm; simp at hm; subst hm; exact h0
  · intro cur S h0 h1 m hm; rw [cutL_last] at hm; simp at hm; subst hm
    intro x hx; rcases List.mem_append.1 hx with g | g
    · exact h0 x g
    · exact h1 x g
  · intro c r ih cur S h0 h1 m hm
    rw [cutL_esc] at hm
    exact ih _ S (by intro x hx; rcases List.mem_append.1 hx with g | g
                     · exact h0 x g
                     · refine h1 x ?_; simp at g ⊢; rcases g with g | g <;> simp [g]) (fun x hx => h1 x (by simp [hx])) m hm
  · intro q r ih cur S h0 h1 m hm
    rw [cutL_quote] at hm
    exact ih _ S (by intro x hx; rcases List.mem_append.1 hx with g | g
                     · exact h0 x g
                     · exact h1 x (by simp at g; simp [g])) (fun x hx => h1 x (by simp [hx])) m hm
  · intro r ih cur S h0 h1 m hm
    rw [cutL_comma] at hm
    rcases List.mem_cons.1 hm with g | g
    · subst g; exact h0
    · exact ih [] S (by simp) (fun x hx => h1 x (by simp [hx])) m g
  · intro q b r g1 g2 g3 ih cur S h0 h1 m hm
    rw [cutL_other q cur r b g1 g2 g3] at hm
    exact ih _ S (by intro x hx; rcases List.mem_append.1 hx with g | g
                     · exact h0 x g
                     · exact h1 x (by simp at g; simp [g])) (fun x hx => h1 x (by simp [hx])) m hm
theorem cutL_total (q : Bool) (l : List Int) : ∀ cur : List Int, (cutL q cur l).length + ((cutL q cur l).map List.length).sum ≤ cur.length + l.length + 1 := by
  refine cut_ind (p := fun q l => ∀ cur : List Int, (cutL q cur l).length + ((cutL q cur l).map List.length).sum ≤ cur.length + l.length + 1) ?_ ?_ ?_ ?_ ?_ ?_ q l
  · intro q cur; rw [cutL_nil]; simp; omega
  · intro cur; rw [cutL_last]; simp; omega
  · intro c r ih cur; rw [cutL_esc]; have := ih (cur ++ [92, c]); simp only [List.length_append, List.length_cons, List.length_nil] at this ⊢; omega
  · intro q r ih cur; rw [cutL_quote]; have := ih (cur ++ [34]); simp only [List.length_append, List.length_cons, List.length_nil] at this ⊢; omega
  · intro r ih cur; rw [cutL_comma]; have := ih []; simp only [List.length_cons, List.length_nil, List.map_cons, List.sum_cons] at this ⊢; omega
  · intro q b r g1 g2 g3 ih cur; rw [cutL_other q cur r b g1 g2 g3]; have := ih (cur ++ [b]); simp only [List.length_append, List.length_cons, List.length_nil] at this ⊢; omega
theorem cutL_prepend (q : Bool) (l : List Int) : ∀ c1 c2 : List Int, ∃ h t, cutL q c2 l = h :: t ∧ cutL q (c1 ++ c2) l = (c1 ++ h) :: t := by
  refine cut_ind (p := fun q l => ∀ c1 c2 : List Int, ∃ h t, cutL q c2 l = h :: t ∧ cutL q (c1 ++ c2) l = (c1 ++ h) :: t) ?_ ?_ ?_ ?_ ?_ ?_ q l
  · intro q c1 c2; exact ⟨c2, [], by rw [cutL_nil], by rw [cutL_nil]⟩
  · intro c1 c2; exact ⟨c2 ++ [92], [], by rw [cutL_last], by rw [cutL_last]; simp⟩
  · intro c r ih c1 c2; rw [cutL_esc, cutL_esc, List.append_assoc]; exact ih c1 _
  · intro q r ih c1 c2; rw [cutL_quote, cutL_quote, List.append_assoc]; exact ih c1 _
  · intro r ih c1 c2; rw [cutL_comma, cutL_comma]; exact ⟨c2, _, rfl, rfl⟩
  · intro q b r g1 g2 g3 ih c1 c2; rw [cutL_other q _ r b g1 g2 g3, cutL_other q _ r b g1 g2 g3, List.append_assoc]; exact ih c1 _
theorem splitL_mem {l m : List Int} (h : m ∈ splitL l) : m ≠ [] ∧ trimP blankI m = m ∧ ∃ x, x ∈ cutL false [] l ∧ m = trimP blankI x := by
  unfold splitL at h
  obtain ⟨h1, h2⟩ := List.mem_filter.1 h
  obtain ⟨x, hx, rfl⟩ := List.mem_map.1 h1
  exact ⟨of_decide_eq_true h2, trimP_idem _ _, x, hx, rfl⟩
theorem InB_split {l : List Int} (hl : InB l) : ∀ m ∈ splitL l, InB m := by
  intro m hm
  obtain ⟨_, _, x, hx, rfl⟩ := splitL_mem hm
  exact InB_trim (cutL_mem false l [] (fun x => 0 ≤ x ∧ x ≤ 255) (by simp) hl x hx)
theorem splitL_total (l : List Int) : (splitL l).length + ((splitL l).map List.length).sum ≤ l.length + 1 := by
  have h := cutL_total false l []
  unfold splitL
  have aux : ∀ L : List (List Int), ((L.map (trimP blankI)).filter (fun x => decide (x ≠ []))).length + (((L.map (trimP blankI)).filter (fun x => decide (x ≠ []))).map List.length).sum ≤ L.length + (L.map List.length).sum := by
    intro L
    induction L with
    | nil => simp
    | cons x r ih =>
      have := trimP_length blankI x
      simp only [List.map_cons, List.sum_cons, List.length_cons]
      by_cases g : trimP blankI x = []
      · rw [List.filter_cons_of_neg (by simp [g])]; omega
      · rw [List.filter_cons_of_pos (by simp [g])]; simp only [List.length_cons, List.map_cons, List.sum_cons]; omega
  have := aux (cutL false [] l)
  simp only [List.length_nil] at h
  omega
theorem ext_mid {s : ByteArray} {pre cur rest : List Int} (h : bytesOf s = pre ++ cur ++ rest) : s.extract pre.length (pre.length + cur.length) = strOfNums cur := by
  apply bytesOf_inj
  have hb : InB cur := by have := InB_bytes s; rw [h, InB_append, InB_append] at this; exact this.1.2
  rw [bytesOf_strOf hb, bytesOf_extract, h]
  rw [show pre.length + cur.length = (pre ++ cur).length by simp, List.take_left, List.drop_left]
theorem ext_end {s : ByteArray} {pre cur : List Int} (h : bytesOf s = pre ++ cur) : s.extract pre.length s.size = strOfNums cur := by
  have e := ext_mid (s := s) (pre := pre) (cur := cur) (rest := []) (by simpa using h)
  have : s.size = pre.length + cur.length := by rw [← bytesOf_length, h, List.length_append]
  rw [this]; exact e
/-- The parts, trimmed, without the empty ones. -/
def partsV (m : List (List Int)) : List ByteArray := ((m.map (trimP blankI)).filter (fun x => decide (x ≠ []))).map strOfNums
theorem splitV_parts (s : ByteArray) : splitV s = partsV (cutL false [] (bytesOf s)) := rfl
theorem rdS_mid2 {l pre rest : List ByteArray} {x : ByteArray} (h : l = pre ++ x :: rest) : rdOf ByteArray.empty l (pre.length : Int) = x := getD_mid h
theorem partsV_nil : partsV [] = [] := rfl
theorem partsV_cons (x : List Int) (m : List (List Int)) : partsV (x :: m) = (if trimP blankI x = [] then [] else [strOfNums (trimP blankI x)]) ++ partsV m := by
  unfold partsV
  by_cases h : trimP blankI x = []
  · simp [h]
  · simp [h]
theorem partsV_append (a b : List (List Int)) : partsV (a ++ b) = partsV a ++ partsV b := by unfold partsV; simp
theorem partsV_len (m : List (List Int)) : (partsV m).length ≤ m.length := by
  unfold partsV
  rw [List.length_map]
  exact Nat.le_trans (List.length_filter_le _ _) (by simp)
theorem trimV_of {x : List Int} (h : InB x) : trimV (strOfNums x) = strOfNums (trimP blankI x) := by unfold trimV; rw [bytesOf_strOf h]
theorem strOf_nil {x : List Int} : (strOfNums x).toList = ([] : List UInt8) ↔ x = [] := by
  have e : ([] : List UInt8) = (⟨#[]⟩ : ByteArray).toList := by rw [ByteArray.toList_eq]
  rw [e, toList_iff]
  constructor
  · intro h
    have : (strOfNums x).size = 0 := by rw [h]; rfl
    rw [strOfNums_size] at this
    exact List.eq_nil_of_length_eq_zero this
  · rintro rfl; rfl
theorem mem_len_le {L : List (List Int)} {m : List Int} (h : m ∈ L) : m.length ≤ (L.map List.length).sum := by
  induction L with
  | nil => simp at h
  | cons x r ih =>
    simp only [List.map_cons, List.sum_cons]
    rcases List.mem_cons.1 h with g | g
    · subst g; omega
    · have := ih g; omega
theorem split_sizes (s : ByteArray) : ∀ t ∈ splitV s, t.size ≤ s.size + 1 := by
  intro t ht
  unfold splitV at ht
  obtain ⟨m, hm, rfl⟩ := List.mem_map.1 ht
  have h1 := splitL_total (bytesOf s)
  have h2 := mem_len_le hm
  rw [bytesOf_length] at h1
  rw [strOfNums_size]; omega
theorem split_count (s : ByteArray) : (splitV s).length ≤ s.size + 1 := by
  have := splitL_total (bytesOf s)
  rw [bytesOf_length] at this
  unfold splitV
  rw [List.length_map]; omega
theorem scan_loop {α : Type} (s : ByteArray) (hs : s.size ≤ 4611686018427387904) (c : Int) (g : Nat → Int → Option α) (hg : ∀ k i, 0 ≤ i → i < (s.size : Int) → bt s i ≠ c → g (k + 1) i = g k (wrap64 (i + 1))) (r : α) (he : Ev (fun k => g k ((cutI [c] (bytesOf s)).1.length : Int)) r) : Ev (fun k => g k 0) r := by
  have key : ∀ rest pre, bytesOf s = pre ++ rest → (cutI [c] (bytesOf s)).1.length = pre.length + (cutI [c] rest).1.length → Ev (fun k => g k (pre.length : Int)) r := by
    intro rest
    induction rest with
    | nil => intro pre h e; rw [e] at he; simpa [cutI] using he
    | cons b rest ih =>
      intro pre h e
      by_cases q : b = c
      · subst q
        have : (cutI [b] (b :: rest)).1 = [] := by unfold cutI; simp
        rw [this] at e; rw [e] at he; simpa using he
      · have hz := size_mid h
        simp only [List.length_cons] at hz
        have hc : (cutI [c] (b :: rest)).1 = b :: (cutI [c] rest).1 := by
          conv => lhs; unfold cutI
          rw [if_neg (by simpa using Ne.symm q)]
        refine Ev.step (f := fun k => g k ((pre ++ [b]).length : Int)) (fun k => ?_) (ih (pre ++ [b]) (by simp [h]) (by rw [e, hc]; simp; omega))
        rw [hg k _ (by omega) (by omega) (by rw [bt_mid h]; exact q), len_step pre b (by omega)]
  exact key (bytesOf s) [] rfl (by simp)
theorem cut_hit (c : Int) (l : List Int) (h : (cutI [c] l).2.2 = true) : l = (cutI [c] l).1 ++ c :: (cutI [c] l).2.1 := by
  have := cut_parts [c] l h
  simpa using this
theorem cut_miss (sep l : List Int) (h : ¬ (cutI sep l).2.2 = true) : (cutI sep l).1 = l ∧ (cutI sep l).2.1 = [] := by
  have := cut_none sep l (by simpa using h)
  rw [this]; exact ⟨rfl, rfl⟩
theorem cut_first (c : Int) (l : List Int) : ∀ x ∈ (cutI [c] l).1, x ≠ c := by
  induction l with
  | nil => intro x hx; simp [cutI] at hx
  | cons b r ih =>
    intro x hx
    by_cases q : b = c
    · subst q
      have : (cutI [b] (b :: r)).1 = [] := by unfold cutI; simp
      rw [this] at hx; simp at hx
    · have hc : (cutI [c] (b :: r)).1 = b :: (cutI [c] r).1 := by
        conv => lhs; unfold cutI
        rw [if_neg (by simpa using Ne.symm q)]
      rw [hc] at hx
      rcases List.mem_cons.1 hx with e | e
      · subst e; exact q
      · exact ih x e
/-- A cut at a sign that does not stand ahead. -/
theorem cut_at (c : Int) (a r : List Int) (h : ∀ x ∈ a, x ≠ c) : cutI [c] (a ++ c :: r) = (a, r, true) := by
  induction a with
  | nil => unfold cutI; simp
  | cons b a ih =>
    have hb := h b (by simp)
    rw [List.cons_append]
    conv => lhs; unfold cutI
    rw [if_neg (by simpa using Ne.symm hb), ih (fun x hx => h x (by simp [hx]))]
theorem cut_not (c : Int) (a : List Int) (h : ∀ x ∈ a, x ≠ c) : cutI [c] a = (a, [], false) := by
  induction a with
  | nil => rfl
  | cons b a ih =>
    have hb := h b (by simp)
    conv => lhs; unfold cutI
    rw [if_neg (by simpa using Ne.symm hb), ih (fun x hx => h x (by simp [hx]))]
/-! ### Decimal numerals -/
def numL (n : Nat) : List Int := if h : n < 10 then [48 + (n : Int)] else numL (n / 10) ++ [48 + ((n % 10 : Nat) : Int)]
termination_by n
decreasing_by omega
theorem numL_small {n : Nat} (h : n < 10) : numL n = [48 + (n : Int)] := by rw [numL, dif_pos h]
theorem numL_big {n : Nat} (h : ¬ n < 10) : numL n = numL (n / 10) ++ [48 + ((n % 10 : Nat) : Int)] := by rw [numL, dif_neg h]
def valL (l : List Int) : Int := l.foldl (fun a b => 10 * a + (b - 48)) 0
theorem valL_concat (l : List Int) (b : Int) : valL (l ++ [b]) = 10 * valL l + (b - 48) := by unfold valL; rw [List.foldl_append]; rfl
theorem num_ind {p : Nat → Prop} (h0 : ∀ n, n < 10 → p n) (h1 : ∀ n, ¬ n < 10 → p (n / 10) → p n) (n : Nat) : p n := by
  induction n using Nat.strongRecOn with
  | _ n ih =>
    by_cases h : n < 10
    · exact h0 n h
    · exact h1 n h (ih (n / 10) (by omega))
theorem valL_num (n : Nat) : valL (numL n) = n := by
  induction n using num_ind with
  | h0 n h => rw [numL_small h]; simp [valL]; omega
  | h1 n h ih => rw [numL_big h, valL_concat, ih]; omega
theorem numL_digits (n : Nat) : ∀ x ∈ numL n, 48 ≤ x ∧ x ≤ 57 := by
  induction n using num_ind with
  | h0 n h => rw [numL_small h]; simp; omega
  | h1 n h ih =>
    rw [numL_big h]
    intro x hx
    rcases List.mem_append.1 hx with g | g
    · exact ih x g
    · simp at g; omega
theorem numL_ne (n : Nat) : numL n ≠ [] := by
  induction n using num_ind with
  | h0 n h => rw [numL_small h]; simp
  | h1 n h ih => rw [numL_big h]; simp
theorem numL_len (d : Nat) : ∀ n, n < 10 ^ (d + 1) → (numL n).length ≤ d + 1 := by
  induction d with
  | zero => intro n h; rw [numL_small (by simpa using h)]; simp
  | succ d ih =>
    intro n h
    by_cases g : n < 10
    · rw [numL_small g]; simp
    · rw [numL_big g, List.length_append]
      have := ih (n / 10) (by rw [Nat.pow_succ] at h; omega)
      simp; omega
theorem InB_digits {l : List Int} (h : ∀ x ∈ l, 48 ≤ x ∧ x ≤ 57) : InB l := fun x hx => by have := h x hx; omega
def fmtL (n : Int) : List Int := if n < 0 then 45 :: numL n.natAbs else numL n.toNat
def fmtV (n : Int) : ByteArray := strOfNums (fmtL n)
theorem InB_fmt (n : Int) : InB (fmtL n) := by
  unfold fmtL
  split
  · rw [InB_cons]; exact ⟨by omega, InB_digits (numL_digits _)⟩
  · exact InB_digits (numL_digits _)
theorem bytesOf_fmt (n : Int) : bytesOf (fmtV n) = fmtL n := bytesOf_strOf (InB_fmt n)
theorem valL_fmt {n : Int} (h : 0 ≤ n) : valL (fmtL n) = n := by
  unfold fmtL; rw [if_neg (by omega), valL_num]; omega
theorem fmtL_pos {n : Int} (h : 0 ≤ n) : fmtL n = numL n.toNat := by unfold fmtL; rw [if_neg (by omega)]
theorem fmtL_len (n : Int) (h0 : -9223372036854775808 ≤ n) (h1 : n ≤ 9223372036854775807) : (fmtL n).length ≤ 20 := by
  unfold fmtL
  split
  · have := numL_len 18 n.natAbs (by omega)
    simp only [List.length_cons]; omega
  · have := numL_len 18 n.toNat (by omega)
    omega
/-- The value of a text that is an integer's decimal form, up to a million millions. -/
def parseV (s : ByteArray) : Int × Bool := if 0 ≤ valL (bytesOf s) ∧ valL (bytesOf s) ≤ 1000000000000 ∧ fmtL (valL (bytesOf s)) = bytesOf s then (valL (bytesOf s), true) else (0, false)
theorem parseV_fmt {n : Int} (h0 : 0 ≤ n) (h1 : n ≤ 1000000000000) : parseV (fmtV n) = (n, true) := by
  unfold parseV
  rw [bytesOf_fmt, valL_fmt h0, if_pos ⟨h0, h1, rfl⟩]
theorem parseV_true {s : ByteArray} {n : Int} (h : parseV s = (n, true)) : 0 ≤ n ∧ n ≤ 1000000000000 ∧ s = fmtV n := by
  unfold parseV at h
  split at h
  · rename_i g
    simp only [Prod.mk.injEq, and_true] at h
    subst h
    exact ⟨g.1, g.2.1, bytesOf_inj (by rw [bytesOf_fmt, g.2.2])⟩
  · simp at h
theorem parseV_no {s : ByteArray} (h : ¬ (0 ≤ valL (bytesOf s) ∧ valL (bytesOf s) ≤ 1000000000000 ∧ fmtL (valL (bytesOf s)) = bytesOf s)) : parseV s = (0, false) := by unfold parseV; rw [if_neg h]
/-- What an ask's text says: from, to, and whether it is an ask. -/
def askP (l : List Int) : Int × Int × Bool :=
  if (cutI [45] l).2.2 = true then
    (if (cutI [45] l).1 = [] then (if (parseV (strOfNums (cutI [45] l).2.1)).2 = true then (-1, (parseV (strOfNums (cutI [45] l).2.1)).1, true) else (0, 0, false))
     else if (cutI [45] l).2.1 = [] then (if (parseV (strOfNums (cutI [45] l).1)).2 = true then ((parseV (strOfNums (cutI [45] l).1)).1, -1, true) else (0, 0, false))
     else if (parseV (strOfNums (cutI [45] l).1)).2 = true ∧ (parseV (strOfNums (cutI [45] l).2.1)).2 = true ∧ (parseV (strOfNums (cutI [45] l).1)).1 ≤ (parseV (strOfNums (cutI [45] l).2.1)).1
       then ((parseV (strOfNums (cutI [45] l).1)).1, (parseV (strOfNums (cutI [45] l).2.1)).1, true) else (0, 0, false))
  else (0, 0, false)
theorem parse_empty : parseV (strOfNums []) = (0, false) := by
  unfold parseV
  rw [bytesOf_strOf InB_nil]
  have e : fmtL (valL []) = [48] := by
    rw [show valL [] = 0 from rfl, fmtL_pos (by omega)]
    exact numL_small (by decide)
  rw [e, if_neg (by simp)]
theorem parse_cases (s : ByteArray) : (∃ n, parseV s = (n, true) ∧ 0 ≤ n ∧ n ≤ 1000000000000) ∨ parseV s = (0, false) := by
  unfold parseV
  split
  · rename_i h; exact .inl ⟨_, rfl, h.1, h.2.1⟩
  · exact .inr rfl
def goodA (a b : Int) : Prop := (a = -1 ∧ 0 ≤ b ∧ b ≤ 1000000000000) ∨ (0 ≤ a ∧ a ≤ 1000000000000 ∧ b = -1) ∨ (0 ≤ a ∧ a ≤ b ∧ b ≤ 1000000000000)
theorem askP_good (l : List Int) (h : (askP l).2.2 = true) : goodA (askP l).1 (askP l).2.1 := by
  unfold askP at h ⊢
  unfold goodA
  by_cases h0 : (cutI [45] l).2.2 = true
  · simp only [if_pos h0] at h ⊢
    by_cases h1 : (cutI [45] l).1 = []
    · simp only [if_pos h1] at h ⊢
      rcases parse_cases (strOfNums (cutI [45] l).2.1) with ⟨m, e2, c1, c2⟩ | e2
      · simp only [e2, if_true]; exact .inl ⟨trivial, c1, c2⟩
      · simp [e2] at h
    · simp only [if_neg h1] at h ⊢
      by_cases h2 : (cutI [45] l).2.1 = []
      · simp only [if_pos h2] at h ⊢
        rcases parse_cases (strOfNums (cutI [45] l).1) with ⟨m, e2, c1, c2⟩ | e2
        · simp only [e2, if_true]; exact .inr (.inl ⟨c1, c2, trivial⟩)
        · simp [e2] at h
      · simp only [if_neg h2] at h ⊢
        by_cases h3 : (parseV (strOfNums (cutI [45] l).1)).2 = true ∧ (parseV (strOfNums (cutI [45] l).2.1)).2 = true ∧ (parseV (strOfNums (cutI [45] l).1)).1 ≤ (parseV (strOfNums (cutI [45] l).2.1)).1
        · simp only [if_pos h3]
          obtain ⟨g1, g2, g3⟩ := h3
          rcases parse_cases (strOfNums (cutI [45] l).1) with ⟨n, e1, b1, b2⟩ | e1
          · rcases parse_cases (strOfNums (cutI [45] l).2.1) with ⟨m, e2, c1, c2⟩ | e2
            · rw [e1, e2] at g3 ⊢
              exact .inr (.inr ⟨b1, g3, c2⟩)
            · rw [e2] at g2; simp at g2
          · rw [e1] at g1; simp at g1
        · simp [h3] at h
  · simp [h0] at h
def preOf (p l : List Int) : Bool := decide (l.take p.length = p)
def restOf (p l : List Int) : List Int := if preOf p l = true then l.drop p.length else l
theorem preOf_len {p l : List Int} (h : preOf p l = true) : p.length ≤ l.length := by
  have := congrArg List.length (of_decide_eq_true h)
  rw [List.length_take] at this
  omega
theorem preOf_app {p l : List Int} (h : preOf p l = true) : l = p ++ l.drop p.length := by
  have := List.take_append_drop p.length l
  rw [of_decide_eq_true h] at this
  exact this.symm
theorem ext_drop (s : ByteArray) (n : Nat) : s.extract n s.size = strOfNums ((bytesOf s).drop n) := by
  apply bytesOf_inj
  rw [bytesOf_strOf (InB_drop n (InB_bytes s)), bytesOf_extract, ← bytesOf_length, List.take_length]
theorem ext_take (s : ByteArray) (n : Nat) : s.extract 0 n = strOfNums ((bytesOf s).take n) := by
  apply bytesOf_inj
  rw [bytesOf_strOf (InB_take n (InB_bytes s)), bytesOf_extract, List.drop_zero]
theorem take_eq_iff (s p : ByteArray) : s.extract 0 p.size = p ↔ preOf (bytesOf p) (bytesOf s) = true := by
  unfold preOf
  rw [decide_eq_true_eq, bytesOf_length, ext_take]
  constructor
  · intro h
    rw [← bytesOf_strOf (InB_take p.size (InB_bytes s)), h]
  · intro h
    rw [h, strOf_bytesOf]
def pre7 : List Int := [98, 121, 116, 101, 115, 32]
/-- What stands behind the unit: the part ahead of the slash and behind it. -/
def pcrT (a : List Int) (n : Int) : Int × Int × Int × Bool :=
  if a = [42] then (0, 0, n, true) else if (askP a).2.2 = true ∧ ¬ (askP a).1 < 0 ∧ ¬ (askP a).2.1 < 0 ∧ ¬ (askP a).2.1 ≥ n then ((askP a).1, (askP a).2.1 + 1, n, true) else (0, 0, 0, false)
def pcrL (l : List Int) : Int × Int × Int × Bool :=
  if (cutI [47] l).2.2 = true ∧ (parseV (strOfNums (cutI [47] l).2.1)).2 = true then pcrT (cutI [47] l).1 (parseV (strOfNums (cutI [47] l).2.1)).1 else (0, 0, 0, false)
def pcrV (s : ByteArray) : Int × Int × Int × Bool := if preOf pre7 (bytesOf s) = true then pcrL ((bytesOf s).drop 6) else (0, 0, 0, false)
theorem askP_bound (l : List Int) (h : (askP l).2.2 = true) : -1 ≤ (askP l).2.1 ∧ (askP l).2.1 ≤ 1000000000000 := by
  have := askP_good l h
  unfold goodA at this
  omega
theorem star_iff1 (t : ByteArray) : t.toList = ([42] : List UInt8) ↔ bytesOf t = [42] := by
  have e : ([42] : List UInt8) = (⟨#[42]⟩ : ByteArray).toList := by rw [ByteArray.toList_eq]
  have b : bytesOf (⟨#[42]⟩ : ByteArray) = [42] := by decide
  constructor
  · intro h
    rw [toList_iff.mp (h.trans e)]; exact b
  · intro h
    rw [bytesOf_inj (h.trans b.symm)]; exact e.symm
theorem pcrT_star (n : Int) : pcrT [42] n = (0, 0, n, true) := by unfold pcrT; rw [if_pos rfl]
theorem pcrT_no {a : List Int} {n : Int} (h1 : ¬ a = [42]) (h : ¬ ((askP a).2.2 = true ∧ ¬ (askP a).1 < 0 ∧ ¬ (askP a).2.1 < 0 ∧ ¬ (askP a).2.1 ≥ n)) : pcrT a n = (0, 0, 0, false) := by unfold pcrT; rw [if_neg h1, if_neg h]
theorem pcrT_yes {a : List Int} {n : Int} (h1 : ¬ a = [42]) (h : (askP a).2.2 = true ∧ ¬ (askP a).1 < 0 ∧ ¬ (askP a).2.1 < 0 ∧ ¬ (askP a).2.1 ≥ n) : pcrT a n = ((askP a).1, (askP a).2.1 + 1, n, true) := by unfold pcrT; rw [if_neg h1, if_pos h]
def signed (n : Int) (t : ByteArray) : ByteArray := if n < 0 then (⟨#[45]⟩ : ByteArray) ++ t else t
theorem one_byte (d : Int) (h0 : 0 ≤ d) (h1 : d ≤ 9) : (wrap64 (48 + d)) % 256 = 48 + d := by rw [wrap_id (by omega) (by omega)]; omega
theorem spec_Fmt_end (n : Int) (s : ByteArray) (hs : s.size ≤ 1000) : Ev (fun k => spec_FormatInt.l0 k n s 0) (signed n s) := by
  refine Ev.step (f := fun _ => some (signed n s)) (fun k => ?_) (Ev.now _)
  simp only [spec_FormatInt.l0]
  rw [if_pos trivial]
  unfold signed
  split
  · rw [if_pos (by omega)]
  · rfl
theorem spec_Fmt_loop (n : Int) (d : Nat) : ∀ (x : Int) (s : ByteArray), x ≠ 0 → x.natAbs < 10 ^ d → -9223372036854775808 ≤ x → x ≤ 9223372036854775807 → s.size + d ≤ 1000 →
    Ev (fun k => spec_FormatInt.l0 k n s x) (signed n (strOfNums (numL x.natAbs) ++ s)) := by
  induction d with
  | zero => intro x s hx h; simp at h; omega
  | succ d ih =>
    intro x s hx h hlo hhi hs
    have hq : (x.natAbs / 10) < 10 ^ d := by rw [Nat.pow_succ] at h; omega
    obtain ⟨dg, hdg⟩ : ∃ dg : Int, dg = ((x.natAbs % 10 : Nat) : Int) := ⟨_, rfl⟩
    obtain ⟨x', hx'⟩ : ∃ x' : Int, x' = Int.tdiv x 10 := ⟨_, rfl⟩
    have hdb : 0 ≤ dg ∧ dg ≤ 9 := by omega
    have habs : x'.natAbs = x.natAbs / 10 := by rw [hx', Int.natAbs_tdiv]; rfl
    have hb' : -9223372036854775808 ≤ x' ∧ x' ≤ 9223372036854775807 := by omega
    have hw : wrap64 (Int.tdiv x 10) = x' := by rw [← hx', wrap_id hb'.1 hb'.2]
    have hstep : ∀ k, spec_FormatInt.l0 (k + 1) n s x = spec_FormatInt.l0 k n (strOfNums [48 + dg] ++ s) x' := by
      intro k
      have hsz : (strOfNums [48 + dg]).size + s.size ≤ 9223372036854775807 := by rw [strOfNums_size]; simp; omega
      simp only [spec_FormatInt.l0]
      rw [if_neg hx]
      by_cases hneg : x < 0
      · have e : Int.tmod x 10 = -dg := by
          have : x = -((x.natAbs : Nat) : Int) := by omega
          rw [this, Int.neg_tmod, hdg]; rfl
        by_cases z : dg = 0
        · have e0 : Int.tmod x 10 = 0 := by omega
          rw [if_neg (by omega), e0, z, Option.bind_some]
          rw [z] at hsz
          have o := one_byte 0 (by omega) (by omega)
          rw [o, if_pos hsz, hw]
        · rw [if_pos (by omega), e, Int.neg_neg, wrap_id (n := dg) (by omega) (by omega), one_byte dg hdb.1 hdb.2, Option.bind_some, if_pos hsz, hw]
      · have e : Int.tmod x 10 = dg := by
          have : x = ((x.natAbs : Nat) : Int) := by omega
          rw [this, hdg]; rfl
        rw [if_neg (by omega), e, one_byte dg hdb.1 hdb.2, Option.bind_some, if_pos hsz, hw]
    have hsz1 : (strOfNums [48 + dg] ++ s).size = 1 + s.size := by rw [ByteArray.size_append, strOfNums_size]; rfl
    by_cases z : x' = 0
    · have h10 : x.natAbs < 10 := by omega
      have e : strOfNums (numL x.natAbs) = strOfNums [48 + dg] := by rw [numL_small h10, hdg, Nat.mod_eq_of_lt h10]
      rw [e]
      refine Ev.step hstep ?_
      rw [z]
      exact spec_Fmt_end n _ (by omega)
    · have h10 : ¬ x.natAbs < 10 := by omega
      have e : strOfNums (numL x.natAbs) ++ s = strOfNums (numL x'.natAbs) ++ (strOfNums [48 + dg] ++ s) := by
        apply bytesOf_inj
        have i1 : InB [48 + dg] := by rw [InB_cons]; exact ⟨by omega, InB_nil⟩
        rw [bytesOf_append, bytesOf_append, bytesOf_append, bytesOf_strOf (InB_digits (numL_digits _)), bytesOf_strOf (InB_digits (numL_digits _)), bytesOf_strOf i1, numL_big h10, habs, hdg, List.append_assoc]
      rw [e]
      exact Ev.step hstep (ih x' _ z (by omega) hb'.1 hb'.2 (by omega))
theorem spec_Fmt_ev (n : Int) (h0 : -9223372036854775808 ≤ n) (h1 : n ≤ 9223372036854775807) : Ev (fun k => spec_FormatInt.f k n) (fmtV n) := by
  unfold spec_FormatInt.f
  by_cases z : n = 0
  · subst z
    refine Ev.pos rfl ?_
    have e : (⟨#[48]⟩ : ByteArray) = fmtV 0 := by
      apply bytesOf_inj
      rw [bytesOf_fmt, fmtL_pos (by omega), numL_small (by decide)]
      decide
    rw [e]; exact Ev.now _
  · refine Ev.neg z ?_
    have := spec_Fmt_loop n 19 n ⟨#[]⟩ z (by omega) h0 h1 (by decide)
    have e : signed n (strOfNums (numL n.natAbs) ++ ⟨#[]⟩) = fmtV n := by
      have e0 : strOfNums (numL n.natAbs) ++ ⟨#[]⟩ = strOfNums (numL n.natAbs) := by apply bytesOf_inj; rw [bytesOf_append, show bytesOf ⟨#[]⟩ = [] by decide, List.append_nil]
      apply bytesOf_inj
      rw [e0, bytesOf_fmt]
      unfold signed fmtL
      split
      · rw [bytesOf_append, bytesOf_strOf (InB_digits (numL_digits _))]; rfl
      · rw [bytesOf_strOf (InB_digits (numL_digits _))]
        congr 1; omega
    rwa [e] at this
theorem spec_l1In_eq (a b c : Int) : spec_l1In.f a b c = some (decide (b ≤ a ∧ a ≤ c)) := by
  unfold spec_l1In.f
  by_cases h : a ≥ b
  · rw [if_pos h]; congr 1; apply decide_eq_decide.mpr; constructor
    · exact fun x => ⟨h, x⟩
    · exact fun x => x.2
  · rw [if_neg h]; congr 1; symm; apply decide_eq_false; omega
theorem digits_of_fmt {s : ByteArray} {v : Int} (h0 : 0 ≤ v) (h : fmtL v = bytesOf s) : ∀ x ∈ bytesOf s, 48 ≤ x ∧ x ≤ 57 := by
  rw [← h, fmtL_pos h0]; exact numL_digits _
theorem spec_Parse_loop (s : ByteArray) (hs : s.size ≤ 13) (rest : List Int) : ∀ (pre : List Int), bytesOf s = pre ++ rest → 0 ≤ valL pre → valL pre < 10 ^ pre.length →
    Ev (fun k => spec_ParseInt.l0 k s (valL pre) (pre.length : Int)) (parseV s) := by
  induction rest with
  | nil =>
    intro pre h h0 h1
    have hz := size_mid h
    simp only [List.length_nil] at hz
    rw [List.append_nil] at h
    have hle : (10 : Int) ^ pre.length ≤ 10 ^ 13 := by
      have : (10 : Nat) ^ pre.length ≤ 10 ^ 13 := Nat.pow_le_pow_right (by omega) (by omega)
      exact_mod_cast this
    by_cases g : valL pre > 1000000000000
    · refine Ev.step (f := fun _ => some (0, false)) (fun k => ?_) (by rw [parseV_no (fun z => by rw [h] at z; omega)]; exact Ev.now _)
      simp only [spec_ParseInt.l0]
      rw [if_neg (by omega), if_pos g]
    · have hf := spec_Fmt_ev (valL pre) (by omega) (by omega)
      refine Ev.step (f := fun k => (spec_FormatInt.f k (valL pre)).bind fun t => if t.toList = s.toList then some (valL pre, true) else some (0, false)) (fun k => ?_) (Ev.bind hf ?_)
      · simp only [spec_ParseInt.l0]
        rw [if_neg (by omega), if_neg g]
      · by_cases q : fmtV (valL pre) = s
        · refine Ev.pos (toList_iff.mpr q) ?_
          have e : parseV s = (valL pre, true) := by rw [← q]; exact parseV_fmt h0 (by omega)
          rw [e]; exact Ev.now _
        · refine Ev.neg (fun z => q (toList_iff.mp z)) ?_
          rw [parseV_no (fun z => q (bytesOf_inj (by rw [bytesOf_fmt, ← h]; exact z.2.2)))]
          exact Ev.now _
  | cons b rest ih =>
    intro pre h h0 h1
    have hz := size_mid h
    simp only [List.length_cons] at hz
    have hb := bt_mid h
    have hr : 0 ≤ b ∧ b ≤ 255 := by rw [← hb]; exact bt_range s _
    have hw := len_step pre b (by omega)
    have hle : (10 : Int) ^ pre.length ≤ 10 ^ 13 := by
      have : (10 : Nat) ^ pre.length ≤ 10 ^ 13 := Nat.pow_le_pow_right (by omega) (by omega)
      exact_mod_cast this
    by_cases e : 48 ≤ b ∧ b ≤ 57
    · have hd : decide (48 ≤ b ∧ b ≤ 57) = true := decide_eq_true e
      have hv := valL_concat pre b
      have hv1 : valL (pre ++ [b]) < 10 ^ (pre ++ [b]).length := by
        rw [hv, List.length_append, List.length_singleton, Int.pow_succ]; omega
      refine Ev.step (f := fun k => spec_ParseInt.l0 k s (valL (pre ++ [b])) ((pre ++ [b]).length : Int)) (fun k => ?_) (ih (pre ++ [b]) (by simp [h]) (by omega) hv1)
      simp only [spec_ParseInt.l0]
      rw [if_pos (by omega), if_pos (by omega), hb, wrap_id (n := b) (by omega) (by omega), spec_l1In_eq, Option.bind_some, if_pos hd, hw, wrap_id (n := 10 * valL pre) (by omega) (by omega), hv]
      have : (b - 48) % 256 = b - 48 := by omega
      rw [this, wrap_id (by omega) (by omega)]
    · have hd : ¬ decide (48 ≤ b ∧ b ≤ 57) = true := by simp [e]
      have hno : parseV s = (0, false) := parseV_no (fun z => e (digits_of_fmt z.1 z.2.2 b (by rw [h]; simp)))
      refine Ev.step (f := fun _ => some (0, false)) (fun k => ?_) (by rw [hno]; exact Ev.now _)
      simp only [spec_ParseInt.l0]
      rw [if_pos (by omega), if_pos (by omega), hb, wrap_id (n := b) (by omega) (by omega), spec_l1In_eq, Option.bind_some, if_neg hd]
theorem spec_Parse_ev (s : ByteArray) : Ev (fun k => spec_ParseInt.f k s) (parseV s) := by
  unfold spec_ParseInt.f
  simp only [spec_l1In_eq, Option.bind_some]
  by_cases h : 1 ≤ (s.size : Int) ∧ (s.size : Int) ≤ 13
  · refine Ev.pos (decide_eq_true h) ?_
    have := spec_Parse_loop s (by omega) (bytesOf s) [] rfl (by simp [valL]) (by simp [valL])
    simpa [valL] using this
  · refine Ev.neg (by simp [h]) ?_
    rw [parseV_no ?_]
    · exact Ev.now _
    · rintro ⟨h0, h1, h2⟩
      have hl : (fmtL (valL (bytesOf s))).length = s.size := by rw [h2, bytesOf_length]
      rw [fmtL_pos h0] at hl
      have h3 := numL_len 12 (valL (bytesOf s)).toNat (by omega)
      have h4 : 0 < (numL (valL (bytesOf s)).toNat).length := List.length_pos_iff.mpr (numL_ne _)
      omega
theorem spec_ask_ev (s : ByteArray) (hs : s.size ≤ 4611686018427387904) : Ev (fun k => spec_l8Ask.f k s) (askP (bytesOf s)) := by
  unfold spec_l8Ask.f
  refine scan_loop s hs 45 (fun k i => spec_l8Ask.l0 k s i) (fun k i h0 h1 hb => ?_) _ ?_
  · simp only [spec_l8Ask.l0]
    rw [if_pos h1, if_pos h0, if_neg hb]
  have fail : ∀ i : Int, Ev (fun k => spec_l8Ask.j2 k s i true) (0, 0, false) := fun i => Ev.step (f := fun _ => some (0, 0, false)) (fun k => by simp only [spec_l8Ask.j2]; rw [if_pos trivial]) (Ev.now _)
  have hl := bytesOf_length s
  unfold askP
  by_cases h0 : (cutI [45] (bytesOf s)).2.2 = true
  · rw [if_pos h0]
    have hc := cut_hit 45 (bytesOf s) h0
    have hb := bt_mid hc
    have hz := congrArg List.length hc
    rw [List.length_append, List.length_cons, hl] at hz
    have x1 : s.extract 0 (cutI [45] (bytesOf s)).1.length = strOfNums (cutI [45] (bytesOf s)).1 := by
      have := ext_mid (s := s) (pre := []) (cur := (cutI [45] (bytesOf s)).1) (rest := 45 :: (cutI [45] (bytesOf s)).2.1) (by rw [List.nil_append]; exact hc)
      simpa using this
    have x2 : s.extract ((cutI [45] (bytesOf s)).1.length + 1) s.size = strOfNums (cutI [45] (bytesOf s)).2.1 := by
      have := ext_end (s := s) (pre := (cutI [45] (bytesOf s)).1 ++ [45]) (cur := (cutI [45] (bytesOf s)).2.1) (by rw [List.append_assoc]; exact hc)
      simpa using this
    generalize (cutI [45] (bytesOf s)).1 = a at *
    generalize (cutI [45] (bytesOf s)).2.1 = b at *
    have n1 : wrap64 ((a.length : Int) + 1) = ((a.length + 1 : Nat) : Int) := by rw [wrap_id (by omega) (by omega)]; omega
    have third : ∀ x : Int, (a = [] → x = -1) → (a ≠ [] → 0 ≤ x ∧ parseV (strOfNums a) = (x, true)) → ¬ (a = [] ∧ b = []) →
        Ev (fun k => spec_l8Ask.j3 k s (a.length : Int) x (-1)) (if a = [] then (if (parseV (strOfNums b)).2 = true then (-1, (parseV (strOfNums b)).1, true) else (0, 0, false)) else if b = [] then (if (parseV (strOfNums a)).2 = true then ((parseV (strOfNums a)).1, -1, true) else (0, 0, false)) else if (parseV (strOfNums a)).2 = true ∧ (parseV (strOfNums b)).2 = true ∧ (parseV (strOfNums a)).1 ≤ (parseV (strOfNums b)).1 then ((parseV (strOfNums a)).1, (parseV (strOfNums b)).1, true) else (0, 0, false)) := by
      intro x hx1 hx2 hx3
      by_cases g2 : b = []
      · have ha : a ≠ [] := fun z => hx3 ⟨z, g2⟩
        obtain ⟨x0, x3⟩ := hx2 ha
        rw [if_neg ha, if_pos g2, x3]
        refine Ev.step (f := fun _ => some (x, -1, true)) (fun k => ?_) (by simpa using Ev.now _)
        simp only [spec_l8Ask.j3]
        rw [g2, List.length_nil] at hz
        rw [n1, if_neg (by omega)]
      · have hb0 : 0 < b.length := List.length_pos_iff.mpr g2
        refine Ev.step (f := fun k => (spec_ParseInt.f k (strOfNums b)).bind fun t => (if t.2 = true then (if x ≥ 0 then (if t.1 < x then (some (0, 0, false)) else (some (x, t.1, true))) else (some (x, t.1, true))) else (some (0, 0, false)))) (fun k => ?_) (Ev.bind (spec_Parse_ev _) ?_)
        · simp only [spec_l8Ask.j3]
          rw [n1, if_pos (by omega), if_pos (by omega), if_pos (by omega), Int.toNat_natCast, x2]
        · by_cases g1 : a = []
          · rw [if_pos g1, hx1 g1]
            rcases parse_cases (strOfNums b) with ⟨m, e2, m0, m1⟩ | e2
            · rw [e2]; exact Ev.pos rfl (Ev.neg (by omega) (by simpa using Ev.now _))
            · rw [e2]; exact Ev.neg (by simp) (by simpa using Ev.now _)
          · obtain ⟨x0, x3⟩ := hx2 g1
            rw [if_neg g1, if_neg g2, x3]
            rcases parse_cases (strOfNums b) with ⟨m, e2, m0, m1⟩ | e2
            · rw [e2]
              refine Ev.pos rfl (Ev.pos x0 ?_)
              by_cases g3 : m < x
              · have q : ¬ x ≤ m := by omega
                simp only [q, and_false, if_false]; exact Ev.pos g3 (Ev.now _)
              · have q : x ≤ m := by omega
                simp only [q, and_self, if_true]; exact Ev.neg g3 (Ev.now _)
            · rw [e2]
              simp only [Bool.false_eq_true, false_and, and_false, if_false]
              exact Ev.now _
    refine Ev.step (f := fun k => spec_l8Ask.j1 k s (a.length : Int)) (fun k => ?_) (Ev.step (f := fun k => spec_l8Ask.j2 k s (a.length : Int) ((s.size : Int) == 1)) (fun k => ?_) ?_)
    · simp only [spec_l8Ask.l0]
      rw [if_pos (by omega), if_pos (by omega), if_pos hb]
    · simp only [spec_l8Ask.j1]
      rw [if_neg (by omega)]
    · by_cases g0 : a = [] ∧ b = []
      · have : ((s.size : Int) == 1) = true := by rw [g0.1, g0.2] at hz; simp at hz; simp; omega
        rw [this, if_pos g0.1, g0.2, parse_empty]
        exact fail _
      · have : ((s.size : Int) == 1) = false := by
          rw [beq_eq_false_iff_ne]
          intro z
          exact g0 ⟨List.eq_nil_of_length_eq_zero (by omega), List.eq_nil_of_length_eq_zero (by omega)⟩
        rw [this]
        by_cases g1 : a = []
        · refine Ev.step (fun k => ?_) (third (-1) (fun _ => rfl) (fun z => absurd g1 z) g0)
          simp only [spec_l8Ask.j2]
          rw [if_neg (by simp), if_neg (by rw [g1]; simp)]
        · have ha0 : 0 < a.length := List.length_pos_iff.mpr g1
          refine Ev.step (f := fun k => (spec_ParseInt.f k (strOfNums a)).bind fun t => (if t.2 = true then (spec_l8Ask.j3 k s (a.length : Int) t.1 (-1)) else (some (0, 0, false)))) (fun k => ?_) (Ev.bind (spec_Parse_ev _) ?_)
          · simp only [spec_l8Ask.j2]
            rw [if_neg (by simp), if_pos (by omega), if_pos (by omega), if_pos (by omega), Int.toNat_natCast, x1]
          · rcases parse_cases (strOfNums a) with ⟨m, e2, m0, m1⟩ | e2
            · rw [e2]
              refine Ev.pos rfl ?_
              have := third m (fun z => absurd z g1) (fun _ => ⟨m0, e2⟩) g0
              rw [e2] at this
              exact this
            · rw [e2, if_neg g1]
              refine Ev.neg (by simp) ?_
              simpa using Ev.now _
  · obtain ⟨m1, m2⟩ := cut_miss [45] (bytesOf s) h0
    rw [if_neg h0, m1, hl]
    refine Ev.step (f := fun k => spec_l8Ask.j1 k s (s.size : Int)) (fun k => ?_) (Ev.step (fun k => ?_) (fail (s.size : Int)))
    · simp only [spec_l8Ask.l0]
      rw [if_neg (by omega)]
    · simp only [spec_l8Ask.j1]
      rw [if_pos trivial]
theorem InB_cut1 (sep l : List Int) (h : InB l) : InB (cutI sep l).1 ∧ InB (cutI sep l).2.1 := by
  induction l with
  | nil => exact ⟨InB_nil, InB_nil⟩
  | cons b r ih =>
    have hr := ih (InB_cons.1 h).2
    unfold cutI
    split
    · exact ⟨InB_nil, InB_drop _ h⟩
    · exact ⟨InB_cons.2 ⟨(InB_cons.1 h).1, hr.1⟩, hr.2⟩
theorem cut_le1 (sep l : List Int) : (cutI sep l).1.length ≤ l.length ∧ (cutI sep l).2.1.length ≤ l.length := by
  induction l with
  | nil => simp [cutI]
  | cons b r ih =>
    unfold cutI
    split
    · simp
    · simp only [List.length_cons]; omega
theorem cut_skip (c : Int) (p l : List Int) (h : ∀ x ∈ p, x ≠ c) : cutI [c] (p ++ l) = (p ++ (cutI [c] l).1, (cutI [c] l).2) := by
  induction p with
  | nil => rfl
  | cons b r ih =>
    have hb := h b (by simp)
    rw [List.cons_append]
    conv => lhs; unfold cutI
    rw [if_neg (by simpa using Ne.symm hb), ih (fun x hx => h x (by simp [hx]))]
    rfl
theorem spec_PCR_ev (s : ByteArray) (hs : s.size ≤ 2000000) : Ev (fun k => spec_ParseContentRange.f k s) (pcrV s) := by
  unfold spec_ParseContentRange.f
  refine scan_loop s (by omega) 47 (fun k i => spec_ParseContentRange.l0 k s i 0 0) (fun k i h0 h1 hb => ?_) _ ?_
  · simp only [spec_ParseContentRange.l0]
    rw [if_pos h1, if_pos h0, if_neg hb]
  have hl := bytesOf_length s
  have fail : ∀ i : Int, Ev (fun k => spec_ParseContentRange.j2 k s i true 0 0) (0, 0, 0, false) := fun i => Ev.step (f := fun _ => some (0, 0, 0, false)) (fun k => by simp only [spec_ParseContentRange.j2]; rw [if_pos trivial]) (Ev.now _)
  have b6 : bytesOf (⟨#[98, 121, 116, 101, 115, 32]⟩ : ByteArray) = pre7 := by decide
  have l6 : (⟨#[98, 121, 116, 101, 115, 32]⟩ : ByteArray).toList = ([98, 121, 116, 101, 115, 32] : List UInt8) := by rw [ByteArray.toList_eq]
  have hi := take_eq_iff s (⟨#[98, 121, 116, 101, 115, 32]⟩ : ByteArray)
  rw [b6] at hi
  have hinb := InB_bytes s
  by_cases h0 : (cutI [47] (bytesOf s)).2.2 = true
  · have hc := cut_hit 47 (bytesOf s) h0
    have hb := bt_mid hc
    have hz := congrArg List.length hc
    rw [List.length_append, List.length_cons, hl] at hz
    have x2 : s.extract ((cutI [47] (bytesOf s)).1.length + 1) s.size = strOfNums (cutI [47] (bytesOf s)).2.1 := by
      have := ext_end (s := s) (pre := (cutI [47] (bytesOf s)).1 ++ [47]) (cur := (cutI [47] (bytesOf s)).2.1) (by rw [List.append_assoc]; exact hc)
      simpa using this
    refine Ev.step (f := fun k => spec_ParseContentRange.j1 k s ((cutI [47] (bytesOf s)).1.length : Int) 0 0) (fun k => ?_) ?_
    · simp only [spec_ParseContentRange.l0]
      rw [if_pos (by omega), if_pos (by omega), if_pos hb]
    by_cases g : preOf pre7 (bytesOf s) = true
    · have happ := preOf_app g
      have hd : (bytesOf s).drop pre7.length = (bytesOf s).drop 6 := rfl
      rw [hd] at happ
      have hskip := cut_skip 47 pre7 ((bytesOf s).drop 6) (by decide)
      rw [← happ] at hskip
      have e1 : (cutI [47] (bytesOf s)).1 = pre7 ++ (cutI [47] ((bytesOf s).drop 6)).1 := by rw [hskip]
      have e2 : (cutI [47] (bytesOf s)).2 = (cutI [47] ((bytesOf s).drop 6)).2 := by rw [hskip]
      have hia := (InB_cut1 [47] _ (InB_drop 6 hinb)).1
      have x1 : s.extract 6 (cutI [47] (bytesOf s)).1.length = strOfNums (cutI [47] ((bytesOf s).drop 6)).1 := by
        have := ext_mid (s := s) (pre := pre7) (cur := (cutI [47] ((bytesOf s).drop 6)).1) (rest := 47 :: (cutI [47] (bytesOf s)).2.1) (by rw [← e1]; exact hc)
        rw [e1, List.length_append]
        exact this
      have hlen : (cutI [47] (bytesOf s)).1.length = 6 + (cutI [47] ((bytesOf s).drop 6)).1.length := by rw [e1, List.length_append]; rfl
      unfold pcrV
      rw [if_pos g]
      unfold pcrL
      rw [e2] at h0 x2
      rw [e2] at hz
      generalize (cutI [47] (bytesOf s)).1.length = p at *
      generalize hA : (cutI [47] ((bytesOf s).drop 6)).1 = a at *
      generalize (cutI [47] ((bytesOf s).drop 6)).2.1 = b at *
      have n1 : wrap64 ((p : Int) + 1) = ((p + 1 : Nat) : Int) := by rw [wrap_id (by omega) (by omega)]; omega
      by_cases ha : a = []
      · have hp : p = 6 := by rw [hlen, ha]; rfl
        have hv : (if (cutI [47] ((bytesOf s).drop 6)).2.2 = true ∧ (parseV (strOfNums b)).2 = true then pcrT a (parseV (strOfNums b)).1 else (0, 0, 0, false)) = (0, 0, 0, false) := by
          have : ∀ n, pcrT ([] : List Int) n = (0, 0, 0, false) := by
            intro n
            unfold pcrT
            rw [if_neg (by simp)]
            have : (askP []).2.2 = false := by decide +kernel
            rw [if_neg (by rw [this]; simp)]
          rw [ha, this]
          split <;> rfl
        rw [hv]
        refine Ev.step (fun k => ?_) (fail (p : Int))
        simp only [spec_ParseContentRange.j1]
        by_cases q : (p : Int) = (s.size : Int)
        · rw [if_pos q]
        · rw [if_neg q, if_pos (by omega)]
      · have ha0 : 0 < a.length := List.length_pos_iff.mpr ha
        refine Ev.step (f := fun k => spec_ParseContentRange.j2 k s (p : Int) false 0 0) (fun k => ?_) ?_
        · simp only [spec_ParseContentRange.j1]
          have e : s.extract 0 6 = (⟨#[98, 121, 116, 101, 115, 32]⟩ : ByteArray) := hi.mpr g
          rw [if_neg (by omega), if_neg (by omega), if_pos (by omega), if_pos (by omega), e, l6, bne_self_eq_false]
        · refine Ev.step (f := fun k => (spec_ParseInt.f k (strOfNums b)).bind fun t => (if t.2 = true then (if (strOfNums a).toList = ([42] : List UInt8) then (some (0, 0, t.1, true)) else ((spec_l8Ask.f k (strOfNums a)).bind fun u => (if u.2.2 = true then (if u.1 < 0 then (some (0, 0, 0, false)) else (if u.2.1 < 0 then (some (0, 0, 0, false)) else (if u.2.1 ≥ t.1 then (some (0, 0, 0, false)) else (some (u.1, wrap64 (u.2.1 + 1), t.1, true))))) else (some (0, 0, 0, false))))) else (some (0, 0, 0, false)))) (fun k => ?_) (Ev.bind (spec_Parse_ev _) ?_)
          · simp only [spec_ParseContentRange.j2]
            rw [if_neg (by simp), n1, if_pos (by omega), if_pos (by omega), Int.toNat_natCast, Int.toNat_natCast, x2, x1]
            congr 1; funext t
            rw [if_pos (show (6 : Int) ≤ (p : Int) by omega), if_pos (show (p : Int) ≤ (s.size : Int) by omega)]
          · rcases parse_cases (strOfNums b) with ⟨n, e2, n0, n1⟩ | e2
            · rw [e2, if_pos ⟨h0, rfl⟩]
              refine Ev.pos rfl ?_
              by_cases h1 : a = [42]
              · have : pcrT a n = (0, 0, n, true) := by rw [h1]; exact pcrT_star n
                rw [this]
                exact Ev.pos ((star_iff1 _).mpr (by rw [bytesOf_strOf hia]; exact h1)) (Ev.now _)
              · refine Ev.neg (fun z => h1 (by rw [← bytesOf_strOf hia]; exact (star_iff1 _).mp z)) (Ev.bind (spec_ask_ev _ (by rw [strOfNums_size]; omega)) ?_)
                rw [bytesOf_strOf hia]
                by_cases q : (askP a).2.2 = true
                · have hb := askP_bound a q
                  refine Ev.pos q ?_
                  by_cases q1 : (askP a).1 < 0
                  · rw [pcrT_no h1 (fun z => z.2.1 q1)]; exact Ev.pos q1 (Ev.now _)
                  · refine Ev.neg q1 ?_
                    by_cases q2 : (askP a).2.1 < 0
                    · rw [pcrT_no h1 (fun z => z.2.2.1 q2)]; exact Ev.pos q2 (Ev.now _)
                    · refine Ev.neg q2 ?_
                      by_cases q3 : (askP a).2.1 ≥ n
                      · rw [pcrT_no h1 (fun z => z.2.2.2 q3)]; exact Ev.pos q3 (Ev.now _)
                      · rw [pcrT_yes h1 ⟨q, q1, q2, q3⟩, wrap_id (n := (askP a).2.1 + 1) (by omega) (by omega)]
                        exact Ev.neg q3 (Ev.now _)
                · rw [pcrT_no h1 (fun z => q z.1)]
                  exact Ev.neg q (Ev.now _)
            · rw [e2, if_neg (by simp)]
              exact Ev.neg (by simp) (Ev.now _)
    · unfold pcrV
      rw [if_neg g]
      generalize (cutI [47] (bytesOf s)).1.length = p at *
      refine Ev.step (fun k => ?_) (fail (p : Int))
      simp only [spec_ParseContentRange.j1]
      by_cases q : (p : Int) = (s.size : Int)
      · rw [if_pos q]
      · rw [if_neg q]
        by_cases q7 : (p : Int) < 7
        · rw [if_pos q7]
        · have e : ¬ s.extract 0 6 = (⟨#[98, 121, 116, 101, 115, 32]⟩ : ByteArray) := fun z => g (hi.mp z)
          have : ((s.extract 0 6).toList != ([98, 121, 116, 101, 115, 32] : List UInt8)) = true := bne_iff_ne.mpr (fun z => e (toList_iff.mp (z.trans l6.symm)))
          rw [if_neg q7, if_pos (by omega), if_pos (by omega), this]
  · obtain ⟨m1, m2⟩ := cut_miss [47] (bytesOf s) h0
    have hv : pcrV s = (0, 0, 0, false) := by
      unfold pcrV
      by_cases g : preOf pre7 (bytesOf s) = true
      · rw [if_pos g]
        have happ := preOf_app g
        have hd : (bytesOf s).drop pre7.length = (bytesOf s).drop 6 := rfl
        rw [hd] at happ
        have hskip := cut_skip 47 pre7 ((bytesOf s).drop 6) (by decide)
        rw [← happ] at hskip
        have e2 : (cutI [47] (bytesOf s)).2 = (cutI [47] ((bytesOf s).drop 6)).2 := by rw [hskip]
        unfold pcrL
        rw [← e2, if_neg (fun z => h0 z.1)]
      · rw [if_neg g]
    rw [hv, m1, hl]
    refine Ev.step (f := fun k => spec_ParseContentRange.j1 k s (s.size : Int) 0 0) (fun k => ?_) (Ev.step (fun k => ?_) (fail (s.size : Int)))
    · simp only [spec_ParseContentRange.l0]
      rw [if_neg (by omega)]
    · simp only [spec_ParseContentRange.j1]
      rw [if_pos trivial]
theorem strings_Cut_eq (s sep : ByteArray) (hs : s.size < 4294967281) (hp : bytesOf sep ≠ []) : strings_Cut.f s sep = some (cutV (bytesOf sep) s) := by
  have hp2 : sep.data.toList ≠ [] := fun z => hp (by unfold bytesOf; rw [z]; rfl)
  obtain ⟨h1, h2, h3⟩ := libcut_map s.data.toList sep.data.toList hp2
  unfold strings_Cut.f cutV
  rw [if_pos hs]
  have e : ∀ (l : List UInt8) (m : List Int), (l.map fun b => (b.toNat : Int)) = m → (⟨l.toArray⟩ : ByteArray) = strOfNums m := by
    intro l m h
    have hb : bytesOf ⟨l.toArray⟩ = m := h
    rw [← hb, strOf_bytesOf]
  rw [e _ _ h1, e _ _ h2, h3]
  rfl
theorem decDigits_map (u : Nat) : ((Lib.decDigits u).map fun b => (b.toNat : Int)) = numL u := by
  refine num_ind (p := fun u => ((Lib.decDigits u).map fun b => (b.toNat : Int)) = numL u) (fun n h => ?_) (fun n h ih => ?_) u
  · rw [Lib.decDigits, dif_pos h, numL_small h]
    simp [UInt8.toNat_ofNat']; omega
  · rw [Lib.decDigits, dif_neg h, numL_big h, List.map_append, ih]
    simp [UInt8.toNat_ofNat']; omega
theorem itoa_map2 (n : Int) : ((Lib.itoa n).map fun b => (b.toNat : Int)) = fmtL n := by
  unfold Lib.itoa fmtL
  split
  · simp only [List.map_cons, decDigits_map]; rfl
  · exact decDigits_map _
theorem bytes_map (s : ByteArray) : (s.data.toList.map fun b => (b.toNat : Int)) = bytesOf s := rfl
theorem map_inj {l m : List UInt8} (h : (l.map fun b => (b.toNat : Int)) = m.map fun b => (b.toNat : Int)) : l = m := by
  have e := bytesOf_inj (s := ⟨l.toArray⟩) (t := ⟨m.toArray⟩) h
  injection e with e
  simpa using e
theorem decFrom_append (l m : List UInt8) : ∀ acc, Lib.decFrom acc (l ++ m) = (Lib.decFrom acc l).bind fun a => Lib.decFrom a m := by
  induction l with
  | nil => intro acc; rfl
  | cons b r ih =>
    intro acc
    simp only [List.cons_append, Lib.decFrom]
    cases Lib.digitVal b with
    | none => rfl
    | some d => exact ih _
theorem digitVal_of (d : Nat) (h : d < 10) : Lib.digitVal (UInt8.ofNat (48 + d)) = some d := by
  unfold Lib.digitVal
  have e : (UInt8.ofNat (48 + d)).toNat = 48 + d := by rw [UInt8.toNat_ofNat']; omega
  rw [e, if_pos (by omega)]; congr 1; omega
theorem decFrom_dec (u : Nat) : Lib.decFrom 0 (Lib.decDigits u) = some u := by
  refine num_ind (p := fun u => Lib.decFrom 0 (Lib.decDigits u) = some u) (fun n h => ?_) (fun n h ih => ?_) u
  · rw [Lib.decDigits, dif_pos h]
    simp only [Lib.decFrom, digitVal_of n h]
    congr 1; omega
  · rw [Lib.decDigits, dif_neg h, decFrom_append, ih, Option.bind_some]
    simp only [Lib.decFrom, digitVal_of (n % 10) (by omega)]
    congr 1; omega
theorem atoi_dec (u : Nat) : Lib.atoi (Lib.decDigits u) = some (u : Int) := by
  match h : Lib.decDigits u with
  | [] =>
    have := decDigits_map u
    rw [h] at this
    exact absurd this.symm (numL_ne u)
  | b :: r =>
    have hd : 48 ≤ (b.toNat : Int) ∧ (b.toNat : Int) ≤ 57 := by
      refine numL_digits u _ ?_
      rw [← decDigits_map, h]; simp
    have h1 : (b == 45) = false := by rw [beq_eq_false_iff_ne]; rintro rfl; simp at hd
    have h2 : (b == 43) = false := by rw [beq_eq_false_iff_ne]; rintro rfl; simp at hd
    unfold Lib.atoi
    simp only [h1, h2, Bool.false_eq_true, if_false]
    have e := decFrom_dec u
    rw [h] at e
    unfold Lib.decNat
    simp [e]
theorem impl_Parse_eq (s : ByteArray) : impl_ParseInt.f s = some (parseV s) := by
  unfold impl_ParseInt.f
  have key : ∀ v : Int, 0 ≤ v → fmtL v = bytesOf s → Lib.atoi s.data.toList = some v := by
    intro v h0 h
    have : s.data.toList = Lib.decDigits v.toNat := by
      apply map_inj
      rw [bytes_map, ← h, fmtL_pos h0, decDigits_map]
    rw [this, atoi_dec]; congr 1; omega
  by_cases h : s.size > 13
  · rw [if_pos h, parseV_no]
    rintro ⟨h0, h1, h2⟩
    have hl : (fmtL (valL (bytesOf s))).length = s.size := by rw [h2, bytesOf_length]
    rw [fmtL_pos h0] at hl
    have h3 := numL_len 12 (valL (bytesOf s)).toNat (by omega)
    omega
  · rw [if_neg h]
    cases ha : Lib.atoi s.data.toList with
    | none =>
      simp only
      rw [parseV_no]
      rintro ⟨h0, h1, h2⟩
      have := key _ h0 h2
      rw [ha] at this
      exact absurd this (by simp)
    | some n =>
      simp only
      by_cases g : (0 ≤ n ∧ n ≤ 1000000000000) ∧ Lib.itoa n = s.data.toList
      · rw [if_pos g]
        have e : s = fmtV n := by
          apply bytesOf_inj
          rw [bytesOf_fmt, ← itoa_map2, g.2, bytes_map]
        rw [e, parseV_fmt g.1.1 g.1.2]
      · rw [if_neg g, parseV_no]
        rintro ⟨h0, h1, h2⟩
        have := key _ h0 h2
        rw [ha] at this
        have e := Option.some.inj this
        subst e
        refine g ⟨⟨h0, h1⟩, ?_⟩
        apply map_inj
        rw [itoa_map2, h2, bytes_map]
theorem impl_ask_ev (s : ByteArray) (hs : s.size < 4294967281) : ∃ v : Int × Int × Bool, Ev (fun k => impl_askIn.f k s) v ∧ v.2.2 = (askP (bytesOf s)).2.2 ∧ ((askP (bytesOf s)).2.2 = true → v = askP (bytesOf s)) := by
  have c1 := strings_Cut_eq s (⟨#[45]⟩ : ByteArray) hs (by decide)
  rw [show bytesOf (⟨#[45]⟩ : ByteArray) = [45] by decide] at c1
  unfold impl_askIn.f askP
  rw [c1]
  simp only [Option.bind_some, impl_Parse_eq, cutV]
  by_cases h0 : (cutI [45] (bytesOf s)).2.2 = true
  · simp only [if_pos h0]
    by_cases h1 : (cutI [45] (bytesOf s)).1 = []
    · have e1 : (strOfNums (cutI [45] (bytesOf s)).1).toList = ([] : List UInt8) := strOf_nil.mpr h1
      simp only [if_pos e1, if_pos h1]
      have p1 : parseV (strOfNums (cutI [45] (bytesOf s)).1) = (0, false) := by rw [h1]; exact parse_empty
      rw [p1]
      simp only
      rcases parse_cases (strOfNums (cutI [45] (bytesOf s)).2.1) with ⟨m, e2, m0, m1⟩ | e2
      · rw [e2]
        refine ⟨_, Ev.step (f := fun _ => some (-1, m, true)) (fun k => by simp only [impl_askIn.j0]; rw [if_pos trivial]) (Ev.now _), ?_⟩
        simp
      · rw [e2]
        refine ⟨_, Ev.step (f := fun _ => some (0, 0, false)) (fun k => by simp only [impl_askIn.j0]; rw [if_neg (by simp), if_neg (by simp)]) (Ev.now _), ?_⟩
        simp
    · have e1 : ¬ (strOfNums (cutI [45] (bytesOf s)).1).toList = ([] : List UInt8) := fun z => h1 (strOf_nil.mp z)
      simp only [if_neg e1, if_neg h1]
      rcases parse_cases (strOfNums (cutI [45] (bytesOf s)).1) with ⟨n, e3, n0, n1⟩ | e3
      · rw [e3]
        simp only
        by_cases h2 : (cutI [45] (bytesOf s)).2.1 = []
        · have e4 : (strOfNums (cutI [45] (bytesOf s)).2.1).toList = ([] : List UInt8) := strOf_nil.mpr h2
          simp only [if_pos h2, if_true]
          refine ⟨_, Ev.step (f := fun _ => some (n, -1, true)) (fun k => by simp only [impl_askIn.j0]; rw [if_neg (by simp), if_pos trivial, if_pos e4]) (Ev.now _), ?_⟩
          simp
        · have e4 : ¬ (strOfNums (cutI [45] (bytesOf s)).2.1).toList = ([] : List UInt8) := fun z => h2 (strOf_nil.mp z)
          simp only [if_neg h2]
          rcases parse_cases (strOfNums (cutI [45] (bytesOf s)).2.1) with ⟨m, e2, m0, m1⟩ | e2
          · rw [e2]
            refine ⟨_, Ev.step (f := fun _ => some (n, m, decide (n ≤ m))) (fun k => by simp only [impl_askIn.j0]; rw [if_neg (by simp), if_pos trivial, if_neg e4, if_pos trivial]) (Ev.now _), ?_⟩
            by_cases h3 : n ≤ m
            · simp [h3]
            · simp [h3]
          · rw [e2]
            refine ⟨_, Ev.step (f := fun _ => some (n, 0, false)) (fun k => by simp only [impl_askIn.j0]; rw [if_neg (by simp), if_pos trivial, if_neg e4, if_neg (by simp)]) (Ev.now _), ?_⟩
            simp
      · rw [e3]
        simp only
        refine ⟨_, Ev.step (f := fun _ => some (0, (parseV (strOfNums (cutI [45] (bytesOf s)).2.1)).1, false)) (fun k => by simp only [impl_askIn.j0]; rw [if_neg (by simp), if_neg (by simp)]) (Ev.now _), ?_⟩
        by_cases h2 : (cutI [45] (bytesOf s)).2.1 = []
        · simp [h2]
        · simp [h2]
  · simp only [if_neg h0]
    exact ⟨_, Ev.now _, by simp⟩
theorem hasPrefix_eq (s p : ByteArray) (hs : s.size ≤ 4611686018427387904) (hp : p.size ≤ 4611686018427387904) : stringslite_HasPrefix.f s p = some (preOf (bytesOf p) (bytesOf s)) := by
  unfold stringslite_HasPrefix.f
  by_cases g : (s.size : Int) ≥ (p.size : Int)
  · have n2 : ((p.size : Int)).toNat = p.size := by omega
    rw [if_pos g, if_pos (by omega), if_pos (by omega), n2]
    congr 1
    by_cases h : s.extract 0 p.size = p
    · rw [(take_eq_iff s p).mp h, h]; simp
    · have : ¬ preOf (bytesOf p) (bytesOf s) = true := fun z => h ((take_eq_iff s p).mpr z)
      rw [Bool.not_eq_true] at this
      rw [this]
      exact beq_eq_false_iff_ne.mpr (fun z => h (toList_iff.mp z))
  · rw [if_neg g]
    congr 1
    symm
    by_cases q : preOf (bytesOf p) (bytesOf s) = true
    · have := preOf_len q
      rw [bytesOf_length, bytesOf_length] at this
      omega
    · rwa [Bool.not_eq_true] at q
theorem cutPre_eq (s p : ByteArray) (hs : s.size ≤ 4611686018427387904) (hp : p.size ≤ 4611686018427387904) : strings_CutPrefix.f s p = some (strOfNums (restOf (bytesOf p) (bytesOf s)), preOf (bytesOf p) (bytesOf s)) := by
  have n2 : ((p.size : Int)).toNat = p.size := by omega
  unfold strings_CutPrefix.f stringslite_CutPrefix.f
  rw [hasPrefix_eq s p hs hp, Option.bind_some]
  unfold restOf
  by_cases h : preOf (bytesOf p) (bytesOf s) = true
  · have h2 := preOf_len h
    rw [bytesOf_length, bytesOf_length] at h2
    rw [if_pos h, if_pos (by omega), if_pos (by omega), n2, Option.bind_some, if_pos h, h, bytesOf_length, ext_drop]
  · rw [if_neg h, Option.bind_some, if_neg h, strOf_bytesOf]
    rw [Bool.not_eq_true] at h
    rw [h]
theorem impl_PCR_ev (s : ByteArray) (hs : s.size ≤ 2000000) : Ev (fun k => impl_ParseContentRange.f k s) (pcrV s) := by
  have hl := bytesOf_length s
  have hrz : (restOf pre7 (bytesOf s)).length ≤ s.size := by
    rw [← hl]
    unfold restOf
    split
    · rw [List.length_drop]; omega
    · omega
  have hrb : InB (restOf pre7 (bytesOf s)) := by
    unfold restOf
    split
    · exact InB_drop _ (InB_bytes s)
    · exact InB_bytes s
  have c := cutPre_eq s (⟨#[98, 121, 116, 101, 115, 32]⟩ : ByteArray) (by omega) (by decide)
  rw [show bytesOf (⟨#[98, 121, 116, 101, 115, 32]⟩ : ByteArray) = pre7 by decide] at c
  have c2 := strings_Cut_eq (strOfNums (restOf pre7 (bytesOf s))) (⟨#[47]⟩ : ByteArray) (by rw [strOfNums_size]; omega) (by decide)
  rw [show bytesOf (⟨#[47]⟩ : ByteArray) = [47] by decide] at c2
  have fail : ∀ (x : ByteArray) (n : Int), Ev (fun k => impl_ParseContentRange.j0 k x n true) (0, 0, 0, false) := fun x n => Ev.step (f := fun _ => some (0, 0, 0, false)) (fun k => by simp only [impl_ParseContentRange.j0]; rw [if_pos trivial]) (Ev.now _)
  unfold impl_ParseContentRange.f
  rw [c]
  simp only [Option.bind_some]
  rw [c2]
  simp only [Option.bind_some, impl_Parse_eq, cutV, bytesOf_strOf hrb]
  unfold pcrV
  by_cases g : preOf pre7 (bytesOf s) = true
  · have hr : restOf pre7 (bytesOf s) = (bytesOf s).drop 6 := by unfold restOf; rw [if_pos g]; rfl
    rw [hr] at hrb hrz ⊢
    simp only [if_pos g]
    have hi := (InB_cut1 [47] _ hrb).1
    have hz := (cut_le1 [47] ((bytesOf s).drop 6)).1
    unfold pcrL
    by_cases h0 : (cutI [47] ((bytesOf s).drop 6)).2.2 = true
    · simp only [if_pos h0]
      rcases parse_cases (strOfNums (cutI [47] ((bytesOf s).drop 6)).2.1) with ⟨n, e2, n0, n1⟩ | e2
      · rw [e2, if_pos ⟨h0, rfl⟩]
        simp only [Bool.not_true]
        generalize (cutI [47] ((bytesOf s).drop 6)).1 = a at hi hz ⊢
        by_cases h1 : a = [42]
        · have hv : pcrT a n = (0, 0, n, true) := by rw [h1]; exact pcrT_star n
          rw [hv]
          refine Ev.step (f := fun _ => some (0, 0, n, true)) (fun k => ?_) (Ev.now _)
          simp only [impl_ParseContentRange.j0]
          rw [if_neg (by simp), if_pos ((star_iff1 _).mpr (by rw [bytesOf_strOf hi]; exact h1))]
        · obtain ⟨v, hv, v1, v2⟩ := impl_ask_ev (strOfNums a) (by rw [strOfNums_size]; omega)
          rw [bytesOf_strOf hi] at v1 v2
          refine Ev.step (f := fun k => (impl_askIn.f k (strOfNums a)).bind fun t => (if t.2.2 = true then (if t.1 < 0 then (some (0, 0, 0, false)) else (if t.2.1 < 0 then (some (0, 0, 0, false)) else (if t.2.1 ≥ n then (some (0, 0, 0, false)) else (some (t.1, wrap64 (t.2.1 + 1), n, true))))) else (some (0, 0, 0, false)))) (fun k => ?_) (Ev.bind hv ?_)
          · simp only [impl_ParseContentRange.j0]
            rw [if_neg (by simp), if_neg (fun z => h1 (by rw [← bytesOf_strOf hi]; exact (star_iff1 _).mp z))]
          · by_cases q : (askP a).2.2 = true
            · rw [v2 q]
              have hb := askP_bound a q
              refine Ev.pos q ?_
              by_cases q1 : (askP a).1 < 0
              · rw [pcrT_no h1 (fun z => z.2.1 q1)]; exact Ev.pos q1 (Ev.now _)
              · refine Ev.neg q1 ?_
                by_cases q2 : (askP a).2.1 < 0
                · rw [pcrT_no h1 (fun z => z.2.2.1 q2)]; exact Ev.pos q2 (Ev.now _)
                · refine Ev.neg q2 ?_
                  by_cases q3 : (askP a).2.1 ≥ n
                  · rw [pcrT_no h1 (fun z => z.2.2.2 q3)]; exact Ev.pos q3 (Ev.now _)
                  · rw [pcrT_yes h1 ⟨q, q1, q2, q3⟩, wrap_id (n := (askP a).2.1 + 1) (by omega) (by omega)]
                    exact Ev.neg q3 (Ev.now _)
            · rw [pcrT_no h1 (fun z => q z.1)]
              exact Ev.neg (by rw [v1]; exact q) (Ev.now _)
      · rw [e2, if_neg (by simp)]
        simp only [Bool.not_false]
        exact fail _ _
    · simp only [if_neg h0]
      rw [if_neg (fun z => h0 z.1)]
      exact fail _ _
  · simp only [if_neg g]
    exact fail _ _

theorem FnExactParseContentRange : laws_FnExactParseContentRange.Pure := by
  intro s _
  unfold laws_FnExactParseContentRange.f
  by_cases h : (s.size : Int) > 1048576
  · exact ⟨0, by rw [if_pos h]⟩
  · simp only [if_neg h]
    apply Ev.rounds
    refine Ev.bind (spec_PCR_ev s (by omega)) (Ev.bind (impl_PCR_ev s (by omega)) ?_)
    have e : laws_eqSpan.f (pcrV s).1 (pcrV s).2.1 (pcrV s).1 (pcrV s).2.1 = some true := by unfold laws_eqSpan.f; rw [if_pos rfl, if_pos rfl]
    rw [e]
    simp only [Option.bind_some, if_true, bne_self_eq_false, Bool.false_eq_true, if_false]
    exact Ev.now _

end Go.Proofs.YtlboepkphddacaaDoor.Pure
