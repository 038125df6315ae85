/- The pure part of FnExactSplitPair: for every input within the statement's bounds the printed law answers true. Conditions: the statement's own bounds alone. -/
import Derived.Test.YtmppjfnojkgllaaDoorPreFnExactSplitPair
import Derived.Test.YtmppjfnojkgllaaDoorRFnExactSplitPairx1
import Derived.OpenShut
namespace Go.Proofs.YtmppjfnojkgllaaDoor.Pure
open Go.RowKit Go.Proofs.YtmppjfnojkgllaaDoor.RFnExactSplitPair Go.Proofs.YtmppjfnojkgllaaDoorW.PrintWords Go.Proofs.YtmppjfnojkgllaaDoorW.PrintLast
set_option linter.unusedSimpArgs false
set_option linter.unusedVariables false

/-! ### Texts as lists of numbers -/
def InB (l : List Int) : Prop := ∀ x ∈ l, 0 ≤ x ∧ x ≤ 255
theorem InB_nil : InB [] := fun x hx => by simp at hx
theorem InB_cons {b : Int} {l : List Int} : InB (b :: l) ↔ (0 ≤ b ∧ b ≤ 255) ∧ InB l := by simp [InB]
theorem InB_append {l m : List Int} : InB (l ++ m) ↔ InB l ∧ InB m := by
  simp only [InB, List.mem_append]
  exact ⟨fun h => ⟨fun x hx => h x (.inl hx), fun x hx => h x (.inr hx)⟩, fun h x hx => hx.elim (h.1 x) (h.2 x)⟩
theorem InB_take {l : List Int} (n : Nat) (h : InB l) : InB (l.take n) := fun x hx => h x (List.mem_of_mem_take hx)
theorem InB_drop {l : List Int} (n : Nat) (h : InB l) : InB (l.drop n) := fun x hx => h x (List.mem_of_mem_drop hx)
theorem InB_bytes (s : ByteArray) : InB (bytesOf s) := by
  intro x hx
  unfold bytesOf at hx
  obtain ⟨b, _, rfl⟩ := List.mem_map.1 hx
  have := b.toNat_lt
  omega
theorem strOf_bytesOf (s : ByteArray) : strOfNums (bytesOf s) = s := by
  obtain ⟨⟨l⟩⟩ := s
  unfold strOfNums bytesOf
  simp only [List.map_map]
  congr 2
  exact (List.map_congr_left (fun b _ => by simp)).trans (List.map_id l)
theorem bytesOf_strOf {l : List Int} (h : InB l) : bytesOf (strOfNums l) = l := by
  unfold strOfNums bytesOf
  simp only [List.map_map]
  refine (List.map_congr_left (fun x hx => ?_)).trans (List.map_id l)
  have := h x hx
  simp only [Function.comp_apply, id, UInt8.toNat_ofNat']
  omega
theorem bytesOf_inj {s t : ByteArray} (h : bytesOf s = bytesOf t) : s = t := by rw [← strOf_bytesOf s, h, strOf_bytesOf]
theorem bytesOf_append (s t : ByteArray) : bytesOf (s ++ t) = bytesOf s ++ bytesOf t := by
  unfold bytesOf
  rw [ByteArray.data_append, Array.toList_append, List.map_append]
theorem bytesOf_extract (s : ByteArray) (a b : Nat) : bytesOf (s.extract a b) = ((bytesOf s).take b).drop a := by
  unfold bytesOf
  rw [ByteArray.data_extract, Array.toList_extract, List.extract_eq_take_drop, List.map_take, List.map_drop, List.take_drop]
  rcases Nat.le_total a b with h | h
  · rw [Nat.add_sub_cancel' h]
  · rw [Nat.sub_eq_zero_of_le h, List.drop_eq_nil_of_le (by simp; omega), List.drop_eq_nil_of_le (by simp; omega)]
theorem toList_iff {s t : ByteArray} : s.toList = t.toList ↔ s = t := by
  rw [ByteArray.toList_eq, ByteArray.toList_eq]
  constructor
  · intro h
    obtain ⟨⟨l⟩⟩ := s
    obtain ⟨⟨m⟩⟩ := t
    simp only at h
    rw [h]
  · rintro rfl; rfl
theorem size_bytes (s : ByteArray) : (s.size : Int) = ((bytesOf s).length : Int) := by rw [bytesOf_length]
theorem getD_mid {α : Type} {l pre rest : List α} {b d : α} (h : l = pre ++ b :: rest) : l.getD ((pre.length : Int)).toNat d = b := by subst h; simp
theorem len_mid {α : Type} {l pre rest : List α} (h : l = pre ++ rest) : l.length = pre.length + rest.length := by rw [h, List.length_append]
theorem rd_mid {l pre rest : List Int} {b : Int} (h : l = pre ++ b :: rest) : rd l (pre.length : Int) = b := by
  subst h
  unfold rd
  simp
theorem bt_mid {s : ByteArray} {pre rest : List Int} {b : Int} (h : bytesOf s = pre ++ b :: rest) : bt s (pre.length : Int) = b := by
  rw [← rd_bytesOf]; exact rd_mid h
theorem size_mid {s : ByteArray} {pre rest : List Int} (h : bytesOf s = pre ++ rest) : (s.size : Int) = (pre.length : Int) + (rest.length : Int) := by
  rw [size_bytes, h]; simp
theorem mid_step {l pre rest : List Int} {b : Int} (h : l = pre ++ b :: rest) : l = (pre ++ [b]) ++ rest := by simp [h]
theorem wrap_id {n : Int} (h0 : -9223372036854775808 ≤ n) (h1 : n ≤ 9223372036854775807) : wrap64 n = n := by unfold wrap64; omega
theorem len_step {α : Type} (pre : List α) (b : α) (h : pre.length ≤ 9223372036854775000) : wrap64 ((pre.length : Int) + 1) = ((pre ++ [b]).length : Int) := by
  rw [wrap_id (by omega) (by omega)]; simp
/-! ### Loops over lists -/
theorem map_loop {α β : Type} (da : α) (conv : α → β) (x0 : List α) (hn : x0.length ≤ 4611686018427387904) (g : Nat → List β → Int → Option (List β))
    (hg : ∀ k x3 i, g (k + 1) x3 i = if i < (x0.length : Int) then (if 0 ≤ i then (if i < (x3.length : Int) then g k (x3.set (i : Int).toNat (conv (x0.getD i.toNat da))) (wrap64 (i + 1)) else none) else none) else some x3) (z : β) :
    Ev (fun k => g k (List.replicate x0.length z) 0) (x0.map conv) := by
  have key : ∀ rest pre, x0 = pre ++ rest → Ev (fun k => g k (pre.map conv ++ List.replicate rest.length z) (pre.length : Int)) (x0.map conv) := by
    intro rest
    induction rest with
    | nil =>
      intro pre h
      refine Ev.step (f := fun _ => some (x0.map conv)) (fun k => ?_) (Ev.now _)
      rw [hg, if_neg (by rw [h]; simp)]
      simp [h]
    | cons b rest ih =>
      intro pre h
      have hl : x0.length = pre.length + (rest.length + 1) := by rw [h]; simp
      refine Ev.step (f := fun k => g k ((pre ++ [b]).map conv ++ List.replicate rest.length z) ((pre ++ [b]).length : Int)) (fun k => ?_) (ih (pre ++ [b]) (by simp [h]))
      rw [hg, if_pos (by omega), if_pos (by omega), if_pos (by simp; omega), wrap_id (by omega) (by omega)]
      have e1 : x0.getD ((pre.length : Int)).toNat da = b := by rw [h]; simp
      rw [e1]
      congr 1
      · simp [List.replicate_succ, List.set_append]
      · simp
  exact key x0 [] rfl
theorem same_loop {α : Type} (a : List α) (hn : a.length ≤ 4611686018427387904) (g : Nat → Int → Option Bool)
    (hg : ∀ k i, 0 ≤ i → i < (a.length : Int) → g (k + 1) i = g k (wrap64 (i + 1))) (he : ∀ k, g (k + 1) (a.length : Int) = some true) : Ev (fun k => g k 0) true := by
  have key : ∀ d i : Nat, i + d = a.length → Ev (fun k => g k (i : Int)) true := by
    intro d
    induction d with
    | zero => intro i h; obtain rfl : i = a.length := by omega
              exact Ev.step he (Ev.now _)
    | succ d ih =>
      intro i h
      refine Ev.step (f := fun k => g k ((i + 1 : Nat) : Int)) (fun k => ?_) (ih (i + 1) (by omega))
      rw [hg k i (by omega) (by omega), wrap_id (by omega) (by omega)]; rfl
  exact key a.length 0 (by omega)
theorem Ev.mp {α : Type} {g f : Nat → Option α} {r : α} (h : Ev f r) (e : ∀ k, g k = f k) : Ev g r := Ev.congr e h
theorem Ev.step2 {α : Type} {g f : Nat → Option α} {r : α} (h : ∃ K, ∀ k, K ≤ k → g (k + 1) = f k) (e : Ev f r) : Ev g r := by
  obtain ⟨K, hK⟩ := h
  obtain ⟨K', hK'⟩ := e
  refine ⟨max K K' + 1, fun k hk => ?_⟩
  obtain ⟨k, rfl⟩ : ∃ m, k = m + 1 := ⟨k - 1, by omega⟩
  rw [hK k (by omega), hK' k (by omega)]
/-- Every element turned into the next of a row of marks. -/
def markL {α : Type} (mk : Int → α) (c : Nat) : Int → List α → List α
  | _, [] => []
  | k, _ :: r => mk k :: markL mk c (k + c) r
theorem markL_length {α : Type} (mk : Int → α) (c : Nat) (l : List α) : ∀ k, (markL mk c k l).length = l.length := by
  induction l with
  | nil => intro k; rfl
  | cons x r ih => intro k; simp [markL, ih]
theorem mark_loop {α : Type} (mk : Int → α) (c : Nat) (g : Nat → List α → Int → Int → Option (Int × List α)) (B : Int) (hB : B ≤ 4611686018427387904)
    (hg : ∀ (l : List α) (k0 i : Int), 0 ≤ i → i < (l.length : Int) → 0 ≤ k0 → k0 + c ≤ B → ∃ K, ∀ k, K ≤ k → g (k + 1) l k0 i = g k (l.set i.toNat (mk k0)) (k0 + c) (wrap64 (i + 1)))
    (he : ∀ k (l : List α) (k0 : Int), g (k + 1) l k0 (l.length : Int) = some (k0, l)) (l : List α) (hl : l.length ≤ 4611686018427387904) (k0 : Int) (h0 : 0 ≤ k0) (h1 : k0 + c * l.length ≤ B) :
    Ev (fun k => g k l k0 0) (k0 + c * l.length, markL mk c k0 l) := by
  have key : ∀ (rest pre : List α) (k0 : Int), 0 ≤ k0 → k0 + c * rest.length ≤ B → pre.length + rest.length ≤ 4611686018427387904 → Ev (fun k => g k (pre ++ rest) k0 (pre.length : Int)) (k0 + c * rest.length, pre ++ markL mk c k0 rest) := by
    intro rest
    induction rest with
    | nil =>
      intro pre k0 _ _ _
      refine Ev.step (f := fun _ => some (k0, pre)) (fun k => ?_) (by simpa [markL] using Ev.now _)
      have := he k pre k0
      simpa using this
    | cons x rest ih =>
      intro pre k0 h0 h1 h2
      simp only [List.length_cons] at h1 h2
      have hc : (c : Int) * ((rest.length + 1 : Nat) : Int) = c * rest.length + c := by rw [Int.natCast_add, Int.mul_add]; simp
      rw [hc] at h1
      have hcn : 0 ≤ (c : Int) * (rest.length : Int) := Int.mul_nonneg (by omega) (by omega)
      obtain ⟨K, hK⟩ := hg (pre ++ x :: rest) k0 (pre.length : Int) (by omega) (by simp; omega) h0 (by omega)
      have e := ih (pre ++ [mk k0]) (k0 + c) (by omega) (by omega) (by simp; omega)
      have e2 : (k0 + (c : Int)) + c * rest.length = k0 + c * ((x :: rest).length : Int) := by simp only [List.length_cons]; rw [hc]; omega
      rw [e2] at e
      refine Ev.step2 (f := fun k => g k (pre ++ [mk k0] ++ rest) (k0 + c) ((pre ++ [mk k0]).length : Int)) ⟨K, fun k hk => ?_⟩ (by simpa [markL] using e)
      rw [hK k hk, wrap_id (by omega) (by omega)]
      simp [List.set_append]
  have := key l [] k0 h0 h1 (by simpa using hl)
  simpa using this
theorem held_loop {α : Type} (mk : Int → α) (c : Nat) (l0 l : List α) (k0 : Int) (hl : l = markL mk c k0 l0) (g : Nat → Int → Int → Option Int) (B : Int) (hB : B ≤ 4611686018427387904)
    (hg : ∀ (k1 i : Int), 0 ≤ i → i < (l.length : Int) → 0 ≤ k1 → k1 + c ≤ B → l[i.toNat]? = some (mk k1) → ∃ K, ∀ k, K ≤ k → g (k + 1) k1 i = g k (k1 + c) (wrap64 (i + 1)))
    (he : ∀ k (k1 : Int), g (k + 1) k1 (l.length : Int) = some k1) (hn : l0.length ≤ 4611686018427387904) (h0 : 0 ≤ k0) (h1 : k0 + c * l0.length ≤ B) :
    Ev (fun k => g k k0 0) (k0 + c * l0.length) := by
  have hlen : l.length = l0.length := by rw [hl, markL_length]
  have key : ∀ (rest : List α) (pre : List α) (k1 : Int), l = pre ++ markL mk c k1 rest → 0 ≤ k1 → k1 + c * rest.length ≤ B → Ev (fun k => g k k1 (pre.length : Int)) (k1 + c * rest.length) := by
    intro rest
    induction rest with
    | nil =>
      intro pre k1 h _ _
      refine Ev.step (f := fun _ => some k1) (fun k => ?_) (by simpa using Ev.now _)
      have := he k k1
      rw [h] at this
      simpa [markL] using this
    | cons x rest ih =>
      intro pre k1 h h0 h1
      simp only [List.length_cons] at h1
      have hc : (c : Int) * ((rest.length + 1 : Nat) : Int) = c * rest.length + c := by rw [Int.natCast_add, Int.mul_add]; simp
      rw [hc] at h1
      have hcn : 0 ≤ (c : Int) * (rest.length : Int) := Int.mul_nonneg (by omega) (by omega)
      have hl2 : l.length = pre.length + (rest.length + 1) := by rw [h]; simp [markL_length]
      obtain ⟨K, hK⟩ := hg k1 (pre.length : Int) (by omega) (by omega) h0 (by omega) (by rw [h]; simp [markL])
      have e := ih (pre ++ [mk k1]) (k1 + c) (by rw [h]; simp [markL]) (by omega) (by omega)
      have e2 : (k1 + (c : Int)) + c * rest.length = k1 + c * ((x :: rest).length : Int) := by simp only [List.length_cons]; rw [hc]; omega
      rw [e2] at e
      refine Ev.step2 (f := fun k => g k (k1 + c) ((pre ++ [mk k1]).length : Int)) ⟨K, fun k hk => ?_⟩ e
      rw [hK k hk, wrap_id (by omega) (by omega)]
      simp
  exact key l0 [] k0 (by simpa using hl) h0 h1
theorem Ev.pos {α : Type} {c : Prop} [Decidable c] {f g : Nat → Option α} {r : α} (h : c) (e : Ev f r) : Ev (fun k => if c then f k else g k) r := by simp only [if_pos h]; exact e
theorem Ev.neg {α : Type} {c : Prop} [Decidable c] {f g : Nat → Option α} {r : α} (h : ¬ c) (e : Ev g r) : Ev (fun k => if c then f k else g k) r := by simp only [if_neg h]; exact e
theorem Ev.get {α β : Type} {f : Nat → α → Option β} {a : α} {r : β} (e : Ev (fun n => f n a) r) : Ev (fun n => (some a).bind (f n)) r := e

def cutI (sep : List Int) : List Int → List Int × List Int × Bool
  | [] => ([], [], false)
  | b :: r => if sep.isPrefixOf (b :: r) = true then ([], (b :: r).drop sep.length, true) else (b :: (cutI sep r).1, (cutI sep r).2)
def cutV (sep : List Int) (s : ByteArray) : ByteArray × ByteArray × Bool := (strOfNums (cutI sep (bytesOf s)).1, strOfNums (cutI sep (bytesOf s)).2.1, (cutI sep (bytesOf s)).2.2)
theorem prefix_map (u l : List UInt8) : (u.map fun b => (b.toNat : Int)).isPrefixOf (l.map fun b => (b.toNat : Int)) = u.isPrefixOf l := by
  induction u generalizing l with
  | nil => simp
  | cons a u ih =>
    cases l with
    | nil => rfl
    | cons b l =>
      simp only [List.map_cons, List.isPrefixOf, ih]
      congr 1
      by_cases h : a = b
      · subst h; simp
      · have : ¬ (a.toNat : Int) = (b.toNat : Int) := fun z => h (UInt8.toNat_inj.1 (by omega))
        rw [beq_eq_false_iff_ne.mpr h, beq_eq_false_iff_ne.mpr this]
theorem libcut_cons_hit {b : UInt8} {l sep : List UInt8} (h : sep.isPrefixOf (b :: l) = true) : Lib.cut (b :: l) sep = ([], (b :: l).drop sep.length, true) := by
  have e : Lib.index (b :: l) sep = 0 := by unfold Lib.index; rw [if_pos h]
  unfold Lib.cut
  rw [e]; simp
theorem libcut_cons_miss {b : UInt8} {l sep : List UInt8} (h : ¬ sep.isPrefixOf (b :: l) = true) : Lib.cut (b :: l) sep = (b :: (Lib.cut l sep).1, (Lib.cut l sep).2) := by
  have e : Lib.index (b :: l) sep = if (Lib.index l sep == -1) = true then -1 else Lib.index l sep + 1 := by rw [Lib.index, if_neg h]
  have hg := Lib.index_ge l sep
  unfold Lib.cut
  by_cases g : Lib.index l sep = -1
  · rw [e, g]; simp
  · have g2 : 0 ≤ Lib.index l sep := by omega
    have e0 : Lib.index (b :: l) sep = Lib.index l sep + 1 := by rw [e, if_neg (by simpa using g)]
    rw [e0, if_pos (by omega), if_pos g2]
    obtain ⟨n, hn⟩ : ∃ n : Nat, Lib.index l sep = n := ⟨(Lib.index l sep).toNat, by omega⟩
    rw [hn]
    have e1 : ((n : Int) + 1).toNat = n + 1 := by omega
    have e2 : (n : Int).toNat = n := by omega
    rw [e1, e2, List.take_succ_cons]
    have e3 : n + 1 + sep.length = (n + sep.length) + 1 := by omega
    rw [e3, List.drop_succ_cons]
theorem libcut_map (l sep : List UInt8) (hs : sep ≠ []) :
    ((Lib.cut l sep).1.map fun b => (b.toNat : Int)) = (cutI (sep.map fun b => (b.toNat : Int)) (l.map fun b => (b.toNat : Int))).1 ∧ ((Lib.cut l sep).2.1.map fun b => (b.toNat : Int)) = (cutI (sep.map fun b => (b.toNat : Int)) (l.map fun b => (b.toNat : Int))).2.1 ∧
    (Lib.cut l sep).2.2 = (cutI (sep.map fun b => (b.toNat : Int)) (l.map fun b => (b.toNat : Int))).2.2 := by
  induction l with
  | nil =>
    have e : Lib.cut [] sep = ([], [], false) := by
      unfold Lib.cut Lib.index
      cases sep with
      | nil => exact absurd rfl hs
      | cons a s => simp
    rw [e]; exact ⟨rfl, rfl, rfl⟩
  | cons b r ih =>
    have hp := prefix_map sep (b :: r)
    rw [List.map_cons] at hp ⊢
    by_cases h : sep.isPrefixOf (b :: r) = true
    · rw [libcut_cons_hit h]
      unfold cutI
      rw [if_pos (by rw [hp]; exact h)]
      refine ⟨rfl, ?_, rfl⟩
      simp only
      rw [List.map_drop, List.map_cons, List.length_map]
    · rw [libcut_cons_miss h]
      unfold cutI
      rw [if_neg (by rw [hp]; exact h)]
      refine ⟨?_, ih.2.1, ih.2.2⟩
      simp only [List.map_cons]
      rw [ih.1]
theorem cut_parts (sep l : List Int) : (cutI sep l).2.2 = true → l = (cutI sep l).1 ++ sep ++ (cutI sep l).2.1 := by
  induction l with
  | nil => intro h; simp [cutI] at h
  | cons b r ih =>
    unfold cutI
    split
    · rename_i h
      intro _
      simp only [List.nil_append]
      exact (List.prefix_iff_eq_append.1 (List.isPrefixOf_iff_prefix.1 h)).symm
    · intro h
      simp only at h ⊢
      have := ih h
      rw [List.cons_append, List.cons_append, ← this]
theorem cut_none (sep l : List Int) : (cutI sep l).2.2 = false → cutI sep l = (l, [], false) := by
  induction l with
  | nil => intro _; rfl
  | cons b r ih =>
    unfold cutI
    split
    · intro h; simp at h
    · intro h
      simp only at h
      rw [ih h]

def rdropI (p : Int → Bool) : List Int → List Int
  | [] => []
  | b :: r => if rdropI p r = [] ∧ p b = true then [] else b :: rdropI p r
def trimP (p : Int → Bool) (l : List Int) : List Int := (rdropI p l).dropWhile p
def blankI (b : Int) : Bool := b == 32 || b == 9
theorem rdropI_concat (p : Int → Bool) (l : List Int) (b : Int) : rdropI p (l ++ [b]) = if p b = true then rdropI p l else l ++ [b] := by
  induction l with
  | nil => by_cases h : p b = true <;> simp [rdropI, h]
  | cons x r ih =>
    by_cases h : p b = true
    · rw [if_pos h] at ih ⊢
      simp only [List.cons_append, rdropI, ih]
    · rw [if_neg h] at ih ⊢
      simp only [List.cons_append, rdropI, ih]
      rw [if_neg (by simp)]
theorem rdropI_eq (p : Int → Bool) (l : List Int) : (l.reverse.dropWhile p).reverse = rdropI p l := by
  obtain ⟨n, hn⟩ : ∃ n, l.length = n := ⟨_, rfl⟩
  induction n generalizing l with
  | zero => obtain rfl := List.eq_nil_of_length_eq_zero hn; rfl
  | succ n ih =>
    rcases List.eq_nil_or_concat l with h | ⟨r, b, h⟩
    · subst h; rfl
    · subst h
      rw [List.concat_eq_append, rdropI_concat, List.reverse_append]
      simp only [List.reverse_cons, List.reverse_nil, List.nil_append, List.singleton_append, List.dropWhile_cons]
      by_cases hb : p b = true
      · rw [if_pos hb, if_pos hb]
        exact ih r (by simp at hn; omega)
      · rw [if_neg hb, if_neg hb]; simp
theorem rdropI_length (p : Int → Bool) (l : List Int) : (rdropI p l).length ≤ l.length := by
  induction l with
  | nil => simp [rdropI]
  | cons b r ih => unfold rdropI; split <;> simp only [List.length_nil, List.length_cons] <;> omega
theorem rdropI_all (p : Int → Bool) (l : List Int) : rdropI p l = [] ↔ ∀ x ∈ l, p x = true := by
  induction l with
  | nil => simp [rdropI]
  | cons b r ih =>
    unfold rdropI
    split
    · rename_i h
      simp only [List.mem_cons, forall_eq_or_imp, true_iff]
      exact ⟨h.2, ih.1 h.1⟩
    · rename_i h
      simp only [List.mem_cons, forall_eq_or_imp, reduceCtorEq, false_iff]
      exact fun g => h ⟨ih.2 g.2, g.1⟩
/-- It is all one which end goes first. -/
theorem drop_rdrop (p : Int → Bool) (l : List Int) : (rdropI p l).dropWhile p = rdropI p (l.dropWhile p) := by
  induction l with
  | nil => rfl
  | cons b r ih =>
    by_cases h : p b = true
    · rw [List.dropWhile_cons_of_pos h]
      by_cases g : rdropI p r = []
      · have e : rdropI p (b :: r) = [] := by unfold rdropI; rw [if_pos ⟨g, h⟩]
        rw [e, ← ih, g]
      · have e : rdropI p (b :: r) = b :: rdropI p r := by rw [rdropI, if_neg (fun z => g z.1)]
        rw [e, List.dropWhile_cons_of_pos h, ih]
    · have e : rdropI p (b :: r) = b :: rdropI p r := by rw [rdropI, if_neg (fun z => h z.2)]
      rw [e, List.dropWhile_cons_of_neg h, List.dropWhile_cons_of_neg h, e]
theorem trimP_length (p : Int → Bool) (l : List Int) : (trimP p l).length ≤ l.length :=
  Nat.le_trans (List.dropWhile_sublist p).length_le (rdropI_length p l)
theorem dropWhile_mem {p : Int → Bool} {l : List Int} {x : Int} (h : x ∈ l.dropWhile p) : x ∈ l := (List.dropWhile_sublist p).subset h
theorem rdropI_mem {p : Int → Bool} {l : List Int} {x : Int} (h : x ∈ rdropI p l) : x ∈ l := by
  rw [← rdropI_eq] at h
  have := dropWhile_mem (List.mem_reverse.1 h)
  exact List.mem_reverse.1 this
theorem trimP_mem {p : Int → Bool} {l : List Int} {x : Int} (h : x ∈ trimP p l) : x ∈ l := rdropI_mem (dropWhile_mem h)
theorem InB_trim {p : Int → Bool} {l : List Int} (h : InB l) : InB (trimP p l) := fun x hx => h x (trimP_mem hx)
theorem rdropI_nil_cons {p : Int → Bool} {l : List Int} : rdropI p (rdropI p l) = rdropI p l := by
  induction l with
  | nil => rfl
  | cons b r ih =>
    by_cases g : rdropI p r = [] ∧ p b = true
    · have e : rdropI p (b :: r) = [] := by rw [rdropI, if_pos g]
      rw [e]; rfl
    · have e : rdropI p (b :: r) = b :: rdropI p r := by rw [rdropI, if_neg g]
      rw [e, rdropI, ih, if_neg g]
theorem dropWhile_idem (p : Int → Bool) (l : List Int) : (l.dropWhile p).dropWhile p = l.dropWhile p := by
  induction l with
  | nil => rfl
  | cons b r ih =>
    by_cases h : p b = true
    · rw [List.dropWhile_cons_of_pos h, ih]
    · rw [List.dropWhile_cons_of_neg h, List.dropWhile_cons_of_neg h]
theorem trimP_idem (p : Int → Bool) (l : List Int) : trimP p (trimP p l) = trimP p l := by
  unfold trimP
  rw [drop_rdrop p (List.dropWhile p (rdropI p l)), dropWhile_idem, ← drop_rdrop, rdropI_nil_cons]
def trimV (s : ByteArray) : ByteArray := strOfNums (trimP blankI (bytesOf s))
theorem bytesOf_trimV (s : ByteArray) : bytesOf (trimV s) = trimP blankI (bytesOf s) := bytesOf_strOf (InB_trim (InB_bytes s))
theorem trimV_size (s : ByteArray) : (trimV s).size ≤ s.size := by
  rw [← bytesOf_length, ← bytesOf_length, bytesOf_trimV]; exact trimP_length _ _

def pairV (s : ByteArray) : ByteArray × ByteArray × Bool := (trimV (cutV [61] s).1, trimV (cutV [61] s).2.1, (cutV [61] s).2.2)

theorem spec_blank_eq (b : Int) : spec_l4Blank.f b = some (blankI b) := by
  unfold spec_l4Blank.f blankI
  by_cases h : b = 32
  · rw [if_pos h, h]; rfl
  · rw [if_neg h]; simp [h]
theorem spec_Trim_l1 (n : Nat) : ∀ s : ByteArray, s.size ≤ n → s.size ≤ 4611686018427387904 → Ev (fun k => spec_TrimText.l1 k s) (strOfNums (rdropI blankI (bytesOf s))) := by
  induction n with
  | zero =>
    intro s hn hs
    have e : bytesOf s = [] := List.eq_nil_of_length_eq_zero (by rw [bytesOf_length]; omega)
    refine Ev.step (f := fun _ => some s) (fun k => ?_) (by rw [e]; simp only [rdropI]; rw [← e, strOf_bytesOf]; exact Ev.now _)
    simp only [spec_TrimText.l1]
    rw [if_neg (by omega)]
  | succ n ih =>
    intro s hn hs
    rcases List.eq_nil_or_concat (bytesOf s) with h | ⟨r, b, h⟩
    · exact ih s (by rw [← bytesOf_length, h]; simp) hs
    · rw [List.concat_eq_append] at h
      have hz := size_mid h
      simp only [List.length_cons, List.length_nil] at hz
      have hw : wrap64 ((s.size : Int) - 1) = (r.length : Int) := by rw [wrap_id (by omega) (by omega)]; omega
      have hb := bt_mid h
      have hx : bytesOf (s.extract 0 ((r.length : Int) : Int).toNat) = r := by
        rw [bytesOf_extract, h]; simp
      rw [h, rdropI_concat]
      by_cases g : blankI b = true
      · rw [if_pos g]
        refine Ev.step (f := fun k => spec_TrimText.l1 k (s.extract 0 ((r.length : Int) : Int).toNat)) (fun k => ?_) ?_
        · simp only [spec_TrimText.l1]
          rw [if_pos (by omega), hw, if_pos (by omega), if_pos (by omega), hb, spec_blank_eq, Option.bind_some, if_pos g, if_pos (by omega)]
        · have hlen : (s.extract 0 ((r.length : Int) : Int).toNat).size = r.length := by rw [← bytesOf_length, hx]
          have := ih _ (by rw [hlen]; omega) (by rw [hlen]; omega)
          rwa [hx] at this
      · rw [if_neg g]
        refine Ev.step (f := fun _ => some s) (fun k => ?_) (by rw [← h, strOf_bytesOf]; exact Ev.now _)
        simp only [spec_TrimText.l1]
        rw [if_pos (by omega), hw, if_pos (by omega), if_pos (by omega), hb, spec_blank_eq, Option.bind_some, if_neg g]
theorem spec_Trim_l0 (l : List Int) : ∀ s : ByteArray, bytesOf s = l → s.size ≤ 4611686018427387904 → Ev (fun k => spec_TrimText.l0 k s) (strOfNums (rdropI blankI (l.dropWhile blankI))) := by
  induction l with
  | nil =>
    intro s h hs
    have hz := size_mid (pre := []) (rest := []) h
    simp only [List.length_nil] at hz
    refine Ev.step (f := fun k => spec_TrimText.j1 k s) (fun k => ?_) (Ev.step (f := fun k => spec_TrimText.l1 k s) (fun k => by simp only [spec_TrimText.j1]) ?_)
    · simp only [spec_TrimText.l0]
      rw [if_neg (by omega)]
    · have := spec_Trim_l1 _ s (Nat.le_refl _) hs
      rw [h] at this
      exact this
  | cons b r ih =>
    intro s h hs
    have hz := size_mid (pre := []) (rest := b :: r) h
    simp only [List.length_cons, List.length_nil] at hz
    have hb : bt s 0 = b := bt_mid (pre := []) h
    by_cases g : blankI b = true
    · rw [List.dropWhile_cons_of_pos g]
      have hx : bytesOf (s.extract 1 s.size) = r := by
        rw [bytesOf_extract, h, List.take_of_length_le (by simp only [List.length_cons]; omega)]; rfl
      refine Ev.step (f := fun k => spec_TrimText.l0 k (s.extract 1 s.size)) (fun k => ?_) (ih _ hx (by rw [← bytesOf_length, hx]; omega))
      simp only [spec_TrimText.l0]
      rw [if_pos (by omega), if_pos (by omega), hb, spec_blank_eq, Option.bind_some, if_pos g, if_pos (by omega)]
    · rw [List.dropWhile_cons_of_neg g]
      refine Ev.step (f := fun k => spec_TrimText.j1 k s) (fun k => ?_) (Ev.step (f := fun k => spec_TrimText.l1 k s) (fun k => by simp only [spec_TrimText.j1]) ?_)
      · simp only [spec_TrimText.l0]
        rw [if_pos (by omega), if_pos (by omega), hb, spec_blank_eq, Option.bind_some, if_neg g]
      · have := spec_Trim_l1 _ s (Nat.le_refl _) hs
        rwa [h] at this
theorem spec_Trim_ev (s : ByteArray) (hs : s.size ≤ 4611686018427387904) : Ev (fun k => spec_TrimText.f k s) (trimV s) := by
  have := spec_Trim_l0 (bytesOf s) s rfl hs
  rw [← drop_rdrop] at this
  exact this

theorem InB_cut (sep l : List Int) (h : InB l) : InB (cutI sep l).1 ∧ InB (cutI sep l).2.1 := by
  induction l with
  | nil => exact ⟨InB_nil, InB_nil⟩
  | cons b r ih =>
    have hr := ih (InB_cons.1 h).2
    unfold cutI
    split
    · exact ⟨InB_nil, InB_drop _ h⟩
    · exact ⟨InB_cons.2 ⟨(InB_cons.1 h).1, hr.1⟩, hr.2⟩
theorem prefix_one (a b : Int) (r : List Int) : ([a] : List Int).isPrefixOf (b :: r) = decide (b = a) := by
  simp only [List.isPrefixOf, Bool.and_true]
  by_cases h : b = a
  · subst h; simp
  · rw [decide_eq_false h]; exact beq_eq_false_iff_ne.mpr (fun z => h z.symm)
theorem trimV_nil : trimV ⟨#[]⟩ = ⟨#[]⟩ := by
  apply bytesOf_inj
  decide +kernel
theorem spec_Pair_loop (s : ByteArray) (hs : s.size ≤ 4000000000) (rest : List Int) : ∀ (pre : List Int), bytesOf s = pre ++ rest → cutI [61] (bytesOf s) = (pre ++ (cutI [61] rest).1, (cutI [61] rest).2) → Ev (fun k => spec_SplitPair.l0 k s (pre.length : Int)) (pairV s) := by
  induction rest with
  | nil =>
    intro pre h hc
    have hz := size_mid h
    simp only [List.length_nil] at hz
    have e : pairV s = (trimV s, (⟨#[]⟩ : ByteArray), false) := by
      have e1 : cutV [61] s = (s, ⟨#[]⟩, false) := by
        unfold cutV
        rw [hc]
        have : pre = bytesOf s := by rw [h]; simp
        simp only [cutI, List.append_nil]
        rw [this, strOf_bytesOf]; rfl
      unfold pairV
      rw [e1, trimV_nil]
    rw [e]
    refine Ev.step (f := fun k => (spec_TrimText.f k s).bind fun t => some (t, (⟨#[]⟩ : ByteArray), false)) (fun k => ?_) (Ev.bind (spec_Trim_ev s (by omega)) (Ev.now _))
    simp only [spec_SplitPair.l0]
    rw [if_neg (by omega)]
  | cons b rest ih =>
    intro pre h hc
    have hz := size_mid h
    simp only [List.length_cons] at hz
    have hb := bt_mid h
    have hw := len_step pre b (by omega)
    by_cases g : b = 61
    · have hp : ([61] : List Int).isPrefixOf (b :: rest) = true := by rw [prefix_one]; exact decide_eq_true g
      have ec : cutI [61] (b :: rest) = ([], rest, true) := by unfold cutI; rw [if_pos hp]; rfl
      rw [ec] at hc
      simp only [List.append_nil] at hc
      have e1 : strOfNums pre = s.extract 0 pre.length := by
        apply bytesOf_inj
        have hpb : InB pre := by have := InB_bytes s; rw [h, InB_append] at this; exact this.1
        rw [bytesOf_strOf hpb, bytesOf_extract, h]; simp
      have e2 : strOfNums rest = s.extract (pre.length + 1) s.size := by
        apply bytesOf_inj
        have hpb : InB rest := by have := InB_bytes s; rw [h, InB_append, InB_cons] at this; exact this.2.2
        have hl : (bytesOf s).take s.size = bytesOf s := by rw [← bytesOf_length]; exact List.take_length
        rw [bytesOf_strOf hpb, bytesOf_extract, hl, h]
        rw [show pre ++ b :: rest = (pre ++ [b]) ++ rest by simp, show pre.length + 1 = (pre ++ [b]).length by simp, List.drop_left]
      have e : pairV s = (trimV (s.extract 0 pre.length), trimV (s.extract (pre.length + 1) s.size), true) := by
        unfold pairV cutV
        rw [hc, ← e1, ← e2]
      rw [e]
      have z1 : (s.extract 0 pre.length).size ≤ s.size := by rw [ByteArray.size_extract]; omega
      have z2 : (s.extract (pre.length + 1) s.size).size ≤ s.size := by rw [ByteArray.size_extract]; omega
      refine Ev.step (f := fun k => (spec_TrimText.f k (s.extract 0 pre.length)).bind fun t => (spec_TrimText.f k (s.extract (pre.length + 1) s.size)).bind fun u => some (t, u, true)) (fun k => ?_) (Ev.bind (spec_Trim_ev _ (by omega)) (Ev.bind (spec_Trim_ev _ (by omega)) (Ev.now _)))
      simp only [spec_SplitPair.l0]
      have n1 : ((pre.length : Int)).toNat = pre.length := by omega
      have n2 : (((pre ++ [b]).length : Int)).toNat = pre.length + 1 := by simp
      have n3 : ((pre ++ [b]).length : Int) ≤ (s.size : Int) := by simp; omega
      rw [if_pos (by omega), if_pos (by omega), hb, if_pos g, if_pos (by omega), hw, n1, n2]
      congr 1
      funext t
      rw [if_pos (by omega), if_pos n3]
    · have hp : ¬ ([61] : List Int).isPrefixOf (b :: rest) = true := by rw [prefix_one]; simp [g]
      have ec : cutI [61] (b :: rest) = (b :: (cutI [61] rest).1, (cutI [61] rest).2) := by rw [cutI, if_neg hp]
      rw [ec] at hc
      refine Ev.step (f := fun k => spec_SplitPair.l0 k s ((pre ++ [b]).length : Int)) (fun k => ?_) (ih (pre ++ [b]) (by simp [h]) (by rw [hc]; simp))
      simp only [spec_SplitPair.l0]
      rw [if_pos (by omega), if_pos (by omega), hb, if_neg g, hw]
theorem spec_Pair_ev (s : ByteArray) (hs : s.size ≤ 4000000000) : Ev (fun k => spec_SplitPair.f k s) (pairV s) := spec_Pair_loop s hs (bytesOf s) [] rfl (by simp)

theorem strings_Cut_eq (s sep : ByteArray) (hs : s.size < 4294967281) (hp : bytesOf sep ≠ []) : strings_Cut.f s sep = some (cutV (bytesOf sep) s) := by
  have hp2 : sep.data.toList ≠ [] := fun z => hp (by unfold bytesOf; rw [z]; rfl)
  obtain ⟨h1, h2, h3⟩ := libcut_map s.data.toList sep.data.toList hp2
  unfold strings_Cut.f cutV
  rw [if_pos hs]
  have e : ∀ (l : List UInt8) (m : List Int), (l.map fun b => (b.toNat : Int)) = m → (⟨l.toArray⟩ : ByteArray) = strOfNums m := by
    intro l m h
    have hb : bytesOf ⟨l.toArray⟩ = m := h
    rw [← hb, strOf_bytesOf]
  rw [e _ _ h1, e _ _ h2, h3]
  rfl

theorem bytesOf_mk (l : List UInt8) : bytesOf ⟨l.toArray⟩ = l.map fun b => (b.toNat : Int) := rfl
theorem mk_of_bytes {l : List UInt8} {m : List Int} (h : (l.map fun b => (b.toNat : Int)) = m) : (⟨l.toArray⟩ : ByteArray) = strOfNums m := by
  apply bytesOf_inj
  rw [bytesOf_mk, h, bytesOf_strOf]
  subst h
  exact InB_bytes ⟨l.toArray⟩
theorem trimLeftS_map (l cs : List UInt8) : ((Lib.trimLeftS l cs).map fun b => (b.toNat : Int)) = (l.map fun b => (b.toNat : Int)).dropWhile (fun x => (cs.map fun b => (b.toNat : Int)).contains x) := by
  unfold Lib.trimLeftS
  induction l with
  | nil => rfl
  | cons b r ih =>
    have e : ((cs.map fun b => (b.toNat : Int)).contains (b.toNat : Int)) = cs.contains b := by
      rw [Bool.eq_iff_iff, List.contains_iff_mem, List.contains_iff_mem, List.mem_map]
      constructor
      · rintro ⟨c, hc, hcb⟩
        have : c = b := UInt8.toNat_inj.1 (by omega)
        exact this ▸ hc
      · exact fun h => ⟨b, h, rfl⟩
    simp only [List.dropWhile_cons, List.map_cons, e]
    split
    · exact ih
    · rfl
theorem trimS_map (l cs : List UInt8) : ((Lib.trimS l cs).map fun b => (b.toNat : Int)) = trimP (fun x => (cs.map fun b => (b.toNat : Int)).contains x) (l.map fun b => (b.toNat : Int)) := by
  have e : ((Lib.trimRightS l cs).map fun b => (b.toNat : Int)) = rdropI (fun x => (cs.map fun b => (b.toNat : Int)).contains x) (l.map fun b => (b.toNat : Int)) := by
    rw [← rdropI_eq, ← List.map_reverse, ← trimLeftS_map, ← List.map_reverse]
    rfl
  unfold Lib.trimS trimP
  rw [trimLeftS_map, e]
theorem strings_Trim_eq (s cs : ByteArray) (hs : s.size ≤ 4611686018427387904) (hc : cs.size < 4294967281) (ha : cs.data.toList.all (fun b => decide (b.toNat < 128)) = true) :
    strings_Trim.f s cs = some (strOfNums (trimP (fun x => (bytesOf cs).contains x) (bytesOf s))) := by
  unfold strings_Trim.f
  rw [if_pos ⟨hs, hc, ha⟩, mk_of_bytes (trimS_map _ _)]
  rfl
theorem impl_Trim_eq (s : ByteArray) (hs : s.size ≤ 4611686018427387904) : impl_TrimText.f s = some (trimV s) := by
  unfold impl_TrimText.f
  rw [strings_Trim_eq s ⟨#[32, 9]⟩ hs (by decide) (by decide), Option.bind_some]
  unfold trimV
  congr 3
  funext x
  have e : bytesOf ⟨#[32, 9]⟩ = [32, 9] := by decide
  rw [e]
  unfold blankI
  by_cases h : x = 32 <;> by_cases g : x = 9 <;> simp [h, g]

theorem cut_len (sep l : List Int) : (cutI sep l).1.length ≤ l.length ∧ (cutI sep l).2.1.length ≤ l.length := by
  induction l with
  | nil => simp [cutI]
  | cons b r ih =>
    unfold cutI
    split
    · simp
    · simp only [List.length_cons]; omega
theorem cutV_size (sep : List Int) (s : ByteArray) : (cutV sep s).1.size ≤ s.size ∧ (cutV sep s).2.1.size ≤ s.size := by
  have := cut_len sep (bytesOf s)
  unfold cutV
  simp only [strOfNums_size]
  rw [bytesOf_length] at this
  exact this
theorem impl_Pair_eq (s : ByteArray) (hs : s.size ≤ 4000000000) : impl_SplitPair.f s = some (pairV s) := by
  have hz := cutV_size [61] s
  unfold impl_SplitPair.f
  rw [strings_Cut_eq s ⟨#[61]⟩ (by omega) (by decide)]
  have e : bytesOf (⟨#[61]⟩ : ByteArray) = [61] := by decide
  rw [e, Option.bind_some, impl_Trim_eq _ (by omega), Option.bind_some, impl_Trim_eq _ (by omega), Option.bind_some]
  rfl

theorem FnExactSplitPair : laws_FnExactSplitPair.Pure := by
  intro s _
  unfold laws_FnExactSplitPair.f
  by_cases h : (s.size : Int) > 1048576
  · exact ⟨0, by rw [if_pos h]⟩
  · simp only [if_neg h]
    apply Ev.rounds
    refine Ev.bind (spec_Pair_ev s (by omega)) ?_
    simp only [impl_Pair_eq s (by omega), Option.bind_some, if_true, bne_self_eq_false, Bool.false_eq_true, if_false]
    exact Ev.now _

end Go.Proofs.YtmppjfnojkgllaaDoor.Pure
