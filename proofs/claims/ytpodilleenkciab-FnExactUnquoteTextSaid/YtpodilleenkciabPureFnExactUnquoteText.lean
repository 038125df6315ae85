/- The pure part of FnExactUnquoteText: for every input within the statement's bounds the printed law answers true. Conditions: the statement's own bounds alone. -/
import Derived.Test.YtpodilleenkciabPreFnExactUnquoteText
import Derived.Test.YtpodilleenkciabRFnExactUnquoteTextx1
import Derived.OpenShut
namespace Go.Proofs.Ytpodilleenkciab.Pure
open Go.RowKit Go.Proofs.Ytpodilleenkciab.RFnExactUnquoteText Go.Proofs.YtpodilleenkciabW.PrintWords Go.Proofs.YtpodilleenkciabW.PrintLast
set_option linter.unusedSimpArgs false
set_option linter.unusedVariables false

/-! ### Texts as lists of numbers -/
def InB (l : List Int) : Prop := ∀ x ∈ l, 0 ≤ x ∧ x ≤ 255
theorem InB_nil : InB [] := fun x hx => by simp at hx
theorem InB_cons {b : Int} {l : List Int} : InB (b :: l) ↔ (0 ≤ b ∧ b ≤ 255) ∧ InB l := by simp [InB]
theorem InB_append {l m : List Int} : InB (l ++ m) ↔ InB l ∧ InB m := by
  simp only [InB, List.mem_append]
  exact ⟨fun h => ⟨fun x hx => h x (.inl hx), fun x hx => h x (.inr hx)⟩, fun h x hx => hx.elim (h.1 x) (h.2 x)⟩
theorem InB_take {l : List Int} (n : Nat) (h : InB l) : InB (l.take n) := fun x hx => h x (List.mem_of_mem_take hx)
theorem InB_drop {l : List Int} (n : Nat) (h : InB l) : InB (l.drop n) := fun x hx => h x (List.mem_of_mem_drop hx)
theorem InB_bytes (s : ByteArray) : InB (bytesOf s) := by
  intro x hx
  unfold bytesOf at hx
  obtain ⟨b, _, rfl⟩ := List.mem_map.1 hx
  have := b.toNat_lt
  omega
theorem strOf_bytesOf (s : ByteArray) : strOfNums (bytesOf s) = s := by
  obtain ⟨⟨l⟩⟩ := s
  unfold strOfNums bytesOf
  simp only [List.map_map]
  congr 2
  exact (List.map_congr_left (fun b _ => by simp)).trans (List.map_id l)
theorem bytesOf_strOf {l : List Int} (h : InB l) : bytesOf (strOfNums l) = l := by
  unfold strOfNums bytesOf
  simp only [List.map_map]
  refine (List.map_congr_left (fun x hx => ?_)).trans (List.map_id l)
  have := h x hx
  simp only [Function.comp_apply, id, UInt8.toNat_ofNat']
  omega
theorem bytesOf_inj {s t : ByteArray} (h : bytesOf s = bytesOf t) : s = t := by rw [← strOf_bytesOf s, h, strOf_bytesOf]
theorem bytesOf_append (s t : ByteArray) : bytesOf (s ++ t) = bytesOf s ++ bytesOf t := by
  unfold bytesOf
  rw [ByteArray.data_append, Array.toList_append, List.map_append]
theorem bytesOf_extract (s : ByteArray) (a b : Nat) : bytesOf (s.extract a b) = ((bytesOf s).take b).drop a := by
  unfold bytesOf
  rw [ByteArray.data_extract, Array.toList_extract, List.extract_eq_take_drop, List.map_take, List.map_drop, List.take_drop]
  rcases Nat.le_total a b with h | h
  · rw [Nat.add_sub_cancel' h]
  · rw [Nat.sub_eq_zero_of_le h, List.drop_eq_nil_of_le (by simp; omega), List.drop_eq_nil_of_le (by simp; omega)]
theorem toList_iff {s t : ByteArray} : s.toList = t.toList ↔ s = t := by
  rw [ByteArray.toList_eq, ByteArray.toList_eq]
  constructor
  · intro h
    obtain ⟨⟨l⟩⟩ := s
    obtain ⟨⟨m⟩⟩ := t
    simp only at h
    rw [h]
  · rintro rfl; rfl
theorem size_bytes (s : ByteArray) : (s.size : Int) = ((bytesOf s).length : Int) := by rw [bytesOf_length]
theorem getD_mid {α : Type} {l pre rest : List α} {b d : α} (h : l = pre ++ b :: rest) : l.getD ((pre.length : Int)).toNat d = b := by subst h; simp
theorem len_mid {α : Type} {l pre rest : List α} (h : l = pre ++ rest) : l.length = pre.length + rest.length := by rw [h, List.length_append]
theorem rd_mid {l pre rest : List Int} {b : Int} (h : l = pre ++ b :: rest) : rd l (pre.length : Int) = b := by
  subst h
  unfold rd
  simp
theorem bt_mid {s : ByteArray} {pre rest : List Int} {b : Int} (h : bytesOf s = pre ++ b :: rest) : bt s (pre.length : Int) = b := by
  rw [← rd_bytesOf]; exact rd_mid h
theorem size_mid {s : ByteArray} {pre rest : List Int} (h : bytesOf s = pre ++ rest) : (s.size : Int) = (pre.length : Int) + (rest.length : Int) := by
  rw [size_bytes, h]; simp
theorem mid_step {l pre rest : List Int} {b : Int} (h : l = pre ++ b :: rest) : l = (pre ++ [b]) ++ rest := by simp [h]
theorem wrap_id {n : Int} (h0 : -9223372036854775808 ≤ n) (h1 : n ≤ 9223372036854775807) : wrap64 n = n := by unfold wrap64; omega
theorem len_step {α : Type} (pre : List α) (b : α) (h : pre.length ≤ 9223372036854775000) : wrap64 ((pre.length : Int) + 1) = ((pre ++ [b]).length : Int) := by
  rw [wrap_id (by omega) (by omega)]; simp
/-! ### Loops over lists -/
theorem map_loop {α β : Type} (da : α) (conv : α → β) (x0 : List α) (hn : x0.length ≤ 4611686018427387904) (g : Nat → List β → Int → Option (List β))
    (hg : ∀ k x3 i, g (k + 1) x3 i = if i < (x0.length : Int) then (if 0 ≤ i then (if i < (x3.length : Int) then g k (x3.set (i : Int).toNat (conv (x0.getD i.toNat da))) (wrap64 (i + 1)) else none) else none) else some x3) (z : β) :
    Ev (fun k => g k (List.replicate x0.length z) 0) (x0.map conv) := by
  have key : ∀ rest pre, x0 = pre ++ rest → Ev (fun k => g k (pre.map conv ++ List.replicate rest.length z) (pre.length : Int)) (x0.map conv) := by
    intro rest
    induction rest with
    | nil =>
      intro pre h
      refine Ev.step (f := fun _ => some (x0.map conv)) (fun k => ?_) (Ev.now _)
      rw [hg, if_neg (by rw [h]; simp)]
      simp [h]
    | cons b rest ih =>
      intro pre h
      have hl : x0.length = pre.length + (rest.length + 1) := by rw [h]; simp
      refine Ev.step (f := fun k => g k ((pre ++ [b]).map conv ++ List.replicate rest.length z) ((pre ++ [b]).length : Int)) (fun k => ?_) (ih (pre ++ [b]) (by simp [h]))
      rw [hg, if_pos (by omega), if_pos (by omega), if_pos (by simp; omega), wrap_id (by omega) (by omega)]
      have e1 : x0.getD ((pre.length : Int)).toNat da = b := by rw [h]; simp
      rw [e1]
      congr 1
      · simp [List.replicate_succ, List.set_append]
      · simp
  exact key x0 [] rfl
theorem same_loop {α : Type} (a : List α) (hn : a.length ≤ 4611686018427387904) (g : Nat → Int → Option Bool)
    (hg : ∀ k i, 0 ≤ i → i < (a.length : Int) → g (k + 1) i = g k (wrap64 (i + 1))) (he : ∀ k, g (k + 1) (a.length : Int) = some true) : Ev (fun k => g k 0) true := by
  have key : ∀ d i : Nat, i + d = a.length → Ev (fun k => g k (i : Int)) true := by
    intro d
    induction d with
    | zero => intro i h; obtain rfl : i = a.length := by omega
              exact Ev.step he (Ev.now _)
    | succ d ih =>
      intro i h
      refine Ev.step (f := fun k => g k ((i + 1 : Nat) : Int)) (fun k => ?_) (ih (i + 1) (by omega))
      rw [hg k i (by omega) (by omega), wrap_id (by omega) (by omega)]; rfl
  exact key a.length 0 (by omega)
theorem Ev.mp {α : Type} {g f : Nat → Option α} {r : α} (h : Ev f r) (e : ∀ k, g k = f k) : Ev g r := Ev.congr e h
theorem Ev.step2 {α : Type} {g f : Nat → Option α} {r : α} (h : ∃ K, ∀ k, K ≤ k → g (k + 1) = f k) (e : Ev f r) : Ev g r := by
  obtain ⟨K, hK⟩ := h
  obtain ⟨K', hK'⟩ := e
  refine ⟨max K K' + 1, fun k hk => ?_⟩
  obtain ⟨k, rfl⟩ : ∃ m, k = m + 1 := ⟨k - 1, by omega⟩
  rw [hK k (by omega), hK' k (by omega)]
/-- Every element turned into the next of a row of marks. -/
def markL {α : Type} (mk : Int → α) (c : Nat) : Int → List α → List α
  | _, [] => []
  | k, _ :: r => mk k :: markL mk c (k + c) r
theorem markL_length {α : Type} (mk : Int → α) (c : Nat) (l : List α) : ∀ k, (markL mk c k l).length = l.length := by
  induction l with
  | nil => intro k; rfl
  | cons x r ih => intro k; simp [markL, ih]
theorem mark_loop {α : Type} (mk : Int → α) (c : Nat) (g : Nat → List α → Int → Int → Option (Int × List α)) (B : Int) (hB : B ≤ 4611686018427387904)
    (hg : ∀ (l : List α) (k0 i : Int), 0 ≤ i → i < (l.length : Int) → 0 ≤ k0 → k0 + c ≤ B → ∃ K, ∀ k, K ≤ k → g (k + 1) l k0 i = g k (l.set i.toNat (mk k0)) (k0 + c) (wrap64 (i + 1)))
    (he : ∀ k (l : List α) (k0 : Int), g (k + 1) l k0 (l.length : Int) = some (k0, l)) (l : List α) (hl : l.length ≤ 4611686018427387904) (k0 : Int) (h0 : 0 ≤ k0) (h1 : k0 + c * l.length ≤ B) :
    Ev (fun k => g k l k0 0) (k0 + c * l.length, markL mk c k0 l) := by
  have key : ∀ (rest pre : List α) (k0 : Int), 0 ≤ k0 → k0 + c * rest.length ≤ B → pre.length + rest.length ≤ 4611686018427387904 → Ev (fun k => g k (pre ++ rest) k0 (pre.length : Int)) (k0 + c * rest.length, pre ++ markL mk c k0 rest) := by
    intro rest
    induction rest with
    | nil =>
      intro pre k0 _ _ _
      refine Ev.step (f := fun _ => some (k0, pre)) (fun k => ?_) (by simpa [markL] using Ev.now _)
      have := he k pre k0
      simpa using this
    | cons x rest ih =>
      intro pre k0 h0 h1 h2
      simp only [List.length_cons] at h1 h2
      have hc : (c : Int) * ((rest.length + 1 : Nat) : Int) = c * rest.length + c := by rw [Int.natCast_add, Int.mul_add]; simp
      rw [hc] at h1
      have hcn : 0 ≤ (c : Int) * (rest.length : Int) := Int.mul_nonneg (by omega) (by omega)
      obtain ⟨K, hK⟩ := hg (pre ++ x :: rest) k0 (pre.length : Int) (by omega) (by simp; omega) h0 (by omega)
      have e := ih (pre ++ [mk k0]) (k0 + c) (by omega) (by omega) (by simp; omega)
      have e2 : (k0 + (c : Int)) + c * rest.length = k0 + c * ((x :: rest).length : Int) := by simp only [List.length_cons]; rw [hc]; omega
      rw [e2] at e
      refine Ev.step2 (f := fun k => g k (pre ++ [mk k0] ++ rest) (k0 + c) ((pre ++ [mk k0]).length : Int)) ⟨K, fun k hk => ?_⟩ (by simpa [markL] using e)
      rw [hK k hk, wrap_id (by omega) (by omega)]
      simp [List.set_append]
  have := key l [] k0 h0 h1 (by simpa using hl)
  simpa using this
theorem held_loop {α : Type} (mk : Int → α) (c : Nat) (l0 l : List α) (k0 : Int) (hl : l = markL mk c k0 l0) (g : Nat → Int → Int → Option Int) (B : Int) (hB : B ≤ 4611686018427387904)
    (hg : ∀ (k1 i : Int), 0 ≤ i → i < (l.length : Int) → 0 ≤ k1 → k1 + c ≤ B → l[i.toNat]? = some (mk k1) → ∃ K, ∀ k, K ≤ k → g (k + 1) k1 i = g k (k1 + c) (wrap64 (i + 1)))
    (he : ∀ k (k1 : Int), g (k + 1) k1 (l.length : Int) = some k1) (hn : l0.length ≤ 4611686018427387904) (h0 : 0 ≤ k0) (h1 : k0 + c * l0.length ≤ B) :
    Ev (fun k => g k k0 0) (k0 + c * l0.length) := by
  have hlen : l.length = l0.length := by rw [hl, markL_length]
  have key : ∀ (rest : List α) (pre : List α) (k1 : Int), l = pre ++ markL mk c k1 rest → 0 ≤ k1 → k1 + c * rest.length ≤ B → Ev (fun k => g k k1 (pre.length : Int)) (k1 + c * rest.length) := by
    intro rest
    induction rest with
    | nil =>
      intro pre k1 h _ _
      refine Ev.step (f := fun _ => some k1) (fun k => ?_) (by simpa using Ev.now _)
      have := he k k1
      rw [h] at this
      simpa [markL] using this
    | cons x rest ih =>
      intro pre k1 h h0 h1
      simp only [List.length_cons] at h1
      have hc : (c : Int) * ((rest.length + 1 : Nat) : Int) = c * rest.length + c := by rw [Int.natCast_add, Int.mul_add]; simp
      rw [hc] at h1
      have hcn : 0 ≤ (c : Int) * (rest.length : Int) := Int.mul_nonneg (by omega) (by omega)
      have hl2 : l.length = pre.length + (rest.length + 1) := by rw [h]; simp [markL_length]
      obtain ⟨K, hK⟩ := hg k1 (pre.length : Int) (by omega) (by omega) h0 (by omega) (by rw [h]; simp [markL])
      have e := ih (pre ++ [mk k1]) (k1 + c) (by rw [h]; simp [markL]) (by omega) (by omega)
      have e2 : (k1 + (c : Int)) + c * rest.length = k1 + c * ((x :: rest).length : Int) := by simp only [List.length_cons]; rw [hc]; omega
      rw [e2] at e
      refine Ev.step2 (f := fun k => g k (k1 + c) ((pre ++ [mk k1]).length : Int)) ⟨K, fun k hk => ?_⟩ e
      rw [hK k hk, wrap_id (by omega) (by omega)]
      simp
  exact key l0 [] k0 (by simpa using hl) h0 h1
theorem Ev.pos {α : Type} {c : Prop} [Decidable c] {f g : Nat → Option α} {r : α} (h : c) (e : Ev f r) : Ev (fun k => if c then f k else g k) r := by simp only [if_pos h]; exact e
theorem Ev.neg {α : Type} {c : Prop} [Decidable c] {f g : Nat → Option α} {r : α} (h : ¬ c) (e : Ev g r) : Ev (fun k => if c then f k else g k) r := by simp only [if_neg h]; exact e
theorem Ev.get {α β : Type} {f : Nat → α → Option β} {a : α} {r : β} (e : Ev (fun n => f n a) r) : Ev (fun n => (some a).bind (f n)) r := e

/-- What stands behind the first sign of a quoted text: the bytes, and how many signs are left from the closing quote on; none if it does not close. -/
def unqL (l : List Int) : List Int × Option Nat :=
  match l with
  | [] => ([], none)
  | b :: r =>
    if b = 34 then ([], some (r.length + 1))
    else if b = 92 then
      match r with
      | [] => ([b], none)
      | c :: r' => (c :: (unqL r').1, (unqL r').2)
    else (b :: (unqL r).1, (unqL r).2)
termination_by l.length
decreasing_by all_goals simp only [List.length_cons]; omega
theorem unqL_nil : unqL [] = ([], none) := by unfold unqL; rfl
theorem unqL_quote (r : List Int) : unqL (34 :: r) = ([], some (r.length + 1)) := by rw [unqL.eq_def]; simp
theorem unqL_esc (c : Int) (r : List Int) : unqL (92 :: c :: r) = (c :: (unqL r).1, (unqL r).2) := by rw [unqL.eq_def]; simp
theorem unqL_last : unqL [92] = ([92], none) := by rw [unqL.eq_def]; simp
theorem unqL_other (r : List Int) (b : Int) (h1 : b ≠ 34) (h2 : b ≠ 92) : unqL (b :: r) = (b :: (unqL r).1, (unqL r).2) := by rw [unqL.eq_def]; simp only [if_neg h1, if_neg h2]
def unqV (s : ByteArray) : ByteArray × Bool :=
  (strOfNums (unqL (bytesOf s).tail).1, decide ((bytesOf s).head? = some 34 ∧ (unqL (bytesOf s).tail).2 = some 1))
def unqR (f : Int) (acc rest : List Int) : ByteArray × Bool := (strOfNums (acc ++ (unqL rest).1), decide (f = 34 ∧ (unqL rest).2 = some 1))
theorem unqR_nil (f : Int) (acc : List Int) : unqR f acc [] = (strOfNums acc, false) := by simp [unqR, unqL_nil]
theorem unqR_quote (f : Int) (acc r : List Int) : unqR f acc (34 :: r) = (strOfNums acc, decide (f = 34 ∧ r.length = 0)) := by simp [unqR, unqL_quote]
theorem unqR_esc (f : Int) (acc : List Int) (c : Int) (r : List Int) : unqR f acc (92 :: c :: r) = unqR f (acc ++ [c]) r := by simp [unqR, unqL_esc]
theorem unqR_last (f : Int) (acc : List Int) : unqR f acc [92] = (strOfNums (acc ++ [92]), false) := by simp [unqR, unqL_last]
theorem unqR_other (f : Int) (acc r : List Int) (b : Int) (h1 : b ≠ 34) (h2 : b ≠ 92) : unqR f acc (b :: r) = unqR f (acc ++ [b]) r := by simp [unqR, unqL_other r b h1 h2]

theorem spec_Unq_loop (s : ByteArray) (hs : s.size ≤ 140737488351232) (f : Int) (n : Nat) : ∀ (pre acc rest : List Int), rest.length ≤ n → bytesOf s = f :: (pre ++ rest) → acc.length ≤ pre.length →
    Ev (fun k => spec_UnquoteText.l0 k s acc (((f :: pre).length : Nat) : Int)) (unqR f acc rest) := by
  induction n with
  | zero =>
    intro pre acc rest hr h ha
    obtain rfl : rest = [] := List.eq_nil_of_length_eq_zero (by omega)
    have hz := size_mid (pre := f :: pre) (rest := []) h
    simp only [List.length_nil, List.length_cons] at hz
    rw [unqR_nil]
    refine Ev.step (f := fun _ => some (strOfNums acc, false)) (fun k => ?_) (Ev.now _)
    simp only [spec_UnquoteText.l0, List.length_cons]
    rw [if_neg (by omega)]
  | succ n ih =>
    intro pre acc rest hr h ha
    match rest, hr with
    | [], _ => exact ih pre acc [] (by simp) h ha
    | b :: rest, hr =>
      have hz := size_mid (pre := f :: pre) (rest := b :: rest) h
      simp only [List.length_cons] at hz hr
      have hb := bt_mid (pre := f :: pre) (rest := rest) h
      have h0 : bt s 0 = f := bt_mid (pre := []) (rest := pre ++ b :: rest) h
      have hw := len_step (f :: pre) b (by simp; omega)
      by_cases h1 : b = 34
      · subst h1
        rw [unqR_quote]
        refine Ev.step (f := fun _ => some (strOfNums acc, decide (f = 34 ∧ rest.length = 0))) (fun k => ?_) (Ev.now _)
        simp only [spec_UnquoteText.l0]
        rw [if_pos (by simp; omega), if_pos (by omega), hb, if_pos rfl, if_pos (by omega), h0]
        by_cases h2 : f = 34
        · rw [if_pos h2]
          congr 2
          rw [wrap_id (by omega) (by omega), h2]
          simp only [true_and]
          rw [Bool.eq_iff_iff, beq_iff_eq, decide_eq_true_iff]
          simp only [List.length_cons]
          omega
        · rw [if_neg h2]; simp [h2]
      · by_cases h2 : b = 92
        · subst h2
          match rest, h, hz, hr, hb with
          | [], h, hz, hr, hb =>
            simp only [List.length_nil] at hz
            rw [unqR_last]
            have e := ih (pre ++ [92]) (acc ++ [92]) [] (by simp) (by simpa using h) (by simp; omega)
            rw [unqR_nil] at e
            refine Ev.step (f := fun k => spec_UnquoteText.l0 k s (acc ++ [92]) ((((f :: (pre ++ [92])).length : Nat)) : Int)) (fun k => ?_) e
            simp only [spec_UnquoteText.l0]
            rw [if_pos (by simp; omega), if_pos (by omega), hb, if_neg h1, if_pos rfl, hw, if_neg (by simp; omega), if_pos (by omega)]
            rfl
          | c :: rest, h, hz, hr, hb =>
            simp only [List.length_cons] at hz hr
            have hc := bt_mid (s := s) (pre := (f :: pre) ++ [92]) (rest := rest) (b := c) (by simpa using h)
            have hw2 := len_step ((f :: pre) ++ [92]) c (by simp; omega)
            rw [unqR_esc]
            have e := ih (pre ++ [92, c]) (acc ++ [c]) rest (by omega) (by simpa using h) (by simp; omega)
            refine Ev.step (f := fun k => spec_UnquoteText.l0 k s (acc ++ [c]) ((((f :: (pre ++ [92, c])).length : Nat)) : Int)) (fun k => ?_) e
            simp only [spec_UnquoteText.l0]
            rw [if_pos (by simp; omega), if_pos (by omega), hb, if_neg h1, if_pos rfl, hw, if_pos (by simp; omega), if_pos (by omega), if_pos (by omega), hc, hw2]
            simp
        · rw [unqR_other f acc rest b h1 h2]
          have e := ih (pre ++ [b]) (acc ++ [b]) rest (by omega) (by simpa using h) (by simp; omega)
          refine Ev.step (f := fun k => spec_UnquoteText.l0 k s (acc ++ [b]) ((((f :: (pre ++ [b])).length : Nat)) : Int)) (fun k => ?_) e
          simp only [spec_UnquoteText.l0]
          rw [if_pos (by simp; omega), if_pos (by omega), hb, if_neg h1, if_neg h2, if_pos (by omega), hw]
          rfl
theorem spec_Unq_ev (s : ByteArray) (hs : s.size ≤ 140737488351232) : Ev (fun k => spec_UnquoteText.f k s) (unqV s) := by
  unfold spec_UnquoteText.f unqV
  match h : bytesOf s with
  | [] =>
    have hz := size_bytes s
    rw [h] at hz
    refine Ev.step (f := fun _ => some (strOfNums [], false)) (fun k => ?_) (by simpa [unqL_nil] using Ev.now _)
    simp only [spec_UnquoteText.l0, List.length_nil] at hz ⊢
    rw [if_neg (by omega)]
  | f :: rest =>
    have := spec_Unq_loop s hs f rest.length [] [] rest (Nat.le_refl _) h (by simp)
    simpa [unqR] using this

theorem hasQuote (s : ByteArray) (hs : s.size ≤ 140737488351232) : strings_HasPrefix.f s (⟨#[34]⟩ : ByteArray) = some (decide ((bytesOf s).head? = some 34)) := by
  unfold strings_HasPrefix.f stringslite_HasPrefix.f
  have e : ((⟨#[34]⟩ : ByteArray).size : Int) = 1 := rfl
  rw [e]
  match h : bytesOf s with
  | [] =>
    have hz := size_bytes s
    rw [h] at hz
    simp only [List.length_nil] at hz
    rw [if_neg (by omega)]; rfl
  | b :: r =>
    have hz := size_bytes s
    rw [h] at hz
    simp only [List.length_cons] at hz
    rw [if_pos (by omega), if_pos (by omega), if_pos (by omega), Option.bind_some]
    congr 1
    rw [Bool.eq_iff_iff, beq_iff_eq, decide_eq_true_iff, toList_iff]
    have e2 : bytesOf (s.extract 0 ((1 : Int) : Int).toNat) = [b] := by
      rw [bytesOf_extract, h]; rfl
    have e3 : bytesOf (⟨#[34]⟩ : ByteArray) = [34] := by decide
    constructor
    · intro hh
      rw [hh, e3] at e2
      injection e2 with e2
      simp [← e2]
    · intro hh
      apply bytesOf_inj
      rw [e2, e3]
      simp at hh
      rw [hh]
theorem impl_Unq_end (s : ByteArray) (hs : s.size ≤ 140737488351232) (f : Int) (pre acc rest : List Int) (h : bytesOf s = f :: (pre ++ rest)) (hq : rest = [] ∨ ∃ r, rest = 34 :: r) :
    Ev (fun k => impl_UnquoteText.j1 k s acc (((f :: pre).length : Nat) : Int) false) (unqR f acc rest) := by
  have hz := size_mid (pre := f :: pre) (rest := rest) h
  simp only [List.length_cons] at hz
  refine Ev.step (f := fun _ => some (unqR f acc rest)) (fun k => ?_) (Ev.now _)
  simp only [impl_UnquoteText.j1]
  rw [if_neg (by simp), hasQuote s hs, Option.bind_some, h]
  simp only [List.head?_cons, Option.some.injEq, decide_eq_true_eq]
  rcases hq with rfl | ⟨r, rfl⟩
  · simp only [List.length_nil] at hz
    rw [unqR_nil]
    split
    · congr 2
      rw [wrap_id (by omega) (by omega), beq_eq_false_iff_ne]
      simp only [List.length_cons]
      omega
    · rfl
  · simp only [List.length_cons] at hz
    rw [unqR_quote]
    split
    · rename_i hf
      congr 2
      rw [wrap_id (by omega) (by omega), Bool.eq_iff_iff, beq_iff_eq, decide_eq_true_iff]
      simp only [List.length_cons, hf, true_and]
      omega
    · rename_i hf
      simp [hf]
theorem impl_Unq_loop (s : ByteArray) (hs : s.size ≤ 140737488351232) (f : Int) (n : Nat) : ∀ (pre acc rest : List Int), rest.length ≤ n → bytesOf s = f :: (pre ++ rest) → acc.length ≤ pre.length →
    Ev (fun k => impl_UnquoteText.l0 k s acc (((f :: pre).length : Nat) : Int)) (unqR f acc rest) := by
  induction n with
  | zero =>
    intro pre acc rest hr h ha
    obtain rfl : rest = [] := List.eq_nil_of_length_eq_zero (by omega)
    have hz := size_mid (pre := f :: pre) (rest := []) h
    simp only [List.length_nil, List.length_cons] at hz
    refine Ev.step (f := fun k => impl_UnquoteText.j1 k s acc (((f :: pre).length : Nat) : Int) false) (fun k => ?_) (impl_Unq_end s hs f pre acc [] h (.inl rfl))
    simp only [impl_UnquoteText.l0, List.length_cons]
    rw [if_neg (by omega)]
  | succ n ih =>
    intro pre acc rest hr h ha
    match rest, hr with
    | [], _ => exact ih pre acc [] (by simp) h ha
    | b :: rest, hr =>
      have hz := size_mid (pre := f :: pre) (rest := b :: rest) h
      simp only [List.length_cons] at hz hr
      have hb := bt_mid (pre := f :: pre) (rest := rest) h
      have hw := len_step (f :: pre) b (by simp; omega)
      refine Ev.step (f := fun k => impl_UnquoteText.j1 k s acc (((f :: pre).length : Nat) : Int) (b != 34)) (fun k => ?_) ?_
      · simp only [impl_UnquoteText.l0]
        rw [if_pos (by simp; omega), if_pos (by omega), hb]
      by_cases h1 : b = 34
      · subst h1
        exact impl_Unq_end s hs f pre acc (34 :: rest) h (.inr ⟨rest, rfl⟩)
      · have hbn : (b != 34) = true := bne_iff_ne.mpr h1
        rw [hbn]
        by_cases h2 : b = 92
        · subst h2
          match rest, h, hz, hr, hb with
          | [], h, hz, hr, hb =>
            simp only [List.length_nil] at hz
            rw [unqR_last]
            have e := ih (pre ++ [92]) (acc ++ [92]) [] (by simp) (by simpa using h) (by simp; omega)
            rw [unqR_nil] at e
            refine Ev.step (f := fun k => impl_UnquoteText.l0 k s (acc ++ [92]) ((((f :: (pre ++ [92])).length : Nat)) : Int)) (fun k => ?_) e
            simp only [impl_UnquoteText.j1]
            rw [if_pos trivial, if_pos (by omega), if_pos (by simp; omega), hb, if_pos rfl, hw, if_neg (by simp; omega), if_pos (by omega)]
            rfl
          | c :: rest, h, hz, hr, hb =>
            simp only [List.length_cons] at hz hr
            have hc := bt_mid (s := s) (pre := (f :: pre) ++ [92]) (rest := rest) (b := c) (by simpa using h)
            have hw2 := len_step ((f :: pre) ++ [92]) c (by simp; omega)
            rw [unqR_esc]
            have e := ih (pre ++ [92, c]) (acc ++ [c]) rest (by omega) (by simpa using h) (by simp; omega)
            refine Ev.step (f := fun k => impl_UnquoteText.l0 k s (acc ++ [c]) ((((f :: (pre ++ [92, c])).length : Nat)) : Int)) (fun k => ?_) e
            simp only [impl_UnquoteText.j1]
            rw [if_pos trivial, if_pos (by omega), if_pos (by simp; omega), hb, if_pos rfl, hw, if_pos (by simp; omega), if_pos (by omega), if_pos (by omega), hc, hw2]
            simp
        · rw [unqR_other f acc rest b h1 h2]
          have e := ih (pre ++ [b]) (acc ++ [b]) rest (by omega) (by simpa using h) (by simp; omega)
          refine Ev.step (f := fun k => impl_UnquoteText.l0 k s (acc ++ [b]) ((((f :: (pre ++ [b])).length : Nat)) : Int)) (fun k => ?_) e
          simp only [impl_UnquoteText.j1]
          rw [if_pos trivial, if_pos (by omega), if_pos (by simp; omega), hb, if_neg h2, if_pos (by omega), hw]
          rfl
theorem impl_Unq_ev (s : ByteArray) (hs : s.size ≤ 140737488351232) : Ev (fun k => impl_UnquoteText.f k s) (unqV s) := by
  unfold impl_UnquoteText.f unqV
  match h : bytesOf s with
  | [] =>
    have hz := size_bytes s
    rw [h] at hz
    simp only [List.length_nil] at hz
    refine Ev.step (f := fun k => impl_UnquoteText.j1 k s [] 1 false) (fun k => ?_) (Ev.step (f := fun _ => some (strOfNums [], false)) (fun k => ?_) (by simpa [unqL_nil] using Ev.now _))
    · simp only [impl_UnquoteText.l0]
      rw [if_neg (by omega)]
    · simp only [impl_UnquoteText.j1]
      rw [if_neg (by simp), hasQuote s hs, Option.bind_some, h]
      simp
  | f :: rest =>
    have := impl_Unq_loop s hs f rest.length [] [] rest (Nat.le_refl _) h (by simp)
    simpa [unqR] using this

theorem FnExactUnquoteText : laws_FnExactUnquoteText.Pure := by
  intro s hs
  unfold laws_FnExactUnquoteText.f
  by_cases h : (s.size : Int) > 1048576
  · exact ⟨0, by rw [if_pos h]⟩
  · simp only [if_neg h]
    apply Ev.rounds
    refine Ev.bind (spec_Unq_ev s hs) (Ev.bind (impl_Unq_ev s hs) ?_)
    simp only [if_true, bne_self_eq_false, Bool.false_eq_true, if_false]
    exact Ev.now _

end Go.Proofs.Ytpodilleenkciab.Pure
