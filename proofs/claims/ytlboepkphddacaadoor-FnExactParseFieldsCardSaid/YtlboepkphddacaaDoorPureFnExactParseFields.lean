/- The pure part of FnExactParseFields: for every input within the statement's bounds the printed law answers true. Conditions: the statement's own bounds alone. -/
import Derived.Test.YtlboepkphddacaaDoorPreFnExactParseFields
import Derived.Test.YtlboepkphddacaaDoorRFnExactParseFieldsx1
import Derived.Test.YtlboepkphddacaaDoorRFnExactParseFieldsx2
import Derived.Test.YtlboepkphddacaaDoorRFnExactParseFieldsx3
import Derived.Test.YtlboepkphddacaaDoorRFnExactParseFieldsx4
import Derived.Test.YtlboepkphddacaaDoorRFnExactParseFieldsx5
import Derived.Test.YtlboepkphddacaaDoorRFnExactParseFieldsx6
import Derived.Test.YtlboepkphddacaaDoorRFnExactParseFieldsx7
import Derived.Test.YtlboepkphddacaaDoorRFnExactParseFieldsx8
import Derived.OpenShut
namespace Go.Proofs.YtlboepkphddacaaDoor.Pure
open Go.RowKit Go.Proofs.YtlboepkphddacaaDoor.RFnExactParseFields Go.Proofs.YtlboepkphddacaaDoorW.PrintWords Go.Proofs.YtlboepkphddacaaDoorW.PrintLast
set_option linter.unusedSimpArgs false
set_option linter.unusedVariables false

/-! ### Texts as lists of numbers -/
def InB (l : List Int) : Prop := ∀ x ∈ l, 0 ≤ x ∧ x ≤ 255
theorem InB_nil : InB [] := fun x hx => by simp at hx
theorem InB_cons {b : Int} {l : List Int} : InB (b :: l) ↔ (0 ≤ b ∧ b ≤ 255) ∧ InB l := by simp [InB]
theorem InB_append {l m : List Int} : InB (l ++ m) ↔ InB l ∧ InB m := by
  simp only [InB, List.mem_append]
  exact ⟨fun h => ⟨fun x hx => h x (.inl hx), fun x hx => h x (.inr hx)⟩, fun h x hx => hx.elim (h.1 x) (h.2 x)⟩
theorem InB_take {l : List Int} (n : Nat) (h : InB l) : InB (l.take n) := fun x hx => h x (List.mem_of_mem_take hx)
theorem InB_drop {l : List Int} (n : Nat) (h : InB l) : InB (l.drop n) := fun x hx => h x (List.mem_of_mem_drop hx)
theorem InB_bytes (s : ByteArray) : InB (bytesOf s) := by
  intro x hx
  unfold bytesOf at hx
  obtain ⟨b, _, rfl⟩ := List.mem_map.1 hx
  have := b.toNat_lt
  omega
theorem strOf_bytesOf (s : ByteArray) : strOfNums (bytesOf s) = s := by
  obtain ⟨⟨l⟩⟩ := s
  unfold strOfNums bytesOf
  simp only [List.map_map]
  congr 2
  exact (List.map_congr_left (fun b _ => by simp)).trans (List.map_id l)
theorem bytesOf_strOf {l : List Int} (h : InB l) : bytesOf (strOfNums l) = l := by
  unfold strOfNums bytesOf
  simp only [List.map_map]
  refine (List.map_congr_left (fun x hx => ?_)).trans (List.map_id l)
  have := h x hx
  simp only [Function.comp_apply, id, UInt8.toNat_ofNat']
  omega
theorem bytesOf_inj {s t : ByteArray} (h : bytesOf s = bytesOf t) : s = t := by rw [← strOf_bytesOf s, h, strOf_bytesOf]
theorem bytesOf_append (s t : ByteArray) : bytesOf (s ++ t) = bytesOf s ++ bytesOf t := by
  unfold bytesOf
  rw [ByteArray.data_append, Array.toList_append, List.map_append]
theorem bytesOf_extract (s : ByteArray) (a b : Nat) : bytesOf (s.extract a b) = ((bytesOf s).take b).drop a := by
  unfold bytesOf
  rw [ByteArray.data_extract, Array.toList_extract, List.extract_eq_take_drop, List.map_take, List.map_drop, List.take_drop]
  rcases Nat.le_total a b with h | h
  · rw [Nat.add_sub_cancel' h]
  · rw [Nat.sub_eq_zero_of_le h, List.drop_eq_nil_of_le (by simp; omega), List.drop_eq_nil_of_le (by simp; omega)]
theorem toList_iff {s t : ByteArray} : s.toList = t.toList ↔ s = t := by
  rw [ByteArray.toList_eq, ByteArray.toList_eq]
  constructor
  · intro h
    obtain ⟨⟨l⟩⟩ := s
    obtain ⟨⟨m⟩⟩ := t
    simp only at h
    rw [h]
  · rintro rfl; rfl
theorem size_bytes (s : ByteArray) : (s.size : Int) = ((bytesOf s).length : Int) := by rw [bytesOf_length]
theorem getD_mid {α : Type} {l pre rest : List α} {b d : α} (h : l = pre ++ b :: rest) : l.getD ((pre.length : Int)).toNat d = b := by subst h; simp
theorem len_mid {α : Type} {l pre rest : List α} (h : l = pre ++ rest) : l.length = pre.length + rest.length := by rw [h, List.length_append]
theorem rd_mid {l pre rest : List Int} {b : Int} (h : l = pre ++ b :: rest) : rd l (pre.length : Int) = b := by
  subst h
  unfold rd
  simp
theorem bt_mid {s : ByteArray} {pre rest : List Int} {b : Int} (h : bytesOf s = pre ++ b :: rest) : bt s (pre.length : Int) = b := by
  rw [← rd_bytesOf]; exact rd_mid h
theorem size_mid {s : ByteArray} {pre rest : List Int} (h : bytesOf s = pre ++ rest) : (s.size : Int) = (pre.length : Int) + (rest.length : Int) := by
  rw [size_bytes, h]; simp
theorem mid_step {l pre rest : List Int} {b : Int} (h : l = pre ++ b :: rest) : l = (pre ++ [b]) ++ rest := by simp [h]
theorem wrap_id {n : Int} (h0 : -9223372036854775808 ≤ n) (h1 : n ≤ 9223372036854775807) : wrap64 n = n := by unfold wrap64; omega
theorem len_step {α : Type} (pre : List α) (b : α) (h : pre.length ≤ 9223372036854775000) : wrap64 ((pre.length : Int) + 1) = ((pre ++ [b]).length : Int) := by
  rw [wrap_id (by omega) (by omega)]; simp
/-! ### Loops over lists -/
theorem map_loop {α β : Type} (da : α) (conv : α → β) (x0 : List α) (hn : x0.length ≤ 4611686018427387904) (g : Nat → List β → Int → Option (List β))
    (hg : ∀ k x3 i, g (k + 1) x3 i = if i < (x0.length : Int) then (if 0 ≤ i then (if i < (x3.length : Int) then g k (x3.set (i : Int).toNat (conv (x0.getD i.toNat da))) (wrap64 (i + 1)) else none) else none) else some x3) (z : β) :
    Ev (fun k => g k (List.replicate x0.length z) 0) (x0.map conv) := by
  have key : ∀ rest pre, x0 = pre ++ rest → Ev (fun k => g k (pre.map conv ++ List.replicate rest.length z) (pre.length : Int)) (x0.map conv) := by
    intro rest
    induction rest with
    | nil =>
      intro pre h
      refine Ev.step (f := fun _ => some (x0.map conv)) (fun k => ?_) (Ev.now _)
      rw [hg, if_neg (by rw [h]; simp)]
      simp [h]
    | cons b rest ih =>
      intro pre h
      have hl : x0.length = pre.length + (rest.length + 1) := by rw [h]; simp
      refine Ev.step (f := fun k => g k ((pre ++ [b]).map conv ++ List.replicate rest.length z) ((pre ++ [b]).length : Int)) (fun k => ?_) (ih (pre ++ [b]) (by simp [h]))
      rw [hg, if_pos (by omega), if_pos (by omega), if_pos (by simp; omega), wrap_id (by omega) (by omega)]
      have e1 : x0.getD ((pre.length : Int)).toNat da = b := by rw [h]; simp
      rw [e1]
      congr 1
      · simp [List.replicate_succ, List.set_append]
      · simp
  exact key x0 [] rfl
theorem same_loop {α : Type} (a : List α) (hn : a.length ≤ 4611686018427387904) (g : Nat → Int → Option Bool)
    (hg : ∀ k i, 0 ≤ i → i < (a.length : Int) → g (k + 1) i = g k (wrap64 (i + 1))) (he : ∀ k, g (k + 1) (a.length : Int) = some true) : Ev (fun k => g k 0) true := by
  have key : ∀ d i : Nat, i + d = a.length → Ev (fun k => g k (i : Int)) true := by
    intro d
    induction d with
    | zero => intro i h; obtain rfl : i = a.length := by omega
              exact Ev.step he (Ev.now _)
    | succ d ih =>
      intro i h
      refine Ev.step (f := fun k => g k ((i + 1 : Nat) : Int)) (fun k => ?_) (ih (i + 1) (by omega))
      rw [hg k i (by omega) (by omega), wrap_id (by omega) (by omega)]; rfl
  exact key a.length 0 (by omega)
theorem Ev.mp {α : Type} {g f : Nat → Option α} {r : α} (h : Ev f r) (e : ∀ k, g k = f k) : Ev g r := Ev.congr e h
theorem Ev.step2 {α : Type} {g f : Nat → Option α} {r : α} (h : ∃ K, ∀ k, K ≤ k → g (k + 1) = f k) (e : Ev f r) : Ev g r := by
  obtain ⟨K, hK⟩ := h
  obtain ⟨K', hK'⟩ := e
  refine ⟨max K K' + 1, fun k hk => ?_⟩
  obtain ⟨k, rfl⟩ : ∃ m, k = m + 1 := ⟨k - 1, by omega⟩
  rw [hK k (by omega), hK' k (by omega)]
/-- Every element turned into the next of a row of marks. -/
def markL {α : Type} (mk : Int → α) (c : Nat) : Int → List α → List α
  | _, [] => []
  | k, _ :: r => mk k :: markL mk c (k + c) r
theorem markL_length {α : Type} (mk : Int → α) (c : Nat) (l : List α) : ∀ k, (markL mk c k l).length = l.length := by
  induction l with
  | nil => intro k; rfl
  | cons x r ih => intro k; simp [markL, ih]
theorem mark_loop {α : Type} (mk : Int → α) (c : Nat) (g : Nat → List α → Int → Int → Option (Int × List α)) (B : Int) (hB : B ≤ 4611686018427387904)
    (hg : ∀ (l : List α) (k0 i : Int), 0 ≤ i → i < (l.length : Int) → 0 ≤ k0 → k0 + c ≤ B → ∃ K, ∀ k, K ≤ k → g (k + 1) l k0 i = g k (l.set i.toNat (mk k0)) (k0 + c) (wrap64 (i + 1)))
    (he : ∀ k (l : List α) (k0 : Int), g (k + 1) l k0 (l.length : Int) = some (k0, l)) (l : List α) (hl : l.length ≤ 4611686018427387904) (k0 : Int) (h0 : 0 ≤ k0) (h1 : k0 + c * l.length ≤ B) :
    Ev (fun k => g k l k0 0) (k0 + c * l.length, markL mk c k0 l) := by
  have key : ∀ (rest pre : List α) (k0 : Int), 0 ≤ k0 → k0 + c * rest.length ≤ B → pre.length + rest.length ≤ 4611686018427387904 → Ev (fun k => g k (pre ++ rest) k0 (pre.length : Int)) (k0 + c * rest.length, pre ++ markL mk c k0 rest) := by
    intro rest
    induction rest with
    | nil =>
      intro pre k0 _ _ _
      refine Ev.step (f := fun _ => some (k0, pre)) (fun k => ?_) (by simpa [markL] using Ev.now _)
      have := he k pre k0
      simpa using this
    | cons x rest ih =>
      intro pre k0 h0 h1 h2
      simp only [List.length_cons] at h1 h2
      have hc : (c : Int) * ((rest.length + 1 : Nat) : Int) = c * rest.length + c := by rw [Int.natCast_add, Int.mul_add]; simp
      rw [hc] at h1
      have hcn : 0 ≤ (c : Int) * (rest.length : Int) := Int.mul_nonneg (by omega) (by omega)
      obtain ⟨K, hK⟩ := hg (pre ++ x :: rest) k0 (pre.length : Int) (by omega) (by simp; omega) h0 (by omega)
      have e := ih (pre ++ [mk k0]) (k0 + c) (by omega) (by omega) (by simp; omega)
      have e2 : (k0 + (c : Int)) + c * rest.length = k0 + c * ((x :: rest).length : Int) := by simp only [List.length_cons]; rw [hc]; omega
      rw [e2] at e
      refine Ev.step2 (f := fun k => g k (pre ++ [mk k0] ++ rest) (k0 + c) ((pre ++ [mk k0]).length : Int)) ⟨K, fun k hk => ?_⟩ (by simpa [markL] using e)
      rw [hK k hk, wrap_id (by omega) (by omega)]
      simp [List.set_append]
  have := key l [] k0 h0 h1 (by simpa using hl)
  simpa using this
theorem held_loop {α : Type} (mk : Int → α) (c : Nat) (l0 l : List α) (k0 : Int) (hl : l = markL mk c k0 l0) (g : Nat → Int → Int → Option Int) (B : Int) (hB : B ≤ 4611686018427387904)
    (hg : ∀ (k1 i : Int), 0 ≤ i → i < (l.length : Int) → 0 ≤ k1 → k1 + c ≤ B → l[i.toNat]? = some (mk k1) → ∃ K, ∀ k, K ≤ k → g (k + 1) k1 i = g k (k1 + c) (wrap64 (i + 1)))
    (he : ∀ k (k1 : Int), g (k + 1) k1 (l.length : Int) = some k1) (hn : l0.length ≤ 4611686018427387904) (h0 : 0 ≤ k0) (h1 : k0 + c * l0.length ≤ B) :
    Ev (fun k => g k k0 0) (k0 + c * l0.length) := by
  have hlen : l.length = l0.length := by rw [hl, markL_length]
  have key : ∀ (rest : List α) (pre : List α) (k1 : Int), l = pre ++ markL mk c k1 rest → 0 ≤ k1 → k1 + c * rest.length ≤ B → Ev (fun k => g k k1 (pre.length : Int)) (k1 + c * rest.length) := by
    intro rest
    induction rest with
    | nil =>
      intro pre k1 h _ _
      refine Ev.step (f := fun _ => some k1) (fun k => ?_) (by simpa using Ev.now _)
      have := he k k1
      rw [h] at this
      simpa [markL] using this
    | cons x rest ih =>
      intro pre k1 h h0 h1
      simp only [List.length_cons] at h1
      have hc : (c : Int) * ((rest.length + 1 : Nat) : Int) = c * rest.length + c := by rw [Int.natCast_add, Int.mul_add]; simp
      rw [hc] at h1
      have hcn : 0 ≤ (c : Int) * (rest.length : Int) := Int.mul_nonneg (by omega) (by omega)
      have hl2 : l.length = pre.length + (rest.length + 1) := by rw [h]; simp [markL_length]
      obtain ⟨K, hK⟩ := hg k1 (pre.length : Int) (by omega) (by omega) h0 (by omega) (by rw [h]; simp [markL])
      have e := ih (pre ++ [mk k1]) (k1 + c) (by rw [h]; simp [markL]) (by omega) (by omega)
      have e2 : (k1 + (c : Int)) + c * rest.length = k1 + c * ((x :: rest).length : Int) := by simp only [List.length_cons]; rw [hc]; omega
      rw [e2] at e
      refine Ev.step2 (f := fun k => g k (k1 + c) ((pre ++ [mk k1]).length : Int)) ⟨K, fun k hk => ?_⟩ e
      rw [hK k hk, wrap_id (by omega) (by omega)]
      simp
  exact key l0 [] k0 (by simpa using hl) h0 h1
theorem Ev.pos {α : Type} {c : Prop} [Decidable c] {f g : Nat → Option α} {r : α} (h : c) (e : Ev f r) : Ev (fun k => if c then f k else g k) r := by simp only [if_pos h]; exact e
theorem Ev.neg {α : Type} {c : Prop} [Decidable c] {f g : Nat → Option α} {r : α} (h : ¬ c) (e : Ev g r) : Ev (fun k => if c then f k else g k) r := by simp only [if_neg h]; exact e
theorem Ev.get {α β : Type} {f : Nat → α → Option β} {a : α} {r : β} (e : Ev (fun n => f n a) r) : Ev (fun n => (some a).bind (f n)) r := e
theorem eqField_self (x : S67) : laws_eqField.f x.f0 x.f1 x.f0 x.f1 = some true := by simp [laws_eqField.f]
theorem eqFieldS_self (l : List S67) (hn : l.length ≤ 4611686018427387904) : Ev (fun k => laws_eqFieldS.f k l l) true := by
  have e := same_loop l hn (fun k => laws_eqFieldS.l0 k l l) (fun k i h0 h1 => by
    simp only [laws_eqFieldS.l0]
    rw [if_pos h1, if_pos h0, if_pos h1, eqField_self, Option.bind_some, if_pos rfl]) (fun k => by
    simp only [laws_eqFieldS.l0]
    rw [if_neg (by omega)])
  refine Ev.mp e (fun k => ?_)
  unfold laws_eqFieldS.f
  rw [if_pos rfl]
theorem mt_loop (d : Nat) : ∀ (n : Int) (x : ByteArray), 0 ≤ n → n < 10 ^ d → n ≤ 9223372036854775807 → x.size + d ≤ 1000 → ∃ t, Ev (fun k => laws_markText.l0 k n x) t := by
  induction d with
  | zero =>
    intro n x h0 h1 hb hx
    refine ⟨_, Ev.step (f := fun _ => some ((⟨#[109]⟩ : ByteArray) ++ x)) (fun k => ?_) (Ev.now _)⟩
    simp only [laws_markText.l0]
    rw [if_neg (by simp at h1; omega), if_pos (by omega)]
  | succ d ih =>
    intro n x h0 h1 hb hx
    by_cases hz : n > 0
    · have hdiv : Int.tdiv n 10 = n / 10 := Int.tdiv_eq_ediv_of_nonneg h0
      have hlt : n / 10 < 10 ^ d := by
        rw [Int.pow_succ] at h1
        omega
      have hw : wrap64 (Int.tdiv n 10) = n / 10 := by rw [hdiv, wrap_id (by omega) (by omega)]
      obtain ⟨t, ht⟩ := ih (n / 10) (strOfNums [(wrap64 (48 + (Int.tmod n 10))) % 256] ++ x) (by omega) hlt (by omega) (by rw [ByteArray.size_append, strOfNums_size]; simp; omega)
      refine ⟨t, Ev.step (f := fun k => laws_markText.l0 k (n / 10) (strOfNums [(wrap64 (48 + (Int.tmod n 10))) % 256] ++ x)) (fun k => ?_) ht⟩
      simp only [laws_markText.l0]
      rw [if_pos hz, Option.bind_some, if_pos (by rw [strOfNums_size]; simp; omega), hw]
    · refine ⟨_, Ev.step (f := fun _ => some ((⟨#[109]⟩ : ByteArray) ++ x)) (fun k => ?_) (Ev.now _)⟩
      simp only [laws_markText.l0]
      rw [if_neg hz, if_pos (by omega)]
theorem mt_one (n : Int) (hb : n ≤ 9223372036854775807) : ∃ t, Ev (fun k => laws_markText.f k n) t := by
  by_cases h : n ≤ 0
  · exact ⟨_, Ev.mp (Ev.now (⟨#[109, 48]⟩ : ByteArray)) (fun k => by unfold laws_markText.f; rw [if_pos h])⟩
  · obtain ⟨t, ht⟩ := mt_loop 19 n ⟨#[]⟩ (by omega) (by omega) hb (by decide)
    exact ⟨t, Ev.mp ht (fun k => by unfold laws_markText.f; rw [if_neg h])⟩
theorem mt_all : ∃ mt : Int → ByteArray, ∀ n, n ≤ 9223372036854775807 → Ev (fun k => laws_markText.f k n) (mt n) := by
  refine ⟨fun n => if h : n ≤ 9223372036854775807 then Classical.choose (mt_one n h) else ByteArray.empty, fun n h => ?_⟩
  simp only [dif_pos h]
  exact Classical.choose_spec (mt_one n h)
def mk_Field (mt : Int → ByteArray) (k : Int) : S67 := ⟨mt k, mt (k + 1)⟩
theorem rd_set_Field (l : List S67) (i : Int) (h0 : 0 ≤ i) (h : i < (l.length : Int)) (v : S67) : rd_T67 (l.set i.toNat v) i = v := by
  unfold rd_T67
  have : i.toNat < (l.set i.toNat v).length := by simp; omega
  rw [List.getD_eq_getElem?_getD, List.getElem?_eq_getElem this]
  simp
theorem markFieldS_from (mt : Int → ByteArray) (hmt : ∀ n, n ≤ 9223372036854775807 → Ev (fun k => laws_markText.f k n) (mt n)) (l : List S67) (hl : l.length ≤ 1000000000) (q0 : Int) (hq0 : 0 ≤ q0) (hq1 : q0 ≤ 1000000000000) : Ev (fun k => laws_markFieldS.f k l q0) (q0 + (2 : Nat) * l.length, markL (mk_Field mt ) 2 q0 l) := by
  refine mark_loop (mk_Field mt ) 2 (fun k l k0 i => laws_markFieldS.l0 k l k0 i) 4611686018427387904 (by omega) (fun l k0 i h0 h1 hk0 hk1 => ?_) (fun k l k0 => ?_) l (by omega) q0 (by omega) (by omega)
  · have hk2 : k0 + 2 ≤ 4611686018427387904 := by simpa using hk1
    obtain ⟨K0, hK0⟩ := hmt k0 (by omega)
    obtain ⟨K1, hK1⟩ := hmt (k0 + 1) (by omega)
    have w0 : wrap64 (k0 + 1) = k0 + 1 := by rw [wrap_id (by omega) (by omega)]
    have w1 : wrap64 ((k0 + 1) + 1) = k0 + 2 := by rw [wrap_id (by omega) (by omega)]; omega
    refine ⟨K0 + K1, fun k hk => ?_⟩
    simp only [laws_markFieldS.l0]
    rw [if_pos h1]
    simp only [hK0 k (by omega), hK1 k (by omega), w0, w1, if_pos h0, Option.bind_some]
    have r := rd_set_Field l i h0 h1
    simp only [r, List.set_set]
    rfl
  · simp only [laws_markFieldS.l0]
    rw [if_neg (by omega)]
theorem markFieldS_ev (mt : Int → ByteArray) (hmt : ∀ n, n ≤ 9223372036854775807 → Ev (fun k => laws_markText.f k n) (mt n)) (l : List S67) (hl : l.length ≤ 1000000000) : Ev (fun k => laws_markFieldS.f k l 1) (1 + (2 : Nat) * l.length, markL (mk_Field mt ) 2 1 l) := markFieldS_from mt hmt l hl 1 (by omega) (by omega)
theorem markFieldS_any (mt : Int → ByteArray) (hmt : ∀ n, n ≤ 9223372036854775807 → Ev (fun k => laws_markText.f k n) (mt n)) (l : List S67) (hl : l.length ≤ 1000000000) (q0 : Int) (hq0 : 0 ≤ q0) (hq1 : q0 ≤ 1000000000000) : ∃ q1 Q1, Ev (fun k => laws_markFieldS.f k l q0) (q1, Q1) ∧ ¬ q1 < 0 := ⟨_, _, markFieldS_from mt hmt l hl q0 hq0 hq1, by have : 0 ≤ (2 : Int) * (l.length : Int) := Int.mul_nonneg (by omega) (by omega); simp; omega⟩
theorem heldFieldS_ev (mt : Int → ByteArray) (hmt : ∀ n, n ≤ 9223372036854775807 → Ev (fun k => laws_markText.f k n) (mt n)) (l0 : List S67) (hl : l0.length ≤ 1000000000) : Ev (fun k => laws_heldFieldS.f k (markL (mk_Field mt ) 2 1 l0) 1) (1 + (2 : Nat) * l0.length) := by
  refine held_loop (mk_Field mt ) 2 l0 _ 1 rfl (fun k k0 i => laws_heldFieldS.l0 k (markL (mk_Field mt ) 2 1 l0) k0 i) 4611686018427387904 (by omega) (fun k0 i h0 h1 hk0 hk1 hx => ?_) (fun k k1 => ?_) (by omega) (by omega) (by omega)
  · have hk2 : k0 + 2 ≤ 4611686018427387904 := by simpa using hk1
    obtain ⟨K0, hK0⟩ := hmt k0 (by omega)
    obtain ⟨K1, hK1⟩ := hmt (k0 + 1) (by omega)
    have w0 : wrap64 (k0 + 1) = k0 + 1 := by rw [wrap_id (by omega) (by omega)]
    have w1 : wrap64 ((k0 + 1) + 1) = k0 + 2 := by rw [wrap_id (by omega) (by omega)]; omega
    have hr : rd_T67 (markL (mk_Field mt ) 2 1 l0) i = mk_Field mt k0 := by unfold rd_T67; rw [List.getD_eq_getElem?_getD, hx]; rfl
    refine ⟨K0 + K1, fun k hk => ?_⟩
    simp only [laws_heldFieldS.l0]
    rw [if_pos h1, if_pos h0]
    simp only [hr, hK0 k (by omega), hK1 k (by omega), w0, w1, Option.bind_some, mk_Field, if_true, bne_self_eq_false, Bool.false_eq_true, if_false]
    rfl
  · simp only [laws_heldFieldS.l0]
    rw [if_neg (by omega)]
def tokB (x : Int) : Bool := decide (97 ≤ x ∧ x ≤ 122) || decide (65 ≤ x ∧ x ≤ 90) || decide (48 ≤ x ∧ x ≤ 57) || ([33, 35, 36, 37, 38, 39, 42, 43, 45, 46, 94, 95, 124, 126, 96] : List Int).contains x
def tokL (l : List Int) : Bool := l.all tokB && decide (1 ≤ (l.length : Int) ∧ (l.length : Int) ≤ 40)
def tokV (s : ByteArray) : Bool := (bytesOf s).all tokB && decide (1 ≤ (s.size : Int) ∧ (s.size : Int) ≤ 40)
theorem tokV_L (s : ByteArray) : tokV s = tokL (bytesOf s) := by unfold tokV tokL; rw [size_bytes]
theorem fin256 {p : Int → Prop} (h : ∀ n : Fin 256, p (n.val : Int)) {b : Int} (h0 : 0 ≤ b) (h1 : b ≤ 255) : p b := by
  have := h ⟨b.toNat, by omega⟩
  rwa [show ((b.toNat : Nat) : Int) = b by omega] at this
def lowerV (s : ByteArray) : ByteArray := strOfNums ((bytesOf s).map lowB)
def rdropI (p : Int → Bool) : List Int → List Int
  | [] => []
  | b :: r => if rdropI p r = [] ∧ p b = true then [] else b :: rdropI p r
def trimP (p : Int → Bool) (l : List Int) : List Int := (rdropI p l).dropWhile p
def blankI (b : Int) : Bool := b == 32 || b == 9
theorem rdropI_concat (p : Int → Bool) (l : List Int) (b : Int) : rdropI p (l ++ [b]) = if p b = true then rdropI p l else l ++ [b] := by
  induction l with
  | nil => by_cases h : p b = true <;> simp [rdropI, h]
  | cons x r ih =>
    by_cases h : p b = true
    · rw [if_pos h] at ih ⊢
      simp only [List.cons_append, rdropI, ih]
    · rw [if_neg h] at ih ⊢
      simp only [List.cons_append, rdropI, ih]
      rw [if_neg (by simp)]
theorem rdropI_eq (p : Int → Bool) (l : List Int) : (l.reverse.dropWhile p).reverse = rdropI p l := by
  obtain ⟨n, hn⟩ : ∃ n, l.length = n := ⟨_, rfl⟩
  induction n generalizing l with
  | zero => obtain rfl := List.eq_nil_of_length_eq_zero hn; rfl
  | succ n ih =>
    rcases List.eq_nil_or_concat l with h | ⟨r, b, h⟩
    · subst h; rfl
    · subst h
      rw [List.concat_eq_append, rdropI_concat, List.reverse_append]
      simp only [List.reverse_cons, List.reverse_nil, List.nil_append, List.singleton_append, List.dropWhile_cons]
      by_cases hb : p b = true
      · rw [if_pos hb, if_pos hb]
        exact ih r (by simp at hn; omega)
      · rw [if_neg hb, if_neg hb]; simp
theorem rdropI_length (p : Int → Bool) (l : List Int) : (rdropI p l).length ≤ l.length := by
  induction l with
  | nil => simp [rdropI]
  | cons b r ih => unfold rdropI; split <;> simp only [List.length_nil, List.length_cons] <;> omega
theorem rdropI_all (p : Int → Bool) (l : List Int) : rdropI p l = [] ↔ ∀ x ∈ l, p x = true := by
  induction l with
  | nil => simp [rdropI]
  | cons b r ih =>
    unfold rdropI
    split
    · rename_i h
      simp only [List.mem_cons, forall_eq_or_imp, true_iff]
      exact ⟨h.2, ih.1 h.1⟩
    · rename_i h
      simp only [List.mem_cons, forall_eq_or_imp, reduceCtorEq, false_iff]
      exact fun g => h ⟨ih.2 g.2, g.1⟩
/-- It is all one which end goes first. -/
theorem drop_rdrop (p : Int → Bool) (l : List Int) : (rdropI p l).dropWhile p = rdropI p (l.dropWhile p) := by
  induction l with
  | nil => rfl
  | cons b r ih =>
    by_cases h : p b = true
    · rw [List.dropWhile_cons_of_pos h]
      by_cases g : rdropI p r = []
      · have e : rdropI p (b :: r) = [] := by unfold rdropI; rw [if_pos ⟨g, h⟩]
        rw [e, ← ih, g]
      · have e : rdropI p (b :: r) = b :: rdropI p r := by rw [rdropI, if_neg (fun z => g z.1)]
        rw [e, List.dropWhile_cons_of_pos h, ih]
    · have e : rdropI p (b :: r) = b :: rdropI p r := by rw [rdropI, if_neg (fun z => h z.2)]
      rw [e, List.dropWhile_cons_of_neg h, List.dropWhile_cons_of_neg h, e]
theorem trimP_length (p : Int → Bool) (l : List Int) : (trimP p l).length ≤ l.length :=
  Nat.le_trans (List.dropWhile_sublist p).length_le (rdropI_length p l)
theorem dropWhile_mem {p : Int → Bool} {l : List Int} {x : Int} (h : x ∈ l.dropWhile p) : x ∈ l := (List.dropWhile_sublist p).subset h
theorem rdropI_mem {p : Int → Bool} {l : List Int} {x : Int} (h : x ∈ rdropI p l) : x ∈ l := by
  rw [← rdropI_eq] at h
  have := dropWhile_mem (List.mem_reverse.1 h)
  exact List.mem_reverse.1 this
theorem trimP_mem {p : Int → Bool} {l : List Int} {x : Int} (h : x ∈ trimP p l) : x ∈ l := rdropI_mem (dropWhile_mem h)
theorem InB_trim {p : Int → Bool} {l : List Int} (h : InB l) : InB (trimP p l) := fun x hx => h x (trimP_mem hx)
theorem rdropI_nil_cons {p : Int → Bool} {l : List Int} : rdropI p (rdropI p l) = rdropI p l := by
  induction l with
  | nil => rfl
  | cons b r ih =>
    by_cases g : rdropI p r = [] ∧ p b = true
    · have e : rdropI p (b :: r) = [] := by rw [rdropI, if_pos g]
      rw [e]; rfl
    · have e : rdropI p (b :: r) = b :: rdropI p r := by rw [rdropI, if_neg g]
      rw [e, rdropI, ih, if_neg g]
theorem dropWhile_idem (p : Int → Bool) (l : List Int) : (l.dropWhile p).dropWhile p = l.dropWhile p := by
  induction l with
  | nil => rfl
  | cons b r ih =>
    by_cases h : p b = true
    · rw [List.dropWhile_cons_of_pos h, ih]
    · rw [List.dropWhile_cons_of_neg h, List.dropWhile_cons_of_neg h]
theorem trimP_idem (p : Int → Bool) (l : List Int) : trimP p (trimP p l) = trimP p l := by
  unfold trimP
  rw [drop_rdrop p (List.dropWhile p (rdropI p l)), dropWhile_idem, ← drop_rdrop, rdropI_nil_cons]
def trimV (s : ByteArray) : ByteArray := strOfNums (trimP blankI (bytesOf s))
theorem bytesOf_trimV (s : ByteArray) : bytesOf (trimV s) = trimP blankI (bytesOf s) := bytesOf_strOf (InB_trim (InB_bytes s))
theorem trimV_size (s : ByteArray) : (trimV s).size ≤ s.size := by
  rw [← bytesOf_length, ← bytesOf_length, bytesOf_trimV]; exact trimP_length _ _
def totS : List ByteArray → Nat
  | [] => 0
  | x :: r => 1 + x.size + totS r
theorem totS_len (l : List ByteArray) : l.length ≤ totS l := by
  induction l with
  | nil => simp
  | cons x r ih => simp only [List.length_cons, totS]; omega
theorem rdS_mid {l pre rest : List ByteArray} {x : ByteArray} (h : l = pre ++ x :: rest) : rdOf ByteArray.empty l (pre.length : Int) = x := getD_mid h
def joinT : List ByteArray → List Int
  | [] => []
  | x :: r => [44, 32] ++ bytesOf x ++ joinT r
def joinI : List ByteArray → List Int
  | [] => []
  | x :: r => bytesOf x ++ joinT r
def joinV (l : List ByteArray) : ByteArray := strOfNums (joinI l)
theorem InB_joinT (l : List ByteArray) : InB (joinT l) := by
  induction l with
  | nil => exact InB_nil
  | cons x r ih =>
    simp only [joinT, InB_append]
    exact ⟨⟨by intro y hy; simp at hy; omega, InB_bytes x⟩, ih⟩
theorem InB_joinI (l : List ByteArray) : InB (joinI l) := by
  cases l with
  | nil => exact InB_nil
  | cons x r => simp only [joinI, InB_append]; exact ⟨InB_bytes x, InB_joinT r⟩
theorem bytesOf_joinV (l : List ByteArray) : bytesOf (joinV l) = joinI l := bytesOf_strOf (InB_joinI l)
theorem joinT_len (l : List ByteArray) : (joinT l).length ≤ 2 * totS l := by
  induction l with
  | nil => simp [joinT]
  | cons x r ih => simp only [joinT, totS, List.length_append, bytesOf_length, List.length_cons, List.length_nil]; omega
theorem joinI_len (l : List ByteArray) : (joinI l).length ≤ 2 * totS l := by
  cases l with
  | nil => simp [joinI]
  | cons x r => have := joinT_len r; simp only [joinI, totS, List.length_append, bytesOf_length]; omega
def valsL (l : List S67) (name : ByteArray) : List ByteArray := (l.filter (fun x => decide (x.f0 = name))).map (·.f1)
def totF2 : List S67 → Nat
  | [] => 0
  | x :: r => 1 + (x.f0.size + x.f1.size) + totF2 r
theorem totF2_len (l : List S67) : l.length ≤ totF2 l := by
  induction l with
  | nil => simp
  | cons x r ih => simp only [List.length_cons, totF2]; omega
theorem vals_tot (l : List S67) (name : ByteArray) : totS (valsL l name) ≤ totF2 l := by
  induction l with
  | nil => simp [valsL, totS]
  | cons x r ih =>
    unfold valsL at ih ⊢
    by_cases h : x.f0 = name
    · simp only [List.filter_cons, h, decide_true, if_true, List.map_cons, totS, totF2]; omega
    · simp only [List.filter_cons, h, decide_false, Bool.false_eq_true, if_false, totF2]; omega
theorem vals_cons_eq (x : S67) (r : List S67) (name : ByteArray) (h : x.f0 = name) : valsL (x :: r) name = x.f1 :: valsL r name := by simp [valsL, h]
theorem vals_cons_ne (x : S67) (r : List S67) (name : ByteArray) (h : x.f0 ≠ name) : valsL (x :: r) name = valsL r name := by simp [valsL, h]
theorem vals_some (l : List S67) (name : ByteArray) : decide (((valsL l name).length : Int) > 0) = l.any (fun y => decide (y.f0 = name)) := by
  induction l with
  | nil => simp [valsL]
  | cons x r ih =>
    by_cases h : x.f0 = name
    · rw [vals_cons_eq x r name h]; simp [h]
    · rw [vals_cons_ne x r name h, ih]; simp [h]
def getV (l : List S67) (name : ByteArray) : ByteArray × Bool := (joinV (valsL l name), l.any (fun y => decide (y.f0 = name)))
def vB (x : Int) : Bool := decide (32 ≤ x ∧ x ≤ 126) || decide (x = 9)
def nameB (s : ByteArray) : Bool := tokV s && decide (lowerV s = s)
def valB (s : ByteArray) : Bool := (bytesOf s).all vB && (decide ((s.size : Int) ≤ 200) && decide (trimV s = s))
def areV (l : List S67) : Bool := l.all (fun x => nameB x.f0 && valB x.f1) && decide ((l.length : Int) ≤ 24)
theorem beq_toList (s t : ByteArray) : (s.toList == t.toList) = decide (s = t) := by
  by_cases h : s = t
  · rw [h]; simp
  · rw [decide_eq_false h]; exact beq_eq_false_iff_ne.mpr (fun g => h (toList_iff.mp g))
theorem totF2_mem (l : List S67) (x : S67) (h : x ∈ l) : x.f0.size ≤ totF2 l ∧ x.f1.size ≤ totF2 l := by
  induction l with
  | nil => simp at h
  | cons y r ih =>
    simp only [totF2]
    rcases List.mem_cons.1 h with g | g
    · subst g; omega
    · have := ih g; omega
def cutI (sep : List Int) : List Int → List Int × List Int × Bool
  | [] => ([], [], false)
  | b :: r => if sep.isPrefixOf (b :: r) = true then ([], (b :: r).drop sep.length, true) else (b :: (cutI sep r).1, (cutI sep r).2)
def cutV (sep : List Int) (s : ByteArray) : ByteArray × ByteArray × Bool := (strOfNums (cutI sep (bytesOf s)).1, strOfNums (cutI sep (bytesOf s)).2.1, (cutI sep (bytesOf s)).2.2)
theorem prefix_map (u l : List UInt8) : (u.map fun b => (b.toNat : Int)).isPrefixOf (l.map fun b => (b.toNat : Int)) = u.isPrefixOf l := by
  induction u generalizing l with
  | nil => simp
  | cons a u ih =>
    cases l with
    | nil => rfl
    | cons b l =>
      simp only [List.map_cons, List.isPrefixOf, ih]
      congr 1
      by_cases h : a = b
      · subst h; simp
      · have : ¬ (a.toNat : Int) = (b.toNat : Int) := fun z => h (UInt8.toNat_inj.1 (by omega))
        rw [beq_eq_false_iff_ne.mpr h, beq_eq_false_iff_ne.mpr this]
theorem libcut_cons_hit {b : UInt8} {l sep : List UInt8} (h : sep.isPrefixOf (b :: l) = true) : Lib.cut (b :: l) sep = ([], (b :: l).drop sep.length, true) := by
  have e : Lib.index (b :: l) sep = 0 := by unfold Lib.index; rw [if_pos h]
  unfold Lib.cut
  rw [e]; simp
theorem libcut_cons_miss {b : UInt8} {l sep : List UInt8} (h : ¬ sep.isPrefixOf (b :: l) = true) : Lib.cut (b :: l) sep = (b :: (Lib.cut l sep).1, (Lib.cut l sep).2) := by
  have e : Lib.index (b :: l) sep = if (Lib.index l sep == -1) = true then -1 else Lib.index l sep + 1 := by rw [Lib.index, if_neg h]
  have hg := Lib.index_ge l sep
  unfold Lib.cut
  by_cases g : Lib.index l sep = -1
  · rw [e, g]; simp
  · have g2 : 0 ≤ Lib.index l sep := by omega
    have e0 : Lib.index (b :: l) sep = Lib.index l sep + 1 := by rw [e, if_neg (by simpa using g)]
    rw [e0, if_pos (by omega), if_pos g2]
    obtain ⟨n, hn⟩ : ∃ n : Nat, Lib.index l sep = n := ⟨(Lib.index l sep).toNat, by omega⟩
    rw [hn]
    have e1 : ((n : Int) + 1).toNat = n + 1 := by omega
    have e2 : (n : Int).toNat = n := by omega
    rw [e1, e2, List.take_succ_cons]
    have e3 : n + 1 + sep.length = (n + sep.length) + 1 := by omega
    rw [e3, List.drop_succ_cons]
theorem libcut_map (l sep : List UInt8) (hs : sep ≠ []) :
    ((Lib.cut l sep).1.map fun b => (b.toNat : Int)) = (cutI (sep.map fun b => (b.toNat : Int)) (l.map fun b => (b.toNat : Int))).1 ∧ ((Lib.cut l sep).2.1.map fun b => (b.toNat : Int)) = (cutI (sep.map fun b => (b.toNat : Int)) (l.map fun b => (b.toNat : Int))).2.1 ∧
    (Lib.cut l sep).2.2 = (cutI (sep.map fun b => (b.toNat : Int)) (l.map fun b => (b.toNat : Int))).2.2 := by
  induction l with
  | nil =>
    have e : Lib.cut [] sep = ([], [], false) := by
      unfold Lib.cut Lib.index
      cases sep with
      | nil => exact absurd rfl hs
      | cons a s => simp
    rw [e]; exact ⟨rfl, rfl, rfl⟩
  | cons b r ih =>
    have hp := prefix_map sep (b :: r)
    rw [List.map_cons] at hp ⊢
    by_cases h : sep.isPrefixOf (b :: r) = true
    · rw [libcut_cons_hit h]
      unfold cutI
      rw [if_pos (by rw [hp]; exact h)]
      refine ⟨rfl, ?_, rfl⟩
      simp only
      rw [List.map_drop, List.map_cons, List.length_map]
    · rw [libcut_cons_miss h]
      unfold cutI
      rw [if_neg (by rw [hp]; exact h)]
      refine ⟨?_, ih.2.1, ih.2.2⟩
      simp only [List.map_cons]
      rw [ih.1]
theorem cut_parts (sep l : List Int) : (cutI sep l).2.2 = true → l = (cutI sep l).1 ++ sep ++ (cutI sep l).2.1 := by
  induction l with
  | nil => intro h; simp [cutI] at h
  | cons b r ih =>
    unfold cutI
    split
    · rename_i h
      intro _
      simp only [List.nil_append]
      exact (List.prefix_iff_eq_append.1 (List.isPrefixOf_iff_prefix.1 h)).symm
    · intro h
      simp only at h ⊢
      have := ih h
      rw [List.cons_append, List.cons_append, ← this]
theorem cut_none (sep l : List Int) : (cutI sep l).2.2 = false → cutI sep l = (l, [], false) := by
  induction l with
  | nil => intro _; rfl
  | cons b r ih =>
    unfold cutI
    split
    · intro h; simp at h
    · intro h
      simp only at h
      rw [ih h]
/-! ### A text divided at commas outside quoted strings -/
def cutL (q : Bool) (cur l : List Int) : List (List Int) :=
  match l with
  | [] => [cur]
  | b :: r =>
    if q = true ∧ b = 92 then (match r with
      | [] => [cur ++ [b]]
      | c :: r' => cutL q (cur ++ [b, c]) r')
    else if b = 34 then cutL (!q) (cur ++ [b]) r
    else if q = false ∧ b = 44 then cur :: cutL false [] r
    else cutL q (cur ++ [b]) r
termination_by l.length
decreasing_by all_goals simp only [List.length_cons]; omega
theorem cutL_nil (q : Bool) (cur : List Int) : cutL q cur [] = [cur] := by unfold cutL; rfl
theorem cutL_last (cur : List Int) : cutL true cur [92] = [cur ++ [92]] := by unfold cutL; simp
theorem cutL_esc (cur : List Int) (c : Int) (r : List Int) : cutL true cur (92 :: c :: r) = cutL true (cur ++ [92, c]) r := by rw [cutL.eq_def]; simp
theorem cutL_quote (q : Bool) (cur r : List Int) : cutL q cur (34 :: r) = cutL (!q) (cur ++ [34]) r := by rw [cutL.eq_def]; simp
theorem cutL_comma (cur r : List Int) : cutL false cur (44 :: r) = cur :: cutL false [] r := by rw [cutL.eq_def]; simp
theorem cutL_other (q : Bool) (cur r : List Int) (b : Int) (h1 : ¬ (q = true ∧ b = 92)) (h2 : b ≠ 34) (h3 : ¬ (q = false ∧ b = 44)) : cutL q cur (b :: r) = cutL q (cur ++ [b]) r := by
  rw [cutL.eq_def]
  simp only
  rw [if_neg h1, if_neg h2, if_neg h3]
/-- One way through a text at a time: what the five cases of cutL are good for. -/
theorem cut_cases {p : Bool → List Int → Prop} (hnil : ∀ q, p q []) (hlast : p true [92]) (hesc : ∀ c r, p true r → p true (92 :: c :: r)) (hquote : ∀ q r, p (!q) r → p q (34 :: r)) (hcomma : ∀ r, p false r → p false (44 :: r))
    (hother : ∀ q b r, ¬ (q = true ∧ b = 92) → b ≠ 34 → ¬ (q = false ∧ b = 44) → p q r → p q (b :: r)) : ∀ (n : Nat) (q : Bool) (l : List Int), l.length ≤ n → p q l := by
  intro n
  induction n with
  | zero => intro q l h; obtain rfl : l = [] := List.eq_nil_of_length_eq_zero (by omega); exact hnil q
  | succ n ih =>
    intro q l h
    match l, h with
    | [], _ => exact hnil q
    | b :: r, h =>
      simp only [List.length_cons] at h
      by_cases h1 : q = true ∧ b = 92
      · obtain ⟨rfl, rfl⟩ := h1
        match r, h with
        | [], _ => exact hlast
        | c :: r', h => exact hesc c r' (ih true r' (by simp only [List.length_cons] at h; omega))
      · by_cases h2 : b = 34
        · subst h2; exact hquote q r (ih _ r (by omega))
        · by_cases h3 : q = false ∧ b = 44
          · obtain ⟨rfl, rfl⟩ := h3; exact hcomma r (ih _ r (by omega))
          · exact hother q b r h1 h2 h3 (ih q r (by omega))
theorem cut_ind {p : Bool → List Int → Prop} (hnil : ∀ q, p q []) (hlast : p true [92]) (hesc : ∀ c r, p true r → p true (92 :: c :: r)) (hquote : ∀ q r, p (!q) r → p q (34 :: r)) (hcomma : ∀ r, p false r → p false (44 :: r))
    (hother : ∀ q b r, ¬ (q = true ∧ b = 92) → b ≠ 34 → ¬ (q = false ∧ b = 44) → p q r → p q (b :: r)) (q : Bool) (l : List Int) : p q l := cut_cases hnil hlast hesc hquote hcomma hother l.length q l (Nat.le_refl _)
def splitL (l : List Int) : List (List Int) := ((cutL false [] l).map (trimP blankI)).filter (fun x => decide (x ≠ []))
def splitV (s : ByteArray) : List ByteArray := (splitL (bytesOf s)).map strOfNums
theorem cutL_mem (q : Bool) (l : List Int) : ∀ (cur : List Int) (S : Int → Prop), (∀ x ∈ cur, S x) → (∀ x ∈ l, S x) → ∀ m ∈ cutL q cur l, ∀ x ∈ m, S x := by
  refine cut_ind (p := fun q l => ∀ (cur : List Int) (S : Int → Prop), (∀ x ∈ cur, S x) → (∀ x ∈ l, S x) → ∀ m ∈ cutL q cur l, ∀ x ∈ m, S x) ?_ ?_ ?_ ?_ ?_ ?_ q l
  · intro q cur S h0 h1 m hm; rw [cutL_nil] at hm; simp at hm; subst hm; exact h0
  · intro cur S h0 h1 m hm; rw [cutL_last] at hm; simp at hm; subst hm
    intro x hx; rcases List.mem_append.1 hx with g | g
    · exact h0 x g
    · exact h1 x g
  · intro c r ih cur S h0 h1 m hm
    rw [cutL_esc] at hm
    exact ih _ S (by intro x hx; rcases List.mem_append.1 hx with g | g
                     · exact h0 x g
                     · refine h1 x ?_; simp at g ⊢; rcases g with g | g <;> simp [g]) (fun x hx => h1 x (by simp [hx])) m hm
  · intro q r ih cur S h0 h1 m hm
    rw [cutL_quote] at hm
    exact ih _ S (by intro x hx; rcases List.mem_append.1 hx with g | g
                     · exact h0 x g
                     · exact h1 x (by simp at g; simp [g])) (fun x hx => h1 x (by simp [hx])) m hm
  · intro r ih cur S h0 h1 m hm
    rw [cutL_comma] at hm
    rcases List.mem_cons.1 hm with g | g
    · subst g; exact h0
    · exact ih [] S (by simp) (fun x hx => h1 x (by simp [hx])) m g
  · intro q b r g1 g2 g3 ih cur S h0 h1 m hm
    rw [cutL_other q cur r b g1 g2 g3] at hm
    exact ih _ S (by intro x hx; rcases List.mem_append.1 hx with g | g
                     · exact h0 x g
                     · exact h1 x (by simp at g; simp [g])) (fun x hx => h1 x (by simp [hx])) m hm
theorem cutL_total (q : Bool) (l : List Int) : ∀ cur : List Int, (cutL q cur l).length + ((cutL q cur l).map List.length).sum ≤ cur.length + l.length + 1 := by
  refine cut_ind (p := fun q l => ∀ cur : List Int, (cutL q cur l).length + ((cutL q cur l).map List.length).sum ≤ cur.length + l.length + 1) ?_ ?_ ?_ ?_ ?_ ?_ q l
  · intro q cur; rw [cutL_nil]; simp; omega
  · intro cur; rw [cutL_last]; simp; omega
  · intro c r ih cur; rw [cutL_esc]; have := ih (cur ++ [92, c]); simp only [List.length_append, List.length_cons, List.length_nil] at this ⊢; omega
  · intro q r ih cur; rw [cutL_quote]; have := ih (cur ++ [34]); simp only [List.length_append, List.length_cons, List.length_nil] at this ⊢; omega
  · intro r ih cur; rw [cutL_comma]; have := ih []; simp only [List.length_cons, List.length_nil, List.map_cons, List.sum_cons] at this ⊢; omega
  · intro q b r g1 g2 g3 ih cur; rw [cutL_other q cur r b g1 g2 g3]; have := ih (cur ++ [b]); simp only [List.length_append, List.length_cons, List.length_nil] at this ⊢; omega
theorem cutL_prepend (q : Bool) (l : List Int) : ∀ c1 c2 : List Int, ∃ h t, cutL q c2 l = h :: t ∧ cutL q (c1 ++ c2) l = (c1 ++ h) :: t := by
  refine cut_ind (p := fun q l => ∀ c1 c2 : List Int, ∃ h t, cutL q c2 l = h :: t ∧ cutL q (c1 ++ c2) l = (c1 ++ h) :: t) ?_ ?_ ?_ ?_ ?_ ?_ q l
  · intro q c1 c2; exact ⟨c2, [], by rw [cutL_nil], by rw [cutL_nil]⟩
  · intro c1 c2; exact ⟨c2 ++ [92], [], by rw [cutL_last], by rw [cutL_last]; simp⟩
  · intro c r ih c1 c2; rw [cutL_esc, cutL_esc, List.append_assoc]; exact ih c1 _
  · intro q r ih c1 c2; rw [cutL_quote, cutL_quote, List.append_assoc]; exact ih c1 _
  · intro r ih c1 c2; rw [cutL_comma, cutL_comma]; exact ⟨c2, _, rfl, rfl⟩
  · intro q b r g1 g2 g3 ih c1 c2; rw [cutL_other q _ r b g1 g2 g3, cutL_other q _ r b g1 g2 g3, List.append_assoc]; exact ih c1 _
theorem splitL_mem {l m : List Int} (h : m ∈ splitL l) : m ≠ [] ∧ trimP blankI m = m ∧ ∃ x, x ∈ cutL false [] l ∧ m = trimP blankI x := by
  unfold splitL at h
  obtain ⟨h1, h2⟩ := List.mem_filter.1 h
  obtain ⟨x, hx, rfl⟩ := List.mem_map.1 h1
  exact ⟨of_decide_eq_true h2, trimP_idem _ _, x, hx, rfl⟩
theorem InB_split {l : List Int} (hl : InB l) : ∀ m ∈ splitL l, InB m := by
  intro m hm
  obtain ⟨_, _, x, hx, rfl⟩ := splitL_mem hm
  exact InB_trim (cutL_mem false l [] (fun x => 0 ≤ x ∧ x ≤ 255) (by simp) hl x hx)
theorem splitL_total (l : List Int) : (splitL l).length + ((splitL l).map List.length).sum ≤ l.length + 1 := by
  have h := cutL_total false l []
  unfold splitL
  have aux : ∀ L : List (List Int), ((L.map (trimP blankI)).filter (fun x => decide (x ≠ []))).length + (((L.map (trimP blankI)).filter (fun x => decide (x ≠ []))).map List.length).sum ≤ L.length + (L.map List.length).sum := by
    intro L
    induction L with
    | nil => simp
    | cons x r ih =>
      have := trimP_length blankI x
      simp only [List.map_cons, List.sum_cons, List.length_cons]
      by_cases g : trimP blankI x = []
      · rw [List.filter_cons_of_neg (by simp [g])]; omega
      · rw [List.filter_cons_of_pos (by simp [g])]; simp only [List.length_cons, List.map_cons, List.sum_cons]; omega
  have := aux (cutL false [] l)
  simp only [List.length_nil] at h
  omega
theorem ext_mid {s : ByteArray} {pre cur rest : List Int} (h : bytesOf s = pre ++ cur ++ rest) : s.extract pre.length (pre.length + cur.length) = strOfNums cur := by
  apply bytesOf_inj
  have hb : InB cur := by have := InB_bytes s; rw [h, InB_append, InB_append] at this; exact this.1.2
  rw [bytesOf_strOf hb, bytesOf_extract, h]
  rw [show pre.length + cur.length = (pre ++ cur).length by simp, List.take_left, List.drop_left]
theorem ext_end {s : ByteArray} {pre cur : List Int} (h : bytesOf s = pre ++ cur) : s.extract pre.length s.size = strOfNums cur := by
  have e := ext_mid (s := s) (pre := pre) (cur := cur) (rest := []) (by simpa using h)
  have : s.size = pre.length + cur.length := by rw [← bytesOf_length, h, List.length_append]
  rw [this]; exact e
/-- The parts, trimmed, without the empty ones. -/
def partsV (m : List (List Int)) : List ByteArray := ((m.map (trimP blankI)).filter (fun x => decide (x ≠ []))).map strOfNums
theorem splitV_parts (s : ByteArray) : splitV s = partsV (cutL false [] (bytesOf s)) := rfl
theorem rdS_mid2 {l pre rest : List ByteArray} {x : ByteArray} (h : l = pre ++ x :: rest) : rdOf ByteArray.empty l (pre.length : Int) = x := getD_mid h
theorem partsV_nil : partsV [] = [] := rfl
theorem partsV_cons (x : List Int) (m : List (List Int)) : partsV (x :: m) = (if trimP blankI x = [] then [] else [strOfNums (trimP blankI x)]) ++ partsV m := by
  unfold partsV
  by_cases h : trimP blankI x = []
  · simp [h]
  · simp [h]
theorem partsV_append (a b : List (List Int)) : partsV (a ++ b) = partsV a ++ partsV b := by unfold partsV; simp
theorem partsV_len (m : List (List Int)) : (partsV m).length ≤ m.length := by
  unfold partsV
  rw [List.length_map]
  exact Nat.le_trans (List.length_filter_le _ _) (by simp)
theorem trimV_of {x : List Int} (h : InB x) : trimV (strOfNums x) = strOfNums (trimP blankI x) := by unfold trimV; rw [bytesOf_strOf h]
theorem strOf_nil {x : List Int} : (strOfNums x).toList = ([] : List UInt8) ↔ x = [] := by
  have e : ([] : List UInt8) = (⟨#[]⟩ : ByteArray).toList := by rw [ByteArray.toList_eq]
  rw [e, toList_iff]
  constructor
  · intro h
    have : (strOfNums x).size = 0 := by rw [h]; rfl
    rw [strOfNums_size] at this
    exact List.eq_nil_of_length_eq_zero this
  · rintro rfl; rfl
theorem mem_len_le {L : List (List Int)} {m : List Int} (h : m ∈ L) : m.length ≤ (L.map List.length).sum := by
  induction L with
  | nil => simp at h
  | cons x r ih =>
    simp only [List.map_cons, List.sum_cons]
    rcases List.mem_cons.1 h with g | g
    · subst g; omega
    · have := ih g; omega
theorem split_sizes (s : ByteArray) : ∀ t ∈ splitV s, t.size ≤ s.size + 1 := by
  intro t ht
  unfold splitV at ht
  obtain ⟨m, hm, rfl⟩ := List.mem_map.1 ht
  have h1 := splitL_total (bytesOf s)
  have h2 := mem_len_le hm
  rw [bytesOf_length] at h1
  rw [strOfNums_size]; omega
theorem split_count (s : ByteArray) : (splitV s).length ≤ s.size + 1 := by
  have := splitL_total (bytesOf s)
  rw [bytesOf_length] at this
  unfold splitV
  rw [List.length_map]; omega
def finF (acc : List S67) : List S67 × Bool := if areV acc = true then (acc, true) else ([], false)
theorem finF_yes {acc : List S67} (h : areV acc = true) : finF acc = (acc, true) := by unfold finF; rw [if_pos h]
theorem finF_no {acc : List S67} (h : ¬ areV acc = true) : finF acc = ([], false) := by unfold finF; rw [if_neg h]
def lineF (line : List Int) : S67 := ⟨lowerV (strOfNums (cutI [58] line).1), trimV (strOfNums (cutI [58] line).2.1)⟩
def pfN : Nat → List Int → List S67 → List S67 × Bool
  | 0, _, acc => finF acc
  | n + 1, l, acc => if l = [] then finF acc else
      if (cutI [13, 10] l).2.2 = true ∧ (cutI [58] (cutI [13, 10] l).1).2.2 = true then pfN n (cutI [13, 10] l).2.1 (acc ++ [lineF (cutI [13, 10] l).1]) else ([], false)
def pfV (s : ByteArray) : List S67 × Bool := pfN s.size (bytesOf s) []
theorem pfN_nil (n : Nat) (acc : List S67) : pfN n [] acc = finF acc := by cases n <;> simp [pfN]
theorem cut_rest_len (sep : List Int) (hs : sep ≠ []) (l : List Int) (h : (cutI sep l).2.2 = true) : (cutI sep l).1.length + (cutI sep l).2.1.length + sep.length = l.length := by
  have := congrArg List.length (cut_parts sep l h)
  simp only [List.length_append] at this
  omega
theorem InB_cut0 (sep l : List Int) (h : InB l) : InB (cutI sep l).1 ∧ InB (cutI sep l).2.1 := by
  induction l with
  | nil => exact ⟨InB_nil, InB_nil⟩
  | cons b r ih =>
    have hr := ih (InB_cons.1 h).2
    unfold cutI
    split
    · exact ⟨InB_nil, InB_drop _ h⟩
    · exact ⟨InB_cons.2 ⟨(InB_cons.1 h).1, hr.1⟩, hr.2⟩
theorem cut_le (sep l : List Int) : (cutI sep l).1.length ≤ l.length ∧ (cutI sep l).2.1.length ≤ l.length := by
  induction l with
  | nil => simp [cutI]
  | cons b r ih =>
    unfold cutI
    split
    · simp
    · simp only [List.length_cons]; omega
theorem lower_size0 (s : ByteArray) : (lowerV s).size = s.size := by unfold lowerV; rw [strOfNums_size, List.length_map, bytesOf_length]
theorem lineF_size (line : List Int) : (lineF line).f0.size ≤ line.length ∧ (lineF line).f1.size ≤ line.length := by
  have h := cut_le [58] line
  have h2 := trimV_size (strOfNums (cutI [58] line).2.1)
  unfold lineF
  simp only [lower_size0, strOfNums_size] at h2 ⊢
  omega
theorem totF2_app (a b : List S67) : totF2 (a ++ b) = totF2 a + totF2 b := by
  induction a with
  | nil => simp [totF2]
  | cons x r ih => simp only [List.cons_append, totF2, ih]; omega
theorem pfN_len (n : Nat) : ∀ (l : List Int) (acc : List S67), l.length ≤ n → (pfN n l acc).1.length ≤ acc.length + l.length := by
  induction n with
  | zero => intro l acc _; unfold pfN finF; split <;> simp
  | succ n ih =>
    intro l acc h
    unfold pfN
    split
    · unfold finF; split <;> simp
    · split
      · rename_i h1
        have hc := cut_rest_len [13, 10] (by simp) l h1.1
        simp only [List.length_cons, List.length_nil] at hc
        have := ih (cutI [13, 10] l).2.1 (acc ++ [lineF (cutI [13, 10] l).1]) (by omega)
        simp only [List.length_append, List.length_cons, List.length_nil] at this
        omega
      · simp
theorem scan_loop {α : Type} (s : ByteArray) (hs : s.size ≤ 4611686018427387904) (c : Int) (g : Nat → Int → Option α) (hg : ∀ k i, 0 ≤ i → i < (s.size : Int) → bt s i ≠ c → g (k + 1) i = g k (wrap64 (i + 1))) (r : α) (he : Ev (fun k => g k ((cutI [c] (bytesOf s)).1.length : Int)) r) : Ev (fun k => g k 0) r := by
  have key : ∀ rest pre, bytesOf s = pre ++ rest → (cutI [c] (bytesOf s)).1.length = pre.length + (cutI [c] rest).1.length → Ev (fun k => g k (pre.length : Int)) r := by
    intro rest
    induction rest with
    | nil => intro pre h e; rw [e] at he; simpa [cutI] using he
    | cons b rest ih =>
      intro pre h e
      by_cases q : b = c
      · subst q
        have : (cutI [b] (b :: rest)).1 = [] := by unfold cutI; simp
        rw [this] at e; rw [e] at he; simpa using he
      · have hz := size_mid h
        simp only [List.length_cons] at hz
        have hc : (cutI [c] (b :: rest)).1 = b :: (cutI [c] rest).1 := by
          conv => lhs; unfold cutI
          rw [if_neg (by simpa using Ne.symm q)]
        refine Ev.step (f := fun k => g k ((pre ++ [b]).length : Int)) (fun k => ?_) (ih (pre ++ [b]) (by simp [h]) (by rw [e, hc]; simp; omega))
        rw [hg k _ (by omega) (by omega) (by rw [bt_mid h]; exact q), len_step pre b (by omega)]
  exact key (bytesOf s) [] rfl (by simp)
theorem cut_hit (c : Int) (l : List Int) (h : (cutI [c] l).2.2 = true) : l = (cutI [c] l).1 ++ c :: (cutI [c] l).2.1 := by
  have := cut_parts [c] l h
  simpa using this
theorem cut_miss (sep l : List Int) (h : ¬ (cutI sep l).2.2 = true) : (cutI sep l).1 = l ∧ (cutI sep l).2.1 = [] := by
  have := cut_none sep l (by simpa using h)
  rw [this]; exact ⟨rfl, rfl⟩
theorem cut_first (c : Int) (l : List Int) : ∀ x ∈ (cutI [c] l).1, x ≠ c := by
  induction l with
  | nil => intro x hx; simp [cutI] at hx
  | cons b r ih =>
    intro x hx
    by_cases q : b = c
    · subst q
      have : (cutI [b] (b :: r)).1 = [] := by unfold cutI; simp
      rw [this] at hx; simp at hx
    · have hc : (cutI [c] (b :: r)).1 = b :: (cutI [c] r).1 := by
        conv => lhs; unfold cutI
        rw [if_neg (by simpa using Ne.symm q)]
      rw [hc] at hx
      rcases List.mem_cons.1 hx with e | e
      · subst e; exact q
      · exact ih x e
/-- A cut at a sign that does not stand ahead. -/
theorem cut_at (c : Int) (a r : List Int) (h : ∀ x ∈ a, x ≠ c) : cutI [c] (a ++ c :: r) = (a, r, true) := by
  induction a with
  | nil => unfold cutI; simp
  | cons b a ih =>
    have hb := h b (by simp)
    rw [List.cons_append]
    conv => lhs; unfold cutI
    rw [if_neg (by simpa using Ne.symm hb), ih (fun x hx => h x (by simp [hx]))]
theorem cut_not (c : Int) (a : List Int) (h : ∀ x ∈ a, x ≠ c) : cutI [c] a = (a, [], false) := by
  induction a with
  | nil => rfl
  | cons b a ih =>
    have hb := h b (by simp)
    conv => lhs; unfold cutI
    rw [if_neg (by simpa using Ne.symm hb), ih (fun x hx => h x (by simp [hx]))]
theorem spec_l1In_eq (a b c : Int) : spec_l1In.f a b c = some (decide (b ≤ a ∧ a ≤ c)) := by
  unfold spec_l1In.f
  by_cases h : a ≥ b
  · rw [if_pos h]; congr 1; apply decide_eq_decide.mpr; constructor
    · exact fun x => ⟨h, x⟩
    · exact fun x => x.2
  · rw [if_neg h]; congr 1; symm; apply decide_eq_false; omega
theorem spec_tok_fin : ∀ n : Fin 256, spec_l4Token.f 17 (n.val : Int) = some (tokB (n.val : Int)) := by decide +kernel
theorem spec_tok_ev {b : Int} (h0 : 0 ≤ b) (h1 : b ≤ 255) : Ev (fun k => spec_l4Token.f k b) (tokB b) := Ev.of (fun k => spec_l4Token.mono b k) (k := 17) (fin256 (p := fun b => spec_l4Token.f 17 b = some (tokB b)) spec_tok_fin h0 h1)
theorem spec_IsToken_ev (s : ByteArray) (hs : s.size ≤ 4611686018427387904) : Ev (fun k => spec_IsToken.f k s) (tokV s) := by
  have key : ∀ (rest pre : List Int), bytesOf s = pre ++ rest → Ev (fun k => spec_IsToken.l0 k s (pre.length : Int)) (rest.all tokB && decide (1 ≤ (s.size : Int) ∧ (s.size : Int) ≤ 40)) := by
    intro rest
    induction rest with
    | nil =>
      intro pre h
      have hz := size_mid h
      simp only [List.length_nil] at hz
      refine Ev.step (f := fun _ => some (decide (1 ≤ (s.size : Int) ∧ (s.size : Int) ≤ 40))) (fun k => ?_) (by simpa using Ev.now _)
      simp only [spec_IsToken.l0]
      rw [if_neg (by omega), spec_l1In_eq, Option.bind_some]
    | cons b rest ih =>
      intro pre h
      have hz := size_mid h
      simp only [List.length_cons] at hz
      have hb := bt_mid h
      have hr : 0 ≤ b ∧ b ≤ 255 := by rw [← hb]; exact bt_range s _
      have hw := len_step pre b (by omega)
      refine Ev.step (f := fun k => (spec_l4Token.f k b).bind fun t => if t = true then spec_IsToken.l0 k s ((pre ++ [b]).length : Int) else some false) (fun k => ?_) (Ev.bind (spec_tok_ev hr.1 hr.2) ?_)
      · simp only [spec_IsToken.l0]
        rw [if_pos (by omega), if_pos (by omega), hb, hw]
      · cases e : tokB b with
        | true => simpa [e] using ih (pre ++ [b]) (by simp [h])
        | false => simpa [e] using Ev.now _
  exact key (bytesOf s) [] rfl
theorem spec_Lower_eq (s : ByteArray) (h : s.size ≤ 4611686018427387904) : spec_LowerText.f s = some (lowerV s) := by unfold spec_LowerText.f; rw [if_pos h]; rfl
theorem spec_blank_eq (b : Int) : spec_l4Blank.f b = some (blankI b) := by
  unfold spec_l4Blank.f blankI
  by_cases h : b = 32
  · rw [if_pos h, h]; rfl
  · rw [if_neg h]; simp [h]
theorem spec_Trim_l1 (n : Nat) : ∀ s : ByteArray, s.size ≤ n → s.size ≤ 4611686018427387904 → Ev (fun k => spec_TrimText.l1 k s) (strOfNums (rdropI blankI (bytesOf s))) := by
  induction n with
  | zero =>
    intro s hn hs
    have e : bytesOf s = [] := List.eq_nil_of_length_eq_zero (by rw [bytesOf_length]; omega)
    refine Ev.step (f := fun _ => some s) (fun k => ?_) (by rw [e]; simp only [rdropI]; rw [← e, strOf_bytesOf]; exact Ev.now _)
    simp only [spec_TrimText.l1]
    rw [if_neg (by omega)]
  | succ n ih =>
    intro s hn hs
    rcases List.eq_nil_or_concat (bytesOf s) with h | ⟨r, b, h⟩
    · exact ih s (by rw [← bytesOf_length, h]; simp) hs
    · rw [List.concat_eq_append] at h
      have hz := size_mid h
      simp only [List.length_cons, List.length_nil] at hz
      have hw : wrap64 ((s.size : Int) - 1) = (r.length : Int) := by rw [wrap_id (by omega) (by omega)]; omega
      have hb := bt_mid h
      have hx : bytesOf (s.extract 0 ((r.length : Int) : Int).toNat) = r := by
        rw [bytesOf_extract, h]; simp
      rw [h, rdropI_concat]
      by_cases g : blankI b = true
      · rw [if_pos g]
        refine Ev.step (f := fun k => spec_TrimText.l1 k (s.extract 0 ((r.length : Int) : Int).toNat)) (fun k => ?_) ?_
        · simp only [spec_TrimText.l1]
          rw [if_pos (by omega), hw, if_pos (by omega), if_pos (by omega), hb, spec_blank_eq, Option.bind_some, if_pos g, if_pos (by omega)]
        · have hlen : (s.extract 0 ((r.length : Int) : Int).toNat).size = r.length := by rw [← bytesOf_length, hx]
          have := ih _ (by rw [hlen]; omega) (by rw [hlen]; omega)
          rwa [hx] at this
      · rw [if_neg g]
        refine Ev.step (f := fun _ => some s) (fun k => ?_) (by rw [← h, strOf_bytesOf]; exact Ev.now _)
        simp only [spec_TrimText.l1]
        rw [if_pos (by omega), hw, if_pos (by omega), if_pos (by omega), hb, spec_blank_eq, Option.bind_some, if_neg g]
theorem spec_Trim_l0 (l : List Int) : ∀ s : ByteArray, bytesOf s = l → s.size ≤ 4611686018427387904 → Ev (fun k => spec_TrimText.l0 k s) (strOfNums (rdropI blankI (l.dropWhile blankI))) := by
  induction l with
  | nil =>
    intro s h hs
    have hz := size_mid (pre := []) (rest := []) h
    simp only [List.length_nil] at hz
    refine Ev.step (f := fun k => spec_TrimText.j1 k s) (fun k => ?_) (Ev.step (f := fun k => spec_TrimText.l1 k s) (fun k => by simp only [spec_TrimText.j1]) ?_)
    · simp only [spec_TrimText.l0]
      rw [if_neg (by omega)]
    · have := spec_Trim_l1 _ s (Nat.le_refl _) hs
      rw [h] at this
      exact this
  | cons b r ih =>
    intro s h hs
    have hz := size_mid (pre := []) (rest := b :: r) h
    simp only [List.length_cons, List.length_nil] at hz
    have hb : bt s 0 = b := bt_mid (pre := []) h
    by_cases g : blankI b = true
    · rw [List.dropWhile_cons_of_pos g]
      have hx : bytesOf (s.extract 1 s.size) = r := by
        rw [bytesOf_extract, h, List.take_of_length_le (by simp only [List.length_cons]; omega)]; rfl
      refine Ev.step (f := fun k => spec_TrimText.l0 k (s.extract 1 s.size)) (fun k => ?_) (ih _ hx (by rw [← bytesOf_length, hx]; omega))
      simp only [spec_TrimText.l0]
      rw [if_pos (by omega), if_pos (by omega), hb, spec_blank_eq, Option.bind_some, if_pos g, if_pos (by omega)]
    · rw [List.dropWhile_cons_of_neg g]
      refine Ev.step (f := fun k => spec_TrimText.j1 k s) (fun k => ?_) (Ev.step (f := fun k => spec_TrimText.l1 k s) (fun k => by simp only [spec_TrimText.j1]) ?_)
      · simp only [spec_TrimText.l0]
        rw [if_pos (by omega), if_pos (by omega), hb, spec_blank_eq, Option.bind_some, if_neg g]
      · have := spec_Trim_l1 _ s (Nat.le_refl _) hs
        rwa [h] at this
theorem spec_Trim_ev (s : ByteArray) (hs : s.size ≤ 4611686018427387904) : Ev (fun k => spec_TrimText.f k s) (trimV s) := by
  have := spec_Trim_l0 (bytesOf s) s rfl hs
  rw [← drop_rdrop] at this
  exact this
theorem spec_Name_ev (s : ByteArray) (hs : s.size ≤ 4611686018427387904) : Ev (fun k => spec_l5Name.f k s) (nameB s) := by
  unfold spec_l5Name.f
  refine Ev.bind (spec_IsToken_ev s hs) ?_
  unfold nameB
  cases h : tokV s with
  | true => refine Ev.pos rfl ?_; rw [spec_Lower_eq s hs, Option.bind_some, beq_toList]; simpa using Ev.now _
  | false => refine Ev.neg (by simp) ?_; simpa using Ev.now _
theorem spec_Val_ev (s : ByteArray) (hs : s.size ≤ 4611686018427387904) : Ev (fun k => spec_l5Value.f k s) (valB s) := by
  have key : ∀ (rest pre : List Int), bytesOf s = pre ++ rest → Ev (fun k => spec_l5Value.l0 k s (pre.length : Int)) (rest.all vB && (decide ((s.size : Int) ≤ 200) && decide (trimV s = s))) := by
    intro rest
    induction rest with
    | nil =>
      intro pre h
      have hz := size_mid h
      simp only [List.length_nil] at hz
      by_cases g : (s.size : Int) ≤ 200
      · refine Ev.step (f := fun k => (spec_TrimText.f k s).bind fun t => some (t.toList == s.toList)) (fun k => ?_) (Ev.bind (spec_Trim_ev s hs) ?_)
        · simp only [spec_l5Value.l0]
          rw [if_neg (by omega), if_pos g]
        · rw [beq_toList, decide_eq_true g]; simpa using Ev.now _
      · refine Ev.step (f := fun _ => some false) (fun k => ?_) (by rw [decide_eq_false g]; simpa using Ev.now _)
        simp only [spec_l5Value.l0]
        rw [if_neg (by omega), if_neg g]
    | cons b rest ih =>
      intro pre h
      have hz := size_mid h
      simp only [List.length_cons] at hz
      have hb := bt_mid h
      have hr : 0 ≤ b ∧ b ≤ 255 := by rw [← hb]; exact bt_range s _
      have hw := len_step pre b (by omega)
      have nxt := ih (pre ++ [b]) (by simp [h])
      by_cases e : 32 ≤ b ∧ b ≤ 126
      · have hd : decide (32 ≤ b ∧ b ≤ 126) = true := decide_eq_true e
        have ev : vB b = true := by simp [vB, e]
        rw [List.all_cons, ev, Bool.true_and]
        refine Ev.step (fun k => ?_) nxt
        simp only [spec_l5Value.l0]
        rw [if_pos (by omega), if_pos (by omega), hb, wrap_id (n := b) (by omega) (by omega), spec_l1In_eq, Option.bind_some, if_pos hd, hw]
      · have hd : ¬ decide (32 ≤ b ∧ b ≤ 126) = true := by simp [e]
        by_cases e9 : b = 9
        · have ev : vB b = true := by simp [vB, e9]
          rw [List.all_cons, ev, Bool.true_and]
          refine Ev.step (fun k => ?_) nxt
          simp only [spec_l5Value.l0]
          rw [if_pos (by omega), if_pos (by omega), hb, wrap_id (n := b) (by omega) (by omega), spec_l1In_eq, Option.bind_some, if_neg hd, if_pos e9, hw]
        · refine Ev.step (f := fun _ => some false) (fun k => ?_) (by simpa [vB, e, e9] using Ev.now _)
          simp only [spec_l5Value.l0]
          rw [if_pos (by omega), if_pos (by omega), hb, wrap_id (n := b) (by omega) (by omega), spec_l1In_eq, Option.bind_some, if_neg hd, if_neg e9]
  exact key (bytesOf s) [] rfl
theorem spec_Are_ev (l : List S67) (hl : totF2 l ≤ 1099511627776) : Ev (fun k => spec_AreFields.f k l) (areV l) := by
  have hlen := totF2_len l
  have key : ∀ (rest pre : List S67), l = pre ++ rest → Ev (fun k => spec_AreFields.l0 k l (pre.length : Int)) (rest.all (fun x => nameB x.f0 && valB x.f1) && decide ((l.length : Int) ≤ 24)) := by
    intro rest
    induction rest with
    | nil =>
      intro pre h
      have hl2 := len_mid h
      simp only [List.length_nil] at hl2
      refine Ev.step (f := fun _ => some (decide ((l.length : Int) ≤ 24))) (fun k => ?_) (by simpa using Ev.now _)
      simp only [spec_AreFields.l0]
      rw [if_neg (by omega)]
    | cons x rest ih =>
      intro pre h
      have hl2 := len_mid h
      simp only [List.length_cons] at hl2
      have hx : rd_T67 l (pre.length : Int) = x := getD_mid h
      have hmx := totF2_mem l x (by rw [h]; simp)
      have hst := len_step pre x (by omega)
      have nxt := ih (pre ++ [x]) (by simp [h])
      refine Ev.step (f := fun k => (spec_l5Name.f k x.f0).bind fun t => if t = true then (spec_l5Value.f k x.f1).bind (fun u => if u = true then spec_AreFields.l0 k l ((pre ++ [x]).length : Int) else some false) else some false) (fun k => ?_) (Ev.bind (spec_Name_ev x.f0 (by omega)) ?_)
      · simp only [spec_AreFields.l0]
        rw [if_pos (by omega), if_pos (by omega), hx, hst]
      · cases hn : nameB x.f0 with
        | false => simpa [hn] using Ev.now _
        | true =>
          refine Ev.pos rfl (Ev.bind (spec_Val_ev x.f1 (by omega)) ?_)
          cases hv : valB x.f1 with
          | false => simpa [hn, hv] using Ev.now _
          | true => simpa [hn, hv] using nxt
  exact key l [] rfl
def preOf (p l : List Int) : Bool := decide (l.take p.length = p)
def restOf (p l : List Int) : List Int := if preOf p l = true then l.drop p.length else l
theorem preOf_len {p l : List Int} (h : preOf p l = true) : p.length ≤ l.length := by
  have := congrArg List.length (of_decide_eq_true h)
  rw [List.length_take] at this
  omega
theorem preOf_app {p l : List Int} (h : preOf p l = true) : l = p ++ l.drop p.length := by
  have := List.take_append_drop p.length l
  rw [of_decide_eq_true h] at this
  exact this.symm
theorem ext_drop (s : ByteArray) (n : Nat) : s.extract n s.size = strOfNums ((bytesOf s).drop n) := by
  apply bytesOf_inj
  rw [bytesOf_strOf (InB_drop n (InB_bytes s)), bytesOf_extract, ← bytesOf_length, List.take_length]
theorem ext_take (s : ByteArray) (n : Nat) : s.extract 0 n = strOfNums ((bytesOf s).take n) := by
  apply bytesOf_inj
  rw [bytesOf_strOf (InB_take n (InB_bytes s)), bytesOf_extract, List.drop_zero]
theorem take_eq_iff (s p : ByteArray) : s.extract 0 p.size = p ↔ preOf (bytesOf p) (bytesOf s) = true := by
  unfold preOf
  rw [decide_eq_true_eq, bytesOf_length, ext_take]
  constructor
  · intro h
    rw [← bytesOf_strOf (InB_take p.size (InB_bytes s)), h]
  · intro h
    rw [h, strOf_bytesOf]
def lineR (pre : Nat) (cur rest : List Int) : ByteArray × Int := if (cutI [13, 10] rest).2.2 = true then (strOfNums (cur ++ (cutI [13, 10] rest).1), ((pre + cur.length + (cutI [13, 10] rest).1.length + 2 : Nat) : Int)) else (⟨#[]⟩, -1)
theorem cut2_hit (r : List Int) : cutI [13, 10] (13 :: 10 :: r) = ([], r, true) := by unfold cutI; simp
theorem cut2_miss (b : Int) (r : List Int) (h : ¬ (b = 13 ∧ r.head? = some 10)) : cutI [13, 10] (b :: r) = (b :: (cutI [13, 10] r).1, (cutI [13, 10] r).2) := by
  conv => lhs; unfold cutI
  rw [if_neg]
  intro z
  apply h
  cases r with
  | nil => simp [List.isPrefixOf] at z
  | cons c t =>
    simp [List.isPrefixOf] at z
    exact ⟨z.1.symm, by rw [← z.2]; rfl⟩
theorem line_loop (s : ByteArray) (hs : s.size ≤ 2000000) (pre rest : List Int) : ∀ cur : List Int, bytesOf s = pre ++ cur ++ rest → Ev (fun k => spec_l5Line.l0 k s (pre.length : Int) ((pre ++ cur).length : Int)) (lineR pre.length cur rest) := by
  induction rest with
  | nil =>
    intro cur h
    have hz := size_mid h
    simp only [List.length_nil] at hz
    refine Ev.step (f := fun k => spec_l5Line.j1 k s (pre.length : Int) ((pre ++ cur).length : Int) false) (fun k => ?_) (Ev.step (f := fun _ => some ((⟨#[]⟩ : ByteArray), (-1 : Int))) (fun k => ?_) (Ev.now _))
    · simp only [spec_l5Line.l0]
      rw [if_pos (by omega), wrap_id (by omega) (by omega), decide_eq_false (by omega)]
    · simp only [spec_l5Line.j1]
      rw [if_neg (by simp)]
  | cons b rest ih =>
    intro cur h
    have hz := size_mid h
    simp only [List.length_cons] at hz
    have hb := bt_mid h
    have hst := len_step (pre ++ cur) b (by omega)
    have hL : (pre ++ cur).length = pre.length + cur.length := List.length_append
    have hn := ih (cur ++ [b]) (by rw [h]; simp)
    rw [← List.append_assoc] at hn
    have hmiss : ¬ (b = 13 ∧ rest.head? = some 10) → lineR pre.length (cur ++ [b]) rest = lineR pre.length cur (b :: rest) := by
      intro q
      unfold lineR
      rw [cut2_miss b rest q]
      simp only [List.length_append, List.length_cons, List.length_nil, List.append_assoc, List.singleton_append]
      split
      · congr 2; omega
      · rfl
    cases rest with
    | nil =>
      have hv : lineR pre.length cur [b] = (⟨#[]⟩, -1) := by
        unfold lineR
        rw [cut2_miss b [] (by simp)]
        rfl
      rw [hv]
      simp only [List.length_nil] at hz
      refine Ev.step (f := fun k => spec_l5Line.j1 k s (pre.length : Int) ((pre ++ cur).length : Int) false) (fun k => ?_) (Ev.step (f := fun _ => some ((⟨#[]⟩ : ByteArray), (-1 : Int))) (fun k => ?_) (Ev.now _))
      · simp only [spec_l5Line.l0]
        rw [if_pos (by omega), wrap_id (by omega) (by omega), decide_eq_false (by omega)]
      · simp only [spec_l5Line.j1]
        rw [if_neg (by simp)]
    | cons b2 r2 =>
      simp only [List.length_cons] at hz
      have hb2 : bt s ((pre ++ cur ++ [b]).length : Int) = b2 := bt_mid (rest := r2) (by rw [h]; simp)
      refine Ev.step (f := fun k => spec_l5Line.j1 k s (pre.length : Int) ((pre ++ cur).length : Int) true) (fun k => ?_) ?_
      · simp only [spec_l5Line.l0]
        rw [if_pos (by omega), wrap_id (by omega) (by omega), decide_eq_true (by omega)]
      · by_cases g1 : b = 13
        · by_cases g2 : b2 = 10
          · have hx : s.extract pre.length (pre.length + cur.length) = strOfNums cur := ext_mid h
            have hv : lineR pre.length cur (b :: b2 :: r2) = (strOfNums cur, ((pre.length + cur.length + 2 : Nat) : Int)) := by
              unfold lineR
              rw [g1, g2, cut2_hit, if_pos rfl]
              simp
            rw [hv]
            refine Ev.step (f := fun _ => some (strOfNums cur, ((pre.length + cur.length + 2 : Nat) : Int))) (fun k => ?_) (Ev.now _)
            simp only [spec_l5Line.j1]
            rw [if_pos trivial, if_pos (by omega), if_pos (by omega), hb, if_pos g1, hst, if_pos (by omega), if_pos (by simp; omega), hb2, if_pos g2, if_pos (by omega), if_pos (by omega), if_pos (by omega), wrap_id (by omega) (by omega), Int.toNat_natCast, Int.toNat_natCast, hL, hx]
            rfl
          · rw [hmiss (by rintro ⟨_, z⟩; simp at z; exact g2 z)] at hn
            refine Ev.step (fun k => ?_) hn
            simp only [spec_l5Line.j1]
            rw [if_pos trivial, if_pos (by omega), if_pos (by omega), hb, if_pos g1, hst, if_pos (by omega), if_pos (by simp; omega), hb2, if_neg g2]
        · rw [hmiss (fun z => g1 z.1)] at hn
          refine Ev.step (fun k => ?_) hn
          simp only [spec_l5Line.j1]
          rw [if_pos trivial, if_pos (by omega), if_pos (by omega), hb, if_neg g1, hst]
theorem line_ev (s : ByteArray) (hs : s.size ≤ 2000000) (pre rest : List Int) (h : bytesOf s = pre ++ rest) : Ev (fun k => spec_l5Line.f k s (pre.length : Int)) (lineR pre.length [] rest) := by
  have := line_loop s hs pre rest [] (by simpa using h)
  rw [List.append_nil] at this
  exact this
theorem spec_PF_loop (s : ByteArray) (hs : s.size ≤ 2000000) (n : Nat) : ∀ (pre rest : List Int) (acc : List S67), rest.length ≤ n → bytesOf s = pre ++ rest → totF2 acc + 3 * rest.length ≤ 6000000 → Ev (fun k => spec_ParseFields.l0 k s acc (pre.length : Int)) (pfN n rest acc) := by
  have fin : ∀ (pre : List Int) (acc : List S67), bytesOf s = pre ++ [] → totF2 acc ≤ 6000000 → Ev (fun k => spec_ParseFields.l0 k s acc (pre.length : Int)) (finF acc) := by
    intro pre acc h ha
    have hz := size_mid h
    simp only [List.length_nil] at hz
    refine Ev.step (f := fun k => (spec_AreFields.f k acc).bind fun t => if t = true then some (acc, true) else some ([], false)) (fun k => ?_) (Ev.bind (spec_Are_ev acc (by omega)) ?_)
    · simp only [spec_ParseFields.l0]
      rw [if_neg (by omega)]
    · by_cases g : areV acc = true
      · rw [finF_yes g]; exact Ev.pos g (Ev.now _)
      · rw [finF_no g]; exact Ev.neg g (Ev.now _)
  have stop : ∀ (acc : List S67) (line : ByteArray) (x y : Int), Ev (fun k => spec_ParseFields.j3 k s acc line x y true) (([] : List S67), false) := by
    intro acc line x y
    refine Ev.step (f := fun _ => some (([] : List S67), false)) (fun k => ?_) (Ev.now _)
    simp only [spec_ParseFields.j3]
    rw [if_pos trivial]
  induction n with
  | zero =>
    intro pre rest acc hr h ha
    obtain rfl : rest = [] := List.eq_nil_of_length_eq_zero (by omega)
    exact fin pre acc h (by omega)
  | succ n ih =>
    intro pre rest acc hr h ha
    by_cases e : rest = []
    · subst e
      rw [pfN_nil]
      exact fin pre acc h (by omega)
    · have hz := size_mid h
      have hr0 : 0 < rest.length := List.length_pos_iff.mpr e
      refine Ev.step (f := fun k => (spec_l5Line.f k s (pre.length : Int)).bind fun t => spec_ParseFields.l1 k s acc t.1 t.2 0) (fun k => ?_) (Ev.bind (line_ev s hs pre rest h) ?_)
      · simp only [spec_ParseFields.l0]
        rw [if_pos (by omega)]
      unfold pfN
      rw [if_neg e]
      have hib : InB rest := by have := InB_bytes s; rw [h, InB_append] at this; exact this.2
      by_cases f1 : (cutI [13, 10] rest).2.2 = true
      · have hi := (InB_cut0 [13, 10] rest hib).1
        have hc := cut_rest_len [13, 10] (by simp) rest f1
        have hp := cut_parts [13, 10] rest f1
        simp only [List.length_cons, List.length_nil] at hc
        have hR : lineR pre.length [] rest = (strOfNums (cutI [13, 10] rest).1, ((pre.length + (cutI [13, 10] rest).1.length + 2 : Nat) : Int)) := by
          unfold lineR
          rw [if_pos f1]; simp
        rw [hR]
        simp only
        have hbl : bytesOf (strOfNums (cutI [13, 10] rest).1) = (cutI [13, 10] rest).1 := bytesOf_strOf hi
        have hsz : (strOfNums (cutI [13, 10] rest).1).size = (cutI [13, 10] rest).1.length := strOfNums_size _
        refine scan_loop (strOfNums (cutI [13, 10] rest).1) (by omega) 58 (fun k i => spec_ParseFields.l1 k s acc (strOfNums (cutI [13, 10] rest).1) ((pre.length + (cutI [13, 10] rest).1.length + 2 : Nat) : Int) i) (fun k i h0 h1 hb => ?_) _ ?_
        · simp only [spec_ParseFields.l1]
          rw [if_pos h1, if_pos h0, if_neg hb]
        rw [hbl]
        have hle2 := cut_le [58] (cutI [13, 10] rest).1
        by_cases f2 : (cutI [58] (cutI [13, 10] rest).1).2.2 = true
        · rw [if_pos ⟨f1, f2⟩]
          have hc2 := cut_hit 58 _ f2
          have hb2 : bt (strOfNums (cutI [13, 10] rest).1) ((cutI [58] (cutI [13, 10] rest).1).1.length : Int) = 58 := bt_mid (rest := (cutI [58] (cutI [13, 10] rest).1).2.1) (by rw [hbl]; exact hc2)
          have hl2 := congrArg List.length hc2
          rw [List.length_append, List.length_cons] at hl2
          have x1 : (strOfNums (cutI [13, 10] rest).1).extract 0 (cutI [58] (cutI [13, 10] rest).1).1.length = strOfNums (cutI [58] (cutI [13, 10] rest).1).1 := by
            have := ext_mid (s := strOfNums (cutI [13, 10] rest).1) (pre := []) (cur := (cutI [58] (cutI [13, 10] rest).1).1) (rest := 58 :: (cutI [58] (cutI [13, 10] rest).1).2.1) (by rw [List.nil_append, hbl]; exact hc2)
            simpa using this
          have x2 : (strOfNums (cutI [13, 10] rest).1).extract ((cutI [58] (cutI [13, 10] rest).1).1.length + 1) (strOfNums (cutI [13, 10] rest).1).size = strOfNums (cutI [58] (cutI [13, 10] rest).1).2.1 := by
            have := ext_end (s := strOfNums (cutI [13, 10] rest).1) (pre := (cutI [58] (cutI [13, 10] rest).1).1 ++ [58]) (cur := (cutI [58] (cutI [13, 10] rest).1).2.1) (by rw [List.append_assoc, hbl]; exact hc2)
            simpa using this
          have hsz2 := lineF_size (cutI [13, 10] rest).1
          have htl := totF2_app acc [lineF (cutI [13, 10] rest).1]
          simp only [totF2] at htl
          have hla := totF2_len acc
          have happ : bytesOf s = pre ++ (cutI [13, 10] rest).1 ++ [13, 10] ++ (cutI [13, 10] rest).2.1 := by
            rw [h]
            conv => lhs; rw [hp]
            simp only [List.append_assoc]
          have nxt := ih (pre ++ (cutI [13, 10] rest).1 ++ [13, 10]) (cutI [13, 10] rest).2.1 (acc ++ [lineF (cutI [13, 10] rest).1]) (by omega) happ (by omega)
          have e3 : ((pre ++ (cutI [13, 10] rest).1 ++ [13, 10]).length : Int) = ((pre.length + (cutI [13, 10] rest).1.length + 2 : Nat) : Int) := by simp only [List.length_append, List.length_cons, List.length_nil]
          rw [e3] at nxt
          refine Ev.step (f := fun k => spec_ParseFields.j2 k s acc (strOfNums (cutI [13, 10] rest).1) ((pre.length + (cutI [13, 10] rest).1.length + 2 : Nat) : Int) ((cutI [58] (cutI [13, 10] rest).1).1.length : Int)) (fun k => ?_)
            (Ev.step (f := fun k => spec_ParseFields.j3 k s acc (strOfNums (cutI [13, 10] rest).1) ((pre.length + (cutI [13, 10] rest).1.length + 2 : Nat) : Int) ((cutI [58] (cutI [13, 10] rest).1).1.length : Int) false) (fun k => ?_)
            (Ev.step (f := fun k => (spec_TrimText.f k (strOfNums (cutI [58] (cutI [13, 10] rest).1).2.1)).bind fun t => spec_ParseFields.l0 k s (acc ++ [(⟨lowerV (strOfNums (cutI [58] (cutI [13, 10] rest).1).1), t⟩ : S67)]) ((pre.length + (cutI [13, 10] rest).1.length + 2 : Nat) : Int)) (fun k => ?_) (Ev.bind (spec_Trim_ev _ (by rw [strOfNums_size]; omega)) nxt)))
          · simp only [spec_ParseFields.l1]
            rw [if_pos (by omega), if_pos (by omega), if_pos hb2]
          · simp only [spec_ParseFields.j2]
            have : ((((cutI [58] (cutI [13, 10] rest).1).1.length : Int)) == ((strOfNums (cutI [13, 10] rest).1).size : Int)) = false := beq_eq_false_iff_ne.mpr (by omega)
            rw [if_neg (by omega), this]
          · simp only [spec_ParseFields.j3]
            rw [if_neg (by simp), if_pos (by omega), if_pos (by omega), Int.toNat_natCast, x1, spec_Lower_eq _ (by rw [strOfNums_size]; omega), Option.bind_some, wrap_id (by omega) (by omega), if_pos (by omega), if_pos (by omega)]
            have e4 : (((cutI [58] (cutI [13, 10] rest).1).1.length : Int) + 1).toNat = (cutI [58] (cutI [13, 10] rest).1).1.length + 1 := by omega
            rw [e4, x2]
            congr 1; funext t
            rw [if_pos (by omega)]
        · rw [if_neg (fun z => f2 z.2)]
          obtain ⟨m1, _⟩ := cut_miss [58] (cutI [13, 10] rest).1 f2
          rw [m1]
          refine Ev.step (f := fun k => spec_ParseFields.j2 k s acc (strOfNums (cutI [13, 10] rest).1) ((pre.length + (cutI [13, 10] rest).1.length + 2 : Nat) : Int) ((cutI [13, 10] rest).1.length : Int)) (fun k => ?_) (Ev.step (fun k => ?_) (stop acc (strOfNums (cutI [13, 10] rest).1) ((pre.length + (cutI [13, 10] rest).1.length + 2 : Nat) : Int) ((cutI [13, 10] rest).1.length : Int)))
          · simp only [spec_ParseFields.l1]
            rw [if_neg (by omega)]
          · simp only [spec_ParseFields.j2]
            have : (((cutI [13, 10] rest).1.length : Int) == ((strOfNums (cutI [13, 10] rest).1).size : Int)) = true := beq_iff_eq.mpr (by omega)
            rw [if_neg (by omega), this]
      · rw [if_neg (fun z => f1 z.1)]
        have hR : lineR pre.length [] rest = (⟨#[]⟩, -1) := by
          unfold lineR
          rw [if_neg f1]
        rw [hR]
        simp only
        have z0 : (⟨#[]⟩ : ByteArray).size = 0 := rfl
        refine Ev.step (f := fun k => spec_ParseFields.j2 k s acc ⟨#[]⟩ (-1) 0) (fun k => ?_) (Ev.step (fun k => ?_) (stop acc ⟨#[]⟩ (-1) 0))
        · simp only [spec_ParseFields.l1]
          rw [if_neg (by omega)]
        · simp only [spec_ParseFields.j2]
          rw [if_pos (by omega)]
theorem spec_PF_ev (s : ByteArray) (hs : s.size ≤ 1048576) : Ev (fun k => spec_ParseFields.f k s) (pfV s) := spec_PF_loop s (by omega) s.size [] (bytesOf s) [] (by rw [bytesOf_length]; exact Nat.le_refl _) rfl (by rw [bytesOf_length]; simp only [totF2]; omega)
theorem strings_Cut_eq (s sep : ByteArray) (hs : s.size < 4294967281) (hp : bytesOf sep ≠ []) : strings_Cut.f s sep = some (cutV (bytesOf sep) s) := by
  have hp2 : sep.data.toList ≠ [] := fun z => hp (by unfold bytesOf; rw [z]; rfl)
  obtain ⟨h1, h2, h3⟩ := libcut_map s.data.toList sep.data.toList hp2
  unfold strings_Cut.f cutV
  rw [if_pos hs]
  have e : ∀ (l : List UInt8) (m : List Int), (l.map fun b => (b.toNat : Int)) = m → (⟨l.toArray⟩ : ByteArray) = strOfNums m := by
    intro l m h
    have hb : bytesOf ⟨l.toArray⟩ = m := h
    rw [← hb, strOf_bytesOf]
  rw [e _ _ h1, e _ _ h2, h3]
  rfl
theorem impl_inRange_eq (a b c : Int) : impl_inRange.f a b c = some (decide (b ≤ a ∧ a ≤ c)) := by
  unfold impl_inRange.f
  by_cases h : b ≤ a
  · rw [if_pos h]; congr 1; apply decide_eq_decide.mpr; constructor
    · exact fun x => ⟨h, x⟩
    · exact fun x => x.2
  · rw [if_neg h]; congr 1; symm; apply decide_eq_false; omega
theorem impl_tok_fin : ∀ n : Fin 256, impl_isTokenByte.f (n.val : Int) = some (tokB (n.val : Int)) := by decide +kernel
theorem impl_tok_eq {b : Int} (h0 : 0 ≤ b) (h1 : b ≤ 255) : impl_isTokenByte.f b = some (tokB b) := fin256 (p := fun b => impl_isTokenByte.f b = some (tokB b)) impl_tok_fin h0 h1
theorem impl_IsToken_ev (s : ByteArray) (hs : s.size ≤ 4611686018427387904) : Ev (fun k => impl_IsToken.f k s) (tokV s) := by
  have key : ∀ (rest pre : List Int), bytesOf s = pre ++ rest → Ev (fun k => impl_IsToken.l0 k s (s.size : Int) (pre.length : Int)) (rest.all tokB && decide (1 ≤ (s.size : Int) ∧ (s.size : Int) ≤ 40)) := by
    intro rest
    induction rest with
    | nil =>
      intro pre h
      have hz := size_mid h
      simp only [List.length_nil] at hz
      refine Ev.step (f := fun _ => some (decide (1 ≤ (s.size : Int) ∧ (s.size : Int) ≤ 40))) (fun k => ?_) (by simpa using Ev.now _)
      simp only [impl_IsToken.l0]
      rw [if_neg (by omega), impl_inRange_eq, Option.bind_some]
    | cons b rest ih =>
      intro pre h
      have hz := size_mid h
      simp only [List.length_cons] at hz
      have hb := bt_mid h
      have hr : 0 ≤ b ∧ b ≤ 255 := by rw [← hb]; exact bt_range s _
      have hw := len_step pre b (by omega)
      refine Ev.step (f := fun k => if tokB b = true then impl_IsToken.l0 k s (s.size : Int) ((pre ++ [b]).length : Int) else some false) (fun k => ?_) ?_
      · simp only [impl_IsToken.l0]
        rw [if_pos (by omega), if_pos (by omega), if_pos (by omega), hb, hw, impl_tok_eq hr.1 hr.2, Option.bind_some]
      · cases e : tokB b with
        | true => simpa [e] using ih (pre ++ [b]) (by simp [h])
        | false => simpa [e] using Ev.now _
  exact key (bytesOf s) [] rfl
theorem impl_Lower_eq (s : ByteArray) (h : s.size ≤ 4611686018427387904) : impl_LowerText.f s = some (lowerV s) := by unfold impl_LowerText.f; rw [if_pos h]; rfl
theorem bytesOf_mk (l : List UInt8) : bytesOf ⟨l.toArray⟩ = l.map fun b => (b.toNat : Int) := rfl
theorem mk_of_bytes {l : List UInt8} {m : List Int} (h : (l.map fun b => (b.toNat : Int)) = m) : (⟨l.toArray⟩ : ByteArray) = strOfNums m := by
  apply bytesOf_inj
  rw [bytesOf_mk, h, bytesOf_strOf]
  subst h
  exact InB_bytes ⟨l.toArray⟩
theorem trimLeftS_map (l cs : List UInt8) : ((Lib.trimLeftS l cs).map fun b => (b.toNat : Int)) = (l.map fun b => (b.toNat : Int)).dropWhile (fun x => (cs.map fun b => (b.toNat : Int)).contains x) := by
  unfold Lib.trimLeftS
  induction l with
  | nil => rfl
  | cons b r ih =>
    have e : ((cs.map fun b => (b.toNat : Int)).contains (b.toNat : Int)) = cs.contains b := by
      rw [Bool.eq_iff_iff, List.contains_iff_mem, List.contains_iff_mem, List.mem_map]
      constructor
      · rintro ⟨c, hc, hcb⟩
        have : c = b := UInt8.toNat_inj.1 (by omega)
        exact this ▸ hc
      · exact fun h => ⟨b, h, rfl⟩
    simp only [List.dropWhile_cons, List.map_cons, e]
    split
    · exact ih
    · rfl
theorem trimS_map (l cs : List UInt8) : ((Lib.trimS l cs).map fun b => (b.toNat : Int)) = trimP (fun x => (cs.map fun b => (b.toNat : Int)).contains x) (l.map fun b => (b.toNat : Int)) := by
  have e : ((Lib.trimRightS l cs).map fun b => (b.toNat : Int)) = rdropI (fun x => (cs.map fun b => (b.toNat : Int)).contains x) (l.map fun b => (b.toNat : Int)) := by
    rw [← rdropI_eq, ← List.map_reverse, ← trimLeftS_map, ← List.map_reverse]
    rfl
  unfold Lib.trimS trimP
  rw [trimLeftS_map, e]
theorem strings_Trim_eq (s cs : ByteArray) (hs : s.size ≤ 4611686018427387904) (hc : cs.size < 4294967281) (ha : cs.data.toList.all (fun b => decide (b.toNat < 128)) = true) :
    strings_Trim.f s cs = some (strOfNums (trimP (fun x => (bytesOf cs).contains x) (bytesOf s))) := by
  unfold strings_Trim.f
  rw [if_pos ⟨hs, hc, ha⟩, mk_of_bytes (trimS_map _ _)]
  rfl
theorem impl_Trim_eq (s : ByteArray) (hs : s.size ≤ 4611686018427387904) : impl_TrimText.f s = some (trimV s) := by
  unfold impl_TrimText.f
  rw [strings_Trim_eq s ⟨#[32, 9]⟩ hs (by decide) (by decide), Option.bind_some]
  unfold trimV
  congr 3
  funext x
  have e : bytesOf ⟨#[32, 9]⟩ = [32, 9] := by decide
  rw [e]
  unfold blankI
  by_cases h : x = 32 <;> by_cases g : x = 9 <;> simp [h, g]
theorem impl_Val_ev (s : ByteArray) (hs : s.size ≤ 4611686018427387904) : Ev (fun k => impl_isFieldValue.f k s) (valB s) := by
  have key : ∀ (rest pre : List Int), bytesOf s = pre ++ rest → Ev (fun k => impl_isFieldValue.l0 k s (s.size : Int) (pre.length : Int)) (rest.all vB && (decide ((s.size : Int) ≤ 200) && decide (trimV s = s))) := by
    intro rest
    induction rest with
    | nil =>
      intro pre h
      have hz := size_mid h
      simp only [List.length_nil] at hz
      by_cases g : (s.size : Int) ≤ 200
      · refine Ev.step (f := fun _ => some (decide (trimV s = s))) (fun k => ?_) (by rw [decide_eq_true g]; simpa using Ev.now _)
        simp only [impl_isFieldValue.l0]
        rw [if_neg (by omega), if_pos g, impl_Trim_eq s hs, Option.bind_some, beq_toList]
      · refine Ev.step (f := fun _ => some false) (fun k => ?_) (by rw [decide_eq_false g]; simpa using Ev.now _)
        simp only [impl_isFieldValue.l0]
        rw [if_neg (by omega), if_neg g]
    | cons b rest ih =>
      intro pre h
      have hz := size_mid h
      simp only [List.length_cons] at hz
      have hb := bt_mid h
      have hr : 0 ≤ b ∧ b ≤ 255 := by rw [← hb]; exact bt_range s _
      have hw := len_step pre b (by omega)
      have nxt := ih (pre ++ [b]) (by simp [h])
      by_cases e9 : b = 9
      · have ev : vB b = true := by simp [vB, e9]
        rw [List.all_cons, ev, Bool.true_and]
        refine Ev.step (fun k => ?_) nxt
        simp only [impl_isFieldValue.l0]
        rw [if_pos (by omega), if_pos (by omega), if_pos (by omega), hb, if_pos e9, hw]
      · by_cases e : 32 ≤ b ∧ b ≤ 126
        · have hd : decide (32 ≤ b ∧ b ≤ 126) = true := decide_eq_true e
          have ev : vB b = true := by simp [vB, e]
          rw [List.all_cons, ev, Bool.true_and]
          refine Ev.step (fun k => ?_) nxt
          simp only [impl_isFieldValue.l0]
          rw [if_pos (by omega), if_pos (by omega), if_pos (by omega), hb, if_neg e9, wrap_id (n := b) (by omega) (by omega), impl_inRange_eq, Option.bind_some, if_pos hd, hw]
        · have hd : ¬ decide (32 ≤ b ∧ b ≤ 126) = true := by simp [e]
          refine Ev.step (f := fun _ => some false) (fun k => ?_) (by simpa [vB, e, e9] using Ev.now _)
          simp only [impl_isFieldValue.l0]
          rw [if_pos (by omega), if_pos (by omega), if_pos (by omega), hb, if_neg e9, wrap_id (n := b) (by omega) (by omega), impl_inRange_eq, Option.bind_some, if_neg hd]
  exact key (bytesOf s) [] rfl
theorem impl_Are_ev (l : List S67) (hl : totF2 l ≤ 1099511627776) : Ev (fun k => impl_AreFields.f k l) (areV l) := by
  have hlen := totF2_len l
  have key : ∀ (rest pre : List S67), l = pre ++ rest → Ev (fun k => impl_AreFields.l0 k l l (l.length : Int) (pre.length : Int)) (rest.all (fun x => nameB x.f0 && valB x.f1) && decide ((l.length : Int) ≤ 24)) := by
    intro rest
    induction rest with
    | nil =>
      intro pre h
      have hl2 := len_mid h
      simp only [List.length_nil] at hl2
      refine Ev.step (f := fun _ => some (decide ((l.length : Int) ≤ 24))) (fun k => ?_) (by simpa using Ev.now _)
      simp only [impl_AreFields.l0]
      rw [if_neg (by omega)]
    | cons x rest ih =>
      intro pre h
      have hl2 := len_mid h
      simp only [List.length_cons] at hl2
      have hx : rd_T67 l (pre.length : Int) = x := getD_mid h
      have hmx := totF2_mem l x (by rw [h]; simp)
      have hst := len_step pre x (by omega)
      have nxt := ih (pre ++ [x]) (by simp [h])
      refine Ev.step (f := fun k => (impl_IsToken.f k x.f0).bind fun t => if t = true then (if lowerV x.f0 = x.f0 then (impl_isFieldValue.f k x.f1).bind (fun u => if u = true then impl_AreFields.l0 k l l (l.length : Int) ((pre ++ [x]).length : Int) else some false) else some false) else some false) (fun k => ?_) (Ev.bind (impl_IsToken_ev x.f0 (by omega)) ?_)
      · simp only [impl_AreFields.l0]
        rw [if_pos (by omega), if_pos (by omega), if_pos (by omega), hx, hst, impl_Lower_eq x.f0 (by omega)]
        simp only [Option.bind_some, toList_iff]
      · cases hn : tokV x.f0 with
        | false => simpa [nameB, hn] using Ev.now _
        | true =>
          refine Ev.pos rfl ?_
          by_cases hw : lowerV x.f0 = x.f0
          · refine Ev.pos hw (Ev.bind (impl_Val_ev x.f1 (by omega)) ?_)
            cases hv : valB x.f1 with
            | false => simpa [nameB, hn, hw, hv] using Ev.now _
            | true => simpa [nameB, hn, hw, hv] using nxt
          · refine Ev.neg hw ?_
            simpa [nameB, hn, hw] using Ev.now _
  exact key l [] rfl
theorem impl_PF_loop (n : Nat) : ∀ (s : ByteArray) (acc : List S67), s.size ≤ n → s.size ≤ 2000000 → totF2 acc + 3 * s.size ≤ 6000000 → Ev (fun k => impl_ParseFields.l0 k s acc) (pfN n (bytesOf s) acc) := by
  have fin : ∀ (s : ByteArray) (acc : List S67), s = ⟨#[]⟩ → totF2 acc ≤ 6000000 → Ev (fun k => impl_ParseFields.l0 k s acc) (finF acc) := by
    intro s acc h ha
    have e : s.toList = ([] : List UInt8) := by rw [h, ByteArray.toList_eq]
    refine Ev.step (f := fun k => (impl_AreFields.f k acc).bind fun t => if t = true then some (acc, true) else some ([], false)) (fun k => ?_) (Ev.bind (impl_Are_ev acc (by omega)) ?_)
    · simp only [impl_ParseFields.l0]
      rw [if_pos e]
    · by_cases g : areV acc = true
      · rw [finF_yes g]; exact Ev.pos g (Ev.now _)
      · rw [finF_no g]; exact Ev.neg g (Ev.now _)
  induction n with
  | zero =>
    intro s acc h h2 ha
    have e : s = ⟨#[]⟩ := by
      apply bytesOf_inj
      rw [show bytesOf (⟨#[]⟩ : ByteArray) = [] by decide]
      exact List.eq_nil_of_length_eq_zero (by rw [bytesOf_length]; omega)
    exact fin s acc e (by omega)
  | succ n ih =>
    intro s acc h h2 ha
    have hb := bytesOf_length s
    by_cases e : s = ⟨#[]⟩
    · have : bytesOf s = [] := by rw [e]; decide
      rw [this, pfN_nil]
      exact fin s acc e (by omega)
    · have e1 : ¬ s.toList = ([] : List UInt8) := fun z => e (toList_iff.mp (z.trans (by rw [ByteArray.toList_eq])))
      have e2 : ¬ bytesOf s = [] := fun z => e (bytesOf_inj (by rw [z]; decide))
      have hi := InB_cut0 [13, 10] (bytesOf s) (InB_bytes s)
      have hle := cut_le [13, 10] (bytesOf s)
      have hle2 := cut_le [58] (cutI [13, 10] (bytesOf s)).1
      have c1 := strings_Cut_eq s (⟨#[13, 10]⟩ : ByteArray) (by omega) (by decide)
      have l1 : bytesOf (⟨#[13, 10]⟩ : ByteArray) = [13, 10] := by decide
      have l2 : bytesOf (⟨#[58]⟩ : ByteArray) = [58] := by decide
      rw [l1] at c1
      have c2 := strings_Cut_eq (cutV [13, 10] s).1 (⟨#[58]⟩ : ByteArray) (by unfold cutV; simp only [strOfNums_size]; omega) (by decide)
      rw [l2] at c2
      have b1 : bytesOf (cutV [13, 10] s).1 = (cutI [13, 10] (bytesOf s)).1 := bytesOf_strOf hi.1
      have b2 : bytesOf (cutV [13, 10] s).2.1 = (cutI [13, 10] (bytesOf s)).2.1 := bytesOf_strOf hi.2
      have q1 : (cutV [58] (cutV [13, 10] s).1).1 = strOfNums (cutI [58] (cutI [13, 10] (bytesOf s)).1).1 := by rw [show (cutV [58] (cutV [13, 10] s).1).1 = strOfNums (cutI [58] (bytesOf (cutV [13, 10] s).1)).1 from rfl, b1]
      have q2 : (cutV [58] (cutV [13, 10] s).1).2.1 = strOfNums (cutI [58] (cutI [13, 10] (bytesOf s)).1).2.1 := by rw [show (cutV [58] (cutV [13, 10] s).1).2.1 = strOfNums (cutI [58] (bytesOf (cutV [13, 10] s).1)).2.1 from rfl, b1]
      have q3 : (cutV [58] (cutV [13, 10] s).1).2.2 = (cutI [58] (cutI [13, 10] (bytesOf s)).1).2.2 := by rw [show (cutV [58] (cutV [13, 10] s).1).2.2 = (cutI [58] (bytesOf (cutV [13, 10] s).1)).2.2 from rfl, b1]
      have q4 : (cutV [13, 10] s).2.2 = (cutI [13, 10] (bytesOf s)).2.2 := rfl
      have stop : ∀ (a b c : ByteArray), Ev (fun k => impl_ParseFields.j1 k acc a b c true) (([] : List S67), false) := by
        intro a b c
        refine Ev.step (f := fun _ => some (([] : List S67), false)) (fun k => ?_) (Ev.now _)
        simp only [impl_ParseFields.j1]
        rw [if_pos trivial]
      unfold pfN
      rw [if_neg e2]
      by_cases f1 : (cutI [13, 10] (bytesOf s)).2.2 = true
      · by_cases f2 : (cutI [58] (cutI [13, 10] (bytesOf s)).1).2.2 = true
        · rw [if_pos ⟨f1, f2⟩]
          have hc := cut_rest_len [13, 10] (by simp) (bytesOf s) f1
          simp only [List.length_cons, List.length_nil] at hc
          have hsz := lineF_size (cutI [13, 10] (bytesOf s)).1
          have htl := totF2_app acc [lineF (cutI [13, 10] (bytesOf s)).1]
          simp only [totF2] at htl
          have hz : (cutV [13, 10] s).2.1.size = (cutI [13, 10] (bytesOf s)).2.1.length := by rw [← bytesOf_length, b2]
          have nxt := ih (cutV [13, 10] s).2.1 (acc ++ [lineF (cutI [13, 10] (bytesOf s)).1]) (by omega) (by omega) (by omega)
          rw [b2] at nxt
          have hla := totF2_len acc
          refine Ev.step (f := fun k => impl_ParseFields.j1 k acc (cutV [13, 10] s).2.1 (strOfNums (cutI [58] (cutI [13, 10] (bytesOf s)).1).1) (strOfNums (cutI [58] (cutI [13, 10] (bytesOf s)).1).2.1) false) (fun k => ?_) (Ev.step (fun k => ?_) nxt)
          · simp only [impl_ParseFields.l0]
            rw [if_neg e1, c1, Option.bind_some, c2, Option.bind_some, q4, if_pos f1, q1, q2, q3, f2]; rfl
          · simp only [impl_ParseFields.j1]
            rw [if_neg (by simp), impl_Lower_eq _ (by rw [strOfNums_size]; omega), Option.bind_some, impl_Trim_eq _ (by rw [strOfNums_size]; omega), Option.bind_some, if_pos (by omega)]
            rfl
        · rw [if_neg (fun z => f2 z.2)]
          refine Ev.step (fun k => ?_) (stop (cutV [13, 10] s).2.1 (cutV [58] (cutV [13, 10] s).1).1 (cutV [58] (cutV [13, 10] s).1).2.1)
          simp only [impl_ParseFields.l0]
          have f3 : (cutI [58] (cutI [13, 10] (bytesOf s)).1).2.2 = false := by simpa using f2
          rw [if_neg e1, c1, Option.bind_some, c2, Option.bind_some, q4, if_pos f1, q3, f3]; rfl
      · rw [if_neg (fun z => f1 z.1)]
        refine Ev.step (fun k => ?_) (stop (cutV [13, 10] s).2.1 (cutV [58] (cutV [13, 10] s).1).1 (cutV [58] (cutV [13, 10] s).1).2.1)
        simp only [impl_ParseFields.l0]
        rw [if_neg e1, c1, Option.bind_some, c2, Option.bind_some, q4, if_neg f1]
theorem impl_PF_ev (s : ByteArray) (hs : s.size ≤ 1048576) : Ev (fun k => impl_ParseFields.f k s) (pfV s) := impl_PF_loop s.size s [] (Nat.le_refl _) (by omega) (by simp only [totF2]; omega)

theorem FnExactParseFields : laws_FnExactParseFields.Pure := by
  intro s _
  unfold laws_FnExactParseFields.f
  by_cases h : (s.size : Int) > 1048576
  · exact ⟨0, by rw [if_pos h]⟩
  · simp only [if_neg h]
    apply Ev.rounds
    obtain ⟨mt, hmt⟩ := mt_all
    have hl : (pfV s).1.length ≤ s.size := by
      have := pfN_len s.size (bytesOf s) [] (by rw [bytesOf_length]; exact Nat.le_refl _)
      rw [bytesOf_length] at this
      unfold pfV
      simpa using this
    have I := impl_PF_ev s (by omega)
    refine Ev.bind (spec_PF_ev s (by omega)) (Ev.bind I (Ev.bind (eqFieldS_self _ (by omega)) (Ev.pos rfl ?_)))
    simp only [bne_self_eq_false]
    refine Ev.step (f := _) (fun k => by simp only [laws_FnExactParseFields.j0]; rfl) (Ev.neg (by simp) ?_)
    refine Ev.bind (markFieldS_ev mt hmt _ (by omega)) (Ev.bind (heldFieldS_ev mt hmt _ (by omega)) (Ev.neg (by omega) (Ev.pos rfl ?_)))
    refine Ev.bind I (Ev.bind (eqFieldS_self _ (by omega)) (Ev.pos rfl ?_))
    simp only [bne_self_eq_false]
    refine Ev.step (f := _) (fun k => by simp only [laws_FnExactParseFields.j1]; rfl) (Ev.neg (by simp) ?_)
    exact Ev.bind (heldFieldS_ev mt hmt _ (by omega)) (Ev.neg (by omega) (Ev.pos rfl (Ev.now _)))

end Go.Proofs.YtlboepkphddacaaDoor.Pure
