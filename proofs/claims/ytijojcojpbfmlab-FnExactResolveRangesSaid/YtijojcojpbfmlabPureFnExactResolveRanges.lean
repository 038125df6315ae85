/- The pure part of FnExactResolveRanges: for every input within the statement's bounds the printed law answers true. Conditions: the statement's own bounds alone. -/
import Derived.Test.YtijojcojpbfmlabPreFnExactResolveRanges
import Derived.Test.YtijojcojpbfmlabPFnExactResolveRangesx1
import Derived.Test.YtijojcojpbfmlabPFnExactResolveRangesx2
import Derived.Test.YtijojcojpbfmlabPFnExactResolveRangesx3
import Derived.Test.YtijojcojpbfmlabPFnExactResolveRangesx4
import Derived.OpenShut
namespace Go.Proofs.Ytijojcojpbfmlab.Pure
open Go.RowKit Go.Proofs.Ytijojcojpbfmlab.PFnExactResolveRanges Go.Proofs.YtijojcojpbfmlabW.PrintWords Go.Proofs.YtijojcojpbfmlabW.PrintLast
set_option linter.unusedSimpArgs false
set_option linter.unusedVariables false

/-! ### Texts as lists of numbers -/
def InB (l : List Int) : Prop := ∀ x ∈ l, 0 ≤ x ∧ x ≤ 255
theorem InB_nil : InB [] := fun x hx => by simp at hx
theorem InB_cons {b : Int} {l : List Int} : InB (b :: l) ↔ (0 ≤ b ∧ b ≤ 255) ∧ InB l := by simp [InB]
theorem InB_append {l m : List Int} : InB (l ++ m) ↔ InB l ∧ InB m := by
  simp only [InB, List.mem_append]
  exact ⟨fun h => ⟨fun x hx => h x (.inl hx), fun x hx => h x (.inr hx)⟩, fun h x hx => hx.elim (h.1 x) (h.2 x)⟩
theorem InB_take {l : List Int} (n : Nat) (h : InB l) : InB (l.take n) := fun x hx => h x (List.mem_of_mem_take hx)
theorem InB_drop {l : List Int} (n : Nat) (h : InB l) : InB (l.drop n) := fun x hx => h x (List.mem_of_mem_drop hx)
theorem InB_bytes (s : ByteArray) : InB (bytesOf s) := by
  intro x hx
  unfold bytesOf at hx
  obtain ⟨b, _, rfl⟩ := List.mem_map.1 hx
  have := b.toNat_lt
  omega
theorem strOf_bytesOf (s : ByteArray) : strOfNums (bytesOf s) = s := by
  obtain ⟨⟨l⟩⟩ := s
  unfold strOfNums bytesOf
  simp only [List.map_map]
  congr 2
  exact (List.map_congr_left (fun b _ => by simp)).trans (List.map_id l)
theorem bytesOf_strOf {l : List Int} (h : InB l) : bytesOf (strOfNums l) = l := by
  unfold strOfNums bytesOf
  simp only [List.map_map]
  refine (List.map_congr_left (fun x hx => ?_)).trans (List.map_id l)
  have := h x hx
  simp only [Function.comp_apply, id, UInt8.toNat_ofNat']
  omega
theorem bytesOf_inj {s t : ByteArray} (h : bytesOf s = bytesOf t) : s = t := by rw [← strOf_bytesOf s, h, strOf_bytesOf]
theorem bytesOf_append (s t : ByteArray) : bytesOf (s ++ t) = bytesOf s ++ bytesOf t := by
  unfold bytesOf
  rw [ByteArray.data_append, Array.toList_append, List.map_append]
theorem bytesOf_extract (s : ByteArray) (a b : Nat) : bytesOf (s.extract a b) = ((bytesOf s).take b).drop a := by
  unfold bytesOf
  rw [ByteArray.data_extract, Array.toList_extract, List.extract_eq_take_drop, List.map_take, List.map_drop, List.take_drop]
  rcases Nat.le_total a b with h | h
  · rw [Nat.add_sub_cancel' h]
  · rw [Nat.sub_eq_zero_of_le h, List.drop_eq_nil_of_le (by simp; omega), List.drop_eq_nil_of_le (by simp; omega)]
theorem toList_iff {s t : ByteArray} : s.toList = t.toList ↔ s = t := by
  rw [ByteArray.toList_eq, ByteArray.toList_eq]
  constructor
  · intro h
    obtain ⟨⟨l⟩⟩ := s
    obtain ⟨⟨m⟩⟩ := t
    simp only at h
    rw [h]
  · rintro rfl; rfl
theorem size_bytes (s : ByteArray) : (s.size : Int) = ((bytesOf s).length : Int) := by rw [bytesOf_length]
theorem getD_mid {α : Type} {l pre rest : List α} {b d : α} (h : l = pre ++ b :: rest) : l.getD ((pre.length : Int)).toNat d = b := by subst h; simp
theorem len_mid {α : Type} {l pre rest : List α} (h : l = pre ++ rest) : l.length = pre.length + rest.length := by rw [h, List.length_append]
theorem rd_mid {l pre rest : List Int} {b : Int} (h : l = pre ++ b :: rest) : rd l (pre.length : Int) = b := by
  subst h
  unfold rd
  simp
theorem bt_mid {s : ByteArray} {pre rest : List Int} {b : Int} (h : bytesOf s = pre ++ b :: rest) : bt s (pre.length : Int) = b := by
  rw [← rd_bytesOf]; exact rd_mid h
theorem size_mid {s : ByteArray} {pre rest : List Int} (h : bytesOf s = pre ++ rest) : (s.size : Int) = (pre.length : Int) + (rest.length : Int) := by
  rw [size_bytes, h]; simp
theorem mid_step {l pre rest : List Int} {b : Int} (h : l = pre ++ b :: rest) : l = (pre ++ [b]) ++ rest := by simp [h]
theorem wrap_id {n : Int} (h0 : -9223372036854775808 ≤ n) (h1 : n ≤ 9223372036854775807) : wrap64 n = n := by unfold wrap64; omega
theorem len_step {α : Type} (pre : List α) (b : α) (h : pre.length ≤ 9223372036854775000) : wrap64 ((pre.length : Int) + 1) = ((pre ++ [b]).length : Int) := by
  rw [wrap_id (by omega) (by omega)]; simp
/-! ### Loops over lists -/
theorem map_loop {α β : Type} (da : α) (conv : α → β) (x0 : List α) (hn : x0.length ≤ 4611686018427387904) (g : Nat → List β → Int → Option (List β))
    (hg : ∀ k x3 i, g (k + 1) x3 i = if i < (x0.length : Int) then (if 0 ≤ i then (if i < (x3.length : Int) then g k (x3.set (i : Int).toNat (conv (x0.getD i.toNat da))) (wrap64 (i + 1)) else none) else none) else some x3) (z : β) :
    Ev (fun k => g k (List.replicate x0.length z) 0) (x0.map conv) := by
  have key : ∀ rest pre, x0 = pre ++ rest → Ev (fun k => g k (pre.map conv ++ List.replicate rest.length z) (pre.length : Int)) (x0.map conv) := by
    intro rest
    induction rest with
    | nil =>
      intro pre h
      refine Ev.step (f := fun _ => some (x0.map conv)) (fun k => ?_) (Ev.now _)
      rw [hg, if_neg (by rw [h]; simp)]
      simp [h]
    | cons b rest ih =>
      intro pre h
      have hl : x0.length = pre.length + (rest.length + 1) := by rw [h]; simp
      refine Ev.step (f := fun k => g k ((pre ++ [b]).map conv ++ List.replicate rest.length z) ((pre ++ [b]).length : Int)) (fun k => ?_) (ih (pre ++ [b]) (by simp [h]))
      rw [hg, if_pos (by omega), if_pos (by omega), if_pos (by simp; omega), wrap_id (by omega) (by omega)]
      have e1 : x0.getD ((pre.length : Int)).toNat da = b := by rw [h]; simp
      rw [e1]
      congr 1
      · simp [List.replicate_succ, List.set_append]
      · simp
  exact key x0 [] rfl
theorem same_loop {α : Type} (a : List α) (hn : a.length ≤ 4611686018427387904) (g : Nat → Int → Option Bool)
    (hg : ∀ k i, 0 ≤ i → i < (a.length : Int) → g (k + 1) i = g k (wrap64 (i + 1))) (he : ∀ k, g (k + 1) (a.length : Int) = some true) : Ev (fun k => g k 0) true := by
  have key : ∀ d i : Nat, i + d = a.length → Ev (fun k => g k (i : Int)) true := by
    intro d
    induction d with
    | zero => intro i h; obtain rfl : i = a.length := by omega
              exact Ev.step he (Ev.now _)
    | succ d ih =>
      intro i h
      refine Ev.step (f := fun k => g k ((i + 1 : Nat) : Int)) (fun k => ?_) (ih (i + 1) (by omega))
      rw [hg k i (by omega) (by omega), wrap_id (by omega) (by omega)]; rfl
  exact key a.length 0 (by omega)
theorem Ev.mp {α : Type} {g f : Nat → Option α} {r : α} (h : Ev f r) (e : ∀ k, g k = f k) : Ev g r := Ev.congr e h
theorem Ev.step2 {α : Type} {g f : Nat → Option α} {r : α} (h : ∃ K, ∀ k, K ≤ k → g (k + 1) = f k) (e : Ev f r) : Ev g r := by
  obtain ⟨K, hK⟩ := h
  obtain ⟨K', hK'⟩ := e
  refine ⟨max K K' + 1, fun k hk => ?_⟩
  obtain ⟨k, rfl⟩ : ∃ m, k = m + 1 := ⟨k - 1, by omega⟩
  rw [hK k (by omega), hK' k (by omega)]
/-- Every element turned into the next of a row of marks. -/
def markL {α : Type} (mk : Int → α) (c : Nat) : Int → List α → List α
  | _, [] => []
  | k, _ :: r => mk k :: markL mk c (k + c) r
theorem markL_length {α : Type} (mk : Int → α) (c : Nat) (l : List α) : ∀ k, (markL mk c k l).length = l.length := by
  induction l with
  | nil => intro k; rfl
  | cons x r ih => intro k; simp [markL, ih]
theorem mark_loop {α : Type} (mk : Int → α) (c : Nat) (g : Nat → List α → Int → Int → Option (Int × List α)) (B : Int) (hB : B ≤ 4611686018427387904)
    (hg : ∀ (l : List α) (k0 i : Int), 0 ≤ i → i < (l.length : Int) → 0 ≤ k0 → k0 + c ≤ B → ∃ K, ∀ k, K ≤ k → g (k + 1) l k0 i = g k (l.set i.toNat (mk k0)) (k0 + c) (wrap64 (i + 1)))
    (he : ∀ k (l : List α) (k0 : Int), g (k + 1) l k0 (l.length : Int) = some (k0, l)) (l : List α) (hl : l.length ≤ 4611686018427387904) (k0 : Int) (h0 : 0 ≤ k0) (h1 : k0 + c * l.length ≤ B) :
    Ev (fun k => g k l k0 0) (k0 + c * l.length, markL mk c k0 l) := by
  have key : ∀ (rest pre : List α) (k0 : Int), 0 ≤ k0 → k0 + c * rest.length ≤ B → pre.length + rest.length ≤ 4611686018427387904 → Ev (fun k => g k (pre ++ rest) k0 (pre.length : Int)) (k0 + c * rest.length, pre ++ markL mk c k0 rest) := by
    intro rest
    induction rest with
    | nil =>
      intro pre k0 _ _ _
      refine Ev.step (f := fun _ => some (k0, pre)) (fun k => ?_) (by simpa [markL] using Ev.now _)
      have := he k pre k0
      simpa using this
    | cons x rest ih =>
      intro pre k0 h0 h1 h2
      simp only [List.length_cons] at h1 h2
      have hc : (c : Int) * ((rest.length + 1 : Nat) : Int) = c * rest.length + c := by rw [Int.natCast_add, Int.mul_add]; simp
      rw [hc] at h1
      have hcn : 0 ≤ (c : Int) * (rest.length : Int) := Int.mul_nonneg (by omega) (by omega)
      obtain ⟨K, hK⟩ := hg (pre ++ x :: rest) k0 (pre.length : Int) (by omega) (by simp; omega) h0 (by omega)
      have e := ih (pre ++ [mk k0]) (k0 + c) (by omega) (by omega) (by simp; omega)
      have e2 : (k0 + (c : Int)) + c * rest.length = k0 + c * ((x :: rest).length : Int) := by simp only [List.length_cons]; rw [hc]; omega
      rw [e2] at e
      refine Ev.step2 (f := fun k => g k (pre ++ [mk k0] ++ rest) (k0 + c) ((pre ++ [mk k0]).length : Int)) ⟨K, fun k hk => ?_⟩ (by simpa [markL] using e)
      rw [hK k hk, wrap_id (by omega) (by omega)]
      simp [List.set_append]
  have := key l [] k0 h0 h1 (by simpa using hl)
  simpa using this
theorem held_loop {α : Type} (mk : Int → α) (c : Nat) (l0 l : List α) (k0 : Int) (hl : l = markL mk c k0 l0) (g : Nat → Int → Int → Option Int) (B : Int) (hB : B ≤ 4611686018427387904)
    (hg : ∀ (k1 i : Int), 0 ≤ i → i < (l.length : Int) → 0 ≤ k1 → k1 + c ≤ B → l[i.toNat]? = some (mk k1) → ∃ K, ∀ k, K ≤ k → g (k + 1) k1 i = g k (k1 + c) (wrap64 (i + 1)))
    (he : ∀ k (k1 : Int), g (k + 1) k1 (l.length : Int) = some k1) (hn : l0.length ≤ 4611686018427387904) (h0 : 0 ≤ k0) (h1 : k0 + c * l0.length ≤ B) :
    Ev (fun k => g k k0 0) (k0 + c * l0.length) := by
  have hlen : l.length = l0.length := by rw [hl, markL_length]
  have key : ∀ (rest : List α) (pre : List α) (k1 : Int), l = pre ++ markL mk c k1 rest → 0 ≤ k1 → k1 + c * rest.length ≤ B → Ev (fun k => g k k1 (pre.length : Int)) (k1 + c * rest.length) := by
    intro rest
    induction rest with
    | nil =>
      intro pre k1 h _ _
      refine Ev.step (f := fun _ => some k1) (fun k => ?_) (by simpa using Ev.now _)
      have := he k k1
      rw [h] at this
      simpa [markL] using this
    | cons x rest ih =>
      intro pre k1 h h0 h1
      simp only [List.length_cons] at h1
      have hc : (c : Int) * ((rest.length + 1 : Nat) : Int) = c * rest.length + c := by rw [Int.natCast_add, Int.mul_add]; simp
      rw [hc] at h1
      have hcn : 0 ≤ (c : Int) * (rest.length : Int) := Int.mul_nonneg (by omega) (by omega)
      have hl2 : l.length = pre.length + (rest.length + 1) := by rw [h]; simp [markL_length]
      obtain ⟨K, hK⟩ := hg k1 (pre.length : Int) (by omega) (by omega) h0 (by omega) (by rw [h]; simp [markL])
      have e := ih (pre ++ [mk k1]) (k1 + c) (by rw [h]; simp [markL]) (by omega) (by omega)
      have e2 : (k1 + (c : Int)) + c * rest.length = k1 + c * ((x :: rest).length : Int) := by simp only [List.length_cons]; rw [hc]; omega
      rw [e2] at e
      refine Ev.step2 (f := fun k => g k (k1 + c) ((pre ++ [mk k1]).length : Int)) ⟨K, fun k hk => ?_⟩ e
      rw [hK k hk, wrap_id (by omega) (by omega)]
      simp
  exact key l0 [] k0 (by simpa using hl) h0 h1
theorem Ev.pos {α : Type} {c : Prop} [Decidable c] {f g : Nat → Option α} {r : α} (h : c) (e : Ev f r) : Ev (fun k => if c then f k else g k) r := by simp only [if_pos h]; exact e
theorem Ev.neg {α : Type} {c : Prop} [Decidable c] {f g : Nat → Option α} {r : α} (h : ¬ c) (e : Ev g r) : Ev (fun k => if c then f k else g k) r := by simp only [if_neg h]; exact e
theorem Ev.get {α β : Type} {f : Nat → α → Option β} {a : α} {r : β} (e : Ev (fun n => f n a) r) : Ev (fun n => (some a).bind (f n)) r := e

def conv_Ask (x : S76) : S73 := ⟨x.f0, x.f1⟩
theorem toAskS_ev (l : List S76) (hn : l.length ≤ 1048576) : Ev (fun k => laws_toAskS.f k l) (l.map conv_Ask) := by
  have e := map_loop z76 conv_Ask l (by omega) (fun k => laws_toAskS.l0 k l) (fun k x3 i => rfl) z73
  refine Ev.mp e (fun k => ?_)
  unfold laws_toAskS.f
  rw [if_pos (by omega), if_pos (by omega), Int.toNat_natCast]

theorem eqAsk_self (x : S73) : laws_eqAsk.f x.f0 x.f1 x.f0 x.f1 = some true := by simp [laws_eqAsk.f]
theorem eqAskS_self (l : List S73) (hn : l.length ≤ 4611686018427387904) : Ev (fun k => laws_eqAskS.f k l l) true := by
  have e := same_loop l hn (fun k => laws_eqAskS.l0 k l l) (fun k i h0 h1 => by
    simp only [laws_eqAskS.l0]
    rw [if_pos h1, if_pos h0, if_pos h1, eqAsk_self, Option.bind_some, if_pos rfl]) (fun k => by
    simp only [laws_eqAskS.l0]
    rw [if_neg (by omega)])
  refine Ev.mp e (fun k => ?_)
  unfold laws_eqAskS.f
  rw [if_pos rfl]

theorem eqSpan_self (x : S74) : laws_eqSpan.f x.f0 x.f1 x.f0 x.f1 = some true := by simp [laws_eqSpan.f]
theorem eqSpanS_self (l : List S74) (hn : l.length ≤ 4611686018427387904) : Ev (fun k => laws_eqSpanS.f k l l) true := by
  have e := same_loop l hn (fun k => laws_eqSpanS.l0 k l l) (fun k i h0 h1 => by
    simp only [laws_eqSpanS.l0]
    rw [if_pos h1, if_pos h0, if_pos h1, eqSpan_self, Option.bind_some, if_pos rfl]) (fun k => by
    simp only [laws_eqSpanS.l0]
    rw [if_neg (by omega)])
  refine Ev.mp e (fun k => ?_)
  unfold laws_eqSpanS.f
  rw [if_pos rfl]

theorem szAskS_some (l : List S76) (hl : l.length ≤ 140737488355328) : ∃ r, laws_szAskS.f l 1048576 = some r ∧ (¬ r < 0 → l.length ≤ 1048576) := by
  unfold laws_szAskS.f
  rw [wrap_id (by omega) (by omega)]
  split
  · exact ⟨_, rfl, fun h => absurd (show (-1 : Int) < 0 by decide) h⟩
  · exact ⟨_, rfl, fun h => by omega⟩

def mk_Ask (k : Int) : S73 := ⟨k, k + 1⟩
theorem rd_set_Ask (l : List S73) (i : Int) (h0 : 0 ≤ i) (h : i < (l.length : Int)) (v : S73) : rd_T73 (l.set i.toNat v) i = v := by
  unfold rd_T73
  have : i.toNat < (l.set i.toNat v).length := by simp; omega
  rw [List.getD_eq_getElem?_getD, List.getElem?_eq_getElem this]
  simp
theorem markAskS_ev (l : List S73) (hl : l.length ≤ 1000000000) : Ev (fun k => laws_markAskS.f k l 1) (1 + (2 : Nat) * l.length, markL (mk_Ask ) 2 1 l) := by
  refine mark_loop (mk_Ask ) 2 (fun k l k0 i => laws_markAskS.l0 k l k0 i) 4611686018427387904 (by omega) (fun l k0 i h0 h1 hk0 hk1 => ?_) (fun k l k0 => ?_) l (by omega) 1 (by omega) (by omega)
  · have hk2 : k0 + 2 ≤ 4611686018427387904 := by simpa using hk1
    have w0 : wrap64 (k0 + 1) = k0 + 1 := by rw [wrap_id (by omega) (by omega)]
    have w1 : wrap64 ((k0 + 1) + 1) = k0 + 2 := by rw [wrap_id (by omega) (by omega)]; omega
    refine ⟨0, fun k hk => ?_⟩
    simp only [laws_markAskS.l0]
    rw [if_pos h1]
    simp only [w0, w1, if_pos h0, Option.bind_some]
    have r := rd_set_Ask l i h0 h1
    simp only [r, List.set_set]
    rfl
  · simp only [laws_markAskS.l0]
    rw [if_neg (by omega)]

def mk_Span (k : Int) : S74 := ⟨k, k + 1⟩
theorem rd_set_Span (l : List S74) (i : Int) (h0 : 0 ≤ i) (h : i < (l.length : Int)) (v : S74) : rd_T74 (l.set i.toNat v) i = v := by
  unfold rd_T74
  have : i.toNat < (l.set i.toNat v).length := by simp; omega
  rw [List.getD_eq_getElem?_getD, List.getElem?_eq_getElem this]
  simp
theorem markSpanS_ev (l : List S74) (hl : l.length ≤ 1000000000) : Ev (fun k => laws_markSpanS.f k l 1) (1 + (2 : Nat) * l.length, markL (mk_Span ) 2 1 l) := by
  refine mark_loop (mk_Span ) 2 (fun k l k0 i => laws_markSpanS.l0 k l k0 i) 4611686018427387904 (by omega) (fun l k0 i h0 h1 hk0 hk1 => ?_) (fun k l k0 => ?_) l (by omega) 1 (by omega) (by omega)
  · have hk2 : k0 + 2 ≤ 4611686018427387904 := by simpa using hk1
    have w0 : wrap64 (k0 + 1) = k0 + 1 := by rw [wrap_id (by omega) (by omega)]
    have w1 : wrap64 ((k0 + 1) + 1) = k0 + 2 := by rw [wrap_id (by omega) (by omega)]; omega
    refine ⟨0, fun k hk => ?_⟩
    simp only [laws_markSpanS.l0]
    rw [if_pos h1]
    simp only [w0, w1, if_pos h0, Option.bind_some]
    have r := rd_set_Span l i h0 h1
    simp only [r, List.set_set]
    rfl
  · simp only [laws_markSpanS.l0]
    rw [if_neg (by omega)]

theorem heldSpanS_ev (l0 : List S74) (hl : l0.length ≤ 1000000000) : Ev (fun k => laws_heldSpanS.f k (markL (mk_Span ) 2 1 l0) 1) (1 + (2 : Nat) * l0.length) := by
  refine held_loop (mk_Span ) 2 l0 _ 1 rfl (fun k k0 i => laws_heldSpanS.l0 k (markL (mk_Span ) 2 1 l0) k0 i) 4611686018427387904 (by omega) (fun k0 i h0 h1 hk0 hk1 hx => ?_) (fun k k1 => ?_) (by omega) (by omega) (by omega)
  · have hk2 : k0 + 2 ≤ 4611686018427387904 := by simpa using hk1
    have w0 : wrap64 (k0 + 1) = k0 + 1 := by rw [wrap_id (by omega) (by omega)]
    have w1 : wrap64 ((k0 + 1) + 1) = k0 + 2 := by rw [wrap_id (by omega) (by omega)]; omega
    have hr : rd_T74 (markL (mk_Span ) 2 1 l0) i = mk_Span k0 := by unfold rd_T74; rw [List.getD_eq_getElem?_getD, hx]; rfl
    refine ⟨0, fun k hk => ?_⟩
    simp only [laws_heldSpanS.l0]
    rw [if_pos h1, if_pos h0]
    simp only [hr, w0, w1, Option.bind_some, mk_Span, if_true, bne_self_eq_false, Bool.false_eq_true, if_false]
    rfl
  · simp only [laws_heldSpanS.l0]
    rw [if_neg (by omega)]

/-- What an ask means in a page of n bytes. -/
def resV (n : Int) (a : S73) : List S74 :=
  if a.f0 < 0 then
    (if a.f1 < 0 then [] else if n - (if a.f1 < n then a.f1 else n) < n then [⟨n - (if a.f1 < n then a.f1 else n), n⟩] else [])
  else if a.f1 ≥ 0 ∧ a.f1 < n then (if a.f0 < a.f1 + 1 then [⟨a.f0, a.f1 + 1⟩] else [])
  else (if a.f0 < n then [⟨a.f0, n⟩] else [])
theorem resV_length (n : Int) (a : S73) : (resV n a).length ≤ 1 := by
  unfold resV
  repeat' split
  all_goals simp
theorem resL_length (n : Int) (l : List S73) : (l.flatMap (resV n)).length ≤ l.length := by
  induction l with
  | nil => simp
  | cons x r ih =>
    have := resV_length n x
    simp only [List.flatMap_cons, List.length_append, List.length_cons]; omega
def wfAsk (a : S73) : Prop := (-9223372036854775808 ≤ a.f0 ∧ a.f0 ≤ 9223372036854775807) ∧ (-9223372036854775808 ≤ a.f1 ∧ a.f1 ≤ 9223372036854775807)
theorem spec_Res_step (n : Int) (hn : -9223372036854775808 ≤ n ∧ n ≤ 9223372036854775807) (l : List S73) (acc : List S74) (hacc : acc.length ≤ 2000000) (i : Int) (h0 : 0 ≤ i) (h1 : i < (l.length : Int)) (a : S73) (ha : rd_T73 l i = a) (hw : wfAsk a) (r : List S74)
    (e : Ev (fun k => spec_ResolveRanges.l0 k l n (acc ++ resV n a) (wrap64 (i + 1))) r) : Ev (fun k => spec_ResolveRanges.l0 k l n acc i) r := by
  obtain ⟨⟨w1, w2⟩, w3, w4⟩ := hw
  by_cases hf : a.f0 < 0
  · have hmin : spec_Min.f a.f1 n = some (if n < a.f1 then n else a.f1) := by unfold spec_Min.f; split <;> rfl
    obtain ⟨mn0, hmn0⟩ : ∃ z, z = (if n < a.f1 then n else a.f1) := ⟨_, rfl⟩
    rw [← hmn0] at hmin
    obtain ⟨q, hq, hqv⟩ : ∃ q, spec_Max.f 0 mn0 = some q ∧ ((mn0 > 0 ∧ q = mn0) ∨ (mn0 ≤ 0 ∧ q = 0)) := by
      unfold spec_Max.f
      by_cases z : mn0 > 0
      · exact ⟨mn0, by rw [if_pos z], .inl ⟨z, rfl⟩⟩
      · exact ⟨0, by rw [if_neg z], .inr ⟨by omega, rfl⟩⟩
    have hmn1 : (n < a.f1 ∧ mn0 = n) ∨ (¬ n < a.f1 ∧ mn0 = a.f1) := by
      by_cases z : n < a.f1
      · rw [if_pos z] at hmn0; exact .inl ⟨z, hmn0⟩
      · rw [if_neg z] at hmn0; exact .inr ⟨z, hmn0⟩
    have hwr : wrap64 (n - q) = n - q := by rw [wrap_id] <;> omega
    obtain ⟨p, hp, hpv⟩ : ∃ p, spec_Max.f 0 (n - q) = some p ∧ ((n - q > 0 ∧ p = n - q) ∨ (n - q ≤ 0 ∧ p = 0)) := by
      unfold spec_Max.f
      by_cases z : n - q > 0
      · exact ⟨n - q, by rw [if_pos z], .inl ⟨z, rfl⟩⟩
      · exact ⟨0, by rw [if_neg z], .inr ⟨by omega, rfl⟩⟩
    by_cases g : p < n
    · have hr : resV n a = [⟨p, n⟩] := by
        unfold resV
        rw [if_pos hf, if_neg (by omega)]
        have hx : n - (if a.f1 < n then a.f1 else n) = p := by split <;> omega
        rw [hx, if_pos g]
      refine Ev.step (f := fun k => spec_ResolveRanges.l0 k l n (acc ++ [⟨p, n⟩]) (wrap64 (i + 1))) (fun k => ?_) (by rw [← hr]; exact e)
      simp only [spec_ResolveRanges.l0]
      rw [if_pos h1, if_pos h0, ha, if_pos hf, hmin, Option.bind_some, hq, Option.bind_some, hwr, hp, Option.bind_some, if_pos g, if_pos (by omega)]
    · have hr : resV n a = [] := by
        unfold resV
        rw [if_pos hf]
        split
        · rfl
        · have hx : ¬ n - (if a.f1 < n then a.f1 else n) < n := by split <;> omega
          rw [if_neg hx]
      rw [hr, List.append_nil] at e
      refine Ev.step (f := fun k => spec_ResolveRanges.l0 k l n acc (wrap64 (i + 1))) (fun k => ?_) e
      simp only [spec_ResolveRanges.l0]
      rw [if_pos h1, if_pos h0, ha, if_pos hf, hmin, Option.bind_some, hq, Option.bind_some, hwr, hp, Option.bind_some, if_neg g]
  · by_cases g : a.f1 ≥ 0 ∧ a.f1 < n
    · refine Ev.step (f := fun k => spec_ResolveRanges.j1 k l n acc i true a.f0 a.f1 a.f0 n) (fun k => ?_) ?_
      · simp only [spec_ResolveRanges.l0]
        rw [if_pos h1, if_pos h0, ha, if_neg hf, if_pos g.1, decide_eq_true g.2]
      · by_cases q : a.f0 < a.f1 + 1
        · have hr : resV n a = [⟨a.f0, a.f1 + 1⟩] := by unfold resV; rw [if_neg hf, if_pos g, if_pos q]
          rw [hr] at e
          refine Ev.step (f := fun k => spec_ResolveRanges.l0 k l n (acc ++ [⟨a.f0, a.f1 + 1⟩]) (wrap64 (i + 1))) (fun k => ?_) e
          simp only [spec_ResolveRanges.j1]
          rw [if_pos trivial, wrap_id (n := a.f1 + 1) (by omega) (by omega), if_pos q, if_pos (by omega)]
        · have hr : resV n a = [] := by unfold resV; rw [if_neg hf, if_pos g, if_neg q]
          rw [hr, List.append_nil] at e
          refine Ev.step (f := fun k => spec_ResolveRanges.l0 k l n acc (wrap64 (i + 1))) (fun k => ?_) e
          simp only [spec_ResolveRanges.j1]
          rw [if_pos trivial, wrap_id (n := a.f1 + 1) (by omega) (by omega), if_neg q]
    · refine Ev.step (f := fun k => spec_ResolveRanges.j1 k l n acc i false a.f0 a.f1 a.f0 n) (fun k => ?_) ?_
      · simp only [spec_ResolveRanges.l0]
        rw [if_pos h1, if_pos h0, ha, if_neg hf]
        by_cases q : a.f1 ≥ 0
        · rw [if_pos q, decide_eq_false (fun z => g ⟨q, z⟩)]
        · rw [if_neg q]
      · by_cases q : a.f0 < n
        · have hr : resV n a = [⟨a.f0, n⟩] := by unfold resV; rw [if_neg hf, if_neg g, if_pos q]
          rw [hr] at e
          refine Ev.step (f := fun k => spec_ResolveRanges.l0 k l n (acc ++ [⟨a.f0, n⟩]) (wrap64 (i + 1))) (fun k => ?_) e
          simp only [spec_ResolveRanges.j1]
          rw [if_neg (by simp), if_pos q, if_pos (by omega)]
        · have hr : resV n a = [] := by unfold resV; rw [if_neg hf, if_neg g, if_neg q]
          rw [hr, List.append_nil] at e
          refine Ev.step (f := fun k => spec_ResolveRanges.l0 k l n acc (wrap64 (i + 1))) (fun k => ?_) e
          simp only [spec_ResolveRanges.j1]
          rw [if_neg (by simp), if_neg q]
theorem impl_Res_step (n : Int) (hn : -9223372036854775808 ≤ n ∧ n ≤ 9223372036854775807) (l : List S73) (acc : List S74) (hacc : acc.length ≤ 2000000) (i : Int) (h0 : 0 ≤ i) (h1 : i < (l.length : Int)) (a : S73) (ha : rd_T73 l i = a) (hw : wfAsk a) (r : List S74)
    (e : Ev (fun k => impl_ResolveRanges.l0 k n (acc ++ resV n a) l (l.length : Int) (wrap64 (i + 1))) r) : Ev (fun k => impl_ResolveRanges.l0 k n acc l (l.length : Int) i) r := by
  obtain ⟨⟨w1, w2⟩, w3, w4⟩ := hw
  by_cases hf : a.f0 < 0
  · refine Ev.step (f := fun k => impl_ResolveRanges.j1 k n acc l (l.length : Int) i (decide (a.f1 < 0)) a.f0 a.f1 a.f0 n) (fun k => ?_) ?_
    · simp only [impl_ResolveRanges.l0]
      rw [if_pos h1, if_pos h0, if_pos h1, ha, if_pos hf]
    · by_cases hs : a.f1 < 0
      · have hr : resV n a = [] := by unfold resV; rw [if_pos hf, if_pos hs]
        rw [hr, List.append_nil] at e
        refine Ev.step (f := fun k => impl_ResolveRanges.l0 k n acc l (l.length : Int) (wrap64 (i + 1))) (fun k => ?_) e
        simp only [impl_ResolveRanges.j1]
        rw [if_pos (decide_eq_true hs)]
      · have hmn : mn a.f1 n = (if a.f1 < n then a.f1 else n) := by unfold mn; split <;> split <;> omega
        have hwr : wrap64 (n - (if a.f1 < n then a.f1 else n)) = n - (if a.f1 < n then a.f1 else n) := by rw [wrap_id] <;> (split <;> omega)
        by_cases q : n - (if a.f1 < n then a.f1 else n) < n
        · have hr : resV n a = [⟨n - (if a.f1 < n then a.f1 else n), n⟩] := by unfold resV; rw [if_pos hf, if_neg hs, if_pos q]
          rw [hr] at e
          refine Ev.step (f := fun k => impl_ResolveRanges.l0 k n (acc ++ [⟨n - (if a.f1 < n then a.f1 else n), n⟩]) l (l.length : Int) (wrap64 (i + 1))) (fun k => ?_) e
          simp only [impl_ResolveRanges.j1]
          rw [if_neg (by simp [hs]), if_pos hf, hmn, hwr, if_pos q, if_pos (by omega)]
        · have hr : resV n a = [] := by unfold resV; rw [if_pos hf, if_neg hs, if_neg q]
          rw [hr, List.append_nil] at e
          refine Ev.step (f := fun k => impl_ResolveRanges.l0 k n acc l (l.length : Int) (wrap64 (i + 1))) (fun k => ?_) e
          simp only [impl_ResolveRanges.j1]
          rw [if_neg (by simp [hs]), if_pos hf, hmn, hwr, if_neg q]
  · refine Ev.step (f := fun k => impl_ResolveRanges.j1 k n acc l (l.length : Int) i false a.f0 a.f1 a.f0 n) (fun k => ?_) ?_
    · simp only [impl_ResolveRanges.l0]
      rw [if_pos h1, if_pos h0, if_pos h1, ha, if_neg hf]
    by_cases g : a.f1 ≥ 0 ∧ a.f1 < n
    · refine Ev.step (f := fun k => impl_ResolveRanges.j2 k n acc l (l.length : Int) i true a.f0 a.f1 a.f0 n) (fun k => ?_) ?_
      · simp only [impl_ResolveRanges.j1]
        rw [if_neg (by simp), if_neg hf, if_pos g.1, decide_eq_true g.2]
      · by_cases q : a.f0 < a.f1 + 1
        · have hr : resV n a = [⟨a.f0, a.f1 + 1⟩] := by unfold resV; rw [if_neg hf, if_pos g, if_pos q]
          rw [hr] at e
          refine Ev.step (f := fun k => impl_ResolveRanges.l0 k n (acc ++ [⟨a.f0, a.f1 + 1⟩]) l (l.length : Int) (wrap64 (i + 1))) (fun k => ?_) e
          simp only [impl_ResolveRanges.j2]
          rw [if_pos trivial, wrap_id (n := a.f1 + 1) (by omega) (by omega), if_pos q, if_pos (by omega)]
        · have hr : resV n a = [] := by unfold resV; rw [if_neg hf, if_pos g, if_neg q]
          rw [hr, List.append_nil] at e
          refine Ev.step (f := fun k => impl_ResolveRanges.l0 k n acc l (l.length : Int) (wrap64 (i + 1))) (fun k => ?_) e
          simp only [impl_ResolveRanges.j2]
          rw [if_pos trivial, wrap_id (n := a.f1 + 1) (by omega) (by omega), if_neg q]
    · refine Ev.step (f := fun k => impl_ResolveRanges.j2 k n acc l (l.length : Int) i false a.f0 a.f1 a.f0 n) (fun k => ?_) ?_
      · simp only [impl_ResolveRanges.j1]
        rw [if_neg (by simp), if_neg hf]
        by_cases q : a.f1 ≥ 0
        · rw [if_pos q, decide_eq_false (fun z => g ⟨q, z⟩)]
        · rw [if_neg q]
      · by_cases q : a.f0 < n
        · have hr : resV n a = [⟨a.f0, n⟩] := by unfold resV; rw [if_neg hf, if_neg g, if_pos q]
          rw [hr] at e
          refine Ev.step (f := fun k => impl_ResolveRanges.l0 k n (acc ++ [⟨a.f0, n⟩]) l (l.length : Int) (wrap64 (i + 1))) (fun k => ?_) e
          simp only [impl_ResolveRanges.j2]
          rw [if_neg (by simp), if_pos q, if_pos (by omega)]
        · have hr : resV n a = [] := by unfold resV; rw [if_neg hf, if_neg g, if_neg q]
          rw [hr, List.append_nil] at e
          refine Ev.step (f := fun k => impl_ResolveRanges.l0 k n acc l (l.length : Int) (wrap64 (i + 1))) (fun k => ?_) e
          simp only [impl_ResolveRanges.j2]
          rw [if_neg (by simp), if_neg q]
theorem spec_Res_ev (l : List S73) (hl : l.length ≤ 1048576) (hg : ∀ a ∈ l, wfAsk a) (n : Int) (hn : -9223372036854775808 ≤ n ∧ n ≤ 9223372036854775807) : Ev (fun k => spec_ResolveRanges.f k l n) (l.flatMap (resV n)) := by
  have key : ∀ (rest pre : List S73) (acc : List S74), l = pre ++ rest → acc.length ≤ pre.length → Ev (fun k => spec_ResolveRanges.l0 k l n (acc) (pre.length : Int)) (acc ++ rest.flatMap (resV n)) := by
    intro rest
    induction rest with
    | nil =>
      intro pre acc h ha
      have hl2 := len_mid h
      simp only [List.length_nil] at hl2
      refine Ev.step (f := fun _ => some acc) (fun k => ?_) (by simpa using Ev.now _)
      simp only [spec_ResolveRanges.l0]
      rw [if_neg (by omega)]
    | cons x rest ih =>
      intro pre acc h ha
      have hl2 := len_mid h
      simp only [List.length_cons] at hl2
      have hx : rd_T73 l (pre.length : Int) = x := getD_mid h
      have hw := len_step pre x (by omega)
      have hr := resV_length n x
      refine spec_Res_step n hn l acc (by omega) (pre.length : Int) (by omega) (by omega) x hx (hg x (by rw [h]; simp)) _ ?_
      rw [hw]
      have := ih (pre ++ [x]) (acc ++ resV n x) (by simp [h]) (by simp; omega)
      simpa using this
  have := key l [] [] rfl (by simp)
  simpa [spec_ResolveRanges.f] using this
theorem impl_Res_ev (l : List S73) (hl : l.length ≤ 1048576) (hg : ∀ a ∈ l, wfAsk a) (n : Int) (hn : -9223372036854775808 ≤ n ∧ n ≤ 9223372036854775807) : Ev (fun k => impl_ResolveRanges.f k l n) (l.flatMap (resV n)) := by
  have key : ∀ (rest pre : List S73) (acc : List S74), l = pre ++ rest → acc.length ≤ pre.length → Ev (fun k => impl_ResolveRanges.l0 k n (acc) l (l.length : Int) (pre.length : Int)) (acc ++ rest.flatMap (resV n)) := by
    intro rest
    induction rest with
    | nil =>
      intro pre acc h ha
      have hl2 := len_mid h
      simp only [List.length_nil] at hl2
      refine Ev.step (f := fun _ => some acc) (fun k => ?_) (by simpa using Ev.now _)
      simp only [impl_ResolveRanges.l0]
      rw [if_neg (by omega)]
    | cons x rest ih =>
      intro pre acc h ha
      have hl2 := len_mid h
      simp only [List.length_cons] at hl2
      have hx : rd_T73 l (pre.length : Int) = x := getD_mid h
      have hw := len_step pre x (by omega)
      have hr := resV_length n x
      refine impl_Res_step n hn l acc (by omega) (pre.length : Int) (by omega) (by omega) x hx (hg x (by rw [h]; simp)) _ ?_
      rw [hw]
      have := ih (pre ++ [x]) (acc ++ resV n x) (by simp [h]) (by simp; omega)
      simpa using this
  have := key l [] [] rfl (by simp)
  simpa [impl_ResolveRanges.f] using this

theorem FnExactResolveRanges : laws_FnExactResolveRanges.Pure := by
  intro l n hlen hgood hn
  have hn2 := bounds_i64 hn
  unfold laws_FnExactResolveRanges.f
  apply Ev.rounds
  obtain ⟨r, hr, hr2⟩ := szAskS_some l (by omega)
  simp only [hr, Option.bind_some]
  by_cases hneg : r < 0
  · exact Ev.pos hneg (Ev.now _)
  · refine Ev.neg hneg ?_
    have hn := hr2 hneg
    have hm : (l.map conv_Ask).length ≤ 1048576 := by simpa using hn
    have hg : ∀ a ∈ l.map conv_Ask, wfAsk a := by
      intro a ha
      obtain ⟨b, hb, rfl⟩ := List.mem_map.1 ha
      exact ⟨bounds_i64 (hgood b hb).1, bounds_i64 (hgood b hb).2⟩
    have hd := resL_length n (l.map conv_Ask)
    refine Ev.bind (toAskS_ev l hn) (Ev.bind (spec_Res_ev _ hm hg n hn2) (Ev.bind (toAskS_ev l hn) (Ev.bind (impl_Res_ev _ hm hg n hn2) (Ev.bind (eqSpanS_self _ (by omega)) (Ev.pos rfl ?_)))))
    refine Ev.bind (toAskS_ev l hn) (Ev.bind (eqAskS_self _ (by omega)) (Ev.pos rfl ?_))
    refine Ev.bind (markAskS_ev _ (by omega)) (Ev.neg (by simp only; omega) (Ev.bind (eqSpanS_self _ (by omega)) ?_))
    refine Ev.step (f := _) (fun k => by simp only [laws_FnExactResolveRanges.j0]; rfl) (Ev.neg (by simp) ?_)
    refine Ev.bind (markSpanS_ev _ (by omega)) (Ev.bind (heldSpanS_ev _ (by omega)) (Ev.neg (by omega) (Ev.pos rfl ?_)))
    refine Ev.bind (toAskS_ev l hn) (Ev.bind (impl_Res_ev _ hm hg n hn2) (Ev.bind (eqSpanS_self _ (by omega)) (Ev.pos rfl ?_)))
    exact Ev.bind (heldSpanS_ev _ (by omega)) (Ev.neg (by omega) (Ev.pos rfl (Ev.now _)))

end Go.Proofs.Ytijojcojpbfmlab.Pure
