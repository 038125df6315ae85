/- The pure part of FnExactFormatDirectives: for every input within the statement's bounds the printed law answers true. Conditions: the statement's own bounds alone. -/
import Derived.Test.YtmppjfnojkgllacPreFnExactFormatDirectives
import Derived.Test.YtmppjfnojkgllacRFnExactFormatDirectivesx1
import Derived.Test.YtmppjfnojkgllacRFnExactFormatDirectivesx2
import Derived.Test.YtmppjfnojkgllacRFnExactFormatDirectivesx3
import Derived.Test.YtmppjfnojkgllacRFnExactFormatDirectivesx4
import Derived.OpenShut
namespace Go.Proofs.Ytmppjfnojkgllac.Pure
open Go.RowKit Go.Proofs.Ytmppjfnojkgllac.RFnExactFormatDirectives Go.Proofs.YtmppjfnojkgllacW.PrintWords Go.Proofs.YtmppjfnojkgllacW.PrintLast
set_option linter.unusedSimpArgs false
set_option linter.unusedVariables false

/-! ### Texts as lists of numbers -/
def InB (l : List Int) : Prop := ∀ x ∈ l, 0 ≤ x ∧ x ≤ 255
theorem InB_nil : InB [] := fun x hx => by simp at hx
theorem InB_cons {b : Int} {l : List Int} : InB (b :: l) ↔ (0 ≤ b ∧ b ≤ 255) ∧ InB l := by simp [InB]
theorem InB_append {l m : List Int} : InB (l ++ m) ↔ InB l ∧ InB m := by
  simp only [InB, List.mem_append]
  exact ⟨fun h => ⟨fun x hx => h x (.inl hx), fun x hx => h x (.inr hx)⟩, fun h x hx => hx.elim (h.1 x) (h.2 x)⟩
theorem InB_take {l : List Int} (n : Nat) (h : InB l) : InB (l.take n) := fun x hx => h x (List.mem_of_mem_take hx)
theorem InB_drop {l : List Int} (n : Nat) (h : InB l) : InB (l.drop n) := fun x hx => h x (List.mem_of_mem_drop hx)
theorem InB_bytes (s : ByteArray) : InB (bytesOf s) := by
  intro x hx
  unfold bytesOf at hx
  obtain ⟨b, _, rfl⟩ := List.mem_map.1 hx
  have := b.toNat_lt
  omega
theorem strOf_bytesOf (s : ByteArray) : strOfNums (bytesOf s) = s := by
  obtain ⟨⟨l⟩⟩ := s
  unfold strOfNums bytesOf
  simp only [List.map_map]
  congr 2
  exact (List.map_congr_left (fun b _ => by simp)).trans (List.map_id l)
theorem bytesOf_strOf {l : List Int} (h : InB l) : bytesOf (strOfNums l) = l := by
  unfold strOfNums bytesOf
  simp only [List.map_map]
  refine (List.map_congr_left (fun x hx => ?_)).trans (List.map_id l)
  have := h x hx
  simp only [Function.comp_apply, id, UInt8.toNat_ofNat']
  omega
theorem bytesOf_inj {s t : ByteArray} (h : bytesOf s = bytesOf t) : s = t := by rw [← strOf_bytesOf s, h, strOf_bytesOf]
theorem bytesOf_append (s t : ByteArray) : bytesOf (s ++ t) = bytesOf s ++ bytesOf t := by
  unfold bytesOf
  rw [ByteArray.data_append, Array.toList_append, List.map_append]
theorem bytesOf_extract (s : ByteArray) (a b : Nat) : bytesOf (s.extract a b) = ((bytesOf s).take b).drop a := by
  unfold bytesOf
  rw [ByteArray.data_extract, Array.toList_extract, List.extract_eq_take_drop, List.map_take, List.map_drop, List.take_drop]
  rcases Nat.le_total a b with h | h
  · rw [Nat.add_sub_cancel' h]
  · rw [Nat.sub_eq_zero_of_le h, List.drop_eq_nil_of_le (by simp; omega), List.drop_eq_nil_of_le (by simp; omega)]
theorem toList_iff {s t : ByteArray} : s.toList = t.toList ↔ s = t := by
  rw [ByteArray.toList_eq, ByteArray.toList_eq]
  constructor
  · intro h
    obtain ⟨⟨l⟩⟩ := s
    obtain ⟨⟨m⟩⟩ := t
    simp only at h
    rw [h]
  · rintro rfl; rfl
theorem size_bytes (s : ByteArray) : (s.size : Int) = ((bytesOf s).length : Int) := by rw [bytesOf_length]
theorem getD_mid {α : Type} {l pre rest : List α} {b d : α} (h : l = pre ++ b :: rest) : l.getD ((pre.length : Int)).toNat d = b := by subst h; simp
theorem len_mid {α : Type} {l pre rest : List α} (h : l = pre ++ rest) : l.length = pre.length + rest.length := by rw [h, List.length_append]
theorem rd_mid {l pre rest : List Int} {b : Int} (h : l = pre ++ b :: rest) : rd l (pre.length : Int) = b := by
  subst h
  unfold rd
  simp
theorem bt_mid {s : ByteArray} {pre rest : List Int} {b : Int} (h : bytesOf s = pre ++ b :: rest) : bt s (pre.length : Int) = b := by
  rw [← rd_bytesOf]; exact rd_mid h
theorem size_mid {s : ByteArray} {pre rest : List Int} (h : bytesOf s = pre ++ rest) : (s.size : Int) = (pre.length : Int) + (rest.length : Int) := by
  rw [size_bytes, h]; simp
theorem mid_step {l pre rest : List Int} {b : Int} (h : l = pre ++ b :: rest) : l = (pre ++ [b]) ++ rest := by simp [h]
theorem wrap_id {n : Int} (h0 : -9223372036854775808 ≤ n) (h1 : n ≤ 9223372036854775807) : wrap64 n = n := by unfold wrap64; omega
theorem len_step {α : Type} (pre : List α) (b : α) (h : pre.length ≤ 9223372036854775000) : wrap64 ((pre.length : Int) + 1) = ((pre ++ [b]).length : Int) := by
  rw [wrap_id (by omega) (by omega)]; simp
/-! ### Loops over lists -/
theorem map_loop {α β : Type} (da : α) (conv : α → β) (x0 : List α) (hn : x0.length ≤ 4611686018427387904) (g : Nat → List β → Int → Option (List β))
    (hg : ∀ k x3 i, g (k + 1) x3 i = if i < (x0.length : Int) then (if 0 ≤ i then (if i < (x3.length : Int) then g k (x3.set (i : Int).toNat (conv (x0.getD i.toNat da))) (wrap64 (i + 1)) else none) else none) else some x3) (z : β) :
    Ev (fun k => g k (List.replicate x0.length z) 0) (x0.map conv) := by
  have key : ∀ rest pre, x0 = pre ++ rest → Ev (fun k => g k (pre.map conv ++ List.replicate rest.length z) (pre.length : Int)) (x0.map conv) := by
    intro rest
    induction rest with
    | nil =>
      intro pre h
      refine Ev.step (f := fun _ => some (x0.map conv)) (fun k => ?_) (Ev.now _)
      rw [hg, if_neg (by rw [h]; simp)]
      simp [h]
    | cons b rest ih =>
      intro pre h
      have hl : x0.length = pre.length + (rest.length + 1) := by rw [h]; simp
      refine Ev.step (f := fun k => g k ((pre ++ [b]).map conv ++ List.replicate rest.length z) ((pre ++ [b]).length : Int)) (fun k => ?_) (ih (pre ++ [b]) (by simp [h]))
      rw [hg, if_pos (by omega), if_pos (by omega), if_pos (by simp; omega), wrap_id (by omega) (by omega)]
      have e1 : x0.getD ((pre.length : Int)).toNat da = b := by rw [h]; simp
      rw [e1]
      congr 1
      · simp [List.replicate_succ, List.set_append]
      · simp
  exact key x0 [] rfl
theorem same_loop {α : Type} (a : List α) (hn : a.length ≤ 4611686018427387904) (g : Nat → Int → Option Bool)
    (hg : ∀ k i, 0 ≤ i → i < (a.length : Int) → g (k + 1) i = g k (wrap64 (i + 1))) (he : ∀ k, g (k + 1) (a.length : Int) = some true) : Ev (fun k => g k 0) true := by
  have key : ∀ d i : Nat, i + d = a.length → Ev (fun k => g k (i : Int)) true := by
    intro d
    induction d with
    | zero => intro i h; obtain rfl : i = a.length := by omega
              exact Ev.step he (Ev.now _)
    | succ d ih =>
      intro i h
      refine Ev.step (f := fun k => g k ((i + 1 : Nat) : Int)) (fun k => ?_) (ih (i + 1) (by omega))
      rw [hg k i (by omega) (by omega), wrap_id (by omega) (by omega)]; rfl
  exact key a.length 0 (by omega)
theorem Ev.mp {α : Type} {g f : Nat → Option α} {r : α} (h : Ev f r) (e : ∀ k, g k = f k) : Ev g r := Ev.congr e h
theorem Ev.step2 {α : Type} {g f : Nat → Option α} {r : α} (h : ∃ K, ∀ k, K ≤ k → g (k + 1) = f k) (e : Ev f r) : Ev g r := by
  obtain ⟨K, hK⟩ := h
  obtain ⟨K', hK'⟩ := e
  refine ⟨max K K' + 1, fun k hk => ?_⟩
  obtain ⟨k, rfl⟩ : ∃ m, k = m + 1 := ⟨k - 1, by omega⟩
  rw [hK k (by omega), hK' k (by omega)]
/-- Every element turned into the next of a row of marks. -/
def markL {α : Type} (mk : Int → α) (c : Nat) : Int → List α → List α
  | _, [] => []
  | k, _ :: r => mk k :: markL mk c (k + c) r
theorem markL_length {α : Type} (mk : Int → α) (c : Nat) (l : List α) : ∀ k, (markL mk c k l).length = l.length := by
  induction l with
  | nil => intro k; rfl
  | cons x r ih => intro k; simp [markL, ih]
theorem mark_loop {α : Type} (mk : Int → α) (c : Nat) (g : Nat → List α → Int → Int → Option (Int × List α)) (B : Int) (hB : B ≤ 4611686018427387904)
    (hg : ∀ (l : List α) (k0 i : Int), 0 ≤ i → i < (l.length : Int) → 0 ≤ k0 → k0 + c ≤ B → ∃ K, ∀ k, K ≤ k → g (k + 1) l k0 i = g k (l.set i.toNat (mk k0)) (k0 + c) (wrap64 (i + 1)))
    (he : ∀ k (l : List α) (k0 : Int), g (k + 1) l k0 (l.length : Int) = some (k0, l)) (l : List α) (hl : l.length ≤ 4611686018427387904) (k0 : Int) (h0 : 0 ≤ k0) (h1 : k0 + c * l.length ≤ B) :
    Ev (fun k => g k l k0 0) (k0 + c * l.length, markL mk c k0 l) := by
  have key : ∀ (rest pre : List α) (k0 : Int), 0 ≤ k0 → k0 + c * rest.length ≤ B → pre.length + rest.length ≤ 4611686018427387904 → Ev (fun k => g k (pre ++ rest) k0 (pre.length : Int)) (k0 + c * rest.length, pre ++ markL mk c k0 rest) := by
    intro rest
    induction rest with
    | nil =>
      intro pre k0 _ _ _
      refine Ev.step (f := fun _ => some (k0, pre)) (fun k => ?_) (by simpa [markL] using Ev.now _)
      have := he k pre k0
      simpa using this
    | cons x rest ih =>
      intro pre k0 h0 h1 h2
      simp only [List.length_cons] at h1 h2
      have hc : (c : Int) * ((rest.length + 1 : Nat) : Int) = c * rest.length + c := by rw [Int.natCast_add, Int.mul_add]; simp
      rw [hc] at h1
      have hcn : 0 ≤ (c : Int) * (rest.length : Int) := Int.mul_nonneg (by omega) (by omega)
      obtain ⟨K, hK⟩ := hg (pre ++ x :: rest) k0 (pre.length : Int) (by omega) (by simp; omega) h0 (by omega)
      have e := ih (pre ++ [mk k0]) (k0 + c) (by omega) (by omega) (by simp; omega)
      have e2 : (k0 + (c : Int)) + c * rest.length = k0 + c * ((x :: rest).length : Int) := by simp only [List.length_cons]; rw [hc]; omega
      rw [e2] at e
      refine Ev.step2 (f := fun k => g k (pre ++ [mk k0] ++ rest) (k0 + c) ((pre ++ [mk k0]).length : Int)) ⟨K, fun k hk => ?_⟩ (by simpa [markL] using e)
      rw [hK k hk, wrap_id (by omega) (by omega)]
      simp [List.set_append]
  have := key l [] k0 h0 h1 (by simpa using hl)
  simpa using this
theorem held_loop {α : Type} (mk : Int → α) (c : Nat) (l0 l : List α) (k0 : Int) (hl : l = markL mk c k0 l0) (g : Nat → Int → Int → Option Int) (B : Int) (hB : B ≤ 4611686018427387904)
    (hg : ∀ (k1 i : Int), 0 ≤ i → i < (l.length : Int) → 0 ≤ k1 → k1 + c ≤ B → l[i.toNat]? = some (mk k1) → ∃ K, ∀ k, K ≤ k → g (k + 1) k1 i = g k (k1 + c) (wrap64 (i + 1)))
    (he : ∀ k (k1 : Int), g (k + 1) k1 (l.length : Int) = some k1) (hn : l0.length ≤ 4611686018427387904) (h0 : 0 ≤ k0) (h1 : k0 + c * l0.length ≤ B) :
    Ev (fun k => g k k0 0) (k0 + c * l0.length) := by
  have hlen : l.length = l0.length := by rw [hl, markL_length]
  have key : ∀ (rest : List α) (pre : List α) (k1 : Int), l = pre ++ markL mk c k1 rest → 0 ≤ k1 → k1 + c * rest.length ≤ B → Ev (fun k => g k k1 (pre.length : Int)) (k1 + c * rest.length) := by
    intro rest
    induction rest with
    | nil =>
      intro pre k1 h _ _
      refine Ev.step (f := fun _ => some k1) (fun k => ?_) (by simpa using Ev.now _)
      have := he k k1
      rw [h] at this
      simpa [markL] using this
    | cons x rest ih =>
      intro pre k1 h h0 h1
      simp only [List.length_cons] at h1
      have hc : (c : Int) * ((rest.length + 1 : Nat) : Int) = c * rest.length + c := by rw [Int.natCast_add, Int.mul_add]; simp
      rw [hc] at h1
      have hcn : 0 ≤ (c : Int) * (rest.length : Int) := Int.mul_nonneg (by omega) (by omega)
      have hl2 : l.length = pre.length + (rest.length + 1) := by rw [h]; simp [markL_length]
      obtain ⟨K, hK⟩ := hg k1 (pre.length : Int) (by omega) (by omega) h0 (by omega) (by rw [h]; simp [markL])
      have e := ih (pre ++ [mk k1]) (k1 + c) (by rw [h]; simp [markL]) (by omega) (by omega)
      have e2 : (k1 + (c : Int)) + c * rest.length = k1 + c * ((x :: rest).length : Int) := by simp only [List.length_cons]; rw [hc]; omega
      rw [e2] at e
      refine Ev.step2 (f := fun k => g k (k1 + c) ((pre ++ [mk k1]).length : Int)) ⟨K, fun k hk => ?_⟩ e
      rw [hK k hk, wrap_id (by omega) (by omega)]
      simp
  exact key l0 [] k0 (by simpa using hl) h0 h1
theorem Ev.pos {α : Type} {c : Prop} [Decidable c] {f g : Nat → Option α} {r : α} (h : c) (e : Ev f r) : Ev (fun k => if c then f k else g k) r := by simp only [if_pos h]; exact e
theorem Ev.neg {α : Type} {c : Prop} [Decidable c] {f g : Nat → Option α} {r : α} (h : ¬ c) (e : Ev g r) : Ev (fun k => if c then f k else g k) r := by simp only [if_neg h]; exact e
theorem Ev.get {α β : Type} {f : Nat → α → Option β} {a : α} {r : β} (e : Ev (fun n => f n a) r) : Ev (fun n => (some a).bind (f n)) r := e

def conv_Directive (x : S31) : S33 := ⟨x.f0, x.f1, x.f2⟩
theorem toDirectiveS_ev (l : List S31) (hn : l.length ≤ 1048576) : Ev (fun k => laws_toDirectiveS.f k l) (l.map conv_Directive) := by
  have e := map_loop z31 conv_Directive l (by omega) (fun k => laws_toDirectiveS.l0 k l) (fun k x3 i => rfl) z33
  refine Ev.mp e (fun k => ?_)
  unfold laws_toDirectiveS.f
  rw [if_pos (by omega), if_pos (by omega), Int.toNat_natCast]

theorem eqDirective_self (x : S33) : laws_eqDirective.f x.f0 x.f1 x.f2 x.f0 x.f1 x.f2 = some true := by simp [laws_eqDirective.f]
theorem eqDirectiveS_self (l : List S33) (hn : l.length ≤ 4611686018427387904) : Ev (fun k => laws_eqDirectiveS.f k l l) true := by
  have e := same_loop l hn (fun k => laws_eqDirectiveS.l0 k l l) (fun k i h0 h1 => by
    simp only [laws_eqDirectiveS.l0]
    rw [if_pos h1, if_pos h0, if_pos h1, eqDirective_self, Option.bind_some, if_pos rfl]) (fun k => by
    simp only [laws_eqDirectiveS.l0]
    rw [if_neg (by omega)])
  refine Ev.mp e (fun k => ?_)
  unfold laws_eqDirectiveS.f
  rw [if_pos rfl]

def tot_Directive : List S31 → Nat
  | [] => 0
  | x :: r => 1 + (x.f0.size + x.f1.size) + tot_Directive r
theorem tot_Directive_len (l : List S31) : l.length ≤ tot_Directive l := by
  induction l with
  | nil => simp
  | cons x r ih => simp only [List.length_cons, tot_Directive]; omega
theorem szDirective_some (x : S31) (n : Int) (hn0 : 0 ≤ n) (hn : n ≤ 1048576) (h0 : x.f0.size ≤ maxLen) (h1 : x.f1.size ≤ maxLen) : ∃ r, laws_szDirective.f x.f0 x.f1 x.f2 n = some r ∧ (¬ r < 0 → r = n - ((x.f0.size : Int) + (x.f1.size : Int))) := by
  unfold laws_szDirective.f
  unfold maxLen at h0 h1
  rw [wrap_id (n := n - (x.f0.size : Int)) (by omega) (by omega)]
  by_cases g0 : n - (x.f0.size : Int) < 0
  · rw [if_pos g0]
    exact ⟨_, rfl, fun h => absurd (show (-1 : Int) < 0 by decide) h⟩
  · rw [if_neg g0]
    rw [wrap_id (n := n - (x.f0.size : Int) - (x.f1.size : Int)) (by omega) (by omega)]
    by_cases g1 : n - (x.f0.size : Int) - (x.f1.size : Int) < 0
    · rw [if_pos g1]
      exact ⟨_, rfl, fun h => absurd (show (-1 : Int) < 0 by decide) h⟩
    · rw [if_neg g1]
      exact ⟨_, rfl, fun _ => by omega⟩
theorem szDirectiveS_ev (l : List S31) (hl : l.length ≤ 140737488355328) (hs : ∀ x ∈ l, x.f0.size ≤ maxLen ∧ x.f1.size ≤ maxLen) (n0 : Int) (hn0 : 0 ≤ n0) (hn1 : n0 ≤ 1048576) : ∃ r, Ev (fun k => laws_szDirectiveS.f k l n0) r ∧ (¬ r < 0 → r = n0 - tot_Directive l) := by
  have key : ∀ (rest pre : List S31) (n : Int), l = pre ++ rest → 0 ≤ n → n ≤ 1048576 → ∃ r, Ev (fun k => laws_szDirectiveS.l0 k l n (pre.length : Int)) r ∧ (¬ r < 0 → r = n + rest.length - tot_Directive rest) := by
    intro rest
    induction rest with
    | nil =>
      intro pre n h h0 h1
      refine ⟨n, Ev.step (f := fun _ => some n) (fun k => ?_) (Ev.now _), fun _ => by simp [tot_Directive]⟩
      simp only [laws_szDirectiveS.l0]
      rw [if_neg (by rw [h]; simp)]
    | cons x rest ih =>
      intro pre n h h0 h1
      have hl2 : l.length = pre.length + (rest.length + 1) := by rw [h]; simp
      have hx : rd_T31 l (pre.length : Int) = x := by unfold rd_T31; rw [h]; simp
      obtain ⟨q, hq, hq2⟩ := szDirective_some x n h0 h1 (hs x (by rw [h]; simp)).1 (hs x (by rw [h]; simp)).2
      by_cases hneg : q < 0
      · refine ⟨-1, Ev.step (f := fun _ => some (-1)) (fun k => ?_) (Ev.now _), fun h => absurd (show (-1 : Int) < 0 by decide) h⟩
        simp only [laws_szDirectiveS.l0]
        rw [if_pos (by omega), if_pos (by omega), hx, hq, Option.bind_some, if_pos hneg]
      · obtain ⟨r, hr, hr2⟩ := ih (pre ++ [x]) q (by simp [h]) (by omega) (by have := hq2 hneg; omega)
        refine ⟨r, Ev.step (f := fun k => laws_szDirectiveS.l0 k l q ((pre ++ [x]).length : Int)) (fun k => ?_) hr, fun h => ?_⟩
        · simp only [laws_szDirectiveS.l0]
          rw [if_pos (by omega), if_pos (by omega), hx, hq, Option.bind_some, if_neg hneg, wrap_id (by omega) (by omega)]
          simp
        · rw [hr2 h, hq2 hneg]
          simp only [tot_Directive, List.length_cons]
          omega
  by_cases hneg : n0 - (l.length : Int) < 0
  · refine ⟨-1, Ev.mp (Ev.now _) (fun k => ?_), fun h => absurd (show (-1 : Int) < 0 by decide) h⟩
    unfold laws_szDirectiveS.f
    rw [wrap_id (by omega) (by omega), if_pos hneg]
  · obtain ⟨r, hr, hr2⟩ := key l [] (n0 - l.length) rfl (by omega) (by omega)
    refine ⟨r, Ev.mp hr (fun k => ?_), fun h => by rw [hr2 h]; omega⟩
    unfold laws_szDirectiveS.f
    rw [wrap_id (by omega) (by omega), if_neg hneg]
    rfl

def totS : List ByteArray → Nat
  | [] => 0
  | x :: r => 1 + x.size + totS r
theorem totS_len (l : List ByteArray) : l.length ≤ totS l := by
  induction l with
  | nil => simp
  | cons x r ih => simp only [List.length_cons, totS]; omega
theorem rdS_mid {l pre rest : List ByteArray} {x : ByteArray} (h : l = pre ++ x :: rest) : rdOf ByteArray.empty l (pre.length : Int) = x := getD_mid h

def joinT : List ByteArray → List Int
  | [] => []
  | x :: r => [44, 32] ++ bytesOf x ++ joinT r
def joinI : List ByteArray → List Int
  | [] => []
  | x :: r => bytesOf x ++ joinT r
def joinV (l : List ByteArray) : ByteArray := strOfNums (joinI l)
theorem InB_joinT (l : List ByteArray) : InB (joinT l) := by
  induction l with
  | nil => exact InB_nil
  | cons x r ih =>
    simp only [joinT, InB_append]
    exact ⟨⟨by intro y hy; simp at hy; omega, InB_bytes x⟩, ih⟩
theorem InB_joinI (l : List ByteArray) : InB (joinI l) := by
  cases l with
  | nil => exact InB_nil
  | cons x r => simp only [joinI, InB_append]; exact ⟨InB_bytes x, InB_joinT r⟩
theorem bytesOf_joinV (l : List ByteArray) : bytesOf (joinV l) = joinI l := bytesOf_strOf (InB_joinI l)
theorem joinT_len (l : List ByteArray) : (joinT l).length ≤ 2 * totS l := by
  induction l with
  | nil => simp [joinT]
  | cons x r ih => simp only [joinT, totS, List.length_append, bytesOf_length, List.length_cons, List.length_nil]; omega
theorem joinI_len (l : List ByteArray) : (joinI l).length ≤ 2 * totS l := by
  cases l with
  | nil => simp [joinI]
  | cons x r => have := joinT_len r; simp only [joinI, totS, List.length_append, bytesOf_length]; omega

def tokB (x : Int) : Bool := decide (97 ≤ x ∧ x ≤ 122) || decide (65 ≤ x ∧ x ≤ 90) || decide (48 ≤ x ∧ x ≤ 57) || ([33, 35, 36, 37, 38, 39, 42, 43, 45, 46, 94, 95, 124, 126, 96] : List Int).contains x
def tokL (l : List Int) : Bool := l.all tokB && decide (1 ≤ (l.length : Int) ∧ (l.length : Int) ≤ 40)
def tokV (s : ByteArray) : Bool := (bytesOf s).all tokB && decide (1 ≤ (s.size : Int) ∧ (s.size : Int) ≤ 40)
theorem tokV_L (s : ByteArray) : tokV s = tokL (bytesOf s) := by unfold tokV tokL; rw [size_bytes]
theorem fin256 {p : Int → Prop} (h : ∀ n : Fin 256, p (n.val : Int)) {b : Int} (h0 : 0 ≤ b) (h1 : b ≤ 255) : p b := by
  have := h ⟨b.toNat, by omega⟩
  rwa [show ((b.toNat : Nat) : Int) = b by omega] at this

/-- The bytes of a quoted text, without the quotes. -/
def quoteL : List Int → List Int
  | [] => []
  | b :: r => if b = 34 then 92 :: b :: quoteL r else if b = 92 then 92 :: b :: quoteL r else b :: quoteL r
theorem quoteL_length (l : List Int) : (quoteL l).length ≤ 2 * l.length := by
  induction l with
  | nil => simp [quoteL]
  | cons b r ih => unfold quoteL; split <;> (try split) <;> simp only [List.length_cons] <;> omega
def quoteV (s : ByteArray) : ByteArray := strOfNums (34 :: quoteL (bytesOf s) ++ [34])

def dvalV (s : ByteArray) : ByteArray := if tokV s = true then s else quoteV s
def eq61 : ByteArray := ⟨#[61]⟩
def dirV (d : S33) : ByteArray := if d.f2 = true then (d.f0 ++ eq61) ++ dvalV d.f1 else d.f0
def fdV (l : List S33) : ByteArray := joinV (l.map dirV)
def totD : List S33 → Nat
  | [] => 0
  | x :: r => 1 + (x.f0.size + x.f1.size) + totD r
theorem totD_len (l : List S33) : l.length ≤ totD l := by
  induction l with
  | nil => simp
  | cons x r ih => simp only [List.length_cons, totD]; omega
theorem totD_mem (l : List S33) (x : S33) (h : x ∈ l) : x.f0.size ≤ totD l ∧ x.f1.size ≤ totD l := by
  induction l with
  | nil => simp at h
  | cons y r ih =>
    simp only [totD]
    rcases List.mem_cons.1 h with g | g
    · subst g; omega
    · have := ih g; omega
theorem sz61 : eq61.size = 1 := rfl
theorem quoteV_size (s : ByteArray) : (quoteV s).size ≤ 2 * s.size + 2 := by
  have := quoteL_length (bytesOf s)
  rw [bytesOf_length] at this
  unfold quoteV
  rw [strOfNums_size]
  simp only [List.length_append, List.length_cons, List.length_nil]; omega
theorem dvalV_size (s : ByteArray) : (dvalV s).size ≤ 2 * s.size + 2 := by
  have := quoteV_size s
  unfold dvalV
  split <;> omega
theorem dirV_size (d : S33) : (dirV d).size ≤ d.f0.size + 2 * d.f1.size + 3 := by
  have := dvalV_size d.f1
  unfold dirV
  split
  · rw [ByteArray.size_append, ByteArray.size_append, sz61]; omega
  · omega
theorem totS_dirs (l : List S33) : totS (l.map dirV) ≤ 4 * totD l := by
  induction l with
  | nil => simp [totS]
  | cons x r ih =>
    have := dirV_size x
    simp only [List.map_cons, totS, totD]; omega
theorem app_assoc (a b c : ByteArray) : a ++ (b ++ c) = (a ++ b) ++ c := by
  apply bytesOf_inj
  simp only [bytesOf_append, List.append_assoc]

theorem spec_Join_ev (l : List ByteArray) (hl : totS l ≤ 1099511627776) : Ev (fun k => spec_JoinList.f k l) (joinV l) := by
  have hlen := totS_len l
  have key : ∀ (rest pre : List ByteArray) (acc : ByteArray), l = pre ++ rest → 0 < pre.length → acc.size + 2 * totS rest ≤ 4611686018427387904 → Ev (fun k => spec_JoinList.l0 k l acc (pre.length : Int)) (strOfNums (bytesOf acc ++ joinT rest)) := by
    intro rest
    induction rest with
    | nil =>
      intro pre acc h hp ha
      have hl2 := len_mid h
      simp only [List.length_nil] at hl2
      refine Ev.step (f := fun _ => some acc) (fun k => ?_) (by simpa [joinT, strOf_bytesOf] using Ev.now acc)
      simp only [spec_JoinList.l0]
      rw [if_neg (by omega)]
    | cons x rest ih =>
      intro pre acc h hp ha
      have hl2 := len_mid h
      simp only [List.length_cons, totS] at hl2 ha
      have hx := rdS_mid h
      have hw := len_step pre x (by omega)
      have z1 : (⟨#[44, 32]⟩ : ByteArray).size = 2 := rfl
      have b1 : bytesOf (⟨#[44, 32]⟩ : ByteArray) = [44, 32] := by decide
      refine Ev.step (f := fun k => spec_JoinList.l0 k l ((acc ++ (⟨#[44, 32]⟩ : ByteArray)) ++ x) ((pre ++ [x]).length : Int)) (fun k => ?_) ?_
      · simp only [spec_JoinList.l0]
        rw [if_pos (by omega), if_pos (by omega), if_pos (by omega), if_pos (by omega), hx, if_pos (by simp only [ByteArray.size_append]; omega), hw]
      · have := ih (pre ++ [x]) ((acc ++ (⟨#[44, 32]⟩ : ByteArray)) ++ x) (by simp [h]) (by simp) (by simp only [ByteArray.size_append]; omega)
        simpa [bytesOf_append, b1, joinT] using this
  unfold spec_JoinList.f
  match l, hl, hlen, key with
  | [], hl, hlen, key =>
    refine Ev.step (f := fun _ => some (⟨#[]⟩ : ByteArray)) (fun k => ?_) ?_
    · simp only [spec_JoinList.l0]
      rw [if_neg (by simp)]
    · have e : joinV [] = ⟨#[]⟩ := by apply bytesOf_inj; rw [bytesOf_joinV]; decide
      rw [e]; exact Ev.now _
  | x :: r, hl, hlen, key =>
    simp only [totS, List.length_cons] at hl hlen
    have hx : rdOf ByteArray.empty (x :: r) 0 = x := rfl
    have e0 : (⟨#[]⟩ : ByteArray) ++ x = x := by apply bytesOf_inj; rw [bytesOf_append, show bytesOf ⟨#[]⟩ = [] by decide]; rfl
    refine Ev.step (f := fun k => spec_JoinList.l0 k (x :: r) x (([x] : List ByteArray).length : Int)) (fun k => ?_) ?_
    · simp only [spec_JoinList.l0]
      rw [if_pos (by simp only [List.length_cons]; omega), if_neg (by omega), if_pos (by omega), hx, e0, if_pos (by have : (⟨#[]⟩ : ByteArray).size = 0 := rfl; omega), wrap_id (by omega) (by omega)]
      rfl
    · exact key r [x] x rfl (by simp) (by omega)

theorem spec_l1In_eq (a b c : Int) : spec_l1In.f a b c = some (decide (b ≤ a ∧ a ≤ c)) := by
  unfold spec_l1In.f
  by_cases h : a ≥ b
  · rw [if_pos h]; congr 1; apply decide_eq_decide.mpr; constructor
    · exact fun x => ⟨h, x⟩
    · exact fun x => x.2
  · rw [if_neg h]; congr 1; symm; apply decide_eq_false; omega

theorem spec_tok_fin : ∀ n : Fin 256, spec_l4Token.f 17 (n.val : Int) = some (tokB (n.val : Int)) := by decide +kernel
theorem spec_tok_ev {b : Int} (h0 : 0 ≤ b) (h1 : b ≤ 255) : Ev (fun k => spec_l4Token.f k b) (tokB b) := Ev.of (fun k => spec_l4Token.mono b k) (k := 17) (fin256 (p := fun b => spec_l4Token.f 17 b = some (tokB b)) spec_tok_fin h0 h1)
theorem spec_IsToken_ev (s : ByteArray) (hs : s.size ≤ 4611686018427387904) : Ev (fun k => spec_IsToken.f k s) (tokV s) := by
  have key : ∀ (rest pre : List Int), bytesOf s = pre ++ rest → Ev (fun k => spec_IsToken.l0 k s (pre.length : Int)) (rest.all tokB && decide (1 ≤ (s.size : Int) ∧ (s.size : Int) ≤ 40)) := by
    intro rest
    induction rest with
    | nil =>
      intro pre h
      have hz := size_mid h
      simp only [List.length_nil] at hz
      refine Ev.step (f := fun _ => some (decide (1 ≤ (s.size : Int) ∧ (s.size : Int) ≤ 40))) (fun k => ?_) (by simpa using Ev.now _)
      simp only [spec_IsToken.l0]
      rw [if_neg (by omega), spec_l1In_eq, Option.bind_some]
    | cons b rest ih =>
      intro pre h
      have hz := size_mid h
      simp only [List.length_cons] at hz
      have hb := bt_mid h
      have hr : 0 ≤ b ∧ b ≤ 255 := by rw [← hb]; exact bt_range s _
      have hw := len_step pre b (by omega)
      refine Ev.step (f := fun k => (spec_l4Token.f k b).bind fun t => if t = true then spec_IsToken.l0 k s ((pre ++ [b]).length : Int) else some false) (fun k => ?_) (Ev.bind (spec_tok_ev hr.1 hr.2) ?_)
      · simp only [spec_IsToken.l0]
        rw [if_pos (by omega), if_pos (by omega), hb, hw]
      · cases e : tokB b with
        | true => simpa [e] using ih (pre ++ [b]) (by simp [h])
        | false => simpa [e] using Ev.now _
  exact key (bytesOf s) [] rfl

theorem spec_Quote_loop (s : ByteArray) (hs : s.size ≤ 140737488351232 / 4) (rest : List Int) : ∀ (pre acc : List Int), bytesOf s = pre ++ rest → acc.length ≤ 1 + 2 * pre.length →
    Ev (fun k => spec_QuoteText.l0 k s acc (pre.length : Int)) (strOfNums (acc ++ quoteL rest ++ [34])) := by
  induction rest with
  | nil =>
    intro pre acc h ha
    have hz := size_mid h
    simp only [List.length_nil] at hz
    refine Ev.step (f := fun _ => some (strOfNums (acc ++ quoteL [] ++ [34]))) (fun k => ?_) (Ev.now _)
    simp only [spec_QuoteText.l0]
    rw [if_neg (by omega), if_pos (by omega)]; simp [quoteL]
  | cons b rest ih =>
    intro pre acc h ha
    have hz := size_mid h
    simp only [List.length_cons] at hz
    have hst := mid_step h
    have hb := bt_mid h
    have hw := len_step pre b (by omega)
    by_cases h1 : b = 34
    · refine Ev.step (f := fun k => spec_QuoteText.l0 k s (acc ++ [92] ++ [b]) ((pre ++ [b]).length : Int)) (fun k => ?_) ?_
      · simp only [spec_QuoteText.l0]
        rw [if_pos (by omega), if_pos (by omega), hb, if_pos h1, if_pos (by omega), Option.bind_some, if_pos (by simp; omega), hw]
      · have := ih (pre ++ [b]) (acc ++ [92] ++ [b]) hst (by simp; omega)
        simpa [quoteL, h1] using this
    · by_cases h2 : b = 92
      · refine Ev.step (f := fun k => spec_QuoteText.l0 k s (acc ++ [92] ++ [b]) ((pre ++ [b]).length : Int)) (fun k => ?_) ?_
        · simp only [spec_QuoteText.l0]
          rw [if_pos (by omega), if_pos (by omega), hb, if_neg h1, if_pos h2, if_pos (by omega), Option.bind_some, if_pos (by simp; omega), hw]
        · have := ih (pre ++ [b]) (acc ++ [92] ++ [b]) hst (by simp; omega)
          simpa [quoteL, h2] using this
      · refine Ev.step (f := fun k => spec_QuoteText.l0 k s (acc ++ [b]) ((pre ++ [b]).length : Int)) (fun k => ?_) ?_
        · simp only [spec_QuoteText.l0]
          rw [if_pos (by omega), if_pos (by omega), hb, if_neg h1, if_neg h2, if_pos (by omega), hw]
        · have := ih (pre ++ [b]) (acc ++ [b]) hst (by simp; omega)
          simpa [quoteL, h1, h2] using this
theorem spec_Quote_ev (s : ByteArray) (hs : s.size ≤ 140737488351232 / 4) : Ev (fun k => spec_QuoteText.f k s) (quoteV s) := by
  have := spec_Quote_loop s hs (bytesOf s) [] [34] rfl (by simp)
  simpa [spec_QuoteText.f, quoteV] using this

theorem spec_FD_ev (l : List S33) (hl : totD l ≤ 1048576) : Ev (fun k => spec_FormatDirectives.f k l) (fdV l) := by
  have hlen := totD_len l
  have key : ∀ (rest pre : List S33), l = pre ++ rest → Ev (fun k => spec_FormatDirectives.l0 k l (pre.map dirV) (pre.length : Int)) (fdV l) := by
    intro rest
    induction rest with
    | nil =>
      intro pre h
      have hl2 := len_mid h
      simp only [List.length_nil] at hl2
      have e : pre = l := by rw [h]; simp
      have ht := totS_dirs l
      refine Ev.step (f := fun k => (spec_JoinList.f k (l.map dirV)).bind fun t => some t) (fun k => ?_) (Ev.bind (spec_Join_ev (l.map dirV) (by omega)) (Ev.now _))
      simp only [spec_FormatDirectives.l0]
      rw [if_neg (by omega), e]
    | cons x rest ih =>
      intro pre h
      have hl2 := len_mid h
      simp only [List.length_cons] at hl2
      have hx : rd_T33 l (pre.length : Int) = x := getD_mid h
      have hmx := totD_mem l x (by rw [h]; simp)
      have hst := len_step pre x (by omega)
      have hm : (pre.map dirV).length = pre.length := by simp
      have hap : pre.map dirV ++ [dirV x] = (pre ++ [x]).map dirV := by simp
      have nxt := ih (pre ++ [x]) (by simp [h])
      rw [← hap, ← hst] at nxt
      have hq := quoteV_size x.f1
      have s2 : (x.f0 ++ (⟨#[61]⟩ : ByteArray)).size = x.f0.size + 1 := by rw [ByteArray.size_append]; rfl
      by_cases g0 : x.f2 = true
      · refine Ev.step (f := fun k => (spec_IsToken.f k x.f1).bind fun t => if t = true then spec_FormatDirectives.l0 k l (pre.map dirV ++ [(x.f0 ++ (⟨#[61]⟩ : ByteArray)) ++ x.f1]) (wrap64 ((pre.length : Int) + 1)) else (spec_QuoteText.f k x.f1).bind fun u => if (x.f0 ++ (⟨#[61]⟩ : ByteArray)).size + u.size ≤ 9223372036854775807 then spec_FormatDirectives.l0 k l (pre.map dirV ++ [(x.f0 ++ (⟨#[61]⟩ : ByteArray)) ++ u]) (wrap64 ((pre.length : Int) + 1)) else none) (fun k => ?_) (Ev.bind (spec_IsToken_ev x.f1 (by omega)) ?_)
        · simp only [spec_FormatDirectives.l0]
          rw [if_pos (by omega), if_pos (by omega), hx, if_pos g0, if_pos (by omega)]
          congr 1; funext t
          rw [if_pos (show (x.f0 ++ (⟨#[61]⟩ : ByteArray)).size + x.f1.size ≤ 9223372036854775807 by omega), if_pos (show (pre.map dirV).length < 8796093022208 by omega)]
          congr 1
          congr 1; funext u
          rw [if_pos (show (pre.map dirV).length < 8796093022208 by omega)]
        · cases ht : tokV x.f1 with
          | true =>
            have e : dirV x = (x.f0 ++ (⟨#[61]⟩ : ByteArray)) ++ x.f1 := by unfold dirV dvalV; rw [if_pos g0, if_pos ht]; rfl
            rw [e] at nxt
            exact Ev.pos rfl nxt
          | false =>
            have e : dirV x = (x.f0 ++ (⟨#[61]⟩ : ByteArray)) ++ quoteV x.f1 := by unfold dirV dvalV; rw [if_pos g0, if_neg (by rw [ht]; simp)]; rfl
            rw [e] at nxt
            exact Ev.neg (by simp) (Ev.bind (spec_Quote_ev x.f1 (by omega)) (Ev.pos (by omega) nxt))
      · have e : dirV x = x.f0 := by unfold dirV; rw [if_neg g0]
        rw [e] at nxt
        refine Ev.step (fun k => ?_) nxt
        simp only [spec_FormatDirectives.l0]
        rw [if_pos (by omega), if_pos (by omega), hx, if_neg g0, if_pos (by omega)]
  exact key l [] rfl

theorem bytesOf_mk2 (l : List UInt8) : bytesOf ⟨l.toArray⟩ = l.map fun b => (b.toNat : Int) := rfl
theorem libjoin_map (l : List ByteArray) : ((Lib.join (l.map (·.data.toList)) [44, 32]).map fun b => (b.toNat : Int)) = joinI l := by
  have tail : ∀ r : List ByteArray, ((Lib.joinTail [44, 32] (r.map (·.data.toList))).map fun b => (b.toNat : Int)) = joinT r := by
    intro r
    induction r with
    | nil => rfl
    | cons x r ih =>
      simp only [Lib.joinTail, List.map_cons, List.flatten_cons, List.map_append, joinT] at ih ⊢
      rw [ih]; rfl
  cases l with
  | nil => rfl
  | cons x r =>
    rw [List.map_cons, Lib.join_cons, List.map_append, tail]; rfl
theorem impl_Join_eq (l : List ByteArray) (hl : totS l ≤ 1099511627776) : impl_JoinList.f l = some (joinV l) := by
  have hlen := totS_len l
  have h2 := joinI_len l
  have e : (⟨#[44, 32]⟩ : ByteArray).data.toList = [44, 32] := rfl
  have hl3 : (Lib.join (l.map (·.data.toList)) [44, 32]).length = (joinI l).length := by rw [← libjoin_map, List.length_map]
  unfold impl_JoinList.f strings_Join.f
  rw [e, if_pos ⟨by omega, by omega⟩, Option.bind_some]
  congr 1
  apply bytesOf_inj
  rw [bytesOf_joinV, bytesOf_mk2, libjoin_map]

theorem impl_inRange_eq (a b c : Int) : impl_inRange.f a b c = some (decide (b ≤ a ∧ a ≤ c)) := by
  unfold impl_inRange.f
  by_cases h : b ≤ a
  · rw [if_pos h]; congr 1; apply decide_eq_decide.mpr; constructor
    · exact fun x => ⟨h, x⟩
    · exact fun x => x.2
  · rw [if_neg h]; congr 1; symm; apply decide_eq_false; omega

theorem impl_tok_fin : ∀ n : Fin 256, impl_isTokenByte.f (n.val : Int) = some (tokB (n.val : Int)) := by decide +kernel
theorem impl_tok_eq {b : Int} (h0 : 0 ≤ b) (h1 : b ≤ 255) : impl_isTokenByte.f b = some (tokB b) := fin256 (p := fun b => impl_isTokenByte.f b = some (tokB b)) impl_tok_fin h0 h1
theorem impl_IsToken_ev (s : ByteArray) (hs : s.size ≤ 4611686018427387904) : Ev (fun k => impl_IsToken.f k s) (tokV s) := by
  have key : ∀ (rest pre : List Int), bytesOf s = pre ++ rest → Ev (fun k => impl_IsToken.l0 k s (s.size : Int) (pre.length : Int)) (rest.all tokB && decide (1 ≤ (s.size : Int) ∧ (s.size : Int) ≤ 40)) := by
    intro rest
    induction rest with
    | nil =>
      intro pre h
      have hz := size_mid h
      simp only [List.length_nil] at hz
      refine Ev.step (f := fun _ => some (decide (1 ≤ (s.size : Int) ∧ (s.size : Int) ≤ 40))) (fun k => ?_) (by simpa using Ev.now _)
      simp only [impl_IsToken.l0]
      rw [if_neg (by omega), impl_inRange_eq, Option.bind_some]
    | cons b rest ih =>
      intro pre h
      have hz := size_mid h
      simp only [List.length_cons] at hz
      have hb := bt_mid h
      have hr : 0 ≤ b ∧ b ≤ 255 := by rw [← hb]; exact bt_range s _
      have hw := len_step pre b (by omega)
      refine Ev.step (f := fun k => if tokB b = true then impl_IsToken.l0 k s (s.size : Int) ((pre ++ [b]).length : Int) else some false) (fun k => ?_) ?_
      · simp only [impl_IsToken.l0]
        rw [if_pos (by omega), if_pos (by omega), if_pos (by omega), hb, hw, impl_tok_eq hr.1 hr.2, Option.bind_some]
      · cases e : tokB b with
        | true => simpa [e] using ih (pre ++ [b]) (by simp [h])
        | false => simpa [e] using Ev.now _
  exact key (bytesOf s) [] rfl

theorem impl_Quote_loop (s : ByteArray) (hs : s.size ≤ 140737488351232 / 4) (rest : List Int) : ∀ (pre acc : List Int), bytesOf s = pre ++ rest → acc.length ≤ 1 + 2 * pre.length →
    Ev (fun k => impl_QuoteText.l0 k s acc (s.size : Int) (pre.length : Int)) (strOfNums (acc ++ quoteL rest ++ [34])) := by
  induction rest with
  | nil =>
    intro pre acc h ha
    have hz := size_mid h
    simp only [List.length_nil] at hz
    refine Ev.step (f := fun _ => some (strOfNums (acc ++ quoteL [] ++ [34]))) (fun k => ?_) (Ev.now _)
    simp only [impl_QuoteText.l0]
    rw [if_neg (by omega), if_pos (by omega)]; simp [quoteL]
  | cons b rest ih =>
    intro pre acc h ha
    have hz := size_mid h
    simp only [List.length_cons] at hz
    have hst := mid_step h
    have hb := bt_mid h
    have hw := len_step pre b (by omega)
    by_cases h1 : b = 34
    · refine Ev.step (f := fun k => impl_QuoteText.l0 k s (acc ++ [92] ++ [b]) (s.size : Int) ((pre ++ [b]).length : Int)) (fun k => ?_) ?_
      · simp only [impl_QuoteText.l0]
        rw [if_pos (by omega), if_pos (by omega), if_pos (by omega), hb, if_pos h1, if_pos (by omega), Option.bind_some, if_pos (by simp; omega), hw]
      · have := ih (pre ++ [b]) (acc ++ [92] ++ [b]) hst (by simp; omega)
        simpa [quoteL, h1] using this
    · by_cases h2 : b = 92
      · refine Ev.step (f := fun k => impl_QuoteText.l0 k s (acc ++ [92] ++ [b]) (s.size : Int) ((pre ++ [b]).length : Int)) (fun k => ?_) ?_
        · simp only [impl_QuoteText.l0]
          rw [if_pos (by omega), if_pos (by omega), if_pos (by omega), hb, if_neg h1, if_pos h2, if_pos (by omega), Option.bind_some, if_pos (by simp; omega), hw]
        · have := ih (pre ++ [b]) (acc ++ [92] ++ [b]) hst (by simp; omega)
          simpa [quoteL, h2] using this
      · refine Ev.step (f := fun k => impl_QuoteText.l0 k s (acc ++ [b]) (s.size : Int) ((pre ++ [b]).length : Int)) (fun k => ?_) ?_
        · simp only [impl_QuoteText.l0]
          rw [if_pos (by omega), if_pos (by omega), if_pos (by omega), hb, if_neg h1, if_neg h2, if_pos (by omega), hw]
        · have := ih (pre ++ [b]) (acc ++ [b]) hst (by simp; omega)
          simpa [quoteL, h1, h2] using this
theorem impl_Quote_ev (s : ByteArray) (hs : s.size ≤ 140737488351232 / 4) : Ev (fun k => impl_QuoteText.f k s) (quoteV s) := by
  have := impl_Quote_loop s hs (bytesOf s) [] [34] rfl (by simp)
  simpa [impl_QuoteText.f, quoteV] using this

theorem impl_FD_ev (l : List S33) (hl : totD l ≤ 1048576) : Ev (fun k => impl_FormatDirectives.f k l) (fdV l) := by
  have hlen := totD_len l
  have key : ∀ (rest pre : List S33), l = pre ++ rest → Ev (fun k => impl_FormatDirectives.l0 k (pre.map dirV) l (l.length : Int) (pre.length : Int)) (fdV l) := by
    intro rest
    induction rest with
    | nil =>
      intro pre h
      have hl2 := len_mid h
      simp only [List.length_nil] at hl2
      have e : pre = l := by rw [h]; simp
      have ht := totS_dirs l
      refine Ev.step (f := fun k => some (fdV l)) (fun k => ?_) (Ev.now _)
      simp only [impl_FormatDirectives.l0]
      rw [if_neg (by omega), e, impl_Join_eq (l.map dirV) (by omega), Option.bind_some]
      rfl
    | cons x rest ih =>
      intro pre h
      have hl2 := len_mid h
      simp only [List.length_cons] at hl2
      have hx : rd_T33 l (pre.length : Int) = x := getD_mid h
      have hmx := totD_mem l x (by rw [h]; simp)
      have hst := len_step pre x (by omega)
      have hm : (pre.map dirV).length = pre.length := by simp
      have hap : pre.map dirV ++ [dirV x] = (pre ++ [x]).map dirV := by simp
      have nxt := ih (pre ++ [x]) (by simp [h])
      rw [← hap, ← hst] at nxt
      have hq := quoteV_size x.f1
      have s3 : ∀ v : ByteArray, ((⟨#[61]⟩ : ByteArray) ++ v).size = 1 + v.size := by intro v; rw [ByteArray.size_append]; rfl
      by_cases g0 : x.f2 = true
      · refine Ev.step (f := fun k => (impl_IsToken.f k x.f1).bind fun t => if t = true then impl_FormatDirectives.l0 k (pre.map dirV ++ [x.f0 ++ ((⟨#[61]⟩ : ByteArray) ++ x.f1)]) l (l.length : Int) (wrap64 ((pre.length : Int) + 1)) else (impl_QuoteText.f k x.f1).bind fun u => if 1 + u.size ≤ 9223372036854775807 then (if x.f0.size + ((⟨#[61]⟩ : ByteArray) ++ u).size ≤ 9223372036854775807 then impl_FormatDirectives.l0 k (pre.map dirV ++ [x.f0 ++ ((⟨#[61]⟩ : ByteArray) ++ u)]) l (l.length : Int) (wrap64 ((pre.length : Int) + 1)) else none) else none) (fun k => ?_) (Ev.bind (impl_IsToken_ev x.f1 (by omega)) ?_)
        · simp only [impl_FormatDirectives.l0]
          rw [if_pos (by omega), if_pos (by omega), if_pos (by omega), hx, if_pos g0]
          congr 1; funext t
          rw [if_pos (show 1 + x.f1.size ≤ 9223372036854775807 by omega), if_pos (show x.f0.size + ((⟨#[61]⟩ : ByteArray) ++ x.f1).size ≤ 9223372036854775807 by rw [s3]; omega), if_pos (show (pre.map dirV).length < 8796093022208 by omega)]
          congr 1
          congr 1; funext u
          rw [if_pos (show (pre.map dirV).length < 8796093022208 by omega)]
        · cases ht : tokV x.f1 with
          | true =>
            have e : dirV x = x.f0 ++ ((⟨#[61]⟩ : ByteArray) ++ x.f1) := by rw [app_assoc]; unfold dirV dvalV; rw [if_pos g0, if_pos ht]; rfl
            rw [e] at nxt
            exact Ev.pos rfl nxt
          | false =>
            have e : dirV x = x.f0 ++ ((⟨#[61]⟩ : ByteArray) ++ quoteV x.f1) := by rw [app_assoc]; unfold dirV dvalV; rw [if_pos g0, if_neg (by rw [ht]; simp)]; rfl
            rw [e] at nxt
            exact Ev.neg (by simp) (Ev.bind (impl_Quote_ev x.f1 (by omega)) (Ev.pos (by omega) (Ev.pos (by rw [s3]; omega) nxt)))
      · have e : dirV x = x.f0 := by unfold dirV; rw [if_neg g0]
        rw [e] at nxt
        refine Ev.step (fun k => ?_) nxt
        simp only [impl_FormatDirectives.l0]
        rw [if_pos (by omega), if_pos (by omega), if_pos (by omega), hx, if_neg g0, if_pos (by omega)]
  exact key l [] rfl

theorem totD_map (l : List S31) : totD (l.map conv_Directive) = tot_Directive l := by
  induction l with
  | nil => rfl
  | cons x r ih => simp only [List.map_cons, totD, tot_Directive, ih]; rfl
theorem FnExactFormatDirectives : laws_FnExactFormatDirectives.Pure := by
  intro l hlen hgood
  unfold laws_FnExactFormatDirectives.f
  apply Ev.rounds
  obtain ⟨r, hr, hr2⟩ := szDirectiveS_ev l (by omega) hgood 1048576 (by omega) (by omega)
  refine Ev.bind hr ?_
  by_cases hneg : r < 0
  · exact Ev.pos hneg (Ev.now _)
  · refine Ev.neg hneg ?_
    have ht := tot_Directive_len l
    have h2 := hr2 hneg
    have hn : l.length ≤ 1048576 := by omega
    have hm : (l.map conv_Directive).length ≤ 1048576 := by simpa using hn
    have hd : totD (l.map conv_Directive) ≤ 1048576 := by rw [totD_map]; omega
    refine Ev.bind (toDirectiveS_ev l hn) (Ev.bind (spec_FD_ev _ hd) (Ev.bind (toDirectiveS_ev l hn) (Ev.bind (impl_FD_ev _ hd) (Ev.pos rfl ?_))))
    exact Ev.bind (toDirectiveS_ev l hn) (Ev.bind (eqDirectiveS_self _ (by omega)) (Ev.pos rfl (Ev.now _)))

end Go.Proofs.Ytmppjfnojkgllac.Pure
