/- The pure part of FnExactParseDirectives: for every input within the statement's bounds the printed law answers true. Conditions: the statement's own bounds alone. -/
import Derived.Test.YtmppjfnojkgllacDoorPreFnExactParseDirectives
import Derived.Test.YtmppjfnojkgllacDoorRFnExactParseDirectivesx1
import Derived.Test.YtmppjfnojkgllacDoorRFnExactParseDirectivesx2
import Derived.Test.YtmppjfnojkgllacDoorRFnExactParseDirectivesx3
import Derived.Test.YtmppjfnojkgllacDoorRFnExactParseDirectivesx4
import Derived.Test.YtmppjfnojkgllacDoorRFnExactParseDirectivesx5
import Derived.Test.YtmppjfnojkgllacDoorRFnExactParseDirectivesx6
import Derived.Test.YtmppjfnojkgllacDoorRFnExactParseDirectivesx7
import Derived.Test.YtmppjfnojkgllacDoorRFnExactParseDirectivesx8
import Derived.Test.YtmppjfnojkgllacDoorRFnExactParseDirectivesx9
import Derived.OpenShut
namespace Go.Proofs.YtmppjfnojkgllacDoor.Pure
open Go.RowKit Go.Proofs.YtmppjfnojkgllacDoor.RFnExactParseDirectives Go.Proofs.YtmppjfnojkgllacDoorW.PrintWords Go.Proofs.YtmppjfnojkgllacDoorW.PrintLast
set_option linter.unusedSimpArgs false
set_option linter.unusedVariables false

/-! ### Texts as lists of numbers -/
def InB (l : List Int) : Prop := ∀ x ∈ l, 0 ≤ x ∧ x ≤ 255
theorem InB_nil : InB [] := fun x hx => by simp at hx
theorem InB_cons {b : Int} {l : List Int} : InB (b :: l) ↔ (0 ≤ b ∧ b ≤ 255) ∧ InB l := by simp [InB]
theorem InB_append {l m : List Int} : InB (l ++ m) ↔ InB l ∧ InB m := by
  simp only [InB, List.mem_append]
  exact ⟨fun h => ⟨fun x hx => h x (.inl hx), fun x hx => h x (.inr hx)⟩, fun h x hx => hx.elim (h.1 x) (h.2 x)⟩
theorem InB_take {l : List Int} (n : Nat) (h : InB l) : InB (l.take n) := fun x hx => h x (List.mem_of_mem_take hx)
theorem InB_drop {l : List Int} (n : Nat) (h : InB l) : InB (l.drop n) := fun x hx => h x (List.mem_of_mem_drop hx)
theorem InB_bytes (s : ByteArray) : InB (bytesOf s) := by
  intro x hx
  unfold bytesOf at hx
  obtain ⟨b, _, rfl⟩ := List.mem_map.1 hx
  have := b.toNat_lt
  omega
theorem strOf_bytesOf (s : ByteArray) : strOfNums (bytesOf s) = s := by
  obtain ⟨⟨l⟩⟩ := s
  unfold strOfNums bytesOf
  simp only [List.map_map]
  congr 2
  exact (List.map_congr_left (fun b _ => by simp)).trans (List.map_id l)
theorem bytesOf_strOf {l : List Int} (h : InB l) : bytesOf (strOfNums l) = l := by
  unfold strOfNums bytesOf
  simp only [List.map_map]
  refine (List.map_congr_left (fun x hx => ?_)).trans (List.map_id l)
  have := h x hx
  simp only [Function.comp_apply, id, UInt8.toNat_ofNat']
  omega
theorem bytesOf_inj {s t : ByteArray} (h : bytesOf s = bytesOf t) : s = t := by rw [← strOf_bytesOf s, h, strOf_bytesOf]
theorem bytesOf_append (s t : ByteArray) : bytesOf (s ++ t) = bytesOf s ++ bytesOf t := by
  unfold bytesOf
  rw [ByteArray.data_append, Array.toList_append, List.map_append]
theorem bytesOf_extract (s : ByteArray) (a b : Nat) : bytesOf (s.extract a b) = ((bytesOf s).take b).drop a := by
  unfold bytesOf
  rw [ByteArray.data_extract, Array.toList_extract, List.extract_eq_take_drop, List.map_take, List.map_drop, List.take_drop]
  rcases Nat.le_total a b with h | h
  · rw [Nat.add_sub_cancel' h]
  · rw [Nat.sub_eq_zero_of_le h, List.drop_eq_nil_of_le (by simp; omega), List.drop_eq_nil_of_le (by simp; omega)]
theorem toList_iff {s t : ByteArray} : s.toList = t.toList ↔ s = t := by
  rw [ByteArray.toList_eq, ByteArray.toList_eq]
  constructor
  · intro h
    obtain ⟨⟨l⟩⟩ := s
    obtain ⟨⟨m⟩⟩ := t
    simp only at h
    rw [h]
  · rintro rfl; rfl
theorem size_bytes (s : ByteArray) : (s.size : Int) = ((bytesOf s).length : Int) := by rw [bytesOf_length]
theorem getD_mid {α : Type} {l pre rest : List α} {b d : α} (h : l = pre ++ b :: rest) : l.getD ((pre.length : Int)).toNat d = b := by subst h; simp
theorem len_mid {α : Type} {l pre rest : List α} (h : l = pre ++ rest) : l.length = pre.length + rest.length := by rw [h, List.length_append]
theorem rd_mid {l pre rest : List Int} {b : Int} (h : l = pre ++ b :: rest) : rd l (pre.length : Int) = b := by
  subst h
  unfold rd
  simp
theorem bt_mid {s : ByteArray} {pre rest : List Int} {b : Int} (h : bytesOf s = pre ++ b :: rest) : bt s (pre.length : Int) = b := by
  rw [← rd_bytesOf]; exact rd_mid h
theorem size_mid {s : ByteArray} {pre rest : List Int} (h : bytesOf s = pre ++ rest) : (s.size : Int) = (pre.length : Int) + (rest.length : Int) := by
  rw [size_bytes, h]; simp
theorem mid_step {l pre rest : List Int} {b : Int} (h : l = pre ++ b :: rest) : l = (pre ++ [b]) ++ rest := by simp [h]
theorem wrap_id {n : Int} (h0 : -9223372036854775808 ≤ n) (h1 : n ≤ 9223372036854775807) : wrap64 n = n := by unfold wrap64; omega
theorem len_step {α : Type} (pre : List α) (b : α) (h : pre.length ≤ 9223372036854775000) : wrap64 ((pre.length : Int) + 1) = ((pre ++ [b]).length : Int) := by
  rw [wrap_id (by omega) (by omega)]; simp
/-! ### Loops over lists -/
theorem map_loop {α β : Type} (da : α) (conv : α → β) (x0 : List α) (hn : x0.length ≤ 4611686018427387904) (g : Nat → List β → Int → Option (List β))
    (hg : ∀ k x3 i, g (k + 1) x3 i = if i < (x0.length : Int) then (if 0 ≤ i then (if i < (x3.length : Int) then g k (x3.set (i : Int).toNat (conv (x0.getD i.toNat da))) (wrap64 (i + 1)) else none) else none) else some x3) (z : β) :
    Ev (fun k => g k (List.replicate x0.length z) 0) (x0.map conv) := by
  have key : ∀ rest pre, x0 = pre ++ rest → Ev (fun k => g k (pre.map conv ++ List.replicate rest.length z) (pre.length : Int)) (x0.map conv) := by
    intro rest
    induction rest with
    | nil =>
      intro pre h
      refine Ev.step (f := fun _ => some (x0.map conv)) (fun k => ?_) (Ev.now _)
      rw [hg, if_neg (by rw [h]; simp)]
      simp [h]
    | cons b rest ih =>
      intro pre h
      have hl : x0.length = pre.length + (rest.length + 1) := by rw [h]; simp
      refine Ev.step (f := fun k => g k ((pre ++ [b]).map conv ++ List.replicate rest.length z) ((pre ++ [b]).length : Int)) (fun k => ?_) (ih (pre ++ [b]) (by simp [h]))
      rw [hg, if_pos (by omega), if_pos (by omega), if_pos (by simp; omega), wrap_id (by omega) (by omega)]
      have e1 : x0.getD ((pre.length : Int)).toNat da = b := by rw [h]; simp
      rw [e1]
      congr 1
      · simp [List.replicate_succ, List.set_append]
      · simp
  exact key x0 [] rfl
theorem same_loop {α : Type} (a : List α) (hn : a.length ≤ 4611686018427387904) (g : Nat → Int → Option Bool)
    (hg : ∀ k i, 0 ≤ i → i < (a.length : Int) → g (k + 1) i = g k (wrap64 (i + 1))) (he : ∀ k, g (k + 1) (a.length : Int) = some true) : Ev (fun k => g k 0) true := by
  have key : ∀ d i : Nat, i + d = a.length → Ev (fun k => g k (i : Int)) true := by
    intro d
    induction d with
    | zero => intro i h; obtain rfl : i = a.length := by omega
              exact Ev.step he (Ev.now _)
    | succ d ih =>
      intro i h
      refine Ev.step (f := fun k => g k ((i + 1 : Nat) : Int)) (fun k => ?_) (ih (i + 1) (by omega))
      rw [hg k i (by omega) (by omega), wrap_id (by omega) (by omega)]; rfl
  exact key a.length 0 (by omega)
theorem Ev.mp {α : Type} {g f : Nat → Option α} {r : α} (h : Ev f r) (e : ∀ k, g k = f k) : Ev g r := Ev.congr e h
theorem Ev.step2 {α : Type} {g f : Nat → Option α} {r : α} (h : ∃ K, ∀ k, K ≤ k → g (k + 1) = f k) (e : Ev f r) : Ev g r := by
  obtain ⟨K, hK⟩ := h
  obtain ⟨K', hK'⟩ := e
  refine ⟨max K K' + 1, fun k hk => ?_⟩
  obtain ⟨k, rfl⟩ : ∃ m, k = m + 1 := ⟨k - 1, by omega⟩
  rw [hK k (by omega), hK' k (by omega)]
/-- Every element turned into the next of a row of marks. -/
def markL {α : Type} (mk : Int → α) (c : Nat) : Int → List α → List α
  | _, [] => []
  | k, _ :: r => mk k :: markL mk c (k + c) r
theorem markL_length {α : Type} (mk : Int → α) (c : Nat) (l : List α) : ∀ k, (markL mk c k l).length = l.length := by
  induction l with
  | nil => intro k; rfl
  | cons x r ih => intro k; simp [markL, ih]
theorem mark_loop {α : Type} (mk : Int → α) (c : Nat) (g : Nat → List α → Int → Int → Option (Int × List α)) (B : Int) (hB : B ≤ 4611686018427387904)
    (hg : ∀ (l : List α) (k0 i : Int), 0 ≤ i → i < (l.length : Int) → 0 ≤ k0 → k0 + c ≤ B → ∃ K, ∀ k, K ≤ k → g (k + 1) l k0 i = g k (l.set i.toNat (mk k0)) (k0 + c) (wrap64 (i + 1)))
    (he : ∀ k (l : List α) (k0 : Int), g (k + 1) l k0 (l.length : Int) = some (k0, l)) (l : List α) (hl : l.length ≤ 4611686018427387904) (k0 : Int) (h0 : 0 ≤ k0) (h1 : k0 + c * l.length ≤ B) :
    Ev (fun k => g k l k0 0) (k0 + c * l.length, markL mk c k0 l) := by
  have key : ∀ (rest pre : List α) (k0 : Int), 0 ≤ k0 → k0 + c * rest.length ≤ B → pre.length + rest.length ≤ 4611686018427387904 → Ev (fun k => g k (pre ++ rest) k0 (pre.length : Int)) (k0 + c * rest.length, pre ++ markL mk c k0 rest) := by
    intro rest
    induction rest with
    | nil =>
      intro pre k0 _ _ _
      refine Ev.step (f := fun _ => some (k0, pre)) (fun k => ?_) (by simpa [markL] using Ev.now _)
      have := he k pre k0
      simpa using this
    | cons x rest ih =>
      intro pre k0 h0 h1 h2
      simp only [List.length_cons] at h1 h2
      have hc : (c : Int) * ((rest.length + 1 : Nat) : Int) = c * rest.length + c := by rw [Int.natCast_add, Int.mul_add]; simp
      rw [hc] at h1
      have hcn : 0 ≤ (c : Int) * (rest.length : Int) := Int.mul_nonneg (by omega) (by omega)
      obtain ⟨K, hK⟩ := hg (pre ++ x :: rest) k0 (pre.length : Int) (by omega) (by simp; omega) h0 (by omega)
      have e := ih (pre ++ [mk k0]) (k0 + c) (by omega) (by omega) (by simp; omega)
      have e2 : (k0 + (c : Int)) + c * rest.length = k0 + c * ((x :: rest).length : Int) := by simp only [List.length_cons]; rw [hc]; omega
      rw [e2] at e
      refine Ev.step2 (f := fun k => g k (pre ++ [mk k0] ++ rest) (k0 + c) ((pre ++ [mk k0]).length : Int)) ⟨K, fun k hk => ?_⟩ (by simpa [markL] using e)
      rw [hK k hk, wrap_id (by omega) (by omega)]
      simp [List.set_append]
  have := key l [] k0 h0 h1 (by simpa using hl)
  simpa using this
theorem held_loop {α : Type} (mk : Int → α) (c : Nat) (l0 l : List α) (k0 : Int) (hl : l = markL mk c k0 l0) (g : Nat → Int → Int → Option Int) (B : Int) (hB : B ≤ 4611686018427387904)
    (hg : ∀ (k1 i : Int), 0 ≤ i → i < (l.length : Int) → 0 ≤ k1 → k1 + c ≤ B → l[i.toNat]? = some (mk k1) → ∃ K, ∀ k, K ≤ k → g (k + 1) k1 i = g k (k1 + c) (wrap64 (i + 1)))
    (he : ∀ k (k1 : Int), g (k + 1) k1 (l.length : Int) = some k1) (hn : l0.length ≤ 4611686018427387904) (h0 : 0 ≤ k0) (h1 : k0 + c * l0.length ≤ B) :
    Ev (fun k => g k k0 0) (k0 + c * l0.length) := by
  have hlen : l.length = l0.length := by rw [hl, markL_length]
  have key : ∀ (rest : List α) (pre : List α) (k1 : Int), l = pre ++ markL mk c k1 rest → 0 ≤ k1 → k1 + c * rest.length ≤ B → Ev (fun k => g k k1 (pre.length : Int)) (k1 + c * rest.length) := by
    intro rest
    induction rest with
    | nil =>
      intro pre k1 h _ _
      refine Ev.step (f := fun _ => some k1) (fun k => ?_) (by simpa using Ev.now _)
      have := he k k1
      rw [h] at this
      simpa [markL] using this
    | cons x rest ih =>
      intro pre k1 h h0 h1
      simp only [List.length_cons] at h1
      have hc : (c : Int) * ((rest.length + 1 : Nat) : Int) = c * rest.length + c := by rw [Int.natCast_add, Int.mul_add]; simp
      rw [hc] at h1
      have hcn : 0 ≤ (c : Int) * (rest.length : Int) := Int.mul_nonneg (by omega) (by omega)
      have hl2 : l.length = pre.length + (rest.length + 1) := by rw [h]; simp [markL_length]
      obtain ⟨K, hK⟩ := hg k1 (pre.length : Int) (by omega) (by omega) h0 (by omega) (by rw [h]; simp [markL])
      have e := ih (pre ++ [mk k1]) (k1 + c) (by rw [h]; simp [markL]) (by omega) (by omega)
      have e2 : (k1 + (c : Int)) + c * rest.length = k1 + c * ((x :: rest).length : Int) := by simp only [List.length_cons]; rw [hc]; omega
      rw [e2] at e
      refine Ev.step2 (f := fun k => g k (k1 + c) ((pre ++ [mk k1]).length : Int)) ⟨K, fun k hk => ?_⟩ e
      rw [hK k hk, wrap_id (by omega) (by omega)]
      simp
  exact key l0 [] k0 (by simpa using hl) h0 h1
theorem Ev.pos {α : Type} {c : Prop} [Decidable c] {f g : Nat → Option α} {r : α} (h : c) (e : Ev f r) : Ev (fun k => if c then f k else g k) r := by simp only [if_pos h]; exact e
theorem Ev.neg {α : Type} {c : Prop} [Decidable c] {f g : Nat → Option α} {r : α} (h : ¬ c) (e : Ev g r) : Ev (fun k => if c then f k else g k) r := by simp only [if_neg h]; exact e
theorem Ev.get {α β : Type} {f : Nat → α → Option β} {a : α} {r : β} (e : Ev (fun n => f n a) r) : Ev (fun n => (some a).bind (f n)) r := e

theorem eqDirective_self (x : S32) : laws_eqDirective.f x.f0 x.f1 x.f2 x.f0 x.f1 x.f2 = some true := by simp [laws_eqDirective.f]
theorem eqDirectiveS_self (l : List S32) (hn : l.length ≤ 4611686018427387904) : Ev (fun k => laws_eqDirectiveS.f k l l) true := by
  have e := same_loop l hn (fun k => laws_eqDirectiveS.l0 k l l) (fun k i h0 h1 => by
    simp only [laws_eqDirectiveS.l0]
    rw [if_pos h1, if_pos h0, if_pos h1, eqDirective_self, Option.bind_some, if_pos rfl]) (fun k => by
    simp only [laws_eqDirectiveS.l0]
    rw [if_neg (by omega)])
  refine Ev.mp e (fun k => ?_)
  unfold laws_eqDirectiveS.f
  rw [if_pos rfl]

theorem mt_loop (d : Nat) : ∀ (n : Int) (x : ByteArray), 0 ≤ n → n < 10 ^ d → n ≤ 9223372036854775807 → x.size + d ≤ 1000 → ∃ t, Ev (fun k => laws_markText.l0 k n x) t := by
  induction d with
  | zero =>
    intro n x h0 h1 hb hx
    refine ⟨_, Ev.step (f := fun _ => some ((⟨#[109]⟩ : ByteArray) ++ x)) (fun k => ?_) (Ev.now _)⟩
    simp only [laws_markText.l0]
    rw [if_neg (by simp at h1; omega), if_pos (by omega)]
  | succ d ih =>
    intro n x h0 h1 hb hx
    by_cases hz : n > 0
    · have hdiv : Int.tdiv n 10 = n / 10 := Int.tdiv_eq_ediv_of_nonneg h0
      have hlt : n / 10 < 10 ^ d := by
        rw [Int.pow_succ] at h1
        omega
      have hw : wrap64 (Int.tdiv n 10) = n / 10 := by rw [hdiv, wrap_id (by omega) (by omega)]
      obtain ⟨t, ht⟩ := ih (n / 10) (strOfNums [(wrap64 (48 + (Int.tmod n 10))) % 256] ++ x) (by omega) hlt (by omega) (by rw [ByteArray.size_append, strOfNums_size]; simp; omega)
      refine ⟨t, Ev.step (f := fun k => laws_markText.l0 k (n / 10) (strOfNums [(wrap64 (48 + (Int.tmod n 10))) % 256] ++ x)) (fun k => ?_) ht⟩
      simp only [laws_markText.l0]
      rw [if_pos hz, Option.bind_some, if_pos (by rw [strOfNums_size]; simp; omega), hw]
    · refine ⟨_, Ev.step (f := fun _ => some ((⟨#[109]⟩ : ByteArray) ++ x)) (fun k => ?_) (Ev.now _)⟩
      simp only [laws_markText.l0]
      rw [if_neg hz, if_pos (by omega)]
theorem mt_one (n : Int) (hb : n ≤ 9223372036854775807) : ∃ t, Ev (fun k => laws_markText.f k n) t := by
  by_cases h : n ≤ 0
  · exact ⟨_, Ev.mp (Ev.now (⟨#[109, 48]⟩ : ByteArray)) (fun k => by unfold laws_markText.f; rw [if_pos h])⟩
  · obtain ⟨t, ht⟩ := mt_loop 19 n ⟨#[]⟩ (by omega) (by omega) hb (by decide)
    exact ⟨t, Ev.mp ht (fun k => by unfold laws_markText.f; rw [if_neg h])⟩
theorem mt_all : ∃ mt : Int → ByteArray, ∀ n, n ≤ 9223372036854775807 → Ev (fun k => laws_markText.f k n) (mt n) := by
  refine ⟨fun n => if h : n ≤ 9223372036854775807 then Classical.choose (mt_one n h) else ByteArray.empty, fun n h => ?_⟩
  simp only [dif_pos h]
  exact Classical.choose_spec (mt_one n h)

def mk_Directive (mt : Int → ByteArray) (k : Int) : S32 := ⟨mt k, mt (k + 1), (Int.tmod (k + 2) 3 == 0)⟩
theorem rd_set_Directive (l : List S32) (i : Int) (h0 : 0 ≤ i) (h : i < (l.length : Int)) (v : S32) : rd_T32 (l.set i.toNat v) i = v := by
  unfold rd_T32
  have : i.toNat < (l.set i.toNat v).length := by simp; omega
  rw [List.getD_eq_getElem?_getD, List.getElem?_eq_getElem this]
  simp
theorem markDirectiveS_from (mt : Int → ByteArray) (hmt : ∀ n, n ≤ 9223372036854775807 → Ev (fun k => laws_markText.f k n) (mt n)) (l : List S32) (hl : l.length ≤ 1000000000) (q0 : Int) (hq0 : 0 ≤ q0) (hq1 : q0 ≤ 1000000000000) : Ev (fun k => laws_markDirectiveS.f k l q0) (q0 + (3 : Nat) * l.length, markL (mk_Directive mt ) 3 q0 l) := by
  refine mark_loop (mk_Directive mt ) 3 (fun k l k0 i => laws_markDirectiveS.l0 k l k0 i) 4611686018427387904 (by omega) (fun l k0 i h0 h1 hk0 hk1 => ?_) (fun k l k0 => ?_) l (by omega) q0 (by omega) (by omega)
  · have hk2 : k0 + 3 ≤ 4611686018427387904 := by simpa using hk1
    obtain ⟨K0, hK0⟩ := hmt k0 (by omega)
    obtain ⟨K1, hK1⟩ := hmt (k0 + 1) (by omega)
    have w0 : wrap64 (k0 + 1) = k0 + 1 := by rw [wrap_id (by omega) (by omega)]
    have w1 : wrap64 ((k0 + 1) + 1) = k0 + 2 := by rw [wrap_id (by omega) (by omega)]; omega
    have w2 : wrap64 ((k0 + 2) + 1) = k0 + 3 := by rw [wrap_id (by omega) (by omega)]; omega
    refine ⟨K0 + K1, fun k hk => ?_⟩
    simp only [laws_markDirectiveS.l0]
    rw [if_pos h1]
    simp only [hK0 k (by omega), hK1 k (by omega), w0, w1, w2, if_pos h0, Option.bind_some]
    have r := rd_set_Directive l i h0 h1
    simp only [r, List.set_set]
    rfl
  · simp only [laws_markDirectiveS.l0]
    rw [if_neg (by omega)]
theorem markDirectiveS_ev (mt : Int → ByteArray) (hmt : ∀ n, n ≤ 9223372036854775807 → Ev (fun k => laws_markText.f k n) (mt n)) (l : List S32) (hl : l.length ≤ 1000000000) : Ev (fun k => laws_markDirectiveS.f k l 1) (1 + (3 : Nat) * l.length, markL (mk_Directive mt ) 3 1 l) := markDirectiveS_from mt hmt l hl 1 (by omega) (by omega)
theorem markDirectiveS_any (mt : Int → ByteArray) (hmt : ∀ n, n ≤ 9223372036854775807 → Ev (fun k => laws_markText.f k n) (mt n)) (l : List S32) (hl : l.length ≤ 1000000000) (q0 : Int) (hq0 : 0 ≤ q0) (hq1 : q0 ≤ 1000000000000) : ∃ q1 Q1, Ev (fun k => laws_markDirectiveS.f k l q0) (q1, Q1) ∧ ¬ q1 < 0 := ⟨_, _, markDirectiveS_from mt hmt l hl q0 hq0 hq1, by have : 0 ≤ (3 : Int) * (l.length : Int) := Int.mul_nonneg (by omega) (by omega); simp; omega⟩

theorem heldDirectiveS_ev (mt : Int → ByteArray) (hmt : ∀ n, n ≤ 9223372036854775807 → Ev (fun k => laws_markText.f k n) (mt n)) (l0 : List S32) (hl : l0.length ≤ 1000000000) : Ev (fun k => laws_heldDirectiveS.f k (markL (mk_Directive mt ) 3 1 l0) 1) (1 + (3 : Nat) * l0.length) := by
  refine held_loop (mk_Directive mt ) 3 l0 _ 1 rfl (fun k k0 i => laws_heldDirectiveS.l0 k (markL (mk_Directive mt ) 3 1 l0) k0 i) 4611686018427387904 (by omega) (fun k0 i h0 h1 hk0 hk1 hx => ?_) (fun k k1 => ?_) (by omega) (by omega) (by omega)
  · have hk2 : k0 + 3 ≤ 4611686018427387904 := by simpa using hk1
    obtain ⟨K0, hK0⟩ := hmt k0 (by omega)
    obtain ⟨K1, hK1⟩ := hmt (k0 + 1) (by omega)
    have w0 : wrap64 (k0 + 1) = k0 + 1 := by rw [wrap_id (by omega) (by omega)]
    have w1 : wrap64 ((k0 + 1) + 1) = k0 + 2 := by rw [wrap_id (by omega) (by omega)]; omega
    have w2 : wrap64 ((k0 + 2) + 1) = k0 + 3 := by rw [wrap_id (by omega) (by omega)]; omega
    have hr : rd_T32 (markL (mk_Directive mt ) 3 1 l0) i = mk_Directive mt k0 := by unfold rd_T32; rw [List.getD_eq_getElem?_getD, hx]; rfl
    refine ⟨K0 + K1, fun k hk => ?_⟩
    simp only [laws_heldDirectiveS.l0]
    rw [if_pos h1, if_pos h0]
    simp only [hr, hK0 k (by omega), hK1 k (by omega), w0, w1, w2, Option.bind_some, mk_Directive, if_true, bne_self_eq_false, Bool.false_eq_true, if_false]
    rfl
  · simp only [laws_heldDirectiveS.l0]
    rw [if_neg (by omega)]

def cutI (sep : List Int) : List Int → List Int × List Int × Bool
  | [] => ([], [], false)
  | b :: r => if sep.isPrefixOf (b :: r) = true then ([], (b :: r).drop sep.length, true) else (b :: (cutI sep r).1, (cutI sep r).2)
def cutV (sep : List Int) (s : ByteArray) : ByteArray × ByteArray × Bool := (strOfNums (cutI sep (bytesOf s)).1, strOfNums (cutI sep (bytesOf s)).2.1, (cutI sep (bytesOf s)).2.2)
theorem prefix_map (u l : List UInt8) : (u.map fun b => (b.toNat : Int)).isPrefixOf (l.map fun b => (b.toNat : Int)) = u.isPrefixOf l := by
  induction u generalizing l with
  | nil => simp
  | cons a u ih =>
    cases l with
    | nil => rfl
    | cons b l =>
      simp only [List.map_cons, List.isPrefixOf, ih]
      congr 1
      by_cases h : a = b
      · subst h; simp
      · have : ¬ (a.toNat : Int) = (b.toNat : Int) := fun z => h (UInt8.toNat_inj.1 (by omega))
        rw [beq_eq_false_iff_ne.mpr h, beq_eq_false_iff_ne.mpr this]
theorem libcut_cons_hit {b : UInt8} {l sep : List UInt8} (h : sep.isPrefixOf (b :: l) = true) : Lib.cut (b :: l) sep = ([], (b :: l).drop sep.length, true) := by
  have e : Lib.index (b :: l) sep = 0 := by unfold Lib.index; rw [if_pos h]
  unfold Lib.cut
  rw [e]; simp
theorem libcut_cons_miss {b : UInt8} {l sep : List UInt8} (h : ¬ sep.isPrefixOf (b :: l) = true) : Lib.cut (b :: l) sep = (b :: (Lib.cut l sep).1, (Lib.cut l sep).2) := by
  have e : Lib.index (b :: l) sep = if (Lib.index l sep == -1) = true then -1 else Lib.index l sep + 1 := by rw [Lib.index, if_neg h]
  have hg := Lib.index_ge l sep
  unfold Lib.cut
  by_cases g : Lib.index l sep = -1
  · rw [e, g]; simp
  · have g2 : 0 ≤ Lib.index l sep := by omega
    have e0 : Lib.index (b :: l) sep = Lib.index l sep + 1 := by rw [e, if_neg (by simpa using g)]
    rw [e0, if_pos (by omega), if_pos g2]
    obtain ⟨n, hn⟩ : ∃ n : Nat, Lib.index l sep = n := ⟨(Lib.index l sep).toNat, by omega⟩
    rw [hn]
    have e1 : ((n : Int) + 1).toNat = n + 1 := by omega
    have e2 : (n : Int).toNat = n := by omega
    rw [e1, e2, List.take_succ_cons]
    have e3 : n + 1 + sep.length = (n + sep.length) + 1 := by omega
    rw [e3, List.drop_succ_cons]
theorem libcut_map (l sep : List UInt8) (hs : sep ≠ []) :
    ((Lib.cut l sep).1.map fun b => (b.toNat : Int)) = (cutI (sep.map fun b => (b.toNat : Int)) (l.map fun b => (b.toNat : Int))).1 ∧ ((Lib.cut l sep).2.1.map fun b => (b.toNat : Int)) = (cutI (sep.map fun b => (b.toNat : Int)) (l.map fun b => (b.toNat : Int))).2.1 ∧
    (Lib.cut l sep).2.2 = (cutI (sep.map fun b => (b.toNat : Int)) (l.map fun b => (b.toNat : Int))).2.2 := by
  induction l with
  | nil =>
    have e : Lib.cut [] sep = ([], [], false) := by
      unfold Lib.cut Lib.index
      cases sep with
      | nil => exact absurd rfl hs
      | cons a s => simp
    rw [e]; exact ⟨rfl, rfl, rfl⟩
  | cons b r ih =>
    have hp := prefix_map sep (b :: r)
    rw [List.map_cons] at hp ⊢
    by_cases h : sep.isPrefixOf (b :: r) = true
    · rw [libcut_cons_hit h]
      unfold cutI
      rw [if_pos (by rw [hp]; exact h)]
      refine ⟨rfl, ?_, rfl⟩
      simp only
      rw [List.map_drop, List.map_cons, List.length_map]
    · rw [libcut_cons_miss h]
      unfold cutI
      rw [if_neg (by rw [hp]; exact h)]
      refine ⟨?_, ih.2.1, ih.2.2⟩
      simp only [List.map_cons]
      rw [ih.1]
theorem cut_parts (sep l : List Int) : (cutI sep l).2.2 = true → l = (cutI sep l).1 ++ sep ++ (cutI sep l).2.1 := by
  induction l with
  | nil => intro h; simp [cutI] at h
  | cons b r ih =>
    unfold cutI
    split
    · rename_i h
      intro _
      simp only [List.nil_append]
      exact (List.prefix_iff_eq_append.1 (List.isPrefixOf_iff_prefix.1 h)).symm
    · intro h
      simp only at h ⊢
      have := ih h
      rw [List.cons_append, List.cons_append, ← this]
theorem cut_none (sep l : List Int) : (cutI sep l).2.2 = false → cutI sep l = (l, [], false) := by
  induction l with
  | nil => intro _; rfl
  | cons b r ih =>
    unfold cutI
    split
    · intro h; simp at h
    · intro h
      simp only at h
      rw [ih h]

def rdropI (p : Int → Bool) : List Int → List Int
  | [] => []
  | b :: r => if rdropI p r = [] ∧ p b = true then [] else b :: rdropI p r
def trimP (p : Int → Bool) (l : List Int) : List Int := (rdropI p l).dropWhile p
def blankI (b : Int) : Bool := b == 32 || b == 9
theorem rdropI_concat (p : Int → Bool) (l : List Int) (b : Int) : rdropI p (l ++ [b]) = if p b = true then rdropI p l else l ++ [b] := by
  induction l with
  | nil => by_cases h : p b = true <;> simp [rdropI, h]
  | cons x r ih =>
    by_cases h : p b = true
    · rw [if_pos h] at ih ⊢
      simp only [List.cons_append, rdropI, ih]
    · rw [if_neg h] at ih ⊢
      simp only [List.cons_append, rdropI, ih]
      rw [if_neg (by simp)]
theorem rdropI_eq (p : Int → Bool) (l : List Int) : (l.reverse.dropWhile p).reverse = rdropI p l := by
  obtain ⟨n, hn⟩ : ∃ n, l.length = n := ⟨_, rfl⟩
  induction n generalizing l with
  | zero => obtain rfl := List.eq_nil_of_length_eq_zero hn; rfl
  | succ n ih =>
    rcases List.eq_nil_or_concat l with h | ⟨r, b, h⟩
    · subst h; rfl
    · subst h
      rw [List.concat_eq_append, rdropI_concat, List.reverse_append]
      simp only [List.reverse_cons, List.reverse_nil, List.nil_append, List.singleton_append, List.dropWhile_cons]
      by_cases hb : p b = true
      · rw [if_pos hb, if_pos hb]
        exact ih r (by simp at hn; omega)
      · rw [if_neg hb, if_neg hb]; simp
theorem rdropI_length (p : Int → Bool) (l : List Int) : (rdropI p l).length ≤ l.length := by
  induction l with
  | nil => simp [rdropI]
  | cons b r ih => unfold rdropI; split <;> simp only [List.length_nil, List.length_cons] <;> omega
theorem rdropI_all (p : Int → Bool) (l : List Int) : rdropI p l = [] ↔ ∀ x ∈ l, p x = true := by
  induction l with
  | nil => simp [rdropI]
  | cons b r ih =>
    unfold rdropI
    split
    · rename_i h
      simp only [List.mem_cons, forall_eq_or_imp, true_iff]
      exact ⟨h.2, ih.1 h.1⟩
    · rename_i h
      simp only [List.mem_cons, forall_eq_or_imp, reduceCtorEq, false_iff]
      exact fun g => h ⟨ih.2 g.2, g.1⟩
/-- It is all one which end goes first. -/
theorem drop_rdrop (p : Int → Bool) (l : List Int) : (rdropI p l).dropWhile p = rdropI p (l.dropWhile p) := by
  induction l with
  | nil => rfl
  | cons b r ih =>
    by_cases h : p b = true
    · rw [List.dropWhile_cons_of_pos h]
      by_cases g : rdropI p r = []
      · have e : rdropI p (b :: r) = [] := by unfold rdropI; rw [if_pos ⟨g, h⟩]
        rw [e, ← ih, g]
      · have e : rdropI p (b :: r) = b :: rdropI p r := by rw [rdropI, if_neg (fun z => g z.1)]
        rw [e, List.dropWhile_cons_of_pos h, ih]
    · have e : rdropI p (b :: r) = b :: rdropI p r := by rw [rdropI, if_neg (fun z => h z.2)]
      rw [e, List.dropWhile_cons_of_neg h, List.dropWhile_cons_of_neg h, e]
theorem trimP_length (p : Int → Bool) (l : List Int) : (trimP p l).length ≤ l.length :=
  Nat.le_trans (List.dropWhile_sublist p).length_le (rdropI_length p l)
theorem dropWhile_mem {p : Int → Bool} {l : List Int} {x : Int} (h : x ∈ l.dropWhile p) : x ∈ l := (List.dropWhile_sublist p).subset h
theorem rdropI_mem {p : Int → Bool} {l : List Int} {x : Int} (h : x ∈ rdropI p l) : x ∈ l := by
  rw [← rdropI_eq] at h
  have := dropWhile_mem (List.mem_reverse.1 h)
  exact List.mem_reverse.1 this
theorem trimP_mem {p : Int → Bool} {l : List Int} {x : Int} (h : x ∈ trimP p l) : x ∈ l := rdropI_mem (dropWhile_mem h)
theorem InB_trim {p : Int → Bool} {l : List Int} (h : InB l) : InB (trimP p l) := fun x hx => h x (trimP_mem hx)
theorem rdropI_nil_cons {p : Int → Bool} {l : List Int} : rdropI p (rdropI p l) = rdropI p l := by
  induction l with
  | nil => rfl
  | cons b r ih =>
    by_cases g : rdropI p r = [] ∧ p b = true
    · have e : rdropI p (b :: r) = [] := by rw [rdropI, if_pos g]
      rw [e]; rfl
    · have e : rdropI p (b :: r) = b :: rdropI p r := by rw [rdropI, if_neg g]
      rw [e, rdropI, ih, if_neg g]
theorem dropWhile_idem (p : Int → Bool) (l : List Int) : (l.dropWhile p).dropWhile p = l.dropWhile p := by
  induction l with
  | nil => rfl
  | cons b r ih =>
    by_cases h : p b = true
    · rw [List.dropWhile_cons_of_pos h, ih]
    · rw [List.dropWhile_cons_of_neg h, List.dropWhile_cons_of_neg h]
theorem trimP_idem (p : Int → Bool) (l : List Int) : trimP p (trimP p l) = trimP p l := by
  unfold trimP
  rw [drop_rdrop p (List.dropWhile p (rdropI p l)), dropWhile_idem, ← drop_rdrop, rdropI_nil_cons]
def trimV (s : ByteArray) : ByteArray := strOfNums (trimP blankI (bytesOf s))
theorem bytesOf_trimV (s : ByteArray) : bytesOf (trimV s) = trimP blankI (bytesOf s) := bytesOf_strOf (InB_trim (InB_bytes s))
theorem trimV_size (s : ByteArray) : (trimV s).size ≤ s.size := by
  rw [← bytesOf_length, ← bytesOf_length, bytesOf_trimV]; exact trimP_length _ _

def pairV (s : ByteArray) : ByteArray × ByteArray × Bool := (trimV (cutV [61] s).1, trimV (cutV [61] s).2.1, (cutV [61] s).2.2)

def lowerV (s : ByteArray) : ByteArray := strOfNums ((bytesOf s).map lowB)

def tokB (x : Int) : Bool := decide (97 ≤ x ∧ x ≤ 122) || decide (65 ≤ x ∧ x ≤ 90) || decide (48 ≤ x ∧ x ≤ 57) || ([33, 35, 36, 37, 38, 39, 42, 43, 45, 46, 94, 95, 124, 126, 96] : List Int).contains x
def tokL (l : List Int) : Bool := l.all tokB && decide (1 ≤ (l.length : Int) ∧ (l.length : Int) ≤ 40)
def tokV (s : ByteArray) : Bool := (bytesOf s).all tokB && decide (1 ≤ (s.size : Int) ∧ (s.size : Int) ≤ 40)
theorem tokV_L (s : ByteArray) : tokV s = tokL (bytesOf s) := by unfold tokV tokL; rw [size_bytes]
theorem fin256 {p : Int → Prop} (h : ∀ n : Fin 256, p (n.val : Int)) {b : Int} (h0 : 0 ≤ b) (h1 : b ≤ 255) : p b := by
  have := h ⟨b.toNat, by omega⟩
  rwa [show ((b.toNat : Nat) : Int) = b by omega] at this

/-- What stands behind the first sign of a quoted text: the bytes, and how many signs are left from the closing quote on; none if it does not close. -/
def unqL (l : List Int) : List Int × Option Nat :=
  match l with
  | [] => ([], none)
  | b :: r =>
    if b = 34 then ([], some (r.length + 1))
    else if b = 92 then
      match r with
      | [] => ([b], none)
      | c :: r' => (c :: (unqL r').1, (unqL r').2)
    else (b :: (unqL r).1, (unqL r).2)
termination_by l.length
decreasing_by all_goals simp only [List.length_cons]; omega
theorem unqL_nil : unqL [] = ([], none) := by unfold unqL; rfl
theorem unqL_quote (r : List Int) : unqL (34 :: r) = ([], some (r.length + 1)) := by rw [unqL.eq_def]; simp
theorem unqL_esc (c : Int) (r : List Int) : unqL (92 :: c :: r) = (c :: (unqL r).1, (unqL r).2) := by rw [unqL.eq_def]; simp
theorem unqL_last : unqL [92] = ([92], none) := by rw [unqL.eq_def]; simp
theorem unqL_other (r : List Int) (b : Int) (h1 : b ≠ 34) (h2 : b ≠ 92) : unqL (b :: r) = (b :: (unqL r).1, (unqL r).2) := by rw [unqL.eq_def]; simp only [if_neg h1, if_neg h2]
def unqV (s : ByteArray) : ByteArray × Bool :=
  (strOfNums (unqL (bytesOf s).tail).1, decide ((bytesOf s).head? = some 34 ∧ (unqL (bytesOf s).tail).2 = some 1))
def unqR (f : Int) (acc rest : List Int) : ByteArray × Bool := (strOfNums (acc ++ (unqL rest).1), decide (f = 34 ∧ (unqL rest).2 = some 1))
theorem unqR_nil (f : Int) (acc : List Int) : unqR f acc [] = (strOfNums acc, false) := by simp [unqR, unqL_nil]
theorem unqR_quote (f : Int) (acc r : List Int) : unqR f acc (34 :: r) = (strOfNums acc, decide (f = 34 ∧ r.length = 0)) := by simp [unqR, unqL_quote]
theorem unqR_esc (f : Int) (acc : List Int) (c : Int) (r : List Int) : unqR f acc (92 :: c :: r) = unqR f (acc ++ [c]) r := by simp [unqR, unqL_esc]
theorem unqR_last (f : Int) (acc : List Int) : unqR f acc [92] = (strOfNums (acc ++ [92]), false) := by simp [unqR, unqL_last]
theorem unqR_other (f : Int) (acc r : List Int) (b : Int) (h1 : b ≠ 34) (h2 : b ≠ 92) : unqR f acc (b :: r) = unqR f (acc ++ [b]) r := by simp [unqR, unqL_other r b h1 h2]

/-! ### A text divided at commas outside quoted strings -/
def cutL (q : Bool) (cur l : List Int) : List (List Int) :=
  match l with
  | [] => [cur]
  | b :: r =>
    if q = true ∧ b = 92 then (match r with
      | [] => [cur ++ [b]]
      | c :: r' => cutL q (cur ++ [b, c]) r')
    else if b = 34 then cutL (!q) (cur ++ [b]) r
    else if q = false ∧ b = 44 then cur :: cutL false [] r
    else cutL q (cur ++ [b]) r
termination_by l.length
decreasing_by all_goals simp only [List.length_cons]; omega
theorem cutL_nil (q : Bool) (cur : List Int) : cutL q cur [] = [cur] := by unfold cutL; rfl
theorem cutL_last (cur : List Int) : cutL true cur [92] = [cur ++ [92]] := by unfold cutL; simp
theorem cutL_esc (cur : List Int) (c : Int) (r : List Int) : cutL true cur (92 :: c :: r) = cutL true (cur ++ [92, c]) r := by rw [cutL.eq_def]; simp
theorem cutL_quote (q : Bool) (cur r : List Int) : cutL q cur (34 :: r) = cutL (!q) (cur ++ [34]) r := by rw [cutL.eq_def]; simp
theorem cutL_comma (cur r : List Int) : cutL false cur (44 :: r) = cur :: cutL false [] r := by rw [cutL.eq_def]; simp
theorem cutL_other (q : Bool) (cur r : List Int) (b : Int) (h1 : ¬ (q = true ∧ b = 92)) (h2 : b ≠ 34) (h3 : ¬ (q = false ∧ b = 44)) : cutL q cur (b :: r) = cutL q (cur ++ [b]) r := by
  rw [cutL.eq_def]
  simp only
  rw [if_neg h1, if_neg h2, if_neg h3]
/-- One way through a text at a time: what the five cases of cutL are good for. -/
theorem cut_cases {p : Bool → List Int → Prop} (hnil : ∀ q, p q []) (hlast : p true [92]) (hesc : ∀ c r, p true r → p true (92 :: c :: r)) (hquote : ∀ q r, p (!q) r → p q (34 :: r)) (hcomma : ∀ r, p false r → p false (44 :: r))
    (hother : ∀ q b r, ¬ (q = true ∧ b = 92) → b ≠ 34 → ¬ (q = false ∧ b = 44) → p q r → p q (b :: r)) : ∀ (n : Nat) (q : Bool) (l : List Int), l.length ≤ n → p q l := by
  intro n
  induction n with
  | zero => intro q l h; obtain rfl : l = [] := List.eq_nil_of_length_eq_zero (by omega); exact hnil q
  | succ n ih =>
    intro q l h
    match l, h with
    | [], _ => exact hnil q
    | b :: r, h =>
      simp only [List.length_cons] at h
      by_cases h1 : q = true ∧ b = 92
      · obtain ⟨rfl, rfl⟩ := h1
        match r, h with
        | [], _ => exact hlast
        | c :: r', h => exact hesc c r' (ih true r' (by simp only [List.length_cons] at h; omega))
      · by_cases h2 : b = 34
        · subst h2; exact hquote q r (ih _ r (by omega))
        · by_cases h3 : q = false ∧ b = 44
          · obtain ⟨rfl, rfl⟩ := h3; exact hcomma r (ih _ r (by omega))
          · exact hother q b r h1 h2 h3 (ih q r (by omega))
theorem cut_ind {p : Bool → List Int → Prop} (hnil : ∀ q, p q []) (hlast : p true [92]) (hesc : ∀ c r, p true r → p true (92 :: c :: r)) (hquote : ∀ q r, p (!q) r → p q (34 :: r)) (hcomma : ∀ r, p false r → p false (44 :: r))
    (hother : ∀ q b r, ¬ (q = true ∧ b = 92) → b ≠ 34 → ¬ (q = false ∧ b = 44) → p q r → p q (b :: r)) (q : Bool) (l : List Int) : p q l := cut_cases hnil hlast hesc hquote hcomma hother l.length q l (Nat.le_refl _)
def splitL (l : List Int) : List (List Int) := ((cutL false [] l).map (trimP blankI)).filter (fun x => decide (x ≠ []))
def splitV (s : ByteArray) : List ByteArray := (splitL (bytesOf s)).map strOfNums
theorem cutL_mem (q : Bool) (l : List Int) : ∀ (cur : List Int) (S : Int → Prop), (∀ x ∈ cur, S x) → (∀ x ∈ l, S x) → ∀ m ∈ cutL q cur l, ∀ x ∈ m, S x := by
  refine cut_ind (p := fun q l => ∀ (cur : List Int) (S : Int → Prop), (∀ x ∈ cur, S x) → (∀ x ∈ l, S x) → ∀ m ∈ cutL q cur l, ∀ x ∈ m, S x) ?_ ?_ ?_ ?_ ?_ ?_ q l
  · intro q cur S h0 h1 m hm; rw [cutL_nil] at hm; simp at hm; subst hm; exact h0
  · intro cur S h0 h1 m hm; rw [cutL_last] at hm; simp at hm; subst hm
    intro x hx; rcases List.mem_append.1 hx with g | g
    · exact h0 x g
    · exact h1 x g
  · intro c r ih cur S h0 h1 m hm
    rw [cutL_esc] at hm
    exact ih _ S (by intro x hx; rcases List.mem_append.1 hx with g | g
                     · exact h0 x g
                     · refine h1 x ?_; simp at g ⊢; rcases g with g | g <;> simp [g]) (fun x hx => h1 x (by simp [hx])) m hm
  · intro q r ih cur S h0 h1 m hm
    rw [cutL_quote] at hm
    exact ih _ S (by intro x hx; rcases List.mem_append.1 hx with g | g
                     · exact h0 x g
                     · exact h1 x (by simp at g; simp [g])) (fun x hx => h1 x (by simp [hx])) m hm
  · intro r ih cur S h0 h1 m hm
    rw [cutL_comma] at hm
    rcases List.mem_cons.1 hm with g | g
    · subst g; exact h0
    · exact ih [] S (by simp) (fun x hx => h1 x (by simp [hx])) m g
  · intro q b r g1 g2 g3 ih cur S h0 h1 m hm
    rw [cutL_other q cur r b g1 g2 g3] at hm
    exact ih _ S (by intro x hx; rcases List.mem_append.1 hx with g | g
                     · exact h0 x g
                     · exact h1 x (by simp at g; simp [g])) (fun x hx => h1 x (by simp [hx])) m hm
theorem cutL_total (q : Bool) (l : List Int) : ∀ cur : List Int, (cutL q cur l).length + ((cutL q cur l).map List.length).sum ≤ cur.length + l.length + 1 := by
  refine cut_ind (p := fun q l => ∀ cur : List Int, (cutL q cur l).length + ((cutL q cur l).map List.length).sum ≤ cur.length + l.length + 1) ?_ ?_ ?_ ?_ ?_ ?_ q l
  · intro q cur; rw [cutL_nil]; simp; omega
  · intro cur; rw [cutL_last]; simp; omega
  · intro c r ih cur; rw [cutL_esc]; have := ih (cur ++ [92, c]); simp only [List.length_append, List.length_cons, List.length_nil] at this ⊢; omega
  · intro q r ih cur; rw [cutL_quote]; have := ih (cur ++ [34]); simp only [List.length_append, List.length_cons, List.length_nil] at this ⊢; omega
  · intro r ih cur; rw [cutL_comma]; have := ih []; simp only [List.length_cons, List.length_nil, List.map_cons, List.sum_cons] at this ⊢; omega
  · intro q b r g1 g2 g3 ih cur; rw [cutL_other q cur r b g1 g2 g3]; have := ih (cur ++ [b]); simp only [List.length_append, List.length_cons, List.length_nil] at this ⊢; omega
theorem cutL_prepend (q : Bool) (l : List Int) : ∀ c1 c2 : List Int, ∃ h t, cutL q c2 l = h :: t ∧ cutL q (c1 ++ c2) l = (c1 ++ h) :: t := by
  refine cut_ind (p := fun q l => ∀ c1 c2 : List Int, ∃ h t, cutL q c2 l = h :: t ∧ cutL q (c1 ++ c2) l = (c1 ++ h) :: t) ?_ ?_ ?_ ?_ ?_ ?_ q l
  · intro q c1 c2; exact ⟨c2, [], by rw [cutL_nil], by rw [cutL_nil]⟩
  · intro c1 c2; exact ⟨c2 ++ [92], [], by rw [cutL_last], by rw [cutL_last]; simp⟩
  · intro c r ih c1 c2; rw [cutL_esc, cutL_esc, List.append_assoc]; exact ih c1 _
  · intro q r ih c1 c2; rw [cutL_quote, cutL_quote, List.append_assoc]; exact ih c1 _
  · intro r ih c1 c2; rw [cutL_comma, cutL_comma]; exact ⟨c2, _, rfl, rfl⟩
  · intro q b r g1 g2 g3 ih c1 c2; rw [cutL_other q _ r b g1 g2 g3, cutL_other q _ r b g1 g2 g3, List.append_assoc]; exact ih c1 _
theorem splitL_mem {l m : List Int} (h : m ∈ splitL l) : m ≠ [] ∧ trimP blankI m = m ∧ ∃ x, x ∈ cutL false [] l ∧ m = trimP blankI x := by
  unfold splitL at h
  obtain ⟨h1, h2⟩ := List.mem_filter.1 h
  obtain ⟨x, hx, rfl⟩ := List.mem_map.1 h1
  exact ⟨of_decide_eq_true h2, trimP_idem _ _, x, hx, rfl⟩
theorem InB_split {l : List Int} (hl : InB l) : ∀ m ∈ splitL l, InB m := by
  intro m hm
  obtain ⟨_, _, x, hx, rfl⟩ := splitL_mem hm
  exact InB_trim (cutL_mem false l [] (fun x => 0 ≤ x ∧ x ≤ 255) (by simp) hl x hx)
theorem splitL_total (l : List Int) : (splitL l).length + ((splitL l).map List.length).sum ≤ l.length + 1 := by
  have h := cutL_total false l []
  unfold splitL
  have aux : ∀ L : List (List Int), ((L.map (trimP blankI)).filter (fun x => decide (x ≠ []))).length + (((L.map (trimP blankI)).filter (fun x => decide (x ≠ []))).map List.length).sum ≤ L.length + (L.map List.length).sum := by
    intro L
    induction L with
    | nil => simp
    | cons x r ih =>
      have := trimP_length blankI x
      simp only [List.map_cons, List.sum_cons, List.length_cons]
      by_cases g : trimP blankI x = []
      · rw [List.filter_cons_of_neg (by simp [g])]; omega
      · rw [List.filter_cons_of_pos (by simp [g])]; simp only [List.length_cons, List.map_cons, List.sum_cons]; omega
  have := aux (cutL false [] l)
  simp only [List.length_nil] at h
  omega

theorem ext_mid {s : ByteArray} {pre cur rest : List Int} (h : bytesOf s = pre ++ cur ++ rest) : s.extract pre.length (pre.length + cur.length) = strOfNums cur := by
  apply bytesOf_inj
  have hb : InB cur := by have := InB_bytes s; rw [h, InB_append, InB_append] at this; exact this.1.2
  rw [bytesOf_strOf hb, bytesOf_extract, h]
  rw [show pre.length + cur.length = (pre ++ cur).length by simp, List.take_left, List.drop_left]
theorem ext_end {s : ByteArray} {pre cur : List Int} (h : bytesOf s = pre ++ cur) : s.extract pre.length s.size = strOfNums cur := by
  have e := ext_mid (s := s) (pre := pre) (cur := cur) (rest := []) (by simpa using h)
  have : s.size = pre.length + cur.length := by rw [← bytesOf_length, h, List.length_append]
  rw [this]; exact e
/-- The parts, trimmed, without the empty ones. -/
def partsV (m : List (List Int)) : List ByteArray := ((m.map (trimP blankI)).filter (fun x => decide (x ≠ []))).map strOfNums
theorem splitV_parts (s : ByteArray) : splitV s = partsV (cutL false [] (bytesOf s)) := rfl
theorem rdS_mid2 {l pre rest : List ByteArray} {x : ByteArray} (h : l = pre ++ x :: rest) : rdOf ByteArray.empty l (pre.length : Int) = x := getD_mid h
theorem partsV_nil : partsV [] = [] := rfl
theorem partsV_cons (x : List Int) (m : List (List Int)) : partsV (x :: m) = (if trimP blankI x = [] then [] else [strOfNums (trimP blankI x)]) ++ partsV m := by
  unfold partsV
  by_cases h : trimP blankI x = []
  · simp [h]
  · simp [h]
theorem partsV_append (a b : List (List Int)) : partsV (a ++ b) = partsV a ++ partsV b := by unfold partsV; simp
theorem partsV_len (m : List (List Int)) : (partsV m).length ≤ m.length := by
  unfold partsV
  rw [List.length_map]
  exact Nat.le_trans (List.length_filter_le _ _) (by simp)
theorem trimV_of {x : List Int} (h : InB x) : trimV (strOfNums x) = strOfNums (trimP blankI x) := by unfold trimV; rw [bytesOf_strOf h]
theorem strOf_nil {x : List Int} : (strOfNums x).toList = ([] : List UInt8) ↔ x = [] := by
  have e : ([] : List UInt8) = (⟨#[]⟩ : ByteArray).toList := by rw [ByteArray.toList_eq]
  rw [e, toList_iff]
  constructor
  · intro h
    have : (strOfNums x).size = 0 := by rw [h]; rfl
    rw [strOfNums_size] at this
    exact List.eq_nil_of_length_eq_zero this
  · rintro rfl; rfl
theorem mem_len_le {L : List (List Int)} {m : List Int} (h : m ∈ L) : m.length ≤ (L.map List.length).sum := by
  induction L with
  | nil => simp at h
  | cons x r ih =>
    simp only [List.map_cons, List.sum_cons]
    rcases List.mem_cons.1 h with g | g
    · subst g; omega
    · have := ih g; omega
theorem split_sizes (s : ByteArray) : ∀ t ∈ splitV s, t.size ≤ s.size + 1 := by
  intro t ht
  unfold splitV at ht
  obtain ⟨m, hm, rfl⟩ := List.mem_map.1 ht
  have h1 := splitL_total (bytesOf s)
  have h2 := mem_len_le hm
  rw [bytesOf_length] at h1
  rw [strOfNums_size]; omega
theorem split_count (s : ByteArray) : (splitV s).length ≤ s.size + 1 := by
  have := splitL_total (bytesOf s)
  rw [bytesOf_length] at this
  unfold splitV
  rw [List.length_map]; omega

theorem tok_low_fin : ∀ n : Fin 256, tokB (lowB (n.val : Int)) = tokB (n.val : Int) := by decide +kernel
theorem InB_lower (s : ByteArray) : InB ((bytesOf s).map lowB) := by
  intro x hx
  obtain ⟨b, hb, rfl⟩ := List.mem_map.1 hx
  have := InB_bytes s b hb
  unfold lowB
  split <;> omega
theorem bytesOf_lower (s : ByteArray) : bytesOf (lowerV s) = (bytesOf s).map lowB := by unfold lowerV; exact bytesOf_strOf (InB_lower s)
theorem lower_size (s : ByteArray) : (lowerV s).size = s.size := by rw [← bytesOf_length, bytesOf_lower, List.length_map, bytesOf_length]
theorem tok_lower (s : ByteArray) : tokV (lowerV s) = tokV s := by
  unfold tokV
  rw [lower_size, bytesOf_lower, List.all_map]
  congr 1
  have h := InB_bytes s
  generalize bytesOf s = l at h
  induction l with
  | nil => rfl
  | cons b r ih =>
    rw [InB_cons] at h
    simp only [List.all_cons, Function.comp_apply, ih h.2]
    congr 1
    exact fin256 (p := fun b => tokB (lowB b) = tokB b) tok_low_fin h.1.1 h.1.2
def isQuo (v : ByteArray) : Bool := decide ((bytesOf v).head? = some 34)
/-- What a part of a list says: a directive, or none. -/
def dirOf (p : ByteArray) : List S32 :=
  if (pairV p).2.2 = true ∧ isQuo (pairV p).2.1 = true then
    (if (unqV (pairV p).2.1).2 = true ∧ tokV (pairV p).1 = true then [⟨lowerV (pairV p).1, (unqV (pairV p).2.1).1, (pairV p).2.2⟩] else [])
  else if ((pairV p).2.2 = true → tokV (pairV p).2.1 = true) ∧ tokV (pairV p).1 = true then [⟨lowerV (pairV p).1, (pairV p).2.1, (pairV p).2.2⟩] else []
def pdV (s : ByteArray) : List S32 := (splitV s).flatMap dirOf
theorem dirOf_len (p : ByteArray) : (dirOf p).length ≤ 1 := by
  unfold dirOf
  repeat' split
  all_goals simp
theorem pd_len (l : List ByteArray) : (l.flatMap dirOf).length ≤ l.length := by
  induction l with
  | nil => simp
  | cons x r ih => have := dirOf_len x; simp only [List.flatMap_cons, List.length_append, List.length_cons]; omega
theorem trimV_size0 (s : ByteArray) : (trimV s).size ≤ s.size := by
  have := trimP_length blankI (bytesOf s)
  rw [bytesOf_length] at this
  unfold trimV
  rw [strOfNums_size]; exact this
theorem cut_len0 (sep l : List Int) : (cutI sep l).1.length ≤ l.length ∧ (cutI sep l).2.1.length ≤ l.length := by
  induction l with
  | nil => simp [cutI]
  | cons b r ih =>
    unfold cutI
    split
    · simp
    · simp only [List.length_cons]; omega
theorem pair_sizes (p : ByteArray) : (pairV p).1.size ≤ p.size ∧ (pairV p).2.1.size ≤ p.size := by
  have h := cut_len0 [61] (bytesOf p)
  rw [bytesOf_length] at h
  have h1 := trimV_size0 (cutV [61] p).1
  have h2 := trimV_size0 (cutV [61] p).2.1
  unfold pairV
  unfold cutV at h1 h2 ⊢
  simp only [strOfNums_size] at h1 h2 ⊢
  omega
theorem isQuo_bt (v : ByteArray) (h : 0 < v.size) : (bt v 0 == 34) = isQuo v := by
  have hl := bytesOf_length v
  unfold isQuo
  match hb : bytesOf v with
  | [] => rw [hb] at hl; simp at hl; omega
  | x :: r =>
    have := bt_mid (s := v) (pre := []) (b := x) (rest := r) hb
    have e : bt v 0 = x := by simpa using this
    rw [e]
    by_cases g : x = 34
    · subst g; simp
    · rw [beq_eq_false_iff_ne.mpr g]; simp [g]
theorem isQuo_nil {v : ByteArray} (h : ¬ (v.size : Int) > 0) : isQuo v = false := by
  unfold isQuo
  have hl := bytesOf_length v
  have : bytesOf v = [] := List.eq_nil_of_length_eq_zero (by omega)
  rw [this]; rfl

theorem spec_blank_eq (b : Int) : spec_l4Blank.f b = some (blankI b) := by
  unfold spec_l4Blank.f blankI
  by_cases h : b = 32
  · rw [if_pos h, h]; rfl
  · rw [if_neg h]; simp [h]
theorem spec_Trim_l1 (n : Nat) : ∀ s : ByteArray, s.size ≤ n → s.size ≤ 4611686018427387904 → Ev (fun k => spec_TrimText.l1 k s) (strOfNums (rdropI blankI (bytesOf s))) := by
  induction n with
  | zero =>
    intro s hn hs
    have e : bytesOf s = [] := List.eq_nil_of_length_eq_zero (by rw [bytesOf_length]; omega)
    refine Ev.step (f := fun _ => some s) (fun k => ?_) (by rw [e]; simp only [rdropI]; rw [← e, strOf_bytesOf]; exact Ev.now _)
    simp only [spec_TrimText.l1]
    rw [if_neg (by omega)]
  | succ n ih =>
    intro s hn hs
    rcases List.eq_nil_or_concat (bytesOf s) with h | ⟨r, b, h⟩
    · exact ih s (by rw [← bytesOf_length, h]; simp) hs
    · rw [List.concat_eq_append] at h
      have hz := size_mid h
      simp only [List.length_cons, List.length_nil] at hz
      have hw : wrap64 ((s.size : Int) - 1) = (r.length : Int) := by rw [wrap_id (by omega) (by omega)]; omega
      have hb := bt_mid h
      have hx : bytesOf (s.extract 0 ((r.length : Int) : Int).toNat) = r := by
        rw [bytesOf_extract, h]; simp
      rw [h, rdropI_concat]
      by_cases g : blankI b = true
      · rw [if_pos g]
        refine Ev.step (f := fun k => spec_TrimText.l1 k (s.extract 0 ((r.length : Int) : Int).toNat)) (fun k => ?_) ?_
        · simp only [spec_TrimText.l1]
          rw [if_pos (by omega), hw, if_pos (by omega), if_pos (by omega), hb, spec_blank_eq, Option.bind_some, if_pos g, if_pos (by omega)]
        · have hlen : (s.extract 0 ((r.length : Int) : Int).toNat).size = r.length := by rw [← bytesOf_length, hx]
          have := ih _ (by rw [hlen]; omega) (by rw [hlen]; omega)
          rwa [hx] at this
      · rw [if_neg g]
        refine Ev.step (f := fun _ => some s) (fun k => ?_) (by rw [← h, strOf_bytesOf]; exact Ev.now _)
        simp only [spec_TrimText.l1]
        rw [if_pos (by omega), hw, if_pos (by omega), if_pos (by omega), hb, spec_blank_eq, Option.bind_some, if_neg g]
theorem spec_Trim_l0 (l : List Int) : ∀ s : ByteArray, bytesOf s = l → s.size ≤ 4611686018427387904 → Ev (fun k => spec_TrimText.l0 k s) (strOfNums (rdropI blankI (l.dropWhile blankI))) := by
  induction l with
  | nil =>
    intro s h hs
    have hz := size_mid (pre := []) (rest := []) h
    simp only [List.length_nil] at hz
    refine Ev.step (f := fun k => spec_TrimText.j1 k s) (fun k => ?_) (Ev.step (f := fun k => spec_TrimText.l1 k s) (fun k => by simp only [spec_TrimText.j1]) ?_)
    · simp only [spec_TrimText.l0]
      rw [if_neg (by omega)]
    · have := spec_Trim_l1 _ s (Nat.le_refl _) hs
      rw [h] at this
      exact this
  | cons b r ih =>
    intro s h hs
    have hz := size_mid (pre := []) (rest := b :: r) h
    simp only [List.length_cons, List.length_nil] at hz
    have hb : bt s 0 = b := bt_mid (pre := []) h
    by_cases g : blankI b = true
    · rw [List.dropWhile_cons_of_pos g]
      have hx : bytesOf (s.extract 1 s.size) = r := by
        rw [bytesOf_extract, h, List.take_of_length_le (by simp only [List.length_cons]; omega)]; rfl
      refine Ev.step (f := fun k => spec_TrimText.l0 k (s.extract 1 s.size)) (fun k => ?_) (ih _ hx (by rw [← bytesOf_length, hx]; omega))
      simp only [spec_TrimText.l0]
      rw [if_pos (by omega), if_pos (by omega), hb, spec_blank_eq, Option.bind_some, if_pos g, if_pos (by omega)]
    · rw [List.dropWhile_cons_of_neg g]
      refine Ev.step (f := fun k => spec_TrimText.j1 k s) (fun k => ?_) (Ev.step (f := fun k => spec_TrimText.l1 k s) (fun k => by simp only [spec_TrimText.j1]) ?_)
      · simp only [spec_TrimText.l0]
        rw [if_pos (by omega), if_pos (by omega), hb, spec_blank_eq, Option.bind_some, if_neg g]
      · have := spec_Trim_l1 _ s (Nat.le_refl _) hs
        rwa [h] at this
theorem spec_Trim_ev (s : ByteArray) (hs : s.size ≤ 4611686018427387904) : Ev (fun k => spec_TrimText.f k s) (trimV s) := by
  have := spec_Trim_l0 (bytesOf s) s rfl hs
  rw [← drop_rdrop] at this
  exact this

theorem InB_cut (sep l : List Int) (h : InB l) : InB (cutI sep l).1 ∧ InB (cutI sep l).2.1 := by
  induction l with
  | nil => exact ⟨InB_nil, InB_nil⟩
  | cons b r ih =>
    have hr := ih (InB_cons.1 h).2
    unfold cutI
    split
    · exact ⟨InB_nil, InB_drop _ h⟩
    · exact ⟨InB_cons.2 ⟨(InB_cons.1 h).1, hr.1⟩, hr.2⟩
theorem prefix_one (a b : Int) (r : List Int) : ([a] : List Int).isPrefixOf (b :: r) = decide (b = a) := by
  simp only [List.isPrefixOf, Bool.and_true]
  by_cases h : b = a
  · subst h; simp
  · rw [decide_eq_false h]; exact beq_eq_false_iff_ne.mpr (fun z => h z.symm)
theorem trimV_nil : trimV ⟨#[]⟩ = ⟨#[]⟩ := by
  apply bytesOf_inj
  decide +kernel
theorem spec_Pair_loop (s : ByteArray) (hs : s.size ≤ 4000000000) (rest : List Int) : ∀ (pre : List Int), bytesOf s = pre ++ rest → cutI [61] (bytesOf s) = (pre ++ (cutI [61] rest).1, (cutI [61] rest).2) → Ev (fun k => spec_SplitPair.l0 k s (pre.length : Int)) (pairV s) := by
  induction rest with
  | nil =>
    intro pre h hc
    have hz := size_mid h
    simp only [List.length_nil] at hz
    have e : pairV s = (trimV s, (⟨#[]⟩ : ByteArray), false) := by
      have e1 : cutV [61] s = (s, ⟨#[]⟩, false) := by
        unfold cutV
        rw [hc]
        have : pre = bytesOf s := by rw [h]; simp
        simp only [cutI, List.append_nil]
        rw [this, strOf_bytesOf]; rfl
      unfold pairV
      rw [e1, trimV_nil]
    rw [e]
    refine Ev.step (f := fun k => (spec_TrimText.f k s).bind fun t => some (t, (⟨#[]⟩ : ByteArray), false)) (fun k => ?_) (Ev.bind (spec_Trim_ev s (by omega)) (Ev.now _))
    simp only [spec_SplitPair.l0]
    rw [if_neg (by omega)]
  | cons b rest ih =>
    intro pre h hc
    have hz := size_mid h
    simp only [List.length_cons] at hz
    have hb := bt_mid h
    have hw := len_step pre b (by omega)
    by_cases g : b = 61
    · have hp : ([61] : List Int).isPrefixOf (b :: rest) = true := by rw [prefix_one]; exact decide_eq_true g
      have ec : cutI [61] (b :: rest) = ([], rest, true) := by unfold cutI; rw [if_pos hp]; rfl
      rw [ec] at hc
      simp only [List.append_nil] at hc
      have e1 : strOfNums pre = s.extract 0 pre.length := by
        apply bytesOf_inj
        have hpb : InB pre := by have := InB_bytes s; rw [h, InB_append] at this; exact this.1
        rw [bytesOf_strOf hpb, bytesOf_extract, h]; simp
      have e2 : strOfNums rest = s.extract (pre.length + 1) s.size := by
        apply bytesOf_inj
        have hpb : InB rest := by have := InB_bytes s; rw [h, InB_append, InB_cons] at this; exact this.2.2
        have hl : (bytesOf s).take s.size = bytesOf s := by rw [← bytesOf_length]; exact List.take_length
        rw [bytesOf_strOf hpb, bytesOf_extract, hl, h]
        rw [show pre ++ b :: rest = (pre ++ [b]) ++ rest by simp, show pre.length + 1 = (pre ++ [b]).length by simp, List.drop_left]
      have e : pairV s = (trimV (s.extract 0 pre.length), trimV (s.extract (pre.length + 1) s.size), true) := by
        unfold pairV cutV
        rw [hc, ← e1, ← e2]
      rw [e]
      have z1 : (s.extract 0 pre.length).size ≤ s.size := by rw [ByteArray.size_extract]; omega
      have z2 : (s.extract (pre.length + 1) s.size).size ≤ s.size := by rw [ByteArray.size_extract]; omega
      refine Ev.step (f := fun k => (spec_TrimText.f k (s.extract 0 pre.length)).bind fun t => (spec_TrimText.f k (s.extract (pre.length + 1) s.size)).bind fun u => some (t, u, true)) (fun k => ?_) (Ev.bind (spec_Trim_ev _ (by omega)) (Ev.bind (spec_Trim_ev _ (by omega)) (Ev.now _)))
      simp only [spec_SplitPair.l0]
      have n1 : ((pre.length : Int)).toNat = pre.length := by omega
      have n2 : (((pre ++ [b]).length : Int)).toNat = pre.length + 1 := by simp
      have n3 : ((pre ++ [b]).length : Int) ≤ (s.size : Int) := by simp; omega
      rw [if_pos (by omega), if_pos (by omega), hb, if_pos g, if_pos (by omega), hw, n1, n2]
      congr 1
      funext t
      rw [if_pos (by omega), if_pos n3]
    · have hp : ¬ ([61] : List Int).isPrefixOf (b :: rest) = true := by rw [prefix_one]; simp [g]
      have ec : cutI [61] (b :: rest) = (b :: (cutI [61] rest).1, (cutI [61] rest).2) := by rw [cutI, if_neg hp]
      rw [ec] at hc
      refine Ev.step (f := fun k => spec_SplitPair.l0 k s ((pre ++ [b]).length : Int)) (fun k => ?_) (ih (pre ++ [b]) (by simp [h]) (by rw [hc]; simp))
      simp only [spec_SplitPair.l0]
      rw [if_pos (by omega), if_pos (by omega), hb, if_neg g, hw]
theorem spec_Pair_ev (s : ByteArray) (hs : s.size ≤ 4000000000) : Ev (fun k => spec_SplitPair.f k s) (pairV s) := spec_Pair_loop s hs (bytesOf s) [] rfl (by simp)

theorem spec_Lower_eq (s : ByteArray) (h : s.size ≤ 4611686018427387904) : spec_LowerText.f s = some (lowerV s) := by unfold spec_LowerText.f; rw [if_pos h]; rfl

theorem spec_l1In_eq (a b c : Int) : spec_l1In.f a b c = some (decide (b ≤ a ∧ a ≤ c)) := by
  unfold spec_l1In.f
  by_cases h : a ≥ b
  · rw [if_pos h]; congr 1; apply decide_eq_decide.mpr; constructor
    · exact fun x => ⟨h, x⟩
    · exact fun x => x.2
  · rw [if_neg h]; congr 1; symm; apply decide_eq_false; omega

theorem spec_tok_fin : ∀ n : Fin 256, spec_l4Token.f 17 (n.val : Int) = some (tokB (n.val : Int)) := by decide +kernel
theorem spec_tok_ev {b : Int} (h0 : 0 ≤ b) (h1 : b ≤ 255) : Ev (fun k => spec_l4Token.f k b) (tokB b) := Ev.of (fun k => spec_l4Token.mono b k) (k := 17) (fin256 (p := fun b => spec_l4Token.f 17 b = some (tokB b)) spec_tok_fin h0 h1)
theorem spec_IsToken_ev (s : ByteArray) (hs : s.size ≤ 4611686018427387904) : Ev (fun k => spec_IsToken.f k s) (tokV s) := by
  have key : ∀ (rest pre : List Int), bytesOf s = pre ++ rest → Ev (fun k => spec_IsToken.l0 k s (pre.length : Int)) (rest.all tokB && decide (1 ≤ (s.size : Int) ∧ (s.size : Int) ≤ 40)) := by
    intro rest
    induction rest with
    | nil =>
      intro pre h
      have hz := size_mid h
      simp only [List.length_nil] at hz
      refine Ev.step (f := fun _ => some (decide (1 ≤ (s.size : Int) ∧ (s.size : Int) ≤ 40))) (fun k => ?_) (by simpa using Ev.now _)
      simp only [spec_IsToken.l0]
      rw [if_neg (by omega), spec_l1In_eq, Option.bind_some]
    | cons b rest ih =>
      intro pre h
      have hz := size_mid h
      simp only [List.length_cons] at hz
      have hb := bt_mid h
      have hr : 0 ≤ b ∧ b ≤ 255 := by rw [← hb]; exact bt_range s _
      have hw := len_step pre b (by omega)
      refine Ev.step (f := fun k => (spec_l4Token.f k b).bind fun t => if t = true then spec_IsToken.l0 k s ((pre ++ [b]).length : Int) else some false) (fun k => ?_) (Ev.bind (spec_tok_ev hr.1 hr.2) ?_)
      · simp only [spec_IsToken.l0]
        rw [if_pos (by omega), if_pos (by omega), hb, hw]
      · cases e : tokB b with
        | true => simpa [e] using ih (pre ++ [b]) (by simp [h])
        | false => simpa [e] using Ev.now _
  exact key (bytesOf s) [] rfl

theorem spec_Unq_loop (s : ByteArray) (hs : s.size ≤ 140737488351232) (f : Int) (n : Nat) : ∀ (pre acc rest : List Int), rest.length ≤ n → bytesOf s = f :: (pre ++ rest) → acc.length ≤ pre.length →
    Ev (fun k => spec_UnquoteText.l0 k s acc (((f :: pre).length : Nat) : Int)) (unqR f acc rest) := by
  induction n with
  | zero =>
    intro pre acc rest hr h ha
    obtain rfl : rest = [] := List.eq_nil_of_length_eq_zero (by omega)
    have hz := size_mid (pre := f :: pre) (rest := []) h
    simp only [List.length_nil, List.length_cons] at hz
    rw [unqR_nil]
    refine Ev.step (f := fun _ => some (strOfNums acc, false)) (fun k => ?_) (Ev.now _)
    simp only [spec_UnquoteText.l0, List.length_cons]
    rw [if_neg (by omega)]
  | succ n ih =>
    intro pre acc rest hr h ha
    match rest, hr with
    | [], _ => exact ih pre acc [] (by simp) h ha
    | b :: rest, hr =>
      have hz := size_mid (pre := f :: pre) (rest := b :: rest) h
      simp only [List.length_cons] at hz hr
      have hb := bt_mid (pre := f :: pre) (rest := rest) h
      have h0 : bt s 0 = f := bt_mid (pre := []) (rest := pre ++ b :: rest) h
      have hw := len_step (f :: pre) b (by simp; omega)
      by_cases h1 : b = 34
      · subst h1
        rw [unqR_quote]
        refine Ev.step (f := fun _ => some (strOfNums acc, decide (f = 34 ∧ rest.length = 0))) (fun k => ?_) (Ev.now _)
        simp only [spec_UnquoteText.l0]
        rw [if_pos (by simp; omega), if_pos (by omega), hb, if_pos rfl, if_pos (by omega), h0]
        by_cases h2 : f = 34
        · rw [if_pos h2]
          congr 2
          rw [wrap_id (by omega) (by omega), h2]
          simp only [true_and]
          rw [Bool.eq_iff_iff, beq_iff_eq, decide_eq_true_iff]
          simp only [List.length_cons]
          omega
        · rw [if_neg h2]; simp [h2]
      · by_cases h2 : b = 92
        · subst h2
          match rest, h, hz, hr, hb with
          | [], h, hz, hr, hb =>
            simp only [List.length_nil] at hz
            rw [unqR_last]
            have e := ih (pre ++ [92]) (acc ++ [92]) [] (by simp) (by simpa using h) (by simp; omega)
            rw [unqR_nil] at e
            refine Ev.step (f := fun k => spec_UnquoteText.l0 k s (acc ++ [92]) ((((f :: (pre ++ [92])).length : Nat)) : Int)) (fun k => ?_) e
            simp only [spec_UnquoteText.l0]
            rw [if_pos (by simp; omega), if_pos (by omega), hb, if_neg h1, if_pos rfl, hw, if_neg (by simp; omega), if_pos (by omega)]
            rfl
          | c :: rest, h, hz, hr, hb =>
            simp only [List.length_cons] at hz hr
            have hc := bt_mid (s := s) (pre := (f :: pre) ++ [92]) (rest := rest) (b := c) (by simpa using h)
            have hw2 := len_step ((f :: pre) ++ [92]) c (by simp; omega)
            rw [unqR_esc]
            have e := ih (pre ++ [92, c]) (acc ++ [c]) rest (by omega) (by simpa using h) (by simp; omega)
            refine Ev.step (f := fun k => spec_UnquoteText.l0 k s (acc ++ [c]) ((((f :: (pre ++ [92, c])).length : Nat)) : Int)) (fun k => ?_) e
            simp only [spec_UnquoteText.l0]
            rw [if_pos (by simp; omega), if_pos (by omega), hb, if_neg h1, if_pos rfl, hw, if_pos (by simp; omega), if_pos (by omega), if_pos (by omega), hc, hw2]
            simp
        · rw [unqR_other f acc rest b h1 h2]
          have e := ih (pre ++ [b]) (acc ++ [b]) rest (by omega) (by simpa using h) (by simp; omega)
          refine Ev.step (f := fun k => spec_UnquoteText.l0 k s (acc ++ [b]) ((((f :: (pre ++ [b])).length : Nat)) : Int)) (fun k => ?_) e
          simp only [spec_UnquoteText.l0]
          rw [if_pos (by simp; omega), if_pos (by omega), hb, if_neg h1, if_neg h2, if_pos (by omega), hw]
          rfl
theorem spec_Unq_ev (s : ByteArray) (hs : s.size ≤ 140737488351232) : Ev (fun k => spec_UnquoteText.f k s) (unqV s) := by
  unfold spec_UnquoteText.f unqV
  match h : bytesOf s with
  | [] =>
    have hz := size_bytes s
    rw [h] at hz
    refine Ev.step (f := fun _ => some (strOfNums [], false)) (fun k => ?_) (by simpa [unqL_nil] using Ev.now _)
    simp only [spec_UnquoteText.l0, List.length_nil] at hz ⊢
    rw [if_neg (by omega)]
  | f :: rest =>
    have := spec_Unq_loop s hs f rest.length [] [] rest (Nat.le_refl _) h (by simp)
    simpa [unqR] using this

theorem spec_Cut_loop (s : ByteArray) (hs : s.size ≤ 1099511627776) (q : Bool) (rest : List Int) : ∀ (done cur : List Int) (acc : List ByteArray), bytesOf s = done ++ cur ++ rest → acc.length ≤ done.length →
    Ev (fun k => spec_l4Cut.l0 k s 44 acc (done.length : Int) q ((done ++ cur).length : Int)) (acc ++ (cutL q cur rest).map strOfNums) := by
  have fin : ∀ (q : Bool) (done cur : List Int) (acc : List ByteArray) (i : Int), bytesOf s = done ++ cur → acc.length ≤ done.length → ¬ i < (s.size : Int) → Ev (fun k => spec_l4Cut.l0 k s 44 acc (done.length : Int) q i) (acc ++ [strOfNums cur]) := by
    intro q done cur acc i h ha hi
    have hz : s.size = done.length + cur.length := by rw [← bytesOf_length, h, List.length_append]
    refine Ev.step (f := fun _ => some (acc ++ [strOfNums cur])) (fun k => ?_) (Ev.now _)
    simp only [spec_l4Cut.l0]
    have n1 : ((done.length : Int)).toNat = done.length := by omega
    rw [if_neg hi, if_pos (by omega), if_pos (by omega), if_pos (by omega), n1, ext_end h]
  have facts : ∀ {done cur rest : List Int} {b : Int}, bytesOf s = done ++ cur ++ b :: rest → ((done ++ cur).length : Int) < (s.size : Int) ∧ bt s ((done ++ cur).length : Int) = b ∧ wrap64 (((done ++ cur).length : Int) + 1) = ((done ++ (cur ++ [b])).length : Int) ∧ (s.size : Int) = (done ++ cur).length + (rest.length + 1) := by
    intro done cur rest b h
    have hz := size_mid h
    simp only [List.length_cons] at hz
    refine ⟨by omega, bt_mid h, ?_, by omega⟩
    have := len_step (done ++ cur) b (by omega)
    rw [this, List.append_assoc]
  refine cut_ind (p := fun q rest => ∀ (done cur : List Int) (acc : List ByteArray), bytesOf s = done ++ cur ++ rest → acc.length ≤ done.length → Ev (fun k => spec_l4Cut.l0 k s 44 acc (done.length : Int) q ((done ++ cur).length : Int)) (acc ++ (cutL q cur rest).map strOfNums)) ?_ ?_ ?_ ?_ ?_ ?_ q rest
  · intro q done cur acc h ha
    rw [cutL_nil]
    exact fin q done cur acc _ (by simpa using h) ha (by have := size_mid h; simp at this ⊢; omega)
  · intro done cur acc h ha
    obtain ⟨f1, f2, f3, f4⟩ := facts h
    rw [cutL_last]
    refine Ev.step (f := fun k => spec_l4Cut.j1 k s 44 acc (done.length : Int) true ((done ++ cur).length : Int) true) (fun k => ?_) (Ev.step (f := fun k => spec_l4Cut.l0 k s 44 acc (done.length : Int) true (wrap64 ((wrap64 (((done ++ cur).length : Int) + 1)) + 1))) (fun k => ?_) ?_)
    · simp only [spec_l4Cut.l0]
      rw [if_pos f1, if_pos trivial, if_pos (by omega), f2]; rfl
    · simp only [spec_l4Cut.j1]
      rw [if_pos trivial]
    · refine fin true done (cur ++ [92]) acc _ (by rw [h]; simp) ha ?_
      rw [f3, wrap_id (by omega) (by simp at f4 ⊢; omega)]
      simp at f4 ⊢; omega
  · intro c r ih done cur acc h ha
    obtain ⟨f1, f2, f3, f4⟩ := facts h
    rw [cutL_esc]
    have n := ih done (cur ++ [92, c]) acc (by rw [h]; simp) ha
    have e : wrap64 ((wrap64 (((done ++ cur).length : Int) + 1)) + 1) = ((done ++ (cur ++ [92, c])).length : Int) := by
      rw [f3, wrap_id (by omega) (by simp at f4 ⊢; omega)]; simp; omega
    rw [← e] at n
    refine Ev.step (f := fun k => spec_l4Cut.j1 k s 44 acc (done.length : Int) true ((done ++ cur).length : Int) true) (fun k => ?_) (Ev.step (fun k => ?_) n)
    · simp only [spec_l4Cut.l0]
      rw [if_pos f1, if_pos trivial, if_pos (by omega), f2]; rfl
    · simp only [spec_l4Cut.j1]
      rw [if_pos trivial]
  · intro q r ih done cur acc h ha
    obtain ⟨f1, f2, f3, f4⟩ := facts h
    rw [cutL_quote]
    have n := ih done (cur ++ [34]) acc (by rw [h]; simp) ha
    rw [← f3] at n
    refine Ev.step (f := fun k => spec_l4Cut.j1 k s 44 acc (done.length : Int) q ((done ++ cur).length : Int) false) (fun k => ?_) (Ev.step (fun k => ?_) n)
    · simp only [spec_l4Cut.l0]
      rw [if_pos f1]
      cases q
      · rfl
      · rw [if_pos rfl, if_pos (by omega), f2]; rfl
    · simp only [spec_l4Cut.j1]
      rw [if_neg (by simp), if_pos (by omega), if_pos f1, if_pos f2]
  · intro r ih done cur acc h ha
    obtain ⟨f1, f2, f3, f4⟩ := facts h
    rw [cutL_comma]
    have n := ih (done ++ (cur ++ [44])) [] (acc ++ [strOfNums cur]) (by rw [h]; simp) (by simp; omega)
    rw [List.append_nil, ← f3] at n
    have hx := ext_mid h
    have hn1 : ((done.length : Int)).toNat = done.length := by omega
    have hn2 : (((done ++ cur).length : Int)).toNat = done.length + cur.length := by simp only [List.length_append]; omega
    simp only [List.map_cons]
    rw [show acc ++ strOfNums cur :: (cutL false [] r).map strOfNums = (acc ++ [strOfNums cur]) ++ (cutL false [] r).map strOfNums by simp]
    refine Ev.step (f := fun k => spec_l4Cut.j1 k s 44 acc (done.length : Int) false ((done ++ cur).length : Int) false) (fun k => ?_) (Ev.step (fun k => ?_) n)
    · simp only [spec_l4Cut.l0]
      rw [if_pos f1]; rfl
    · simp only [spec_l4Cut.j1]
      have hdl : done.length ≤ s.size := by have := f4; simp at this; omega
      rw [if_neg (by simp), if_pos (by omega), if_pos f1, if_neg (by rw [f2]; decide), if_neg (by simp), if_pos f2, if_pos (by omega), if_pos (by simp only [List.length_append]; omega), if_pos (by omega), if_pos (by omega), hn1, hn2, hx]
  · intro q b r g1 g2 g3 ih done cur acc h ha
    obtain ⟨f1, f2, f3, f4⟩ := facts h
    rw [cutL_other q cur r b g1 g2 g3]
    have n := ih done (cur ++ [b]) acc (by rw [h]; simp) ha
    rw [← f3] at n
    refine Ev.step (f := fun k => spec_l4Cut.j1 k s 44 acc (done.length : Int) q ((done ++ cur).length : Int) false) (fun k => ?_) (Ev.step (fun k => ?_) n)
    · simp only [spec_l4Cut.l0]
      rw [if_pos f1]
      cases q
      · rfl
      · have : (b == 92) = false := beq_eq_false_iff_ne.mpr (fun z => g1 ⟨rfl, z⟩)
        rw [if_pos rfl, if_pos (by omega), f2, this]
    · simp only [spec_l4Cut.j1]
      rw [if_neg (by simp), if_pos (by omega), if_pos f1, if_neg (by rw [f2]; exact g2)]
      cases q
      · rw [if_neg (by simp), if_neg (by rw [f2]; exact fun z => g3 ⟨rfl, z⟩)]
      · rw [if_pos rfl]
theorem spec_Split_ev (s : ByteArray) (hs : s.size ≤ 1099511627776) : Ev (fun k => spec_SplitList.f k s) (splitV s) := by
  have h0 := spec_Cut_loop s hs false (bytesOf s) [] [] [] (by simp) (by simp)
  unfold spec_SplitList.f spec_l4Cut.f
  refine Ev.bind h0 ?_
  simp only [List.nil_append]
  rw [splitV_parts]
  have hin : ∀ m ∈ cutL false [] (bytesOf s), InB m := fun m hm => cutL_mem false (bytesOf s) [] (fun x => 0 ≤ x ∧ x ≤ 255) (by simp) (InB_bytes s) m hm
  have htot := cutL_total false (bytesOf s) []
  rw [bytesOf_length] at htot
  simp only [List.length_nil] at htot
  have hsz : ∀ m ∈ cutL false [] (bytesOf s), m.length ≤ 2 * s.size + 2 := by
    intro m hm
    have := mem_len_le hm
    omega
  generalize hM : cutL false [] (bytesOf s) = M at hin htot hsz ⊢
  have key : ∀ (rest pre : List (List Int)), M = pre ++ rest → Ev (fun k => spec_SplitList.l0 k (M.map strOfNums) (partsV pre) (pre.length : Int)) (partsV M) := by
    intro rest
    induction rest with
    | nil =>
      intro pre h
      have hl := len_mid h
      simp only [List.length_nil] at hl
      have e : pre = M := by rw [h]; simp
      refine Ev.step (f := fun _ => some (partsV M)) (fun k => ?_) (Ev.now _)
      simp only [spec_SplitList.l0]
      rw [if_neg (by rw [List.length_map]; omega), e]
    | cons x rest ih =>
      intro pre h
      have hl := len_mid h
      simp only [List.length_cons] at hl
      have hxM : x ∈ M := by rw [h]; simp
      have hx : rdOf ByteArray.empty (M.map strOfNums) (pre.length : Int) = strOfNums x := by
        have h2 : M.map strOfNums = pre.map strOfNums ++ strOfNums x :: rest.map strOfNums := by rw [h]; simp
        have := rdS_mid2 h2
        simpa using this
      have hw := len_step pre x (by omega)
      have n := ih (pre ++ [x]) (by simp [h])
      rw [partsV_append, partsV_cons, partsV_nil, List.append_nil] at n
      have hpl := partsV_len pre
      have hsx := hsz x hxM
      refine Ev.step (f := fun k => (spec_TrimText.f k (strOfNums x)).bind fun t => if t.toList = ([] : List UInt8) then spec_SplitList.l0 k (M.map strOfNums) (partsV pre) ((pre ++ [x]).length : Int) else spec_SplitList.l0 k (M.map strOfNums) (partsV pre ++ [t]) ((pre ++ [x]).length : Int)) (fun k => ?_) (Ev.bind (spec_Trim_ev _ (by rw [strOfNums_size]; omega)) ?_)
      · simp only [spec_SplitList.l0]
        rw [if_pos (by rw [List.length_map]; omega), if_pos (by omega), hx, hw]
        congr 1; funext t
        rw [if_pos (show (partsV pre).length < 8796093022208 by omega)]
      · rw [trimV_of (hin x hxM)]
        by_cases g : trimP blankI x = []
        · rw [if_pos g, List.append_nil] at n
          exact Ev.pos (strOf_nil.mpr g) n
        · rw [if_neg g] at n
          exact Ev.neg (fun z => g (strOf_nil.mp z)) n
  exact key M [] rfl

theorem spec_PD_part (p : ByteArray) (hp : p.size ≤ 4000000) (L : List ByteArray) (acc : List S32) (ha : acc.length ≤ 2000000) (i : Int) (h0 : 0 ≤ i) (h1 : i < (L.length : Int)) (hx : rdOf ByteArray.empty L i = p) (R : List S32)
    (e : Ev (fun k => spec_ParseDirectives.l0 k L (acc ++ dirOf p) (wrap64 (i + 1))) R) : Ev (fun k => spec_ParseDirectives.l0 k L acc i) R := by
  have hz := pair_sizes p
  have skip : dirOf p = [] → Ev (fun k => spec_ParseDirectives.l0 k L acc (wrap64 (i + 1))) R := fun h => by rw [h, List.append_nil] at e; exact e
  have hn : Ev (fun k => spec_IsToken.f k (lowerV (pairV p).1)) (tokV (pairV p).1) := by
    have := spec_IsToken_ev (lowerV (pairV p).1) (by rw [lower_size]; omega)
    rwa [tok_lower] at this
  have plain : ¬ ((pairV p).2.2 = true ∧ isQuo (pairV p).2.1 = true) → Ev (fun k => spec_ParseDirectives.j1 k L acc i (pairV p).2.1 (pairV p).2.2 false (lowerV (pairV p).1) (pairV p).2.1 (pairV p).2.2) R := by
    intro hq
    have fin : ((pairV p).2.2 = true → tokV (pairV p).2.1 = true) → Ev (fun k => spec_ParseDirectives.j2 k L acc i false (lowerV (pairV p).1) (pairV p).2.1 (pairV p).2.2) R := by
      intro hf
      refine Ev.step (f := fun k => (spec_IsToken.f k (lowerV (pairV p).1)).bind fun t => if t = true then spec_ParseDirectives.l0 k L (acc ++ [(⟨lowerV (pairV p).1, (pairV p).2.1, (pairV p).2.2⟩ : S32)]) (wrap64 (i + 1)) else spec_ParseDirectives.l0 k L acc (wrap64 (i + 1))) (fun k => ?_) (Ev.bind hn ?_)
      · simp only [spec_ParseDirectives.j2]
        rw [if_neg (by simp)]
        congr 1; funext t
        rw [if_pos (show acc.length < 3518437208883 by omega)]
      · by_cases g : tokV (pairV p).1 = true
        · have : dirOf p = [⟨lowerV (pairV p).1, (pairV p).2.1, (pairV p).2.2⟩] := by unfold dirOf; rw [if_neg hq, if_pos ⟨hf, g⟩]
          rw [this] at e
          exact Ev.pos g e
        · exact Ev.neg g (skip (by unfold dirOf; rw [if_neg hq, if_neg (fun z => g z.2)]))
    by_cases hh : (pairV p).2.2 = true
    · refine Ev.step (f := fun k => (spec_IsToken.f k (pairV p).2.1).bind fun t => spec_ParseDirectives.j2 k L acc i (!t) (lowerV (pairV p).1) (pairV p).2.1 (pairV p).2.2) (fun k => ?_) (Ev.bind (spec_IsToken_ev _ (by omega)) ?_)
      · simp only [spec_ParseDirectives.j1]
        rw [if_neg (by simp), if_pos hh]
      · cases ht : tokV (pairV p).2.1 with
        | true => exact fin (fun _ => ht)
        | false =>
          refine Ev.step (fun k => ?_) (skip (by unfold dirOf; rw [if_neg hq, if_neg (fun z => by have := z.1 hh; rw [ht] at this; simp at this)]))
          simp only [spec_ParseDirectives.j2, Bool.not_false]
          rw [if_pos trivial]
    · refine Ev.step (fun k => ?_) (fin (fun z => absurd z hh))
      simp only [spec_ParseDirectives.j1]
      rw [if_neg (by simp), if_neg hh]
  refine Ev.step (f := fun k => (spec_SplitPair.f k p).bind fun bt151 => ((spec_LowerText.f bt151.1).bind fun t154 => (if bt151.2.2 = true then (if (bt151.2.1.size : Int) > 0 then (if 0 < (bt151.2.1.size : Int) then (spec_ParseDirectives.j1 k L acc i bt151.2.1 bt151.2.2 ((bt bt151.2.1 0) == 34) t154 bt151.2.1 bt151.2.2) else (none)) else (spec_ParseDirectives.j1 k L acc i bt151.2.1 bt151.2.2 false t154 bt151.2.1 bt151.2.2)) else (spec_ParseDirectives.j1 k L acc i bt151.2.1 bt151.2.2 false t154 bt151.2.1 bt151.2.2)))) (fun k => ?_) (Ev.bind (spec_Pair_ev p (by omega)) ?_)
  · simp only [spec_ParseDirectives.l0]
    rw [if_pos h1, if_pos h0, hx]
  · rw [spec_Lower_eq _ (by omega)]
    simp only [Option.bind_some]
    by_cases hh : (pairV p).2.2 = true
    · refine Ev.pos hh ?_
      by_cases hs : ((pairV p).2.1.size : Int) > 0
      · refine Ev.pos hs (Ev.pos (by omega) ?_)
        rw [isQuo_bt _ (by omega)]
        cases hq : isQuo (pairV p).2.1 with
        | false => exact plain (fun z => by rw [hq] at z; simp at z)
        | true =>
          refine Ev.step (f := fun k => (spec_UnquoteText.f k (pairV p).2.1).bind fun t => if t.2 = true then ((spec_IsToken.f k (lowerV (pairV p).1)).bind fun u => if u = true then spec_ParseDirectives.l0 k L (acc ++ [(⟨lowerV (pairV p).1, t.1, (pairV p).2.2⟩ : S32)]) (wrap64 (i + 1)) else spec_ParseDirectives.l0 k L acc (wrap64 (i + 1))) else spec_ParseDirectives.l0 k L acc (wrap64 (i + 1))) (fun k => ?_) (Ev.bind (spec_Unq_ev _ (by omega)) ?_)
          · simp only [spec_ParseDirectives.j1]
            rw [if_pos trivial]
            congr 1; funext t; congr 1; congr 1; funext u
            rw [if_pos (show acc.length < 3518437208883 by omega)]
          · by_cases hu : (unqV (pairV p).2.1).2 = true
            · refine Ev.pos hu (Ev.bind hn ?_)
              by_cases g : tokV (pairV p).1 = true
              · have : dirOf p = [⟨lowerV (pairV p).1, (unqV (pairV p).2.1).1, (pairV p).2.2⟩] := by unfold dirOf; rw [if_pos ⟨hh, hq⟩, if_pos ⟨hu, g⟩]
                rw [this] at e
                exact Ev.pos g e
              · exact Ev.neg g (skip (by unfold dirOf; rw [if_pos ⟨hh, hq⟩, if_neg (fun z => g z.2)]))
            · exact Ev.neg hu (skip (by unfold dirOf; rw [if_pos ⟨hh, hq⟩, if_neg (fun z => hu z.1)]))
      · refine Ev.neg hs (plain (fun z => by rw [isQuo_nil hs] at z; simp at z))
    · exact Ev.neg hh (plain (fun z => hh z.1))
theorem spec_PD_ev (s : ByteArray) (hs : s.size ≤ 1048576) : Ev (fun k => spec_ParseDirectives.f k s) (pdV s) := by
  unfold spec_ParseDirectives.f
  refine Ev.bind (spec_Split_ev s (by omega)) ?_
  have h1 := split_sizes s
  have h2 := split_count s
  unfold pdV
  generalize splitV s = L at h1 h2
  have key : ∀ (rest pre : List ByteArray), L = pre ++ rest → Ev (fun k => spec_ParseDirectives.l0 k L (pre.flatMap dirOf) (pre.length : Int)) (L.flatMap dirOf) := by
    intro rest
    induction rest with
    | nil =>
      intro pre h
      have hl2 := len_mid h
      simp only [List.length_nil] at hl2
      have e : pre = L := by rw [h]; simp
      subst e
      refine Ev.step (f := fun _ => some (pre.flatMap dirOf)) (fun k => ?_) (Ev.now _)
      simp only [spec_ParseDirectives.l0]
      rw [if_neg (by omega)]
    | cons x rest ih =>
      intro pre h
      have hl2 := len_mid h
      simp only [List.length_cons] at hl2
      have hst := len_step pre x (by omega)
      have hp := pd_len pre
      have hx := h1 x (by rw [h]; simp)
      refine spec_PD_part x (by omega) L _ (by omega) _ (by omega) (by omega) (rdS_mid2 h) _ ?_
      have := ih (pre ++ [x]) (by simp [h])
      rw [List.flatMap_append] at this
      rw [hst]
      simpa using this
  exact key L [] rfl

theorem strings_Cut_eq (s sep : ByteArray) (hs : s.size < 4294967281) (hp : bytesOf sep ≠ []) : strings_Cut.f s sep = some (cutV (bytesOf sep) s) := by
  have hp2 : sep.data.toList ≠ [] := fun z => hp (by unfold bytesOf; rw [z]; rfl)
  obtain ⟨h1, h2, h3⟩ := libcut_map s.data.toList sep.data.toList hp2
  unfold strings_Cut.f cutV
  rw [if_pos hs]
  have e : ∀ (l : List UInt8) (m : List Int), (l.map fun b => (b.toNat : Int)) = m → (⟨l.toArray⟩ : ByteArray) = strOfNums m := by
    intro l m h
    have hb : bytesOf ⟨l.toArray⟩ = m := h
    rw [← hb, strOf_bytesOf]
  rw [e _ _ h1, e _ _ h2, h3]
  rfl

theorem bytesOf_mk (l : List UInt8) : bytesOf ⟨l.toArray⟩ = l.map fun b => (b.toNat : Int) := rfl
theorem mk_of_bytes {l : List UInt8} {m : List Int} (h : (l.map fun b => (b.toNat : Int)) = m) : (⟨l.toArray⟩ : ByteArray) = strOfNums m := by
  apply bytesOf_inj
  rw [bytesOf_mk, h, bytesOf_strOf]
  subst h
  exact InB_bytes ⟨l.toArray⟩
theorem trimLeftS_map (l cs : List UInt8) : ((Lib.trimLeftS l cs).map fun b => (b.toNat : Int)) = (l.map fun b => (b.toNat : Int)).dropWhile (fun x => (cs.map fun b => (b.toNat : Int)).contains x) := by
  unfold Lib.trimLeftS
  induction l with
  | nil => rfl
  | cons b r ih =>
    have e : ((cs.map fun b => (b.toNat : Int)).contains (b.toNat : Int)) = cs.contains b := by
      rw [Bool.eq_iff_iff, List.contains_iff_mem, List.contains_iff_mem, List.mem_map]
      constructor
      · rintro ⟨c, hc, hcb⟩
        have : c = b := UInt8.toNat_inj.1 (by omega)
        exact this ▸ hc
      · exact fun h => ⟨b, h, rfl⟩
    simp only [List.dropWhile_cons, List.map_cons, e]
    split
    · exact ih
    · rfl
theorem trimS_map (l cs : List UInt8) : ((Lib.trimS l cs).map fun b => (b.toNat : Int)) = trimP (fun x => (cs.map fun b => (b.toNat : Int)).contains x) (l.map fun b => (b.toNat : Int)) := by
  have e : ((Lib.trimRightS l cs).map fun b => (b.toNat : Int)) = rdropI (fun x => (cs.map fun b => (b.toNat : Int)).contains x) (l.map fun b => (b.toNat : Int)) := by
    rw [← rdropI_eq, ← List.map_reverse, ← trimLeftS_map, ← List.map_reverse]
    rfl
  unfold Lib.trimS trimP
  rw [trimLeftS_map, e]
theorem strings_Trim_eq (s cs : ByteArray) (hs : s.size ≤ 4611686018427387904) (hc : cs.size < 4294967281) (ha : cs.data.toList.all (fun b => decide (b.toNat < 128)) = true) :
    strings_Trim.f s cs = some (strOfNums (trimP (fun x => (bytesOf cs).contains x) (bytesOf s))) := by
  unfold strings_Trim.f
  rw [if_pos ⟨hs, hc, ha⟩, mk_of_bytes (trimS_map _ _)]
  rfl

theorem impl_Trim_eq (s : ByteArray) (hs : s.size ≤ 4611686018427387904) : impl_TrimText.f s = some (trimV s) := by
  unfold impl_TrimText.f
  rw [strings_Trim_eq s ⟨#[32, 9]⟩ hs (by decide) (by decide), Option.bind_some]
  unfold trimV
  congr 3
  funext x
  have e : bytesOf ⟨#[32, 9]⟩ = [32, 9] := by decide
  rw [e]
  unfold blankI
  by_cases h : x = 32 <;> by_cases g : x = 9 <;> simp [h, g]

theorem cut_len (sep l : List Int) : (cutI sep l).1.length ≤ l.length ∧ (cutI sep l).2.1.length ≤ l.length := by
  induction l with
  | nil => simp [cutI]
  | cons b r ih =>
    unfold cutI
    split
    · simp
    · simp only [List.length_cons]; omega
theorem cutV_size (sep : List Int) (s : ByteArray) : (cutV sep s).1.size ≤ s.size ∧ (cutV sep s).2.1.size ≤ s.size := by
  have := cut_len sep (bytesOf s)
  unfold cutV
  simp only [strOfNums_size]
  rw [bytesOf_length] at this
  exact this
theorem impl_Pair_eq (s : ByteArray) (hs : s.size ≤ 4000000000) : impl_SplitPair.f s = some (pairV s) := by
  have hz := cutV_size [61] s
  unfold impl_SplitPair.f
  rw [strings_Cut_eq s ⟨#[61]⟩ (by omega) (by decide)]
  have e : bytesOf (⟨#[61]⟩ : ByteArray) = [61] := by decide
  rw [e, Option.bind_some, impl_Trim_eq _ (by omega), Option.bind_some, impl_Trim_eq _ (by omega), Option.bind_some]
  rfl

theorem impl_Lower_eq (s : ByteArray) (h : s.size ≤ 4611686018427387904) : impl_LowerText.f s = some (lowerV s) := by unfold impl_LowerText.f; rw [if_pos h]; rfl

theorem impl_inRange_eq (a b c : Int) : impl_inRange.f a b c = some (decide (b ≤ a ∧ a ≤ c)) := by
  unfold impl_inRange.f
  by_cases h : b ≤ a
  · rw [if_pos h]; congr 1; apply decide_eq_decide.mpr; constructor
    · exact fun x => ⟨h, x⟩
    · exact fun x => x.2
  · rw [if_neg h]; congr 1; symm; apply decide_eq_false; omega

theorem impl_tok_fin : ∀ n : Fin 256, impl_isTokenByte.f (n.val : Int) = some (tokB (n.val : Int)) := by decide +kernel
theorem impl_tok_eq {b : Int} (h0 : 0 ≤ b) (h1 : b ≤ 255) : impl_isTokenByte.f b = some (tokB b) := fin256 (p := fun b => impl_isTokenByte.f b = some (tokB b)) impl_tok_fin h0 h1
theorem impl_IsToken_ev (s : ByteArray) (hs : s.size ≤ 4611686018427387904) : Ev (fun k => impl_IsToken.f k s) (tokV s) := by
  have key : ∀ (rest pre : List Int), bytesOf s = pre ++ rest → Ev (fun k => impl_IsToken.l0 k s (s.size : Int) (pre.length : Int)) (rest.all tokB && decide (1 ≤ (s.size : Int) ∧ (s.size : Int) ≤ 40)) := by
    intro rest
    induction rest with
    | nil =>
      intro pre h
      have hz := size_mid h
      simp only [List.length_nil] at hz
      refine Ev.step (f := fun _ => some (decide (1 ≤ (s.size : Int) ∧ (s.size : Int) ≤ 40))) (fun k => ?_) (by simpa using Ev.now _)
      simp only [impl_IsToken.l0]
      rw [if_neg (by omega), impl_inRange_eq, Option.bind_some]
    | cons b rest ih =>
      intro pre h
      have hz := size_mid h
      simp only [List.length_cons] at hz
      have hb := bt_mid h
      have hr : 0 ≤ b ∧ b ≤ 255 := by rw [← hb]; exact bt_range s _
      have hw := len_step pre b (by omega)
      refine Ev.step (f := fun k => if tokB b = true then impl_IsToken.l0 k s (s.size : Int) ((pre ++ [b]).length : Int) else some false) (fun k => ?_) ?_
      · simp only [impl_IsToken.l0]
        rw [if_pos (by omega), if_pos (by omega), if_pos (by omega), hb, hw, impl_tok_eq hr.1 hr.2, Option.bind_some]
      · cases e : tokB b with
        | true => simpa [e] using ih (pre ++ [b]) (by simp [h])
        | false => simpa [e] using Ev.now _
  exact key (bytesOf s) [] rfl

theorem hasQuote (s : ByteArray) (hs : s.size ≤ 140737488351232) : strings_HasPrefix.f s (⟨#[34]⟩ : ByteArray) = some (decide ((bytesOf s).head? = some 34)) := by
  unfold strings_HasPrefix.f stringslite_HasPrefix.f
  have e : ((⟨#[34]⟩ : ByteArray).size : Int) = 1 := rfl
  rw [e]
  match h : bytesOf s with
  | [] =>
    have hz := size_bytes s
    rw [h] at hz
    simp only [List.length_nil] at hz
    rw [if_neg (by omega)]; rfl
  | b :: r =>
    have hz := size_bytes s
    rw [h] at hz
    simp only [List.length_cons] at hz
    rw [if_pos (by omega), if_pos (by omega), if_pos (by omega), Option.bind_some]
    congr 1
    rw [Bool.eq_iff_iff, beq_iff_eq, decide_eq_true_iff, toList_iff]
    have e2 : bytesOf (s.extract 0 ((1 : Int) : Int).toNat) = [b] := by
      rw [bytesOf_extract, h]; rfl
    have e3 : bytesOf (⟨#[34]⟩ : ByteArray) = [34] := by decide
    constructor
    · intro hh
      rw [hh, e3] at e2
      injection e2 with e2
      simp [← e2]
    · intro hh
      apply bytesOf_inj
      rw [e2, e3]
      simp at hh
      rw [hh]
theorem impl_Unq_end (s : ByteArray) (hs : s.size ≤ 140737488351232) (f : Int) (pre acc rest : List Int) (h : bytesOf s = f :: (pre ++ rest)) (hq : rest = [] ∨ ∃ r, rest = 34 :: r) :
    Ev (fun k => impl_UnquoteText.j1 k s acc (((f :: pre).length : Nat) : Int) false) (unqR f acc rest) := by
  have hz := size_mid (pre := f :: pre) (rest := rest) h
  simp only [List.length_cons] at hz
  refine Ev.step (f := fun _ => some (unqR f acc rest)) (fun k => ?_) (Ev.now _)
  simp only [impl_UnquoteText.j1]
  rw [if_neg (by simp), hasQuote s hs, Option.bind_some, h]
  simp only [List.head?_cons, Option.some.injEq, decide_eq_true_eq]
  rcases hq with rfl | ⟨r, rfl⟩
  · simp only [List.length_nil] at hz
    rw [unqR_nil]
    split
    · congr 2
      rw [wrap_id (by omega) (by omega), beq_eq_false_iff_ne]
      simp only [List.length_cons]
      omega
    · rfl
  · simp only [List.length_cons] at hz
    rw [unqR_quote]
    split
    · rename_i hf
      congr 2
      rw [wrap_id (by omega) (by omega), Bool.eq_iff_iff, beq_iff_eq, decide_eq_true_iff]
      simp only [List.length_cons, hf, true_and]
      omega
    · rename_i hf
      simp [hf]
theorem impl_Unq_loop (s : ByteArray) (hs : s.size ≤ 140737488351232) (f : Int) (n : Nat) : ∀ (pre acc rest : List Int), rest.length ≤ n → bytesOf s = f :: (pre ++ rest) → acc.length ≤ pre.length →
    Ev (fun k => impl_UnquoteText.l0 k s acc (((f :: pre).length : Nat) : Int)) (unqR f acc rest) := by
  induction n with
  | zero =>
    intro pre acc rest hr h ha
    obtain rfl : rest = [] := List.eq_nil_of_length_eq_zero (by omega)
    have hz := size_mid (pre := f :: pre) (rest := []) h
    simp only [List.length_nil, List.length_cons] at hz
    refine Ev.step (f := fun k => impl_UnquoteText.j1 k s acc (((f :: pre).length : Nat) : Int) false) (fun k => ?_) (impl_Unq_end s hs f pre acc [] h (.inl rfl))
    simp only [impl_UnquoteText.l0, List.length_cons]
    rw [if_neg (by omega)]
  | succ n ih =>
    intro pre acc rest hr h ha
    match rest, hr with
    | [], _ => exact ih pre acc [] (by simp) h ha
    | b :: rest, hr =>
      have hz := size_mid (pre := f :: pre) (rest := b :: rest) h
      simp only [List.length_cons] at hz hr
      have hb := bt_mid (pre := f :: pre) (rest := rest) h
      have hw := len_step (f :: pre) b (by simp; omega)
      refine Ev.step (f := fun k => impl_UnquoteText.j1 k s acc (((f :: pre).length : Nat) : Int) (b != 34)) (fun k => ?_) ?_
      · simp only [impl_UnquoteText.l0]
        rw [if_pos (by simp; omega), if_pos (by omega), hb]
      by_cases h1 : b = 34
      · subst h1
        exact impl_Unq_end s hs f pre acc (34 :: rest) h (.inr ⟨rest, rfl⟩)
      · have hbn : (b != 34) = true := bne_iff_ne.mpr h1
        rw [hbn]
        by_cases h2 : b = 92
        · subst h2
          match rest, h, hz, hr, hb with
          | [], h, hz, hr, hb =>
            simp only [List.length_nil] at hz
            rw [unqR_last]
            have e := ih (pre ++ [92]) (acc ++ [92]) [] (by simp) (by simpa using h) (by simp; omega)
            rw [unqR_nil] at e
            refine Ev.step (f := fun k => impl_UnquoteText.l0 k s (acc ++ [92]) ((((f :: (pre ++ [92])).length : Nat)) : Int)) (fun k => ?_) e
            simp only [impl_UnquoteText.j1]
            rw [if_pos trivial, if_pos (by omega), if_pos (by simp; omega), hb, if_pos rfl, hw, if_neg (by simp; omega), if_pos (by omega)]
            rfl
          | c :: rest, h, hz, hr, hb =>
            simp only [List.length_cons] at hz hr
            have hc := bt_mid (s := s) (pre := (f :: pre) ++ [92]) (rest := rest) (b := c) (by simpa using h)
            have hw2 := len_step ((f :: pre) ++ [92]) c (by simp; omega)
            rw [unqR_esc]
            have e := ih (pre ++ [92, c]) (acc ++ [c]) rest (by omega) (by simpa using h) (by simp; omega)
            refine Ev.step (f := fun k => impl_UnquoteText.l0 k s (acc ++ [c]) ((((f :: (pre ++ [92, c])).length : Nat)) : Int)) (fun k => ?_) e
            simp only [impl_UnquoteText.j1]
            rw [if_pos trivial, if_pos (by omega), if_pos (by simp; omega), hb, if_pos rfl, hw, if_pos (by simp; omega), if_pos (by omega), if_pos (by omega), hc, hw2]
            simp
        · rw [unqR_other f acc rest b h1 h2]
          have e := ih (pre ++ [b]) (acc ++ [b]) rest (by omega) (by simpa using h) (by simp; omega)
          refine Ev.step (f := fun k => impl_UnquoteText.l0 k s (acc ++ [b]) ((((f :: (pre ++ [b])).length : Nat)) : Int)) (fun k => ?_) e
          simp only [impl_UnquoteText.j1]
          rw [if_pos trivial, if_pos (by omega), if_pos (by simp; omega), hb, if_neg h2, if_pos (by omega), hw]
          rfl
theorem impl_Unq_ev (s : ByteArray) (hs : s.size ≤ 140737488351232) : Ev (fun k => impl_UnquoteText.f k s) (unqV s) := by
  unfold impl_UnquoteText.f unqV
  match h : bytesOf s with
  | [] =>
    have hz := size_bytes s
    rw [h] at hz
    simp only [List.length_nil] at hz
    refine Ev.step (f := fun k => impl_UnquoteText.j1 k s [] 1 false) (fun k => ?_) (Ev.step (f := fun _ => some (strOfNums [], false)) (fun k => ?_) (by simpa [unqL_nil] using Ev.now _))
    · simp only [impl_UnquoteText.l0]
      rw [if_neg (by omega)]
    · simp only [impl_UnquoteText.j1]
      rw [if_neg (by simp), hasQuote s hs, Option.bind_some, h]
      simp
  | f :: rest =>
    have := impl_Unq_loop s hs f rest.length [] [] rest (Nat.le_refl _) h (by simp)
    simpa [unqR] using this

theorem mn_min (a b : Int) : mn a b = min a b := by unfold mn; split <;> omega
theorem impl_Split_loop (s : ByteArray) (hs : s.size ≤ 1099511627776) (q : Bool) (rest : List Int) : ∀ (done cur : List Int) (acc : List ByteArray), bytesOf s = done ++ cur ++ rest → acc.length ≤ done.length →
    Ev (fun k => impl_SplitList.l0 k s acc (done.length : Int) q ((done ++ cur).length : Int)) (acc ++ partsV (cutL q cur rest)) := by
  have hin : ∀ {pre cur rest : List Int}, bytesOf s = pre ++ cur ++ rest → InB cur := by
    intro pre cur rest h
    have := InB_bytes s; rw [h, InB_append, InB_append] at this; exact this.1.2
  have trim1 : ∀ {pre cur rest : List Int}, bytesOf s = pre ++ cur ++ rest → impl_TrimText.f (s.extract pre.length (pre.length + cur.length)) = some (strOfNums (trimP blankI cur)) := by
    intro pre cur rest h
    have hz : (s.extract pre.length (pre.length + cur.length)).size ≤ s.size := by rw [ByteArray.size_extract]; omega
    rw [impl_Trim_eq _ (by omega), ext_mid h, trimV_of (hin h)]
  have facts : ∀ {done cur rest : List Int} {b : Int}, bytesOf s = done ++ cur ++ b :: rest → ((done ++ cur).length : Int) < (s.size : Int) ∧ bt s ((done ++ cur).length : Int) = b ∧ wrap64 (((done ++ cur).length : Int) + 1) = ((done ++ (cur ++ [b])).length : Int) ∧ (s.size : Int) = (done ++ cur).length + (rest.length + 1) := by
    intro done cur rest b h
    have hz := size_mid h
    simp only [List.length_cons] at hz
    refine ⟨by omega, bt_mid h, ?_, by omega⟩
    have := len_step (done ++ cur) b (by omega)
    rw [this, List.append_assoc]
  have over : ∀ (q : Bool) (done : List Int) (acc : List ByteArray) (i : Int), (s.size : Int) < i → (s.size : Int) ≤ done.length → Ev (fun k => impl_SplitList.l0 k s acc (done.length : Int) q i) acc := by
    intro q done acc i hi hd
    refine Ev.step (f := fun _ => some acc) (fun k => ?_) (Ev.now _)
    simp only [impl_SplitList.l0]
    rw [if_neg (by omega), if_neg (by omega)]
  refine cut_ind (p := fun q rest => ∀ (done cur : List Int) (acc : List ByteArray), bytesOf s = done ++ cur ++ rest → acc.length ≤ done.length → Ev (fun k => impl_SplitList.l0 k s acc (done.length : Int) q ((done ++ cur).length : Int)) (acc ++ partsV (cutL q cur rest))) ?_ ?_ ?_ ?_ ?_ ?_ q rest
  · intro q done cur acc h ha
    rw [cutL_nil]
    have hz := size_mid h
    simp only [List.length_nil] at hz
    have hL : (done ++ cur).length = done.length + cur.length := List.length_append
    have hw : wrap64 (((done ++ cur).length : Int) + 1) = ((done ++ cur ++ [0]).length : Int) := len_step (done ++ cur) 0 (by omega)
    have hn1 : ((done.length : Int)).toNat = done.length := by omega
    have hn2 : (((done ++ cur).length : Int)).toNat = done.length + cur.length := by simp only [List.length_append]; omega
    have hm : mn ((done ++ cur).length : Int) (s.size : Int) = ((done ++ cur).length : Int) := by rw [mn_min]; omega
    rw [partsV_cons, partsV_nil, List.append_nil]
    refine Ev.step (f := fun k => impl_SplitList.j1 k s acc (done.length : Int) q ((done ++ cur).length : Int) false) (fun k => ?_) ?_
    · simp only [impl_SplitList.l0]
      rw [if_pos (by omega), if_neg (by omega)]
    · by_cases g : trimP blankI cur = []
      · rw [if_pos g, List.append_nil]
        refine Ev.step (f := fun k => impl_SplitList.l0 k s acc ((done ++ cur ++ [0]).length : Int) q ((done ++ cur ++ [0]).length : Int)) (fun k => ?_) (over q (done ++ cur ++ [0]) acc _ (by simp at hz ⊢; omega) (by simp at hz ⊢; omega))
        simp only [impl_SplitList.j1]
        rw [if_neg (by simp), if_pos (by omega), hm, if_pos (by omega), if_pos (by omega), hn1, hn2, trim1 h, Option.bind_some, if_pos (strOf_nil.mpr g), hw]
      · rw [if_neg g]
        refine Ev.step (f := fun k => impl_SplitList.l0 k s (acc ++ [strOfNums (trimP blankI cur)]) ((done ++ cur ++ [0]).length : Int) q ((done ++ cur ++ [0]).length : Int)) (fun k => ?_) (over q (done ++ cur ++ [0]) _ _ (by simp at hz ⊢; omega) (by simp at hz ⊢; omega))
        simp only [impl_SplitList.j1]
        rw [if_neg (by simp), if_pos (by omega), hm, if_pos (by omega), if_pos (by omega), hn1, hn2, trim1 h, Option.bind_some, if_neg (fun z => g (strOf_nil.mp z)), if_pos (by omega), hw]
  · intro done cur acc h ha
    obtain ⟨f1, f2, f3, f4⟩ := facts h
    rw [cutL_last]
    simp only [List.length_nil] at f4
    have hL : (done ++ cur).length = done.length + cur.length := List.length_append
    have e : wrap64 ((wrap64 (((done ++ cur).length : Int) + 1)) + 1) = (s.size : Int) + 1 := by
      rw [f3, wrap_id (by omega) (by simp at f4 ⊢; omega)]; simp at f4 ⊢; omega
    have h2 : bytesOf s = done ++ (cur ++ [92]) := by rw [h]; simp
    have hz2 : s.size = done.length + (cur ++ [92]).length := by rw [← bytesOf_length, h2, List.length_append]
    have hn1 : ((done.length : Int)).toNat = done.length := by omega
    have tr : impl_TrimText.f (s.extract done.length s.size) = some (strOfNums (trimP blankI (cur ++ [92]))) := by
      have := trim1 (pre := done) (cur := cur ++ [92]) (rest := []) (by simpa using h2)
      rwa [← hz2] at this
    refine Ev.step (f := fun k => impl_SplitList.j1 k s acc (done.length : Int) true ((done ++ cur).length : Int) true) (fun k => ?_) (Ev.step (f := fun k => impl_SplitList.j2 k s acc (done.length : Int) true ((done ++ cur).length : Int)) (fun k => ?_) (Ev.step (f := fun k => impl_SplitList.j3 k s acc (done.length : Int) true ((done ++ cur).length : Int) true) (fun k => ?_) (Ev.step (f := fun k => impl_SplitList.l0 k s acc (done.length : Int) true ((s.size : Int) + 1)) (fun k => ?_) (Ev.step (f := fun _ => some (acc ++ partsV [cur ++ [92]])) (fun k => ?_) (Ev.now _)))))
    · simp only [impl_SplitList.l0]
      rw [if_pos (by omega), if_pos f1, if_pos trivial]
    · simp only [impl_SplitList.j1]
      rw [if_pos trivial, if_pos (by omega), if_pos f1, if_neg (by rw [f2]; decide)]
    · simp only [impl_SplitList.j2]
      rw [if_pos trivial, if_pos (by omega), if_pos f1, f2]; rfl
    · simp only [impl_SplitList.j3]
      rw [if_pos trivial, e]
    · simp only [impl_SplitList.l0]
      rw [if_neg (by omega), if_pos (by omega), if_pos (by omega), if_pos (by omega), hn1, tr, Option.bind_some, partsV_cons, partsV_nil, List.append_nil]
      by_cases g : trimP blankI (cur ++ [92]) = []
      · rw [if_pos (strOf_nil.mpr g), if_pos g, List.append_nil]
      · rw [if_neg (fun z => g (strOf_nil.mp z)), if_neg g, if_pos (by omega)]
  · intro c r ih done cur acc h ha
    obtain ⟨f1, f2, f3, f4⟩ := facts h
    rw [cutL_esc]
    have n := ih done (cur ++ [92, c]) acc (by rw [h]; simp) ha
    have e : wrap64 ((wrap64 (((done ++ cur).length : Int) + 1)) + 1) = ((done ++ (cur ++ [92, c])).length : Int) := by
      rw [f3, wrap_id (by omega) (by simp at f4 ⊢; omega)]; simp; omega
    rw [← e] at n
    refine Ev.step (f := fun k => impl_SplitList.j1 k s acc (done.length : Int) true ((done ++ cur).length : Int) true) (fun k => ?_) (Ev.step (f := fun k => impl_SplitList.j2 k s acc (done.length : Int) true ((done ++ cur).length : Int)) (fun k => ?_) (Ev.step (f := fun k => impl_SplitList.j3 k s acc (done.length : Int) true ((done ++ cur).length : Int) true) (fun k => ?_) (Ev.step (fun k => ?_) n)))
    · simp only [impl_SplitList.l0]
      rw [if_pos (by omega), if_pos f1, if_pos trivial]
    · simp only [impl_SplitList.j1]
      rw [if_pos trivial, if_pos (by omega), if_pos f1, if_neg (by rw [f2]; decide)]
    · simp only [impl_SplitList.j2]
      rw [if_pos trivial, if_pos (by omega), if_pos f1, f2]; rfl
    · simp only [impl_SplitList.j3]
      rw [if_pos trivial]
  · intro q r ih done cur acc h ha
    obtain ⟨f1, f2, f3, f4⟩ := facts h
    rw [cutL_quote]
    have n := ih done (cur ++ [34]) acc (by rw [h]; simp) ha
    rw [← f3] at n
    refine Ev.step (f := fun k => impl_SplitList.j1 k s acc (done.length : Int) q ((done ++ cur).length : Int) true) (fun k => ?_) (Ev.step (f := fun k => impl_SplitList.j2 k s acc (done.length : Int) (!q) ((done ++ cur).length : Int)) (fun k => ?_) (Ev.step (f := fun k => impl_SplitList.j3 k s acc (done.length : Int) (!q) ((done ++ cur).length : Int) false) (fun k => ?_) (Ev.step (fun k => ?_) n)))
    · simp only [impl_SplitList.l0]
      rw [if_pos (by omega), if_pos f1]
      cases q
      · rw [if_neg (by simp), if_pos (by omega), f2]; rfl
      · rw [if_pos rfl]
    · simp only [impl_SplitList.j1]
      rw [if_pos trivial, if_pos (by omega), if_pos f1, if_pos f2]
    · simp only [impl_SplitList.j2]
      cases q
      · simp only [Bool.not_false]
        rw [if_pos trivial, if_pos (by omega), if_pos f1, f2]; rfl
      · simp
    · simp only [impl_SplitList.j3]
      rw [if_neg (by simp)]
  · intro r ih done cur acc h ha
    obtain ⟨f1, f2, f3, f4⟩ := facts h
    rw [cutL_comma]
    have hL : (done ++ cur).length = done.length + cur.length := List.length_append
    have hm : mn ((done ++ cur).length : Int) (s.size : Int) = ((done ++ cur).length : Int) := by rw [mn_min]; omega
    have hn1 : ((done.length : Int)).toNat = done.length := by omega
    have hn2 : (((done ++ cur).length : Int)).toNat = done.length + cur.length := by omega
    have tr := trim1 h
    rw [partsV_cons]
    refine Ev.step (f := fun k => impl_SplitList.j1 k s acc (done.length : Int) false ((done ++ cur).length : Int) false) (fun k => ?_) ?_
    · simp only [impl_SplitList.l0]
      rw [if_pos (by omega), if_pos f1, if_neg (by simp), if_pos (by omega), f2]; rfl
    · by_cases g : trimP blankI cur = []
      · rw [if_pos g, List.nil_append]
        have n := ih (done ++ (cur ++ [44])) [] acc (by rw [h]; simp) (by simp; omega)
        rw [List.append_nil, ← f3] at n
        refine Ev.step (fun k => ?_) n
        simp only [impl_SplitList.j1]
        rw [if_neg (by simp), if_pos (by omega), hm, if_pos (by omega), if_pos (by omega), hn1, hn2, tr, Option.bind_some, if_pos (strOf_nil.mpr g)]
      · rw [if_neg g]
        have n := ih (done ++ (cur ++ [44])) [] (acc ++ [strOfNums (trimP blankI cur)]) (by rw [h]; simp) (by simp; omega)
        rw [List.append_nil, ← f3, List.append_assoc] at n
        refine Ev.step (fun k => ?_) n
        simp only [impl_SplitList.j1]
        rw [if_neg (by simp), if_pos (by omega), hm, if_pos (by omega), if_pos (by omega), hn1, hn2, tr, Option.bind_some, if_neg (fun z => g (strOf_nil.mp z)), if_pos (by omega)]
  · intro q b r g1 g2 g3 ih done cur acc h ha
    obtain ⟨f1, f2, f3, f4⟩ := facts h
    rw [cutL_other q cur r b g1 g2 g3]
    have n := ih done (cur ++ [b]) acc (by rw [h]; simp) ha
    rw [← f3] at n
    refine Ev.step (f := fun k => impl_SplitList.j1 k s acc (done.length : Int) q ((done ++ cur).length : Int) true) (fun k => ?_) (Ev.step (f := fun k => impl_SplitList.j2 k s acc (done.length : Int) q ((done ++ cur).length : Int)) (fun k => ?_) (Ev.step (f := fun k => impl_SplitList.j3 k s acc (done.length : Int) q ((done ++ cur).length : Int) false) (fun k => ?_) (Ev.step (fun k => ?_) n)))
    · simp only [impl_SplitList.l0]
      rw [if_pos (by omega), if_pos f1]
      cases q
      · have : (b != 44) = true := bne_iff_ne.mpr (fun z => g3 ⟨rfl, z⟩)
        rw [if_neg (by simp), if_pos (by omega), f2, this]
      · rw [if_pos rfl]
    · simp only [impl_SplitList.j1]
      rw [if_pos trivial, if_pos (by omega), if_pos f1, if_neg (by rw [f2]; exact g2)]
    · simp only [impl_SplitList.j2]
      cases q
      · rfl
      · have : (b == 92) = false := beq_eq_false_iff_ne.mpr (fun z => g1 ⟨rfl, z⟩)
        rw [if_pos rfl, if_pos (by omega), if_pos f1, f2, this]
    · simp only [impl_SplitList.j3]
      rw [if_neg (by simp)]
theorem impl_Split_ev (s : ByteArray) (hs : s.size ≤ 1099511627776) : Ev (fun k => impl_SplitList.f k s) (splitV s) := by
  have := impl_Split_loop s hs false (bytesOf s) [] [] [] (by simp) (by simp)
  simpa [impl_SplitList.f, splitV_parts] using this

theorem impl_PD_part (p : ByteArray) (hp : p.size ≤ 4000000) (L : List ByteArray) (acc : List S32) (ha : acc.length ≤ 2000000) (i : Int) (h0 : 0 ≤ i) (h1 : i < (L.length : Int)) (hx : rdOf ByteArray.empty L i = p) (R : List S32)
    (e : Ev (fun k => impl_ParseDirectives.l0 k (acc ++ dirOf p) L (L.length : Int) (wrap64 (i + 1))) R) : Ev (fun k => impl_ParseDirectives.l0 k acc L (L.length : Int) i) R := by
  have hz := pair_sizes p
  have skip : dirOf p = [] → Ev (fun k => impl_ParseDirectives.l0 k acc L (L.length : Int) (wrap64 (i + 1))) R := fun h => by rw [h, List.append_nil] at e; exact e
  have hn := impl_IsToken_ev (pairV p).1 (by omega)
  have step2 : ∀ fine : Bool, ((pairV p).2.2 = true → fine = tokV (pairV p).2.1) → ((pairV p).2.2 = false → fine = true) → Ev (fun k => impl_ParseDirectives.j1 k acc (pairV p).1 (pairV p).2.1 (pairV p).2.2 fine L (L.length : Int) i (lowerV (pairV p).1) (pairV p).2.1 (pairV p).2.2) R := by
    intro fine hf1 hf2
    have plain : ¬ ((pairV p).2.2 = true ∧ isQuo (pairV p).2.1 = true) → Ev (fun k => impl_ParseDirectives.j2 k acc (pairV p).1 (pairV p).2.1 fine L (L.length : Int) i false (lowerV (pairV p).1) (pairV p).2.1 (pairV p).2.2) R := by
      intro hq
      cases hfine : fine with
      | true =>
        have hf : (pairV p).2.2 = true → tokV (pairV p).2.1 = true := fun z => by rw [← hf1 z]; exact hfine
        refine Ev.step (f := fun k => (impl_IsToken.f k (pairV p).1).bind fun t => if t = true then impl_ParseDirectives.l0 k (acc ++ [(⟨lowerV (pairV p).1, (pairV p).2.1, (pairV p).2.2⟩ : S32)]) L (L.length : Int) (wrap64 (i + 1)) else impl_ParseDirectives.l0 k acc L (L.length : Int) (wrap64 (i + 1))) (fun k => ?_) (Ev.bind hn ?_)
        · simp only [impl_ParseDirectives.j2]
          rw [if_neg (by simp), if_pos trivial]
          congr 1; funext t
          rw [if_pos (show acc.length < 3518437208883 by omega)]
        · by_cases g : tokV (pairV p).1 = true
          · have : dirOf p = [⟨lowerV (pairV p).1, (pairV p).2.1, (pairV p).2.2⟩] := by unfold dirOf; rw [if_neg hq, if_pos ⟨hf, g⟩]
            rw [this] at e
            exact Ev.pos g e
          · exact Ev.neg g (skip (by unfold dirOf; rw [if_neg hq, if_neg (fun z => g z.2)]))
      | false =>
        have hh : (pairV p).2.2 = true := by
          cases h : (pairV p).2.2 with
          | true => rfl
          | false => have := hf2 h; rw [hfine] at this; simp at this
        have ht : tokV (pairV p).2.1 = false := by rw [← hf1 hh]; exact hfine
        refine Ev.step (fun k => ?_) (skip (by unfold dirOf; rw [if_neg hq, if_neg (fun z => by have := z.1 hh; rw [ht] at this; simp at this)]))
        simp only [impl_ParseDirectives.j2]
        rw [if_neg (by simp), if_neg (by simp)]
    by_cases hh : (pairV p).2.2 = true
    · refine Ev.step (f := fun k => impl_ParseDirectives.j2 k acc (pairV p).1 (pairV p).2.1 fine L (L.length : Int) i (isQuo (pairV p).2.1) (lowerV (pairV p).1) (pairV p).2.1 (pairV p).2.2) (fun k => ?_) ?_
      · simp only [impl_ParseDirectives.j1]
        rw [if_pos hh, hasQuote _ (by omega), Option.bind_some]
        rfl
      · cases hq : isQuo (pairV p).2.1 with
        | false => exact plain (fun z => by rw [hq] at z; simp at z)
        | true =>
          refine Ev.step (f := fun k => (impl_UnquoteText.f k (pairV p).2.1).bind fun t => if t.2 = true then ((impl_IsToken.f k (pairV p).1).bind fun u => if u = true then impl_ParseDirectives.l0 k (acc ++ [(⟨lowerV (pairV p).1, t.1, (pairV p).2.2⟩ : S32)]) L (L.length : Int) (wrap64 (i + 1)) else impl_ParseDirectives.l0 k acc L (L.length : Int) (wrap64 (i + 1))) else impl_ParseDirectives.l0 k acc L (L.length : Int) (wrap64 (i + 1))) (fun k => ?_) (Ev.bind (impl_Unq_ev _ (by omega)) ?_)
          · simp only [impl_ParseDirectives.j2]
            rw [if_pos trivial]
            congr 1; funext t; congr 1; congr 1; funext u
            rw [if_pos (show acc.length < 3518437208883 by omega)]
          · by_cases hu : (unqV (pairV p).2.1).2 = true
            · refine Ev.pos hu (Ev.bind hn ?_)
              by_cases g : tokV (pairV p).1 = true
              · have : dirOf p = [⟨lowerV (pairV p).1, (unqV (pairV p).2.1).1, (pairV p).2.2⟩] := by unfold dirOf; rw [if_pos ⟨hh, hq⟩, if_pos ⟨hu, g⟩]
                rw [this] at e
                exact Ev.pos g e
              · exact Ev.neg g (skip (by unfold dirOf; rw [if_pos ⟨hh, hq⟩, if_neg (fun z => g z.2)]))
            · exact Ev.neg hu (skip (by unfold dirOf; rw [if_pos ⟨hh, hq⟩, if_neg (fun z => hu z.1)]))
    · refine Ev.step (fun k => ?_) (plain (fun z => hh z.1))
      simp only [impl_ParseDirectives.j1]
      rw [if_neg hh]
  have hp2 := impl_Pair_eq p (by omega)
  have hl2 := impl_Lower_eq (pairV p).1 (by omega)
  by_cases hh : (pairV p).2.2 = true
  · refine Ev.step (f := fun k => (impl_IsToken.f k (pairV p).2.1).bind fun t => impl_ParseDirectives.j1 k acc (pairV p).1 (pairV p).2.1 (pairV p).2.2 t L (L.length : Int) i (lowerV (pairV p).1) (pairV p).2.1 (pairV p).2.2) (fun k => ?_) (Ev.bind (impl_IsToken_ev _ (by omega)) (step2 _ (fun _ => rfl) (fun z => by rw [hh] at z; simp at z)))
    simp only [impl_ParseDirectives.l0]
    rw [if_pos h1, if_pos h0, if_pos h1, hx, hp2, Option.bind_some, hl2, Option.bind_some, if_pos hh]
  · refine Ev.step (fun k => ?_) (step2 true (fun z => absurd z hh) (fun _ => rfl))
    simp only [impl_ParseDirectives.l0]
    rw [if_pos h1, if_pos h0, if_pos h1, hx, hp2, Option.bind_some, hl2, Option.bind_some, if_neg hh]
theorem impl_PD_ev (s : ByteArray) (hs : s.size ≤ 1048576) : Ev (fun k => impl_ParseDirectives.f k s) (pdV s) := by
  unfold impl_ParseDirectives.f
  refine Ev.bind (impl_Split_ev s (by omega)) ?_
  have h1 := split_sizes s
  have h2 := split_count s
  unfold pdV
  generalize splitV s = L at h1 h2
  have key : ∀ (rest pre : List ByteArray), L = pre ++ rest → Ev (fun k => impl_ParseDirectives.l0 k (pre.flatMap dirOf) L (L.length : Int) (pre.length : Int)) (L.flatMap dirOf) := by
    intro rest
    induction rest with
    | nil =>
      intro pre h
      have hl2 := len_mid h
      simp only [List.length_nil] at hl2
      have e : pre = L := by rw [h]; simp
      subst e
      refine Ev.step (f := fun _ => some (pre.flatMap dirOf)) (fun k => ?_) (Ev.now _)
      simp only [impl_ParseDirectives.l0]
      rw [if_neg (by omega)]
    | cons x rest ih =>
      intro pre h
      have hl2 := len_mid h
      simp only [List.length_cons] at hl2
      have hst := len_step pre x (by omega)
      have hp := pd_len pre
      have hx := h1 x (by rw [h]; simp)
      refine impl_PD_part x (by omega) L _ (by omega) _ (by omega) (by omega) (rdS_mid2 h) _ ?_
      have := ih (pre ++ [x]) (by simp [h])
      rw [List.flatMap_append] at this
      rw [hst]
      simpa using this
  exact key L [] rfl

theorem pdV_len (s : ByteArray) : (pdV s).length ≤ s.size + 1 := by
  have h1 := pd_len (splitV s)
  have h2 := split_count s
  unfold pdV
  omega
theorem FnExactParseDirectives : laws_FnExactParseDirectives.Pure := by
  intro s _
  unfold laws_FnExactParseDirectives.f
  by_cases h : (s.size : Int) > 1048576
  · exact ⟨0, by rw [if_pos h]⟩
  · simp only [if_neg h]
    apply Ev.rounds
    obtain ⟨mt, hmt⟩ := mt_all
    have hl := pdV_len s
    have I := impl_PD_ev s (by omega)
    refine Ev.bind (spec_PD_ev s (by omega)) (Ev.bind I (Ev.bind (eqDirectiveS_self _ (by omega)) (Ev.pos rfl ?_)))
    refine Ev.bind (markDirectiveS_ev mt hmt _ (by omega)) (Ev.bind (heldDirectiveS_ev mt hmt _ (by omega)) (Ev.neg (by omega) (Ev.pos rfl ?_)))
    refine Ev.bind I (Ev.bind (eqDirectiveS_self _ (by omega)) (Ev.pos rfl ?_))
    exact Ev.bind (heldDirectiveS_ev mt hmt _ (by omega)) (Ev.neg (by omega) (Ev.pos rfl (Ev.now _)))

end Go.Proofs.YtmppjfnojkgllacDoor.Pure
