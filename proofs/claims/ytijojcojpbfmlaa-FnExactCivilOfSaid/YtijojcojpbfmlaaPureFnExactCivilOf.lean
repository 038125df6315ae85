/- The pure part of FnExactCivilOf: for every input within the statement's bounds the printed law answers true. Conditions: the statement's own bounds alone. -/
import Derived.Test.YtijojcojpbfmlaaPFnExactCivilOfx1
import Derived.Test.YtijojcojpbfmlaaPFnExactCivilOfx2
import Derived.OpenShut
namespace Go.Proofs.Ytijojcojpbfmlaa.Pure
open Go.RowKit Go.Proofs.Ytijojcojpbfmlaa.PFnExactCivilOf Go.Proofs.YtijojcojpbfmlaaW.PrintWords Go.Proofs.YtijojcojpbfmlaaW.PrintLast
set_option linter.unusedSimpArgs false
set_option linter.unusedVariables false

/-! ### Texts as lists of numbers -/
def InB (l : List Int) : Prop := ∀ x ∈ l, 0 ≤ x ∧ x ≤ 255
theorem InB_nil : InB [] := fun x hx => by simp at hx
theorem InB_cons {b : Int} {l : List Int} : InB (b :: l) ↔ (0 ≤ b ∧ b ≤ 255) ∧ InB l := by simp [InB]
theorem InB_append {l m : List Int} : InB (l ++ m) ↔ InB l ∧ InB m := by
  simp only [InB, List.mem_append]
  exact ⟨fun h => ⟨fun x hx => h x (.inl hx), fun x hx => h x (.inr hx)⟩, fun h x hx => hx.elim (h.1 x) (h.2 x)⟩
theorem InB_take {l : List Int} (n : Nat) (h : InB l) : InB (l.take n) := fun x hx => h x (List.mem_of_mem_take hx)
theorem InB_drop {l : List Int} (n : Nat) (h : InB l) : InB (l.drop n) := fun x hx => h x (List.mem_of_mem_drop hx)
theorem InB_bytes (s : ByteArray) : InB (bytesOf s) := by
  intro x hx
  unfold bytesOf at hx
  obtain ⟨b, _, rfl⟩ := List.mem_map.1 hx
  have := b.toNat_lt
  omega
theorem strOf_bytesOf (s : ByteArray) : strOfNums (bytesOf s) = s := by
  obtain ⟨⟨l⟩⟩ := s
  unfold strOfNums bytesOf
  simp only [List.map_map]
  congr 2
  exact (List.map_congr_left (fun b _ => by simp)).trans (List.map_id l)
theorem bytesOf_strOf {l : List Int} (h : InB l) : bytesOf (strOfNums l) = l := by
  unfold strOfNums bytesOf
  simp only [List.map_map]
  refine (List.map_congr_left (fun x hx => ?_)).trans (List.map_id l)
  have := h x hx
  simp only [Function.comp_apply, id, UInt8.toNat_ofNat']
  omega
theorem bytesOf_inj {s t : ByteArray} (h : bytesOf s = bytesOf t) : s = t := by rw [← strOf_bytesOf s, h, strOf_bytesOf]
theorem bytesOf_append (s t : ByteArray) : bytesOf (s ++ t) = bytesOf s ++ bytesOf t := by
  unfold bytesOf
  rw [ByteArray.data_append, Array.toList_append, List.map_append]
theorem bytesOf_extract (s : ByteArray) (a b : Nat) : bytesOf (s.extract a b) = ((bytesOf s).take b).drop a := by
  unfold bytesOf
  rw [ByteArray.data_extract, Array.toList_extract, List.extract_eq_take_drop, List.map_take, List.map_drop, List.take_drop]
  rcases Nat.le_total a b with h | h
  · rw [Nat.add_sub_cancel' h]
  · rw [Nat.sub_eq_zero_of_le h, List.drop_eq_nil_of_le (by simp; omega), List.drop_eq_nil_of_le (by simp; omega)]
theorem toList_iff {s t : ByteArray} : s.toList = t.toList ↔ s = t := by
  rw [ByteArray.toList_eq, ByteArray.toList_eq]
  constructor
  · intro h
    obtain ⟨⟨l⟩⟩ := s
    obtain ⟨⟨m⟩⟩ := t
    simp only at h
    rw [h]
  · rintro rfl; rfl
theorem size_bytes (s : ByteArray) : (s.size : Int) = ((bytesOf s).length : Int) := by rw [bytesOf_length]
theorem getD_mid {α : Type} {l pre rest : List α} {b d : α} (h : l = pre ++ b :: rest) : l.getD ((pre.length : Int)).toNat d = b := by subst h; simp
theorem len_mid {α : Type} {l pre rest : List α} (h : l = pre ++ rest) : l.length = pre.length + rest.length := by rw [h, List.length_append]
theorem rd_mid {l pre rest : List Int} {b : Int} (h : l = pre ++ b :: rest) : rd l (pre.length : Int) = b := by
  subst h
  unfold rd
  simp
theorem bt_mid {s : ByteArray} {pre rest : List Int} {b : Int} (h : bytesOf s = pre ++ b :: rest) : bt s (pre.length : Int) = b := by
  rw [← rd_bytesOf]; exact rd_mid h
theorem size_mid {s : ByteArray} {pre rest : List Int} (h : bytesOf s = pre ++ rest) : (s.size : Int) = (pre.length : Int) + (rest.length : Int) := by
  rw [size_bytes, h]; simp
theorem mid_step {l pre rest : List Int} {b : Int} (h : l = pre ++ b :: rest) : l = (pre ++ [b]) ++ rest := by simp [h]
theorem wrap_id {n : Int} (h0 : -9223372036854775808 ≤ n) (h1 : n ≤ 9223372036854775807) : wrap64 n = n := by unfold wrap64; omega
theorem len_step {α : Type} (pre : List α) (b : α) (h : pre.length ≤ 9223372036854775000) : wrap64 ((pre.length : Int) + 1) = ((pre ++ [b]).length : Int) := by
  rw [wrap_id (by omega) (by omega)]; simp
/-! ### Loops over lists -/
theorem map_loop {α β : Type} (da : α) (conv : α → β) (x0 : List α) (hn : x0.length ≤ 4611686018427387904) (g : Nat → List β → Int → Option (List β))
    (hg : ∀ k x3 i, g (k + 1) x3 i = if i < (x0.length : Int) then (if 0 ≤ i then (if i < (x3.length : Int) then g k (x3.set (i : Int).toNat (conv (x0.getD i.toNat da))) (wrap64 (i + 1)) else none) else none) else some x3) (z : β) :
    Ev (fun k => g k (List.replicate x0.length z) 0) (x0.map conv) := by
  have key : ∀ rest pre, x0 = pre ++ rest → Ev (fun k => g k (pre.map conv ++ List.replicate rest.length z) (pre.length : Int)) (x0.map conv) := by
    intro rest
    induction rest with
    | nil =>
      intro pre h
      refine Ev.step (f := fun _ => some (x0.map conv)) (fun k => ?_) (Ev.now _)
      rw [hg, if_neg (by rw [h]; simp)]
      simp [h]
    | cons b rest ih =>
      intro pre h
      have hl : x0.length = pre.length + (rest.length + 1) := by rw [h]; simp
      refine Ev.step (f := fun k => g k ((pre ++ [b]).map conv ++ List.replicate rest.length z) ((pre ++ [b]).length : Int)) (fun k => ?_) (ih (pre ++ [b]) (by simp [h]))
      rw [hg, if_pos (by omega), if_pos (by omega), if_pos (by simp; omega), wrap_id (by omega) (by omega)]
      have e1 : x0.getD ((pre.length : Int)).toNat da = b := by rw [h]; simp
      rw [e1]
      congr 1
      · simp [List.replicate_succ, List.set_append]
      · simp
  exact key x0 [] rfl
theorem same_loop {α : Type} (a : List α) (hn : a.length ≤ 4611686018427387904) (g : Nat → Int → Option Bool)
    (hg : ∀ k i, 0 ≤ i → i < (a.length : Int) → g (k + 1) i = g k (wrap64 (i + 1))) (he : ∀ k, g (k + 1) (a.length : Int) = some true) : Ev (fun k => g k 0) true := by
  have key : ∀ d i : Nat, i + d = a.length → Ev (fun k => g k (i : Int)) true := by
    intro d
    induction d with
    | zero => intro i h; obtain rfl : i = a.length := by omega
              exact Ev.step he (Ev.now _)
    | succ d ih =>
      intro i h
      refine Ev.step (f := fun k => g k ((i + 1 : Nat) : Int)) (fun k => ?_) (ih (i + 1) (by omega))
      rw [hg k i (by omega) (by omega), wrap_id (by omega) (by omega)]; rfl
  exact key a.length 0 (by omega)
theorem Ev.mp {α : Type} {g f : Nat → Option α} {r : α} (h : Ev f r) (e : ∀ k, g k = f k) : Ev g r := Ev.congr e h
theorem Ev.step2 {α : Type} {g f : Nat → Option α} {r : α} (h : ∃ K, ∀ k, K ≤ k → g (k + 1) = f k) (e : Ev f r) : Ev g r := by
  obtain ⟨K, hK⟩ := h
  obtain ⟨K', hK'⟩ := e
  refine ⟨max K K' + 1, fun k hk => ?_⟩
  obtain ⟨k, rfl⟩ : ∃ m, k = m + 1 := ⟨k - 1, by omega⟩
  rw [hK k (by omega), hK' k (by omega)]
/-- Every element turned into the next of a row of marks. -/
def markL {α : Type} (mk : Int → α) (c : Nat) : Int → List α → List α
  | _, [] => []
  | k, _ :: r => mk k :: markL mk c (k + c) r
theorem markL_length {α : Type} (mk : Int → α) (c : Nat) (l : List α) : ∀ k, (markL mk c k l).length = l.length := by
  induction l with
  | nil => intro k; rfl
  | cons x r ih => intro k; simp [markL, ih]
theorem mark_loop {α : Type} (mk : Int → α) (c : Nat) (g : Nat → List α → Int → Int → Option (Int × List α)) (B : Int) (hB : B ≤ 4611686018427387904)
    (hg : ∀ (l : List α) (k0 i : Int), 0 ≤ i → i < (l.length : Int) → 0 ≤ k0 → k0 + c ≤ B → ∃ K, ∀ k, K ≤ k → g (k + 1) l k0 i = g k (l.set i.toNat (mk k0)) (k0 + c) (wrap64 (i + 1)))
    (he : ∀ k (l : List α) (k0 : Int), g (k + 1) l k0 (l.length : Int) = some (k0, l)) (l : List α) (hl : l.length ≤ 4611686018427387904) (k0 : Int) (h0 : 0 ≤ k0) (h1 : k0 + c * l.length ≤ B) :
    Ev (fun k => g k l k0 0) (k0 + c * l.length, markL mk c k0 l) := by
  have key : ∀ (rest pre : List α) (k0 : Int), 0 ≤ k0 → k0 + c * rest.length ≤ B → pre.length + rest.length ≤ 4611686018427387904 → Ev (fun k => g k (pre ++ rest) k0 (pre.length : Int)) (k0 + c * rest.length, pre ++ markL mk c k0 rest) := by
    intro rest
    induction rest with
    | nil =>
      intro pre k0 _ _ _
      refine Ev.step (f := fun _ => some (k0, pre)) (fun k => ?_) (by simpa [markL] using Ev.now _)
      have := he k pre k0
      simpa using this
    | cons x rest ih =>
      intro pre k0 h0 h1 h2
      simp only [List.length_cons] at h1 h2
      have hc : (c : Int) * ((rest.length + 1 : Nat) : Int) = c * rest.length + c := by rw [Int.natCast_add, Int.mul_add]; simp
      rw [hc] at h1
      have hcn : 0 ≤ (c : Int) * (rest.length : Int) := Int.mul_nonneg (by omega) (by omega)
      obtain ⟨K, hK⟩ := hg (pre ++ x :: rest) k0 (pre.length : Int) (by omega) (by simp; omega) h0 (by omega)
      have e := ih (pre ++ [mk k0]) (k0 + c) (by omega) (by omega) (by simp; omega)
      have e2 : (k0 + (c : Int)) + c * rest.length = k0 + c * ((x :: rest).length : Int) := by simp only [List.length_cons]; rw [hc]; omega
      rw [e2] at e
      refine Ev.step2 (f := fun k => g k (pre ++ [mk k0] ++ rest) (k0 + c) ((pre ++ [mk k0]).length : Int)) ⟨K, fun k hk => ?_⟩ (by simpa [markL] using e)
      rw [hK k hk, wrap_id (by omega) (by omega)]
      simp [List.set_append]
  have := key l [] k0 h0 h1 (by simpa using hl)
  simpa using this
theorem held_loop {α : Type} (mk : Int → α) (c : Nat) (l0 l : List α) (k0 : Int) (hl : l = markL mk c k0 l0) (g : Nat → Int → Int → Option Int) (B : Int) (hB : B ≤ 4611686018427387904)
    (hg : ∀ (k1 i : Int), 0 ≤ i → i < (l.length : Int) → 0 ≤ k1 → k1 + c ≤ B → l[i.toNat]? = some (mk k1) → ∃ K, ∀ k, K ≤ k → g (k + 1) k1 i = g k (k1 + c) (wrap64 (i + 1)))
    (he : ∀ k (k1 : Int), g (k + 1) k1 (l.length : Int) = some k1) (hn : l0.length ≤ 4611686018427387904) (h0 : 0 ≤ k0) (h1 : k0 + c * l0.length ≤ B) :
    Ev (fun k => g k k0 0) (k0 + c * l0.length) := by
  have hlen : l.length = l0.length := by rw [hl, markL_length]
  have key : ∀ (rest : List α) (pre : List α) (k1 : Int), l = pre ++ markL mk c k1 rest → 0 ≤ k1 → k1 + c * rest.length ≤ B → Ev (fun k => g k k1 (pre.length : Int)) (k1 + c * rest.length) := by
    intro rest
    induction rest with
    | nil =>
      intro pre k1 h _ _
      refine Ev.step (f := fun _ => some k1) (fun k => ?_) (by simpa using Ev.now _)
      have := he k k1
      rw [h] at this
      simpa [markL] using this
    | cons x rest ih =>
      intro pre k1 h h0 h1
      simp only [List.length_cons] at h1
      have hc : (c : Int) * ((rest.length + 1 : Nat) : Int) = c * rest.length + c := by rw [Int.natCast_add, Int.mul_add]; simp
      rw [hc] at h1
      have hcn : 0 ≤ (c : Int) * (rest.length : Int) := Int.mul_nonneg (by omega) (by omega)
      have hl2 : l.length = pre.length + (rest.length + 1) := by rw [h]; simp [markL_length]
      obtain ⟨K, hK⟩ := hg k1 (pre.length : Int) (by omega) (by omega) h0 (by omega) (by rw [h]; simp [markL])
      have e := ih (pre ++ [mk k1]) (k1 + c) (by rw [h]; simp [markL]) (by omega) (by omega)
      have e2 : (k1 + (c : Int)) + c * rest.length = k1 + c * ((x :: rest).length : Int) := by simp only [List.length_cons]; rw [hc]; omega
      rw [e2] at e
      refine Ev.step2 (f := fun k => g k (k1 + c) ((pre ++ [mk k1]).length : Int)) ⟨K, fun k hk => ?_⟩ e
      rw [hK k hk, wrap_id (by omega) (by omega)]
      simp
  exact key l0 [] k0 (by simpa using hl) h0 h1
theorem Ev.pos {α : Type} {c : Prop} [Decidable c] {f g : Nat → Option α} {r : α} (h : c) (e : Ev f r) : Ev (fun k => if c then f k else g k) r := by simp only [if_pos h]; exact e
theorem Ev.neg {α : Type} {c : Prop} [Decidable c] {f g : Nat → Option α} {r : α} (h : ¬ c) (e : Ev g r) : Ev (fun k => if c then f k else g k) r := by simp only [if_neg h]; exact e
theorem Ev.get {α β : Type} {f : Nat → α → Option β} {a : α} {r : β} (e : Ev (fun n => f n a) r) : Ev (fun n => (some a).bind (f n)) r := e

theorem tmod_fix (a m : Int) (h1 : 1 ≤ m) (h2 : m ≤ 1000000000000) : Int.tmod (wrap64 (Int.tmod a m + m)) m = a % m := by
  have e := Int.tmod_eq_emod (a := a) (b := m)
  have g1 := Int.emod_nonneg a (show m ≠ 0 by omega)
  have g2 := Int.emod_lt_of_pos a (show 0 < m by omega)
  have hn : (m.natAbs : Int) = m := by omega
  have hw : wrap64 (Int.tmod a m + m) = Int.tmod a m + m := by
    unfold wrap64
    rw [e]
    split
    · rw [show ((0 : Nat) : Int) = 0 from rfl]; omega
    · omega
  rw [hw, e]
  split
  · rw [show ((0 : Nat) : Int) = 0 from rfl, Int.sub_zero, Int.tmod_eq_emod_of_nonneg (by omega), Int.add_emod_right, Int.emod_emod_of_dvd a (Int.dvd_refl m)]
  · rw [hn, Int.sub_add_cancel, Int.tmod_eq_emod_of_nonneg (by omega), Int.emod_emod_of_dvd a (Int.dvd_refl m)]
def modV (a m : Int) : Int := if 1 ≤ m ∧ m ≤ 1000000000000 then a % m else 0
theorem modV_pos {a m : Int} (h1 : 1 ≤ m) (h2 : m ≤ 1000000000000) : modV a m = a % m := by unfold modV; rw [if_pos ⟨h1, h2⟩]

theorem spec_l1In_eq (a b c : Int) : spec_l1In.f a b c = some (decide (b ≤ a ∧ a ≤ c)) := by
  unfold spec_l1In.f
  by_cases h : a ≥ b
  · rw [if_pos h]; congr 1; apply decide_eq_decide.mpr; constructor
    · exact fun x => ⟨h, x⟩
    · exact fun x => x.2
  · rw [if_neg h]; congr 1; symm; apply decide_eq_false; omega

theorem spec_Mod_eq (a m : Int) : spec_Mod.f a m = some (modV a m) := by
  unfold spec_Mod.f modV
  rw [spec_l1In_eq, Option.bind_some]
  by_cases h : 1 ≤ m ∧ m ≤ 1000000000000
  · rw [if_pos (decide_eq_true h), if_neg (by omega), if_pos h, tmod_fix a m h.1 h.2]
  · rw [if_neg (by simp [h]), if_neg h]

def leapV (y : Int) : Bool := decide (y % 4 = 0 ∧ (y % 100 ≠ 0 ∨ y % 400 = 0))
theorem leap_ways (y : Int) : (if y % 4 = 0 then (if y % 100 = 0 then some (y % 400 == 0) else some true) else some false) = some (leapV y) := by
  unfold leapV
  by_cases h : y % 4 = 0 <;> by_cases h1 : y % 100 = 0 <;> by_cases h2 : y % 400 = 0 <;> simp [h, h1, h2]

theorem spec_IsLeap_eq (y : Int) : spec_IsLeap.f y = some (leapV y) := by
  unfold spec_IsLeap.f
  simp only [spec_Mod_eq, Option.bind_some, modV_pos (show (1 : Int) ≤ 4 by decide) (by decide), modV_pos (show (1 : Int) ≤ 100 by decide) (by decide), modV_pos (show (1 : Int) ≤ 400 by decide) (by decide)]
  exact leap_ways y

theorem impl_inRange_eq (a b c : Int) : impl_inRange.f a b c = some (decide (b ≤ a ∧ a ≤ c)) := by
  unfold impl_inRange.f
  by_cases h : b ≤ a
  · rw [if_pos h]; congr 1; apply decide_eq_decide.mpr; constructor
    · exact fun x => ⟨h, x⟩
    · exact fun x => x.2
  · rw [if_neg h]; congr 1; symm; apply decide_eq_false; omega

theorem impl_Mod_eq (a m : Int) : impl_Mod.f a m = some (modV a m) := by
  unfold impl_Mod.f modV
  rw [impl_inRange_eq, Option.bind_some]
  by_cases h : 1 ≤ m ∧ m ≤ 1000000000000
  · rw [if_pos (decide_eq_true h), if_neg (by omega), if_pos h, tmod_fix a m h.1 h.2]
  · rw [if_neg (by simp [h]), if_neg h]

theorem impl_IsLeap_eq (y : Int) : impl_IsLeap.f y = some (leapV y) := by
  unfold impl_IsLeap.f
  simp only [impl_Mod_eq, Option.bind_some, modV_pos (show (1 : Int) ≤ 4 by decide) (by decide), modV_pos (show (1 : Int) ≤ 100 by decide) (by decide), modV_pos (show (1 : Int) ≤ 400 by decide) (by decide)]
  exact leap_ways y



def md (y m : Int) : Int := if m = 2 then (if leapV y = true then 29 else 28) else if m = 4 ∨ m = 6 ∨ m = 9 ∨ m = 11 then 30 else 31
def yd (y : Int) : Int := if leapV y = true then 366 else 365
theorem md_bd (y m : Int) : 28 ≤ md y m ∧ md y m ≤ 31 := by
  unfold md
  split
  · split <;> omega
  · split <;> omega
theorem yd_bd (y : Int) : 365 ≤ yd y ∧ yd y ≤ 366 := by unfold yd; split <;> omega
def sumY : Nat → Int → Int
  | 0, _ => 0
  | d + 1, i => yd i + sumY d (i + 1)
def sumM (y : Int) : Nat → Int → Int
  | 0, _ => 0
  | d + 1, m => md y m + sumM y d (m + 1)
theorem sumY_bd (d : Nat) : ∀ i, 365 * (d : Int) ≤ sumY d i ∧ sumY d i ≤ 366 * d := by
  induction d with
  | zero => intro i; simp [sumY]
  | succ d ih => intro i; have := ih (i + 1); have := yd_bd i; simp only [sumY]; omega
theorem sumM_bd (y : Int) (d : Nat) : ∀ m, 28 * (d : Int) ≤ sumM y d m ∧ sumM y d m ≤ 31 * d := by
  induction d with
  | zero => intro i; simp [sumM]
  | succ d ih => intro i; have := ih (i + 1); have := md_bd y i; simp only [sumM]; omega
theorem months_of (y : Int) : sumM y 12 1 = yd y := by
  simp only [sumM, md, yd]
  by_cases h : leapV y = true <;> simp [h]
theorem spec_Long_eq (y m : Int) (h1 : 1 ≤ m) (h2 : m ≤ 12) : spec_l3Long.f y m = some (md y m) := by
  unfold spec_l3Long.f
  rw [spec_IsLeap_eq]
  simp only [Option.bind_some]
  have : m = 1 ∨ m = 2 ∨ m = 3 ∨ m = 4 ∨ m = 5 ∨ m = 6 ∨ m = 7 ∨ m = 8 ∨ m = 9 ∨ m = 10 ∨ m = 11 ∨ m = 12 := by omega
  rcases this with rfl | rfl | rfl | rfl | rfl | rfl | rfl | rfl | rfl | rfl | rfl | rfl
  case inr.inl => by_cases h : leapV y = true <;> simp [md, h] <;> decide +kernel
  all_goals first | rfl | (simp [md]; done) | (simp [md]; decide +kernel)
theorem impl_monthDays_eq (y m : Int) : impl_monthDays.f y m = some (md y m) := by
  unfold impl_monthDays.f md
  rw [impl_IsLeap_eq]
  simp only [Option.bind_some]
  by_cases h : m = 2
  · rw [if_pos h, if_pos h]; by_cases g : leapV y = true <;> simp [g]
  · rw [if_neg h, if_neg h]
    by_cases h4 : m = 4 <;> by_cases h6 : m = 6 <;> by_cases h9 : m = 9 <;> by_cases h11 : m = 11 <;> simp [h4, h6, h9, h11]
theorem impl_yearDays_eq (y : Int) : impl_yearDays.f y = some (yd y) := by
  unfold impl_yearDays.f yd
  rw [impl_IsLeap_eq, Option.bind_some]
  by_cases g : leapV y = true <;> simp [g]

/-- Year and rest of a count of days, from a year on. -/
def civY : Nat → Int → Int → Int × Int
  | 0, day, y => (day, y)
  | f + 1, day, y => if day ≥ yd y then civY f (day - yd y) (y + 1) else (day, y)
def civM (y : Int) : Nat → Int → Int → Int × Int
  | 0, day, m => (day, m)
  | f + 1, day, m => if day ≥ md y m then civM y f (day - md y m) (m + 1) else (day, m)
theorem civY_spec (f : Nat) : ∀ (day y : Int), 0 ≤ day → day < 365 * (f : Int) → 0 ≤ (civY f day y).1 ∧ (civY f day y).1 < yd (civY f day y).2 ∧ y ≤ (civY f day y).2 ∧ (civY f day y).2 < y + f ∧ day = (civY f day y).1 + sumY ((civY f day y).2 - y).toNat y := by
  induction f with
  | zero => intro day y h0 h1; simp at h1; omega
  | succ f ih =>
    intro day y h0 h1
    have hb := yd_bd y
    unfold civY
    by_cases h : day ≥ yd y
    · rw [if_pos h]
      obtain ⟨a, b, c, d, e⟩ := ih (day - yd y) (y + 1) (by omega) (by omega)
      refine ⟨a, b, by omega, by omega, ?_⟩
      obtain ⟨n, hn⟩ : ∃ n : Nat, ((civY f (day - yd y) (y + 1)).2 - (y + 1)).toNat = n := ⟨_, rfl⟩
      have hs : ((civY f (day - yd y) (y + 1)).2 - y).toNat = n + 1 := by omega
      rw [hn] at e
      rw [hs]
      simp only [sumY]
      omega
    · rw [if_neg h]
      exact ⟨h0, by simpa using h, by simp, by simp; omega, by simp [sumY]⟩
theorem civM_spec (y : Int) (f : Nat) : ∀ (day m : Int), 0 ≤ day → day < sumM y f m → 0 ≤ (civM y f day m).1 ∧ (civM y f day m).1 < md y (civM y f day m).2 ∧ m ≤ (civM y f day m).2 ∧ (civM y f day m).2 < m + f ∧ day = (civM y f day m).1 + sumM y ((civM y f day m).2 - m).toNat m := by
  induction f with
  | zero => intro day m h0 h1; simp [sumM] at h1; omega
  | succ f ih =>
    intro day m h0 h1
    simp only [sumM] at h1
    unfold civM
    by_cases h : day ≥ md y m
    · rw [if_pos h]
      obtain ⟨a, b, c, d, e⟩ := ih (day - md y m) (m + 1) (by omega) (by omega)
      refine ⟨a, b, by omega, by omega, ?_⟩
      obtain ⟨n, hn⟩ : ∃ n : Nat, ((civM y f (day - md y m) (m + 1)).2 - (m + 1)).toNat = n := ⟨_, rfl⟩
      have hs : ((civM y f (day - md y m) (m + 1)).2 - m).toNat = n + 1 := by omega
      rw [hn] at e
      rw [hs]
      simp only [sumM]
      omega
    · rw [if_neg h]
      exact ⟨h0, by simpa using h, by simp, by simp; omega, by simp [sumM]⟩
def civV (day : Int) : Int × Int × Int :=
  if 0 ≤ day ∧ day ≤ 47481 then
    ((civY 131 day 1970).2, (civM (civY 131 day 1970).2 12 (civY 131 day 1970).1 1).2, (civM (civY 131 day 1970).2 12 (civY 131 day 1970).1 1).1 + 1)
  else (0, 0, 0)
theorem spec_Civ_l1 (y : Int) (f : Nat) : ∀ (day m : Int), 0 ≤ day → day ≤ 1000 → day < sumM y f m → 1 ≤ m → m + f = 13 → Ev (fun k => spec_CivilOf.l1 k (day) y (m)) (y, (civM y f day m).2, (civM y f day m).1 + 1) := by
  induction f with
  | zero => intro day m h0 h00 hs h1 h; simp [sumM] at hs; omega
  | succ f ih =>
    intro day m h0 h00 hs h1 h
    simp only [sumM] at hs
    have hb := md_bd y m
    unfold civM
    by_cases g : day ≥ md y m
    · rw [if_pos g]
      refine Ev.step (f := fun k => spec_CivilOf.l1 k (day - md y m) y (m + 1)) (fun k => ?_) (ih (day - md y m) (m + 1) (by omega) (by omega) (by omega) (by omega) (by omega))
      simp only [spec_CivilOf.l1]
      rw [spec_Long_eq y m h1 (by omega), Option.bind_some, if_pos g, Option.bind_some, wrap_id (by omega) (by omega), wrap_id (by omega) (by omega)]
    · rw [if_neg g]
      refine Ev.step (f := fun _ => some (y, m, day + 1)) (fun k => ?_) (Ev.now _)
      simp only [spec_CivilOf.l1]
      rw [spec_Long_eq y m h1 (by omega), Option.bind_some, if_neg g, wrap_id (by omega) (by omega)]
theorem spec_Civ_l0 (f : Nat) : ∀ (day y : Int), 0 ≤ day → day ≤ 100000 → day < 365 * (f : Int) → 0 ≤ y → y + f ≤ 5000 →
    Ev (fun k => spec_CivilOf.l0 k (day) (y)) ((civY f day y).2, (civM (civY f day y).2 12 (civY f day y).1 1).2, (civM (civY f day y).2 12 (civY f day y).1 1).1 + 1) := by
  induction f with
  | zero => intro day y h0 h00 h1; simp at h1; omega
  | succ f ih =>
    intro day y h0 h00 h1 hy hyf
    have hb := yd_bd y
    unfold civY
    by_cases g : day ≥ yd y
    · simp only [if_pos g]
      refine Ev.step (f := fun k => spec_CivilOf.l0 k (day - yd y) (y + 1)) (fun k => ?_) (ih (day - yd y) (y + 1) (by omega) (by omega) (by omega) (by omega) (by omega))
      simp only [spec_CivilOf.l0]
      rw [spec_IsLeap_eq, Option.bind_some, wrap_id (n := y + 1) (by omega) (by omega)]; by_cases q : leapV y = true; (have hy2 : yd y = 366 := by unfold yd; rw [if_pos q]); rw [hy2] at g ⊢; rw [if_pos q, if_neg (by omega), wrap_id (by omega) (by omega)]; (have hy2 : yd y = 365 := by unfold yd; rw [if_neg q]); rw [hy2] at g ⊢; rw [if_neg q, if_neg (by omega), wrap_id (by omega) (by omega)]
    · simp only [if_neg g]
      have hm := spec_Civ_l1 y 12 day 1 h0 (by omega) (by rw [months_of]; omega) (by omega) (by omega)
      refine Ev.step (f := fun k => spec_CivilOf.j1 k day y) (fun k => ?_) (Ev.step (f := fun k => spec_CivilOf.l1 k day y 1) (fun k => by simp only [spec_CivilOf.j1]) hm); simp only [spec_CivilOf.l0]; rw [spec_IsLeap_eq, Option.bind_some]; by_cases q : leapV y = true; (have hy2 : yd y = 366 := by unfold yd; rw [if_pos q]); rw [hy2] at g; rw [if_pos q, if_pos (by omega)]; (have hy2 : yd y = 365 := by unfold yd; rw [if_neg q]); rw [hy2] at g; rw [if_neg q, if_pos (by omega)]
theorem spec_CivilOf_ev (day : Int) : Ev (fun k => spec_CivilOf.f k day) (civV day) := by
  unfold spec_CivilOf.f civV
  simp only [spec_l1In_eq, Option.bind_some]
  by_cases h : 0 ≤ day ∧ day ≤ 47481
  · rw [if_pos h]
    exact Ev.pos (decide_eq_true h) (spec_Civ_l0 131 day 1970 h.1 (by omega) (by omega) (by omega) (by omega))
  · rw [if_neg h]
    exact Ev.neg (by simp [h]) (Ev.now _)
theorem impl_Civ_l1 (y : Int) (f : Nat) : ∀ (day m : Int), 0 ≤ day → day ≤ 1000 → day < sumM y f m → 1 ≤ m → m + f = 13 → Ev (fun k => impl_CivilOf.l1 k (day) y (m)) (y, (civM y f day m).2, (civM y f day m).1 + 1) := by
  induction f with
  | zero => intro day m h0 h00 hs h1 h; simp [sumM] at hs; omega
  | succ f ih =>
    intro day m h0 h00 hs h1 h
    simp only [sumM] at hs
    have hb := md_bd y m
    unfold civM
    by_cases g : day ≥ md y m
    · rw [if_pos g]
      refine Ev.step (f := fun k => impl_CivilOf.l1 k (day - md y m) y (m + 1)) (fun k => ?_) (ih (day - md y m) (m + 1) (by omega) (by omega) (by omega) (by omega) (by omega))
      simp only [impl_CivilOf.l1]
      rw [impl_monthDays_eq, Option.bind_some, if_pos g, Option.bind_some, wrap_id (by omega) (by omega), wrap_id (by omega) (by omega)]
    · rw [if_neg g]
      refine Ev.step (f := fun _ => some (y, m, day + 1)) (fun k => ?_) (Ev.now _)
      simp only [impl_CivilOf.l1]
      rw [impl_monthDays_eq, Option.bind_some, if_neg g, wrap_id (by omega) (by omega)]
theorem impl_Civ_l0 (f : Nat) : ∀ (day y : Int), 0 ≤ day → day ≤ 100000 → day < 365 * (f : Int) → 0 ≤ y → y + f ≤ 5000 →
    Ev (fun k => impl_CivilOf.l0 k (day) (y) 1) ((civY f day y).2, (civM (civY f day y).2 12 (civY f day y).1 1).2, (civM (civY f day y).2 12 (civY f day y).1 1).1 + 1) := by
  induction f with
  | zero => intro day y h0 h00 h1; simp at h1; omega
  | succ f ih =>
    intro day y h0 h00 h1 hy hyf
    have hb := yd_bd y
    unfold civY
    by_cases g : day ≥ yd y
    · simp only [if_pos g]
      refine Ev.step (f := fun k => impl_CivilOf.l0 k (day - yd y) (y + 1) 1) (fun k => ?_) (ih (day - yd y) (y + 1) (by omega) (by omega) (by omega) (by omega) (by omega))
      simp only [impl_CivilOf.l0]
      rw [impl_yearDays_eq, Option.bind_some, if_pos g, Option.bind_some, wrap_id (by omega) (by omega), wrap_id (by omega) (by omega)]
    · simp only [if_neg g]
      have hm := impl_Civ_l1 y 12 day 1 h0 (by omega) (by rw [months_of]; omega) (by omega) (by omega)
      refine Ev.step (f := fun k => impl_CivilOf.l1 k day y 1) (fun k => ?_) hm; simp only [impl_CivilOf.l0]; rw [impl_yearDays_eq, Option.bind_some, if_neg g]
theorem impl_CivilOf_ev (day : Int) : Ev (fun k => impl_CivilOf.f k day) (civV day) := by
  unfold impl_CivilOf.f civV
  simp only [impl_inRange_eq, Option.bind_some]
  by_cases h : 0 ≤ day ∧ day ≤ 47481
  · rw [if_pos h]
    exact Ev.pos (decide_eq_true h) (impl_Civ_l0 131 day 1970 h.1 (by omega) (by omega) (by omega) (by omega))
  · rw [if_neg h]
    exact Ev.neg (by simp [h]) (Ev.now _)

theorem FnExactCivilOf : laws_FnExactCivilOf.Pure := by
  intro day _
  unfold laws_FnExactCivilOf.f
  apply Ev.rounds
  exact Ev.bind (spec_CivilOf_ev day) (Ev.bind (impl_CivilOf_ev day) (Ev.pos rfl (Ev.pos rfl (Ev.pos rfl (Ev.now _)))))

end Go.Proofs.Ytijojcojpbfmlaa.Pure
