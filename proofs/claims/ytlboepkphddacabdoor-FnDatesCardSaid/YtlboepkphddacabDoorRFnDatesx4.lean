/- What the Go functions that the law FnDates reaches answer: for each one a Lean function, and the proof that its call comes to what that function says. Conditions: those that each theorem states. Written by a program. -/
import Derived.Test.YtlboepkphddacabDoorRFnDatesx0
import Derived.Test.YtlboepkphddacabDoorRFnDatesx1
namespace Go.Proofs.YtlboepkphddacabDoor.RFnDates
open Go.RowKit Go.Proofs.YtlboepkphddacabDoorW.PrintWords Go.Proofs.YtlboepkphddacabDoorW.PrintLast Go.Proofs.YtlboepkphddacabDoorW.PrintMore
attribute [local go_sem] max2_int min2_int max_two min_two max_three min_three max_four min_four   -- for this text's walks alone
set_option linter.unusedVariables false
set_option linter.unusedSimpArgs false

/-! ### impl_CivilOf: function 15 -/
mutual
def impl_CivilOf.l0 : Nat → Int → Int → Int → Option (Int × Int × Int)
  | 0, _, _, _ => none
  | k + 1, x0, x5, x6 => (impl_yearDays.f x5).bind fun t137 => (if x0 ≥ t137 then ((impl_yearDays.f x5).bind fun t138 => (impl_CivilOf.l0 k (wrap64 (x0 - t138)) (wrap64 (x5 + 1)) x6)) else (impl_CivilOf.l1 k x0 x5 x6))
def impl_CivilOf.l1 : Nat → Int → Int → Int → Option (Int × Int × Int)
  | 0, _, _, _ => none
  | k + 1, x0, x5, x6 => (impl_monthDays.f x5 x6).bind fun t139 => (if x0 ≥ t139 then ((impl_monthDays.f x5 x6).bind fun t140 => (impl_CivilOf.l1 k (wrap64 (x0 - t140)) x5 (wrap64 (x6 + 1)))) else (some (x5, x6, wrap64 (x0 + 1))))
end
def impl_CivilOf.f (k : Nat) (a0 : Int) : Option (Int × Int × Int) := (impl_inRange.f a0 0 47481).bind fun t136 => (if t136 = true then (impl_CivilOf.l0 k a0 1970 1) else (some (0, 0, 0)))
theorem impl_CivilOf.mono_l : ∀ k, (∀ y0 y1 y2, LeO (impl_CivilOf.l0 k y0 y1 y2) (impl_CivilOf.l0 (k + 1) y0 y1 y2)) ∧ (∀ y0 y1 y2, LeO (impl_CivilOf.l1 k y0 y1 y2) (impl_CivilOf.l1 (k + 1) y0 y1 y2))
  | 0 => ⟨fun _ _ _ r h => by simp [impl_CivilOf.l0] at h, fun _ _ _ r h => by simp [impl_CivilOf.l1] at h⟩
  | k + 1 => by
    obtain ⟨ih0, ih1⟩ := impl_CivilOf.mono_l k
    refine ⟨?_, ?_⟩
    · intro y0 y1 y2
      unfold impl_CivilOf.l0
      repeat' first
      | (with_reducible exact ih0 _ _ _)
      | (with_reducible exact ih1 _ _ _)
      | (with_reducible exact LeO.refl _)
      | (with_reducible exact LeO.none _)
      | (with_reducible refine LeO.ite ?_ ?_)
      | (with_reducible refine LeO.bind ?_ (fun _ => ?_))
      | exact ih0 _ _ _
      | exact ih1 _ _ _
      | exact LeO.none _
      | refine LeO.ite ?_ ?_
      | refine LeO.bind ?_ (fun _ => ?_)
    · intro y0 y1 y2
      unfold impl_CivilOf.l1
      repeat' first
      | (with_reducible exact ih0 _ _ _)
      | (with_reducible exact ih1 _ _ _)
      | (with_reducible exact LeO.refl _)
      | (with_reducible exact LeO.none _)
      | (with_reducible refine LeO.ite ?_ ?_)
      | (with_reducible refine LeO.bind ?_ (fun _ => ?_))
      | exact ih0 _ _ _
      | exact ih1 _ _ _
      | exact LeO.none _
      | refine LeO.ite ?_ ?_
      | refine LeO.bind ?_ (fun _ => ?_)
theorem impl_CivilOf.mono : ∀ a0 k, LeO (impl_CivilOf.f k a0) (impl_CivilOf.f (k + 1) a0) := by
  intro a0 k
  obtain ⟨ih0, ih1⟩ := impl_CivilOf.mono_l k
  unfold impl_CivilOf.f
  repeat' first
      | (with_reducible exact ih0 _ _ _)
      | (with_reducible exact ih1 _ _ _)
      | (with_reducible exact LeO.refl _)
      | (with_reducible exact LeO.none _)
      | (with_reducible refine LeO.ite ?_ ?_)
      | (with_reducible refine LeO.bind ?_ (fun _ => ?_))
      | exact ih0 _ _ _
      | exact ih1 _ _ _
      | exact LeO.none _
      | refine LeO.ite ?_ ?_
      | refine LeO.bind ?_ (fun _ => ?_)
set_option maxHeartbeats 8000000 in
set_option maxRecDepth 100000 in
theorem impl_CivilOf.calls (k : Nat) (a0 : Int) (r1 : Int) (r2 : Int) (r3 : Int) (w : World) (h : impl_CivilOf.f k a0 = some (r1, r2, r3)) :
    Calls Tryd.prog 15 #[.int .i64 a0] w fun e w' => e = .returned (.tuple #[.int .i64 r1, .int .i64 r2, .int .i64 r3]) ∧ Drawn0 w w' := by
  have H : ((impl_inRange.f a0 0 47481).bind fun t136 => (if t136 = true then (impl_CivilOf.l0 k a0 1970 1) else (some (0, 0, 0)))) = some (r1, r2, r3) := h
  clear h
  replace H := Option.bind_eq_some_iff.mp H
  obtain ⟨t136, A20, H⟩ := H
  replace H : (if t136 = true then (impl_CivilOf.l0 k a0 1970 1) else (some (0, 0, 0))) = some (r1, r2, r3) := H
  have A2 := Aside0.mk A20
  clear A20
  by_cases c3 : t136 = true
  · subst c3
    have H1 : (impl_CivilOf.l0 k a0 1970 1) = some (r1, r2, r3) := by rw [if_pos rfl] at H; exact H
    clear H
    have H := H1
    clear H1
    have H' := Aside0.mk H
    clear H
    go_enter Tryd.func15, Tryd.ntmps15
    go_wp2_with (first | ((with_reducible refine gate_callee (f := 49) rfl ?_); refine goesL_ (some 8) rfl rfl Tryd.func49 (by kernel_rfl) rfl #[.int .i64 a0, .int .i64 0, .int .i64 47481] rfl (by (try simp only [List.map_toArray, List.map_cons, List.map_nil]); first | done | rfl | (simp only [List.length_drop, List.length_take]; rfl) | (simp; repeat' first | rfl | constructor)) ?_; (with_reducible refine (impl_inRange.calls a0 0 47481 true _ A2.out).mono ?_); rintro e w' ⟨rfl, ⟨nd, rfl⟩⟩; refine ⟨_, rfl, ?_⟩))
    go_loopg [0, 5] k (fun kq v0 v5 w' => ∃ (x0_1 : Int) (x5_1 : Int), v0 = .int .i64 x0_1 ∧ v5 = .int .i64 x5_1 ∧ Aside0 (impl_CivilOf.l0 kq x0_1 x5_1 1 = some (r1, r2, r3)) ∧ Aside0 (kq ≤ k) ∧ Drawn0 w w')
    case atStart => exact ⟨(a0), (1970), (by first | rfl | (simp; done) | (simp [*]; done)), (by first | rfl | (simp; done) | (simp [*]; done)), H', ⟨Nat.le_refl _⟩, by repeat (first | exact Drawn0.refl _ | apply Drawn0.step)⟩
    case round =>
      clear H'
      try clear c1
      try clear p2
      try clear c3
      obtain ⟨x0_1, x5_1, rfl, rfl, HA, HK1, ⟨m1, rfl⟩⟩ := hrel
      cases gk with
      | zero => exact absurd HA.out (by simp [impl_CivilOf.l0])
      | succ k1 =>
        have H := HA.out
        clear HA
        simp only [impl_CivilOf.l0] at H
        replace H := Option.bind_eq_some_iff.mp H
        obtain ⟨t137, A40, H⟩ := H
        replace H : (if x0_1 ≥ t137 then ((impl_yearDays.f x5_1).bind fun t138 => (impl_CivilOf.l0 k1 (wrap64 (x0_1 - t138)) (wrap64 (x5_1 + 1)) 1)) else (impl_CivilOf.l1 k1 x0_1 x5_1 1)) = some (r1, r2, r3) := H
        have A4 := Aside0.mk A40
        clear A40
        by_cases c5 : x0_1 ≥ t137
        · rw [if_pos c5] at H
          have c5b0 : decide (t137 ≤ x0_1) = true := decide_eq_true c5
          clear c5
          replace H := Option.bind_eq_some_iff.mp H
          obtain ⟨t138, A60, H⟩ := H
          replace H : (impl_CivilOf.l0 k1 (wrap64 (x0_1 - t138)) (wrap64 (x5_1 + 1)) 1) = some (r1, r2, r3) := H
          have A6 := Aside0.mk A60
          clear A60
          have H' := Aside0.mk H
          clear H
          go_wp2_with (first | ((with_reducible refine gate_callee (f := 50) rfl ?_); refine goesL_ (some 12) rfl rfl Tryd.func50 (by kernel_rfl) rfl #[.int .i64 x5_1] rfl (by (try simp only [List.map_toArray, List.map_cons, List.map_nil]); first | done | rfl | (simp only [List.length_drop, List.length_take]; rfl) | (simp; repeat' first | rfl | constructor)) ?_; (with_reducible refine (impl_yearDays.calls x5_1 t137 _ A4.out).mono ?_); rintro e w' ⟨rfl, ⟨nd, rfl⟩⟩; refine ⟨_, rfl, ?_⟩) | ((with_reducible refine gate_callee (f := 50) rfl ?_); refine goesL_ (some 16) rfl rfl Tryd.func50 (by kernel_rfl) rfl #[.int .i64 x5_1] rfl (by (try simp only [List.map_toArray, List.map_cons, List.map_nil]); first | done | rfl | (simp only [List.length_drop, List.length_take]; rfl) | (simp; repeat' first | rfl | constructor)) ?_; (with_reducible refine (impl_yearDays.calls x5_1 t138 _ A6.out).mono ?_); rintro e w' ⟨rfl, ⟨nd, rfl⟩⟩; refine ⟨_, rfl, ?_⟩))
          go_roundg k1
          case measure => have := HK1.out; omega
          case rel => exact ⟨(wrap64 (x0_1 - t138)), (wrap64 (x5_1 + 1)), (by first | rfl | (simp; done) | (simp [*]; done)), (by first | rfl | (simp; done) | (simp [*]; done)), H', ⟨by have := HK1.out; omega⟩, by repeat (first | exact Drawn0.refl _ | apply Drawn0.step)⟩
        · rw [if_neg c5] at H
          have c5b0 : decide (t137 ≤ x0_1) = false := decide_eq_false c5
          clear c5
          have H' := Aside0.mk H
          clear H
          go_wp2_with (first | ((with_reducible refine gate_callee (f := 50) rfl ?_); refine goesL_ (some 12) rfl rfl Tryd.func50 (by kernel_rfl) rfl #[.int .i64 x5_1] rfl (by (try simp only [List.map_toArray, List.map_cons, List.map_nil]); first | done | rfl | (simp only [List.length_drop, List.length_take]; rfl) | (simp; repeat' first | rfl | constructor)) ?_; (with_reducible refine (impl_yearDays.calls x5_1 t137 _ A4.out).mono ?_); rintro e w' ⟨rfl, ⟨nd, rfl⟩⟩; refine ⟨_, rfl, ?_⟩))
          go_loopg [0, 6] k1 (fun kq v0 v6 w' => ∃ (x0_2 : Int) (x6_2 : Int), v0 = .int .i64 x0_2 ∧ v6 = .int .i64 x6_2 ∧ Aside0 (impl_CivilOf.l1 kq x0_2 x5_1 x6_2 = some (r1, r2, r3)) ∧ Aside0 (kq ≤ k1) ∧ Drawn0 w w')
          case atStart => exact ⟨(x0_1), (1), (by first | rfl | (simp; done) | (simp [*]; done)), (by first | rfl | (simp; done) | (simp [*]; done)), H', ⟨Nat.le_refl _⟩, by repeat (first | exact Drawn0.refl _ | apply Drawn0.step)⟩
          case round =>
            clear H'
            try clear c1
            try clear p2
            try clear c3
            try clear c4
            try clear c5
            try clear c5b0
            try clear p6
            try clear p2
            obtain ⟨x0_2, x6_2, rfl, rfl, HA, HK2, ⟨m2, rfl⟩⟩ := hrel
            cases gk with
            | zero => exact absurd HA.out (by simp [impl_CivilOf.l1])
            | succ k2 =>
              have H := HA.out
              clear HA
              simp only [impl_CivilOf.l1] at H
              replace H := Option.bind_eq_some_iff.mp H
              obtain ⟨t139, A70, H⟩ := H
              replace H : (if x0_2 ≥ t139 then ((impl_monthDays.f x5_1 x6_2).bind fun t140 => (impl_CivilOf.l1 k2 (wrap64 (x0_2 - t140)) x5_1 (wrap64 (x6_2 + 1)))) else (some (x5_1, x6_2, wrap64 (x0_2 + 1)))) = some (r1, r2, r3) := H
              have A7 := Aside0.mk A70
              clear A70
              by_cases c8 : x0_2 ≥ t139
              · rw [if_pos c8] at H
                have c8b0 : decide (t139 ≤ x0_2) = true := decide_eq_true c8
                clear c8
                replace H := Option.bind_eq_some_iff.mp H
                obtain ⟨t140, A90, H⟩ := H
                replace H : (impl_CivilOf.l1 k2 (wrap64 (x0_2 - t140)) x5_1 (wrap64 (x6_2 + 1))) = some (r1, r2, r3) := H
                have A9 := Aside0.mk A90
                clear A90
                have H' := Aside0.mk H
                clear H
                go_wp2_with (first | ((with_reducible refine gate_callee (f := 51) rfl ?_); refine goesL_ (some 23) rfl rfl Tryd.func51 (by kernel_rfl) rfl #[.int .i64 x5_1, .int .i64 x6_2] rfl (by (try simp only [List.map_toArray, List.map_cons, List.map_nil]); first | done | rfl | (simp only [List.length_drop, List.length_take]; rfl) | (simp; repeat' first | rfl | constructor)) ?_; (with_reducible refine (impl_monthDays.calls x5_1 x6_2 t139 _ A7.out).mono ?_); rintro e w' ⟨rfl, ⟨nd, rfl⟩⟩; refine ⟨_, rfl, ?_⟩) | ((with_reducible refine gate_callee (f := 51) rfl ?_); refine goesL_ (some 28) rfl rfl Tryd.func51 (by kernel_rfl) rfl #[.int .i64 x5_1, .int .i64 x6_2] rfl (by (try simp only [List.map_toArray, List.map_cons, List.map_nil]); first | done | rfl | (simp only [List.length_drop, List.length_take]; rfl) | (simp; repeat' first | rfl | constructor)) ?_; (with_reducible refine (impl_monthDays.calls x5_1 x6_2 t140 _ A9.out).mono ?_); rintro e w' ⟨rfl, ⟨nd, rfl⟩⟩; refine ⟨_, rfl, ?_⟩))
                go_roundg k2
                case measure => have := HK1.out; have := HK2.out; omega
                case rel => exact ⟨(wrap64 (x0_2 - t140)), (wrap64 (x6_2 + 1)), (by first | rfl | (simp; done) | (simp [*]; done)), (by first | rfl | (simp; done) | (simp [*]; done)), H', ⟨by have := HK1.out; have := HK2.out; omega⟩, by repeat (first | exact Drawn0.refl _ | apply Drawn0.step)⟩
              · rw [if_neg c8] at H
                have c8b0 : decide (t139 ≤ x0_2) = false := decide_eq_false c8
                clear c8
                simp only [Option.some.injEq, Prod.mk.injEq] at H
                obtain ⟨rfl, rfl, rfl⟩ := H
                go_wp2_with (first | ((with_reducible refine gate_callee (f := 51) rfl ?_); refine goesL_ (some 23) rfl rfl Tryd.func51 (by kernel_rfl) rfl #[.int .i64 x5_1, .int .i64 x6_2] rfl (by (try simp only [List.map_toArray, List.map_cons, List.map_nil]); first | done | rfl | (simp only [List.length_drop, List.length_take]; rfl) | (simp; repeat' first | rfl | constructor)) ?_; (with_reducible refine (impl_monthDays.calls x5_1 x6_2 t139 _ A7.out).mono ?_); rintro e w' ⟨rfl, ⟨nd, rfl⟩⟩; refine ⟨_, rfl, ?_⟩))
                go_ret3
                exact ⟨by first | rfl | (simp; done) | (simp [*]; done), by repeat (first | exact Drawn0.refl _ | apply Drawn0.step)⟩
  · replace c3 := Bool.eq_false_iff.mpr c3
    subst c3
    have H1 : (some (0, 0, 0)) = some (r1, r2, r3) := by rw [if_neg (show ¬ (false = true) by decide)] at H; exact H
    clear H
    have H := H1
    clear H1
    simp only [Option.some.injEq, Prod.mk.injEq] at H
    obtain ⟨rfl, rfl, rfl⟩ := H
    go_enter Tryd.func15, Tryd.ntmps15
    go_wp2_with (first | ((with_reducible refine gate_callee (f := 49) rfl ?_); refine goesL_ (some 8) rfl rfl Tryd.func49 (by kernel_rfl) rfl #[.int .i64 a0, .int .i64 0, .int .i64 47481] rfl (by (try simp only [List.map_toArray, List.map_cons, List.map_nil]); first | done | rfl | (simp only [List.length_drop, List.length_take]; rfl) | (simp; repeat' first | rfl | constructor)) ?_; (with_reducible refine (impl_inRange.calls a0 0 47481 false _ A2.out).mono ?_); rintro e w' ⟨rfl, ⟨nd, rfl⟩⟩; refine ⟨_, rfl, ?_⟩))
    go_ret3
    exact ⟨by first | rfl | (simp; done) | (simp [*]; done), by repeat (first | exact Drawn0.refl _ | apply Drawn0.step)⟩

/-! ### impl_WeekdayOf: function 18 -/
def impl_WeekdayOf.f (a0 : Int) : Option (Int) := (impl_Mod.f a0 7).bind fun t141 => ((impl_Mod.f (wrap64 (t141 + 4)) 7).bind fun t142 => (some t142))
set_option maxHeartbeats 8000000 in
set_option maxRecDepth 100000 in
theorem impl_WeekdayOf.calls (a0 : Int) (r : Int) (w : World) (h : impl_WeekdayOf.f a0 = some r) :
    Calls Tryd.prog 18 #[.int .i64 a0] w fun e w' => e = .returned (.int .i64 r) ∧ Drawn0 w w' := by
  have H : ((impl_Mod.f a0 7).bind fun t141 => ((impl_Mod.f (wrap64 (t141 + 4)) 7).bind fun t142 => (some t142))) = some r := h
  clear h
  replace H := Option.bind_eq_some_iff.mp H
  obtain ⟨t141, A20, H⟩ := H
  replace H : ((impl_Mod.f (wrap64 (t141 + 4)) 7).bind fun t142 => (some t142)) = some r := H
  have A2 := Aside0.mk A20
  clear A20
  replace H := Option.bind_eq_some_iff.mp H
  obtain ⟨t142, A30, H⟩ := H
  replace H : (some t142) = some r := H
  have A3 := Aside0.mk A30
  clear A30
  obtain rfl := Option.some.inj H
  go_enter Tryd.func18, Tryd.ntmps18
  go_wp2_with (first | ((with_reducible refine gate_callee (f := 19) rfl ?_); refine goesL_ (some 4) rfl rfl Tryd.func19 (by kernel_rfl) rfl #[.int .i64 a0, .int .i64 7] rfl (by (try simp only [List.map_toArray, List.map_cons, List.map_nil]); first | done | rfl | (simp only [List.length_drop, List.length_take]; rfl) | (simp; repeat' first | rfl | constructor)) ?_; (with_reducible refine (impl_Mod.calls a0 7 t141 _ A2.out).mono ?_); rintro e w' ⟨rfl, ⟨nd, rfl⟩⟩; refine ⟨_, rfl, ?_⟩) | ((with_reducible refine gate_callee (f := 19) rfl ?_); refine goesL_ (some 6) rfl rfl Tryd.func19 (by kernel_rfl) rfl #[.int .i64 (wrap64 (t141 + 4)), .int .i64 7] rfl (by (try simp only [List.map_toArray, List.map_cons, List.map_nil]); first | done | rfl | (simp only [List.length_drop, List.length_take]; rfl) | (simp; repeat' first | rfl | constructor)) ?_; (with_reducible refine (impl_Mod.calls (wrap64 (t141 + 4)) 7 t142 _ A3.out).mono ?_); rintro e w' ⟨rfl, ⟨nd, rfl⟩⟩; refine ⟨_, rfl, ?_⟩))
  go_ret
  exact ⟨by first | rfl | (simp; done) | (simp [*]; done), by repeat (first | exact Drawn0.refl _ | apply Drawn0.step)⟩

/-! ### strconv_Itoa: function 111 -/
theorem below_grow_drawn (w : World) (k : Nat) (os : Array Obj) : Below w.heap.size w (Go.Sort.grow (w.drewN k) os) := by
  have e : ∀ i, i < w.heap.size → (Go.Sort.grow (w.drewN k) os).heap[i]? = w.heap[i]? := by
    intro i hi
    show ((w.drewN k).heap ++ os)[i]? = w.heap[i]?
    have hh : (w.drewN k).heap = w.heap := rfl
    rw [hh, Array.getElem?_append_left hi]
  exact ⟨rfl, rfl, rfl, by show w.heap.size ≤ ((w.drewN k).heap ++ os).size; rw [Array.size_append]; exact Nat.le_add_right _ _, e⟩
def strconv_Itoa.f (a0 : Int) : Option (ByteArray) := if -9223372036854775808 ≤ a0 ∧ a0 ≤ 9223372036854775807 then some ⟨(Lib.itoa a0).toArray⟩ else none
theorem strconv_Itoa.calls (a0 : Int) (r : ByteArray) (w : World) (hG : Glob w) (h : strconv_Itoa.f a0 = some r) :
    Calls Tryd.prog 111 #[.int .i64 a0] w fun e w' => e = .returned (.string r) ∧ Below w.heap.size w w' := by
  unfold strconv_Itoa.f at h
  split at h
  · rename_i g
    obtain rfl := Option.some.inj h
    refine (Tryd.strconv_Itoa a0 g.1 g.2 w hG.pow10).mono ?_
    rintro e w' ⟨rfl, k, os, rfl⟩
    exact ⟨rfl, below_grow_drawn w k os⟩
  · exact absurd h (by simp)

/-! ### impl_FormatInt: function 87 -/
def impl_FormatInt.f (a0 : Int) : Option (ByteArray) := (strconv_Itoa.f a0).bind fun t143 => (some t143)
set_option maxHeartbeats 8000000 in
set_option maxRecDepth 100000 in
theorem impl_FormatInt.calls (a0 : Int) (r : ByteArray) (w : World) (hG : Glob w) (h : impl_FormatInt.f a0 = some r) :
    Calls Tryd.prog 87 #[.int .i64 a0] w fun e w' => e = .returned (.string r) ∧ Below w.heap.size w w' := by
  have HG := Aside0.mk hG
  clear hG
  have HB := Aside0.mk (Below.refl w.heap.size w)
  have H : ((strconv_Itoa.f a0).bind fun t143 => (some t143)) = some r := h
  clear h
  replace H := Option.bind_eq_some_iff.mp H
  obtain ⟨t143, A20, H⟩ := H
  replace H : (some t143) = some r := H
  have A2 := Aside0.mk A20
  clear A20
  obtain rfl := Option.some.inj H
  go_enter Tryd.func87, Tryd.ntmps87
  go_wp2_with (first | ((with_reducible refine gate_callee (f := 111) rfl ?_); refine goesL_ (some 4) rfl rfl Tryd.func111 (by kernel_rfl) rfl #[.int .i64 a0] rfl (by (try simp only [List.map_toArray, List.map_cons, List.map_nil]); first | done | rfl | (simp only [List.length_drop, List.length_take]; rfl) | (simp; repeat' first | rfl | constructor)) ?_; (with_reducible refine (strconv_Itoa.calls a0 t143 _ ?side1 A2.out).mono ?_); (case side1 => exact Glob.below HG.out (by repeat (first | (with_reducible first | exact HB.out | apply below_alloc | apply pw_below_drewN | apply below_drew1) | exact HB.out))); rintro e w3 ⟨rfl, hb⟩; refine ⟨_, rfl, ?_⟩; have n0_ := Aside0.mk (below_step (by repeat (first | (with_reducible first | exact HB.out | apply below_alloc | apply pw_below_drewN | apply below_drew1) | exact HB.out)) hb); clear HB; have HB := n0_; clear n0_; (try clear hb); (try clear hb2); (try clear hk); (try clear hi)))
  go_ret
  exact ⟨by first | rfl | (simp [errW_none, errW_some] <;> rfl) | (simp [*, errW_none, errW_some] <;> rfl), by repeat (first | (with_reducible first | exact HB.out | apply below_alloc | apply pw_below_drewN | apply below_drew1) | exact HB.out)⟩

/-! ### impl_Digits: function 86 -/
def impl_Digits.l0 : Nat → Int → ByteArray → Option (ByteArray)
  | 0, _, _ => none
  | k + 1, x1, x5 => if (x5.size : Int) < x1 then (if (x5.size : Int) < 20 then (if 1 + x5.size ≤ 9223372036854775807 then (impl_Digits.l0 k x1 ((⟨#[48]⟩ : ByteArray) ++ x5)) else (none)) else (some x5)) else (some x5)
def impl_Digits.f (k : Nat) (a0 : Int) (a1 : Int) : Option (ByteArray) := (impl_FormatInt.f (mx 0 a0)).bind fun t144 => (impl_Digits.l0 k a1 t144)
theorem impl_Digits.mono_l : ∀ k, (∀ y0 y1, LeO (impl_Digits.l0 k y0 y1) (impl_Digits.l0 (k + 1) y0 y1))
  | 0 => fun _ _ r h => by simp [impl_Digits.l0] at h
  | k + 1 => by
    have ih0 := impl_Digits.mono_l k
    · intro y0 y1
      unfold impl_Digits.l0
      repeat' first
      | (with_reducible exact ih0 _ _)
      | (with_reducible exact LeO.refl _)
      | (with_reducible exact LeO.none _)
      | (with_reducible refine LeO.ite ?_ ?_)
      | (with_reducible refine LeO.bind ?_ (fun _ => ?_))
      | exact ih0 _ _
      | exact LeO.none _
      | refine LeO.ite ?_ ?_
      | refine LeO.bind ?_ (fun _ => ?_)
theorem impl_Digits.mono : ∀ a0 a1 k, LeO (impl_Digits.f k a0 a1) (impl_Digits.f (k + 1) a0 a1) := by
  intro a0 a1 k
  have ih0 := impl_Digits.mono_l k
  unfold impl_Digits.f
  repeat' first
      | (with_reducible exact ih0 _ _)
      | (with_reducible exact LeO.refl _)
      | (with_reducible exact LeO.none _)
      | (with_reducible refine LeO.ite ?_ ?_)
      | (with_reducible refine LeO.bind ?_ (fun _ => ?_))
      | exact ih0 _ _
      | exact LeO.none _
      | refine LeO.ite ?_ ?_
      | refine LeO.bind ?_ (fun _ => ?_)
set_option maxHeartbeats 8000000 in
set_option maxRecDepth 100000 in
theorem impl_Digits.calls (k : Nat) (a0 : Int) (a1 : Int) (r : ByteArray) (w : World) (hG : Glob w) (h : impl_Digits.f k a0 a1 = some r) :
    Calls Tryd.prog 86 #[.int .i64 a0, .int .i64 a1] w fun e w' => e = .returned (.string r) ∧ Below w.heap.size w w' := by
  have HG := Aside0.mk hG
  clear hG
  have HB := Aside0.mk (Below.refl w.heap.size w)
  have H : ((impl_FormatInt.f (mx 0 a0)).bind fun t144 => (impl_Digits.l0 k a1 t144)) = some r := h
  clear h
  obtain ⟨ji3, hji3⟩ : ∃ j_ : Int, (mx 0 a0) = j_ := ⟨_, rfl⟩
  replace H : ((impl_FormatInt.f (ji3)).bind fun t144 => (impl_Digits.l0 k a1 t144)) = some r := by first | (rw [hji3] at H; exact H) | (simp only [hji3] at H ⊢; exact H)
  (try (have hji3l : 0 ≤ ji3 := by (rw [← hji3]; unfold mx; (repeat' split) <;> omega)))
  (try (have hji3m : 0 ≤ ji3 := by omega))
  have hji3_ : (if 0 < a0 then a0 else 0) = ji3 := hji3
  replace H := Option.bind_eq_some_iff.mp H
  obtain ⟨t144, A40, H⟩ := H
  replace H : (impl_Digits.l0 k a1 t144) = some r := H
  have A4 := Aside0.mk A40
  clear A40
  have H' := Aside0.mk H
  clear H
  go_enter Tryd.func86, Tryd.ntmps86
  go_wp2_with (first | ((with_reducible refine gate_callee (f := 87) rfl ?_); refine goesL_ (some 8) rfl rfl Tryd.func87 (by kernel_rfl) rfl #[.int .i64 ji3] rfl (by (try simp only [List.map_toArray, List.map_cons, List.map_nil]); first | done | (simp only [hji3]; rfl) | rfl | (simp only [List.length_drop, List.length_take]; rfl) | (simp; repeat' first | rfl | constructor)) ?_; (with_reducible refine (impl_FormatInt.calls ji3 t144 _ ?side1 A4.out).mono ?_); (case side1 => exact Glob.below HG.out (by repeat (first | (with_reducible first | exact HB.out | apply below_alloc | apply pw_below_drewN | apply below_drew1) | exact HB.out))); rintro e w5 ⟨rfl, hb⟩; refine ⟨_, rfl, ?_⟩; have n0_ := Aside0.mk (below_step (by repeat (first | (with_reducible first | exact HB.out | apply below_alloc | apply pw_below_drewN | apply below_drew1) | exact HB.out)) hb); clear HB; have HB := n0_; clear n0_; (try clear hb); (try clear hb2); (try clear hk); (try clear hi)))
  go_loopg [5] k (fun kq v5 w' => ∃ (x5_1 : ByteArray), v5 = .string x5_1 ∧ Aside0 (impl_Digits.l0 kq a1 x5_1 = some r) ∧ Aside0 (kq ≤ k) ∧ Aside0 (Below w.heap.size w w'))
  case atStart => exact ⟨(t144), (by first | rfl | (simp; done) | (simp [*]; done)), H', ⟨Nat.le_refl _⟩, ⟨by repeat (first | (with_reducible first | exact HB.out | apply below_alloc | apply pw_below_drewN | apply below_drew1) | exact HB.out)⟩⟩
  case round =>
    clear H'
    try clear p2
    obtain ⟨x5_1, rfl, HA, HK1, HB⟩ := hrel
    cases gk with
    | zero => exact absurd HA.out (by simp [impl_Digits.l0])
    | succ k1 =>
      have H := HA.out
      clear HA
      simp only [impl_Digits.l0] at H
      by_cases c6 : (x5_1.size : Int) < a1
      · rw [if_pos c6] at H
        have c6b0 : decide ((x5_1.size : Int) < a1) = true := decide_eq_true c6
        clear c6
        by_cases c7 : (x5_1.size : Int) < 20
        · rw [if_pos c7] at H
          have c7b0 : decide ((x5_1.size : Int) < 20) = true := decide_eq_true c7
          have c7b1 : decide (x5_1.size < 20) = true := decide_eq_true (by omega)
          clear c7
          by_cases c8 : 1 + x5_1.size ≤ 9223372036854775807
          · rw [if_pos c8] at H
            have c8b0 := eq_true c8
            have c8b1 : decide (1 + x5_1.size ≤ 9223372036854775807) = true := decide_eq_true c8
            try have c8b2 : (9223372036854775807 < 1 + x5_1.size) = False := eq_false (Nat.not_lt.2 c8)
            have H' := Aside0.mk H
            clear H
            go_wp2
            go_roundg k1
            case measure => have := HK1.out; omega
            case rel => exact ⟨((⟨#[48]⟩ : ByteArray) ++ x5_1), (by first | rfl | (simp; done) | (simp [*]; done)), H', ⟨by have := HK1.out; omega⟩, ⟨by repeat (first | (with_reducible first | exact HB.out | apply below_alloc | apply pw_below_drewN | apply below_drew1) | exact HB.out)⟩⟩
          · rw [if_neg c8] at H
            exact absurd H (by simp)
        · rw [if_neg c7] at H
          have c7b0 : decide ((x5_1.size : Int) < 20) = false := decide_eq_false c7
          have c7b1 : decide (x5_1.size < 20) = false := decide_eq_false (by omega)
          clear c7
          obtain rfl := Option.some.inj H
          go_wp2
          go_ret
          exact ⟨by first | rfl | (simp [errW_none, errW_some] <;> rfl) | (simp only [← hji3]; first | rfl | (simp [errW_none, errW_some] <;> rfl)) | (simp [*, errW_none, errW_some] <;> rfl), by repeat (first | (with_reducible first | exact HB.out | apply below_alloc | apply pw_below_drewN | apply below_drew1) | exact HB.out)⟩
      · rw [if_neg c6] at H
        have c6b0 : decide ((x5_1.size : Int) < a1) = false := decide_eq_false c6
        clear c6
        obtain rfl := Option.some.inj H
        go_wp2
        go_ret
        exact ⟨by first | rfl | (simp [errW_none, errW_some] <;> rfl) | (simp only [← hji3]; first | rfl | (simp [errW_none, errW_some] <;> rfl)) | (simp [*, errW_none, errW_some] <;> rfl), by repeat (first | (with_reducible first | exact HB.out | apply below_alloc | apply pw_below_drewN | apply below_drew1) | exact HB.out)⟩

/-! ### impl_fullDay: function 88 -/
def impl_fullDay.f (a0 : Int) : Option (ByteArray) := (some (([(⟨#[83, 117, 110, 100, 97, 121]⟩ : ByteArray), (⟨#[77, 111, 110, 100, 97, 121]⟩ : ByteArray), (⟨#[84, 117, 101, 115, 100, 97, 121]⟩ : ByteArray), (⟨#[87, 101, 100, 110, 101, 115, 100, 97, 121]⟩ : ByteArray), (⟨#[84, 104, 117, 114, 115, 100, 97, 121]⟩ : ByteArray), (⟨#[70, 114, 105, 100, 97, 121]⟩ : ByteArray), (⟨#[83, 97, 116, 117, 114, 100, 97, 121]⟩ : ByteArray)] : List ByteArray) : List ByteArray)).bind fun y145 => (if 0 ≤ a0 then (if a0 < (y145.length : Int) then (some (rdOf ByteArray.empty y145 a0)) else (none)) else (none))
set_option maxHeartbeats 8000000 in
set_option maxRecDepth 100000 in
theorem impl_fullDay.calls (a0 : Int) (r : ByteArray) (w : World) (h : impl_fullDay.f a0 = some r) :
    Calls Tryd.prog 88 #[.int .i64 a0] w fun e w' => e = .returned (.string r) ∧ Below w.heap.size w w' := by
  have HB := Aside0.mk (Below.refl w.heap.size w)
  have H : ((some (([(⟨#[83, 117, 110, 100, 97, 121]⟩ : ByteArray), (⟨#[77, 111, 110, 100, 97, 121]⟩ : ByteArray), (⟨#[84, 117, 101, 115, 100, 97, 121]⟩ : ByteArray), (⟨#[87, 101, 100, 110, 101, 115, 100, 97, 121]⟩ : ByteArray), (⟨#[84, 104, 117, 114, 115, 100, 97, 121]⟩ : ByteArray), (⟨#[70, 114, 105, 100, 97, 121]⟩ : ByteArray), (⟨#[83, 97, 116, 117, 114, 100, 97, 121]⟩ : ByteArray)] : List ByteArray) : List ByteArray)).bind fun y145 => (if 0 ≤ a0 then (if a0 < (y145.length : Int) then (some (rdOf ByteArray.empty y145 a0)) else (none)) else (none))) = some r := h
  clear h
  obtain ⟨y145, hy145⟩ : ∃ y_ : List ByteArray, y_ = (([(⟨#[83, 117, 110, 100, 97, 121]⟩ : ByteArray), (⟨#[77, 111, 110, 100, 97, 121]⟩ : ByteArray), (⟨#[84, 117, 101, 115, 100, 97, 121]⟩ : ByteArray), (⟨#[87, 101, 100, 110, 101, 115, 100, 97, 121]⟩ : ByteArray), (⟨#[84, 104, 117, 114, 115, 100, 97, 121]⟩ : ByteArray), (⟨#[70, 114, 105, 100, 97, 121]⟩ : ByteArray), (⟨#[83, 97, 116, 117, 114, 100, 97, 121]⟩ : ByteArray)] : List ByteArray)) := ⟨_, rfl⟩
  replace H : (if 0 ≤ a0 then (if a0 < (y145.length : Int) then (some (rdOf ByteArray.empty y145 a0)) else (none)) else (none)) = some r := by first | (rw [hy145]; with_reducible exact H) | (have H2_ := (Option.bind_some _ _).symm.trans H; rw [hy145]; with_reducible exact H2_) | (have H2_ := (Option.bind_some _ _).symm.trans H; with_reducible exact H2_) | with_reducible exact H | (rw [hy145]; exact H) | exact H
  have Ny145 := Aside0.mk hy145
  clear hy145
  by_cases c2 : 0 ≤ a0
  · rw [if_pos c2] at H
    have c2b0 : decide (0 ≤ a0) = true := decide_eq_true c2
    clear c2
    by_cases c3 : a0 < (y145.length : Int)
    · rw [if_pos c3] at H
      have c3b0 : decide (a0 < (y145.length : Int)) = true := decide_eq_true c3
      clear c3
      obtain rfl := Option.some.inj H
      go_enter Tryd.func88, Tryd.ntmps88
      go_wp2_with (first | ((with_reducible refine gate_dst (N := 3) rfl ?_); refine Kd.R_lit Kd.string _ 9 ?hg (N := 3) ?hd (xs := ([(⟨#[83, 117, 110, 100, 97, 121]⟩ : ByteArray), (⟨#[77, 111, 110, 100, 97, 121]⟩ : ByteArray), (⟨#[84, 117, 101, 115, 100, 97, 121]⟩ : ByteArray), (⟨#[87, 101, 100, 110, 101, 115, 100, 97, 121]⟩ : ByteArray), (⟨#[84, 104, 117, 114, 115, 100, 97, 121]⟩ : ByteArray), (⟨#[70, 114, 105, 100, 97, 121]⟩ : ByteArray), (⟨#[83, 97, 116, 117, 114, 100, 97, 121]⟩ : ByteArray)] : List ByteArray)) (inner := [.string (⟨#[83, 117, 110, 100, 97, 121]⟩ : ByteArray), .string (⟨#[77, 111, 110, 100, 97, 121]⟩ : ByteArray), .string (⟨#[84, 117, 101, 115, 100, 97, 121]⟩ : ByteArray), .string (⟨#[87, 101, 100, 110, 101, 115, 100, 97, 121]⟩ : ByteArray), .string (⟨#[84, 104, 117, 114, 115, 100, 97, 121]⟩ : ByteArray), .string (⟨#[70, 114, 105, 100, 97, 121]⟩ : ByteArray), .string (⟨#[83, 97, 116, 117, 114, 100, 97, 121]⟩ : ByteArray)]) (ok := fun _ => True) (okp := fun _ => True) ?hr ?hp (fun _ hk => hk) trivial (Below.refl _ _) (Nat.le_refl _) (by simp) ?_; (case hd => rfl); (case hg => rfl); (case hr => first | (go_simp; done) | (go_simp; rfl)); (case hp => exact (Reps.one (show Kd.M Kd.string _ _ _ (⟨#[83, 117, 110, 100, 97, 121]⟩ : ByteArray) [.string (⟨#[83, 117, 110, 100, 97, 121]⟩ : ByteArray)] from rfl) (Reps.one (show Kd.M Kd.string _ _ _ (⟨#[77, 111, 110, 100, 97, 121]⟩ : ByteArray) [.string (⟨#[77, 111, 110, 100, 97, 121]⟩ : ByteArray)] from rfl) (Reps.one (show Kd.M Kd.string _ _ _ (⟨#[84, 117, 101, 115, 100, 97, 121]⟩ : ByteArray) [.string (⟨#[84, 117, 101, 115, 100, 97, 121]⟩ : ByteArray)] from rfl) (Reps.one (show Kd.M Kd.string _ _ _ (⟨#[87, 101, 100, 110, 101, 115, 100, 97, 121]⟩ : ByteArray) [.string (⟨#[87, 101, 100, 110, 101, 115, 100, 97, 121]⟩ : ByteArray)] from rfl) (Reps.one (show Kd.M Kd.string _ _ _ (⟨#[84, 104, 117, 114, 115, 100, 97, 121]⟩ : ByteArray) [.string (⟨#[84, 104, 117, 114, 115, 100, 97, 121]⟩ : ByteArray)] from rfl) (Reps.one (show Kd.M Kd.string _ _ _ (⟨#[70, 114, 105, 100, 97, 121]⟩ : ByteArray) [.string (⟨#[70, 114, 105, 100, 97, 121]⟩ : ByteArray)] from rfl) (Reps.one (show Kd.M Kd.string _ _ _ (⟨#[83, 97, 116, 117, 114, 100, 97, 121]⟩ : ByteArray) [.string (⟨#[83, 97, 116, 117, 114, 100, 97, 121]⟩ : ByteArray)] from rfl) (Reps.none _ _))))))))); intro v146 w4 ho5 hb hg_ hnew_; clear hg_ hnew_; (first | rw [← Ny145.out] at ho5 | (simp only [Int.reduceToNat] at ho5; rw [← Ny145.out] at ho5)); have n0_ := Aside0.mk (Kd.R_lower ho5 (below_size (by repeat (first | (with_reducible first | exact HB.out | apply below_alloc | apply pw_below_drewN | apply below_drew1) | exact HB.out)))); have n1_ := Aside0.mk (below_step (by repeat (first | (with_reducible first | exact HB.out | apply below_alloc | apply pw_below_drewN | apply below_drew1) | exact HB.out)) hb); clear HB; have HO147 := n0_; have HB := n1_; clear n0_ n1_; clear hb ho5; obtain ⟨Ao6, co6, eo6⟩ := Kd.R_slice HO147.out; subst eo6; have p148 : 0 ≤ (a0 : Int) := of_decide_eq_true (by first | (with_reducible assumption) | assumption); have q148 : a0 < (y145.length : Int) := of_decide_eq_true (by first | (with_reducible assumption) | assumption); obtain ⟨ad148, e148, hx148_0⟩ := Kd.at_string (Kd.R_reads' HO147.out).2.2 a0 p148 q148; cases e148; replace p148 := eq_true p148; replace q148 := eq_true q148))
      go_ret
      exact ⟨by first | rfl | (simp [errW_none, errW_some] <;> rfl) | (simp [*, errW_none, errW_some] <;> rfl), by repeat (first | (with_reducible first | exact HB.out | apply below_alloc | apply pw_below_drewN | apply below_drew1) | exact HB.out)⟩
    · rw [if_neg c3] at H
      exact absurd H (by simp)
  · rw [if_neg c2] at H
    exact absurd H (by simp)

/-! ### impl_dateText: function 44 -/
/-- Three letters of a day, of a month. -/
def dayT (wd : Int) : ByteArray := (⟨#[83, 117, 110, 77, 111, 110, 84, 117, 101, 87, 101, 100, 84, 104, 117, 70, 114, 105, 83, 97, 116]⟩ : ByteArray).extract (3 * wd).toNat (3 * wd + 3).toNat
def monT (m : Int) : ByteArray := (⟨#[74, 97, 110, 70, 101, 98, 77, 97, 114, 65, 112, 114, 77, 97, 121, 74, 117, 110, 74, 117, 108, 65, 117, 103, 83, 101, 112, 79, 99, 116, 78, 111, 118, 68, 101, 99]⟩ : ByteArray).extract (3 * m - 3).toNat (3 * m).toNat
theorem dayT_size (wd : Int) : (dayT wd).size ≤ 21 := by unfold dayT; rw [ByteArray.size_extract, show (⟨#[83, 117, 110, 77, 111, 110, 84, 117, 101, 87, 101, 100, 84, 104, 117, 70, 114, 105, 83, 97, 116]⟩ : ByteArray).size = 21 from rfl]; omega
theorem monT_size (m : Int) : (monT m).size ≤ 36 := by unfold monT; rw [ByteArray.size_extract, show (⟨#[74, 97, 110, 70, 101, 98, 77, 97, 114, 65, 112, 114, 77, 97, 121, 74, 117, 110, 74, 117, 108, 65, 117, 103, 83, 101, 112, 79, 99, 116, 78, 111, 118, 68, 101, 99]⟩ : ByteArray).size = 36 from rfl]; omega
def impl_dateText.form (k : Nat) (a1 y d wd : Int) (dn mn clk : ByteArray) : Option ByteArray :=
  if a1 = 1 then (impl_Digits.f k d 2).bind fun dd => (impl_FormatInt.f y).bind fun yy => if dd.size ≤ 100 ∧ yy.size ≤ 100 then some (((((((((dn ++ (⟨#[44, 32]⟩ : ByteArray)) ++ dd) ++ (⟨#[32]⟩ : ByteArray)) ++ mn) ++ (⟨#[32]⟩ : ByteArray)) ++ yy) ++ (⟨#[32]⟩ : ByteArray)) ++ clk) ++ (⟨#[32, 71, 77, 84]⟩ : ByteArray)) else none
  else if a1 = 2 then (if y > 2069 then some (⟨#[]⟩ : ByteArray) else (impl_fullDay.f wd).bind fun fd => (impl_Digits.f k d 2).bind fun dd => (impl_Digits.f k (Int.tmod y 100) 2).bind fun yy => if fd.size ≤ 100 ∧ dd.size ≤ 100 ∧ yy.size ≤ 100 then some (((((((((fd ++ (⟨#[44, 32]⟩ : ByteArray)) ++ dd) ++ (⟨#[45]⟩ : ByteArray)) ++ mn) ++ (⟨#[45]⟩ : ByteArray)) ++ yy) ++ (⟨#[32]⟩ : ByteArray)) ++ clk) ++ (⟨#[32, 71, 77, 84]⟩ : ByteArray)) else none)
  else (impl_FormatInt.f d).bind fun dd => (impl_FormatInt.f y).bind fun yy => if dd.size ≤ 100 ∧ yy.size ≤ 100 then (if d < 10 then some ((((((((dn ++ (⟨#[32]⟩ : ByteArray)) ++ mn) ++ (⟨#[32]⟩ : ByteArray)) ++ ((⟨#[32]⟩ : ByteArray) ++ dd)) ++ (⟨#[32]⟩ : ByteArray)) ++ clk) ++ (⟨#[32]⟩ : ByteArray)) ++ yy) else some ((((((((dn ++ (⟨#[32]⟩ : ByteArray)) ++ mn) ++ (⟨#[32]⟩ : ByteArray)) ++ dd) ++ (⟨#[32]⟩ : ByteArray)) ++ clk) ++ (⟨#[32]⟩ : ByteArray)) ++ yy)) else none
def impl_dateText.f (k : Nat) (a0 : Int) (a1 : Int) : Option ByteArray :=
  if 0 ≤ a0 ∧ a0 ≤ 4102444799 then (impl_CivilOf.f k (wrap64 (Int.tdiv a0 86400))).bind fun c => (impl_WeekdayOf.f (wrap64 (Int.tdiv a0 86400))).bind fun wd =>
    (impl_Digits.f k (Int.tmod (wrap64 (Int.tdiv a0 3600)) 24) 2).bind fun hh => (impl_Digits.f k (Int.tmod (wrap64 (Int.tdiv a0 60)) 60) 2).bind fun mi => (impl_Digits.f k (Int.tmod a0 60) 2).bind fun ss =>
    if (0 ≤ wd ∧ wd ≤ 6) ∧ (1 ≤ c.2.1 ∧ c.2.1 ≤ 12) ∧ (hh.size ≤ 100 ∧ mi.size ≤ 100 ∧ ss.size ≤ 100) then
      impl_dateText.form k a1 c.1 c.2.2 wd (dayT wd) (monT c.2.1) ((((hh ++ (⟨#[58]⟩ : ByteArray)) ++ mi) ++ (⟨#[58]⟩ : ByteArray)) ++ ss)
    else none
  else some (⟨#[]⟩ : ByteArray)
theorem impl_dateText.mono : ∀ a0 a1 k, LeO (impl_dateText.f k a0 a1) (impl_dateText.f (k + 1) a0 a1) := by
  intro a0 a1 k
  unfold impl_dateText.f impl_dateText.form
  repeat' first | exact LeO.refl _ | exact impl_CivilOf.mono _ _ | exact impl_Digits.mono _ _ _ | (refine LeO.bind ?_ (fun _ => ?_)) | (refine LeO.ite ?_ ?_) | split
set_option maxHeartbeats 8000000 in
set_option maxRecDepth 100000 in
theorem impl_dateText.calls (k : Nat) (a0 : Int) (a1 : Int) (r : ByteArray) (w : World) (hG : Glob w) (h : impl_dateText.f k a0 a1 = some r) :
    Calls Tryd.prog 44 #[.int .i64 a0, .int .i64 a1] w fun e w' => e = .returned (.string r) ∧ Below w.heap.size w w' := by
  have HG := Aside0.mk hG
  clear hG
  have HB := Aside0.mk (Below.refl w.heap.size w)
  unfold impl_dateText.f at h
  by_cases g : 0 ≤ a0 ∧ a0 ≤ 4102444799
  · rw [if_pos g] at h
    have A3 := Aside0.mk (show impl_inRange.f a0 0 4102444799 = some true by unfold impl_inRange.f; rw [if_pos g.1, decide_eq_true g.2])
    clear g
    replace h := Option.bind_eq_some_iff.mp h; obtain ⟨⟨y, m, d⟩, A50, h⟩ := h
    have A5 := Aside0.mk A50
    clear A50
    replace h := Option.bind_eq_some_iff.mp h; obtain ⟨wd, A60, h⟩ := h
    have A6 := Aside0.mk A60
    clear A60
    replace h := Option.bind_eq_some_iff.mp h; obtain ⟨hh, A70, h⟩ := h
    have A7 := Aside0.mk A70
    clear A70
    replace h := Option.bind_eq_some_iff.mp h; obtain ⟨mi, A80, h⟩ := h
    have A8 := Aside0.mk A80
    clear A80
    replace h := Option.bind_eq_some_iff.mp h; obtain ⟨ss, A90, h⟩ := h
    have A9 := Aside0.mk A90
    clear A90
    dsimp only at h
    split at h
    · rename_i hc
      obtain ⟨⟨w0, w1⟩, ⟨m0, m1⟩, z1, z2, z3⟩ := hc
      have zd := dayT_size wd
      have zm := monT_size m
      have hdn : (⟨#[83, 117, 110, 77, 111, 110, 84, 117, 101, 87, 101, 100, 84, 104, 117, 70, 114, 105, 83, 97, 116]⟩ : ByteArray).extract (3 * wd).toNat (3 * wd + 3).toNat = dayT wd := rfl
      have hmn : (⟨#[74, 97, 110, 70, 101, 98, 77, 97, 114, 65, 112, 114, 77, 97, 121, 74, 117, 110, 74, 117, 108, 65, 117, 103, 83, 101, 112, 79, 99, 116, 78, 111, 118, 68, 101, 99]⟩ : ByteArray).extract (3 * m - 3).toNat (3 * m).toNat = monT m := rfl
      generalize dayT wd = dn at h hdn zd
      generalize monT m = mn at h hmn zm
      have hi : ∀ z : Int, 0 ≤ z → z ≤ 1000 → wrap64 z = z := fun z h0 h1 => by unfold wrap64; omega
      obtain ⟨p, hp⟩ : ∃ p : Int, p = 3 * wd := ⟨_, rfl⟩
      obtain ⟨p2, hp2⟩ : ∃ p : Int, p = 3 * wd + 3 := ⟨_, rfl⟩
      obtain ⟨q2, hq2⟩ : ∃ p : Int, p = 3 * m := ⟨_, rfl⟩
      obtain ⟨q, hq⟩ : ∃ p : Int, p = 3 * m - 3 := ⟨_, rfl⟩
      rw [← hp2, ← hp] at hdn
      rw [← hq, ← hq2] at hmn
      have e1 : wrap64 (3 * wd) = p := by rw [hi _ (by omega) (by omega), hp]
      have e2 : wrap64 (p + 3) = p2 := by rw [hi _ (by omega) (by omega)]; omega
      have e3 : wrap64 (3 * m) = q2 := by rw [hi _ (by omega) (by omega), hq2]
      have e4 : wrap64 (q2 - 3) = q := by rw [hi _ (by omega) (by omega)]; omega
      have e1w : IntKind.i64.wrap (3 * wd) = p := (i64_w _).trans e1
      have e2w : IntKind.i64.wrap (p + 3) = p2 := (i64_w _).trans e2
      have e3w : IntKind.i64.wrap (3 * m) = q2 := (i64_w _).trans e3
      have e4w : IntKind.i64.wrap (q2 - 3) = q := (i64_w _).trans e4
      have t1 : (0 ≤ p) = True := eq_true (by omega)
      have t1d : decide (0 ≤ p) = true := decide_eq_true (by omega)
      have t2 : (p ≤ p2) = True := eq_true (by omega)
      have t2d : decide (p ≤ p2) = true := decide_eq_true (by omega)
      have t3 : (p2 ≤ 21) = True := eq_true (by omega)
      have t3d : decide (p2 ≤ 21) = true := decide_eq_true (by omega)
      have t4 : (0 ≤ q) = True := eq_true (by omega)
      have t4d : decide (0 ≤ q) = true := decide_eq_true (by omega)
      have t5 : (q ≤ q2) = True := eq_true (by omega)
      have t5d : decide (q ≤ q2) = true := decide_eq_true (by omega)
      have t6 : (q2 ≤ 36) = True := eq_true (by omega)
      have t6d : decide (q2 ≤ 36) = true := decide_eq_true (by omega)
      clear hi hp hp2 hq hq2 w0 w1 m0 m1
      have k1 : hh.size + 1 ≤ 9223372036854775807 := by (try simp only [ByteArray.size_append, show (⟨#[58]⟩ : ByteArray).size = 1 from rfl]); omega
      have k1b0 := eq_true k1
      have k1b1 : decide (hh.size + 1 ≤ 9223372036854775807) = true := decide_eq_true k1
      try (have k1n := k1; simp only [ByteArray.size_append, show (⟨#[58]⟩ : ByteArray).size = 1 from rfl] at k1n; have k1b3 := eq_true k1n; have k1b4 := eq_false (Nat.not_lt.2 k1n); clear k1n)
      have k1b2 : (9223372036854775807 < hh.size + 1) = False := eq_false (Nat.not_lt.2 k1)
      clear k1
      have k2 : (hh ++ (⟨#[58]⟩ : ByteArray)).size + mi.size ≤ 9223372036854775807 := by (try simp only [ByteArray.size_append, show (⟨#[58]⟩ : ByteArray).size = 1 from rfl]); omega
      have k2b0 := eq_true k2
      have k2b1 : decide ((hh ++ (⟨#[58]⟩ : ByteArray)).size + mi.size ≤ 9223372036854775807) = true := decide_eq_true k2
      try (have k2n := k2; simp only [ByteArray.size_append, show (⟨#[58]⟩ : ByteArray).size = 1 from rfl] at k2n; have k2b3 := eq_true k2n; have k2b4 := eq_false (Nat.not_lt.2 k2n); clear k2n)
      have k2b2 : (9223372036854775807 < (hh ++ (⟨#[58]⟩ : ByteArray)).size + mi.size) = False := eq_false (Nat.not_lt.2 k2)
      clear k2
      have k3 : ((hh ++ (⟨#[58]⟩ : ByteArray)) ++ mi).size + 1 ≤ 9223372036854775807 := by (try simp only [ByteArray.size_append, show (⟨#[58]⟩ : ByteArray).size = 1 from rfl]); omega
      have k3b0 := eq_true k3
      have k3b1 : decide (((hh ++ (⟨#[58]⟩ : ByteArray)) ++ mi).size + 1 ≤ 9223372036854775807) = true := decide_eq_true k3
      try (have k3n := k3; simp only [ByteArray.size_append, show (⟨#[58]⟩ : ByteArray).size = 1 from rfl] at k3n; have k3b3 := eq_true k3n; have k3b4 := eq_false (Nat.not_lt.2 k3n); clear k3n)
      have k3b2 : (9223372036854775807 < ((hh ++ (⟨#[58]⟩ : ByteArray)) ++ mi).size + 1) = False := eq_false (Nat.not_lt.2 k3)
      clear k3
      have k4 : (((hh ++ (⟨#[58]⟩ : ByteArray)) ++ mi) ++ (⟨#[58]⟩ : ByteArray)).size + ss.size ≤ 9223372036854775807 := by (try simp only [ByteArray.size_append, show (⟨#[58]⟩ : ByteArray).size = 1 from rfl]); omega
      have k4b0 := eq_true k4
      have k4b1 : decide ((((hh ++ (⟨#[58]⟩ : ByteArray)) ++ mi) ++ (⟨#[58]⟩ : ByteArray)).size + ss.size ≤ 9223372036854775807) = true := decide_eq_true k4
      try (have k4n := k4; simp only [ByteArray.size_append, show (⟨#[58]⟩ : ByteArray).size = 1 from rfl] at k4n; have k4b3 := eq_true k4n; have k4b4 := eq_false (Nat.not_lt.2 k4n); clear k4n)
      have k4b2 : (9223372036854775807 < (((hh ++ (⟨#[58]⟩ : ByteArray)) ++ mi) ++ (⟨#[58]⟩ : ByteArray)).size + ss.size) = False := eq_false (Nat.not_lt.2 k4)
      clear k4
      unfold impl_dateText.form at h
      by_cases c1 : a1 = 1
      · rw [if_pos c1] at h
        subst c1
        replace h := Option.bind_eq_some_iff.mp h; obtain ⟨dd, B10, h⟩ := h
        have B1 := Aside0.mk B10
        clear B10
        replace h := Option.bind_eq_some_iff.mp h; obtain ⟨yy, B20, h⟩ := h
        have B2 := Aside0.mk B20
        clear B20
        try dsimp only at h
        split at h
        · rename_i hz
          obtain ⟨z4, z5⟩ := hz
          have f1 : dn.size + 2 ≤ 9223372036854775807 := by (try simp only [ByteArray.size_append, show (⟨#[32, 71, 77, 84]⟩ : ByteArray).size = 4 from rfl, show (⟨#[32]⟩ : ByteArray).size = 1 from rfl, show (⟨#[44, 32]⟩ : ByteArray).size = 2 from rfl, show (⟨#[58]⟩ : ByteArray).size = 1 from rfl]); omega
          have f1b0 := eq_true f1
          have f1b1 : decide (dn.size + 2 ≤ 9223372036854775807) = true := decide_eq_true f1
          try (have f1n := f1; simp only [ByteArray.size_append, show (⟨#[32, 71, 77, 84]⟩ : ByteArray).size = 4 from rfl, show (⟨#[32]⟩ : ByteArray).size = 1 from rfl, show (⟨#[44, 32]⟩ : ByteArray).size = 2 from rfl, show (⟨#[58]⟩ : ByteArray).size = 1 from rfl] at f1n; have f1b3 := eq_true f1n; have f1b4 := eq_false (Nat.not_lt.2 f1n); clear f1n)
          have f1b2 : (9223372036854775807 < dn.size + 2) = False := eq_false (Nat.not_lt.2 f1)
          clear f1
          have f2 : (dn ++ (⟨#[44, 32]⟩ : ByteArray)).size + dd.size ≤ 9223372036854775807 := by (try simp only [ByteArray.size_append, show (⟨#[32, 71, 77, 84]⟩ : ByteArray).size = 4 from rfl, show (⟨#[32]⟩ : ByteArray).size = 1 from rfl, show (⟨#[44, 32]⟩ : ByteArray).size = 2 from rfl, show (⟨#[58]⟩ : ByteArray).size = 1 from rfl]); omega
          have f2b0 := eq_true f2
          have f2b1 : decide ((dn ++ (⟨#[44, 32]⟩ : ByteArray)).size + dd.size ≤ 9223372036854775807) = true := decide_eq_true f2
          try (have f2n := f2; simp only [ByteArray.size_append, show (⟨#[32, 71, 77, 84]⟩ : ByteArray).size = 4 from rfl, show (⟨#[32]⟩ : ByteArray).size = 1 from rfl, show (⟨#[44, 32]⟩ : ByteArray).size = 2 from rfl, show (⟨#[58]⟩ : ByteArray).size = 1 from rfl] at f2n; have f2b3 := eq_true f2n; have f2b4 := eq_false (Nat.not_lt.2 f2n); clear f2n)
          have f2b2 : (9223372036854775807 < (dn ++ (⟨#[44, 32]⟩ : ByteArray)).size + dd.size) = False := eq_false (Nat.not_lt.2 f2)
          clear f2
          have f3 : ((dn ++ (⟨#[44, 32]⟩ : ByteArray)) ++ dd).size + 1 ≤ 9223372036854775807 := by (try simp only [ByteArray.size_append, show (⟨#[32, 71, 77, 84]⟩ : ByteArray).size = 4 from rfl, show (⟨#[32]⟩ : ByteArray).size = 1 from rfl, show (⟨#[44, 32]⟩ : ByteArray).size = 2 from rfl, show (⟨#[58]⟩ : ByteArray).size = 1 from rfl]); omega
          have f3b0 := eq_true f3
          have f3b1 : decide (((dn ++ (⟨#[44, 32]⟩ : ByteArray)) ++ dd).size + 1 ≤ 9223372036854775807) = true := decide_eq_true f3
          try (have f3n := f3; simp only [ByteArray.size_append, show (⟨#[32, 71, 77, 84]⟩ : ByteArray).size = 4 from rfl, show (⟨#[32]⟩ : ByteArray).size = 1 from rfl, show (⟨#[44, 32]⟩ : ByteArray).size = 2 from rfl, show (⟨#[58]⟩ : ByteArray).size = 1 from rfl] at f3n; have f3b3 := eq_true f3n; have f3b4 := eq_false (Nat.not_lt.2 f3n); clear f3n)
          have f3b2 : (9223372036854775807 < ((dn ++ (⟨#[44, 32]⟩ : ByteArray)) ++ dd).size + 1) = False := eq_false (Nat.not_lt.2 f3)
          clear f3
          have f4 : (((dn ++ (⟨#[44, 32]⟩ : ByteArray)) ++ dd) ++ (⟨#[32]⟩ : ByteArray)).size + mn.size ≤ 9223372036854775807 := by (try simp only [ByteArray.size_append, show (⟨#[32, 71, 77, 84]⟩ : ByteArray).size = 4 from rfl, show (⟨#[32]⟩ : ByteArray).size = 1 from rfl, show (⟨#[44, 32]⟩ : ByteArray).size = 2 from rfl, show (⟨#[58]⟩ : ByteArray).size = 1 from rfl]); omega
          have f4b0 := eq_true f4
          have f4b1 : decide ((((dn ++ (⟨#[44, 32]⟩ : ByteArray)) ++ dd) ++ (⟨#[32]⟩ : ByteArray)).size + mn.size ≤ 9223372036854775807) = true := decide_eq_true f4
          try (have f4n := f4; simp only [ByteArray.size_append, show (⟨#[32, 71, 77, 84]⟩ : ByteArray).size = 4 from rfl, show (⟨#[32]⟩ : ByteArray).size = 1 from rfl, show (⟨#[44, 32]⟩ : ByteArray).size = 2 from rfl, show (⟨#[58]⟩ : ByteArray).size = 1 from rfl] at f4n; have f4b3 := eq_true f4n; have f4b4 := eq_false (Nat.not_lt.2 f4n); clear f4n)
          have f4b2 : (9223372036854775807 < (((dn ++ (⟨#[44, 32]⟩ : ByteArray)) ++ dd) ++ (⟨#[32]⟩ : ByteArray)).size + mn.size) = False := eq_false (Nat.not_lt.2 f4)
          clear f4
          have f5 : ((((dn ++ (⟨#[44, 32]⟩ : ByteArray)) ++ dd) ++ (⟨#[32]⟩ : ByteArray)) ++ mn).size + 1 ≤ 9223372036854775807 := by (try simp only [ByteArray.size_append, show (⟨#[32, 71, 77, 84]⟩ : ByteArray).size = 4 from rfl, show (⟨#[32]⟩ : ByteArray).size = 1 from rfl, show (⟨#[44, 32]⟩ : ByteArray).size = 2 from rfl, show (⟨#[58]⟩ : ByteArray).size = 1 from rfl]); omega
          have f5b0 := eq_true f5
          have f5b1 : decide (((((dn ++ (⟨#[44, 32]⟩ : ByteArray)) ++ dd) ++ (⟨#[32]⟩ : ByteArray)) ++ mn).size + 1 ≤ 9223372036854775807) = true := decide_eq_true f5
          try (have f5n := f5; simp only [ByteArray.size_append, show (⟨#[32, 71, 77, 84]⟩ : ByteArray).size = 4 from rfl, show (⟨#[32]⟩ : ByteArray).size = 1 from rfl, show (⟨#[44, 32]⟩ : ByteArray).size = 2 from rfl, show (⟨#[58]⟩ : ByteArray).size = 1 from rfl] at f5n; have f5b3 := eq_true f5n; have f5b4 := eq_false (Nat.not_lt.2 f5n); clear f5n)
          have f5b2 : (9223372036854775807 < ((((dn ++ (⟨#[44, 32]⟩ : ByteArray)) ++ dd) ++ (⟨#[32]⟩ : ByteArray)) ++ mn).size + 1) = False := eq_false (Nat.not_lt.2 f5)
          clear f5
          have f6 : (((((dn ++ (⟨#[44, 32]⟩ : ByteArray)) ++ dd) ++ (⟨#[32]⟩ : ByteArray)) ++ mn) ++ (⟨#[32]⟩ : ByteArray)).size + yy.size ≤ 9223372036854775807 := by (try simp only [ByteArray.size_append, show (⟨#[32, 71, 77, 84]⟩ : ByteArray).size = 4 from rfl, show (⟨#[32]⟩ : ByteArray).size = 1 from rfl, show (⟨#[44, 32]⟩ : ByteArray).size = 2 from rfl, show (⟨#[58]⟩ : ByteArray).size = 1 from rfl]); omega
          have f6b0 := eq_true f6
          have f6b1 : decide ((((((dn ++ (⟨#[44, 32]⟩ : ByteArray)) ++ dd) ++ (⟨#[32]⟩ : ByteArray)) ++ mn) ++ (⟨#[32]⟩ : ByteArray)).size + yy.size ≤ 9223372036854775807) = true := decide_eq_true f6
          try (have f6n := f6; simp only [ByteArray.size_append, show (⟨#[32, 71, 77, 84]⟩ : ByteArray).size = 4 from rfl, show (⟨#[32]⟩ : ByteArray).size = 1 from rfl, show (⟨#[44, 32]⟩ : ByteArray).size = 2 from rfl, show (⟨#[58]⟩ : ByteArray).size = 1 from rfl] at f6n; have f6b3 := eq_true f6n; have f6b4 := eq_false (Nat.not_lt.2 f6n); clear f6n)
          have f6b2 : (9223372036854775807 < (((((dn ++ (⟨#[44, 32]⟩ : ByteArray)) ++ dd) ++ (⟨#[32]⟩ : ByteArray)) ++ mn) ++ (⟨#[32]⟩ : ByteArray)).size + yy.size) = False := eq_false (Nat.not_lt.2 f6)
          clear f6
          have f7 : ((((((dn ++ (⟨#[44, 32]⟩ : ByteArray)) ++ dd) ++ (⟨#[32]⟩ : ByteArray)) ++ mn) ++ (⟨#[32]⟩ : ByteArray)) ++ yy).size + 1 ≤ 9223372036854775807 := by (try simp only [ByteArray.size_append, show (⟨#[32, 71, 77, 84]⟩ : ByteArray).size = 4 from rfl, show (⟨#[32]⟩ : ByteArray).size = 1 from rfl, show (⟨#[44, 32]⟩ : ByteArray).size = 2 from rfl, show (⟨#[58]⟩ : ByteArray).size = 1 from rfl]); omega
          have f7b0 := eq_true f7
          have f7b1 : decide (((((((dn ++ (⟨#[44, 32]⟩ : ByteArray)) ++ dd) ++ (⟨#[32]⟩ : ByteArray)) ++ mn) ++ (⟨#[32]⟩ : ByteArray)) ++ yy).size + 1 ≤ 9223372036854775807) = true := decide_eq_true f7
          try (have f7n := f7; simp only [ByteArray.size_append, show (⟨#[32, 71, 77, 84]⟩ : ByteArray).size = 4 from rfl, show (⟨#[32]⟩ : ByteArray).size = 1 from rfl, show (⟨#[44, 32]⟩ : ByteArray).size = 2 from rfl, show (⟨#[58]⟩ : ByteArray).size = 1 from rfl] at f7n; have f7b3 := eq_true f7n; have f7b4 := eq_false (Nat.not_lt.2 f7n); clear f7n)
          have f7b2 : (9223372036854775807 < ((((((dn ++ (⟨#[44, 32]⟩ : ByteArray)) ++ dd) ++ (⟨#[32]⟩ : ByteArray)) ++ mn) ++ (⟨#[32]⟩ : ByteArray)) ++ yy).size + 1) = False := eq_false (Nat.not_lt.2 f7)
          clear f7
          have f8 : (((((((dn ++ (⟨#[44, 32]⟩ : ByteArray)) ++ dd) ++ (⟨#[32]⟩ : ByteArray)) ++ mn) ++ (⟨#[32]⟩ : ByteArray)) ++ yy) ++ (⟨#[32]⟩ : ByteArray)).size + ((((hh ++ (⟨#[58]⟩ : ByteArray)) ++ mi) ++ (⟨#[58]⟩ : ByteArray)) ++ ss).size ≤ 9223372036854775807 := by (try simp only [ByteArray.size_append, show (⟨#[32, 71, 77, 84]⟩ : ByteArray).size = 4 from rfl, show (⟨#[32]⟩ : ByteArray).size = 1 from rfl, show (⟨#[44, 32]⟩ : ByteArray).size = 2 from rfl, show (⟨#[58]⟩ : ByteArray).size = 1 from rfl]); omega
          have f8b0 := eq_true f8
          have f8b1 : decide ((((((((dn ++ (⟨#[44, 32]⟩ : ByteArray)) ++ dd) ++ (⟨#[32]⟩ : ByteArray)) ++ mn) ++ (⟨#[32]⟩ : ByteArray)) ++ yy) ++ (⟨#[32]⟩ : ByteArray)).size + ((((hh ++ (⟨#[58]⟩ : ByteArray)) ++ mi) ++ (⟨#[58]⟩ : ByteArray)) ++ ss).size ≤ 9223372036854775807) = true := decide_eq_true f8
          try (have f8n := f8; simp only [ByteArray.size_append, show (⟨#[32, 71, 77, 84]⟩ : ByteArray).size = 4 from rfl, show (⟨#[32]⟩ : ByteArray).size = 1 from rfl, show (⟨#[44, 32]⟩ : ByteArray).size = 2 from rfl, show (⟨#[58]⟩ : ByteArray).size = 1 from rfl] at f8n; have f8b3 := eq_true f8n; have f8b4 := eq_false (Nat.not_lt.2 f8n); clear f8n)
          have f8b2 : (9223372036854775807 < (((((((dn ++ (⟨#[44, 32]⟩ : ByteArray)) ++ dd) ++ (⟨#[32]⟩ : ByteArray)) ++ mn) ++ (⟨#[32]⟩ : ByteArray)) ++ yy) ++ (⟨#[32]⟩ : ByteArray)).size + ((((hh ++ (⟨#[58]⟩ : ByteArray)) ++ mi) ++ (⟨#[58]⟩ : ByteArray)) ++ ss).size) = False := eq_false (Nat.not_lt.2 f8)
          clear f8
          have f9 : ((((((((dn ++ (⟨#[44, 32]⟩ : ByteArray)) ++ dd) ++ (⟨#[32]⟩ : ByteArray)) ++ mn) ++ (⟨#[32]⟩ : ByteArray)) ++ yy) ++ (⟨#[32]⟩ : ByteArray)) ++ ((((hh ++ (⟨#[58]⟩ : ByteArray)) ++ mi) ++ (⟨#[58]⟩ : ByteArray)) ++ ss)).size + 4 ≤ 9223372036854775807 := by (try simp only [ByteArray.size_append, show (⟨#[32, 71, 77, 84]⟩ : ByteArray).size = 4 from rfl, show (⟨#[32]⟩ : ByteArray).size = 1 from rfl, show (⟨#[44, 32]⟩ : ByteArray).size = 2 from rfl, show (⟨#[58]⟩ : ByteArray).size = 1 from rfl]); omega
          have f9b0 := eq_true f9
          have f9b1 : decide (((((((((dn ++ (⟨#[44, 32]⟩ : ByteArray)) ++ dd) ++ (⟨#[32]⟩ : ByteArray)) ++ mn) ++ (⟨#[32]⟩ : ByteArray)) ++ yy) ++ (⟨#[32]⟩ : ByteArray)) ++ ((((hh ++ (⟨#[58]⟩ : ByteArray)) ++ mi) ++ (⟨#[58]⟩ : ByteArray)) ++ ss)).size + 4 ≤ 9223372036854775807) = true := decide_eq_true f9
          try (have f9n := f9; simp only [ByteArray.size_append, show (⟨#[32, 71, 77, 84]⟩ : ByteArray).size = 4 from rfl, show (⟨#[32]⟩ : ByteArray).size = 1 from rfl, show (⟨#[44, 32]⟩ : ByteArray).size = 2 from rfl, show (⟨#[58]⟩ : ByteArray).size = 1 from rfl] at f9n; have f9b3 := eq_true f9n; have f9b4 := eq_false (Nat.not_lt.2 f9n); clear f9n)
          have f9b2 : (9223372036854775807 < ((((((((dn ++ (⟨#[44, 32]⟩ : ByteArray)) ++ dd) ++ (⟨#[32]⟩ : ByteArray)) ++ mn) ++ (⟨#[32]⟩ : ByteArray)) ++ yy) ++ (⟨#[32]⟩ : ByteArray)) ++ ((((hh ++ (⟨#[58]⟩ : ByteArray)) ++ mi) ++ (⟨#[58]⟩ : ByteArray)) ++ ss)).size + 4) = False := eq_false (Nat.not_lt.2 f9)
          clear f9
          clear z1 z2 z3 z4 z5 zd zm
          obtain rfl := Option.some.inj h
          clear h
          go_enter Tryd.func44, Tryd.ntmps44
          go_wp2_with (first | (go_at_call 49; (with_reducible refine (impl_inRange.calls a0 0 4102444799 true  _ A3.out).mono ?_); rintro e w' ⟨rfl, ⟨nd, rfl⟩⟩; (try first | exact ⟨rfl, _, World.drewN_drewN _ _ _⟩ | exact ⟨rfl, _, Eq.trans (World.drewN_drewN _ _ _) (congrArg (World.drewN _) (Nat.add_assoc _ _ _))⟩)) | (go_at_call 15; (with_reducible refine (impl_CivilOf.calls k (wrap64 (Int.tdiv a0 86400)) y m d  _ A5.out).mono ?_); rintro e w' ⟨rfl, ⟨nd, rfl⟩⟩; (try first | exact ⟨rfl, _, World.drewN_drewN _ _ _⟩ | exact ⟨rfl, _, Eq.trans (World.drewN_drewN _ _ _) (congrArg (World.drewN _) (Nat.add_assoc _ _ _))⟩)) | (go_at_call 18; (with_reducible refine (impl_WeekdayOf.calls (wrap64 (Int.tdiv a0 86400)) wd  _ A6.out).mono ?_); rintro e w' ⟨rfl, ⟨nd, rfl⟩⟩; (try first | exact ⟨rfl, _, World.drewN_drewN _ _ _⟩ | exact ⟨rfl, _, Eq.trans (World.drewN_drewN _ _ _) (congrArg (World.drewN _) (Nat.add_assoc _ _ _))⟩)) | (go_at_call 86; (with_reducible refine (impl_Digits.calls k (Int.tmod (wrap64 (Int.tdiv a0 3600)) 24) 2 hh  _ ?side1 A7.out).mono ?_); (case side1 => exact Glob.below HG.out (by repeat (first | (with_reducible first | exact HB.out | apply below_alloc | apply pw_below_drewN | apply below_drew1) | exact HB.out))); rintro e w' ⟨rfl, hb⟩; have n0_ := Aside0.mk (below_step (by repeat (first | (with_reducible first | exact HB.out | apply below_alloc | apply pw_below_drewN | apply below_drew1) | exact HB.out)) hb); clear HB; have HB := n0_; clear n0_; (try clear hb)) | (go_at_call 86; (with_reducible refine (impl_Digits.calls k (Int.tmod (wrap64 (Int.tdiv a0 60)) 60) 2 mi  _ ?side1 A8.out).mono ?_); (case side1 => exact Glob.below HG.out (by repeat (first | (with_reducible first | exact HB.out | apply below_alloc | apply pw_below_drewN | apply below_drew1) | exact HB.out))); rintro e w' ⟨rfl, hb⟩; have n0_ := Aside0.mk (below_step (by repeat (first | (with_reducible first | exact HB.out | apply below_alloc | apply pw_below_drewN | apply below_drew1) | exact HB.out)) hb); clear HB; have HB := n0_; clear n0_; (try clear hb)) | (go_at_call 86; (with_reducible refine (impl_Digits.calls k (Int.tmod a0 60) 2 ss  _ ?side1 A9.out).mono ?_); (case side1 => exact Glob.below HG.out (by repeat (first | (with_reducible first | exact HB.out | apply below_alloc | apply pw_below_drewN | apply below_drew1) | exact HB.out))); rintro e w' ⟨rfl, hb⟩; have n0_ := Aside0.mk (below_step (by repeat (first | (with_reducible first | exact HB.out | apply below_alloc | apply pw_below_drewN | apply below_drew1) | exact HB.out)) hb); clear HB; have HB := n0_; clear n0_; (try clear hb)) | (go_at_call 86; (with_reducible refine (impl_Digits.calls k d 2 dd  _ ?side1 B1.out).mono ?_); (case side1 => exact Glob.below HG.out (by repeat (first | (with_reducible first | exact HB.out | apply below_alloc | apply pw_below_drewN | apply below_drew1) | exact HB.out))); rintro e w' ⟨rfl, hb⟩; have n0_ := Aside0.mk (below_step (by repeat (first | (with_reducible first | exact HB.out | apply below_alloc | apply pw_below_drewN | apply below_drew1) | exact HB.out)) hb); clear HB; have HB := n0_; clear n0_; (try clear hb)) | (go_at_call 87; (with_reducible refine (impl_FormatInt.calls y yy  _ ?side1 B2.out).mono ?_); (case side1 => exact Glob.below HG.out (by repeat (first | (with_reducible first | exact HB.out | apply below_alloc | apply pw_below_drewN | apply below_drew1) | exact HB.out))); rintro e w' ⟨rfl, hb⟩; have n0_ := Aside0.mk (below_step (by repeat (first | (with_reducible first | exact HB.out | apply below_alloc | apply pw_below_drewN | apply below_drew1) | exact HB.out)) hb); clear HB; have HB := n0_; clear n0_; (try clear hb)))
          repeat (go_quiet (first | (go_at_call 49; (with_reducible refine (impl_inRange.calls a0 0 4102444799 true  _ A3.out).mono ?_); rintro e w' ⟨rfl, ⟨nd, rfl⟩⟩; (try first | exact ⟨rfl, _, World.drewN_drewN _ _ _⟩ | exact ⟨rfl, _, Eq.trans (World.drewN_drewN _ _ _) (congrArg (World.drewN _) (Nat.add_assoc _ _ _))⟩)) | (go_at_call 15; (with_reducible refine (impl_CivilOf.calls k (wrap64 (Int.tdiv a0 86400)) y m d  _ A5.out).mono ?_); rintro e w' ⟨rfl, ⟨nd, rfl⟩⟩; (try first | exact ⟨rfl, _, World.drewN_drewN _ _ _⟩ | exact ⟨rfl, _, Eq.trans (World.drewN_drewN _ _ _) (congrArg (World.drewN _) (Nat.add_assoc _ _ _))⟩)) | (go_at_call 18; (with_reducible refine (impl_WeekdayOf.calls (wrap64 (Int.tdiv a0 86400)) wd  _ A6.out).mono ?_); rintro e w' ⟨rfl, ⟨nd, rfl⟩⟩; (try first | exact ⟨rfl, _, World.drewN_drewN _ _ _⟩ | exact ⟨rfl, _, Eq.trans (World.drewN_drewN _ _ _) (congrArg (World.drewN _) (Nat.add_assoc _ _ _))⟩)) | (go_at_call 86; (with_reducible refine (impl_Digits.calls k (Int.tmod (wrap64 (Int.tdiv a0 3600)) 24) 2 hh  _ ?side1 A7.out).mono ?_); (case side1 => exact Glob.below HG.out (by repeat (first | (with_reducible first | exact HB.out | apply below_alloc | apply pw_below_drewN | apply below_drew1) | exact HB.out))); rintro e w' ⟨rfl, hb⟩; have n0_ := Aside0.mk (below_step (by repeat (first | (with_reducible first | exact HB.out | apply below_alloc | apply pw_below_drewN | apply below_drew1) | exact HB.out)) hb); clear HB; have HB := n0_; clear n0_; (try clear hb)) | (go_at_call 86; (with_reducible refine (impl_Digits.calls k (Int.tmod (wrap64 (Int.tdiv a0 60)) 60) 2 mi  _ ?side1 A8.out).mono ?_); (case side1 => exact Glob.below HG.out (by repeat (first | (with_reducible first | exact HB.out | apply below_alloc | apply pw_below_drewN | apply below_drew1) | exact HB.out))); rintro e w' ⟨rfl, hb⟩; have n0_ := Aside0.mk (below_step (by repeat (first | (with_reducible first | exact HB.out | apply below_alloc | apply pw_below_drewN | apply below_drew1) | exact HB.out)) hb); clear HB; have HB := n0_; clear n0_; (try clear hb)) | (go_at_call 86; (with_reducible refine (impl_Digits.calls k (Int.tmod a0 60) 2 ss  _ ?side1 A9.out).mono ?_); (case side1 => exact Glob.below HG.out (by repeat (first | (with_reducible first | exact HB.out | apply below_alloc | apply pw_below_drewN | apply below_drew1) | exact HB.out))); rintro e w' ⟨rfl, hb⟩; have n0_ := Aside0.mk (below_step (by repeat (first | (with_reducible first | exact HB.out | apply below_alloc | apply pw_below_drewN | apply below_drew1) | exact HB.out)) hb); clear HB; have HB := n0_; clear n0_; (try clear hb)) | (go_at_call 86; (with_reducible refine (impl_Digits.calls k d 2 dd  _ ?side1 B1.out).mono ?_); (case side1 => exact Glob.below HG.out (by repeat (first | (with_reducible first | exact HB.out | apply below_alloc | apply pw_below_drewN | apply below_drew1) | exact HB.out))); rintro e w' ⟨rfl, hb⟩; have n0_ := Aside0.mk (below_step (by repeat (first | (with_reducible first | exact HB.out | apply below_alloc | apply pw_below_drewN | apply below_drew1) | exact HB.out)) hb); clear HB; have HB := n0_; clear n0_; (try clear hb)) | (go_at_call 87; (with_reducible refine (impl_FormatInt.calls y yy  _ ?side1 B2.out).mono ?_); (case side1 => exact Glob.below HG.out (by repeat (first | (with_reducible first | exact HB.out | apply below_alloc | apply pw_below_drewN | apply below_drew1) | exact HB.out))); rintro e w' ⟨rfl, hb⟩; have n0_ := Aside0.mk (below_step (by repeat (first | (with_reducible first | exact HB.out | apply below_alloc | apply pw_below_drewN | apply below_drew1) | exact HB.out)) hb); clear HB; have HB := n0_; clear n0_; (try clear hb))); try go_wp2_with (first | (go_at_call 49; (with_reducible refine (impl_inRange.calls a0 0 4102444799 true  _ A3.out).mono ?_); rintro e w' ⟨rfl, ⟨nd, rfl⟩⟩; (try first | exact ⟨rfl, _, World.drewN_drewN _ _ _⟩ | exact ⟨rfl, _, Eq.trans (World.drewN_drewN _ _ _) (congrArg (World.drewN _) (Nat.add_assoc _ _ _))⟩)) | (go_at_call 15; (with_reducible refine (impl_CivilOf.calls k (wrap64 (Int.tdiv a0 86400)) y m d  _ A5.out).mono ?_); rintro e w' ⟨rfl, ⟨nd, rfl⟩⟩; (try first | exact ⟨rfl, _, World.drewN_drewN _ _ _⟩ | exact ⟨rfl, _, Eq.trans (World.drewN_drewN _ _ _) (congrArg (World.drewN _) (Nat.add_assoc _ _ _))⟩)) | (go_at_call 18; (with_reducible refine (impl_WeekdayOf.calls (wrap64 (Int.tdiv a0 86400)) wd  _ A6.out).mono ?_); rintro e w' ⟨rfl, ⟨nd, rfl⟩⟩; (try first | exact ⟨rfl, _, World.drewN_drewN _ _ _⟩ | exact ⟨rfl, _, Eq.trans (World.drewN_drewN _ _ _) (congrArg (World.drewN _) (Nat.add_assoc _ _ _))⟩)) | (go_at_call 86; (with_reducible refine (impl_Digits.calls k (Int.tmod (wrap64 (Int.tdiv a0 3600)) 24) 2 hh  _ ?side1 A7.out).mono ?_); (case side1 => exact Glob.below HG.out (by repeat (first | (with_reducible first | exact HB.out | apply below_alloc | apply pw_below_drewN | apply below_drew1) | exact HB.out))); rintro e w' ⟨rfl, hb⟩; have n0_ := Aside0.mk (below_step (by repeat (first | (with_reducible first | exact HB.out | apply below_alloc | apply pw_below_drewN | apply below_drew1) | exact HB.out)) hb); clear HB; have HB := n0_; clear n0_; (try clear hb)) | (go_at_call 86; (with_reducible refine (impl_Digits.calls k (Int.tmod (wrap64 (Int.tdiv a0 60)) 60) 2 mi  _ ?side1 A8.out).mono ?_); (case side1 => exact Glob.below HG.out (by repeat (first | (with_reducible first | exact HB.out | apply below_alloc | apply pw_below_drewN | apply below_drew1) | exact HB.out))); rintro e w' ⟨rfl, hb⟩; have n0_ := Aside0.mk (below_step (by repeat (first | (with_reducible first | exact HB.out | apply below_alloc | apply pw_below_drewN | apply below_drew1) | exact HB.out)) hb); clear HB; have HB := n0_; clear n0_; (try clear hb)) | (go_at_call 86; (with_reducible refine (impl_Digits.calls k (Int.tmod a0 60) 2 ss  _ ?side1 A9.out).mono ?_); (case side1 => exact Glob.below HG.out (by repeat (first | (with_reducible first | exact HB.out | apply below_alloc | apply pw_below_drewN | apply below_drew1) | exact HB.out))); rintro e w' ⟨rfl, hb⟩; have n0_ := Aside0.mk (below_step (by repeat (first | (with_reducible first | exact HB.out | apply below_alloc | apply pw_below_drewN | apply below_drew1) | exact HB.out)) hb); clear HB; have HB := n0_; clear n0_; (try clear hb)) | (go_at_call 86; (with_reducible refine (impl_Digits.calls k d 2 dd  _ ?side1 B1.out).mono ?_); (case side1 => exact Glob.below HG.out (by repeat (first | (with_reducible first | exact HB.out | apply below_alloc | apply pw_below_drewN | apply below_drew1) | exact HB.out))); rintro e w' ⟨rfl, hb⟩; have n0_ := Aside0.mk (below_step (by repeat (first | (with_reducible first | exact HB.out | apply below_alloc | apply pw_below_drewN | apply below_drew1) | exact HB.out)) hb); clear HB; have HB := n0_; clear n0_; (try clear hb)) | (go_at_call 87; (with_reducible refine (impl_FormatInt.calls y yy  _ ?side1 B2.out).mono ?_); (case side1 => exact Glob.below HG.out (by repeat (first | (with_reducible first | exact HB.out | apply below_alloc | apply pw_below_drewN | apply below_drew1) | exact HB.out))); rintro e w' ⟨rfl, hb⟩; have n0_ := Aside0.mk (below_step (by repeat (first | (with_reducible first | exact HB.out | apply below_alloc | apply pw_below_drewN | apply below_drew1) | exact HB.out)) hb); clear HB; have HB := n0_; clear n0_; (try clear hb))))
          all_goals (go_ret; exact ⟨by first | rfl | simp, (by repeat (first | (with_reducible first | exact HB.out | apply below_alloc | apply pw_below_drewN | apply below_drew1) | exact HB.out))⟩)
        · exact absurd h (by simp)
      · rw [if_neg c1] at h
        have c1b0 : (a1 == 1) = false := beq_eq_false_iff_ne.mpr c1
        have c1b1 : (a1 != 1) = true := bne_iff_ne.mpr c1
        by_cases c2 : a1 = 2
        · rw [if_pos c2] at h
          subst c2
          clear c1 c1b0 c1b1
          by_cases c3 : y > 2069
          · rw [if_pos c3] at h
            have c3b : decide (2069 < y) = true := decide_eq_true c3
            clear c3 z1 z2 z3 zd zm
            obtain rfl := Option.some.inj h
            clear h
            go_enter Tryd.func44, Tryd.ntmps44
            go_wp2_with (first | (go_at_call 49; (with_reducible refine (impl_inRange.calls a0 0 4102444799 true  _ A3.out).mono ?_); rintro e w' ⟨rfl, ⟨nd, rfl⟩⟩; (try first | exact ⟨rfl, _, World.drewN_drewN _ _ _⟩ | exact ⟨rfl, _, Eq.trans (World.drewN_drewN _ _ _) (congrArg (World.drewN _) (Nat.add_assoc _ _ _))⟩)) | (go_at_call 15; (with_reducible refine (impl_CivilOf.calls k (wrap64 (Int.tdiv a0 86400)) y m d  _ A5.out).mono ?_); rintro e w' ⟨rfl, ⟨nd, rfl⟩⟩; (try first | exact ⟨rfl, _, World.drewN_drewN _ _ _⟩ | exact ⟨rfl, _, Eq.trans (World.drewN_drewN _ _ _) (congrArg (World.drewN _) (Nat.add_assoc _ _ _))⟩)) | (go_at_call 18; (with_reducible refine (impl_WeekdayOf.calls (wrap64 (Int.tdiv a0 86400)) wd  _ A6.out).mono ?_); rintro e w' ⟨rfl, ⟨nd, rfl⟩⟩; (try first | exact ⟨rfl, _, World.drewN_drewN _ _ _⟩ | exact ⟨rfl, _, Eq.trans (World.drewN_drewN _ _ _) (congrArg (World.drewN _) (Nat.add_assoc _ _ _))⟩)) | (go_at_call 86; (with_reducible refine (impl_Digits.calls k (Int.tmod (wrap64 (Int.tdiv a0 3600)) 24) 2 hh  _ ?side1 A7.out).mono ?_); (case side1 => exact Glob.below HG.out (by repeat (first | (with_reducible first | exact HB.out | apply below_alloc | apply pw_below_drewN | apply below_drew1) | exact HB.out))); rintro e w' ⟨rfl, hb⟩; have n0_ := Aside0.mk (below_step (by repeat (first | (with_reducible first | exact HB.out | apply below_alloc | apply pw_below_drewN | apply below_drew1) | exact HB.out)) hb); clear HB; have HB := n0_; clear n0_; (try clear hb)) | (go_at_call 86; (with_reducible refine (impl_Digits.calls k (Int.tmod (wrap64 (Int.tdiv a0 60)) 60) 2 mi  _ ?side1 A8.out).mono ?_); (case side1 => exact Glob.below HG.out (by repeat (first | (with_reducible first | exact HB.out | apply below_alloc | apply pw_below_drewN | apply below_drew1) | exact HB.out))); rintro e w' ⟨rfl, hb⟩; have n0_ := Aside0.mk (below_step (by repeat (first | (with_reducible first | exact HB.out | apply below_alloc | apply pw_below_drewN | apply below_drew1) | exact HB.out)) hb); clear HB; have HB := n0_; clear n0_; (try clear hb)) | (go_at_call 86; (with_reducible refine (impl_Digits.calls k (Int.tmod a0 60) 2 ss  _ ?side1 A9.out).mono ?_); (case side1 => exact Glob.below HG.out (by repeat (first | (with_reducible first | exact HB.out | apply below_alloc | apply pw_below_drewN | apply below_drew1) | exact HB.out))); rintro e w' ⟨rfl, hb⟩; have n0_ := Aside0.mk (below_step (by repeat (first | (with_reducible first | exact HB.out | apply below_alloc | apply pw_below_drewN | apply below_drew1) | exact HB.out)) hb); clear HB; have HB := n0_; clear n0_; (try clear hb)))
            repeat (go_quiet (first | (go_at_call 49; (with_reducible refine (impl_inRange.calls a0 0 4102444799 true  _ A3.out).mono ?_); rintro e w' ⟨rfl, ⟨nd, rfl⟩⟩; (try first | exact ⟨rfl, _, World.drewN_drewN _ _ _⟩ | exact ⟨rfl, _, Eq.trans (World.drewN_drewN _ _ _) (congrArg (World.drewN _) (Nat.add_assoc _ _ _))⟩)) | (go_at_call 15; (with_reducible refine (impl_CivilOf.calls k (wrap64 (Int.tdiv a0 86400)) y m d  _ A5.out).mono ?_); rintro e w' ⟨rfl, ⟨nd, rfl⟩⟩; (try first | exact ⟨rfl, _, World.drewN_drewN _ _ _⟩ | exact ⟨rfl, _, Eq.trans (World.drewN_drewN _ _ _) (congrArg (World.drewN _) (Nat.add_assoc _ _ _))⟩)) | (go_at_call 18; (with_reducible refine (impl_WeekdayOf.calls (wrap64 (Int.tdiv a0 86400)) wd  _ A6.out).mono ?_); rintro e w' ⟨rfl, ⟨nd, rfl⟩⟩; (try first | exact ⟨rfl, _, World.drewN_drewN _ _ _⟩ | exact ⟨rfl, _, Eq.trans (World.drewN_drewN _ _ _) (congrArg (World.drewN _) (Nat.add_assoc _ _ _))⟩)) | (go_at_call 86; (with_reducible refine (impl_Digits.calls k (Int.tmod (wrap64 (Int.tdiv a0 3600)) 24) 2 hh  _ ?side1 A7.out).mono ?_); (case side1 => exact Glob.below HG.out (by repeat (first | (with_reducible first | exact HB.out | apply below_alloc | apply pw_below_drewN | apply below_drew1) | exact HB.out))); rintro e w' ⟨rfl, hb⟩; have n0_ := Aside0.mk (below_step (by repeat (first | (with_reducible first | exact HB.out | apply below_alloc | apply pw_below_drewN | apply below_drew1) | exact HB.out)) hb); clear HB; have HB := n0_; clear n0_; (try clear hb)) | (go_at_call 86; (with_reducible refine (impl_Digits.calls k (Int.tmod (wrap64 (Int.tdiv a0 60)) 60) 2 mi  _ ?side1 A8.out).mono ?_); (case side1 => exact Glob.below HG.out (by repeat (first | (with_reducible first | exact HB.out | apply below_alloc | apply pw_below_drewN | apply below_drew1) | exact HB.out))); rintro e w' ⟨rfl, hb⟩; have n0_ := Aside0.mk (below_step (by repeat (first | (with_reducible first | exact HB.out | apply below_alloc | apply pw_below_drewN | apply below_drew1) | exact HB.out)) hb); clear HB; have HB := n0_; clear n0_; (try clear hb)) | (go_at_call 86; (with_reducible refine (impl_Digits.calls k (Int.tmod a0 60) 2 ss  _ ?side1 A9.out).mono ?_); (case side1 => exact Glob.below HG.out (by repeat (first | (with_reducible first | exact HB.out | apply below_alloc | apply pw_below_drewN | apply below_drew1) | exact HB.out))); rintro e w' ⟨rfl, hb⟩; have n0_ := Aside0.mk (below_step (by repeat (first | (with_reducible first | exact HB.out | apply below_alloc | apply pw_below_drewN | apply below_drew1) | exact HB.out)) hb); clear HB; have HB := n0_; clear n0_; (try clear hb))); try go_wp2_with (first | (go_at_call 49; (with_reducible refine (impl_inRange.calls a0 0 4102444799 true  _ A3.out).mono ?_); rintro e w' ⟨rfl, ⟨nd, rfl⟩⟩; (try first | exact ⟨rfl, _, World.drewN_drewN _ _ _⟩ | exact ⟨rfl, _, Eq.trans (World.drewN_drewN _ _ _) (congrArg (World.drewN _) (Nat.add_assoc _ _ _))⟩)) | (go_at_call 15; (with_reducible refine (impl_CivilOf.calls k (wrap64 (Int.tdiv a0 86400)) y m d  _ A5.out).mono ?_); rintro e w' ⟨rfl, ⟨nd, rfl⟩⟩; (try first | exact ⟨rfl, _, World.drewN_drewN _ _ _⟩ | exact ⟨rfl, _, Eq.trans (World.drewN_drewN _ _ _) (congrArg (World.drewN _) (Nat.add_assoc _ _ _))⟩)) | (go_at_call 18; (with_reducible refine (impl_WeekdayOf.calls (wrap64 (Int.tdiv a0 86400)) wd  _ A6.out).mono ?_); rintro e w' ⟨rfl, ⟨nd, rfl⟩⟩; (try first | exact ⟨rfl, _, World.drewN_drewN _ _ _⟩ | exact ⟨rfl, _, Eq.trans (World.drewN_drewN _ _ _) (congrArg (World.drewN _) (Nat.add_assoc _ _ _))⟩)) | (go_at_call 86; (with_reducible refine (impl_Digits.calls k (Int.tmod (wrap64 (Int.tdiv a0 3600)) 24) 2 hh  _ ?side1 A7.out).mono ?_); (case side1 => exact Glob.below HG.out (by repeat (first | (with_reducible first | exact HB.out | apply below_alloc | apply pw_below_drewN | apply below_drew1) | exact HB.out))); rintro e w' ⟨rfl, hb⟩; have n0_ := Aside0.mk (below_step (by repeat (first | (with_reducible first | exact HB.out | apply below_alloc | apply pw_below_drewN | apply below_drew1) | exact HB.out)) hb); clear HB; have HB := n0_; clear n0_; (try clear hb)) | (go_at_call 86; (with_reducible refine (impl_Digits.calls k (Int.tmod (wrap64 (Int.tdiv a0 60)) 60) 2 mi  _ ?side1 A8.out).mono ?_); (case side1 => exact Glob.below HG.out (by repeat (first | (with_reducible first | exact HB.out | apply below_alloc | apply pw_below_drewN | apply below_drew1) | exact HB.out))); rintro e w' ⟨rfl, hb⟩; have n0_ := Aside0.mk (below_step (by repeat (first | (with_reducible first | exact HB.out | apply below_alloc | apply pw_below_drewN | apply below_drew1) | exact HB.out)) hb); clear HB; have HB := n0_; clear n0_; (try clear hb)) | (go_at_call 86; (with_reducible refine (impl_Digits.calls k (Int.tmod a0 60) 2 ss  _ ?side1 A9.out).mono ?_); (case side1 => exact Glob.below HG.out (by repeat (first | (with_reducible first | exact HB.out | apply below_alloc | apply pw_below_drewN | apply below_drew1) | exact HB.out))); rintro e w' ⟨rfl, hb⟩; have n0_ := Aside0.mk (below_step (by repeat (first | (with_reducible first | exact HB.out | apply below_alloc | apply pw_below_drewN | apply below_drew1) | exact HB.out)) hb); clear HB; have HB := n0_; clear n0_; (try clear hb))))
            all_goals (go_ret; exact ⟨by first | rfl | simp, (by repeat (first | (with_reducible first | exact HB.out | apply below_alloc | apply pw_below_drewN | apply below_drew1) | exact HB.out))⟩)
          · rw [if_neg c3] at h
            have c3b : decide (2069 < y) = false := decide_eq_false c3
            clear c3
            replace h := Option.bind_eq_some_iff.mp h; obtain ⟨fd, B00, h⟩ := h
            have B0 := Aside0.mk B00
            clear B00
            replace h := Option.bind_eq_some_iff.mp h; obtain ⟨dd, B10, h⟩ := h
            have B1 := Aside0.mk B10
            clear B10
            replace h := Option.bind_eq_some_iff.mp h; obtain ⟨yy, B20, h⟩ := h
            have B2 := Aside0.mk B20
            clear B20
            try dsimp only at h
            split at h
            · rename_i hz
              obtain ⟨z6, z4, z5⟩ := hz
              have f1 : fd.size + 2 ≤ 9223372036854775807 := by (try simp only [ByteArray.size_append, show (⟨#[32, 71, 77, 84]⟩ : ByteArray).size = 4 from rfl, show (⟨#[32]⟩ : ByteArray).size = 1 from rfl, show (⟨#[44, 32]⟩ : ByteArray).size = 2 from rfl, show (⟨#[45]⟩ : ByteArray).size = 1 from rfl, show (⟨#[58]⟩ : ByteArray).size = 1 from rfl]); omega
              have f1b0 := eq_true f1
              have f1b1 : decide (fd.size + 2 ≤ 9223372036854775807) = true := decide_eq_true f1
              try (have f1n := f1; simp only [ByteArray.size_append, show (⟨#[32, 71, 77, 84]⟩ : ByteArray).size = 4 from rfl, show (⟨#[32]⟩ : ByteArray).size = 1 from rfl, show (⟨#[44, 32]⟩ : ByteArray).size = 2 from rfl, show (⟨#[45]⟩ : ByteArray).size = 1 from rfl, show (⟨#[58]⟩ : ByteArray).size = 1 from rfl] at f1n; have f1b3 := eq_true f1n; have f1b4 := eq_false (Nat.not_lt.2 f1n); clear f1n)
              have f1b2 : (9223372036854775807 < fd.size + 2) = False := eq_false (Nat.not_lt.2 f1)
              clear f1
              have f2 : (fd ++ (⟨#[44, 32]⟩ : ByteArray)).size + dd.size ≤ 9223372036854775807 := by (try simp only [ByteArray.size_append, show (⟨#[32, 71, 77, 84]⟩ : ByteArray).size = 4 from rfl, show (⟨#[32]⟩ : ByteArray).size = 1 from rfl, show (⟨#[44, 32]⟩ : ByteArray).size = 2 from rfl, show (⟨#[45]⟩ : ByteArray).size = 1 from rfl, show (⟨#[58]⟩ : ByteArray).size = 1 from rfl]); omega
              have f2b0 := eq_true f2
              have f2b1 : decide ((fd ++ (⟨#[44, 32]⟩ : ByteArray)).size + dd.size ≤ 9223372036854775807) = true := decide_eq_true f2
              try (have f2n := f2; simp only [ByteArray.size_append, show (⟨#[32, 71, 77, 84]⟩ : ByteArray).size = 4 from rfl, show (⟨#[32]⟩ : ByteArray).size = 1 from rfl, show (⟨#[44, 32]⟩ : ByteArray).size = 2 from rfl, show (⟨#[45]⟩ : ByteArray).size = 1 from rfl, show (⟨#[58]⟩ : ByteArray).size = 1 from rfl] at f2n; have f2b3 := eq_true f2n; have f2b4 := eq_false (Nat.not_lt.2 f2n); clear f2n)
              have f2b2 : (9223372036854775807 < (fd ++ (⟨#[44, 32]⟩ : ByteArray)).size + dd.size) = False := eq_false (Nat.not_lt.2 f2)
              clear f2
              have f3 : ((fd ++ (⟨#[44, 32]⟩ : ByteArray)) ++ dd).size + 1 ≤ 9223372036854775807 := by (try simp only [ByteArray.size_append, show (⟨#[32, 71, 77, 84]⟩ : ByteArray).size = 4 from rfl, show (⟨#[32]⟩ : ByteArray).size = 1 from rfl, show (⟨#[44, 32]⟩ : ByteArray).size = 2 from rfl, show (⟨#[45]⟩ : ByteArray).size = 1 from rfl, show (⟨#[58]⟩ : ByteArray).size = 1 from rfl]); omega
              have f3b0 := eq_true f3
              have f3b1 : decide (((fd ++ (⟨#[44, 32]⟩ : ByteArray)) ++ dd).size + 1 ≤ 9223372036854775807) = true := decide_eq_true f3
              try (have f3n := f3; simp only [ByteArray.size_append, show (⟨#[32, 71, 77, 84]⟩ : ByteArray).size = 4 from rfl, show (⟨#[32]⟩ : ByteArray).size = 1 from rfl, show (⟨#[44, 32]⟩ : ByteArray).size = 2 from rfl, show (⟨#[45]⟩ : ByteArray).size = 1 from rfl, show (⟨#[58]⟩ : ByteArray).size = 1 from rfl] at f3n; have f3b3 := eq_true f3n; have f3b4 := eq_false (Nat.not_lt.2 f3n); clear f3n)
              have f3b2 : (9223372036854775807 < ((fd ++ (⟨#[44, 32]⟩ : ByteArray)) ++ dd).size + 1) = False := eq_false (Nat.not_lt.2 f3)
              clear f3
              have f4 : (((fd ++ (⟨#[44, 32]⟩ : ByteArray)) ++ dd) ++ (⟨#[45]⟩ : ByteArray)).size + mn.size ≤ 9223372036854775807 := by (try simp only [ByteArray.size_append, show (⟨#[32, 71, 77, 84]⟩ : ByteArray).size = 4 from rfl, show (⟨#[32]⟩ : ByteArray).size = 1 from rfl, show (⟨#[44, 32]⟩ : ByteArray).size = 2 from rfl, show (⟨#[45]⟩ : ByteArray).size = 1 from rfl, show (⟨#[58]⟩ : ByteArray).size = 1 from rfl]); omega
              have f4b0 := eq_true f4
              have f4b1 : decide ((((fd ++ (⟨#[44, 32]⟩ : ByteArray)) ++ dd) ++ (⟨#[45]⟩ : ByteArray)).size + mn.size ≤ 9223372036854775807) = true := decide_eq_true f4
              try (have f4n := f4; simp only [ByteArray.size_append, show (⟨#[32, 71, 77, 84]⟩ : ByteArray).size = 4 from rfl, show (⟨#[32]⟩ : ByteArray).size = 1 from rfl, show (⟨#[44, 32]⟩ : ByteArray).size = 2 from rfl, show (⟨#[45]⟩ : ByteArray).size = 1 from rfl, show (⟨#[58]⟩ : ByteArray).size = 1 from rfl] at f4n; have f4b3 := eq_true f4n; have f4b4 := eq_false (Nat.not_lt.2 f4n); clear f4n)
              have f4b2 : (9223372036854775807 < (((fd ++ (⟨#[44, 32]⟩ : ByteArray)) ++ dd) ++ (⟨#[45]⟩ : ByteArray)).size + mn.size) = False := eq_false (Nat.not_lt.2 f4)
              clear f4
              have f5 : ((((fd ++ (⟨#[44, 32]⟩ : ByteArray)) ++ dd) ++ (⟨#[45]⟩ : ByteArray)) ++ mn).size + 1 ≤ 9223372036854775807 := by (try simp only [ByteArray.size_append, show (⟨#[32, 71, 77, 84]⟩ : ByteArray).size = 4 from rfl, show (⟨#[32]⟩ : ByteArray).size = 1 from rfl, show (⟨#[44, 32]⟩ : ByteArray).size = 2 from rfl, show (⟨#[45]⟩ : ByteArray).size = 1 from rfl, show (⟨#[58]⟩ : ByteArray).size = 1 from rfl]); omega
              have f5b0 := eq_true f5
              have f5b1 : decide (((((fd ++ (⟨#[44, 32]⟩ : ByteArray)) ++ dd) ++ (⟨#[45]⟩ : ByteArray)) ++ mn).size + 1 ≤ 9223372036854775807) = true := decide_eq_true f5
              try (have f5n := f5; simp only [ByteArray.size_append, show (⟨#[32, 71, 77, 84]⟩ : ByteArray).size = 4 from rfl, show (⟨#[32]⟩ : ByteArray).size = 1 from rfl, show (⟨#[44, 32]⟩ : ByteArray).size = 2 from rfl, show (⟨#[45]⟩ : ByteArray).size = 1 from rfl, show (⟨#[58]⟩ : ByteArray).size = 1 from rfl] at f5n; have f5b3 := eq_true f5n; have f5b4 := eq_false (Nat.not_lt.2 f5n); clear f5n)
              have f5b2 : (9223372036854775807 < ((((fd ++ (⟨#[44, 32]⟩ : ByteArray)) ++ dd) ++ (⟨#[45]⟩ : ByteArray)) ++ mn).size + 1) = False := eq_false (Nat.not_lt.2 f5)
              clear f5
              have f6 : (((((fd ++ (⟨#[44, 32]⟩ : ByteArray)) ++ dd) ++ (⟨#[45]⟩ : ByteArray)) ++ mn) ++ (⟨#[45]⟩ : ByteArray)).size + yy.size ≤ 9223372036854775807 := by (try simp only [ByteArray.size_append, show (⟨#[32, 71, 77, 84]⟩ : ByteArray).size = 4 from rfl, show (⟨#[32]⟩ : ByteArray).size = 1 from rfl, show (⟨#[44, 32]⟩ : ByteArray).size = 2 from rfl, show (⟨#[45]⟩ : ByteArray).size = 1 from rfl, show (⟨#[58]⟩ : ByteArray).size = 1 from rfl]); omega
              have f6b0 := eq_true f6
              have f6b1 : decide ((((((fd ++ (⟨#[44, 32]⟩ : ByteArray)) ++ dd) ++ (⟨#[45]⟩ : ByteArray)) ++ mn) ++ (⟨#[45]⟩ : ByteArray)).size + yy.size ≤ 9223372036854775807) = true := decide_eq_true f6
              try (have f6n := f6; simp only [ByteArray.size_append, show (⟨#[32, 71, 77, 84]⟩ : ByteArray).size = 4 from rfl, show (⟨#[32]⟩ : ByteArray).size = 1 from rfl, show (⟨#[44, 32]⟩ : ByteArray).size = 2 from rfl, show (⟨#[45]⟩ : ByteArray).size = 1 from rfl, show (⟨#[58]⟩ : ByteArray).size = 1 from rfl] at f6n; have f6b3 := eq_true f6n; have f6b4 := eq_false (Nat.not_lt.2 f6n); clear f6n)
              have f6b2 : (9223372036854775807 < (((((fd ++ (⟨#[44, 32]⟩ : ByteArray)) ++ dd) ++ (⟨#[45]⟩ : ByteArray)) ++ mn) ++ (⟨#[45]⟩ : ByteArray)).size + yy.size) = False := eq_false (Nat.not_lt.2 f6)
              clear f6
              have f7 : ((((((fd ++ (⟨#[44, 32]⟩ : ByteArray)) ++ dd) ++ (⟨#[45]⟩ : ByteArray)) ++ mn) ++ (⟨#[45]⟩ : ByteArray)) ++ yy).size + 1 ≤ 9223372036854775807 := by (try simp only [ByteArray.size_append, show (⟨#[32, 71, 77, 84]⟩ : ByteArray).size = 4 from rfl, show (⟨#[32]⟩ : ByteArray).size = 1 from rfl, show (⟨#[44, 32]⟩ : ByteArray).size = 2 from rfl, show (⟨#[45]⟩ : ByteArray).size = 1 from rfl, show (⟨#[58]⟩ : ByteArray).size = 1 from rfl]); omega
              have f7b0 := eq_true f7
              have f7b1 : decide (((((((fd ++ (⟨#[44, 32]⟩ : ByteArray)) ++ dd) ++ (⟨#[45]⟩ : ByteArray)) ++ mn) ++ (⟨#[45]⟩ : ByteArray)) ++ yy).size + 1 ≤ 9223372036854775807) = true := decide_eq_true f7
              try (have f7n := f7; simp only [ByteArray.size_append, show (⟨#[32, 71, 77, 84]⟩ : ByteArray).size = 4 from rfl, show (⟨#[32]⟩ : ByteArray).size = 1 from rfl, show (⟨#[44, 32]⟩ : ByteArray).size = 2 from rfl, show (⟨#[45]⟩ : ByteArray).size = 1 from rfl, show (⟨#[58]⟩ : ByteArray).size = 1 from rfl] at f7n; have f7b3 := eq_true f7n; have f7b4 := eq_false (Nat.not_lt.2 f7n); clear f7n)
              have f7b2 : (9223372036854775807 < ((((((fd ++ (⟨#[44, 32]⟩ : ByteArray)) ++ dd) ++ (⟨#[45]⟩ : ByteArray)) ++ mn) ++ (⟨#[45]⟩ : ByteArray)) ++ yy).size + 1) = False := eq_false (Nat.not_lt.2 f7)
              clear f7
              have f8 : (((((((fd ++ (⟨#[44, 32]⟩ : ByteArray)) ++ dd) ++ (⟨#[45]⟩ : ByteArray)) ++ mn) ++ (⟨#[45]⟩ : ByteArray)) ++ yy) ++ (⟨#[32]⟩ : ByteArray)).size + ((((hh ++ (⟨#[58]⟩ : ByteArray)) ++ mi) ++ (⟨#[58]⟩ : ByteArray)) ++ ss).size ≤ 9223372036854775807 := by (try simp only [ByteArray.size_append, show (⟨#[32, 71, 77, 84]⟩ : ByteArray).size = 4 from rfl, show (⟨#[32]⟩ : ByteArray).size = 1 from rfl, show (⟨#[44, 32]⟩ : ByteArray).size = 2 from rfl, show (⟨#[45]⟩ : ByteArray).size = 1 from rfl, show (⟨#[58]⟩ : ByteArray).size = 1 from rfl]); omega
              have f8b0 := eq_true f8
              have f8b1 : decide ((((((((fd ++ (⟨#[44, 32]⟩ : ByteArray)) ++ dd) ++ (⟨#[45]⟩ : ByteArray)) ++ mn) ++ (⟨#[45]⟩ : ByteArray)) ++ yy) ++ (⟨#[32]⟩ : ByteArray)).size + ((((hh ++ (⟨#[58]⟩ : ByteArray)) ++ mi) ++ (⟨#[58]⟩ : ByteArray)) ++ ss).size ≤ 9223372036854775807) = true := decide_eq_true f8
              try (have f8n := f8; simp only [ByteArray.size_append, show (⟨#[32, 71, 77, 84]⟩ : ByteArray).size = 4 from rfl, show (⟨#[32]⟩ : ByteArray).size = 1 from rfl, show (⟨#[44, 32]⟩ : ByteArray).size = 2 from rfl, show (⟨#[45]⟩ : ByteArray).size = 1 from rfl, show (⟨#[58]⟩ : ByteArray).size = 1 from rfl] at f8n; have f8b3 := eq_true f8n; have f8b4 := eq_false (Nat.not_lt.2 f8n); clear f8n)
              have f8b2 : (9223372036854775807 < (((((((fd ++ (⟨#[44, 32]⟩ : ByteArray)) ++ dd) ++ (⟨#[45]⟩ : ByteArray)) ++ mn) ++ (⟨#[45]⟩ : ByteArray)) ++ yy) ++ (⟨#[32]⟩ : ByteArray)).size + ((((hh ++ (⟨#[58]⟩ : ByteArray)) ++ mi) ++ (⟨#[58]⟩ : ByteArray)) ++ ss).size) = False := eq_false (Nat.not_lt.2 f8)
              clear f8
              have f9 : ((((((((fd ++ (⟨#[44, 32]⟩ : ByteArray)) ++ dd) ++ (⟨#[45]⟩ : ByteArray)) ++ mn) ++ (⟨#[45]⟩ : ByteArray)) ++ yy) ++ (⟨#[32]⟩ : ByteArray)) ++ ((((hh ++ (⟨#[58]⟩ : ByteArray)) ++ mi) ++ (⟨#[58]⟩ : ByteArray)) ++ ss)).size + 4 ≤ 9223372036854775807 := by (try simp only [ByteArray.size_append, show (⟨#[32, 71, 77, 84]⟩ : ByteArray).size = 4 from rfl, show (⟨#[32]⟩ : ByteArray).size = 1 from rfl, show (⟨#[44, 32]⟩ : ByteArray).size = 2 from rfl, show (⟨#[45]⟩ : ByteArray).size = 1 from rfl, show (⟨#[58]⟩ : ByteArray).size = 1 from rfl]); omega
              have f9b0 := eq_true f9
              have f9b1 : decide (((((((((fd ++ (⟨#[44, 32]⟩ : ByteArray)) ++ dd) ++ (⟨#[45]⟩ : ByteArray)) ++ mn) ++ (⟨#[45]⟩ : ByteArray)) ++ yy) ++ (⟨#[32]⟩ : ByteArray)) ++ ((((hh ++ (⟨#[58]⟩ : ByteArray)) ++ mi) ++ (⟨#[58]⟩ : ByteArray)) ++ ss)).size + 4 ≤ 9223372036854775807) = true := decide_eq_true f9
              try (have f9n := f9; simp only [ByteArray.size_append, show (⟨#[32, 71, 77, 84]⟩ : ByteArray).size = 4 from rfl, show (⟨#[32]⟩ : ByteArray).size = 1 from rfl, show (⟨#[44, 32]⟩ : ByteArray).size = 2 from rfl, show (⟨#[45]⟩ : ByteArray).size = 1 from rfl, show (⟨#[58]⟩ : ByteArray).size = 1 from rfl] at f9n; have f9b3 := eq_true f9n; have f9b4 := eq_false (Nat.not_lt.2 f9n); clear f9n)
              have f9b2 : (9223372036854775807 < ((((((((fd ++ (⟨#[44, 32]⟩ : ByteArray)) ++ dd) ++ (⟨#[45]⟩ : ByteArray)) ++ mn) ++ (⟨#[45]⟩ : ByteArray)) ++ yy) ++ (⟨#[32]⟩ : ByteArray)) ++ ((((hh ++ (⟨#[58]⟩ : ByteArray)) ++ mi) ++ (⟨#[58]⟩ : ByteArray)) ++ ss)).size + 4) = False := eq_false (Nat.not_lt.2 f9)
              clear f9
              clear z1 z2 z3 z4 z5 z6 zd zm
              obtain rfl := Option.some.inj h
              clear h
              go_enter Tryd.func44, Tryd.ntmps44
              go_wp2_with (first | (go_at_call 49; (with_reducible refine (impl_inRange.calls a0 0 4102444799 true  _ A3.out).mono ?_); rintro e w' ⟨rfl, ⟨nd, rfl⟩⟩; (try first | exact ⟨rfl, _, World.drewN_drewN _ _ _⟩ | exact ⟨rfl, _, Eq.trans (World.drewN_drewN _ _ _) (congrArg (World.drewN _) (Nat.add_assoc _ _ _))⟩)) | (go_at_call 15; (with_reducible refine (impl_CivilOf.calls k (wrap64 (Int.tdiv a0 86400)) y m d  _ A5.out).mono ?_); rintro e w' ⟨rfl, ⟨nd, rfl⟩⟩; (try first | exact ⟨rfl, _, World.drewN_drewN _ _ _⟩ | exact ⟨rfl, _, Eq.trans (World.drewN_drewN _ _ _) (congrArg (World.drewN _) (Nat.add_assoc _ _ _))⟩)) | (go_at_call 18; (with_reducible refine (impl_WeekdayOf.calls (wrap64 (Int.tdiv a0 86400)) wd  _ A6.out).mono ?_); rintro e w' ⟨rfl, ⟨nd, rfl⟩⟩; (try first | exact ⟨rfl, _, World.drewN_drewN _ _ _⟩ | exact ⟨rfl, _, Eq.trans (World.drewN_drewN _ _ _) (congrArg (World.drewN _) (Nat.add_assoc _ _ _))⟩)) | (go_at_call 86; (with_reducible refine (impl_Digits.calls k (Int.tmod (wrap64 (Int.tdiv a0 3600)) 24) 2 hh  _ ?side1 A7.out).mono ?_); (case side1 => exact Glob.below HG.out (by repeat (first | (with_reducible first | exact HB.out | apply below_alloc | apply pw_below_drewN | apply below_drew1) | exact HB.out))); rintro e w' ⟨rfl, hb⟩; have n0_ := Aside0.mk (below_step (by repeat (first | (with_reducible first | exact HB.out | apply below_alloc | apply pw_below_drewN | apply below_drew1) | exact HB.out)) hb); clear HB; have HB := n0_; clear n0_; (try clear hb)) | (go_at_call 86; (with_reducible refine (impl_Digits.calls k (Int.tmod (wrap64 (Int.tdiv a0 60)) 60) 2 mi  _ ?side1 A8.out).mono ?_); (case side1 => exact Glob.below HG.out (by repeat (first | (with_reducible first | exact HB.out | apply below_alloc | apply pw_below_drewN | apply below_drew1) | exact HB.out))); rintro e w' ⟨rfl, hb⟩; have n0_ := Aside0.mk (below_step (by repeat (first | (with_reducible first | exact HB.out | apply below_alloc | apply pw_below_drewN | apply below_drew1) | exact HB.out)) hb); clear HB; have HB := n0_; clear n0_; (try clear hb)) | (go_at_call 86; (with_reducible refine (impl_Digits.calls k (Int.tmod a0 60) 2 ss  _ ?side1 A9.out).mono ?_); (case side1 => exact Glob.below HG.out (by repeat (first | (with_reducible first | exact HB.out | apply below_alloc | apply pw_below_drewN | apply below_drew1) | exact HB.out))); rintro e w' ⟨rfl, hb⟩; have n0_ := Aside0.mk (below_step (by repeat (first | (with_reducible first | exact HB.out | apply below_alloc | apply pw_below_drewN | apply below_drew1) | exact HB.out)) hb); clear HB; have HB := n0_; clear n0_; (try clear hb)) | (go_at_call 88; (with_reducible refine (impl_fullDay.calls wd fd  _ B0.out).mono ?_); rintro e w' ⟨rfl, hb⟩; have n0_ := Aside0.mk (below_step (by repeat (first | (with_reducible first | exact HB.out | apply below_alloc | apply pw_below_drewN | apply below_drew1) | exact HB.out)) hb); clear HB; have HB := n0_; clear n0_; (try clear hb)) | (go_at_call 86; (with_reducible refine (impl_Digits.calls k d 2 dd  _ ?side1 B1.out).mono ?_); (case side1 => exact Glob.below HG.out (by repeat (first | (with_reducible first | exact HB.out | apply below_alloc | apply pw_below_drewN | apply below_drew1) | exact HB.out))); rintro e w' ⟨rfl, hb⟩; have n0_ := Aside0.mk (below_step (by repeat (first | (with_reducible first | exact HB.out | apply below_alloc | apply pw_below_drewN | apply below_drew1) | exact HB.out)) hb); clear HB; have HB := n0_; clear n0_; (try clear hb)) | (go_at_call 86; (with_reducible refine (impl_Digits.calls k (Int.tmod y 100) 2 yy  _ ?side1 B2.out).mono ?_); (case side1 => exact Glob.below HG.out (by repeat (first | (with_reducible first | exact HB.out | apply below_alloc | apply pw_below_drewN | apply below_drew1) | exact HB.out))); rintro e w' ⟨rfl, hb⟩; have n0_ := Aside0.mk (below_step (by repeat (first | (with_reducible first | exact HB.out | apply below_alloc | apply pw_below_drewN | apply below_drew1) | exact HB.out)) hb); clear HB; have HB := n0_; clear n0_; (try clear hb)))
              repeat (go_quiet (first | (go_at_call 49; (with_reducible refine (impl_inRange.calls a0 0 4102444799 true  _ A3.out).mono ?_); rintro e w' ⟨rfl, ⟨nd, rfl⟩⟩; (try first | exact ⟨rfl, _, World.drewN_drewN _ _ _⟩ | exact ⟨rfl, _, Eq.trans (World.drewN_drewN _ _ _) (congrArg (World.drewN _) (Nat.add_assoc _ _ _))⟩)) | (go_at_call 15; (with_reducible refine (impl_CivilOf.calls k (wrap64 (Int.tdiv a0 86400)) y m d  _ A5.out).mono ?_); rintro e w' ⟨rfl, ⟨nd, rfl⟩⟩; (try first | exact ⟨rfl, _, World.drewN_drewN _ _ _⟩ | exact ⟨rfl, _, Eq.trans (World.drewN_drewN _ _ _) (congrArg (World.drewN _) (Nat.add_assoc _ _ _))⟩)) | (go_at_call 18; (with_reducible refine (impl_WeekdayOf.calls (wrap64 (Int.tdiv a0 86400)) wd  _ A6.out).mono ?_); rintro e w' ⟨rfl, ⟨nd, rfl⟩⟩; (try first | exact ⟨rfl, _, World.drewN_drewN _ _ _⟩ | exact ⟨rfl, _, Eq.trans (World.drewN_drewN _ _ _) (congrArg (World.drewN _) (Nat.add_assoc _ _ _))⟩)) | (go_at_call 86; (with_reducible refine (impl_Digits.calls k (Int.tmod (wrap64 (Int.tdiv a0 3600)) 24) 2 hh  _ ?side1 A7.out).mono ?_); (case side1 => exact Glob.below HG.out (by repeat (first | (with_reducible first | exact HB.out | apply below_alloc | apply pw_below_drewN | apply below_drew1) | exact HB.out))); rintro e w' ⟨rfl, hb⟩; have n0_ := Aside0.mk (below_step (by repeat (first | (with_reducible first | exact HB.out | apply below_alloc | apply pw_below_drewN | apply below_drew1) | exact HB.out)) hb); clear HB; have HB := n0_; clear n0_; (try clear hb)) | (go_at_call 86; (with_reducible refine (impl_Digits.calls k (Int.tmod (wrap64 (Int.tdiv a0 60)) 60) 2 mi  _ ?side1 A8.out).mono ?_); (case side1 => exact Glob.below HG.out (by repeat (first | (with_reducible first | exact HB.out | apply below_alloc | apply pw_below_drewN | apply below_drew1) | exact HB.out))); rintro e w' ⟨rfl, hb⟩; have n0_ := Aside0.mk (below_step (by repeat (first | (with_reducible first | exact HB.out | apply below_alloc | apply pw_below_drewN | apply below_drew1) | exact HB.out)) hb); clear HB; have HB := n0_; clear n0_; (try clear hb)) | (go_at_call 86; (with_reducible refine (impl_Digits.calls k (Int.tmod a0 60) 2 ss  _ ?side1 A9.out).mono ?_); (case side1 => exact Glob.below HG.out (by repeat (first | (with_reducible first | exact HB.out | apply below_alloc | apply pw_below_drewN | apply below_drew1) | exact HB.out))); rintro e w' ⟨rfl, hb⟩; have n0_ := Aside0.mk (below_step (by repeat (first | (with_reducible first | exact HB.out | apply below_alloc | apply pw_below_drewN | apply below_drew1) | exact HB.out)) hb); clear HB; have HB := n0_; clear n0_; (try clear hb)) | (go_at_call 88; (with_reducible refine (impl_fullDay.calls wd fd  _ B0.out).mono ?_); rintro e w' ⟨rfl, hb⟩; have n0_ := Aside0.mk (below_step (by repeat (first | (with_reducible first | exact HB.out | apply below_alloc | apply pw_below_drewN | apply below_drew1) | exact HB.out)) hb); clear HB; have HB := n0_; clear n0_; (try clear hb)) | (go_at_call 86; (with_reducible refine (impl_Digits.calls k d 2 dd  _ ?side1 B1.out).mono ?_); (case side1 => exact Glob.below HG.out (by repeat (first | (with_reducible first | exact HB.out | apply below_alloc | apply pw_below_drewN | apply below_drew1) | exact HB.out))); rintro e w' ⟨rfl, hb⟩; have n0_ := Aside0.mk (below_step (by repeat (first | (with_reducible first | exact HB.out | apply below_alloc | apply pw_below_drewN | apply below_drew1) | exact HB.out)) hb); clear HB; have HB := n0_; clear n0_; (try clear hb)) | (go_at_call 86; (with_reducible refine (impl_Digits.calls k (Int.tmod y 100) 2 yy  _ ?side1 B2.out).mono ?_); (case side1 => exact Glob.below HG.out (by repeat (first | (with_reducible first | exact HB.out | apply below_alloc | apply pw_below_drewN | apply below_drew1) | exact HB.out))); rintro e w' ⟨rfl, hb⟩; have n0_ := Aside0.mk (below_step (by repeat (first | (with_reducible first | exact HB.out | apply below_alloc | apply pw_below_drewN | apply below_drew1) | exact HB.out)) hb); clear HB; have HB := n0_; clear n0_; (try clear hb))); try go_wp2_with (first | (go_at_call 49; (with_reducible refine (impl_inRange.calls a0 0 4102444799 true  _ A3.out).mono ?_); rintro e w' ⟨rfl, ⟨nd, rfl⟩⟩; (try first | exact ⟨rfl, _, World.drewN_drewN _ _ _⟩ | exact ⟨rfl, _, Eq.trans (World.drewN_drewN _ _ _) (congrArg (World.drewN _) (Nat.add_assoc _ _ _))⟩)) | (go_at_call 15; (with_reducible refine (impl_CivilOf.calls k (wrap64 (Int.tdiv a0 86400)) y m d  _ A5.out).mono ?_); rintro e w' ⟨rfl, ⟨nd, rfl⟩⟩; (try first | exact ⟨rfl, _, World.drewN_drewN _ _ _⟩ | exact ⟨rfl, _, Eq.trans (World.drewN_drewN _ _ _) (congrArg (World.drewN _) (Nat.add_assoc _ _ _))⟩)) | (go_at_call 18; (with_reducible refine (impl_WeekdayOf.calls (wrap64 (Int.tdiv a0 86400)) wd  _ A6.out).mono ?_); rintro e w' ⟨rfl, ⟨nd, rfl⟩⟩; (try first | exact ⟨rfl, _, World.drewN_drewN _ _ _⟩ | exact ⟨rfl, _, Eq.trans (World.drewN_drewN _ _ _) (congrArg (World.drewN _) (Nat.add_assoc _ _ _))⟩)) | (go_at_call 86; (with_reducible refine (impl_Digits.calls k (Int.tmod (wrap64 (Int.tdiv a0 3600)) 24) 2 hh  _ ?side1 A7.out).mono ?_); (case side1 => exact Glob.below HG.out (by repeat (first | (with_reducible first | exact HB.out | apply below_alloc | apply pw_below_drewN | apply below_drew1) | exact HB.out))); rintro e w' ⟨rfl, hb⟩; have n0_ := Aside0.mk (below_step (by repeat (first | (with_reducible first | exact HB.out | apply below_alloc | apply pw_below_drewN | apply below_drew1) | exact HB.out)) hb); clear HB; have HB := n0_; clear n0_; (try clear hb)) | (go_at_call 86; (with_reducible refine (impl_Digits.calls k (Int.tmod (wrap64 (Int.tdiv a0 60)) 60) 2 mi  _ ?side1 A8.out).mono ?_); (case side1 => exact Glob.below HG.out (by repeat (first | (with_reducible first | exact HB.out | apply below_alloc | apply pw_below_drewN | apply below_drew1) | exact HB.out))); rintro e w' ⟨rfl, hb⟩; have n0_ := Aside0.mk (below_step (by repeat (first | (with_reducible first | exact HB.out | apply below_alloc | apply pw_below_drewN | apply below_drew1) | exact HB.out)) hb); clear HB; have HB := n0_; clear n0_; (try clear hb)) | (go_at_call 86; (with_reducible refine (impl_Digits.calls k (Int.tmod a0 60) 2 ss  _ ?side1 A9.out).mono ?_); (case side1 => exact Glob.below HG.out (by repeat (first | (with_reducible first | exact HB.out | apply below_alloc | apply pw_below_drewN | apply below_drew1) | exact HB.out))); rintro e w' ⟨rfl, hb⟩; have n0_ := Aside0.mk (below_step (by repeat (first | (with_reducible first | exact HB.out | apply below_alloc | apply pw_below_drewN | apply below_drew1) | exact HB.out)) hb); clear HB; have HB := n0_; clear n0_; (try clear hb)) | (go_at_call 88; (with_reducible refine (impl_fullDay.calls wd fd  _ B0.out).mono ?_); rintro e w' ⟨rfl, hb⟩; have n0_ := Aside0.mk (below_step (by repeat (first | (with_reducible first | exact HB.out | apply below_alloc | apply pw_below_drewN | apply below_drew1) | exact HB.out)) hb); clear HB; have HB := n0_; clear n0_; (try clear hb)) | (go_at_call 86; (with_reducible refine (impl_Digits.calls k d 2 dd  _ ?side1 B1.out).mono ?_); (case side1 => exact Glob.below HG.out (by repeat (first | (with_reducible first | exact HB.out | apply below_alloc | apply pw_below_drewN | apply below_drew1) | exact HB.out))); rintro e w' ⟨rfl, hb⟩; have n0_ := Aside0.mk (below_step (by repeat (first | (with_reducible first | exact HB.out | apply below_alloc | apply pw_below_drewN | apply below_drew1) | exact HB.out)) hb); clear HB; have HB := n0_; clear n0_; (try clear hb)) | (go_at_call 86; (with_reducible refine (impl_Digits.calls k (Int.tmod y 100) 2 yy  _ ?side1 B2.out).mono ?_); (case side1 => exact Glob.below HG.out (by repeat (first | (with_reducible first | exact HB.out | apply below_alloc | apply pw_below_drewN | apply below_drew1) | exact HB.out))); rintro e w' ⟨rfl, hb⟩; have n0_ := Aside0.mk (below_step (by repeat (first | (with_reducible first | exact HB.out | apply below_alloc | apply pw_below_drewN | apply below_drew1) | exact HB.out)) hb); clear HB; have HB := n0_; clear n0_; (try clear hb))))
              all_goals (go_ret; exact ⟨by first | rfl | simp, (by repeat (first | (with_reducible first | exact HB.out | apply below_alloc | apply pw_below_drewN | apply below_drew1) | exact HB.out))⟩)
            · exact absurd h (by simp)
        · rw [if_neg c2] at h
          have c2b0 : (a1 == 2) = false := beq_eq_false_iff_ne.mpr c2
          have c2b1 : (a1 != 2) = true := bne_iff_ne.mpr c2
          clear c1 c2
          replace h := Option.bind_eq_some_iff.mp h; obtain ⟨dd, B10, h⟩ := h
          have B1 := Aside0.mk B10
          clear B10
          replace h := Option.bind_eq_some_iff.mp h; obtain ⟨yy, B20, h⟩ := h
          have B2 := Aside0.mk B20
          clear B20
          try dsimp only at h
          split at h
          · rename_i hz
            obtain ⟨z4, z5⟩ := hz
            by_cases c3 : d < 10
            · rw [if_pos c3] at h
              have c3b : decide (d < 10) = true := decide_eq_true c3
              clear c3
              have e1 : 1 + dd.size ≤ 9223372036854775807 := by (try simp only [ByteArray.size_append, show (⟨#[32]⟩ : ByteArray).size = 1 from rfl, show (⟨#[58]⟩ : ByteArray).size = 1 from rfl]); omega
              have e1b0 := eq_true e1
              have e1b1 : decide (1 + dd.size ≤ 9223372036854775807) = true := decide_eq_true e1
              try (have e1n := e1; simp only [ByteArray.size_append, show (⟨#[32]⟩ : ByteArray).size = 1 from rfl, show (⟨#[58]⟩ : ByteArray).size = 1 from rfl] at e1n; have e1b3 := eq_true e1n; have e1b4 := eq_false (Nat.not_lt.2 e1n); clear e1n)
              have e1b2 : (9223372036854775807 < 1 + dd.size) = False := eq_false (Nat.not_lt.2 e1)
              clear e1
              have f1 : dn.size + 1 ≤ 9223372036854775807 := by (try simp only [ByteArray.size_append, show (⟨#[32]⟩ : ByteArray).size = 1 from rfl, show (⟨#[58]⟩ : ByteArray).size = 1 from rfl]); omega
              have f1b0 := eq_true f1
              have f1b1 : decide (dn.size + 1 ≤ 9223372036854775807) = true := decide_eq_true f1
              try (have f1n := f1; simp only [ByteArray.size_append, show (⟨#[32]⟩ : ByteArray).size = 1 from rfl, show (⟨#[58]⟩ : ByteArray).size = 1 from rfl] at f1n; have f1b3 := eq_true f1n; have f1b4 := eq_false (Nat.not_lt.2 f1n); clear f1n)
              have f1b2 : (9223372036854775807 < dn.size + 1) = False := eq_false (Nat.not_lt.2 f1)
              clear f1
              have f2 : (dn ++ (⟨#[32]⟩ : ByteArray)).size + mn.size ≤ 9223372036854775807 := by (try simp only [ByteArray.size_append, show (⟨#[32]⟩ : ByteArray).size = 1 from rfl, show (⟨#[58]⟩ : ByteArray).size = 1 from rfl]); omega
              have f2b0 := eq_true f2
              have f2b1 : decide ((dn ++ (⟨#[32]⟩ : ByteArray)).size + mn.size ≤ 9223372036854775807) = true := decide_eq_true f2
              try (have f2n := f2; simp only [ByteArray.size_append, show (⟨#[32]⟩ : ByteArray).size = 1 from rfl, show (⟨#[58]⟩ : ByteArray).size = 1 from rfl] at f2n; have f2b3 := eq_true f2n; have f2b4 := eq_false (Nat.not_lt.2 f2n); clear f2n)
              have f2b2 : (9223372036854775807 < (dn ++ (⟨#[32]⟩ : ByteArray)).size + mn.size) = False := eq_false (Nat.not_lt.2 f2)
              clear f2
              have f3 : ((dn ++ (⟨#[32]⟩ : ByteArray)) ++ mn).size + 1 ≤ 9223372036854775807 := by (try simp only [ByteArray.size_append, show (⟨#[32]⟩ : ByteArray).size = 1 from rfl, show (⟨#[58]⟩ : ByteArray).size = 1 from rfl]); omega
              have f3b0 := eq_true f3
              have f3b1 : decide (((dn ++ (⟨#[32]⟩ : ByteArray)) ++ mn).size + 1 ≤ 9223372036854775807) = true := decide_eq_true f3
              try (have f3n := f3; simp only [ByteArray.size_append, show (⟨#[32]⟩ : ByteArray).size = 1 from rfl, show (⟨#[58]⟩ : ByteArray).size = 1 from rfl] at f3n; have f3b3 := eq_true f3n; have f3b4 := eq_false (Nat.not_lt.2 f3n); clear f3n)
              have f3b2 : (9223372036854775807 < ((dn ++ (⟨#[32]⟩ : ByteArray)) ++ mn).size + 1) = False := eq_false (Nat.not_lt.2 f3)
              clear f3
              have f4 : (((dn ++ (⟨#[32]⟩ : ByteArray)) ++ mn) ++ (⟨#[32]⟩ : ByteArray)).size + ((⟨#[32]⟩ : ByteArray) ++ dd).size ≤ 9223372036854775807 := by (try simp only [ByteArray.size_append, show (⟨#[32]⟩ : ByteArray).size = 1 from rfl, show (⟨#[58]⟩ : ByteArray).size = 1 from rfl]); omega
              have f4b0 := eq_true f4
              have f4b1 : decide ((((dn ++ (⟨#[32]⟩ : ByteArray)) ++ mn) ++ (⟨#[32]⟩ : ByteArray)).size + ((⟨#[32]⟩ : ByteArray) ++ dd).size ≤ 9223372036854775807) = true := decide_eq_true f4
              try (have f4n := f4; simp only [ByteArray.size_append, show (⟨#[32]⟩ : ByteArray).size = 1 from rfl, show (⟨#[58]⟩ : ByteArray).size = 1 from rfl] at f4n; have f4b3 := eq_true f4n; have f4b4 := eq_false (Nat.not_lt.2 f4n); clear f4n)
              have f4b2 : (9223372036854775807 < (((dn ++ (⟨#[32]⟩ : ByteArray)) ++ mn) ++ (⟨#[32]⟩ : ByteArray)).size + ((⟨#[32]⟩ : ByteArray) ++ dd).size) = False := eq_false (Nat.not_lt.2 f4)
              clear f4
              have f5 : ((((dn ++ (⟨#[32]⟩ : ByteArray)) ++ mn) ++ (⟨#[32]⟩ : ByteArray)) ++ ((⟨#[32]⟩ : ByteArray) ++ dd)).size + 1 ≤ 9223372036854775807 := by (try simp only [ByteArray.size_append, show (⟨#[32]⟩ : ByteArray).size = 1 from rfl, show (⟨#[58]⟩ : ByteArray).size = 1 from rfl]); omega
              have f5b0 := eq_true f5
              have f5b1 : decide (((((dn ++ (⟨#[32]⟩ : ByteArray)) ++ mn) ++ (⟨#[32]⟩ : ByteArray)) ++ ((⟨#[32]⟩ : ByteArray) ++ dd)).size + 1 ≤ 9223372036854775807) = true := decide_eq_true f5
              try (have f5n := f5; simp only [ByteArray.size_append, show (⟨#[32]⟩ : ByteArray).size = 1 from rfl, show (⟨#[58]⟩ : ByteArray).size = 1 from rfl] at f5n; have f5b3 := eq_true f5n; have f5b4 := eq_false (Nat.not_lt.2 f5n); clear f5n)
              have f5b2 : (9223372036854775807 < ((((dn ++ (⟨#[32]⟩ : ByteArray)) ++ mn) ++ (⟨#[32]⟩ : ByteArray)) ++ ((⟨#[32]⟩ : ByteArray) ++ dd)).size + 1) = False := eq_false (Nat.not_lt.2 f5)
              clear f5
              have f6 : (((((dn ++ (⟨#[32]⟩ : ByteArray)) ++ mn) ++ (⟨#[32]⟩ : ByteArray)) ++ ((⟨#[32]⟩ : ByteArray) ++ dd)) ++ (⟨#[32]⟩ : ByteArray)).size + ((((hh ++ (⟨#[58]⟩ : ByteArray)) ++ mi) ++ (⟨#[58]⟩ : ByteArray)) ++ ss).size ≤ 9223372036854775807 := by (try simp only [ByteArray.size_append, show (⟨#[32]⟩ : ByteArray).size = 1 from rfl, show (⟨#[58]⟩ : ByteArray).size = 1 from rfl]); omega
              have f6b0 := eq_true f6
              have f6b1 : decide ((((((dn ++ (⟨#[32]⟩ : ByteArray)) ++ mn) ++ (⟨#[32]⟩ : ByteArray)) ++ ((⟨#[32]⟩ : ByteArray) ++ dd)) ++ (⟨#[32]⟩ : ByteArray)).size + ((((hh ++ (⟨#[58]⟩ : ByteArray)) ++ mi) ++ (⟨#[58]⟩ : ByteArray)) ++ ss).size ≤ 9223372036854775807) = true := decide_eq_true f6
              try (have f6n := f6; simp only [ByteArray.size_append, show (⟨#[32]⟩ : ByteArray).size = 1 from rfl, show (⟨#[58]⟩ : ByteArray).size = 1 from rfl] at f6n; have f6b3 := eq_true f6n; have f6b4 := eq_false (Nat.not_lt.2 f6n); clear f6n)
              have f6b2 : (9223372036854775807 < (((((dn ++ (⟨#[32]⟩ : ByteArray)) ++ mn) ++ (⟨#[32]⟩ : ByteArray)) ++ ((⟨#[32]⟩ : ByteArray) ++ dd)) ++ (⟨#[32]⟩ : ByteArray)).size + ((((hh ++ (⟨#[58]⟩ : ByteArray)) ++ mi) ++ (⟨#[58]⟩ : ByteArray)) ++ ss).size) = False := eq_false (Nat.not_lt.2 f6)
              clear f6
              have f7 : ((((((dn ++ (⟨#[32]⟩ : ByteArray)) ++ mn) ++ (⟨#[32]⟩ : ByteArray)) ++ ((⟨#[32]⟩ : ByteArray) ++ dd)) ++ (⟨#[32]⟩ : ByteArray)) ++ ((((hh ++ (⟨#[58]⟩ : ByteArray)) ++ mi) ++ (⟨#[58]⟩ : ByteArray)) ++ ss)).size + 1 ≤ 9223372036854775807 := by (try simp only [ByteArray.size_append, show (⟨#[32]⟩ : ByteArray).size = 1 from rfl, show (⟨#[58]⟩ : ByteArray).size = 1 from rfl]); omega
              have f7b0 := eq_true f7
              have f7b1 : decide (((((((dn ++ (⟨#[32]⟩ : ByteArray)) ++ mn) ++ (⟨#[32]⟩ : ByteArray)) ++ ((⟨#[32]⟩ : ByteArray) ++ dd)) ++ (⟨#[32]⟩ : ByteArray)) ++ ((((hh ++ (⟨#[58]⟩ : ByteArray)) ++ mi) ++ (⟨#[58]⟩ : ByteArray)) ++ ss)).size + 1 ≤ 9223372036854775807) = true := decide_eq_true f7
              try (have f7n := f7; simp only [ByteArray.size_append, show (⟨#[32]⟩ : ByteArray).size = 1 from rfl, show (⟨#[58]⟩ : ByteArray).size = 1 from rfl] at f7n; have f7b3 := eq_true f7n; have f7b4 := eq_false (Nat.not_lt.2 f7n); clear f7n)
              have f7b2 : (9223372036854775807 < ((((((dn ++ (⟨#[32]⟩ : ByteArray)) ++ mn) ++ (⟨#[32]⟩ : ByteArray)) ++ ((⟨#[32]⟩ : ByteArray) ++ dd)) ++ (⟨#[32]⟩ : ByteArray)) ++ ((((hh ++ (⟨#[58]⟩ : ByteArray)) ++ mi) ++ (⟨#[58]⟩ : ByteArray)) ++ ss)).size + 1) = False := eq_false (Nat.not_lt.2 f7)
              clear f7
              have f8 : (((((((dn ++ (⟨#[32]⟩ : ByteArray)) ++ mn) ++ (⟨#[32]⟩ : ByteArray)) ++ ((⟨#[32]⟩ : ByteArray) ++ dd)) ++ (⟨#[32]⟩ : ByteArray)) ++ ((((hh ++ (⟨#[58]⟩ : ByteArray)) ++ mi) ++ (⟨#[58]⟩ : ByteArray)) ++ ss)) ++ (⟨#[32]⟩ : ByteArray)).size + yy.size ≤ 9223372036854775807 := by (try simp only [ByteArray.size_append, show (⟨#[32]⟩ : ByteArray).size = 1 from rfl, show (⟨#[58]⟩ : ByteArray).size = 1 from rfl]); omega
              have f8b0 := eq_true f8
              have f8b1 : decide ((((((((dn ++ (⟨#[32]⟩ : ByteArray)) ++ mn) ++ (⟨#[32]⟩ : ByteArray)) ++ ((⟨#[32]⟩ : ByteArray) ++ dd)) ++ (⟨#[32]⟩ : ByteArray)) ++ ((((hh ++ (⟨#[58]⟩ : ByteArray)) ++ mi) ++ (⟨#[58]⟩ : ByteArray)) ++ ss)) ++ (⟨#[32]⟩ : ByteArray)).size + yy.size ≤ 9223372036854775807) = true := decide_eq_true f8
              try (have f8n := f8; simp only [ByteArray.size_append, show (⟨#[32]⟩ : ByteArray).size = 1 from rfl, show (⟨#[58]⟩ : ByteArray).size = 1 from rfl] at f8n; have f8b3 := eq_true f8n; have f8b4 := eq_false (Nat.not_lt.2 f8n); clear f8n)
              have f8b2 : (9223372036854775807 < (((((((dn ++ (⟨#[32]⟩ : ByteArray)) ++ mn) ++ (⟨#[32]⟩ : ByteArray)) ++ ((⟨#[32]⟩ : ByteArray) ++ dd)) ++ (⟨#[32]⟩ : ByteArray)) ++ ((((hh ++ (⟨#[58]⟩ : ByteArray)) ++ mi) ++ (⟨#[58]⟩ : ByteArray)) ++ ss)) ++ (⟨#[32]⟩ : ByteArray)).size + yy.size) = False := eq_false (Nat.not_lt.2 f8)
              clear f8
              clear z1 z2 z3 z4 z5 zd zm
              obtain rfl := Option.some.inj h
              clear h
              go_enter Tryd.func44, Tryd.ntmps44
              go_wp2_with (first | (go_at_call 49; (with_reducible refine (impl_inRange.calls a0 0 4102444799 true  _ A3.out).mono ?_); rintro e w' ⟨rfl, ⟨nd, rfl⟩⟩; (try first | exact ⟨rfl, _, World.drewN_drewN _ _ _⟩ | exact ⟨rfl, _, Eq.trans (World.drewN_drewN _ _ _) (congrArg (World.drewN _) (Nat.add_assoc _ _ _))⟩)) | (go_at_call 15; (with_reducible refine (impl_CivilOf.calls k (wrap64 (Int.tdiv a0 86400)) y m d  _ A5.out).mono ?_); rintro e w' ⟨rfl, ⟨nd, rfl⟩⟩; (try first | exact ⟨rfl, _, World.drewN_drewN _ _ _⟩ | exact ⟨rfl, _, Eq.trans (World.drewN_drewN _ _ _) (congrArg (World.drewN _) (Nat.add_assoc _ _ _))⟩)) | (go_at_call 18; (with_reducible refine (impl_WeekdayOf.calls (wrap64 (Int.tdiv a0 86400)) wd  _ A6.out).mono ?_); rintro e w' ⟨rfl, ⟨nd, rfl⟩⟩; (try first | exact ⟨rfl, _, World.drewN_drewN _ _ _⟩ | exact ⟨rfl, _, Eq.trans (World.drewN_drewN _ _ _) (congrArg (World.drewN _) (Nat.add_assoc _ _ _))⟩)) | (go_at_call 86; (with_reducible refine (impl_Digits.calls k (Int.tmod (wrap64 (Int.tdiv a0 3600)) 24) 2 hh  _ ?side1 A7.out).mono ?_); (case side1 => exact Glob.below HG.out (by repeat (first | (with_reducible first | exact HB.out | apply below_alloc | apply pw_below_drewN | apply below_drew1) | exact HB.out))); rintro e w' ⟨rfl, hb⟩; have n0_ := Aside0.mk (below_step (by repeat (first | (with_reducible first | exact HB.out | apply below_alloc | apply pw_below_drewN | apply below_drew1) | exact HB.out)) hb); clear HB; have HB := n0_; clear n0_; (try clear hb)) | (go_at_call 86; (with_reducible refine (impl_Digits.calls k (Int.tmod (wrap64 (Int.tdiv a0 60)) 60) 2 mi  _ ?side1 A8.out).mono ?_); (case side1 => exact Glob.below HG.out (by repeat (first | (with_reducible first | exact HB.out | apply below_alloc | apply pw_below_drewN | apply below_drew1) | exact HB.out))); rintro e w' ⟨rfl, hb⟩; have n0_ := Aside0.mk (below_step (by repeat (first | (with_reducible first | exact HB.out | apply below_alloc | apply pw_below_drewN | apply below_drew1) | exact HB.out)) hb); clear HB; have HB := n0_; clear n0_; (try clear hb)) | (go_at_call 86; (with_reducible refine (impl_Digits.calls k (Int.tmod a0 60) 2 ss  _ ?side1 A9.out).mono ?_); (case side1 => exact Glob.below HG.out (by repeat (first | (with_reducible first | exact HB.out | apply below_alloc | apply pw_below_drewN | apply below_drew1) | exact HB.out))); rintro e w' ⟨rfl, hb⟩; have n0_ := Aside0.mk (below_step (by repeat (first | (with_reducible first | exact HB.out | apply below_alloc | apply pw_below_drewN | apply below_drew1) | exact HB.out)) hb); clear HB; have HB := n0_; clear n0_; (try clear hb)) | (go_at_call 87; (with_reducible refine (impl_FormatInt.calls d dd  _ ?side1 B1.out).mono ?_); (case side1 => exact Glob.below HG.out (by repeat (first | (with_reducible first | exact HB.out | apply below_alloc | apply pw_below_drewN | apply below_drew1) | exact HB.out))); rintro e w' ⟨rfl, hb⟩; have n0_ := Aside0.mk (below_step (by repeat (first | (with_reducible first | exact HB.out | apply below_alloc | apply pw_below_drewN | apply below_drew1) | exact HB.out)) hb); clear HB; have HB := n0_; clear n0_; (try clear hb)) | (go_at_call 87; (with_reducible refine (impl_FormatInt.calls y yy  _ ?side1 B2.out).mono ?_); (case side1 => exact Glob.below HG.out (by repeat (first | (with_reducible first | exact HB.out | apply below_alloc | apply pw_below_drewN | apply below_drew1) | exact HB.out))); rintro e w' ⟨rfl, hb⟩; have n0_ := Aside0.mk (below_step (by repeat (first | (with_reducible first | exact HB.out | apply below_alloc | apply pw_below_drewN | apply below_drew1) | exact HB.out)) hb); clear HB; have HB := n0_; clear n0_; (try clear hb)))
              repeat (go_quiet (first | (go_at_call 49; (with_reducible refine (impl_inRange.calls a0 0 4102444799 true  _ A3.out).mono ?_); rintro e w' ⟨rfl, ⟨nd, rfl⟩⟩; (try first | exact ⟨rfl, _, World.drewN_drewN _ _ _⟩ | exact ⟨rfl, _, Eq.trans (World.drewN_drewN _ _ _) (congrArg (World.drewN _) (Nat.add_assoc _ _ _))⟩)) | (go_at_call 15; (with_reducible refine (impl_CivilOf.calls k (wrap64 (Int.tdiv a0 86400)) y m d  _ A5.out).mono ?_); rintro e w' ⟨rfl, ⟨nd, rfl⟩⟩; (try first | exact ⟨rfl, _, World.drewN_drewN _ _ _⟩ | exact ⟨rfl, _, Eq.trans (World.drewN_drewN _ _ _) (congrArg (World.drewN _) (Nat.add_assoc _ _ _))⟩)) | (go_at_call 18; (with_reducible refine (impl_WeekdayOf.calls (wrap64 (Int.tdiv a0 86400)) wd  _ A6.out).mono ?_); rintro e w' ⟨rfl, ⟨nd, rfl⟩⟩; (try first | exact ⟨rfl, _, World.drewN_drewN _ _ _⟩ | exact ⟨rfl, _, Eq.trans (World.drewN_drewN _ _ _) (congrArg (World.drewN _) (Nat.add_assoc _ _ _))⟩)) | (go_at_call 86; (with_reducible refine (impl_Digits.calls k (Int.tmod (wrap64 (Int.tdiv a0 3600)) 24) 2 hh  _ ?side1 A7.out).mono ?_); (case side1 => exact Glob.below HG.out (by repeat (first | (with_reducible first | exact HB.out | apply below_alloc | apply pw_below_drewN | apply below_drew1) | exact HB.out))); rintro e w' ⟨rfl, hb⟩; have n0_ := Aside0.mk (below_step (by repeat (first | (with_reducible first | exact HB.out | apply below_alloc | apply pw_below_drewN | apply below_drew1) | exact HB.out)) hb); clear HB; have HB := n0_; clear n0_; (try clear hb)) | (go_at_call 86; (with_reducible refine (impl_Digits.calls k (Int.tmod (wrap64 (Int.tdiv a0 60)) 60) 2 mi  _ ?side1 A8.out).mono ?_); (case side1 => exact Glob.below HG.out (by repeat (first | (with_reducible first | exact HB.out | apply below_alloc | apply pw_below_drewN | apply below_drew1) | exact HB.out))); rintro e w' ⟨rfl, hb⟩; have n0_ := Aside0.mk (below_step (by repeat (first | (with_reducible first | exact HB.out | apply below_alloc | apply pw_below_drewN | apply below_drew1) | exact HB.out)) hb); clear HB; have HB := n0_; clear n0_; (try clear hb)) | (go_at_call 86; (with_reducible refine (impl_Digits.calls k (Int.tmod a0 60) 2 ss  _ ?side1 A9.out).mono ?_); (case side1 => exact Glob.below HG.out (by repeat (first | (with_reducible first | exact HB.out | apply below_alloc | apply pw_below_drewN | apply below_drew1) | exact HB.out))); rintro e w' ⟨rfl, hb⟩; have n0_ := Aside0.mk (below_step (by repeat (first | (with_reducible first | exact HB.out | apply below_alloc | apply pw_below_drewN | apply below_drew1) | exact HB.out)) hb); clear HB; have HB := n0_; clear n0_; (try clear hb)) | (go_at_call 87; (with_reducible refine (impl_FormatInt.calls d dd  _ ?side1 B1.out).mono ?_); (case side1 => exact Glob.below HG.out (by repeat (first | (with_reducible first | exact HB.out | apply below_alloc | apply pw_below_drewN | apply below_drew1) | exact HB.out))); rintro e w' ⟨rfl, hb⟩; have n0_ := Aside0.mk (below_step (by repeat (first | (with_reducible first | exact HB.out | apply below_alloc | apply pw_below_drewN | apply below_drew1) | exact HB.out)) hb); clear HB; have HB := n0_; clear n0_; (try clear hb)) | (go_at_call 87; (with_reducible refine (impl_FormatInt.calls y yy  _ ?side1 B2.out).mono ?_); (case side1 => exact Glob.below HG.out (by repeat (first | (with_reducible first | exact HB.out | apply below_alloc | apply pw_below_drewN | apply below_drew1) | exact HB.out))); rintro e w' ⟨rfl, hb⟩; have n0_ := Aside0.mk (below_step (by repeat (first | (with_reducible first | exact HB.out | apply below_alloc | apply pw_below_drewN | apply below_drew1) | exact HB.out)) hb); clear HB; have HB := n0_; clear n0_; (try clear hb))); try go_wp2_with (first | (go_at_call 49; (with_reducible refine (impl_inRange.calls a0 0 4102444799 true  _ A3.out).mono ?_); rintro e w' ⟨rfl, ⟨nd, rfl⟩⟩; (try first | exact ⟨rfl, _, World.drewN_drewN _ _ _⟩ | exact ⟨rfl, _, Eq.trans (World.drewN_drewN _ _ _) (congrArg (World.drewN _) (Nat.add_assoc _ _ _))⟩)) | (go_at_call 15; (with_reducible refine (impl_CivilOf.calls k (wrap64 (Int.tdiv a0 86400)) y m d  _ A5.out).mono ?_); rintro e w' ⟨rfl, ⟨nd, rfl⟩⟩; (try first | exact ⟨rfl, _, World.drewN_drewN _ _ _⟩ | exact ⟨rfl, _, Eq.trans (World.drewN_drewN _ _ _) (congrArg (World.drewN _) (Nat.add_assoc _ _ _))⟩)) | (go_at_call 18; (with_reducible refine (impl_WeekdayOf.calls (wrap64 (Int.tdiv a0 86400)) wd  _ A6.out).mono ?_); rintro e w' ⟨rfl, ⟨nd, rfl⟩⟩; (try first | exact ⟨rfl, _, World.drewN_drewN _ _ _⟩ | exact ⟨rfl, _, Eq.trans (World.drewN_drewN _ _ _) (congrArg (World.drewN _) (Nat.add_assoc _ _ _))⟩)) | (go_at_call 86; (with_reducible refine (impl_Digits.calls k (Int.tmod (wrap64 (Int.tdiv a0 3600)) 24) 2 hh  _ ?side1 A7.out).mono ?_); (case side1 => exact Glob.below HG.out (by repeat (first | (with_reducible first | exact HB.out | apply below_alloc | apply pw_below_drewN | apply below_drew1) | exact HB.out))); rintro e w' ⟨rfl, hb⟩; have n0_ := Aside0.mk (below_step (by repeat (first | (with_reducible first | exact HB.out | apply below_alloc | apply pw_below_drewN | apply below_drew1) | exact HB.out)) hb); clear HB; have HB := n0_; clear n0_; (try clear hb)) | (go_at_call 86; (with_reducible refine (impl_Digits.calls k (Int.tmod (wrap64 (Int.tdiv a0 60)) 60) 2 mi  _ ?side1 A8.out).mono ?_); (case side1 => exact Glob.below HG.out (by repeat (first | (with_reducible first | exact HB.out | apply below_alloc | apply pw_below_drewN | apply below_drew1) | exact HB.out))); rintro e w' ⟨rfl, hb⟩; have n0_ := Aside0.mk (below_step (by repeat (first | (with_reducible first | exact HB.out | apply below_alloc | apply pw_below_drewN | apply below_drew1) | exact HB.out)) hb); clear HB; have HB := n0_; clear n0_; (try clear hb)) | (go_at_call 86; (with_reducible refine (impl_Digits.calls k (Int.tmod a0 60) 2 ss  _ ?side1 A9.out).mono ?_); (case side1 => exact Glob.below HG.out (by repeat (first | (with_reducible first | exact HB.out | apply below_alloc | apply pw_below_drewN | apply below_drew1) | exact HB.out))); rintro e w' ⟨rfl, hb⟩; have n0_ := Aside0.mk (below_step (by repeat (first | (with_reducible first | exact HB.out | apply below_alloc | apply pw_below_drewN | apply below_drew1) | exact HB.out)) hb); clear HB; have HB := n0_; clear n0_; (try clear hb)) | (go_at_call 87; (with_reducible refine (impl_FormatInt.calls d dd  _ ?side1 B1.out).mono ?_); (case side1 => exact Glob.below HG.out (by repeat (first | (with_reducible first | exact HB.out | apply below_alloc | apply pw_below_drewN | apply below_drew1) | exact HB.out))); rintro e w' ⟨rfl, hb⟩; have n0_ := Aside0.mk (below_step (by repeat (first | (with_reducible first | exact HB.out | apply below_alloc | apply pw_below_drewN | apply below_drew1) | exact HB.out)) hb); clear HB; have HB := n0_; clear n0_; (try clear hb)) | (go_at_call 87; (with_reducible refine (impl_FormatInt.calls y yy  _ ?side1 B2.out).mono ?_); (case side1 => exact Glob.below HG.out (by repeat (first | (with_reducible first | exact HB.out | apply below_alloc | apply pw_below_drewN | apply below_drew1) | exact HB.out))); rintro e w' ⟨rfl, hb⟩; have n0_ := Aside0.mk (below_step (by repeat (first | (with_reducible first | exact HB.out | apply below_alloc | apply pw_below_drewN | apply below_drew1) | exact HB.out)) hb); clear HB; have HB := n0_; clear n0_; (try clear hb))))
              all_goals (go_ret; exact ⟨by first | rfl | simp, (by repeat (first | (with_reducible first | exact HB.out | apply below_alloc | apply pw_below_drewN | apply below_drew1) | exact HB.out))⟩)
            · rw [if_neg c3] at h
              have c3b : decide (d < 10) = false := decide_eq_false c3
              clear c3
              have f1 : dn.size + 1 ≤ 9223372036854775807 := by (try simp only [ByteArray.size_append, show (⟨#[32]⟩ : ByteArray).size = 1 from rfl, show (⟨#[58]⟩ : ByteArray).size = 1 from rfl]); omega
              have f1b0 := eq_true f1
              have f1b1 : decide (dn.size + 1 ≤ 9223372036854775807) = true := decide_eq_true f1
              try (have f1n := f1; simp only [ByteArray.size_append, show (⟨#[32]⟩ : ByteArray).size = 1 from rfl, show (⟨#[58]⟩ : ByteArray).size = 1 from rfl] at f1n; have f1b3 := eq_true f1n; have f1b4 := eq_false (Nat.not_lt.2 f1n); clear f1n)
              have f1b2 : (9223372036854775807 < dn.size + 1) = False := eq_false (Nat.not_lt.2 f1)
              clear f1
              have f2 : (dn ++ (⟨#[32]⟩ : ByteArray)).size + mn.size ≤ 9223372036854775807 := by (try simp only [ByteArray.size_append, show (⟨#[32]⟩ : ByteArray).size = 1 from rfl, show (⟨#[58]⟩ : ByteArray).size = 1 from rfl]); omega
              have f2b0 := eq_true f2
              have f2b1 : decide ((dn ++ (⟨#[32]⟩ : ByteArray)).size + mn.size ≤ 9223372036854775807) = true := decide_eq_true f2
              try (have f2n := f2; simp only [ByteArray.size_append, show (⟨#[32]⟩ : ByteArray).size = 1 from rfl, show (⟨#[58]⟩ : ByteArray).size = 1 from rfl] at f2n; have f2b3 := eq_true f2n; have f2b4 := eq_false (Nat.not_lt.2 f2n); clear f2n)
              have f2b2 : (9223372036854775807 < (dn ++ (⟨#[32]⟩ : ByteArray)).size + mn.size) = False := eq_false (Nat.not_lt.2 f2)
              clear f2
              have f3 : ((dn ++ (⟨#[32]⟩ : ByteArray)) ++ mn).size + 1 ≤ 9223372036854775807 := by (try simp only [ByteArray.size_append, show (⟨#[32]⟩ : ByteArray).size = 1 from rfl, show (⟨#[58]⟩ : ByteArray).size = 1 from rfl]); omega
              have f3b0 := eq_true f3
              have f3b1 : decide (((dn ++ (⟨#[32]⟩ : ByteArray)) ++ mn).size + 1 ≤ 9223372036854775807) = true := decide_eq_true f3
              try (have f3n := f3; simp only [ByteArray.size_append, show (⟨#[32]⟩ : ByteArray).size = 1 from rfl, show (⟨#[58]⟩ : ByteArray).size = 1 from rfl] at f3n; have f3b3 := eq_true f3n; have f3b4 := eq_false (Nat.not_lt.2 f3n); clear f3n)
              have f3b2 : (9223372036854775807 < ((dn ++ (⟨#[32]⟩ : ByteArray)) ++ mn).size + 1) = False := eq_false (Nat.not_lt.2 f3)
              clear f3
              have f4 : (((dn ++ (⟨#[32]⟩ : ByteArray)) ++ mn) ++ (⟨#[32]⟩ : ByteArray)).size + dd.size ≤ 9223372036854775807 := by (try simp only [ByteArray.size_append, show (⟨#[32]⟩ : ByteArray).size = 1 from rfl, show (⟨#[58]⟩ : ByteArray).size = 1 from rfl]); omega
              have f4b0 := eq_true f4
              have f4b1 : decide ((((dn ++ (⟨#[32]⟩ : ByteArray)) ++ mn) ++ (⟨#[32]⟩ : ByteArray)).size + dd.size ≤ 9223372036854775807) = true := decide_eq_true f4
              try (have f4n := f4; simp only [ByteArray.size_append, show (⟨#[32]⟩ : ByteArray).size = 1 from rfl, show (⟨#[58]⟩ : ByteArray).size = 1 from rfl] at f4n; have f4b3 := eq_true f4n; have f4b4 := eq_false (Nat.not_lt.2 f4n); clear f4n)
              have f4b2 : (9223372036854775807 < (((dn ++ (⟨#[32]⟩ : ByteArray)) ++ mn) ++ (⟨#[32]⟩ : ByteArray)).size + dd.size) = False := eq_false (Nat.not_lt.2 f4)
              clear f4
              have f5 : ((((dn ++ (⟨#[32]⟩ : ByteArray)) ++ mn) ++ (⟨#[32]⟩ : ByteArray)) ++ dd).size + 1 ≤ 9223372036854775807 := by (try simp only [ByteArray.size_append, show (⟨#[32]⟩ : ByteArray).size = 1 from rfl, show (⟨#[58]⟩ : ByteArray).size = 1 from rfl]); omega
              have f5b0 := eq_true f5
              have f5b1 : decide (((((dn ++ (⟨#[32]⟩ : ByteArray)) ++ mn) ++ (⟨#[32]⟩ : ByteArray)) ++ dd).size + 1 ≤ 9223372036854775807) = true := decide_eq_true f5
              try (have f5n := f5; simp only [ByteArray.size_append, show (⟨#[32]⟩ : ByteArray).size = 1 from rfl, show (⟨#[58]⟩ : ByteArray).size = 1 from rfl] at f5n; have f5b3 := eq_true f5n; have f5b4 := eq_false (Nat.not_lt.2 f5n); clear f5n)
              have f5b2 : (9223372036854775807 < ((((dn ++ (⟨#[32]⟩ : ByteArray)) ++ mn) ++ (⟨#[32]⟩ : ByteArray)) ++ dd).size + 1) = False := eq_false (Nat.not_lt.2 f5)
              clear f5
              have f6 : (((((dn ++ (⟨#[32]⟩ : ByteArray)) ++ mn) ++ (⟨#[32]⟩ : ByteArray)) ++ dd) ++ (⟨#[32]⟩ : ByteArray)).size + ((((hh ++ (⟨#[58]⟩ : ByteArray)) ++ mi) ++ (⟨#[58]⟩ : ByteArray)) ++ ss).size ≤ 9223372036854775807 := by (try simp only [ByteArray.size_append, show (⟨#[32]⟩ : ByteArray).size = 1 from rfl, show (⟨#[58]⟩ : ByteArray).size = 1 from rfl]); omega
              have f6b0 := eq_true f6
              have f6b1 : decide ((((((dn ++ (⟨#[32]⟩ : ByteArray)) ++ mn) ++ (⟨#[32]⟩ : ByteArray)) ++ dd) ++ (⟨#[32]⟩ : ByteArray)).size + ((((hh ++ (⟨#[58]⟩ : ByteArray)) ++ mi) ++ (⟨#[58]⟩ : ByteArray)) ++ ss).size ≤ 9223372036854775807) = true := decide_eq_true f6
              try (have f6n := f6; simp only [ByteArray.size_append, show (⟨#[32]⟩ : ByteArray).size = 1 from rfl, show (⟨#[58]⟩ : ByteArray).size = 1 from rfl] at f6n; have f6b3 := eq_true f6n; have f6b4 := eq_false (Nat.not_lt.2 f6n); clear f6n)
              have f6b2 : (9223372036854775807 < (((((dn ++ (⟨#[32]⟩ : ByteArray)) ++ mn) ++ (⟨#[32]⟩ : ByteArray)) ++ dd) ++ (⟨#[32]⟩ : ByteArray)).size + ((((hh ++ (⟨#[58]⟩ : ByteArray)) ++ mi) ++ (⟨#[58]⟩ : ByteArray)) ++ ss).size) = False := eq_false (Nat.not_lt.2 f6)
              clear f6
              have f7 : ((((((dn ++ (⟨#[32]⟩ : ByteArray)) ++ mn) ++ (⟨#[32]⟩ : ByteArray)) ++ dd) ++ (⟨#[32]⟩ : ByteArray)) ++ ((((hh ++ (⟨#[58]⟩ : ByteArray)) ++ mi) ++ (⟨#[58]⟩ : ByteArray)) ++ ss)).size + 1 ≤ 9223372036854775807 := by (try simp only [ByteArray.size_append, show (⟨#[32]⟩ : ByteArray).size = 1 from rfl, show (⟨#[58]⟩ : ByteArray).size = 1 from rfl]); omega
              have f7b0 := eq_true f7
              have f7b1 : decide (((((((dn ++ (⟨#[32]⟩ : ByteArray)) ++ mn) ++ (⟨#[32]⟩ : ByteArray)) ++ dd) ++ (⟨#[32]⟩ : ByteArray)) ++ ((((hh ++ (⟨#[58]⟩ : ByteArray)) ++ mi) ++ (⟨#[58]⟩ : ByteArray)) ++ ss)).size + 1 ≤ 9223372036854775807) = true := decide_eq_true f7
              try (have f7n := f7; simp only [ByteArray.size_append, show (⟨#[32]⟩ : ByteArray).size = 1 from rfl, show (⟨#[58]⟩ : ByteArray).size = 1 from rfl] at f7n; have f7b3 := eq_true f7n; have f7b4 := eq_false (Nat.not_lt.2 f7n); clear f7n)
              have f7b2 : (9223372036854775807 < ((((((dn ++ (⟨#[32]⟩ : ByteArray)) ++ mn) ++ (⟨#[32]⟩ : ByteArray)) ++ dd) ++ (⟨#[32]⟩ : ByteArray)) ++ ((((hh ++ (⟨#[58]⟩ : ByteArray)) ++ mi) ++ (⟨#[58]⟩ : ByteArray)) ++ ss)).size + 1) = False := eq_false (Nat.not_lt.2 f7)
              clear f7
              have f8 : (((((((dn ++ (⟨#[32]⟩ : ByteArray)) ++ mn) ++ (⟨#[32]⟩ : ByteArray)) ++ dd) ++ (⟨#[32]⟩ : ByteArray)) ++ ((((hh ++ (⟨#[58]⟩ : ByteArray)) ++ mi) ++ (⟨#[58]⟩ : ByteArray)) ++ ss)) ++ (⟨#[32]⟩ : ByteArray)).size + yy.size ≤ 9223372036854775807 := by (try simp only [ByteArray.size_append, show (⟨#[32]⟩ : ByteArray).size = 1 from rfl, show (⟨#[58]⟩ : ByteArray).size = 1 from rfl]); omega
              have f8b0 := eq_true f8
              have f8b1 : decide ((((((((dn ++ (⟨#[32]⟩ : ByteArray)) ++ mn) ++ (⟨#[32]⟩ : ByteArray)) ++ dd) ++ (⟨#[32]⟩ : ByteArray)) ++ ((((hh ++ (⟨#[58]⟩ : ByteArray)) ++ mi) ++ (⟨#[58]⟩ : ByteArray)) ++ ss)) ++ (⟨#[32]⟩ : ByteArray)).size + yy.size ≤ 9223372036854775807) = true := decide_eq_true f8
              try (have f8n := f8; simp only [ByteArray.size_append, show (⟨#[32]⟩ : ByteArray).size = 1 from rfl, show (⟨#[58]⟩ : ByteArray).size = 1 from rfl] at f8n; have f8b3 := eq_true f8n; have f8b4 := eq_false (Nat.not_lt.2 f8n); clear f8n)
              have f8b2 : (9223372036854775807 < (((((((dn ++ (⟨#[32]⟩ : ByteArray)) ++ mn) ++ (⟨#[32]⟩ : ByteArray)) ++ dd) ++ (⟨#[32]⟩ : ByteArray)) ++ ((((hh ++ (⟨#[58]⟩ : ByteArray)) ++ mi) ++ (⟨#[58]⟩ : ByteArray)) ++ ss)) ++ (⟨#[32]⟩ : ByteArray)).size + yy.size) = False := eq_false (Nat.not_lt.2 f8)
              clear f8
              clear z1 z2 z3 z4 z5 zd zm
              obtain rfl := Option.some.inj h
              clear h
              go_enter Tryd.func44, Tryd.ntmps44
              go_wp2_with (first | (go_at_call 49; (with_reducible refine (impl_inRange.calls a0 0 4102444799 true  _ A3.out).mono ?_); rintro e w' ⟨rfl, ⟨nd, rfl⟩⟩; (try first | exact ⟨rfl, _, World.drewN_drewN _ _ _⟩ | exact ⟨rfl, _, Eq.trans (World.drewN_drewN _ _ _) (congrArg (World.drewN _) (Nat.add_assoc _ _ _))⟩)) | (go_at_call 15; (with_reducible refine (impl_CivilOf.calls k (wrap64 (Int.tdiv a0 86400)) y m d  _ A5.out).mono ?_); rintro e w' ⟨rfl, ⟨nd, rfl⟩⟩; (try first | exact ⟨rfl, _, World.drewN_drewN _ _ _⟩ | exact ⟨rfl, _, Eq.trans (World.drewN_drewN _ _ _) (congrArg (World.drewN _) (Nat.add_assoc _ _ _))⟩)) | (go_at_call 18; (with_reducible refine (impl_WeekdayOf.calls (wrap64 (Int.tdiv a0 86400)) wd  _ A6.out).mono ?_); rintro e w' ⟨rfl, ⟨nd, rfl⟩⟩; (try first | exact ⟨rfl, _, World.drewN_drewN _ _ _⟩ | exact ⟨rfl, _, Eq.trans (World.drewN_drewN _ _ _) (congrArg (World.drewN _) (Nat.add_assoc _ _ _))⟩)) | (go_at_call 86; (with_reducible refine (impl_Digits.calls k (Int.tmod (wrap64 (Int.tdiv a0 3600)) 24) 2 hh  _ ?side1 A7.out).mono ?_); (case side1 => exact Glob.below HG.out (by repeat (first | (with_reducible first | exact HB.out | apply below_alloc | apply pw_below_drewN | apply below_drew1) | exact HB.out))); rintro e w' ⟨rfl, hb⟩; have n0_ := Aside0.mk (below_step (by repeat (first | (with_reducible first | exact HB.out | apply below_alloc | apply pw_below_drewN | apply below_drew1) | exact HB.out)) hb); clear HB; have HB := n0_; clear n0_; (try clear hb)) | (go_at_call 86; (with_reducible refine (impl_Digits.calls k (Int.tmod (wrap64 (Int.tdiv a0 60)) 60) 2 mi  _ ?side1 A8.out).mono ?_); (case side1 => exact Glob.below HG.out (by repeat (first | (with_reducible first | exact HB.out | apply below_alloc | apply pw_below_drewN | apply below_drew1) | exact HB.out))); rintro e w' ⟨rfl, hb⟩; have n0_ := Aside0.mk (below_step (by repeat (first | (with_reducible first | exact HB.out | apply below_alloc | apply pw_below_drewN | apply below_drew1) | exact HB.out)) hb); clear HB; have HB := n0_; clear n0_; (try clear hb)) | (go_at_call 86; (with_reducible refine (impl_Digits.calls k (Int.tmod a0 60) 2 ss  _ ?side1 A9.out).mono ?_); (case side1 => exact Glob.below HG.out (by repeat (first | (with_reducible first | exact HB.out | apply below_alloc | apply pw_below_drewN | apply below_drew1) | exact HB.out))); rintro e w' ⟨rfl, hb⟩; have n0_ := Aside0.mk (below_step (by repeat (first | (with_reducible first | exact HB.out | apply below_alloc | apply pw_below_drewN | apply below_drew1) | exact HB.out)) hb); clear HB; have HB := n0_; clear n0_; (try clear hb)) | (go_at_call 87; (with_reducible refine (impl_FormatInt.calls d dd  _ ?side1 B1.out).mono ?_); (case side1 => exact Glob.below HG.out (by repeat (first | (with_reducible first | exact HB.out | apply below_alloc | apply pw_below_drewN | apply below_drew1) | exact HB.out))); rintro e w' ⟨rfl, hb⟩; have n0_ := Aside0.mk (below_step (by repeat (first | (with_reducible first | exact HB.out | apply below_alloc | apply pw_below_drewN | apply below_drew1) | exact HB.out)) hb); clear HB; have HB := n0_; clear n0_; (try clear hb)) | (go_at_call 87; (with_reducible refine (impl_FormatInt.calls y yy  _ ?side1 B2.out).mono ?_); (case side1 => exact Glob.below HG.out (by repeat (first | (with_reducible first | exact HB.out | apply below_alloc | apply pw_below_drewN | apply below_drew1) | exact HB.out))); rintro e w' ⟨rfl, hb⟩; have n0_ := Aside0.mk (below_step (by repeat (first | (with_reducible first | exact HB.out | apply below_alloc | apply pw_below_drewN | apply below_drew1) | exact HB.out)) hb); clear HB; have HB := n0_; clear n0_; (try clear hb)))
              repeat (go_quiet (first | (go_at_call 49; (with_reducible refine (impl_inRange.calls a0 0 4102444799 true  _ A3.out).mono ?_); rintro e w' ⟨rfl, ⟨nd, rfl⟩⟩; (try first | exact ⟨rfl, _, World.drewN_drewN _ _ _⟩ | exact ⟨rfl, _, Eq.trans (World.drewN_drewN _ _ _) (congrArg (World.drewN _) (Nat.add_assoc _ _ _))⟩)) | (go_at_call 15; (with_reducible refine (impl_CivilOf.calls k (wrap64 (Int.tdiv a0 86400)) y m d  _ A5.out).mono ?_); rintro e w' ⟨rfl, ⟨nd, rfl⟩⟩; (try first | exact ⟨rfl, _, World.drewN_drewN _ _ _⟩ | exact ⟨rfl, _, Eq.trans (World.drewN_drewN _ _ _) (congrArg (World.drewN _) (Nat.add_assoc _ _ _))⟩)) | (go_at_call 18; (with_reducible refine (impl_WeekdayOf.calls (wrap64 (Int.tdiv a0 86400)) wd  _ A6.out).mono ?_); rintro e w' ⟨rfl, ⟨nd, rfl⟩⟩; (try first | exact ⟨rfl, _, World.drewN_drewN _ _ _⟩ | exact ⟨rfl, _, Eq.trans (World.drewN_drewN _ _ _) (congrArg (World.drewN _) (Nat.add_assoc _ _ _))⟩)) | (go_at_call 86; (with_reducible refine (impl_Digits.calls k (Int.tmod (wrap64 (Int.tdiv a0 3600)) 24) 2 hh  _ ?side1 A7.out).mono ?_); (case side1 => exact Glob.below HG.out (by repeat (first | (with_reducible first | exact HB.out | apply below_alloc | apply pw_below_drewN | apply below_drew1) | exact HB.out))); rintro e w' ⟨rfl, hb⟩; have n0_ := Aside0.mk (below_step (by repeat (first | (with_reducible first | exact HB.out | apply below_alloc | apply pw_below_drewN | apply below_drew1) | exact HB.out)) hb); clear HB; have HB := n0_; clear n0_; (try clear hb)) | (go_at_call 86; (with_reducible refine (impl_Digits.calls k (Int.tmod (wrap64 (Int.tdiv a0 60)) 60) 2 mi  _ ?side1 A8.out).mono ?_); (case side1 => exact Glob.below HG.out (by repeat (first | (with_reducible first | exact HB.out | apply below_alloc | apply pw_below_drewN | apply below_drew1) | exact HB.out))); rintro e w' ⟨rfl, hb⟩; have n0_ := Aside0.mk (below_step (by repeat (first | (with_reducible first | exact HB.out | apply below_alloc | apply pw_below_drewN | apply below_drew1) | exact HB.out)) hb); clear HB; have HB := n0_; clear n0_; (try clear hb)) | (go_at_call 86; (with_reducible refine (impl_Digits.calls k (Int.tmod a0 60) 2 ss  _ ?side1 A9.out).mono ?_); (case side1 => exact Glob.below HG.out (by repeat (first | (with_reducible first | exact HB.out | apply below_alloc | apply pw_below_drewN | apply below_drew1) | exact HB.out))); rintro e w' ⟨rfl, hb⟩; have n0_ := Aside0.mk (below_step (by repeat (first | (with_reducible first | exact HB.out | apply below_alloc | apply pw_below_drewN | apply below_drew1) | exact HB.out)) hb); clear HB; have HB := n0_; clear n0_; (try clear hb)) | (go_at_call 87; (with_reducible refine (impl_FormatInt.calls d dd  _ ?side1 B1.out).mono ?_); (case side1 => exact Glob.below HG.out (by repeat (first | (with_reducible first | exact HB.out | apply below_alloc | apply pw_below_drewN | apply below_drew1) | exact HB.out))); rintro e w' ⟨rfl, hb⟩; have n0_ := Aside0.mk (below_step (by repeat (first | (with_reducible first | exact HB.out | apply below_alloc | apply pw_below_drewN | apply below_drew1) | exact HB.out)) hb); clear HB; have HB := n0_; clear n0_; (try clear hb)) | (go_at_call 87; (with_reducible refine (impl_FormatInt.calls y yy  _ ?side1 B2.out).mono ?_); (case side1 => exact Glob.below HG.out (by repeat (first | (with_reducible first | exact HB.out | apply below_alloc | apply pw_below_drewN | apply below_drew1) | exact HB.out))); rintro e w' ⟨rfl, hb⟩; have n0_ := Aside0.mk (below_step (by repeat (first | (with_reducible first | exact HB.out | apply below_alloc | apply pw_below_drewN | apply below_drew1) | exact HB.out)) hb); clear HB; have HB := n0_; clear n0_; (try clear hb))); try go_wp2_with (first | (go_at_call 49; (with_reducible refine (impl_inRange.calls a0 0 4102444799 true  _ A3.out).mono ?_); rintro e w' ⟨rfl, ⟨nd, rfl⟩⟩; (try first | exact ⟨rfl, _, World.drewN_drewN _ _ _⟩ | exact ⟨rfl, _, Eq.trans (World.drewN_drewN _ _ _) (congrArg (World.drewN _) (Nat.add_assoc _ _ _))⟩)) | (go_at_call 15; (with_reducible refine (impl_CivilOf.calls k (wrap64 (Int.tdiv a0 86400)) y m d  _ A5.out).mono ?_); rintro e w' ⟨rfl, ⟨nd, rfl⟩⟩; (try first | exact ⟨rfl, _, World.drewN_drewN _ _ _⟩ | exact ⟨rfl, _, Eq.trans (World.drewN_drewN _ _ _) (congrArg (World.drewN _) (Nat.add_assoc _ _ _))⟩)) | (go_at_call 18; (with_reducible refine (impl_WeekdayOf.calls (wrap64 (Int.tdiv a0 86400)) wd  _ A6.out).mono ?_); rintro e w' ⟨rfl, ⟨nd, rfl⟩⟩; (try first | exact ⟨rfl, _, World.drewN_drewN _ _ _⟩ | exact ⟨rfl, _, Eq.trans (World.drewN_drewN _ _ _) (congrArg (World.drewN _) (Nat.add_assoc _ _ _))⟩)) | (go_at_call 86; (with_reducible refine (impl_Digits.calls k (Int.tmod (wrap64 (Int.tdiv a0 3600)) 24) 2 hh  _ ?side1 A7.out).mono ?_); (case side1 => exact Glob.below HG.out (by repeat (first | (with_reducible first | exact HB.out | apply below_alloc | apply pw_below_drewN | apply below_drew1) | exact HB.out))); rintro e w' ⟨rfl, hb⟩; have n0_ := Aside0.mk (below_step (by repeat (first | (with_reducible first | exact HB.out | apply below_alloc | apply pw_below_drewN | apply below_drew1) | exact HB.out)) hb); clear HB; have HB := n0_; clear n0_; (try clear hb)) | (go_at_call 86; (with_reducible refine (impl_Digits.calls k (Int.tmod (wrap64 (Int.tdiv a0 60)) 60) 2 mi  _ ?side1 A8.out).mono ?_); (case side1 => exact Glob.below HG.out (by repeat (first | (with_reducible first | exact HB.out | apply below_alloc | apply pw_below_drewN | apply below_drew1) | exact HB.out))); rintro e w' ⟨rfl, hb⟩; have n0_ := Aside0.mk (below_step (by repeat (first | (with_reducible first | exact HB.out | apply below_alloc | apply pw_below_drewN | apply below_drew1) | exact HB.out)) hb); clear HB; have HB := n0_; clear n0_; (try clear hb)) | (go_at_call 86; (with_reducible refine (impl_Digits.calls k (Int.tmod a0 60) 2 ss  _ ?side1 A9.out).mono ?_); (case side1 => exact Glob.below HG.out (by repeat (first | (with_reducible first | exact HB.out | apply below_alloc | apply pw_below_drewN | apply below_drew1) | exact HB.out))); rintro e w' ⟨rfl, hb⟩; have n0_ := Aside0.mk (below_step (by repeat (first | (with_reducible first | exact HB.out | apply below_alloc | apply pw_below_drewN | apply below_drew1) | exact HB.out)) hb); clear HB; have HB := n0_; clear n0_; (try clear hb)) | (go_at_call 87; (with_reducible refine (impl_FormatInt.calls d dd  _ ?side1 B1.out).mono ?_); (case side1 => exact Glob.below HG.out (by repeat (first | (with_reducible first | exact HB.out | apply below_alloc | apply pw_below_drewN | apply below_drew1) | exact HB.out))); rintro e w' ⟨rfl, hb⟩; have n0_ := Aside0.mk (below_step (by repeat (first | (with_reducible first | exact HB.out | apply below_alloc | apply pw_below_drewN | apply below_drew1) | exact HB.out)) hb); clear HB; have HB := n0_; clear n0_; (try clear hb)) | (go_at_call 87; (with_reducible refine (impl_FormatInt.calls y yy  _ ?side1 B2.out).mono ?_); (case side1 => exact Glob.below HG.out (by repeat (first | (with_reducible first | exact HB.out | apply below_alloc | apply pw_below_drewN | apply below_drew1) | exact HB.out))); rintro e w' ⟨rfl, hb⟩; have n0_ := Aside0.mk (below_step (by repeat (first | (with_reducible first | exact HB.out | apply below_alloc | apply pw_below_drewN | apply below_drew1) | exact HB.out)) hb); clear HB; have HB := n0_; clear n0_; (try clear hb))))
              all_goals (go_ret; exact ⟨by first | rfl | simp, (by repeat (first | (with_reducible first | exact HB.out | apply below_alloc | apply pw_below_drewN | apply below_drew1) | exact HB.out))⟩)
          · exact absurd h (by simp)
    · exact absurd h (by simp)
  · rw [if_neg g] at h
    have A3 := Aside0.mk (show impl_inRange.f a0 0 4102444799 = some false by unfold impl_inRange.f; by_cases q : 0 ≤ a0; (rw [if_pos q, decide_eq_false (by omega)]); (rw [if_neg q]))
    clear g
    obtain rfl := Option.some.inj h
    clear h
    go_enter Tryd.func44, Tryd.ntmps44
    go_wp2_with ((go_at_call 49; (with_reducible refine (impl_inRange.calls a0 0 4102444799 false  _ A3.out).mono ?_); rintro e w' ⟨rfl, ⟨nd, rfl⟩⟩; (try first | exact ⟨rfl, _, World.drewN_drewN _ _ _⟩ | exact ⟨rfl, _, Eq.trans (World.drewN_drewN _ _ _) (congrArg (World.drewN _) (Nat.add_assoc _ _ _))⟩)))
    go_ret
    exact ⟨rfl, (by repeat (first | (with_reducible first | exact HB.out | apply below_alloc | apply pw_below_drewN | apply below_drew1) | exact HB.out))⟩

end Go.Proofs.YtlboepkphddacabDoor.RFnDates
