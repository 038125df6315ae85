/- What the Go functions that the law FnRanges reaches answer: for each one a Lean function, and the proof that its call comes to what that function says. Conditions: those that each theorem states. Written by a program. -/
import Derived.Test.YtlboepkphddacabGreatDoorRFnRangesx0
import Derived.Test.YtlboepkphddacabGreatDoorRFnRangesx3
namespace Go.Proofs.YtlboepkphddacabGreatDoor.RFnRanges
open Go.RowKit Go.Proofs.YtlboepkphddacabGreatDoorW.PrintWords Go.Proofs.YtlboepkphddacabGreatDoorW.PrintLast Go.Proofs.YtlboepkphddacabGreatDoorW.PrintMore
attribute [local go_sem] max2_int min2_int max_two min_two max_three min_three max_four min_four   -- for this text's walks alone
set_option linter.unusedVariables false
set_option linter.unusedSimpArgs false

/-! ### impl_FormatContentRange: function 12 -/
def impl_FormatContentRange.f (a0_0 : Int) (a0_1 : Int) (a1 : Int) : Option (ByteArray) := if a0_0 ≥ a0_1 then ((impl_FormatInt.f a1).bind fun t374 => (if 8 + t374.size ≤ 9223372036854775807 then (some ((⟨#[98, 121, 116, 101, 115, 32, 42, 47]⟩ : ByteArray) ++ t374)) else (none))) else ((impl_FormatInt.f a0_0).bind fun t375 => (if 6 + t375.size ≤ 9223372036854775807 then (if ((⟨#[98, 121, 116, 101, 115, 32]⟩ : ByteArray) ++ t375).size + 1 ≤ 9223372036854775807 then ((impl_FormatInt.f (wrap64 (a0_1 - 1))).bind fun t376 => (if (((⟨#[98, 121, 116, 101, 115, 32]⟩ : ByteArray) ++ t375) ++ (⟨#[45]⟩ : ByteArray)).size + t376.size ≤ 9223372036854775807 then (if ((((⟨#[98, 121, 116, 101, 115, 32]⟩ : ByteArray) ++ t375) ++ (⟨#[45]⟩ : ByteArray)) ++ t376).size + 1 ≤ 9223372036854775807 then ((impl_FormatInt.f a1).bind fun t377 => (if (((((⟨#[98, 121, 116, 101, 115, 32]⟩ : ByteArray) ++ t375) ++ (⟨#[45]⟩ : ByteArray)) ++ t376) ++ (⟨#[47]⟩ : ByteArray)).size + t377.size ≤ 9223372036854775807 then (some ((((((⟨#[98, 121, 116, 101, 115, 32]⟩ : ByteArray) ++ t375) ++ (⟨#[45]⟩ : ByteArray)) ++ t376) ++ (⟨#[47]⟩ : ByteArray)) ++ t377)) else (none))) else (none)) else (none))) else (none)) else (none)))
def impl_FormatContentRange.T3 : Bool × List (List Nat × List Nat) := (true, [([], []), ([0], [0]), ([1], [1]), ([2], [2]), ([3], [3]), ([], []), ([5], [5]), ([6], [6]), ([7, 2], [7]), ([4, 8], [4, 8]), ([9], [9]), ([], []), ([11, 8], [11]), ([10, 12], [10, 12]), ([13, 12, 0, 1, 2, 3, 4, 5, 6, 7, 8, 9, 10, 11, 12, 13], [13])])
def impl_FormatContentRange.B3 : List Nat := [0, 1, 3, 7, 15, 0, 32, 96, 231, 511, 1023, 0, 2535, 8191, 16383]
theorem impl_FormatContentRange.tab3 : rtab .any (opsOf Tryz.f12 3) = impl_FormatContentRange.T3 := by kernel_rfl
theorem impl_FormatContentRange.bits3 : waitsOk impl_FormatContentRange.T3.2 impl_FormatContentRange.B3 = true := by kernel_rfl
set_option maxHeartbeats 8000000 in
set_option maxRecDepth 100000 in
theorem impl_FormatContentRange.calls (a0_0 : Int) (a0_1 : Int) (a1 : Int) (r : ByteArray) (w : World) (hG : Glob w) (h : impl_FormatContentRange.f a0_0 a0_1 a1 = some r) :
    Calls Tryz.prog 12 #[.agg #[.int .i64 a0_0, .int .i64 a0_1], .int .i64 a1] w fun e w' => e = .returned (.string r) ∧ Below w.heap.size w w' := by
  have hu35 := Tryz.underlying35
  have HG := Aside0.mk hG
  clear hG
  have HB := Aside0.mk (Below.refl w.heap.size w)
  have H : (if a0_0 ≥ a0_1 then ((impl_FormatInt.f a1).bind fun t374 => (if 8 + t374.size ≤ 9223372036854775807 then (some ((⟨#[98, 121, 116, 101, 115, 32, 42, 47]⟩ : ByteArray) ++ t374)) else (none))) else ((impl_FormatInt.f a0_0).bind fun t375 => (if 6 + t375.size ≤ 9223372036854775807 then (if ((⟨#[98, 121, 116, 101, 115, 32]⟩ : ByteArray) ++ t375).size + 1 ≤ 9223372036854775807 then ((impl_FormatInt.f (wrap64 (a0_1 - 1))).bind fun t376 => (if (((⟨#[98, 121, 116, 101, 115, 32]⟩ : ByteArray) ++ t375) ++ (⟨#[45]⟩ : ByteArray)).size + t376.size ≤ 9223372036854775807 then (if ((((⟨#[98, 121, 116, 101, 115, 32]⟩ : ByteArray) ++ t375) ++ (⟨#[45]⟩ : ByteArray)) ++ t376).size + 1 ≤ 9223372036854775807 then ((impl_FormatInt.f a1).bind fun t377 => (if (((((⟨#[98, 121, 116, 101, 115, 32]⟩ : ByteArray) ++ t375) ++ (⟨#[45]⟩ : ByteArray)) ++ t376) ++ (⟨#[47]⟩ : ByteArray)).size + t377.size ≤ 9223372036854775807 then (some ((((((⟨#[98, 121, 116, 101, 115, 32]⟩ : ByteArray) ++ t375) ++ (⟨#[45]⟩ : ByteArray)) ++ t376) ++ (⟨#[47]⟩ : ByteArray)) ++ t377)) else (none))) else (none)) else (none))) else (none)) else (none)))) = some r := h
  clear h
  by_cases c3 : a0_0 ≥ a0_1
  · rw [if_pos c3] at H
    have c3b0 : decide (a0_1 ≤ a0_0) = true := decide_eq_true c3
    clear c3
    replace H := Option.bind_eq_some_iff.mp H
    obtain ⟨t374, A40, H⟩ := H
    replace H : (if 8 + t374.size ≤ 9223372036854775807 then (some ((⟨#[98, 121, 116, 101, 115, 32, 42, 47]⟩ : ByteArray) ++ t374)) else (none)) = some r := H
    have A4 := Aside0.mk A40
    clear A40
    by_cases c5 : 8 + t374.size ≤ 9223372036854775807
    · rw [if_pos c5] at H
      have c5b0 := eq_true c5
      have c5b1 : decide (8 + t374.size ≤ 9223372036854775807) = true := decide_eq_true c5
      try have c5b2 : (9223372036854775807 < 8 + t374.size) = False := eq_false (Nat.not_lt.2 c5)
      obtain rfl := Option.some.inj H
      go_enter Tryz.func12, Tryz.ntmps12
      go_wp2_with (first | ((with_reducible refine gate_dst (N := 2) rfl ?_); refine box_event ?hg (N := 2) ?hd (cs := #[.int .i64 a0_0, .int .i64 a0_1]) (t := 35) ?hr ?_; (case hd => rfl); (case hg => rfl); (case hr => first | (go_simp; done) | (go_simp; rfl)); intro gb373 hg w6 hbox hb; have n0_ := Aside0.mk (below_step (by repeat (first | (with_reducible first | exact HB.out | apply below_alloc | apply pw_below_drewN | apply below_drew1) | exact HB.out)) hb); have n1_ := Aside0.mk (hbox); have n2_ := Aside0.mk ((by rw [hg]; exact (below_size (by repeat (first | (with_reducible first | exact HB.out | apply below_alloc | apply pw_below_drewN | apply below_drew1) | exact HB.out))) : w.heap.size ≤ gb373)); have n3_ := Aside0.mk ((by rw [hg]; exact (below_size (by repeat (first | (with_reducible first | exact HB.out | apply below_alloc | apply pw_below_drewN | apply below_drew1) | exact HB.out))) : w.heap.size ≤ gb373)); clear HB; have HB := n0_; have BK373 := n1_; have GW373 := n2_; have GE373 := n3_; clear n0_ n1_ n2_ n3_; clear hb hbox hg; have hcz7_0 : w6.cell? ⟨gb373, 0, none⟩ = some (.int .i64 a0_0) := (blk_cell BK373.out 0).trans rfl; have hcz7_1 : w6.cell? ⟨gb373, 1, none⟩ = some (.int .i64 a0_1) := (blk_cell BK373.out 1).trans rfl; have hfz7_0 := blk_frozen BK373.out 0; have hfz7_1 := blk_frozen BK373.out 1) | ((with_reducible refine gate_callee (f := 25) rfl ?_); refine goesL_ (some 11) rfl rfl Tryz.func25 (by kernel_rfl) rfl #[.int .i64 a1] rfl (by (try simp only [List.map_toArray, List.map_cons, List.map_nil]); first | done | rfl | (simp only [List.length_drop, List.length_take]; rfl) | (simp; repeat' first | rfl | constructor)) ?_; (with_reducible refine (impl_FormatInt.calls a1 t374 _ ?side1 A4.out).mono ?_); (case side1 => exact Glob.below HG.out (by repeat (first | (with_reducible first | exact HB.out | apply below_alloc | apply pw_below_drewN | apply below_drew1 | refine below_set ?_ GE373.out) | exact HB.out))); rintro e w8 ⟨rfl, hb⟩; refine ⟨_, rfl, ?_⟩; have n0_ := Aside0.mk (blk_below (g := gb373) (o := .cells #[.int .i64 a0_0, .int .i64 a0_1] 35 (0, 0)) (by (with_reducible repeat (first | refine blk_drewN ?_ _ | refine blk_drew ?_ | refine blk_alloc ?_ _)); exact BK373.out) hb); have n1_ := Aside0.mk (below_step (by repeat (first | (with_reducible first | exact HB.out | apply below_alloc | apply pw_below_drewN | apply below_drew1 | refine below_set ?_ GE373.out) | exact HB.out)) hb); clear BK373; clear HB; have BK373 := n0_; have HB := n1_; clear n0_ n1_; (try clear hb); (try clear hb2); (try clear hk); (try clear hi)))
      go_ret
      exact ⟨by first | rfl | (simp [errW_none, errW_some] <;> rfl) | (simp [*, errW_none, errW_some] <;> rfl), by repeat (first | (with_reducible first | exact HB.out | apply below_alloc | apply pw_below_drewN | apply below_drew1 | refine below_set ?_ GE373.out) | exact HB.out)⟩
    · rw [if_neg c5] at H
      exact absurd H (by simp)
  · rw [if_neg c3] at H
    have c3b0 : decide (a0_1 ≤ a0_0) = false := decide_eq_false c3
    clear c3
    replace H := Option.bind_eq_some_iff.mp H
    obtain ⟨t375, A90, H⟩ := H
    replace H : (if 6 + t375.size ≤ 9223372036854775807 then (if ((⟨#[98, 121, 116, 101, 115, 32]⟩ : ByteArray) ++ t375).size + 1 ≤ 9223372036854775807 then ((impl_FormatInt.f (wrap64 (a0_1 - 1))).bind fun t376 => (if (((⟨#[98, 121, 116, 101, 115, 32]⟩ : ByteArray) ++ t375) ++ (⟨#[45]⟩ : ByteArray)).size + t376.size ≤ 9223372036854775807 then (if ((((⟨#[98, 121, 116, 101, 115, 32]⟩ : ByteArray) ++ t375) ++ (⟨#[45]⟩ : ByteArray)) ++ t376).size + 1 ≤ 9223372036854775807 then ((impl_FormatInt.f a1).bind fun t377 => (if (((((⟨#[98, 121, 116, 101, 115, 32]⟩ : ByteArray) ++ t375) ++ (⟨#[45]⟩ : ByteArray)) ++ t376) ++ (⟨#[47]⟩ : ByteArray)).size + t377.size ≤ 9223372036854775807 then (some ((((((⟨#[98, 121, 116, 101, 115, 32]⟩ : ByteArray) ++ t375) ++ (⟨#[45]⟩ : ByteArray)) ++ t376) ++ (⟨#[47]⟩ : ByteArray)) ++ t377)) else (none))) else (none)) else (none))) else (none)) else (none)) = some r := H
    have A9 := Aside0.mk A90
    clear A90
    by_cases c10 : 6 + t375.size ≤ 9223372036854775807
    · rw [if_pos c10] at H
      have c10b0 := eq_true c10
      have c10b1 : decide (6 + t375.size ≤ 9223372036854775807) = true := decide_eq_true c10
      try have c10b2 : (9223372036854775807 < 6 + t375.size) = False := eq_false (Nat.not_lt.2 c10)
      by_cases c11 : ((⟨#[98, 121, 116, 101, 115, 32]⟩ : ByteArray) ++ t375).size + 1 ≤ 9223372036854775807
      · rw [if_pos c11] at H
        have c11b0 := eq_true c11
        have c11b1 : decide (((⟨#[98, 121, 116, 101, 115, 32]⟩ : ByteArray) ++ t375).size + 1 ≤ 9223372036854775807) = true := decide_eq_true c11
        try (have c11n := c11; simp only [ByteArray.size_append, show (⟨#[98, 121, 116, 101, 115, 32]⟩ : ByteArray).size = 6 from rfl] at c11n; have c11b3 := eq_true c11n; have c11b4 := eq_false (Nat.not_lt.2 c11n); clear c11n)
        try have c11b2 : (9223372036854775807 < ((⟨#[98, 121, 116, 101, 115, 32]⟩ : ByteArray) ++ t375).size + 1) = False := eq_false (Nat.not_lt.2 c11)
        replace H := Option.bind_eq_some_iff.mp H
        obtain ⟨t376, A120, H⟩ := H
        replace H : (if (((⟨#[98, 121, 116, 101, 115, 32]⟩ : ByteArray) ++ t375) ++ (⟨#[45]⟩ : ByteArray)).size + t376.size ≤ 9223372036854775807 then (if ((((⟨#[98, 121, 116, 101, 115, 32]⟩ : ByteArray) ++ t375) ++ (⟨#[45]⟩ : ByteArray)) ++ t376).size + 1 ≤ 9223372036854775807 then ((impl_FormatInt.f a1).bind fun t377 => (if (((((⟨#[98, 121, 116, 101, 115, 32]⟩ : ByteArray) ++ t375) ++ (⟨#[45]⟩ : ByteArray)) ++ t376) ++ (⟨#[47]⟩ : ByteArray)).size + t377.size ≤ 9223372036854775807 then (some ((((((⟨#[98, 121, 116, 101, 115, 32]⟩ : ByteArray) ++ t375) ++ (⟨#[45]⟩ : ByteArray)) ++ t376) ++ (⟨#[47]⟩ : ByteArray)) ++ t377)) else (none))) else (none)) else (none)) = some r := H
        have A12 := Aside0.mk A120
        clear A120
        by_cases c13 : (((⟨#[98, 121, 116, 101, 115, 32]⟩ : ByteArray) ++ t375) ++ (⟨#[45]⟩ : ByteArray)).size + t376.size ≤ 9223372036854775807
        · rw [if_pos c13] at H
          have c13b0 := eq_true c13
          have c13b1 : decide ((((⟨#[98, 121, 116, 101, 115, 32]⟩ : ByteArray) ++ t375) ++ (⟨#[45]⟩ : ByteArray)).size + t376.size ≤ 9223372036854775807) = true := decide_eq_true c13
          try (have c13n := c13; simp only [ByteArray.size_append, show (⟨#[45]⟩ : ByteArray).size = 1 from rfl, show (⟨#[98, 121, 116, 101, 115, 32]⟩ : ByteArray).size = 6 from rfl] at c13n; have c13b3 := eq_true c13n; have c13b4 := eq_false (Nat.not_lt.2 c13n); clear c13n)
          try have c13b2 : (9223372036854775807 < (((⟨#[98, 121, 116, 101, 115, 32]⟩ : ByteArray) ++ t375) ++ (⟨#[45]⟩ : ByteArray)).size + t376.size) = False := eq_false (Nat.not_lt.2 c13)
          by_cases c14 : ((((⟨#[98, 121, 116, 101, 115, 32]⟩ : ByteArray) ++ t375) ++ (⟨#[45]⟩ : ByteArray)) ++ t376).size + 1 ≤ 9223372036854775807
          · rw [if_pos c14] at H
            have c14b0 := eq_true c14
            have c14b1 : decide (((((⟨#[98, 121, 116, 101, 115, 32]⟩ : ByteArray) ++ t375) ++ (⟨#[45]⟩ : ByteArray)) ++ t376).size + 1 ≤ 9223372036854775807) = true := decide_eq_true c14
            try (have c14n := c14; simp only [ByteArray.size_append, show (⟨#[45]⟩ : ByteArray).size = 1 from rfl, show (⟨#[98, 121, 116, 101, 115, 32]⟩ : ByteArray).size = 6 from rfl] at c14n; have c14b3 := eq_true c14n; have c14b4 := eq_false (Nat.not_lt.2 c14n); clear c14n)
            try have c14b2 : (9223372036854775807 < ((((⟨#[98, 121, 116, 101, 115, 32]⟩ : ByteArray) ++ t375) ++ (⟨#[45]⟩ : ByteArray)) ++ t376).size + 1) = False := eq_false (Nat.not_lt.2 c14)
            replace H := Option.bind_eq_some_iff.mp H
            obtain ⟨t377, A150, H⟩ := H
            replace H : (if (((((⟨#[98, 121, 116, 101, 115, 32]⟩ : ByteArray) ++ t375) ++ (⟨#[45]⟩ : ByteArray)) ++ t376) ++ (⟨#[47]⟩ : ByteArray)).size + t377.size ≤ 9223372036854775807 then (some ((((((⟨#[98, 121, 116, 101, 115, 32]⟩ : ByteArray) ++ t375) ++ (⟨#[45]⟩ : ByteArray)) ++ t376) ++ (⟨#[47]⟩ : ByteArray)) ++ t377)) else (none)) = some r := H
            have A15 := Aside0.mk A150
            clear A150
            by_cases c16 : (((((⟨#[98, 121, 116, 101, 115, 32]⟩ : ByteArray) ++ t375) ++ (⟨#[45]⟩ : ByteArray)) ++ t376) ++ (⟨#[47]⟩ : ByteArray)).size + t377.size ≤ 9223372036854775807
            · rw [if_pos c16] at H
              have c16b0 := eq_true c16
              have c16b1 : decide ((((((⟨#[98, 121, 116, 101, 115, 32]⟩ : ByteArray) ++ t375) ++ (⟨#[45]⟩ : ByteArray)) ++ t376) ++ (⟨#[47]⟩ : ByteArray)).size + t377.size ≤ 9223372036854775807) = true := decide_eq_true c16
              try (have c16n := c16; simp only [ByteArray.size_append, show (⟨#[45]⟩ : ByteArray).size = 1 from rfl, show (⟨#[47]⟩ : ByteArray).size = 1 from rfl, show (⟨#[98, 121, 116, 101, 115, 32]⟩ : ByteArray).size = 6 from rfl] at c16n; have c16b3 := eq_true c16n; have c16b4 := eq_false (Nat.not_lt.2 c16n); clear c16n)
              try have c16b2 : (9223372036854775807 < (((((⟨#[98, 121, 116, 101, 115, 32]⟩ : ByteArray) ++ t375) ++ (⟨#[45]⟩ : ByteArray)) ++ t376) ++ (⟨#[47]⟩ : ByteArray)).size + t377.size) = False := eq_false (Nat.not_lt.2 c16)
              obtain rfl := Option.some.inj H
              go_enter Tryz.func12, Tryz.ntmps12
              try go_wp2_with (first | ((with_reducible refine gate_dst (N := 2) rfl ?_); refine box_event ?hg (N := 2) ?hd (cs := #[.int .i64 a0_0, .int .i64 a0_1]) (t := 35) ?hr ?_; (case hd => rfl); (case hg => rfl); (case hr => first | (go_simp; done) | (go_simp; rfl)); intro gb373 hg w17 hbox hb; have n0_ := Aside0.mk (below_step (by repeat (first | (with_reducible first | exact HB.out | apply below_alloc | apply pw_below_drewN | apply below_drew1) | exact HB.out)) hb); have n1_ := Aside0.mk (hbox); have n2_ := Aside0.mk ((by rw [hg]; exact (below_size (by repeat (first | (with_reducible first | exact HB.out | apply below_alloc | apply pw_below_drewN | apply below_drew1) | exact HB.out))) : w.heap.size ≤ gb373)); have n3_ := Aside0.mk ((by rw [hg]; exact (below_size (by repeat (first | (with_reducible first | exact HB.out | apply below_alloc | apply pw_below_drewN | apply below_drew1) | exact HB.out))) : w.heap.size ≤ gb373)); clear HB; have HB := n0_; have BK373 := n1_; have GW373 := n2_; have GE373 := n3_; clear n0_ n1_ n2_ n3_; clear hb hbox hg; have hcz18_0 : w17.cell? ⟨gb373, 0, none⟩ = some (.int .i64 a0_0) := (blk_cell BK373.out 0).trans rfl; have hcz18_1 : w17.cell? ⟨gb373, 1, none⟩ = some (.int .i64 a0_1) := (blk_cell BK373.out 1).trans rfl; have hfz18_0 := blk_frozen BK373.out 0; have hfz18_1 := blk_frozen BK373.out 1))
              have n0_ := Aside0.mk (blk_drew BK373.out)
              have n1_ := Aside0.mk (below_drew1 HB.out)
              clear BK373
              clear HB
              have BK373 := n0_
              have HB := n1_
              clear n0_ n1_
              refine start_ (n := 15) (S := fun w' => w'.cell? ⟨gb373, 0, none⟩ = some (.int .i64 a0_0) ∧ w'.cell? ⟨gb373, 1, none⟩ = some (.int .i64 a0_1)) (ds := []) #[false, false, false, false, false, false, false, false, false, false, false, false, false, false, false] (by kernel_rfl) rfl rfl ⟨(blk_cell BK373.out 0).trans rfl, (blk_cell BK373.out 1).trans rfl⟩ (fun hHeld => ?_); refine with_tabW impl_FormatContentRange.tab3 impl_FormatContentRange.bits3 (fun HT_ HW_ => ?_)
              generalize w17.drew = w19 at BK373 HB hHeld ⊢
              refine pure_ (i := 0) (N := some 13) (v := ?_) (a' := ?_) #[true, false, false, false, false, false, false, false, false, false, false, false, false, false, false] rfl rfl (any_of HT_.out (by kernel_rfl)) (fun _ _ _ h => h) (Or.inl ⟨by rfl, ?_⟩) ?_ ?_
              rotate_left
              · intro w'
                go_simp
                with_reducible rfl
              rotate_left
              · simp only [Act.put, List.setIfInBounds_toArray, List.set_cons_zero, List.set_cons_succ, i64_w, i32_w]
                rfl
              refine pure_ (i := 5) (N := some 18) (v := ?_) (a' := ?_) #[true, false, false, false, false, true, false, false, false, false, false, false, false, false, false] rfl rfl (any_of HT_.out (by kernel_rfl)) (fun _ _ _ h => h) (Or.inl ⟨by rfl, ?_⟩) ?_ ?_
              rotate_left
              · intro w'
                go_simp
                with_reducible rfl
              rotate_left
              · simp only [Act.put, List.setIfInBounds_toArray, List.set_cons_zero, List.set_cons_succ, i64_w, i32_w]
                rfl
              refine pure_ (i := 11) (N := some 24) (v := ?_) (a' := ?_) #[true, false, false, false, false, true, false, false, false, false, false, true, false, false, false] rfl rfl (any_of HT_.out (by kernel_rfl)) (fun _ _ _ h => h) (Or.inl ⟨by rfl, ?_⟩) ?_ ?_
              rotate_left
              · intro w'
                go_simp
                with_reducible rfl
              rotate_left
              · simp only [Act.put, List.setIfInBounds_toArray, List.set_cons_zero, List.set_cons_succ, i64_w, i32_w]
                rfl
              refine take_ (i := 1) (N := some 14) (v := ?_) (a' := ?_) #[true, true, false, false, false, true, false, false, false, false, false, true, false, false, false] rfl rfl (take_ofW HT_.out HW_.out (by kernel_rfl)) (fun _ _ _ h => h) (Or.inl ⟨by rfl, ?_⟩) hHeld ?_ ?_
              rotate_left
              · rintro w' ⟨s0, s1⟩
                go_simp
                with_reducible rfl
              rotate_left
              · simp only [Act.put, List.setIfInBounds_toArray, List.set_cons_zero, List.set_cons_succ, i64_w, i32_w]
                rfl
              refine take_ (i := 6) (N := some 19) (v := ?_) (a' := ?_) #[true, true, false, false, false, true, true, false, false, false, false, true, false, false, false] rfl rfl (take_ofW HT_.out HW_.out (by kernel_rfl)) (fun _ _ _ h => h) (Or.inl ⟨by rfl, ?_⟩) hHeld ?_ ?_
              rotate_left
              · rintro w' ⟨s0, s1⟩
                go_simp
                with_reducible rfl
              rotate_left
              · simp only [Act.put, List.setIfInBounds_toArray, List.set_cons_zero, List.set_cons_succ, i64_w, i32_w]
                rfl
              refine pure_ (i := 7) (N := some 20) (v := ?_) (a' := ?_) #[true, true, false, false, false, true, true, true, false, false, false, true, false, false, false] rfl rfl (any_of HT_.out (by kernel_rfl)) (fun _ _ _ h => h) (Or.inl ⟨by rfl, ?_⟩) ?_ ?_
              rotate_left
              · intro w'
                go_simp
                with_reducible rfl
              rotate_left
              · simp only [Act.put, List.setIfInBounds_toArray, List.set_cons_zero, List.set_cons_succ, i64_w, i32_w]
                rfl
              refine one_ (i := 2) (N := some 15) #[true, true, true, false, false, true, true, true, false, false, false, true, false, false, false] rfl rfl (one_of HT_.out (by kernel_rfl)) (by decide) (fun K hK => ?_)
              refine goes_ Tryz.func25 (by kernel_rfl) rfl #[.int .i64 a0_0] (by rfl) rfl rfl (by (try simp only [List.map_toArray, List.map_cons, List.map_nil]); first | done | rfl | (simp only [List.length_drop, List.length_take]; rfl)) ?_
              with_reducible refine (impl_FormatInt.calls a0_0 t375 _ ?side1 A9.out).mono ?_
              (case side1 => exact Glob.below HG.out (by repeat (first | (with_reducible first | exact HB.out | apply below_alloc | apply pw_below_drewN | apply below_drew1 | refine below_set ?_ GE373.out) | exact HB.out)))
              rintro e w20 ⟨rfl, hb⟩
              refine ⟨_, rfl, ?_⟩
              have n0_ := Aside0.mk (blk_below (g := gb373) (o := .cells #[.int .i64 a0_0, .int .i64 a0_1] 35 (0, 0)) (by (with_reducible repeat (first | refine blk_drewN ?_ _ | refine blk_drew ?_ | refine blk_alloc ?_ _)); exact BK373.out) hb)
              have n1_ := Aside0.mk (below_step (by repeat (first | (with_reducible first | exact HB.out | apply below_alloc | apply pw_below_drewN | apply below_drew1 | refine below_set ?_ GE373.out) | exact HB.out)) hb)
              clear BK373
              clear HB
              have BK373 := n0_
              have HB := n1_
              clear n0_ n1_
              (try clear hb)
              (try clear hb2)
              (try clear hk)
              (try clear hi)
              refine hK.out _ _ ⟨(blk_cell BK373.out 0).trans rfl, (blk_cell BK373.out 1).trans rfl⟩ (fun hHeld => ?_)
              clear hK K
              refine norm_ (a' := ?_) ?_ ?_
              rotate_left
              · show Act.put _ (some 15) _ = _
                simp only [Act.put, List.setIfInBounds_toArray, List.set_cons_zero, List.set_cons_succ, i64_w, i32_w]
                rfl
              refine pure_ (i := 3) (N := some 16) (v := ?_) (a' := ?_) #[true, true, true, true, false, true, true, true, false, false, false, true, false, false, false] rfl rfl (any_of HT_.out (by kernel_rfl)) (fun _ _ _ h => h) (Or.inl ⟨by rfl, ?_⟩) ?_ ?_
              rotate_left
              · intro w'
                go_simp
                with_reducible rfl
              rotate_left
              · simp only [Act.put, List.setIfInBounds_toArray, List.set_cons_zero, List.set_cons_succ, i64_w, i32_w]
                rfl
              refine pure_ (i := 4) (N := some 17) (v := ?_) (a' := ?_) #[true, true, true, true, true, true, true, true, false, false, false, true, false, false, false] rfl rfl (any_of HT_.out (by kernel_rfl)) (fun _ _ _ h => h) (Or.inl ⟨by rfl, ?_⟩) ?_ ?_
              rotate_left
              · intro w'
                go_simp
                with_reducible rfl
              rotate_left
              · simp only [Act.put, List.setIfInBounds_toArray, List.set_cons_zero, List.set_cons_succ, i64_w, i32_w]
                rfl
              refine one_ (i := 8) (N := some 21) #[true, true, true, true, true, true, true, true, true, false, false, true, false, false, false] rfl rfl (one_of HT_.out (by kernel_rfl)) (by decide) (fun K hK => ?_)
              refine goes_ Tryz.func25 (by kernel_rfl) rfl #[.int .i64 (wrap64 (a0_1 - 1))] (by rfl) rfl rfl (by (try simp only [List.map_toArray, List.map_cons, List.map_nil]); first | done | rfl | (simp only [List.length_drop, List.length_take]; rfl)) ?_
              with_reducible refine (impl_FormatInt.calls (wrap64 (a0_1 - 1)) t376 _ ?side1 A12.out).mono ?_
              (case side1 => exact Glob.below HG.out (by repeat (first | (with_reducible first | exact HB.out | apply below_alloc | apply pw_below_drewN | apply below_drew1 | refine below_set ?_ GE373.out) | exact HB.out)))
              rintro e w21 ⟨rfl, hb⟩
              refine ⟨_, rfl, ?_⟩
              have n0_ := Aside0.mk (blk_below (g := gb373) (o := .cells #[.int .i64 a0_0, .int .i64 a0_1] 35 (0, 0)) (by (with_reducible repeat (first | refine blk_drewN ?_ _ | refine blk_drew ?_ | refine blk_alloc ?_ _)); exact BK373.out) hb)
              have n1_ := Aside0.mk (below_step (by repeat (first | (with_reducible first | exact HB.out | apply below_alloc | apply pw_below_drewN | apply below_drew1 | refine below_set ?_ GE373.out) | exact HB.out)) hb)
              clear BK373
              clear HB
              have BK373 := n0_
              have HB := n1_
              clear n0_ n1_
              (try clear hb)
              (try clear hb2)
              (try clear hk)
              (try clear hi)
              refine hK.out _ _ ⟨(blk_cell BK373.out 0).trans rfl, (blk_cell BK373.out 1).trans rfl⟩ (fun hHeld => ?_)
              clear hK K
              refine norm_ (a' := ?_) ?_ ?_
              rotate_left
              · show Act.put _ (some 21) _ = _
                simp only [Act.put, List.setIfInBounds_toArray, List.set_cons_zero, List.set_cons_succ, i64_w, i32_w]
                rfl
              refine pure_ (i := 9) (N := some 22) (v := ?_) (a' := ?_) #[true, true, true, true, true, true, true, true, true, true, false, true, false, false, false] rfl rfl (any_of HT_.out (by kernel_rfl)) (fun _ _ _ h => h) (Or.inl ⟨by rfl, ?_⟩) ?_ ?_
              rotate_left
              · intro w'
                go_simp
                with_reducible rfl
              rotate_left
              · simp only [Act.put, List.setIfInBounds_toArray, List.set_cons_zero, List.set_cons_succ, i64_w, i32_w]
                rfl
              refine pure_ (i := 10) (N := some 23) (v := ?_) (a' := ?_) #[true, true, true, true, true, true, true, true, true, true, true, true, false, false, false] rfl rfl (any_of HT_.out (by kernel_rfl)) (fun _ _ _ h => h) (Or.inl ⟨by rfl, ?_⟩) ?_ ?_
              rotate_left
              · intro w'
                go_simp
                with_reducible rfl
              rotate_left
              · simp only [Act.put, List.setIfInBounds_toArray, List.set_cons_zero, List.set_cons_succ, i64_w, i32_w]
                rfl
              refine one_ (i := 12) (N := some 25) #[true, true, true, true, true, true, true, true, true, true, true, true, true, false, false] rfl rfl (one_of HT_.out (by kernel_rfl)) (by decide) (fun K hK => ?_)
              refine goes_ Tryz.func25 (by kernel_rfl) rfl #[.int .i64 a1] (by rfl) rfl rfl (by (try simp only [List.map_toArray, List.map_cons, List.map_nil]); first | done | rfl | (simp only [List.length_drop, List.length_take]; rfl)) ?_
              with_reducible refine (impl_FormatInt.calls a1 t377 _ ?side1 A15.out).mono ?_
              (case side1 => exact Glob.below HG.out (by repeat (first | (with_reducible first | exact HB.out | apply below_alloc | apply pw_below_drewN | apply below_drew1 | refine below_set ?_ GE373.out) | exact HB.out)))
              rintro e w22 ⟨rfl, hb⟩
              refine ⟨_, rfl, ?_⟩
              have n0_ := Aside0.mk (blk_below (g := gb373) (o := .cells #[.int .i64 a0_0, .int .i64 a0_1] 35 (0, 0)) (by (with_reducible repeat (first | refine blk_drewN ?_ _ | refine blk_drew ?_ | refine blk_alloc ?_ _)); exact BK373.out) hb)
              have n1_ := Aside0.mk (below_step (by repeat (first | (with_reducible first | exact HB.out | apply below_alloc | apply pw_below_drewN | apply below_drew1 | refine below_set ?_ GE373.out) | exact HB.out)) hb)
              clear BK373
              clear HB
              have BK373 := n0_
              have HB := n1_
              clear n0_ n1_
              (try clear hb)
              (try clear hb2)
              (try clear hk)
              (try clear hi)
              refine hK.out _ _ ⟨(blk_cell BK373.out 0).trans rfl, (blk_cell BK373.out 1).trans rfl⟩ (fun hHeld => ?_)
              clear hK K
              refine norm_ (a' := ?_) ?_ ?_
              rotate_left
              · show Act.put _ (some 25) _ = _
                simp only [Act.put, List.setIfInBounds_toArray, List.set_cons_zero, List.set_cons_succ, i64_w, i32_w]
                rfl
              refine pure_ (i := 13) (N := some 26) (v := ?_) (a' := ?_) #[true, true, true, true, true, true, true, true, true, true, true, true, true, true, false] rfl rfl (any_of HT_.out (by kernel_rfl)) (fun _ _ _ h => h) (Or.inl ⟨by rfl, ?_⟩) ?_ ?_
              rotate_left
              · intro w'
                go_simp
                with_reducible rfl
              rotate_left
              · simp only [Act.put, List.setIfInBounds_toArray, List.set_cons_zero, List.set_cons_succ, i64_w, i32_w]
                rfl
              refine pure_ (i := 14) (N := some 4) (v := ?_) (a' := ?_) #[true, true, true, true, true, true, true, true, true, true, true, true, true, true, true] rfl rfl (any_of HT_.out (by kernel_rfl)) (fun _ _ _ h => h) (Or.inl ⟨by rfl, ?_⟩) ?_ ?_
              rotate_left
              · intro w'
                go_simp
                with_reducible rfl
              rotate_left
              · simp only [Act.put, List.setIfInBounds_toArray, List.set_cons_zero, List.set_cons_succ, i64_w, i32_w]
                rfl
              refine done_ (done_of HT_.out (by kernel_rfl)) ?_
              try go_wp2
              go_ret
              exact ⟨by first | rfl | (simp [errW_none, errW_some] <;> rfl) | (simp [*, errW_none, errW_some] <;> rfl), by repeat (first | (with_reducible first | exact HB.out | apply below_alloc | apply pw_below_drewN | apply below_drew1 | refine below_set ?_ GE373.out) | exact HB.out)⟩
            · rw [if_neg c16] at H
              exact absurd H (by simp)
          · rw [if_neg c14] at H
            exact absurd H (by simp)
        · rw [if_neg c13] at H
          exact absurd H (by simp)
      · rw [if_neg c11] at H
        exact absurd H (by simp)
    · rw [if_neg c10] at H
      exact absurd H (by simp)

end Go.Proofs.YtlboepkphddacabGreatDoor.RFnRanges
