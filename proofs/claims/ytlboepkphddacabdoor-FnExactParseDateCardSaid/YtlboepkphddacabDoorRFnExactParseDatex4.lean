/- What the Go functions that the law FnExactParseDate reaches answer: for each one a Lean function, and the proof that its call comes to what that function says. Conditions: those that each theorem states. Written by a program. -/
import Derived.Test.YtlboepkphddacabDoorRFnExactParseDatex0
import Derived.Test.YtlboepkphddacabDoorRFnExactParseDatex1
import Derived.Test.YtlboepkphddacabDoorRFnExactParseDatex3
namespace Go.Proofs.YtlboepkphddacabDoor.RFnExactParseDate
open Go.RowKit Go.Proofs.YtlboepkphddacabDoorW.PrintWords Go.Proofs.YtlboepkphddacabDoorW.PrintLast Go.Proofs.YtlboepkphddacabDoorW.PrintMore
attribute [local go_sem] max2_int min2_int max_two min_two max_three min_three max_four min_four   -- for this text's walks alone
set_option linter.unusedVariables false
set_option linter.unusedSimpArgs false

/-! ### spec_ParseDate: function 8 -/
mutual
def spec_ParseDate.j0 : Nat → ByteArray → Int → Int → Int → Int → Option (Int × Bool)
  | 0, _, _, _, _, _ => none
  | k + 1, x0, x5, x6, x7, x8 => (spec_DaysOf.f k x5 x6 x7).bind fun t193 => (if t193 < 0 then (some (0, false)) else ((spec_l3Two.f x0 x8).bind fun t194 => ((spec_l3Two.f x0 (wrap64 (x8 + 3))).bind fun t195 => ((spec_l3Two.f x0 (wrap64 (x8 + 6))).bind fun t196 => ((spec_l1In.f (wrap64 ((wrap64 ((wrap64 ((wrap64 (86400 * t193)) + (wrap64 (3600 * t194)))) + (wrap64 (60 * t195)))) + t196)) 0 4102444799).bind fun t197 => (if t197 = true then ((spec_l3Forms.f k (wrap64 ((wrap64 ((wrap64 ((wrap64 (86400 * t193)) + (wrap64 (3600 * t194)))) + (wrap64 (60 * t195)))) + t196))).bind fun t198 => (spec_ParseDate.l0 k x0 (wrap64 ((wrap64 ((wrap64 ((wrap64 (86400 * t193)) + (wrap64 (3600 * t194)))) + (wrap64 (60 * t195)))) + t196)) t198 0)) else (some (0, false))))))))
def spec_ParseDate.l0 : Nat → ByteArray → Int → List ByteArray → Int → Option (Int × Bool)
  | 0, _, _, _, _ => none
  | k + 1, x0, x10, x11, x12 => if x12 < (x11.length : Int) then (if 0 ≤ x12 then (if (rdOf ByteArray.empty x11 x12).toList = x0.toList then (some (x10, true)) else (spec_ParseDate.l0 k x0 x10 x11 (wrap64 (x12 + 1)))) else (none)) else (some (0, false))
end
def spec_ParseDate.f (k : Nat) (a0 : ByteArray) : Option (Int × Bool) := if (a0.size : Int) = 29 then ((spec_l3Two.f a0 12).bind fun t179 => ((spec_l3Two.f a0 14).bind fun t180 => ((spec_l3Month.f k a0 8).bind fun t181 => ((spec_l3Two.f a0 5).bind fun t182 => (spec_ParseDate.j0 k a0 (wrap64 ((wrap64 (100 * t179)) + t180)) t181 t182 17))))) else (if (a0.size : Int) = 24 then ((spec_l3Two.f a0 20).bind fun t183 => ((spec_l3Two.f a0 22).bind fun t184 => ((spec_l3Month.f k a0 4).bind fun t185 => ((spec_l3Two.f a0 8).bind fun t186 => (if 8 < (a0.size : Int) then (if (bt a0 8) = 32 then (if 9 < (a0.size : Int) then (spec_ParseDate.j0 k a0 (wrap64 ((wrap64 (100 * t183)) + t184)) t185 (wrap64 ((wrap64 (bt a0 9)) - 48)) 11) else (none)) else (spec_ParseDate.j0 k a0 (wrap64 ((wrap64 (100 * t183)) + t184)) t185 t186 11)) else (none)))))) else ((spec_l1In.f (a0.size : Int) 30 33).bind fun t187 => (if t187 = true then ((spec_l3Two.f a0 (wrap64 ((a0.size : Int) - 15))).bind fun t188 => (if (wrap64 (1900 + t188)) < 1970 then ((spec_l3Month.f k a0 (wrap64 ((a0.size : Int) - 19))).bind fun t189 => ((spec_l3Two.f a0 (wrap64 ((a0.size : Int) - 22))).bind fun t190 => (spec_ParseDate.j0 k a0 (wrap64 ((wrap64 (1900 + t188)) + 100)) t189 t190 (wrap64 ((a0.size : Int) - 12))))) else ((spec_l3Month.f k a0 (wrap64 ((a0.size : Int) - 19))).bind fun t191 => ((spec_l3Two.f a0 (wrap64 ((a0.size : Int) - 22))).bind fun t192 => (spec_ParseDate.j0 k a0 (wrap64 (1900 + t188)) t191 t192 (wrap64 ((a0.size : Int) - 12))))))) else (spec_ParseDate.j0 k a0 0 0 0 0))))
theorem spec_ParseDate.mono_l : ∀ k, (∀ y0 y1 y2 y3 y4, LeO (spec_ParseDate.j0 k y0 y1 y2 y3 y4) (spec_ParseDate.j0 (k + 1) y0 y1 y2 y3 y4)) ∧ (∀ y0 y1 y2 y3, LeO (spec_ParseDate.l0 k y0 y1 y2 y3) (spec_ParseDate.l0 (k + 1) y0 y1 y2 y3))
  | 0 => ⟨fun _ _ _ _ _ r h => by simp [spec_ParseDate.j0] at h, fun _ _ _ _ r h => by simp [spec_ParseDate.l0] at h⟩
  | k + 1 => by
    obtain ⟨ih0, ih1⟩ := spec_ParseDate.mono_l k
    refine ⟨?_, ?_⟩
    · intro y0 y1 y2 y3 y4
      unfold spec_ParseDate.j0
      repeat' first
      | (with_reducible exact ih0 _ _ _ _ _)
      | (with_reducible exact ih1 _ _ _ _)
      | (with_reducible exact spec_DaysOf.mono _ _ _ _)
      | (with_reducible exact spec_l3Forms.mono _ _)
      | (with_reducible exact spec_l3Month.mono _ _ _)
      | (with_reducible exact LeO.refl _)
      | (with_reducible exact LeO.none _)
      | (with_reducible refine LeO.ite ?_ ?_)
      | (with_reducible refine LeO.bind ?_ (fun _ => ?_))
      | exact ih0 _ _ _ _ _
      | exact ih1 _ _ _ _
      | exact spec_DaysOf.mono _ _ _ _
      | exact spec_l3Forms.mono _ _
      | exact spec_l3Month.mono _ _ _
      | exact LeO.none _
      | refine LeO.ite ?_ ?_
      | refine LeO.bind ?_ (fun _ => ?_)
    · intro y0 y1 y2 y3
      unfold spec_ParseDate.l0
      repeat' first
      | (with_reducible exact ih0 _ _ _ _ _)
      | (with_reducible exact ih1 _ _ _ _)
      | (with_reducible exact spec_DaysOf.mono _ _ _ _)
      | (with_reducible exact spec_l3Forms.mono _ _)
      | (with_reducible exact spec_l3Month.mono _ _ _)
      | (with_reducible exact LeO.refl _)
      | (with_reducible exact LeO.none _)
      | (with_reducible refine LeO.ite ?_ ?_)
      | (with_reducible refine LeO.bind ?_ (fun _ => ?_))
      | exact ih0 _ _ _ _ _
      | exact ih1 _ _ _ _
      | exact spec_DaysOf.mono _ _ _ _
      | exact spec_l3Forms.mono _ _
      | exact spec_l3Month.mono _ _ _
      | exact LeO.none _
      | refine LeO.ite ?_ ?_
      | refine LeO.bind ?_ (fun _ => ?_)
theorem spec_ParseDate.mono : ∀ a0 k, LeO (spec_ParseDate.f k a0) (spec_ParseDate.f (k + 1) a0) := by
  intro a0 k
  obtain ⟨ih0, ih1⟩ := spec_ParseDate.mono_l k
  unfold spec_ParseDate.f
  repeat' first
      | (with_reducible exact ih0 _ _ _ _ _)
      | (with_reducible exact ih1 _ _ _ _)
      | (with_reducible exact spec_DaysOf.mono _ _ _ _)
      | (with_reducible exact spec_l3Forms.mono _ _)
      | (with_reducible exact spec_l3Month.mono _ _ _)
      | (with_reducible exact LeO.refl _)
      | (with_reducible exact LeO.none _)
      | (with_reducible refine LeO.ite ?_ ?_)
      | (with_reducible refine LeO.bind ?_ (fun _ => ?_))
      | exact ih0 _ _ _ _ _
      | exact ih1 _ _ _ _
      | exact spec_DaysOf.mono _ _ _ _
      | exact spec_l3Forms.mono _ _
      | exact spec_l3Month.mono _ _ _
      | exact LeO.none _
      | refine LeO.ite ?_ ?_
      | refine LeO.bind ?_ (fun _ => ?_)
set_option maxHeartbeats 8000000 in
set_option maxRecDepth 100000 in
theorem spec_ParseDate.calls (k : Nat) (a0 : ByteArray) (r1 : Int) (r2 : Bool) (w : World) (h : spec_ParseDate.f k a0 = some (r1, r2)) :
    Calls Tryd.prog 8 #[.string a0] w fun e w' => e = .returned (.tuple #[.int .i64 r1, .bool r2]) ∧ Below w.heap.size w w' := by
  have HB := Aside0.mk (Below.refl w.heap.size w)
  have H : (if (a0.size : Int) = 29 then ((spec_l3Two.f a0 12).bind fun t179 => ((spec_l3Two.f a0 14).bind fun t180 => ((spec_l3Month.f k a0 8).bind fun t181 => ((spec_l3Two.f a0 5).bind fun t182 => (spec_ParseDate.j0 k a0 (wrap64 ((wrap64 (100 * t179)) + t180)) t181 t182 17))))) else (if (a0.size : Int) = 24 then ((spec_l3Two.f a0 20).bind fun t183 => ((spec_l3Two.f a0 22).bind fun t184 => ((spec_l3Month.f k a0 4).bind fun t185 => ((spec_l3Two.f a0 8).bind fun t186 => (if 8 < (a0.size : Int) then (if (bt a0 8) = 32 then (if 9 < (a0.size : Int) then (spec_ParseDate.j0 k a0 (wrap64 ((wrap64 (100 * t183)) + t184)) t185 (wrap64 ((wrap64 (bt a0 9)) - 48)) 11) else (none)) else (spec_ParseDate.j0 k a0 (wrap64 ((wrap64 (100 * t183)) + t184)) t185 t186 11)) else (none)))))) else ((spec_l1In.f (a0.size : Int) 30 33).bind fun t187 => (if t187 = true then ((spec_l3Two.f a0 (wrap64 ((a0.size : Int) - 15))).bind fun t188 => (if (wrap64 (1900 + t188)) < 1970 then ((spec_l3Month.f k a0 (wrap64 ((a0.size : Int) - 19))).bind fun t189 => ((spec_l3Two.f a0 (wrap64 ((a0.size : Int) - 22))).bind fun t190 => (spec_ParseDate.j0 k a0 (wrap64 ((wrap64 (1900 + t188)) + 100)) t189 t190 (wrap64 ((a0.size : Int) - 12))))) else ((spec_l3Month.f k a0 (wrap64 ((a0.size : Int) - 19))).bind fun t191 => ((spec_l3Two.f a0 (wrap64 ((a0.size : Int) - 22))).bind fun t192 => (spec_ParseDate.j0 k a0 (wrap64 (1900 + t188)) t191 t192 (wrap64 ((a0.size : Int) - 12))))))) else (spec_ParseDate.j0 k a0 0 0 0 0))))) = some (r1, r2) := h
  clear h
  have HC2 := Aside0.mk H
  clear H
  go_enter Tryd.func8, Tryd.ntmps8
  go_upto_block 0 with (fail)
  go_cut [5, 6, 7, 8] (fun v5 v6 v7 v8 wc => ∃ (kq : Nat) (x5_1 : Int) (x6_1 : Int) (x7_1 : Int) (x8_1 : Int), v5 = .int .i64 x5_1 ∧ v6 = .int .i64 x6_1 ∧ v7 = .int .i64 x7_1 ∧ v8 = .int .i64 x8_1 ∧ Aside0 (spec_ParseDate.j0 kq a0 x5_1 x6_1 x7_1 x8_1 = some (r1, r2)) ∧ Aside0 (kq ≤ k) ∧ Aside0 (Below w.heap.size w wc))
  case first =>
    have H := HC2.out
    clear HC2
    by_cases c3 : (a0.size : Int) = 29
    · rw [if_pos c3] at H
      have c3b0 : ((a0.size : Int) == 29) = true := beq_iff_eq.mpr c3
      have c3b1 : ((a0.size : Int) != 29) = false := bne_eq_false_iff_eq.mpr c3
      clear c3
      (first | rw [c3b0] | (simp only [i64_w, i32_w]; rw [c3b0]) | skip)
      replace H := Option.bind_eq_some_iff.mp H
      obtain ⟨t179, A40, H⟩ := H
      replace H : ((spec_l3Two.f a0 14).bind fun t180 => ((spec_l3Month.f k a0 8).bind fun t181 => ((spec_l3Two.f a0 5).bind fun t182 => (spec_ParseDate.j0 k a0 (wrap64 ((wrap64 (100 * t179)) + t180)) t181 t182 17)))) = some (r1, r2) := H
      have A4 := Aside0.mk A40
      clear A40
      replace H := Option.bind_eq_some_iff.mp H
      obtain ⟨t180, A50, H⟩ := H
      replace H : ((spec_l3Month.f k a0 8).bind fun t181 => ((spec_l3Two.f a0 5).bind fun t182 => (spec_ParseDate.j0 k a0 (wrap64 ((wrap64 (100 * t179)) + t180)) t181 t182 17))) = some (r1, r2) := H
      have A5 := Aside0.mk A50
      clear A50
      replace H := Option.bind_eq_some_iff.mp H
      obtain ⟨t181, A60, H⟩ := H
      replace H : ((spec_l3Two.f a0 5).bind fun t182 => (spec_ParseDate.j0 k a0 (wrap64 ((wrap64 (100 * t179)) + t180)) t181 t182 17)) = some (r1, r2) := H
      have A6 := Aside0.mk A60
      clear A60
      replace H := Option.bind_eq_some_iff.mp H
      obtain ⟨t182, A70, H⟩ := H
      replace H : (spec_ParseDate.j0 k a0 (wrap64 ((wrap64 (100 * t179)) + t180)) t181 t182 17) = some (r1, r2) := H
      have A7 := Aside0.mk A70
      clear A70
      have H' := Aside0.mk H
      clear H
      go_wp2_with (first | ((with_reducible refine gate_callee (f := 38) rfl ?_); refine goesL_ (some 19) rfl rfl Tryd.func38 (by kernel_rfl) rfl #[.string a0, .int .i64 12] rfl (by (try simp only [List.map_toArray, List.map_cons, List.map_nil]); first | done | rfl | (simp only [List.length_drop, List.length_take]; rfl) | (simp; repeat' first | rfl | constructor)) ?_; (with_reducible refine (spec_l3Two.calls a0 12 t179 _ A4.out).mono ?_); rintro e w' ⟨rfl, ⟨nd, rfl⟩⟩; refine ⟨_, rfl, ?_⟩) | ((with_reducible refine gate_callee (f := 38) rfl ?_); refine goesL_ (some 22) rfl rfl Tryd.func38 (by kernel_rfl) rfl #[.string a0, .int .i64 14] rfl (by (try simp only [List.map_toArray, List.map_cons, List.map_nil]); first | done | rfl | (simp only [List.length_drop, List.length_take]; rfl) | (simp; repeat' first | rfl | constructor)) ?_; (with_reducible refine (spec_l3Two.calls a0 14 t180 _ A5.out).mono ?_); rintro e w' ⟨rfl, ⟨nd, rfl⟩⟩; refine ⟨_, rfl, ?_⟩) | ((with_reducible refine gate_callee (f := 39) rfl ?_); refine goesL_ (some 25) rfl rfl Tryd.func39 (by kernel_rfl) rfl #[.string a0, .int .i64 8] rfl (by (try simp only [List.map_toArray, List.map_cons, List.map_nil]); first | done | rfl | (simp only [List.length_drop, List.length_take]; rfl) | (simp; repeat' first | rfl | constructor)) ?_; (with_reducible refine (spec_l3Month.calls k a0 8 t181 _ A6.out).mono ?_); rintro e w8 ⟨rfl, hb⟩; refine ⟨_, rfl, ?_⟩; have n0_ := Aside0.mk (below_step (by repeat (first | (with_reducible first | exact HB.out | apply below_alloc | apply pw_below_drewN | apply below_drew1) | exact HB.out)) hb); clear HB; have HB := n0_; clear n0_; (try clear hb); (try clear hb2); (try clear hk); (try clear hi)) | ((with_reducible refine gate_callee (f := 38) rfl ?_); refine goesL_ (some 27) rfl rfl Tryd.func38 (by kernel_rfl) rfl #[.string a0, .int .i64 5] rfl (by (try simp only [List.map_toArray, List.map_cons, List.map_nil]); first | done | rfl | (simp only [List.length_drop, List.length_take]; rfl) | (simp; repeat' first | rfl | constructor)) ?_; (with_reducible refine (spec_l3Two.calls a0 5 t182 _ A7.out).mono ?_); rintro e w' ⟨rfl, ⟨nd, rfl⟩⟩; refine ⟨_, rfl, ?_⟩))
      go_meet
      case rel => exact ⟨_, (wrap64 ((wrap64 (100 * t179)) + t180)), (t181), (t182), (17), (by first | rfl | (simp; done) | (simp [*]; done)), (by first | rfl | (simp; done) | (simp [*]; done)), (by first | rfl | (simp; done) | (simp [*]; done)), (by first | rfl | (simp; done) | (simp [*]; done)), H', ⟨by first | omega | exact Nat.le_refl _⟩, ⟨by repeat (first | (with_reducible first | exact HB.out | apply below_alloc | apply pw_below_drewN | apply below_drew1) | exact HB.out)⟩⟩
    · rw [if_neg c3] at H
      have c3b0 : ((a0.size : Int) == 29) = false := beq_eq_false_iff_ne.mpr c3
      have c3b1 : ((a0.size : Int) != 29) = true := bne_iff_ne.mpr c3
      (first | rw [c3b0] | (simp only [i64_w, i32_w]; rw [c3b0]) | skip)
      by_cases c9 : (a0.size : Int) = 24
      · rw [if_pos c9] at H
        have c9b0 : ((a0.size : Int) == 24) = true := beq_iff_eq.mpr c9
        have c9b1 : ((a0.size : Int) != 24) = false := bne_eq_false_iff_eq.mpr c9
        clear c9
        replace H := Option.bind_eq_some_iff.mp H
        obtain ⟨t183, A100, H⟩ := H
        replace H : ((spec_l3Two.f a0 22).bind fun t184 => ((spec_l3Month.f k a0 4).bind fun t185 => ((spec_l3Two.f a0 8).bind fun t186 => (if 8 < (a0.size : Int) then (if (bt a0 8) = 32 then (if 9 < (a0.size : Int) then (spec_ParseDate.j0 k a0 (wrap64 ((wrap64 (100 * t183)) + t184)) t185 (wrap64 ((wrap64 (bt a0 9)) - 48)) 11) else (none)) else (spec_ParseDate.j0 k a0 (wrap64 ((wrap64 (100 * t183)) + t184)) t185 t186 11)) else (none))))) = some (r1, r2) := H
        have A10 := Aside0.mk A100
        clear A100
        replace H := Option.bind_eq_some_iff.mp H
        obtain ⟨t184, A110, H⟩ := H
        replace H : ((spec_l3Month.f k a0 4).bind fun t185 => ((spec_l3Two.f a0 8).bind fun t186 => (if 8 < (a0.size : Int) then (if (bt a0 8) = 32 then (if 9 < (a0.size : Int) then (spec_ParseDate.j0 k a0 (wrap64 ((wrap64 (100 * t183)) + t184)) t185 (wrap64 ((wrap64 (bt a0 9)) - 48)) 11) else (none)) else (spec_ParseDate.j0 k a0 (wrap64 ((wrap64 (100 * t183)) + t184)) t185 t186 11)) else (none)))) = some (r1, r2) := H
        have A11 := Aside0.mk A110
        clear A110
        replace H := Option.bind_eq_some_iff.mp H
        obtain ⟨t185, A120, H⟩ := H
        replace H : ((spec_l3Two.f a0 8).bind fun t186 => (if 8 < (a0.size : Int) then (if (bt a0 8) = 32 then (if 9 < (a0.size : Int) then (spec_ParseDate.j0 k a0 (wrap64 ((wrap64 (100 * t183)) + t184)) t185 (wrap64 ((wrap64 (bt a0 9)) - 48)) 11) else (none)) else (spec_ParseDate.j0 k a0 (wrap64 ((wrap64 (100 * t183)) + t184)) t185 t186 11)) else (none))) = some (r1, r2) := H
        have A12 := Aside0.mk A120
        clear A120
        replace H := Option.bind_eq_some_iff.mp H
        obtain ⟨t186, A130, H⟩ := H
        replace H : (if 8 < (a0.size : Int) then (if (bt a0 8) = 32 then (if 9 < (a0.size : Int) then (spec_ParseDate.j0 k a0 (wrap64 ((wrap64 (100 * t183)) + t184)) t185 (wrap64 ((wrap64 (bt a0 9)) - 48)) 11) else (none)) else (spec_ParseDate.j0 k a0 (wrap64 ((wrap64 (100 * t183)) + t184)) t185 t186 11)) else (none)) = some (r1, r2) := H
        have A13 := Aside0.mk A130
        clear A130
        by_cases c14 : 8 < (a0.size : Int)
        · rw [if_pos c14] at H
          have c14b0 : decide (8 < (a0.size : Int)) = true := decide_eq_true c14
          have c14b1 : decide (8 < a0.size) = true := decide_eq_true (by omega)
          clear c14
          by_cases c16 : (bt a0 8) = 32
          · rw [if_pos c16] at H
            have c16b0 : ((bt a0 8) == 32) = true := beq_iff_eq.mpr c16
            have c16b1 : ((bt a0 8) != 32) = false := bne_eq_false_iff_eq.mpr c16
            clear c16
            by_cases c17 : 9 < (a0.size : Int)
            · rw [if_pos c17] at H
              have c17b0 : decide (9 < (a0.size : Int)) = true := decide_eq_true c17
              have c17b1 : decide (9 < a0.size) = true := decide_eq_true (by omega)
              clear c17
              have H' := Aside0.mk H
              clear H
              go_wp2_with (first | ((with_reducible refine gate_callee (f := 38) rfl ?_); refine goesL_ (some 32) rfl rfl Tryd.func38 (by kernel_rfl) rfl #[.string a0, .int .i64 20] rfl (by (try simp only [List.map_toArray, List.map_cons, List.map_nil]); first | done | rfl | (simp only [List.length_drop, List.length_take]; rfl) | (simp; repeat' first | rfl | constructor)) ?_; (with_reducible refine (spec_l3Two.calls a0 20 t183 _ A10.out).mono ?_); rintro e w' ⟨rfl, ⟨nd, rfl⟩⟩; refine ⟨_, rfl, ?_⟩) | ((with_reducible refine gate_callee (f := 38) rfl ?_); refine goesL_ (some 35) rfl rfl Tryd.func38 (by kernel_rfl) rfl #[.string a0, .int .i64 22] rfl (by (try simp only [List.map_toArray, List.map_cons, List.map_nil]); first | done | rfl | (simp only [List.length_drop, List.length_take]; rfl) | (simp; repeat' first | rfl | constructor)) ?_; (with_reducible refine (spec_l3Two.calls a0 22 t184 _ A11.out).mono ?_); rintro e w' ⟨rfl, ⟨nd, rfl⟩⟩; refine ⟨_, rfl, ?_⟩) | ((with_reducible refine gate_callee (f := 39) rfl ?_); refine goesL_ (some 38) rfl rfl Tryd.func39 (by kernel_rfl) rfl #[.string a0, .int .i64 4] rfl (by (try simp only [List.map_toArray, List.map_cons, List.map_nil]); first | done | rfl | (simp only [List.length_drop, List.length_take]; rfl) | (simp; repeat' first | rfl | constructor)) ?_; (with_reducible refine (spec_l3Month.calls k a0 4 t185 _ A12.out).mono ?_); rintro e w19 ⟨rfl, hb⟩; refine ⟨_, rfl, ?_⟩; have n0_ := Aside0.mk (below_step (by repeat (first | (with_reducible first | exact HB.out | apply below_alloc | apply pw_below_drewN | apply below_drew1) | exact HB.out)) hb); clear HB; have HB := n0_; clear n0_; (try clear hb); (try clear hb2); (try clear hk); (try clear hi)) | ((with_reducible refine gate_callee (f := 38) rfl ?_); refine goesL_ (some 40) rfl rfl Tryd.func38 (by kernel_rfl) rfl #[.string a0, .int .i64 8] rfl (by (try simp only [List.map_toArray, List.map_cons, List.map_nil]); first | done | rfl | (simp only [List.length_drop, List.length_take]; rfl) | (simp; repeat' first | rfl | constructor)) ?_; (with_reducible refine (spec_l3Two.calls a0 8 t186 _ A13.out).mono ?_); rintro e w' ⟨rfl, ⟨nd, rfl⟩⟩; refine ⟨_, rfl, ?_⟩; have p15 : 0 ≤ (8 : Int) := (by omega); have q15 : 8 < a0.size := (by have : (8 : Int) < (a0.size : Int) := of_decide_eq_true (by first | (with_reducible assumption) | assumption); omega); have hx15 : ∀ h : 8 < a0.size, ((a0[8]'h).toNat : Int) = bt a0 8 := bt_at a0 8; clear p15; have qi15 : (8 < (a0.size : Int)) = True := eq_true (of_decide_eq_true (by first | (with_reducible assumption) | assumption)); replace q15 := eq_true q15; have p18 : 0 ≤ (9 : Int) := (by omega); have q18 : 9 < a0.size := (by have : (9 : Int) < (a0.size : Int) := of_decide_eq_true (by first | (with_reducible assumption) | assumption); omega); have hx18 : ∀ h : 9 < a0.size, ((a0[9]'h).toNat : Int) = bt a0 9 := bt_at a0 9; clear p18; have qi18 : (9 < (a0.size : Int)) = True := eq_true (of_decide_eq_true (by first | (with_reducible assumption) | assumption)); replace q18 := eq_true q18))
              go_meet
              case rel => exact ⟨_, (wrap64 ((wrap64 (100 * t183)) + t184)), (t185), (wrap64 ((wrap64 (bt a0 9)) - 48)), (11), (by first | rfl | (simp; done) | (simp [*]; done)), (by first | rfl | (simp; done) | (simp [*]; done)), (by first | rfl | (simp; done) | (simp [*]; done)), (by first | rfl | (simp; done) | (simp [*]; done)), H', ⟨by first | omega | exact Nat.le_refl _⟩, ⟨by repeat (first | (with_reducible first | exact HB.out | apply below_alloc | apply pw_below_drewN | apply below_drew1) | exact HB.out)⟩⟩
            · rw [if_neg c17] at H
              exact absurd H (by simp)
          · rw [if_neg c16] at H
            have c16b0 : ((bt a0 8) == 32) = false := beq_eq_false_iff_ne.mpr c16
            have c16b1 : ((bt a0 8) != 32) = true := bne_iff_ne.mpr c16
            have H' := Aside0.mk H
            clear H
            go_wp2_with (first | ((with_reducible refine gate_callee (f := 38) rfl ?_); refine goesL_ (some 32) rfl rfl Tryd.func38 (by kernel_rfl) rfl #[.string a0, .int .i64 20] rfl (by (try simp only [List.map_toArray, List.map_cons, List.map_nil]); first | done | rfl | (simp only [List.length_drop, List.length_take]; rfl) | (simp; repeat' first | rfl | constructor)) ?_; (with_reducible refine (spec_l3Two.calls a0 20 t183 _ A10.out).mono ?_); rintro e w' ⟨rfl, ⟨nd, rfl⟩⟩; refine ⟨_, rfl, ?_⟩) | ((with_reducible refine gate_callee (f := 38) rfl ?_); refine goesL_ (some 35) rfl rfl Tryd.func38 (by kernel_rfl) rfl #[.string a0, .int .i64 22] rfl (by (try simp only [List.map_toArray, List.map_cons, List.map_nil]); first | done | rfl | (simp only [List.length_drop, List.length_take]; rfl) | (simp; repeat' first | rfl | constructor)) ?_; (with_reducible refine (spec_l3Two.calls a0 22 t184 _ A11.out).mono ?_); rintro e w' ⟨rfl, ⟨nd, rfl⟩⟩; refine ⟨_, rfl, ?_⟩) | ((with_reducible refine gate_callee (f := 39) rfl ?_); refine goesL_ (some 38) rfl rfl Tryd.func39 (by kernel_rfl) rfl #[.string a0, .int .i64 4] rfl (by (try simp only [List.map_toArray, List.map_cons, List.map_nil]); first | done | rfl | (simp only [List.length_drop, List.length_take]; rfl) | (simp; repeat' first | rfl | constructor)) ?_; (with_reducible refine (spec_l3Month.calls k a0 4 t185 _ A12.out).mono ?_); rintro e w20 ⟨rfl, hb⟩; refine ⟨_, rfl, ?_⟩; have n0_ := Aside0.mk (below_step (by repeat (first | (with_reducible first | exact HB.out | apply below_alloc | apply pw_below_drewN | apply below_drew1) | exact HB.out)) hb); clear HB; have HB := n0_; clear n0_; (try clear hb); (try clear hb2); (try clear hk); (try clear hi)) | ((with_reducible refine gate_callee (f := 38) rfl ?_); refine goesL_ (some 40) rfl rfl Tryd.func38 (by kernel_rfl) rfl #[.string a0, .int .i64 8] rfl (by (try simp only [List.map_toArray, List.map_cons, List.map_nil]); first | done | rfl | (simp only [List.length_drop, List.length_take]; rfl) | (simp; repeat' first | rfl | constructor)) ?_; (with_reducible refine (spec_l3Two.calls a0 8 t186 _ A13.out).mono ?_); rintro e w' ⟨rfl, ⟨nd, rfl⟩⟩; refine ⟨_, rfl, ?_⟩; have p15 : 0 ≤ (8 : Int) := (by omega); have q15 : 8 < a0.size := (by have : (8 : Int) < (a0.size : Int) := of_decide_eq_true (by first | (with_reducible assumption) | assumption); omega); have hx15 : ∀ h : 8 < a0.size, ((a0[8]'h).toNat : Int) = bt a0 8 := bt_at a0 8; clear p15; have qi15 : (8 < (a0.size : Int)) = True := eq_true (of_decide_eq_true (by first | (with_reducible assumption) | assumption)); replace q15 := eq_true q15))
            go_meet
            case rel => exact ⟨_, (wrap64 ((wrap64 (100 * t183)) + t184)), (t185), (t186), (11), (by first | rfl | (simp; done) | (simp [*]; done)), (by first | rfl | (simp; done) | (simp [*]; done)), (by first | rfl | (simp; done) | (simp [*]; done)), (by first | rfl | (simp; done) | (simp [*]; done)), H', ⟨by first | omega | exact Nat.le_refl _⟩, ⟨by repeat (first | (with_reducible first | exact HB.out | apply below_alloc | apply pw_below_drewN | apply below_drew1) | exact HB.out)⟩⟩
        · rw [if_neg c14] at H
          exact absurd H (by simp)
      · rw [if_neg c9] at H
        have c9b0 : ((a0.size : Int) == 24) = false := beq_eq_false_iff_ne.mpr c9
        have c9b1 : ((a0.size : Int) != 24) = true := bne_iff_ne.mpr c9
        replace H := Option.bind_eq_some_iff.mp H
        obtain ⟨t187, A210, H⟩ := H
        replace H : (if t187 = true then ((spec_l3Two.f a0 (wrap64 ((a0.size : Int) - 15))).bind fun t188 => (if (wrap64 (1900 + t188)) < 1970 then ((spec_l3Month.f k a0 (wrap64 ((a0.size : Int) - 19))).bind fun t189 => ((spec_l3Two.f a0 (wrap64 ((a0.size : Int) - 22))).bind fun t190 => (spec_ParseDate.j0 k a0 (wrap64 ((wrap64 (1900 + t188)) + 100)) t189 t190 (wrap64 ((a0.size : Int) - 12))))) else ((spec_l3Month.f k a0 (wrap64 ((a0.size : Int) - 19))).bind fun t191 => ((spec_l3Two.f a0 (wrap64 ((a0.size : Int) - 22))).bind fun t192 => (spec_ParseDate.j0 k a0 (wrap64 (1900 + t188)) t191 t192 (wrap64 ((a0.size : Int) - 12))))))) else (spec_ParseDate.j0 k a0 0 0 0 0)) = some (r1, r2) := H
        have A21 := Aside0.mk A210
        clear A210
        by_cases c22 : t187 = true
        · subst c22
          have H1 : ((spec_l3Two.f a0 (wrap64 ((a0.size : Int) - 15))).bind fun t188 => (if (wrap64 (1900 + t188)) < 1970 then ((spec_l3Month.f k a0 (wrap64 ((a0.size : Int) - 19))).bind fun t189 => ((spec_l3Two.f a0 (wrap64 ((a0.size : Int) - 22))).bind fun t190 => (spec_ParseDate.j0 k a0 (wrap64 ((wrap64 (1900 + t188)) + 100)) t189 t190 (wrap64 ((a0.size : Int) - 12))))) else ((spec_l3Month.f k a0 (wrap64 ((a0.size : Int) - 19))).bind fun t191 => ((spec_l3Two.f a0 (wrap64 ((a0.size : Int) - 22))).bind fun t192 => (spec_ParseDate.j0 k a0 (wrap64 (1900 + t188)) t191 t192 (wrap64 ((a0.size : Int) - 12))))))) = some (r1, r2) := by rw [if_pos rfl] at H; exact H
          clear H
          have H := H1
          clear H1
          replace H := Option.bind_eq_some_iff.mp H
          obtain ⟨t188, A230, H⟩ := H
          replace H : (if (wrap64 (1900 + t188)) < 1970 then ((spec_l3Month.f k a0 (wrap64 ((a0.size : Int) - 19))).bind fun t189 => ((spec_l3Two.f a0 (wrap64 ((a0.size : Int) - 22))).bind fun t190 => (spec_ParseDate.j0 k a0 (wrap64 ((wrap64 (1900 + t188)) + 100)) t189 t190 (wrap64 ((a0.size : Int) - 12))))) else ((spec_l3Month.f k a0 (wrap64 ((a0.size : Int) - 19))).bind fun t191 => ((spec_l3Two.f a0 (wrap64 ((a0.size : Int) - 22))).bind fun t192 => (spec_ParseDate.j0 k a0 (wrap64 (1900 + t188)) t191 t192 (wrap64 ((a0.size : Int) - 12)))))) = some (r1, r2) := H
          have A23 := Aside0.mk A230
          clear A230
          by_cases c24 : (wrap64 (1900 + t188)) < 1970
          · rw [if_pos c24] at H
            have c24b0 : decide ((wrap64 (1900 + t188)) < 1970) = true := decide_eq_true c24
            clear c24
            replace H := Option.bind_eq_some_iff.mp H
            obtain ⟨t189, A250, H⟩ := H
            replace H : ((spec_l3Two.f a0 (wrap64 ((a0.size : Int) - 22))).bind fun t190 => (spec_ParseDate.j0 k a0 (wrap64 ((wrap64 (1900 + t188)) + 100)) t189 t190 (wrap64 ((a0.size : Int) - 12)))) = some (r1, r2) := H
            have A25 := Aside0.mk A250
            clear A250
            replace H := Option.bind_eq_some_iff.mp H
            obtain ⟨t190, A260, H⟩ := H
            replace H : (spec_ParseDate.j0 k a0 (wrap64 ((wrap64 (1900 + t188)) + 100)) t189 t190 (wrap64 ((a0.size : Int) - 12))) = some (r1, r2) := H
            have A26 := Aside0.mk A260
            clear A260
            have H' := Aside0.mk H
            clear H
            go_wp2_with (first | ((with_reducible refine gate_callee (f := 40) rfl ?_); refine goesL_ (some 50) rfl rfl Tryd.func40 (by kernel_rfl) rfl #[.int .i64 (a0.size : Int), .int .i64 30, .int .i64 33] rfl (by (try simp only [List.map_toArray, List.map_cons, List.map_nil]); first | done | rfl | (simp only [List.length_drop, List.length_take]; rfl) | (simp; repeat' first | rfl | constructor)) ?_; (with_reducible refine (spec_l1In.calls (a0.size : Int) 30 33 true _ A21.out).mono ?_); rintro e w' ⟨rfl, ⟨nd, rfl⟩⟩; refine ⟨_, rfl, ?_⟩) | ((with_reducible refine gate_callee (f := 38) rfl ?_); refine goesL_ (some 54) rfl rfl Tryd.func38 (by kernel_rfl) rfl #[.string a0, .int .i64 (wrap64 ((a0.size : Int) - 15))] rfl (by (try simp only [List.map_toArray, List.map_cons, List.map_nil]); first | done | rfl | (simp only [List.length_drop, List.length_take]; rfl) | (simp; repeat' first | rfl | constructor)) ?_; (with_reducible refine (spec_l3Two.calls a0 (wrap64 ((a0.size : Int) - 15)) t188 _ A23.out).mono ?_); rintro e w' ⟨rfl, ⟨nd, rfl⟩⟩; refine ⟨_, rfl, ?_⟩) | ((with_reducible refine gate_callee (f := 39) rfl ?_); refine goesL_ (some 63) rfl rfl Tryd.func39 (by kernel_rfl) rfl #[.string a0, .int .i64 (wrap64 ((a0.size : Int) - 19))] rfl (by (try simp only [List.map_toArray, List.map_cons, List.map_nil]); first | done | rfl | (simp only [List.length_drop, List.length_take]; rfl) | (simp; repeat' first | rfl | constructor)) ?_; (with_reducible refine (spec_l3Month.calls k a0 (wrap64 ((a0.size : Int) - 19)) t189 _ A25.out).mono ?_); rintro e w27 ⟨rfl, hb⟩; refine ⟨_, rfl, ?_⟩; have n0_ := Aside0.mk (below_step (by repeat (first | (with_reducible first | exact HB.out | apply below_alloc | apply pw_below_drewN | apply below_drew1) | exact HB.out)) hb); clear HB; have HB := n0_; clear n0_; (try clear hb); (try clear hb2); (try clear hk); (try clear hi)) | ((with_reducible refine gate_callee (f := 38) rfl ?_); refine goesL_ (some 67) rfl rfl Tryd.func38 (by kernel_rfl) rfl #[.string a0, .int .i64 (wrap64 ((a0.size : Int) - 22))] rfl (by (try simp only [List.map_toArray, List.map_cons, List.map_nil]); first | done | rfl | (simp only [List.length_drop, List.length_take]; rfl) | (simp; repeat' first | rfl | constructor)) ?_; (with_reducible refine (spec_l3Two.calls a0 (wrap64 ((a0.size : Int) - 22)) t190 _ A26.out).mono ?_); rintro e w' ⟨rfl, ⟨nd, rfl⟩⟩; refine ⟨_, rfl, ?_⟩))
            go_meet
            case rel => exact ⟨_, (wrap64 ((wrap64 (1900 + t188)) + 100)), (t189), (t190), (wrap64 ((a0.size : Int) - 12)), (by first | rfl | (simp; done) | (simp [*]; done)), (by first | rfl | (simp; done) | (simp [*]; done)), (by first | rfl | (simp; done) | (simp [*]; done)), (by first | rfl | (simp; done) | (simp [*]; done)), H', ⟨by first | omega | exact Nat.le_refl _⟩, ⟨by repeat (first | (with_reducible first | exact HB.out | apply below_alloc | apply pw_below_drewN | apply below_drew1) | exact HB.out)⟩⟩
          · rw [if_neg c24] at H
            have c24b0 : decide ((wrap64 (1900 + t188)) < 1970) = false := decide_eq_false c24
            clear c24
            replace H := Option.bind_eq_some_iff.mp H
            obtain ⟨t191, A280, H⟩ := H
            replace H : ((spec_l3Two.f a0 (wrap64 ((a0.size : Int) - 22))).bind fun t192 => (spec_ParseDate.j0 k a0 (wrap64 (1900 + t188)) t191 t192 (wrap64 ((a0.size : Int) - 12)))) = some (r1, r2) := H
            have A28 := Aside0.mk A280
            clear A280
            replace H := Option.bind_eq_some_iff.mp H
            obtain ⟨t192, A290, H⟩ := H
            replace H : (spec_ParseDate.j0 k a0 (wrap64 (1900 + t188)) t191 t192 (wrap64 ((a0.size : Int) - 12))) = some (r1, r2) := H
            have A29 := Aside0.mk A290
            clear A290
            have H' := Aside0.mk H
            clear H
            go_wp2_with (first | ((with_reducible refine gate_callee (f := 40) rfl ?_); refine goesL_ (some 50) rfl rfl Tryd.func40 (by kernel_rfl) rfl #[.int .i64 (a0.size : Int), .int .i64 30, .int .i64 33] rfl (by (try simp only [List.map_toArray, List.map_cons, List.map_nil]); first | done | rfl | (simp only [List.length_drop, List.length_take]; rfl) | (simp; repeat' first | rfl | constructor)) ?_; (with_reducible refine (spec_l1In.calls (a0.size : Int) 30 33 true _ A21.out).mono ?_); rintro e w' ⟨rfl, ⟨nd, rfl⟩⟩; refine ⟨_, rfl, ?_⟩) | ((with_reducible refine gate_callee (f := 38) rfl ?_); refine goesL_ (some 54) rfl rfl Tryd.func38 (by kernel_rfl) rfl #[.string a0, .int .i64 (wrap64 ((a0.size : Int) - 15))] rfl (by (try simp only [List.map_toArray, List.map_cons, List.map_nil]); first | done | rfl | (simp only [List.length_drop, List.length_take]; rfl) | (simp; repeat' first | rfl | constructor)) ?_; (with_reducible refine (spec_l3Two.calls a0 (wrap64 ((a0.size : Int) - 15)) t188 _ A23.out).mono ?_); rintro e w' ⟨rfl, ⟨nd, rfl⟩⟩; refine ⟨_, rfl, ?_⟩) | ((with_reducible refine gate_callee (f := 39) rfl ?_); refine goesL_ (some 63) rfl rfl Tryd.func39 (by kernel_rfl) rfl #[.string a0, .int .i64 (wrap64 ((a0.size : Int) - 19))] rfl (by (try simp only [List.map_toArray, List.map_cons, List.map_nil]); first | done | rfl | (simp only [List.length_drop, List.length_take]; rfl) | (simp; repeat' first | rfl | constructor)) ?_; (with_reducible refine (spec_l3Month.calls k a0 (wrap64 ((a0.size : Int) - 19)) t191 _ A28.out).mono ?_); rintro e w30 ⟨rfl, hb⟩; refine ⟨_, rfl, ?_⟩; have n0_ := Aside0.mk (below_step (by repeat (first | (with_reducible first | exact HB.out | apply below_alloc | apply pw_below_drewN | apply below_drew1) | exact HB.out)) hb); clear HB; have HB := n0_; clear n0_; (try clear hb); (try clear hb2); (try clear hk); (try clear hi)) | ((with_reducible refine gate_callee (f := 38) rfl ?_); refine goesL_ (some 67) rfl rfl Tryd.func38 (by kernel_rfl) rfl #[.string a0, .int .i64 (wrap64 ((a0.size : Int) - 22))] rfl (by (try simp only [List.map_toArray, List.map_cons, List.map_nil]); first | done | rfl | (simp only [List.length_drop, List.length_take]; rfl) | (simp; repeat' first | rfl | constructor)) ?_; (with_reducible refine (spec_l3Two.calls a0 (wrap64 ((a0.size : Int) - 22)) t192 _ A29.out).mono ?_); rintro e w' ⟨rfl, ⟨nd, rfl⟩⟩; refine ⟨_, rfl, ?_⟩))
            go_meet
            case rel => exact ⟨_, (wrap64 (1900 + t188)), (t191), (t192), (wrap64 ((a0.size : Int) - 12)), (by first | rfl | (simp; done) | (simp [*]; done)), (by first | rfl | (simp; done) | (simp [*]; done)), (by first | rfl | (simp; done) | (simp [*]; done)), (by first | rfl | (simp; done) | (simp [*]; done)), H', ⟨by first | omega | exact Nat.le_refl _⟩, ⟨by repeat (first | (with_reducible first | exact HB.out | apply below_alloc | apply pw_below_drewN | apply below_drew1) | exact HB.out)⟩⟩
        · replace c22 := Bool.eq_false_iff.mpr c22
          subst c22
          have H1 : (spec_ParseDate.j0 k a0 0 0 0 0) = some (r1, r2) := by rw [if_neg (show ¬ (false = true) by decide)] at H; exact H
          clear H
          have H := H1
          clear H1
          have H' := Aside0.mk H
          clear H
          go_wp2_with (first | ((with_reducible refine gate_callee (f := 40) rfl ?_); refine goesL_ (some 50) rfl rfl Tryd.func40 (by kernel_rfl) rfl #[.int .i64 (a0.size : Int), .int .i64 30, .int .i64 33] rfl (by (try simp only [List.map_toArray, List.map_cons, List.map_nil]); first | done | rfl | (simp only [List.length_drop, List.length_take]; rfl) | (simp; repeat' first | rfl | constructor)) ?_; (with_reducible refine (spec_l1In.calls (a0.size : Int) 30 33 false _ A21.out).mono ?_); rintro e w' ⟨rfl, ⟨nd, rfl⟩⟩; refine ⟨_, rfl, ?_⟩))
          go_meet
          case rel => exact ⟨_, (0), (0), (0), (0), (by first | rfl | (simp; done) | (simp [*]; done)), (by first | rfl | (simp; done) | (simp [*]; done)), (by first | rfl | (simp; done) | (simp [*]; done)), (by first | rfl | (simp; done) | (simp [*]; done)), H', ⟨by first | omega | exact Nat.le_refl _⟩, ⟨by repeat (first | (with_reducible first | exact HB.out | apply below_alloc | apply pw_below_drewN | apply below_drew1) | exact HB.out)⟩⟩
  case rest =>
    clear HC2
    try clear c1
    try clear p1
    try clear q1
    try clear hx1
    try clear qi1
    try clear c2
    try clear p2
    try clear c3
    try clear c3b0
    try clear c3b1
    try clear c4
    try clear p6
    try clear c8
    try clear c9
    try clear c9b0
    try clear c9b1
    try clear c14
    try clear c14b0
    try clear c14b1
    try clear p15
    try clear q15
    try clear hx15
    try clear qi15
    try clear c16
    try clear c16b0
    try clear c16b1
    try clear c17
    try clear c17b0
    try clear c17b1
    try clear p18
    try clear q18
    try clear hx18
    try clear qi18
    try clear c22
    try clear c24
    try clear c24b0
    try clear p15
    try clear p18
    try clear q15
    try clear q18
    obtain ⟨kq, x5_1, x6_1, x7_1, x8_1, rfl, rfl, rfl, rfl, HA, HJ1, HB⟩ := hcut
    cases kq with
    | zero => exact absurd HA.out (by simp [spec_ParseDate.j0])
    | succ kj1 =>
      have H := HA.out
      clear HA
      simp only [spec_ParseDate.j0] at H
      replace H := Option.bind_eq_some_iff.mp H
      obtain ⟨t193, A310, H⟩ := H
      replace H : (if t193 < 0 then (some (0, false)) else ((spec_l3Two.f a0 x8_1).bind fun t194 => ((spec_l3Two.f a0 (wrap64 (x8_1 + 3))).bind fun t195 => ((spec_l3Two.f a0 (wrap64 (x8_1 + 6))).bind fun t196 => ((spec_l1In.f (wrap64 ((wrap64 ((wrap64 ((wrap64 (86400 * t193)) + (wrap64 (3600 * t194)))) + (wrap64 (60 * t195)))) + t196)) 0 4102444799).bind fun t197 => (if t197 = true then ((spec_l3Forms.f kj1 (wrap64 ((wrap64 ((wrap64 ((wrap64 (86400 * t193)) + (wrap64 (3600 * t194)))) + (wrap64 (60 * t195)))) + t196))).bind fun t198 => (spec_ParseDate.l0 kj1 a0 (wrap64 ((wrap64 ((wrap64 ((wrap64 (86400 * t193)) + (wrap64 (3600 * t194)))) + (wrap64 (60 * t195)))) + t196)) t198 0)) else (some (0, false)))))))) = some (r1, r2) := H
      have A31 := Aside0.mk A310
      clear A310
      by_cases c32 : t193 < 0
      · rw [if_pos c32] at H
        have c32b0 : decide (t193 < 0) = true := decide_eq_true c32
        clear c32
        simp only [Option.some.injEq, Prod.mk.injEq] at H
        obtain ⟨rfl, rfl⟩ := H
        go_wp2_with (first | ((with_reducible refine gate_callee (f := 41) rfl ?_); refine goesL_ (some 73) rfl rfl Tryd.func41 (by kernel_rfl) rfl #[.int .i64 x5_1, .int .i64 x6_1, .int .i64 x7_1] rfl (by (try simp only [List.map_toArray, List.map_cons, List.map_nil]); first | done | rfl | (simp only [List.length_drop, List.length_take]; rfl) | (simp; repeat' first | rfl | constructor)) ?_; (with_reducible refine (spec_DaysOf.calls kj1 x5_1 x6_1 x7_1 t193 _ A31.out).mono ?_); rintro e w33 ⟨rfl, hb⟩; refine ⟨_, rfl, ?_⟩; have n0_ := Aside0.mk (below_step (by repeat (first | (with_reducible first | exact HB.out | apply below_alloc | apply pw_below_drewN | apply below_drew1) | exact HB.out)) hb); clear HB; have HB := n0_; clear n0_; (try clear hb); (try clear hb2); (try clear hk); (try clear hi)))
        go_ret2
        exact ⟨by first | rfl | (simp [errW_none, errW_some] <;> rfl) | (simp [*, errW_none, errW_some] <;> rfl), by repeat (first | (with_reducible first | exact HB.out | apply below_alloc | apply pw_below_drewN | apply below_drew1) | exact HB.out)⟩
      · rw [if_neg c32] at H
        have c32b0 : decide (t193 < 0) = false := decide_eq_false c32
        clear c32
        replace H := Option.bind_eq_some_iff.mp H
        obtain ⟨t194, A340, H⟩ := H
        replace H : ((spec_l3Two.f a0 (wrap64 (x8_1 + 3))).bind fun t195 => ((spec_l3Two.f a0 (wrap64 (x8_1 + 6))).bind fun t196 => ((spec_l1In.f (wrap64 ((wrap64 ((wrap64 ((wrap64 (86400 * t193)) + (wrap64 (3600 * t194)))) + (wrap64 (60 * t195)))) + t196)) 0 4102444799).bind fun t197 => (if t197 = true then ((spec_l3Forms.f kj1 (wrap64 ((wrap64 ((wrap64 ((wrap64 (86400 * t193)) + (wrap64 (3600 * t194)))) + (wrap64 (60 * t195)))) + t196))).bind fun t198 => (spec_ParseDate.l0 kj1 a0 (wrap64 ((wrap64 ((wrap64 ((wrap64 (86400 * t193)) + (wrap64 (3600 * t194)))) + (wrap64 (60 * t195)))) + t196)) t198 0)) else (some (0, false)))))) = some (r1, r2) := H
        have A34 := Aside0.mk A340
        clear A340
        replace H := Option.bind_eq_some_iff.mp H
        obtain ⟨t195, A350, H⟩ := H
        replace H : ((spec_l3Two.f a0 (wrap64 (x8_1 + 6))).bind fun t196 => ((spec_l1In.f (wrap64 ((wrap64 ((wrap64 ((wrap64 (86400 * t193)) + (wrap64 (3600 * t194)))) + (wrap64 (60 * t195)))) + t196)) 0 4102444799).bind fun t197 => (if t197 = true then ((spec_l3Forms.f kj1 (wrap64 ((wrap64 ((wrap64 ((wrap64 (86400 * t193)) + (wrap64 (3600 * t194)))) + (wrap64 (60 * t195)))) + t196))).bind fun t198 => (spec_ParseDate.l0 kj1 a0 (wrap64 ((wrap64 ((wrap64 ((wrap64 (86400 * t193)) + (wrap64 (3600 * t194)))) + (wrap64 (60 * t195)))) + t196)) t198 0)) else (some (0, false))))) = some (r1, r2) := H
        have A35 := Aside0.mk A350
        clear A350
        replace H := Option.bind_eq_some_iff.mp H
        obtain ⟨t196, A360, H⟩ := H
        replace H : ((spec_l1In.f (wrap64 ((wrap64 ((wrap64 ((wrap64 (86400 * t193)) + (wrap64 (3600 * t194)))) + (wrap64 (60 * t195)))) + t196)) 0 4102444799).bind fun t197 => (if t197 = true then ((spec_l3Forms.f kj1 (wrap64 ((wrap64 ((wrap64 ((wrap64 (86400 * t193)) + (wrap64 (3600 * t194)))) + (wrap64 (60 * t195)))) + t196))).bind fun t198 => (spec_ParseDate.l0 kj1 a0 (wrap64 ((wrap64 ((wrap64 ((wrap64 (86400 * t193)) + (wrap64 (3600 * t194)))) + (wrap64 (60 * t195)))) + t196)) t198 0)) else (some (0, false)))) = some (r1, r2) := H
        have A36 := Aside0.mk A360
        clear A360
        replace H := Option.bind_eq_some_iff.mp H
        obtain ⟨t197, A370, H⟩ := H
        replace H : (if t197 = true then ((spec_l3Forms.f kj1 (wrap64 ((wrap64 ((wrap64 ((wrap64 (86400 * t193)) + (wrap64 (3600 * t194)))) + (wrap64 (60 * t195)))) + t196))).bind fun t198 => (spec_ParseDate.l0 kj1 a0 (wrap64 ((wrap64 ((wrap64 ((wrap64 (86400 * t193)) + (wrap64 (3600 * t194)))) + (wrap64 (60 * t195)))) + t196)) t198 0)) else (some (0, false))) = some (r1, r2) := H
        have A37 := Aside0.mk A370
        clear A370
        by_cases c38 : t197 = true
        · subst c38
          have H1 : ((spec_l3Forms.f kj1 (wrap64 ((wrap64 ((wrap64 ((wrap64 (86400 * t193)) + (wrap64 (3600 * t194)))) + (wrap64 (60 * t195)))) + t196))).bind fun t198 => (spec_ParseDate.l0 kj1 a0 (wrap64 ((wrap64 ((wrap64 ((wrap64 (86400 * t193)) + (wrap64 (3600 * t194)))) + (wrap64 (60 * t195)))) + t196)) t198 0)) = some (r1, r2) := by rw [if_pos rfl] at H; exact H
          clear H
          have H := H1
          clear H1
          replace H := Option.bind_eq_some_iff.mp H
          obtain ⟨t198, A390, H⟩ := H
          replace H : (spec_ParseDate.l0 kj1 a0 (wrap64 ((wrap64 ((wrap64 ((wrap64 (86400 * t193)) + (wrap64 (3600 * t194)))) + (wrap64 (60 * t195)))) + t196)) t198 0) = some (r1, r2) := H
          have A39 := Aside0.mk A390
          clear A390
          have H' := Aside0.mk H
          clear H
          go_wp2_with (first | ((with_reducible refine gate_callee (f := 41) rfl ?_); refine goesL_ (some 73) rfl rfl Tryd.func41 (by kernel_rfl) rfl #[.int .i64 x5_1, .int .i64 x6_1, .int .i64 x7_1] rfl (by (try simp only [List.map_toArray, List.map_cons, List.map_nil]); first | done | rfl | (simp only [List.length_drop, List.length_take]; rfl) | (simp; repeat' first | rfl | constructor)) ?_; (with_reducible refine (spec_DaysOf.calls kj1 x5_1 x6_1 x7_1 t193 _ A31.out).mono ?_); rintro e w40 ⟨rfl, hb⟩; refine ⟨_, rfl, ?_⟩; have n0_ := Aside0.mk (below_step (by repeat (first | (with_reducible first | exact HB.out | apply below_alloc | apply pw_below_drewN | apply below_drew1) | exact HB.out)) hb); clear HB; have HB := n0_; clear n0_; (try clear hb); (try clear hb2); (try clear hk); (try clear hi)) | ((with_reducible refine gate_callee (f := 38) rfl ?_); refine goesL_ (some 80) rfl rfl Tryd.func38 (by kernel_rfl) rfl #[.string a0, .int .i64 x8_1] rfl (by (try simp only [List.map_toArray, List.map_cons, List.map_nil]); first | done | rfl | (simp only [List.length_drop, List.length_take]; rfl) | (simp; repeat' first | rfl | constructor)) ?_; (with_reducible refine (spec_l3Two.calls a0 x8_1 t194 _ A34.out).mono ?_); rintro e w' ⟨rfl, ⟨nd, rfl⟩⟩; refine ⟨_, rfl, ?_⟩) | ((with_reducible refine gate_callee (f := 38) rfl ?_); refine goesL_ (some 86) rfl rfl Tryd.func38 (by kernel_rfl) rfl #[.string a0, .int .i64 (wrap64 (x8_1 + 3))] rfl (by (try simp only [List.map_toArray, List.map_cons, List.map_nil]); first | done | rfl | (simp only [List.length_drop, List.length_take]; rfl) | (simp; repeat' first | rfl | constructor)) ?_; (with_reducible refine (spec_l3Two.calls a0 (wrap64 (x8_1 + 3)) t195 _ A35.out).mono ?_); rintro e w' ⟨rfl, ⟨nd, rfl⟩⟩; refine ⟨_, rfl, ?_⟩) | ((with_reducible refine gate_callee (f := 38) rfl ?_); refine goesL_ (some 92) rfl rfl Tryd.func38 (by kernel_rfl) rfl #[.string a0, .int .i64 (wrap64 (x8_1 + 6))] rfl (by (try simp only [List.map_toArray, List.map_cons, List.map_nil]); first | done | rfl | (simp only [List.length_drop, List.length_take]; rfl) | (simp; repeat' first | rfl | constructor)) ?_; (with_reducible refine (spec_l3Two.calls a0 (wrap64 (x8_1 + 6)) t196 _ A36.out).mono ?_); rintro e w' ⟨rfl, ⟨nd, rfl⟩⟩; refine ⟨_, rfl, ?_⟩) | ((with_reducible refine gate_callee (f := 40) rfl ?_); refine goesL_ (some 95) rfl rfl Tryd.func40 (by kernel_rfl) rfl #[.int .i64 (wrap64 ((wrap64 ((wrap64 ((wrap64 (86400 * t193)) + (wrap64 (3600 * t194)))) + (wrap64 (60 * t195)))) + t196)), .int .i64 0, .int .i64 4102444799] rfl (by (try simp only [List.map_toArray, List.map_cons, List.map_nil]); first | done | rfl | (simp only [List.length_drop, List.length_take]; rfl) | (simp; repeat' first | rfl | constructor)) ?_; (with_reducible refine (spec_l1In.calls (wrap64 ((wrap64 ((wrap64 ((wrap64 (86400 * t193)) + (wrap64 (3600 * t194)))) + (wrap64 (60 * t195)))) + t196)) 0 4102444799 true _ A37.out).mono ?_); rintro e w' ⟨rfl, ⟨nd, rfl⟩⟩; refine ⟨_, rfl, ?_⟩) | ((with_reducible refine gate_callee (f := 42) rfl ?_); refine goesL_ (some 98) rfl rfl Tryd.func42 (by kernel_rfl) rfl #[.int .i64 (wrap64 ((wrap64 ((wrap64 ((wrap64 (86400 * t193)) + (wrap64 (3600 * t194)))) + (wrap64 (60 * t195)))) + t196))] rfl (by (try simp only [List.map_toArray, List.map_cons, List.map_nil]); first | done | rfl | (simp only [List.length_drop, List.length_take]; rfl) | (simp; repeat' first | rfl | constructor)) ?_; (with_reducible refine (spec_l3Forms.calls kj1 (wrap64 ((wrap64 ((wrap64 ((wrap64 (86400 * t193)) + (wrap64 (3600 * t194)))) + (wrap64 (60 * t195)))) + t196)) t198 _ A39.out).mono ?_); rintro e w41 ⟨v199, rfl, ho0, hb⟩; refine ⟨_, rfl, ?_⟩; have n0_ := Aside0.mk (Kd.R_lower ho0 (below_size (by repeat (first | (with_reducible first | exact HB.out | apply below_alloc | apply pw_below_drewN | apply below_drew1) | exact HB.out)))); have n1_ := Aside0.mk (below_step (by repeat (first | (with_reducible first | exact HB.out | apply below_alloc | apply pw_below_drewN | apply below_drew1) | exact HB.out)) hb); clear HB; have HO200 := n0_; have HB := n1_; clear n0_ n1_; (try clear hb); (try clear hb2); (try clear hk); (try clear hi); (try clear ho0)))
          go_loopg [12] kj1 (fun kq v12 w' => ∃ (x12_2 : Int), v12 = .int .i64 x12_2 ∧ Aside0 (spec_ParseDate.l0 kq a0 (wrap64 ((wrap64 ((wrap64 ((wrap64 (86400 * t193)) + (wrap64 (3600 * t194)))) + (wrap64 (60 * t195)))) + t196)) t198 x12_2 = some (r1, r2)) ∧ Aside0 (kq ≤ kj1) ∧ Aside0 (Kd.R Kd.string 9 w' w.heap.size (fun _ => True) v199 t198) ∧ Aside0 (Below w.heap.size w w'))
          case atStart => exact ⟨(0), (by first | rfl | (simp; done) | (simp [*]; done)), H', ⟨Nat.le_refl _⟩, ⟨by (with_reducible repeat (first | apply Kd.R_alloc | apply Kd.R_drewN | apply Kd.R_drew)); exact HO200.out⟩, ⟨by repeat (first | (with_reducible first | exact HB.out | apply below_alloc | apply pw_below_drewN | apply below_drew1) | exact HB.out)⟩⟩
          case round =>
            clear H'
            try clear c1
            try clear p1
            try clear q1
            try clear hx1
            try clear qi1
            try clear c2
            try clear p2
            try clear c3
            try clear c3b0
            try clear c3b1
            try clear c4
            try clear p6
            try clear c8
            try clear c9
            try clear c9b0
            try clear c9b1
            try clear c14
            try clear c14b0
            try clear c14b1
            try clear p15
            try clear q15
            try clear hx15
            try clear qi15
            try clear c16
            try clear c16b0
            try clear c16b1
            try clear c17
            try clear c17b0
            try clear c17b1
            try clear p18
            try clear q18
            try clear hx18
            try clear qi18
            try clear c22
            try clear c24
            try clear c24b0
            try clear c32
            try clear c32b0
            try clear c38
            try clear c39
            try clear c40
            try clear c41
            try clear p1
            try clear p15
            try clear p18
            try clear p2
            try clear p6
            try clear q1
            try clear q15
            try clear q18
            obtain ⟨x12_2, rfl, HA, HK2, HO_11, HB⟩ := hrel
            cases gk with
            | zero => exact absurd HA.out (by simp [spec_ParseDate.l0])
            | succ k2 =>
              have H := HA.out
              clear HA
              simp only [spec_ParseDate.l0] at H
              by_cases c42 : x12_2 < (t198.length : Int)
              · rw [if_pos c42] at H
                have c42b0 : decide (x12_2 < (t198.length : Int)) = true := decide_eq_true c42
                clear c42
                by_cases c43 : 0 ≤ x12_2
                · rw [if_pos c43] at H
                  have c43b0 : decide (0 ≤ x12_2) = true := decide_eq_true c43
                  clear c43
                  by_cases c44 : (rdOf ByteArray.empty t198 x12_2).toList = a0.toList
                  · rw [if_pos c44] at H
                    have c44b0 : ((rdOf ByteArray.empty t198 x12_2).toList == a0.toList) = true := beq_iff_eq.mpr c44
                    have c44b1 : ((rdOf ByteArray.empty t198 x12_2).toList != a0.toList) = false := bne_eq_false_iff_eq.mpr c44
                    clear c44
                    simp only [Option.some.injEq, Prod.mk.injEq] at H
                    obtain ⟨rfl, rfl⟩ := H
                    obtain ⟨Ao45, co45, eo45⟩ := Kd.R_slice HO_11.out
                    subst eo45
                    have p201 : 0 ≤ (x12_2 : Int) := of_decide_eq_true (by first | (with_reducible assumption) | assumption)
                    have q201 : x12_2 < (t198.length : Int) := of_decide_eq_true (by first | (with_reducible assumption) | assumption)
                    obtain ⟨ad201, e201, hx201_0⟩ := Kd.at_string (Kd.R_reads' HO_11.out).2.2 x12_2 p201 q201
                    cases e201
                    replace p201 := eq_true p201
                    replace q201 := eq_true q201
                    go_wp2
                    go_ret2
                    exact ⟨by first | rfl | (simp [errW_none, errW_some] <;> rfl) | (simp [*, errW_none, errW_some] <;> rfl), by repeat (first | (with_reducible first | exact HB.out | apply below_alloc | apply pw_below_drewN | apply below_drew1) | exact HB.out)⟩
                  · rw [if_neg c44] at H
                    have c44b0 : ((rdOf ByteArray.empty t198 x12_2).toList == a0.toList) = false := beq_eq_false_iff_ne.mpr c44
                    have c44b1 : ((rdOf ByteArray.empty t198 x12_2).toList != a0.toList) = true := bne_iff_ne.mpr c44
                    have H' := Aside0.mk H
                    clear H
                    obtain ⟨Ao46, co46, eo46⟩ := Kd.R_slice HO_11.out
                    subst eo46
                    have p201 : 0 ≤ (x12_2 : Int) := of_decide_eq_true (by first | (with_reducible assumption) | assumption)
                    have q201 : x12_2 < (t198.length : Int) := of_decide_eq_true (by first | (with_reducible assumption) | assumption)
                    obtain ⟨ad201, e201, hx201_0⟩ := Kd.at_string (Kd.R_reads' HO_11.out).2.2 x12_2 p201 q201
                    cases e201
                    replace p201 := eq_true p201
                    replace q201 := eq_true q201
                    go_wp2
                    go_roundg k2
                    case measure => have := HJ1.out; have := HK2.out; omega
                    case rel => exact ⟨(wrap64 (x12_2 + 1)), (by first | rfl | (simp; done) | (simp [*]; done)), H', ⟨by have := HJ1.out; have := HK2.out; omega⟩, ⟨by (with_reducible repeat (first | apply Kd.R_alloc | apply Kd.R_drewN | apply Kd.R_drew)); exact HO_11.out⟩, ⟨by repeat (first | (with_reducible first | exact HB.out | apply below_alloc | apply pw_below_drewN | apply below_drew1) | exact HB.out)⟩⟩
                · rw [if_neg c43] at H
                  exact absurd H (by simp)
              · rw [if_neg c42] at H
                have c42b0 : decide (x12_2 < (t198.length : Int)) = false := decide_eq_false c42
                clear c42
                simp only [Option.some.injEq, Prod.mk.injEq] at H
                obtain ⟨rfl, rfl⟩ := H
                obtain ⟨Ao47, co47, eo47⟩ := Kd.R_slice HO_11.out
                subst eo47
                go_wp2
                go_ret2
                exact ⟨by first | rfl | (simp [errW_none, errW_some] <;> rfl) | (simp [*, errW_none, errW_some] <;> rfl), by repeat (first | (with_reducible first | exact HB.out | apply below_alloc | apply pw_below_drewN | apply below_drew1) | exact HB.out)⟩
        · replace c38 := Bool.eq_false_iff.mpr c38
          subst c38
          have H1 : (some (0, false)) = some (r1, r2) := by rw [if_neg (show ¬ (false = true) by decide)] at H; exact H
          clear H
          have H := H1
          clear H1
          simp only [Option.some.injEq, Prod.mk.injEq] at H
          obtain ⟨rfl, rfl⟩ := H
          go_wp2_with (first | ((with_reducible refine gate_callee (f := 41) rfl ?_); refine goesL_ (some 73) rfl rfl Tryd.func41 (by kernel_rfl) rfl #[.int .i64 x5_1, .int .i64 x6_1, .int .i64 x7_1] rfl (by (try simp only [List.map_toArray, List.map_cons, List.map_nil]); first | done | rfl | (simp only [List.length_drop, List.length_take]; rfl) | (simp; repeat' first | rfl | constructor)) ?_; (with_reducible refine (spec_DaysOf.calls kj1 x5_1 x6_1 x7_1 t193 _ A31.out).mono ?_); rintro e w48 ⟨rfl, hb⟩; refine ⟨_, rfl, ?_⟩; have n0_ := Aside0.mk (below_step (by repeat (first | (with_reducible first | exact HB.out | apply below_alloc | apply pw_below_drewN | apply below_drew1) | exact HB.out)) hb); clear HB; have HB := n0_; clear n0_; (try clear hb); (try clear hb2); (try clear hk); (try clear hi)) | ((with_reducible refine gate_callee (f := 38) rfl ?_); refine goesL_ (some 80) rfl rfl Tryd.func38 (by kernel_rfl) rfl #[.string a0, .int .i64 x8_1] rfl (by (try simp only [List.map_toArray, List.map_cons, List.map_nil]); first | done | rfl | (simp only [List.length_drop, List.length_take]; rfl) | (simp; repeat' first | rfl | constructor)) ?_; (with_reducible refine (spec_l3Two.calls a0 x8_1 t194 _ A34.out).mono ?_); rintro e w' ⟨rfl, ⟨nd, rfl⟩⟩; refine ⟨_, rfl, ?_⟩) | ((with_reducible refine gate_callee (f := 38) rfl ?_); refine goesL_ (some 86) rfl rfl Tryd.func38 (by kernel_rfl) rfl #[.string a0, .int .i64 (wrap64 (x8_1 + 3))] rfl (by (try simp only [List.map_toArray, List.map_cons, List.map_nil]); first | done | rfl | (simp only [List.length_drop, List.length_take]; rfl) | (simp; repeat' first | rfl | constructor)) ?_; (with_reducible refine (spec_l3Two.calls a0 (wrap64 (x8_1 + 3)) t195 _ A35.out).mono ?_); rintro e w' ⟨rfl, ⟨nd, rfl⟩⟩; refine ⟨_, rfl, ?_⟩) | ((with_reducible refine gate_callee (f := 38) rfl ?_); refine goesL_ (some 92) rfl rfl Tryd.func38 (by kernel_rfl) rfl #[.string a0, .int .i64 (wrap64 (x8_1 + 6))] rfl (by (try simp only [List.map_toArray, List.map_cons, List.map_nil]); first | done | rfl | (simp only [List.length_drop, List.length_take]; rfl) | (simp; repeat' first | rfl | constructor)) ?_; (with_reducible refine (spec_l3Two.calls a0 (wrap64 (x8_1 + 6)) t196 _ A36.out).mono ?_); rintro e w' ⟨rfl, ⟨nd, rfl⟩⟩; refine ⟨_, rfl, ?_⟩) | ((with_reducible refine gate_callee (f := 40) rfl ?_); refine goesL_ (some 95) rfl rfl Tryd.func40 (by kernel_rfl) rfl #[.int .i64 (wrap64 ((wrap64 ((wrap64 ((wrap64 (86400 * t193)) + (wrap64 (3600 * t194)))) + (wrap64 (60 * t195)))) + t196)), .int .i64 0, .int .i64 4102444799] rfl (by (try simp only [List.map_toArray, List.map_cons, List.map_nil]); first | done | rfl | (simp only [List.length_drop, List.length_take]; rfl) | (simp; repeat' first | rfl | constructor)) ?_; (with_reducible refine (spec_l1In.calls (wrap64 ((wrap64 ((wrap64 ((wrap64 (86400 * t193)) + (wrap64 (3600 * t194)))) + (wrap64 (60 * t195)))) + t196)) 0 4102444799 false _ A37.out).mono ?_); rintro e w' ⟨rfl, ⟨nd, rfl⟩⟩; refine ⟨_, rfl, ?_⟩))
          go_ret2
          exact ⟨by first | rfl | (simp [errW_none, errW_some] <;> rfl) | (simp [*, errW_none, errW_some] <;> rfl), by repeat (first | (with_reducible first | exact HB.out | apply below_alloc | apply pw_below_drewN | apply below_drew1) | exact HB.out)⟩

/-! ### strings_Cut: function 83 -/
def strings_Cut.f (a0 : ByteArray) (a1 : ByteArray) : Option (ByteArray × ByteArray × Bool) := if a0.size < 4294967281 then some (⟨(Lib.cut a0.data.toList a1.data.toList).1.toArray⟩, ⟨(Lib.cut a0.data.toList a1.data.toList).2.1.toArray⟩, (Lib.cut a0.data.toList a1.data.toList).2.2) else none
theorem strings_Cut.calls (a0 : ByteArray) (a1 : ByteArray) (r1 : ByteArray) (r2 : ByteArray) (r3 : Bool) (w : World) (hG : Glob w) (h : strings_Cut.f a0 a1 = some (r1, r2, r3)) :
    Calls Tryd.prog 83 #[.string a0, .string a1] w fun e w' => e = .returned (.tuple #[.string r1, .string r2, .bool r3]) ∧ Below w.heap.size w w' := by
  unfold strings_Cut.f at h
  split at h
  · rename_i g
    simp only [Option.some.injEq, Prod.mk.injEq] at h
    obtain ⟨rfl, rfl, rfl⟩ := h
    obtain ⟨m, hm⟩ := hG.maxlen
    refine (Tryd.strings_Cut a0 a1 m w g hm).mono ?_
    rintro e w' ⟨rfl, n, rfl⟩
    exact ⟨rfl, pw_below_drewN (Below.refl _ _) n⟩
  · exact absurd h (by simp)

/-! ### strings_TrimLeft: function 109 -/
def strings_TrimLeft.f (a0 : ByteArray) (a1 : ByteArray) : Option (ByteArray) := if a0.size ≤ 4611686018427387904 ∧ a1.size < 4294967281 ∧ a1.data.toList.all (fun b => decide (b.toNat < 128)) = true then some ⟨(Lib.trimLeftS a0.data.toList a1.data.toList).toArray⟩ else none
theorem strings_TrimLeft.calls (a0 : ByteArray) (a1 : ByteArray) (r : ByteArray) (w : World) (h : strings_TrimLeft.f a0 a1 = some r) :
    Calls Tryd.prog 109 #[.string a0, .string a1] w fun e w' => e = .returned (.string r) ∧ Below w.heap.size w w' := by
  unfold strings_TrimLeft.f at h
  split at h
  · rename_i g
    obtain rfl := Option.some.inj h
    exact Any.strings_TrimLeft_laid Tryd.lays161 (by kernel_rfl) a0 a1 w g.2.1 (ascii_of_all g.2.2)
  · exact absurd h (by simp)

/-! ### impl_digitsIn: function 84 -/
def impl_digitsIn.f (a0 : ByteArray) : Option Int := if a0.size ≤ 13 ∧ (Lib.trimLeftS a0.data.toList [32]).length ≤ 13 then some (match Lib.atoi (Lib.trimLeftS a0.data.toList [32]) with | none => -1 | some n => n) else none
set_option maxHeartbeats 8000000 in
set_option maxRecDepth 100000 in
theorem impl_digitsIn.calls (a0 : ByteArray) (r : Int) (w : World) (hG : Glob w) (h : impl_digitsIn.f a0 = some r) :
    Calls Tryd.prog 84 #[.string a0] w fun e w' => e = .returned (.int .i64 r) ∧ Below w.heap.size w w' := by
  unfold impl_digitsIn.f at h
  by_cases g : a0.size ≤ 13 ∧ (Lib.trimLeftS a0.data.toList [32]).length ≤ 13
  · rw [if_pos g] at h
    obtain ⟨t, ht⟩ : ∃ t : ByteArray, t = ⟨(Lib.trimLeftS a0.data.toList [32]).toArray⟩ := ⟨_, rfl⟩
    have hd : t.data.toList = Lib.trimLeftS a0.data.toList [32] := by rw [ht]
    have hz : t.size ≤ 13 := by show t.data.size ≤ 13; rw [← Array.length_toList, hd]; exact g.2
    have E1 := Aside0.mk (show strings_TrimLeft.f a0 (⟨#[32]⟩ : ByteArray) = some t by unfold strings_TrimLeft.f; rw [if_pos ⟨by omega, by decide, by decide⟩, ht])
    rw [← hd] at h
    clear g ht hd
    have HG := Aside0.mk hG
    clear hG
    cases ha : Lib.atoi t.data.toList with
    | none =>
      rw [ha] at h
      obtain rfl := Option.some.inj h
      go_enter Tryd.func84, Tryd.ntmps84
      go_wp2_with (first | (go_at_call 109; (with_reducible refine (strings_TrimLeft.calls a0 (⟨#[32]⟩ : ByteArray) t _ E1.out).mono ?_); rintro e w1 ⟨rfl, hb1⟩; have HB1 := Aside0.mk hb1; clear hb1; obtain ⟨te, pe, hv⟩ := (HG.out.below HB1.out).errsyn; have HV := Aside0.mk hv; clear hv) | (go_at_call 108; refine (Tryd.strconv_Atoi_err t (by omega) ha _ _ (by exact HV.out) (.inr ⟨te, pe, rfl⟩)).mono ?_; rintro e w' ⟨N, rfl, -, -, hb⟩))
      go_ret
      exact ⟨rfl, by repeat (first | exact below_step HB1.out hb | apply pw_below_drewN | apply below_drew1)⟩
    | some n =>
      rw [ha] at h
      obtain rfl := Option.some.inj h
      go_enter Tryd.func84, Tryd.ntmps84
      go_wp2_with (first | (go_at_call 109; (with_reducible refine (strings_TrimLeft.calls a0 (⟨#[32]⟩ : ByteArray) t _ E1.out).mono ?_); rintro e w1 ⟨rfl, hb1⟩; have HB1 := Aside0.mk hb1; clear hb1) | (go_at_call 108; refine (Tryd.strconv_Atoi t n (by omega) ha _).mono ?_; rintro e w' ⟨rfl, q, rfl⟩))
      go_ret
      exact ⟨rfl, by repeat (first | exact HB1.out | exact Lib.bytesWorld_below _ _ _ | apply pw_below_drewN | apply below_drew1 | (refine below_step HB1.out ?_))⟩
  · rw [if_neg g] at h
    exact absurd h (by simp)

/-! ### impl_inRange: function 49 -/
def impl_inRange.f (a0 : Int) (a1 : Int) (a2 : Int) : Option (Bool) := if a1 ≤ a0 then (some (decide (a0 ≤ a2))) else (some false)
set_option maxHeartbeats 8000000 in
set_option maxRecDepth 100000 in
theorem impl_inRange.calls (a0 : Int) (a1 : Int) (a2 : Int) (r : Bool) (w : World) (h : impl_inRange.f a0 a1 a2 = some r) :
    Calls Tryd.prog 49 #[.int .i64 a0, .int .i64 a1, .int .i64 a2] w fun e w' => e = .returned (.bool r) ∧ Drawn0 w w' := by
  have H : (if a1 ≤ a0 then (some (decide (a0 ≤ a2))) else (some false)) = some r := h
  clear h
  by_cases c4 : a1 ≤ a0
  · rw [if_pos c4] at H
    have c4b0 : decide (a1 ≤ a0) = true := decide_eq_true c4
    clear c4
    obtain rfl := Option.some.inj H
    go_enter Tryd.func49, Tryd.ntmps49
    go_wp2
    go_ret
    exact ⟨by first | rfl | (simp; done) | (simp [*]; done), by repeat (first | exact Drawn0.refl _ | apply Drawn0.step)⟩
  · rw [if_neg c4] at H
    have c4b0 : decide (a1 ≤ a0) = false := decide_eq_false c4
    clear c4
    obtain rfl := Option.some.inj H
    go_enter Tryd.func49, Tryd.ntmps49
    go_wp2
    go_ret
    exact ⟨by first | rfl | (simp; done) | (simp [*]; done), by repeat (first | exact Drawn0.refl _ | apply Drawn0.step)⟩

/-! ### impl_Mod: function 19 -/
def impl_Mod.f (a0 : Int) (a1 : Int) : Option (Int) := (impl_inRange.f a1 1 1000000000000).bind fun t202 => (if t202 = true then (if a1 = 0 then (none) else (some (Int.tmod (wrap64 ((Int.tmod a0 a1) + a1)) a1))) else (some 0))
set_option maxHeartbeats 8000000 in
set_option maxRecDepth 100000 in
theorem impl_Mod.calls (a0 : Int) (a1 : Int) (r : Int) (w : World) (h : impl_Mod.f a0 a1 = some r) :
    Calls Tryd.prog 19 #[.int .i64 a0, .int .i64 a1] w fun e w' => e = .returned (.int .i64 r) ∧ Drawn0 w w' := by
  have H : ((impl_inRange.f a1 1 1000000000000).bind fun t202 => (if t202 = true then (if a1 = 0 then (none) else (some (Int.tmod (wrap64 ((Int.tmod a0 a1) + a1)) a1))) else (some 0))) = some r := h
  clear h
  replace H := Option.bind_eq_some_iff.mp H
  obtain ⟨t202, A30, H⟩ := H
  replace H : (if t202 = true then (if a1 = 0 then (none) else (some (Int.tmod (wrap64 ((Int.tmod a0 a1) + a1)) a1))) else (some 0)) = some r := H
  have A3 := Aside0.mk A30
  clear A30
  by_cases c4 : t202 = true
  · subst c4
    have H1 : (if a1 = 0 then (none) else (some (Int.tmod (wrap64 ((Int.tmod a0 a1) + a1)) a1))) = some r := by rw [if_pos rfl] at H; exact H
    clear H
    have H := H1
    clear H1
    by_cases c5 : a1 = 0
    · rw [if_pos c5] at H
      exact absurd H (by simp)
    · rw [if_neg c5] at H
      have c5b0 : (a1 == 0) = false := beq_eq_false_iff_ne.mpr c5
      have c5b1 : (a1 != 0) = true := bne_iff_ne.mpr c5
      obtain rfl := Option.some.inj H
      go_enter Tryd.func19, Tryd.ntmps19
      go_wp2_with (first | ((with_reducible refine gate_callee (f := 49) rfl ?_); refine goesL_ (some 6) rfl rfl Tryd.func49 (by kernel_rfl) rfl #[.int .i64 a1, .int .i64 1, .int .i64 1000000000000] rfl (by (try simp only [List.map_toArray, List.map_cons, List.map_nil]); first | done | rfl | (simp only [List.length_drop, List.length_take]; rfl) | (simp; repeat' first | rfl | constructor)) ?_; (with_reducible refine (impl_inRange.calls a1 1 1000000000000 true _ A3.out).mono ?_); rintro e w' ⟨rfl, ⟨nd, rfl⟩⟩; refine ⟨_, rfl, ?_⟩))
      go_ret
      exact ⟨by first | rfl | (simp; done) | (simp [*]; done), by repeat (first | exact Drawn0.refl _ | apply Drawn0.step)⟩
  · replace c4 := Bool.eq_false_iff.mpr c4
    subst c4
    have H1 : (some 0) = some r := by rw [if_neg (show ¬ (false = true) by decide)] at H; exact H
    clear H
    have H := H1
    clear H1
    obtain rfl := Option.some.inj H
    go_enter Tryd.func19, Tryd.ntmps19
    go_wp2_with (first | ((with_reducible refine gate_callee (f := 49) rfl ?_); refine goesL_ (some 6) rfl rfl Tryd.func49 (by kernel_rfl) rfl #[.int .i64 a1, .int .i64 1, .int .i64 1000000000000] rfl (by (try simp only [List.map_toArray, List.map_cons, List.map_nil]); first | done | rfl | (simp only [List.length_drop, List.length_take]; rfl) | (simp; repeat' first | rfl | constructor)) ?_; (with_reducible refine (impl_inRange.calls a1 1 1000000000000 false _ A3.out).mono ?_); rintro e w' ⟨rfl, ⟨nd, rfl⟩⟩; refine ⟨_, rfl, ?_⟩))
    go_ret
    exact ⟨by first | rfl | (simp; done) | (simp [*]; done), by repeat (first | exact Drawn0.refl _ | apply Drawn0.step)⟩

/-! ### impl_IsLeap: function 20 -/
def impl_IsLeap.f (a0 : Int) : Option (Bool) := (impl_Mod.f a0 4).bind fun t203 => (if t203 = 0 then ((impl_Mod.f a0 100).bind fun t204 => (if t204 = 0 then ((impl_Mod.f a0 400).bind fun t205 => (some (t205 == 0))) else (some true))) else (some false))
set_option maxHeartbeats 8000000 in
set_option maxRecDepth 100000 in
theorem impl_IsLeap.calls (a0 : Int) (r : Bool) (w : World) (h : impl_IsLeap.f a0 = some r) :
    Calls Tryd.prog 20 #[.int .i64 a0] w fun e w' => e = .returned (.bool r) ∧ Drawn0 w w' := by
  have H : ((impl_Mod.f a0 4).bind fun t203 => (if t203 = 0 then ((impl_Mod.f a0 100).bind fun t204 => (if t204 = 0 then ((impl_Mod.f a0 400).bind fun t205 => (some (t205 == 0))) else (some true))) else (some false))) = some r := h
  clear h
  replace H := Option.bind_eq_some_iff.mp H
  obtain ⟨t203, A20, H⟩ := H
  replace H : (if t203 = 0 then ((impl_Mod.f a0 100).bind fun t204 => (if t204 = 0 then ((impl_Mod.f a0 400).bind fun t205 => (some (t205 == 0))) else (some true))) else (some false)) = some r := H
  have A2 := Aside0.mk A20
  clear A20
  by_cases c3 : t203 = 0
  · rw [if_pos c3] at H
    have c3b0 : (t203 == 0) = true := beq_iff_eq.mpr c3
    have c3b1 : (t203 != 0) = false := bne_eq_false_iff_eq.mpr c3
    clear c3
    replace H := Option.bind_eq_some_iff.mp H
    obtain ⟨t204, A40, H⟩ := H
    replace H : (if t204 = 0 then ((impl_Mod.f a0 400).bind fun t205 => (some (t205 == 0))) else (some true)) = some r := H
    have A4 := Aside0.mk A40
    clear A40
    by_cases c5 : t204 = 0
    · rw [if_pos c5] at H
      have c5b0 : (t204 == 0) = true := beq_iff_eq.mpr c5
      have c5b1 : (t204 != 0) = false := bne_eq_false_iff_eq.mpr c5
      clear c5
      replace H := Option.bind_eq_some_iff.mp H
      obtain ⟨t205, A60, H⟩ := H
      replace H : (some (t205 == 0)) = some r := H
      have A6 := Aside0.mk A60
      clear A60
      obtain rfl := Option.some.inj H
      go_enter Tryd.func20, Tryd.ntmps20
      go_wp2_with (first | ((with_reducible refine gate_callee (f := 19) rfl ?_); refine goesL_ (some 4) rfl rfl Tryd.func19 (by kernel_rfl) rfl #[.int .i64 a0, .int .i64 4] rfl (by (try simp only [List.map_toArray, List.map_cons, List.map_nil]); first | done | rfl | (simp only [List.length_drop, List.length_take]; rfl) | (simp; repeat' first | rfl | constructor)) ?_; (with_reducible refine (impl_Mod.calls a0 4 t203 _ A2.out).mono ?_); rintro e w' ⟨rfl, ⟨nd, rfl⟩⟩; refine ⟨_, rfl, ?_⟩) | (go_at_call 19; (with_reducible refine (impl_Mod.calls a0 100 t204 _ A4.out).mono ?_); rintro e w' ⟨rfl, ⟨nd, rfl⟩⟩) | (go_at_call 19; (with_reducible refine (impl_Mod.calls a0 400 t205 _ A6.out).mono ?_); rintro e w' ⟨rfl, ⟨nd, rfl⟩⟩))
      go_ret
      exact ⟨by first | rfl | (simp; done) | (simp [*]; done), by repeat (first | exact Drawn0.refl _ | apply Drawn0.step)⟩
    · rw [if_neg c5] at H
      have c5b0 : (t204 == 0) = false := beq_eq_false_iff_ne.mpr c5
      have c5b1 : (t204 != 0) = true := bne_iff_ne.mpr c5
      obtain rfl := Option.some.inj H
      go_enter Tryd.func20, Tryd.ntmps20
      go_wp2_with (first | ((with_reducible refine gate_callee (f := 19) rfl ?_); refine goesL_ (some 4) rfl rfl Tryd.func19 (by kernel_rfl) rfl #[.int .i64 a0, .int .i64 4] rfl (by (try simp only [List.map_toArray, List.map_cons, List.map_nil]); first | done | rfl | (simp only [List.length_drop, List.length_take]; rfl) | (simp; repeat' first | rfl | constructor)) ?_; (with_reducible refine (impl_Mod.calls a0 4 t203 _ A2.out).mono ?_); rintro e w' ⟨rfl, ⟨nd, rfl⟩⟩; refine ⟨_, rfl, ?_⟩) | (go_at_call 19; (with_reducible refine (impl_Mod.calls a0 100 t204 _ A4.out).mono ?_); rintro e w' ⟨rfl, ⟨nd, rfl⟩⟩))
      go_ret
      exact ⟨by first | rfl | (simp; done) | (simp [*]; done), by repeat (first | exact Drawn0.refl _ | apply Drawn0.step)⟩
  · rw [if_neg c3] at H
    have c3b0 : (t203 == 0) = false := beq_eq_false_iff_ne.mpr c3
    have c3b1 : (t203 != 0) = true := bne_iff_ne.mpr c3
    obtain rfl := Option.some.inj H
    go_enter Tryd.func20, Tryd.ntmps20
    go_wp2_with (first | ((with_reducible refine gate_callee (f := 19) rfl ?_); refine goesL_ (some 4) rfl rfl Tryd.func19 (by kernel_rfl) rfl #[.int .i64 a0, .int .i64 4] rfl (by (try simp only [List.map_toArray, List.map_cons, List.map_nil]); first | done | rfl | (simp only [List.length_drop, List.length_take]; rfl) | (simp; repeat' first | rfl | constructor)) ?_; (with_reducible refine (impl_Mod.calls a0 4 t203 _ A2.out).mono ?_); rintro e w' ⟨rfl, ⟨nd, rfl⟩⟩; refine ⟨_, rfl, ?_⟩))
    go_ret
    exact ⟨by first | rfl | (simp; done) | (simp [*]; done), by repeat (first | exact Drawn0.refl _ | apply Drawn0.step)⟩

/-! ### impl_yearDays: function 50 -/
def impl_yearDays.f (a0 : Int) : Option (Int) := (impl_IsLeap.f a0).bind fun t206 => (if t206 = true then (some 366) else (some 365))
set_option maxHeartbeats 8000000 in
set_option maxRecDepth 100000 in
theorem impl_yearDays.calls (a0 : Int) (r : Int) (w : World) (h : impl_yearDays.f a0 = some r) :
    Calls Tryd.prog 50 #[.int .i64 a0] w fun e w' => e = .returned (.int .i64 r) ∧ Drawn0 w w' := by
  have H : ((impl_IsLeap.f a0).bind fun t206 => (if t206 = true then (some 366) else (some 365))) = some r := h
  clear h
  replace H := Option.bind_eq_some_iff.mp H
  obtain ⟨t206, A20, H⟩ := H
  replace H : (if t206 = true then (some 366) else (some 365)) = some r := H
  have A2 := Aside0.mk A20
  clear A20
  by_cases c3 : t206 = true
  · subst c3
    have H1 : (some 366) = some r := by rw [if_pos rfl] at H; exact H
    clear H
    have H := H1
    clear H1
    obtain rfl := Option.some.inj H
    go_enter Tryd.func50, Tryd.ntmps50
    go_wp2_with (first | ((with_reducible refine gate_callee (f := 20) rfl ?_); refine goesL_ (some 4) rfl rfl Tryd.func20 (by kernel_rfl) rfl #[.int .i64 a0] rfl (by (try simp only [List.map_toArray, List.map_cons, List.map_nil]); first | done | rfl | (simp only [List.length_drop, List.length_take]; rfl) | (simp; repeat' first | rfl | constructor)) ?_; (with_reducible refine (impl_IsLeap.calls a0 true _ A2.out).mono ?_); rintro e w' ⟨rfl, ⟨nd, rfl⟩⟩; refine ⟨_, rfl, ?_⟩))
    go_ret
    exact ⟨by first | rfl | (simp; done) | (simp [*]; done), by repeat (first | exact Drawn0.refl _ | apply Drawn0.step)⟩
  · replace c3 := Bool.eq_false_iff.mpr c3
    subst c3
    have H1 : (some 365) = some r := by rw [if_neg (show ¬ (false = true) by decide)] at H; exact H
    clear H
    have H := H1
    clear H1
    obtain rfl := Option.some.inj H
    go_enter Tryd.func50, Tryd.ntmps50
    go_wp2_with (first | ((with_reducible refine gate_callee (f := 20) rfl ?_); refine goesL_ (some 4) rfl rfl Tryd.func20 (by kernel_rfl) rfl #[.int .i64 a0] rfl (by (try simp only [List.map_toArray, List.map_cons, List.map_nil]); first | done | rfl | (simp only [List.length_drop, List.length_take]; rfl) | (simp; repeat' first | rfl | constructor)) ?_; (with_reducible refine (impl_IsLeap.calls a0 false _ A2.out).mono ?_); rintro e w' ⟨rfl, ⟨nd, rfl⟩⟩; refine ⟨_, rfl, ?_⟩))
    go_ret
    exact ⟨by first | rfl | (simp; done) | (simp [*]; done), by repeat (first | exact Drawn0.refl _ | apply Drawn0.step)⟩

/-! ### impl_monthDays: function 51 -/
def impl_monthDays.f (a0 : Int) (a1 : Int) : Option (Int) := if a1 = 2 then ((impl_IsLeap.f a0).bind fun t207 => (if t207 = true then (some 29) else (some 28))) else (if a1 = 4 then (some 30) else (if a1 = 6 then (some 30) else (if a1 = 9 then (some 30) else (if a1 = 11 then (some 30) else (some 31)))))
set_option maxHeartbeats 8000000 in
set_option maxRecDepth 100000 in
theorem impl_monthDays.calls (a0 : Int) (a1 : Int) (r : Int) (w : World) (h : impl_monthDays.f a0 a1 = some r) :
    Calls Tryd.prog 51 #[.int .i64 a0, .int .i64 a1] w fun e w' => e = .returned (.int .i64 r) ∧ Drawn0 w w' := by
  have H : (if a1 = 2 then ((impl_IsLeap.f a0).bind fun t207 => (if t207 = true then (some 29) else (some 28))) else (if a1 = 4 then (some 30) else (if a1 = 6 then (some 30) else (if a1 = 9 then (some 30) else (if a1 = 11 then (some 30) else (some 31)))))) = some r := h
  clear h
  by_cases c3 : a1 = 2
  · rw [if_pos c3] at H
    have c3b0 : (a1 == 2) = true := beq_iff_eq.mpr c3
    have c3b1 : (a1 != 2) = false := bne_eq_false_iff_eq.mpr c3
    clear c3
    replace H := Option.bind_eq_some_iff.mp H
    obtain ⟨t207, A40, H⟩ := H
    replace H : (if t207 = true then (some 29) else (some 28)) = some r := H
    have A4 := Aside0.mk A40
    clear A40
    by_cases c5 : t207 = true
    · subst c5
      have H1 : (some 29) = some r := by rw [if_pos rfl] at H; exact H
      clear H
      have H := H1
      clear H1
      obtain rfl := Option.some.inj H
      go_enter Tryd.func51, Tryd.ntmps51
      go_wp2_with (first | ((with_reducible refine gate_callee (f := 20) rfl ?_); refine goesL_ (some 9) rfl rfl Tryd.func20 (by kernel_rfl) rfl #[.int .i64 a0] rfl (by (try simp only [List.map_toArray, List.map_cons, List.map_nil]); first | done | rfl | (simp only [List.length_drop, List.length_take]; rfl) | (simp; repeat' first | rfl | constructor)) ?_; (with_reducible refine (impl_IsLeap.calls a0 true _ A4.out).mono ?_); rintro e w' ⟨rfl, ⟨nd, rfl⟩⟩; refine ⟨_, rfl, ?_⟩))
      go_ret
      exact ⟨by first | rfl | (simp; done) | (simp [*]; done), by repeat (first | exact Drawn0.refl _ | apply Drawn0.step)⟩
    · replace c5 := Bool.eq_false_iff.mpr c5
      subst c5
      have H1 : (some 28) = some r := by rw [if_neg (show ¬ (false = true) by decide)] at H; exact H
      clear H
      have H := H1
      clear H1
      obtain rfl := Option.some.inj H
      go_enter Tryd.func51, Tryd.ntmps51
      go_wp2_with (first | ((with_reducible refine gate_callee (f := 20) rfl ?_); refine goesL_ (some 9) rfl rfl Tryd.func20 (by kernel_rfl) rfl #[.int .i64 a0] rfl (by (try simp only [List.map_toArray, List.map_cons, List.map_nil]); first | done | rfl | (simp only [List.length_drop, List.length_take]; rfl) | (simp; repeat' first | rfl | constructor)) ?_; (with_reducible refine (impl_IsLeap.calls a0 false _ A4.out).mono ?_); rintro e w' ⟨rfl, ⟨nd, rfl⟩⟩; refine ⟨_, rfl, ?_⟩))
      go_ret
      exact ⟨by first | rfl | (simp; done) | (simp [*]; done), by repeat (first | exact Drawn0.refl _ | apply Drawn0.step)⟩
  · rw [if_neg c3] at H
    have c3b0 : (a1 == 2) = false := beq_eq_false_iff_ne.mpr c3
    have c3b1 : (a1 != 2) = true := bne_iff_ne.mpr c3
    by_cases c6 : a1 = 4
    · rw [if_pos c6] at H
      have c6b0 : (a1 == 4) = true := beq_iff_eq.mpr c6
      have c6b1 : (a1 != 4) = false := bne_eq_false_iff_eq.mpr c6
      clear c6
      obtain rfl := Option.some.inj H
      go_enter Tryd.func51, Tryd.ntmps51
      go_wp2
      go_ret
      exact ⟨by first | rfl | (simp; done) | (simp [*]; done), by repeat (first | exact Drawn0.refl _ | apply Drawn0.step)⟩
    · rw [if_neg c6] at H
      have c6b0 : (a1 == 4) = false := beq_eq_false_iff_ne.mpr c6
      have c6b1 : (a1 != 4) = true := bne_iff_ne.mpr c6
      by_cases c7 : a1 = 6
      · rw [if_pos c7] at H
        have c7b0 : (a1 == 6) = true := beq_iff_eq.mpr c7
        have c7b1 : (a1 != 6) = false := bne_eq_false_iff_eq.mpr c7
        clear c7
        obtain rfl := Option.some.inj H
        go_enter Tryd.func51, Tryd.ntmps51
        go_wp2
        go_ret
        exact ⟨by first | rfl | (simp; done) | (simp [*]; done), by repeat (first | exact Drawn0.refl _ | apply Drawn0.step)⟩
      · rw [if_neg c7] at H
        have c7b0 : (a1 == 6) = false := beq_eq_false_iff_ne.mpr c7
        have c7b1 : (a1 != 6) = true := bne_iff_ne.mpr c7
        by_cases c8 : a1 = 9
        · rw [if_pos c8] at H
          have c8b0 : (a1 == 9) = true := beq_iff_eq.mpr c8
          have c8b1 : (a1 != 9) = false := bne_eq_false_iff_eq.mpr c8
          clear c8
          obtain rfl := Option.some.inj H
          go_enter Tryd.func51, Tryd.ntmps51
          go_wp2
          go_ret
          exact ⟨by first | rfl | (simp; done) | (simp [*]; done), by repeat (first | exact Drawn0.refl _ | apply Drawn0.step)⟩
        · rw [if_neg c8] at H
          have c8b0 : (a1 == 9) = false := beq_eq_false_iff_ne.mpr c8
          have c8b1 : (a1 != 9) = true := bne_iff_ne.mpr c8
          by_cases c9 : a1 = 11
          · rw [if_pos c9] at H
            have c9b0 : (a1 == 11) = true := beq_iff_eq.mpr c9
            have c9b1 : (a1 != 11) = false := bne_eq_false_iff_eq.mpr c9
            clear c9
            obtain rfl := Option.some.inj H
            go_enter Tryd.func51, Tryd.ntmps51
            go_wp2
            go_ret
            exact ⟨by first | rfl | (simp; done) | (simp [*]; done), by repeat (first | exact Drawn0.refl _ | apply Drawn0.step)⟩
          · rw [if_neg c9] at H
            have c9b0 : (a1 == 11) = false := beq_eq_false_iff_ne.mpr c9
            have c9b1 : (a1 != 11) = true := bne_iff_ne.mpr c9
            obtain rfl := Option.some.inj H
            go_enter Tryd.func51, Tryd.ntmps51
            go_wp2
            go_ret
            exact ⟨by first | rfl | (simp; done) | (simp [*]; done), by repeat (first | exact Drawn0.refl _ | apply Drawn0.step)⟩

end Go.Proofs.YtlboepkphddacabDoor.RFnExactParseDate
