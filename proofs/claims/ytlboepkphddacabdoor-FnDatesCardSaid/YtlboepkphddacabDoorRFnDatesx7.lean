/- What the Go functions that the law FnDates reaches answer: for each one a Lean function, and the proof that its call comes to what that function says. Conditions: those that each theorem states. Written by a program. -/
import Derived.Test.YtlboepkphddacabDoorRFnDatesx0
import Derived.Test.YtlboepkphddacabDoorRFnDatesx5
import Derived.Test.YtlboepkphddacabDoorRFnDatesx6
namespace Go.Proofs.YtlboepkphddacabDoor.RFnDates
open Go.RowKit Go.Proofs.YtlboepkphddacabDoorW.PrintWords Go.Proofs.YtlboepkphddacabDoorW.PrintLast Go.Proofs.YtlboepkphddacabDoorW.PrintMore
attribute [local go_sem] max2_int min2_int max_two min_two max_three min_three max_four min_four   -- for this text's walks alone
set_option linter.unusedVariables false
set_option linter.unusedSimpArgs false

/-! ### spec_l3Forms: function 42 -/
def spec_l3Forms.f (k : Nat) (a0 : Int) : Option (List ByteArray) := (spec_CivilOf.f k (wrap64 (Int.tdiv a0 86400))).bind fun bt253 => ((spec_l3Days.f).bind fun t256 => ((spec_WeekdayOf.f (wrap64 (Int.tdiv a0 86400))).bind fun t259 => (if 0 ≤ t259 then (if t259 < (t256.length : Int) then ((spec_l3Months.f).bind fun t261 => (if 0 ≤ (wrap64 (bt253.2.1 - 1)) then (if (wrap64 (bt253.2.1 - 1)) < (t261.length : Int) then (if 0 ≤ 3 then (if 3 ≤ ((rdOf ByteArray.empty t256 t259).size : Int) then (if ((rdOf ByteArray.empty t256 t259).extract 0 3).size + 2 ≤ 9223372036854775807 then ((spec_Digits.f k bt253.2.2 2).bind fun t265 => (if (((rdOf ByteArray.empty t256 t259).extract 0 3) ++ (⟨#[44, 32]⟩ : ByteArray)).size + t265.size ≤ 9223372036854775807 then (if ((((rdOf ByteArray.empty t256 t259).extract 0 3) ++ (⟨#[44, 32]⟩ : ByteArray)) ++ t265).size + 1 ≤ 9223372036854775807 then (if (((((rdOf ByteArray.empty t256 t259).extract 0 3) ++ (⟨#[44, 32]⟩ : ByteArray)) ++ t265) ++ (⟨#[32]⟩ : ByteArray)).size + (rdOf ByteArray.empty t261 (wrap64 (bt253.2.1 - 1))).size ≤ 9223372036854775807 then (if ((((((rdOf ByteArray.empty t256 t259).extract 0 3) ++ (⟨#[44, 32]⟩ : ByteArray)) ++ t265) ++ (⟨#[32]⟩ : ByteArray)) ++ (rdOf ByteArray.empty t261 (wrap64 (bt253.2.1 - 1)))).size + 1 ≤ 9223372036854775807 then ((spec_Digits.f k bt253.1 4).bind fun t266 => (if (((((((rdOf ByteArray.empty t256 t259).extract 0 3) ++ (⟨#[44, 32]⟩ : ByteArray)) ++ t265) ++ (⟨#[32]⟩ : ByteArray)) ++ (rdOf ByteArray.empty t261 (wrap64 (bt253.2.1 - 1)))) ++ (⟨#[32]⟩ : ByteArray)).size + t266.size ≤ 9223372036854775807 then (if ((((((((rdOf ByteArray.empty t256 t259).extract 0 3) ++ (⟨#[44, 32]⟩ : ByteArray)) ++ t265) ++ (⟨#[32]⟩ : ByteArray)) ++ (rdOf ByteArray.empty t261 (wrap64 (bt253.2.1 - 1)))) ++ (⟨#[32]⟩ : ByteArray)) ++ t266).size + 1 ≤ 9223372036854775807 then ((spec_l3Clock.f k a0).bind fun t267 => (if (((((((((rdOf ByteArray.empty t256 t259).extract 0 3) ++ (⟨#[44, 32]⟩ : ByteArray)) ++ t265) ++ (⟨#[32]⟩ : ByteArray)) ++ (rdOf ByteArray.empty t261 (wrap64 (bt253.2.1 - 1)))) ++ (⟨#[32]⟩ : ByteArray)) ++ t266) ++ (⟨#[32]⟩ : ByteArray)).size + t267.size ≤ 9223372036854775807 then (if ((((((((((rdOf ByteArray.empty t256 t259).extract 0 3) ++ (⟨#[44, 32]⟩ : ByteArray)) ++ t265) ++ (⟨#[32]⟩ : ByteArray)) ++ (rdOf ByteArray.empty t261 (wrap64 (bt253.2.1 - 1)))) ++ (⟨#[32]⟩ : ByteArray)) ++ t266) ++ (⟨#[32]⟩ : ByteArray)) ++ t267).size + 4 ≤ 9223372036854775807 then (if (rdOf ByteArray.empty t256 t259).size + 2 ≤ 9223372036854775807 then ((spec_Digits.f k bt253.2.2 2).bind fun t268 => (if ((rdOf ByteArray.empty t256 t259) ++ (⟨#[44, 32]⟩ : ByteArray)).size + t268.size ≤ 9223372036854775807 then (if (((rdOf ByteArray.empty t256 t259) ++ (⟨#[44, 32]⟩ : ByteArray)) ++ t268).size + 1 ≤ 9223372036854775807 then (if ((((rdOf ByteArray.empty t256 t259) ++ (⟨#[44, 32]⟩ : ByteArray)) ++ t268) ++ (⟨#[45]⟩ : ByteArray)).size + (rdOf ByteArray.empty t261 (wrap64 (bt253.2.1 - 1))).size ≤ 9223372036854775807 then (if (((((rdOf ByteArray.empty t256 t259) ++ (⟨#[44, 32]⟩ : ByteArray)) ++ t268) ++ (⟨#[45]⟩ : ByteArray)) ++ (rdOf ByteArray.empty t261 (wrap64 (bt253.2.1 - 1)))).size + 1 ≤ 9223372036854775807 then ((spec_Digits.f k (Int.tmod bt253.1 100) 2).bind fun t269 => (if ((((((rdOf ByteArray.empty t256 t259) ++ (⟨#[44, 32]⟩ : ByteArray)) ++ t268) ++ (⟨#[45]⟩ : ByteArray)) ++ (rdOf ByteArray.empty t261 (wrap64 (bt253.2.1 - 1)))) ++ (⟨#[45]⟩ : ByteArray)).size + t269.size ≤ 9223372036854775807 then (if (((((((rdOf ByteArray.empty t256 t259) ++ (⟨#[44, 32]⟩ : ByteArray)) ++ t268) ++ (⟨#[45]⟩ : ByteArray)) ++ (rdOf ByteArray.empty t261 (wrap64 (bt253.2.1 - 1)))) ++ (⟨#[45]⟩ : ByteArray)) ++ t269).size + 1 ≤ 9223372036854775807 then ((spec_l3Clock.f k a0).bind fun t270 => (if ((((((((rdOf ByteArray.empty t256 t259) ++ (⟨#[44, 32]⟩ : ByteArray)) ++ t268) ++ (⟨#[45]⟩ : ByteArray)) ++ (rdOf ByteArray.empty t261 (wrap64 (bt253.2.1 - 1)))) ++ (⟨#[45]⟩ : ByteArray)) ++ t269) ++ (⟨#[32]⟩ : ByteArray)).size + t270.size ≤ 9223372036854775807 then (if (((((((((rdOf ByteArray.empty t256 t259) ++ (⟨#[44, 32]⟩ : ByteArray)) ++ t268) ++ (⟨#[45]⟩ : ByteArray)) ++ (rdOf ByteArray.empty t261 (wrap64 (bt253.2.1 - 1)))) ++ (⟨#[45]⟩ : ByteArray)) ++ t269) ++ (⟨#[32]⟩ : ByteArray)) ++ t270).size + 4 ≤ 9223372036854775807 then ((spec_Digits.f k bt253.2.2 2).bind fun t271 => (if bt253.2.2 < 10 then ((spec_FormatInt.f k bt253.2.2).bind fun t272 => (if 1 + t272.size ≤ 9223372036854775807 then (if ((rdOf ByteArray.empty t256 t259).extract 0 3).size + 1 ≤ 9223372036854775807 then (if (((rdOf ByteArray.empty t256 t259).extract 0 3) ++ (⟨#[32]⟩ : ByteArray)).size + (rdOf ByteArray.empty t261 (wrap64 (bt253.2.1 - 1))).size ≤ 9223372036854775807 then (if ((((rdOf ByteArray.empty t256 t259).extract 0 3) ++ (⟨#[32]⟩ : ByteArray)) ++ (rdOf ByteArray.empty t261 (wrap64 (bt253.2.1 - 1)))).size + 1 ≤ 9223372036854775807 then (if (((((rdOf ByteArray.empty t256 t259).extract 0 3) ++ (⟨#[32]⟩ : ByteArray)) ++ (rdOf ByteArray.empty t261 (wrap64 (bt253.2.1 - 1)))) ++ (⟨#[32]⟩ : ByteArray)).size + ((⟨#[32]⟩ : ByteArray) ++ t272).size ≤ 9223372036854775807 then (if ((((((rdOf ByteArray.empty t256 t259).extract 0 3) ++ (⟨#[32]⟩ : ByteArray)) ++ (rdOf ByteArray.empty t261 (wrap64 (bt253.2.1 - 1)))) ++ (⟨#[32]⟩ : ByteArray)) ++ ((⟨#[32]⟩ : ByteArray) ++ t272)).size + 1 ≤ 9223372036854775807 then ((spec_l3Clock.f k a0).bind fun t273 => (if (((((((rdOf ByteArray.empty t256 t259).extract 0 3) ++ (⟨#[32]⟩ : ByteArray)) ++ (rdOf ByteArray.empty t261 (wrap64 (bt253.2.1 - 1)))) ++ (⟨#[32]⟩ : ByteArray)) ++ ((⟨#[32]⟩ : ByteArray) ++ t272)) ++ (⟨#[32]⟩ : ByteArray)).size + t273.size ≤ 9223372036854775807 then (if ((((((((rdOf ByteArray.empty t256 t259).extract 0 3) ++ (⟨#[32]⟩ : ByteArray)) ++ (rdOf ByteArray.empty t261 (wrap64 (bt253.2.1 - 1)))) ++ (⟨#[32]⟩ : ByteArray)) ++ ((⟨#[32]⟩ : ByteArray) ++ t272)) ++ (⟨#[32]⟩ : ByteArray)) ++ t273).size + 1 ≤ 9223372036854775807 then ((spec_Digits.f k bt253.1 4).bind fun t274 => (if (((((((((rdOf ByteArray.empty t256 t259).extract 0 3) ++ (⟨#[32]⟩ : ByteArray)) ++ (rdOf ByteArray.empty t261 (wrap64 (bt253.2.1 - 1)))) ++ (⟨#[32]⟩ : ByteArray)) ++ ((⟨#[32]⟩ : ByteArray) ++ t272)) ++ (⟨#[32]⟩ : ByteArray)) ++ t273) ++ (⟨#[32]⟩ : ByteArray)).size + t274.size ≤ 9223372036854775807 then (some (([((((((((((rdOf ByteArray.empty t256 t259).extract 0 3) ++ (⟨#[44, 32]⟩ : ByteArray)) ++ t265) ++ (⟨#[32]⟩ : ByteArray)) ++ (rdOf ByteArray.empty t261 (wrap64 (bt253.2.1 - 1)))) ++ (⟨#[32]⟩ : ByteArray)) ++ t266) ++ (⟨#[32]⟩ : ByteArray)) ++ t267) ++ (⟨#[32, 71, 77, 84]⟩ : ByteArray), (((((((((rdOf ByteArray.empty t256 t259) ++ (⟨#[44, 32]⟩ : ByteArray)) ++ t268) ++ (⟨#[45]⟩ : ByteArray)) ++ (rdOf ByteArray.empty t261 (wrap64 (bt253.2.1 - 1)))) ++ (⟨#[45]⟩ : ByteArray)) ++ t269) ++ (⟨#[32]⟩ : ByteArray)) ++ t270) ++ (⟨#[32, 71, 77, 84]⟩ : ByteArray), (((((((((rdOf ByteArray.empty t256 t259).extract 0 3) ++ (⟨#[32]⟩ : ByteArray)) ++ (rdOf ByteArray.empty t261 (wrap64 (bt253.2.1 - 1)))) ++ (⟨#[32]⟩ : ByteArray)) ++ ((⟨#[32]⟩ : ByteArray) ++ t272)) ++ (⟨#[32]⟩ : ByteArray)) ++ t273) ++ (⟨#[32]⟩ : ByteArray)) ++ t274] : List ByteArray))) else (none))) else (none)) else (none))) else (none)) else (none)) else (none)) else (none)) else (none)) else (none))) else (if ((rdOf ByteArray.empty t256 t259).extract 0 3).size + 1 ≤ 9223372036854775807 then (if (((rdOf ByteArray.empty t256 t259).extract 0 3) ++ (⟨#[32]⟩ : ByteArray)).size + (rdOf ByteArray.empty t261 (wrap64 (bt253.2.1 - 1))).size ≤ 9223372036854775807 then (if ((((rdOf ByteArray.empty t256 t259).extract 0 3) ++ (⟨#[32]⟩ : ByteArray)) ++ (rdOf ByteArray.empty t261 (wrap64 (bt253.2.1 - 1)))).size + 1 ≤ 9223372036854775807 then (if (((((rdOf ByteArray.empty t256 t259).extract 0 3) ++ (⟨#[32]⟩ : ByteArray)) ++ (rdOf ByteArray.empty t261 (wrap64 (bt253.2.1 - 1)))) ++ (⟨#[32]⟩ : ByteArray)).size + t271.size ≤ 9223372036854775807 then (if ((((((rdOf ByteArray.empty t256 t259).extract 0 3) ++ (⟨#[32]⟩ : ByteArray)) ++ (rdOf ByteArray.empty t261 (wrap64 (bt253.2.1 - 1)))) ++ (⟨#[32]⟩ : ByteArray)) ++ t271).size + 1 ≤ 9223372036854775807 then ((spec_l3Clock.f k a0).bind fun t278 => (if (((((((rdOf ByteArray.empty t256 t259).extract 0 3) ++ (⟨#[32]⟩ : ByteArray)) ++ (rdOf ByteArray.empty t261 (wrap64 (bt253.2.1 - 1)))) ++ (⟨#[32]⟩ : ByteArray)) ++ t271) ++ (⟨#[32]⟩ : ByteArray)).size + t278.size ≤ 9223372036854775807 then (if ((((((((rdOf ByteArray.empty t256 t259).extract 0 3) ++ (⟨#[32]⟩ : ByteArray)) ++ (rdOf ByteArray.empty t261 (wrap64 (bt253.2.1 - 1)))) ++ (⟨#[32]⟩ : ByteArray)) ++ t271) ++ (⟨#[32]⟩ : ByteArray)) ++ t278).size + 1 ≤ 9223372036854775807 then ((spec_Digits.f k bt253.1 4).bind fun t279 => (if (((((((((rdOf ByteArray.empty t256 t259).extract 0 3) ++ (⟨#[32]⟩ : ByteArray)) ++ (rdOf ByteArray.empty t261 (wrap64 (bt253.2.1 - 1)))) ++ (⟨#[32]⟩ : ByteArray)) ++ t271) ++ (⟨#[32]⟩ : ByteArray)) ++ t278) ++ (⟨#[32]⟩ : ByteArray)).size + t279.size ≤ 9223372036854775807 then (some (([((((((((((rdOf ByteArray.empty t256 t259).extract 0 3) ++ (⟨#[44, 32]⟩ : ByteArray)) ++ t265) ++ (⟨#[32]⟩ : ByteArray)) ++ (rdOf ByteArray.empty t261 (wrap64 (bt253.2.1 - 1)))) ++ (⟨#[32]⟩ : ByteArray)) ++ t266) ++ (⟨#[32]⟩ : ByteArray)) ++ t267) ++ (⟨#[32, 71, 77, 84]⟩ : ByteArray), (((((((((rdOf ByteArray.empty t256 t259) ++ (⟨#[44, 32]⟩ : ByteArray)) ++ t268) ++ (⟨#[45]⟩ : ByteArray)) ++ (rdOf ByteArray.empty t261 (wrap64 (bt253.2.1 - 1)))) ++ (⟨#[45]⟩ : ByteArray)) ++ t269) ++ (⟨#[32]⟩ : ByteArray)) ++ t270) ++ (⟨#[32, 71, 77, 84]⟩ : ByteArray), (((((((((rdOf ByteArray.empty t256 t259).extract 0 3) ++ (⟨#[32]⟩ : ByteArray)) ++ (rdOf ByteArray.empty t261 (wrap64 (bt253.2.1 - 1)))) ++ (⟨#[32]⟩ : ByteArray)) ++ t271) ++ (⟨#[32]⟩ : ByteArray)) ++ t278) ++ (⟨#[32]⟩ : ByteArray)) ++ t279] : List ByteArray))) else (none))) else (none)) else (none))) else (none)) else (none)) else (none)) else (none)) else (none)))) else (none)) else (none))) else (none)) else (none))) else (none)) else (none)) else (none)) else (none))) else (none)) else (none)) else (none))) else (none)) else (none))) else (none)) else (none)) else (none)) else (none))) else (none)) else (none)) else (none)) else (none)) else (none))) else (none)) else (none))))
theorem spec_l3Forms.mono : ∀ a0 k, LeO (spec_l3Forms.f k a0) (spec_l3Forms.f (k + 1) a0) := by
  intro a0 k
  unfold spec_l3Forms.f
  repeat' first
      | (with_reducible exact spec_CivilOf.mono _ _)
      | (with_reducible exact spec_Digits.mono _ _ _)
      | (with_reducible exact spec_FormatInt.mono _ _)
      | (with_reducible exact spec_l3Clock.mono _ _)
      | (with_reducible exact LeO.refl _)
      | (with_reducible exact LeO.none _)
      | (with_reducible refine LeO.ite ?_ ?_)
      | (with_reducible refine LeO.bind ?_ (fun _ => ?_))
      | exact spec_CivilOf.mono _ _
      | exact spec_Digits.mono _ _ _
      | exact spec_FormatInt.mono _ _
      | exact spec_l3Clock.mono _ _
      | exact LeO.none _
      | refine LeO.ite ?_ ?_
      | refine LeO.bind ?_ (fun _ => ?_)
def spec_l3Forms.T4 : Bool × List (List Nat × List Nat) := (true, [([], []), ([0], [0]), ([1], [1]), ([], []), ([3], [3]), ([2, 4], [2, 4]), ([5], [5]), ([], []), ([6, 7], [6, 7]), ([8], [8]), ([], []), ([10, 4], [10]), ([9, 11], [9, 11]), ([12], [12]), ([], []), ([14, 11], [14]), ([13, 15], [13, 15]), ([16], [16]), ([17, 15, 0, 1, 2, 3, 4, 5, 6, 7, 8, 9, 10, 11, 12, 13, 14, 15, 16, 17], [17])])
def spec_l3Forms.B4 : List Nat := [0, 1, 3, 0, 8, 31, 63, 0, 255, 511, 0, 1048, 4095, 8191, 0, 19480, 65535, 131071, 262143]
theorem spec_l3Forms.tab4 : rtab .any (opsOf Tryd.f42 4) = spec_l3Forms.T4 := by kernel_rfl
theorem spec_l3Forms.bits4 : waitsOk spec_l3Forms.T4.2 spec_l3Forms.B4 = true := by kernel_rfl
def spec_l3Forms.T9 : Bool × List (List Nat × List Nat) := (true, [([], []), ([0], [0]), ([1], [1]), ([], []), ([2, 3], [2, 3]), ([4], [4]), ([], []), ([5, 6], [5, 6]), ([7], [7]), ([], []), ([9], [9]), ([8, 10], [8, 10]), ([11], [11]), ([], []), ([13, 10], [13]), ([12, 14], [12, 14]), ([15, 14, 0, 1, 2, 3, 4, 5, 6, 7, 8, 9, 10, 11, 12, 13, 14, 15], [15])])
def spec_l3Forms.B9 : List Nat := [0, 1, 3, 0, 15, 31, 0, 127, 255, 0, 512, 2047, 4095, 0, 9728, 32767, 65535]
theorem spec_l3Forms.tab9 : rtab .any (opsOf Tryd.f42 9) = spec_l3Forms.T9 := by kernel_rfl
theorem spec_l3Forms.bits9 : waitsOk spec_l3Forms.T9.2 spec_l3Forms.B9 = true := by kernel_rfl
set_option maxHeartbeats 8000000 in
set_option maxRecDepth 100000 in
theorem spec_l3Forms.calls (k : Nat) (a0 : Int) (r : List ByteArray) (w : World) (h : spec_l3Forms.f k a0 = some r) :
    Calls Tryd.prog 42 #[.int .i64 a0] w fun e w' => ∃ v0_ : Value, e = .returned (v0_) ∧ Kd.R Kd.string 9 w' w.heap.size (fun _ => True) v0_ r ∧ Below w.heap.size w w' := by
  have HB := Aside0.mk (Below.refl w.heap.size w)
  have H : ((spec_CivilOf.f k (wrap64 (Int.tdiv a0 86400))).bind fun bt253 => ((spec_l3Days.f).bind fun t256 => ((spec_WeekdayOf.f (wrap64 (Int.tdiv a0 86400))).bind fun t259 => (if 0 ≤ t259 then (if t259 < (t256.length : Int) then ((spec_l3Months.f).bind fun t261 => (if 0 ≤ (wrap64 (bt253.2.1 - 1)) then (if (wrap64 (bt253.2.1 - 1)) < (t261.length : Int) then (if 0 ≤ 3 then (if 3 ≤ ((rdOf ByteArray.empty t256 t259).size : Int) then (if ((rdOf ByteArray.empty t256 t259).extract 0 3).size + 2 ≤ 9223372036854775807 then ((spec_Digits.f k bt253.2.2 2).bind fun t265 => (if (((rdOf ByteArray.empty t256 t259).extract 0 3) ++ (⟨#[44, 32]⟩ : ByteArray)).size + t265.size ≤ 9223372036854775807 then (if ((((rdOf ByteArray.empty t256 t259).extract 0 3) ++ (⟨#[44, 32]⟩ : ByteArray)) ++ t265).size + 1 ≤ 9223372036854775807 then (if (((((rdOf ByteArray.empty t256 t259).extract 0 3) ++ (⟨#[44, 32]⟩ : ByteArray)) ++ t265) ++ (⟨#[32]⟩ : ByteArray)).size + (rdOf ByteArray.empty t261 (wrap64 (bt253.2.1 - 1))).size ≤ 9223372036854775807 then (if ((((((rdOf ByteArray.empty t256 t259).extract 0 3) ++ (⟨#[44, 32]⟩ : ByteArray)) ++ t265) ++ (⟨#[32]⟩ : ByteArray)) ++ (rdOf ByteArray.empty t261 (wrap64 (bt253.2.1 - 1)))).size + 1 ≤ 9223372036854775807 then ((spec_Digits.f k bt253.1 4).bind fun t266 => (if (((((((rdOf ByteArray.empty t256 t259).extract 0 3) ++ (⟨#[44, 32]⟩ : ByteArray)) ++ t265) ++ (⟨#[32]⟩ : ByteArray)) ++ (rdOf ByteArray.empty t261 (wrap64 (bt253.2.1 - 1)))) ++ (⟨#[32]⟩ : ByteArray)).size + t266.size ≤ 9223372036854775807 then (if ((((((((rdOf ByteArray.empty t256 t259).extract 0 3) ++ (⟨#[44, 32]⟩ : ByteArray)) ++ t265) ++ (⟨#[32]⟩ : ByteArray)) ++ (rdOf ByteArray.empty t261 (wrap64 (bt253.2.1 - 1)))) ++ (⟨#[32]⟩ : ByteArray)) ++ t266).size + 1 ≤ 9223372036854775807 then ((spec_l3Clock.f k a0).bind fun t267 => (if (((((((((rdOf ByteArray.empty t256 t259).extract 0 3) ++ (⟨#[44, 32]⟩ : ByteArray)) ++ t265) ++ (⟨#[32]⟩ : ByteArray)) ++ (rdOf ByteArray.empty t261 (wrap64 (bt253.2.1 - 1)))) ++ (⟨#[32]⟩ : ByteArray)) ++ t266) ++ (⟨#[32]⟩ : ByteArray)).size + t267.size ≤ 9223372036854775807 then (if ((((((((((rdOf ByteArray.empty t256 t259).extract 0 3) ++ (⟨#[44, 32]⟩ : ByteArray)) ++ t265) ++ (⟨#[32]⟩ : ByteArray)) ++ (rdOf ByteArray.empty t261 (wrap64 (bt253.2.1 - 1)))) ++ (⟨#[32]⟩ : ByteArray)) ++ t266) ++ (⟨#[32]⟩ : ByteArray)) ++ t267).size + 4 ≤ 9223372036854775807 then (if (rdOf ByteArray.empty t256 t259).size + 2 ≤ 9223372036854775807 then ((spec_Digits.f k bt253.2.2 2).bind fun t268 => (if ((rdOf ByteArray.empty t256 t259) ++ (⟨#[44, 32]⟩ : ByteArray)).size + t268.size ≤ 9223372036854775807 then (if (((rdOf ByteArray.empty t256 t259) ++ (⟨#[44, 32]⟩ : ByteArray)) ++ t268).size + 1 ≤ 9223372036854775807 then (if ((((rdOf ByteArray.empty t256 t259) ++ (⟨#[44, 32]⟩ : ByteArray)) ++ t268) ++ (⟨#[45]⟩ : ByteArray)).size + (rdOf ByteArray.empty t261 (wrap64 (bt253.2.1 - 1))).size ≤ 9223372036854775807 then (if (((((rdOf ByteArray.empty t256 t259) ++ (⟨#[44, 32]⟩ : ByteArray)) ++ t268) ++ (⟨#[45]⟩ : ByteArray)) ++ (rdOf ByteArray.empty t261 (wrap64 (bt253.2.1 - 1)))).size + 1 ≤ 9223372036854775807 then ((spec_Digits.f k (Int.tmod bt253.1 100) 2).bind fun t269 => (if ((((((rdOf ByteArray.empty t256 t259) ++ (⟨#[44, 32]⟩ : ByteArray)) ++ t268) ++ (⟨#[45]⟩ : ByteArray)) ++ (rdOf ByteArray.empty t261 (wrap64 (bt253.2.1 - 1)))) ++ (⟨#[45]⟩ : ByteArray)).size + t269.size ≤ 9223372036854775807 then (if (((((((rdOf ByteArray.empty t256 t259) ++ (⟨#[44, 32]⟩ : ByteArray)) ++ t268) ++ (⟨#[45]⟩ : ByteArray)) ++ (rdOf ByteArray.empty t261 (wrap64 (bt253.2.1 - 1)))) ++ (⟨#[45]⟩ : ByteArray)) ++ t269).size + 1 ≤ 9223372036854775807 then ((spec_l3Clock.f k a0).bind fun t270 => (if ((((((((rdOf ByteArray.empty t256 t259) ++ (⟨#[44, 32]⟩ : ByteArray)) ++ t268) ++ (⟨#[45]⟩ : ByteArray)) ++ (rdOf ByteArray.empty t261 (wrap64 (bt253.2.1 - 1)))) ++ (⟨#[45]⟩ : ByteArray)) ++ t269) ++ (⟨#[32]⟩ : ByteArray)).size + t270.size ≤ 9223372036854775807 then (if (((((((((rdOf ByteArray.empty t256 t259) ++ (⟨#[44, 32]⟩ : ByteArray)) ++ t268) ++ (⟨#[45]⟩ : ByteArray)) ++ (rdOf ByteArray.empty t261 (wrap64 (bt253.2.1 - 1)))) ++ (⟨#[45]⟩ : ByteArray)) ++ t269) ++ (⟨#[32]⟩ : ByteArray)) ++ t270).size + 4 ≤ 9223372036854775807 then ((spec_Digits.f k bt253.2.2 2).bind fun t271 => (if bt253.2.2 < 10 then ((spec_FormatInt.f k bt253.2.2).bind fun t272 => (if 1 + t272.size ≤ 9223372036854775807 then (if ((rdOf ByteArray.empty t256 t259).extract 0 3).size + 1 ≤ 9223372036854775807 then (if (((rdOf ByteArray.empty t256 t259).extract 0 3) ++ (⟨#[32]⟩ : ByteArray)).size + (rdOf ByteArray.empty t261 (wrap64 (bt253.2.1 - 1))).size ≤ 9223372036854775807 then (if ((((rdOf ByteArray.empty t256 t259).extract 0 3) ++ (⟨#[32]⟩ : ByteArray)) ++ (rdOf ByteArray.empty t261 (wrap64 (bt253.2.1 - 1)))).size + 1 ≤ 9223372036854775807 then (if (((((rdOf ByteArray.empty t256 t259).extract 0 3) ++ (⟨#[32]⟩ : ByteArray)) ++ (rdOf ByteArray.empty t261 (wrap64 (bt253.2.1 - 1)))) ++ (⟨#[32]⟩ : ByteArray)).size + ((⟨#[32]⟩ : ByteArray) ++ t272).size ≤ 9223372036854775807 then (if ((((((rdOf ByteArray.empty t256 t259).extract 0 3) ++ (⟨#[32]⟩ : ByteArray)) ++ (rdOf ByteArray.empty t261 (wrap64 (bt253.2.1 - 1)))) ++ (⟨#[32]⟩ : ByteArray)) ++ ((⟨#[32]⟩ : ByteArray) ++ t272)).size + 1 ≤ 9223372036854775807 then ((spec_l3Clock.f k a0).bind fun t273 => (if (((((((rdOf ByteArray.empty t256 t259).extract 0 3) ++ (⟨#[32]⟩ : ByteArray)) ++ (rdOf ByteArray.empty t261 (wrap64 (bt253.2.1 - 1)))) ++ (⟨#[32]⟩ : ByteArray)) ++ ((⟨#[32]⟩ : ByteArray) ++ t272)) ++ (⟨#[32]⟩ : ByteArray)).size + t273.size ≤ 9223372036854775807 then (if ((((((((rdOf ByteArray.empty t256 t259).extract 0 3) ++ (⟨#[32]⟩ : ByteArray)) ++ (rdOf ByteArray.empty t261 (wrap64 (bt253.2.1 - 1)))) ++ (⟨#[32]⟩ : ByteArray)) ++ ((⟨#[32]⟩ : ByteArray) ++ t272)) ++ (⟨#[32]⟩ : ByteArray)) ++ t273).size + 1 ≤ 9223372036854775807 then ((spec_Digits.f k bt253.1 4).bind fun t274 => (if (((((((((rdOf ByteArray.empty t256 t259).extract 0 3) ++ (⟨#[32]⟩ : ByteArray)) ++ (rdOf ByteArray.empty t261 (wrap64 (bt253.2.1 - 1)))) ++ (⟨#[32]⟩ : ByteArray)) ++ ((⟨#[32]⟩ : ByteArray) ++ t272)) ++ (⟨#[32]⟩ : ByteArray)) ++ t273) ++ (⟨#[32]⟩ : ByteArray)).size + t274.size ≤ 9223372036854775807 then (some (([((((((((((rdOf ByteArray.empty t256 t259).extract 0 3) ++ (⟨#[44, 32]⟩ : ByteArray)) ++ t265) ++ (⟨#[32]⟩ : ByteArray)) ++ (rdOf ByteArray.empty t261 (wrap64 (bt253.2.1 - 1)))) ++ (⟨#[32]⟩ : ByteArray)) ++ t266) ++ (⟨#[32]⟩ : ByteArray)) ++ t267) ++ (⟨#[32, 71, 77, 84]⟩ : ByteArray), (((((((((rdOf ByteArray.empty t256 t259) ++ (⟨#[44, 32]⟩ : ByteArray)) ++ t268) ++ (⟨#[45]⟩ : ByteArray)) ++ (rdOf ByteArray.empty t261 (wrap64 (bt253.2.1 - 1)))) ++ (⟨#[45]⟩ : ByteArray)) ++ t269) ++ (⟨#[32]⟩ : ByteArray)) ++ t270) ++ (⟨#[32, 71, 77, 84]⟩ : ByteArray), (((((((((rdOf ByteArray.empty t256 t259).extract 0 3) ++ (⟨#[32]⟩ : ByteArray)) ++ (rdOf ByteArray.empty t261 (wrap64 (bt253.2.1 - 1)))) ++ (⟨#[32]⟩ : ByteArray)) ++ ((⟨#[32]⟩ : ByteArray) ++ t272)) ++ (⟨#[32]⟩ : ByteArray)) ++ t273) ++ (⟨#[32]⟩ : ByteArray)) ++ t274] : List ByteArray))) else (none))) else (none)) else (none))) else (none)) else (none)) else (none)) else (none)) else (none)) else (none))) else (if ((rdOf ByteArray.empty t256 t259).extract 0 3).size + 1 ≤ 9223372036854775807 then (if (((rdOf ByteArray.empty t256 t259).extract 0 3) ++ (⟨#[32]⟩ : ByteArray)).size + (rdOf ByteArray.empty t261 (wrap64 (bt253.2.1 - 1))).size ≤ 9223372036854775807 then (if ((((rdOf ByteArray.empty t256 t259).extract 0 3) ++ (⟨#[32]⟩ : ByteArray)) ++ (rdOf ByteArray.empty t261 (wrap64 (bt253.2.1 - 1)))).size + 1 ≤ 9223372036854775807 then (if (((((rdOf ByteArray.empty t256 t259).extract 0 3) ++ (⟨#[32]⟩ : ByteArray)) ++ (rdOf ByteArray.empty t261 (wrap64 (bt253.2.1 - 1)))) ++ (⟨#[32]⟩ : ByteArray)).size + t271.size ≤ 9223372036854775807 then (if ((((((rdOf ByteArray.empty t256 t259).extract 0 3) ++ (⟨#[32]⟩ : ByteArray)) ++ (rdOf ByteArray.empty t261 (wrap64 (bt253.2.1 - 1)))) ++ (⟨#[32]⟩ : ByteArray)) ++ t271).size + 1 ≤ 9223372036854775807 then ((spec_l3Clock.f k a0).bind fun t278 => (if (((((((rdOf ByteArray.empty t256 t259).extract 0 3) ++ (⟨#[32]⟩ : ByteArray)) ++ (rdOf ByteArray.empty t261 (wrap64 (bt253.2.1 - 1)))) ++ (⟨#[32]⟩ : ByteArray)) ++ t271) ++ (⟨#[32]⟩ : ByteArray)).size + t278.size ≤ 9223372036854775807 then (if ((((((((rdOf ByteArray.empty t256 t259).extract 0 3) ++ (⟨#[32]⟩ : ByteArray)) ++ (rdOf ByteArray.empty t261 (wrap64 (bt253.2.1 - 1)))) ++ (⟨#[32]⟩ : ByteArray)) ++ t271) ++ (⟨#[32]⟩ : ByteArray)) ++ t278).size + 1 ≤ 9223372036854775807 then ((spec_Digits.f k bt253.1 4).bind fun t279 => (if (((((((((rdOf ByteArray.empty t256 t259).extract 0 3) ++ (⟨#[32]⟩ : ByteArray)) ++ (rdOf ByteArray.empty t261 (wrap64 (bt253.2.1 - 1)))) ++ (⟨#[32]⟩ : ByteArray)) ++ t271) ++ (⟨#[32]⟩ : ByteArray)) ++ t278) ++ (⟨#[32]⟩ : ByteArray)).size + t279.size ≤ 9223372036854775807 then (some (([((((((((((rdOf ByteArray.empty t256 t259).extract 0 3) ++ (⟨#[44, 32]⟩ : ByteArray)) ++ t265) ++ (⟨#[32]⟩ : ByteArray)) ++ (rdOf ByteArray.empty t261 (wrap64 (bt253.2.1 - 1)))) ++ (⟨#[32]⟩ : ByteArray)) ++ t266) ++ (⟨#[32]⟩ : ByteArray)) ++ t267) ++ (⟨#[32, 71, 77, 84]⟩ : ByteArray), (((((((((rdOf ByteArray.empty t256 t259) ++ (⟨#[44, 32]⟩ : ByteArray)) ++ t268) ++ (⟨#[45]⟩ : ByteArray)) ++ (rdOf ByteArray.empty t261 (wrap64 (bt253.2.1 - 1)))) ++ (⟨#[45]⟩ : ByteArray)) ++ t269) ++ (⟨#[32]⟩ : ByteArray)) ++ t270) ++ (⟨#[32, 71, 77, 84]⟩ : ByteArray), (((((((((rdOf ByteArray.empty t256 t259).extract 0 3) ++ (⟨#[32]⟩ : ByteArray)) ++ (rdOf ByteArray.empty t261 (wrap64 (bt253.2.1 - 1)))) ++ (⟨#[32]⟩ : ByteArray)) ++ t271) ++ (⟨#[32]⟩ : ByteArray)) ++ t278) ++ (⟨#[32]⟩ : ByteArray)) ++ t279] : List ByteArray))) else (none))) else (none)) else (none))) else (none)) else (none)) else (none)) else (none)) else (none)))) else (none)) else (none))) else (none)) else (none))) else (none)) else (none)) else (none)) else (none))) else (none)) else (none)) else (none))) else (none)) else (none))) else (none)) else (none)) else (none)) else (none))) else (none)) else (none)) else (none)) else (none)) else (none))) else (none)) else (none))))) = some r := h
  clear h
  replace H := Option.bind_eq_some_iff.mp H
  obtain ⟨⟨t253, t254, t255⟩, A20, H⟩ := H
  (try dsimp only at H)
  have A2 := Aside0.mk A20
  clear A20
  replace H := Option.bind_eq_some_iff.mp H
  obtain ⟨t256, A30, H⟩ := H
  (try dsimp only at H)
  have A3 := Aside0.mk A30
  clear A30
  replace H := Option.bind_eq_some_iff.mp H
  obtain ⟨t259, A40, H⟩ := H
  (try dsimp only at H)
  have A4 := Aside0.mk A40
  clear A40
  by_cases c5 : 0 ≤ t259
  · rw [if_pos c5] at H
    have c5b0 : decide (0 ≤ t259) = true := decide_eq_true c5
    clear c5
    by_cases c6 : t259 < (t256.length : Int)
    · rw [if_pos c6] at H
      have c6b0 : decide (t259 < (t256.length : Int)) = true := decide_eq_true c6
      clear c6
      replace H := Option.bind_eq_some_iff.mp H
      obtain ⟨t261, A70, H⟩ := H
      (try dsimp only at H)
      have A7 := Aside0.mk A70
      clear A70
      obtain ⟨ji8, hji8⟩ : ∃ j_ : Int, (wrap64 (t254 - 1)) = j_ := ⟨_, rfl⟩
      replace H : (if 0 ≤ (ji8) then (if (ji8) < (t261.length : Int) then (if 0 ≤ 3 then (if 3 ≤ ((rdOf ByteArray.empty t256 t259).size : Int) then (if ((rdOf ByteArray.empty t256 t259).extract 0 3).size + 2 ≤ 9223372036854775807 then ((spec_Digits.f k t255 2).bind fun t265 => (if (((rdOf ByteArray.empty t256 t259).extract 0 3) ++ (⟨#[44, 32]⟩ : ByteArray)).size + t265.size ≤ 9223372036854775807 then (if ((((rdOf ByteArray.empty t256 t259).extract 0 3) ++ (⟨#[44, 32]⟩ : ByteArray)) ++ t265).size + 1 ≤ 9223372036854775807 then (if (((((rdOf ByteArray.empty t256 t259).extract 0 3) ++ (⟨#[44, 32]⟩ : ByteArray)) ++ t265) ++ (⟨#[32]⟩ : ByteArray)).size + (rdOf ByteArray.empty t261 (ji8)).size ≤ 9223372036854775807 then (if ((((((rdOf ByteArray.empty t256 t259).extract 0 3) ++ (⟨#[44, 32]⟩ : ByteArray)) ++ t265) ++ (⟨#[32]⟩ : ByteArray)) ++ (rdOf ByteArray.empty t261 (ji8))).size + 1 ≤ 9223372036854775807 then ((spec_Digits.f k t253 4).bind fun t266 => (if (((((((rdOf ByteArray.empty t256 t259).extract 0 3) ++ (⟨#[44, 32]⟩ : ByteArray)) ++ t265) ++ (⟨#[32]⟩ : ByteArray)) ++ (rdOf ByteArray.empty t261 (ji8))) ++ (⟨#[32]⟩ : ByteArray)).size + t266.size ≤ 9223372036854775807 then (if ((((((((rdOf ByteArray.empty t256 t259).extract 0 3) ++ (⟨#[44, 32]⟩ : ByteArray)) ++ t265) ++ (⟨#[32]⟩ : ByteArray)) ++ (rdOf ByteArray.empty t261 (ji8))) ++ (⟨#[32]⟩ : ByteArray)) ++ t266).size + 1 ≤ 9223372036854775807 then ((spec_l3Clock.f k a0).bind fun t267 => (if (((((((((rdOf ByteArray.empty t256 t259).extract 0 3) ++ (⟨#[44, 32]⟩ : ByteArray)) ++ t265) ++ (⟨#[32]⟩ : ByteArray)) ++ (rdOf ByteArray.empty t261 (ji8))) ++ (⟨#[32]⟩ : ByteArray)) ++ t266) ++ (⟨#[32]⟩ : ByteArray)).size + t267.size ≤ 9223372036854775807 then (if ((((((((((rdOf ByteArray.empty t256 t259).extract 0 3) ++ (⟨#[44, 32]⟩ : ByteArray)) ++ t265) ++ (⟨#[32]⟩ : ByteArray)) ++ (rdOf ByteArray.empty t261 (ji8))) ++ (⟨#[32]⟩ : ByteArray)) ++ t266) ++ (⟨#[32]⟩ : ByteArray)) ++ t267).size + 4 ≤ 9223372036854775807 then (if (rdOf ByteArray.empty t256 t259).size + 2 ≤ 9223372036854775807 then ((spec_Digits.f k t255 2).bind fun t268 => (if ((rdOf ByteArray.empty t256 t259) ++ (⟨#[44, 32]⟩ : ByteArray)).size + t268.size ≤ 9223372036854775807 then (if (((rdOf ByteArray.empty t256 t259) ++ (⟨#[44, 32]⟩ : ByteArray)) ++ t268).size + 1 ≤ 9223372036854775807 then (if ((((rdOf ByteArray.empty t256 t259) ++ (⟨#[44, 32]⟩ : ByteArray)) ++ t268) ++ (⟨#[45]⟩ : ByteArray)).size + (rdOf ByteArray.empty t261 (ji8)).size ≤ 9223372036854775807 then (if (((((rdOf ByteArray.empty t256 t259) ++ (⟨#[44, 32]⟩ : ByteArray)) ++ t268) ++ (⟨#[45]⟩ : ByteArray)) ++ (rdOf ByteArray.empty t261 (ji8))).size + 1 ≤ 9223372036854775807 then ((spec_Digits.f k (Int.tmod t253 100) 2).bind fun t269 => (if ((((((rdOf ByteArray.empty t256 t259) ++ (⟨#[44, 32]⟩ : ByteArray)) ++ t268) ++ (⟨#[45]⟩ : ByteArray)) ++ (rdOf ByteArray.empty t261 (ji8))) ++ (⟨#[45]⟩ : ByteArray)).size + t269.size ≤ 9223372036854775807 then (if (((((((rdOf ByteArray.empty t256 t259) ++ (⟨#[44, 32]⟩ : ByteArray)) ++ t268) ++ (⟨#[45]⟩ : ByteArray)) ++ (rdOf ByteArray.empty t261 (ji8))) ++ (⟨#[45]⟩ : ByteArray)) ++ t269).size + 1 ≤ 9223372036854775807 then ((spec_l3Clock.f k a0).bind fun t270 => (if ((((((((rdOf ByteArray.empty t256 t259) ++ (⟨#[44, 32]⟩ : ByteArray)) ++ t268) ++ (⟨#[45]⟩ : ByteArray)) ++ (rdOf ByteArray.empty t261 (ji8))) ++ (⟨#[45]⟩ : ByteArray)) ++ t269) ++ (⟨#[32]⟩ : ByteArray)).size + t270.size ≤ 9223372036854775807 then (if (((((((((rdOf ByteArray.empty t256 t259) ++ (⟨#[44, 32]⟩ : ByteArray)) ++ t268) ++ (⟨#[45]⟩ : ByteArray)) ++ (rdOf ByteArray.empty t261 (ji8))) ++ (⟨#[45]⟩ : ByteArray)) ++ t269) ++ (⟨#[32]⟩ : ByteArray)) ++ t270).size + 4 ≤ 9223372036854775807 then ((spec_Digits.f k t255 2).bind fun t271 => (if t255 < 10 then ((spec_FormatInt.f k t255).bind fun t272 => (if 1 + t272.size ≤ 9223372036854775807 then (if ((rdOf ByteArray.empty t256 t259).extract 0 3).size + 1 ≤ 9223372036854775807 then (if (((rdOf ByteArray.empty t256 t259).extract 0 3) ++ (⟨#[32]⟩ : ByteArray)).size + (rdOf ByteArray.empty t261 (ji8)).size ≤ 9223372036854775807 then (if ((((rdOf ByteArray.empty t256 t259).extract 0 3) ++ (⟨#[32]⟩ : ByteArray)) ++ (rdOf ByteArray.empty t261 (ji8))).size + 1 ≤ 9223372036854775807 then (if (((((rdOf ByteArray.empty t256 t259).extract 0 3) ++ (⟨#[32]⟩ : ByteArray)) ++ (rdOf ByteArray.empty t261 (ji8))) ++ (⟨#[32]⟩ : ByteArray)).size + ((⟨#[32]⟩ : ByteArray) ++ t272).size ≤ 9223372036854775807 then (if ((((((rdOf ByteArray.empty t256 t259).extract 0 3) ++ (⟨#[32]⟩ : ByteArray)) ++ (rdOf ByteArray.empty t261 (ji8))) ++ (⟨#[32]⟩ : ByteArray)) ++ ((⟨#[32]⟩ : ByteArray) ++ t272)).size + 1 ≤ 9223372036854775807 then ((spec_l3Clock.f k a0).bind fun t273 => (if (((((((rdOf ByteArray.empty t256 t259).extract 0 3) ++ (⟨#[32]⟩ : ByteArray)) ++ (rdOf ByteArray.empty t261 (ji8))) ++ (⟨#[32]⟩ : ByteArray)) ++ ((⟨#[32]⟩ : ByteArray) ++ t272)) ++ (⟨#[32]⟩ : ByteArray)).size + t273.size ≤ 9223372036854775807 then (if ((((((((rdOf ByteArray.empty t256 t259).extract 0 3) ++ (⟨#[32]⟩ : ByteArray)) ++ (rdOf ByteArray.empty t261 (ji8))) ++ (⟨#[32]⟩ : ByteArray)) ++ ((⟨#[32]⟩ : ByteArray) ++ t272)) ++ (⟨#[32]⟩ : ByteArray)) ++ t273).size + 1 ≤ 9223372036854775807 then ((spec_Digits.f k t253 4).bind fun t274 => (if (((((((((rdOf ByteArray.empty t256 t259).extract 0 3) ++ (⟨#[32]⟩ : ByteArray)) ++ (rdOf ByteArray.empty t261 (ji8))) ++ (⟨#[32]⟩ : ByteArray)) ++ ((⟨#[32]⟩ : ByteArray) ++ t272)) ++ (⟨#[32]⟩ : ByteArray)) ++ t273) ++ (⟨#[32]⟩ : ByteArray)).size + t274.size ≤ 9223372036854775807 then (some (([((((((((((rdOf ByteArray.empty t256 t259).extract 0 3) ++ (⟨#[44, 32]⟩ : ByteArray)) ++ t265) ++ (⟨#[32]⟩ : ByteArray)) ++ (rdOf ByteArray.empty t261 (ji8))) ++ (⟨#[32]⟩ : ByteArray)) ++ t266) ++ (⟨#[32]⟩ : ByteArray)) ++ t267) ++ (⟨#[32, 71, 77, 84]⟩ : ByteArray), (((((((((rdOf ByteArray.empty t256 t259) ++ (⟨#[44, 32]⟩ : ByteArray)) ++ t268) ++ (⟨#[45]⟩ : ByteArray)) ++ (rdOf ByteArray.empty t261 (ji8))) ++ (⟨#[45]⟩ : ByteArray)) ++ t269) ++ (⟨#[32]⟩ : ByteArray)) ++ t270) ++ (⟨#[32, 71, 77, 84]⟩ : ByteArray), (((((((((rdOf ByteArray.empty t256 t259).extract 0 3) ++ (⟨#[32]⟩ : ByteArray)) ++ (rdOf ByteArray.empty t261 (ji8))) ++ (⟨#[32]⟩ : ByteArray)) ++ ((⟨#[32]⟩ : ByteArray) ++ t272)) ++ (⟨#[32]⟩ : ByteArray)) ++ t273) ++ (⟨#[32]⟩ : ByteArray)) ++ t274] : List ByteArray))) else (none))) else (none)) else (none))) else (none)) else (none)) else (none)) else (none)) else (none)) else (none))) else (if ((rdOf ByteArray.empty t256 t259).extract 0 3).size + 1 ≤ 9223372036854775807 then (if (((rdOf ByteArray.empty t256 t259).extract 0 3) ++ (⟨#[32]⟩ : ByteArray)).size + (rdOf ByteArray.empty t261 (ji8)).size ≤ 9223372036854775807 then (if ((((rdOf ByteArray.empty t256 t259).extract 0 3) ++ (⟨#[32]⟩ : ByteArray)) ++ (rdOf ByteArray.empty t261 (ji8))).size + 1 ≤ 9223372036854775807 then (if (((((rdOf ByteArray.empty t256 t259).extract 0 3) ++ (⟨#[32]⟩ : ByteArray)) ++ (rdOf ByteArray.empty t261 (ji8))) ++ (⟨#[32]⟩ : ByteArray)).size + t271.size ≤ 9223372036854775807 then (if ((((((rdOf ByteArray.empty t256 t259).extract 0 3) ++ (⟨#[32]⟩ : ByteArray)) ++ (rdOf ByteArray.empty t261 (ji8))) ++ (⟨#[32]⟩ : ByteArray)) ++ t271).size + 1 ≤ 9223372036854775807 then ((spec_l3Clock.f k a0).bind fun t278 => (if (((((((rdOf ByteArray.empty t256 t259).extract 0 3) ++ (⟨#[32]⟩ : ByteArray)) ++ (rdOf ByteArray.empty t261 (ji8))) ++ (⟨#[32]⟩ : ByteArray)) ++ t271) ++ (⟨#[32]⟩ : ByteArray)).size + t278.size ≤ 9223372036854775807 then (if ((((((((rdOf ByteArray.empty t256 t259).extract 0 3) ++ (⟨#[32]⟩ : ByteArray)) ++ (rdOf ByteArray.empty t261 (ji8))) ++ (⟨#[32]⟩ : ByteArray)) ++ t271) ++ (⟨#[32]⟩ : ByteArray)) ++ t278).size + 1 ≤ 9223372036854775807 then ((spec_Digits.f k t253 4).bind fun t279 => (if (((((((((rdOf ByteArray.empty t256 t259).extract 0 3) ++ (⟨#[32]⟩ : ByteArray)) ++ (rdOf ByteArray.empty t261 (ji8))) ++ (⟨#[32]⟩ : ByteArray)) ++ t271) ++ (⟨#[32]⟩ : ByteArray)) ++ t278) ++ (⟨#[32]⟩ : ByteArray)).size + t279.size ≤ 9223372036854775807 then (some (([((((((((((rdOf ByteArray.empty t256 t259).extract 0 3) ++ (⟨#[44, 32]⟩ : ByteArray)) ++ t265) ++ (⟨#[32]⟩ : ByteArray)) ++ (rdOf ByteArray.empty t261 (ji8))) ++ (⟨#[32]⟩ : ByteArray)) ++ t266) ++ (⟨#[32]⟩ : ByteArray)) ++ t267) ++ (⟨#[32, 71, 77, 84]⟩ : ByteArray), (((((((((rdOf ByteArray.empty t256 t259) ++ (⟨#[44, 32]⟩ : ByteArray)) ++ t268) ++ (⟨#[45]⟩ : ByteArray)) ++ (rdOf ByteArray.empty t261 (ji8))) ++ (⟨#[45]⟩ : ByteArray)) ++ t269) ++ (⟨#[32]⟩ : ByteArray)) ++ t270) ++ (⟨#[32, 71, 77, 84]⟩ : ByteArray), (((((((((rdOf ByteArray.empty t256 t259).extract 0 3) ++ (⟨#[32]⟩ : ByteArray)) ++ (rdOf ByteArray.empty t261 (ji8))) ++ (⟨#[32]⟩ : ByteArray)) ++ t271) ++ (⟨#[32]⟩ : ByteArray)) ++ t278) ++ (⟨#[32]⟩ : ByteArray)) ++ t279] : List ByteArray))) else (none))) else (none)) else (none))) else (none)) else (none)) else (none)) else (none)) else (none)))) else (none)) else (none))) else (none)) else (none))) else (none)) else (none)) else (none)) else (none))) else (none)) else (none)) else (none))) else (none)) else (none))) else (none)) else (none)) else (none)) else (none))) else (none)) else (none)) else (none)) else (none)) else (none)) = some r := by first | (rw [hji8] at H; exact H) | (simp only [hji8] at H ⊢; exact H)
      (try rw [hji8] at A2)
      (try rw [hji8] at A3)
      (try rw [hji8] at A4)
      (try rw [hji8] at A7)
      have hji8w : (IntKind.i64.wrap (t254 - 1)) = ji8 := (i64_w _).trans hji8
      by_cases c9 : 0 ≤ (ji8)
      · rw [if_pos c9] at H
        have c9b0 : decide (0 ≤ (ji8)) = true := decide_eq_true c9
        clear c9
        by_cases c10 : (ji8) < (t261.length : Int)
        · rw [if_pos c10] at H
          have c10b0 : decide ((ji8) < (t261.length : Int)) = true := decide_eq_true c10
          clear c10
          by_cases c11 : 0 ≤ 3
          · rw [if_pos c11] at H
            have c11b0 := eq_true c11
            have c11b1 : decide (0 ≤ 3) = true := decide_eq_true c11
            clear c11
            by_cases c12 : 3 ≤ ((rdOf ByteArray.empty t256 t259).size : Int)
            · rw [if_pos c12] at H
              have c12b0 := eq_true c12
              have c12b1 : decide (3 ≤ ((rdOf ByteArray.empty t256 t259).size : Int)) = true := decide_eq_true c12
              clear c12
              by_cases c13 : ((rdOf ByteArray.empty t256 t259).extract 0 3).size + 2 ≤ 9223372036854775807
              · rw [if_pos c13] at H
                have c13b0 := eq_true c13
                have c13b1 : decide (((rdOf ByteArray.empty t256 t259).extract 0 3).size + 2 ≤ 9223372036854775807) = true := decide_eq_true c13
                try (have c13n := c13; simp only [ByteArray.size_append, ByteArray.size_extract, Nat.sub_zero] at c13n; have c13b3 := eq_true c13n; have c13b4 := eq_false (Nat.not_lt.2 c13n); clear c13n)
                try have c13b2 : (9223372036854775807 < ((rdOf ByteArray.empty t256 t259).extract 0 3).size + 2) = False := eq_false (Nat.not_lt.2 c13)
                replace H := Option.bind_eq_some_iff.mp H
                obtain ⟨t265, A140, H⟩ := H
                (try dsimp only at H)
                have A14 := Aside0.mk A140
                clear A140
                by_cases c15 : (((rdOf ByteArray.empty t256 t259).extract 0 3) ++ (⟨#[44, 32]⟩ : ByteArray)).size + t265.size ≤ 9223372036854775807
                · rw [if_pos c15] at H
                  have c15b0 := eq_true c15
                  have c15b1 : decide ((((rdOf ByteArray.empty t256 t259).extract 0 3) ++ (⟨#[44, 32]⟩ : ByteArray)).size + t265.size ≤ 9223372036854775807) = true := decide_eq_true c15
                  try (have c15n := c15; simp only [ByteArray.size_append, ByteArray.size_extract, Nat.sub_zero, show (⟨#[44, 32]⟩ : ByteArray).size = 2 from rfl] at c15n; have c15b3 := eq_true c15n; have c15b4 := eq_false (Nat.not_lt.2 c15n); clear c15n)
                  try have c15b2 : (9223372036854775807 < (((rdOf ByteArray.empty t256 t259).extract 0 3) ++ (⟨#[44, 32]⟩ : ByteArray)).size + t265.size) = False := eq_false (Nat.not_lt.2 c15)
                  by_cases c16 : ((((rdOf ByteArray.empty t256 t259).extract 0 3) ++ (⟨#[44, 32]⟩ : ByteArray)) ++ t265).size + 1 ≤ 9223372036854775807
                  · rw [if_pos c16] at H
                    have c16b0 := eq_true c16
                    have c16b1 : decide (((((rdOf ByteArray.empty t256 t259).extract 0 3) ++ (⟨#[44, 32]⟩ : ByteArray)) ++ t265).size + 1 ≤ 9223372036854775807) = true := decide_eq_true c16
                    try (have c16n := c16; simp only [ByteArray.size_append, ByteArray.size_extract, Nat.sub_zero, show (⟨#[44, 32]⟩ : ByteArray).size = 2 from rfl] at c16n; have c16b3 := eq_true c16n; have c16b4 := eq_false (Nat.not_lt.2 c16n); clear c16n)
                    try have c16b2 : (9223372036854775807 < ((((rdOf ByteArray.empty t256 t259).extract 0 3) ++ (⟨#[44, 32]⟩ : ByteArray)) ++ t265).size + 1) = False := eq_false (Nat.not_lt.2 c16)
                    by_cases c17 : (((((rdOf ByteArray.empty t256 t259).extract 0 3) ++ (⟨#[44, 32]⟩ : ByteArray)) ++ t265) ++ (⟨#[32]⟩ : ByteArray)).size + (rdOf ByteArray.empty t261 (ji8)).size ≤ 9223372036854775807
                    · rw [if_pos c17] at H
                      have c17b0 := eq_true c17
                      have c17b1 : decide ((((((rdOf ByteArray.empty t256 t259).extract 0 3) ++ (⟨#[44, 32]⟩ : ByteArray)) ++ t265) ++ (⟨#[32]⟩ : ByteArray)).size + (rdOf ByteArray.empty t261 (ji8)).size ≤ 9223372036854775807) = true := decide_eq_true c17
                      try (have c17n := c17; simp only [ByteArray.size_append, ByteArray.size_extract, Nat.sub_zero, show (⟨#[32]⟩ : ByteArray).size = 1 from rfl, show (⟨#[44, 32]⟩ : ByteArray).size = 2 from rfl] at c17n; have c17b3 := eq_true c17n; have c17b4 := eq_false (Nat.not_lt.2 c17n); clear c17n)
                      try have c17b2 : (9223372036854775807 < (((((rdOf ByteArray.empty t256 t259).extract 0 3) ++ (⟨#[44, 32]⟩ : ByteArray)) ++ t265) ++ (⟨#[32]⟩ : ByteArray)).size + (rdOf ByteArray.empty t261 (ji8)).size) = False := eq_false (Nat.not_lt.2 c17)
                      by_cases c18 : ((((((rdOf ByteArray.empty t256 t259).extract 0 3) ++ (⟨#[44, 32]⟩ : ByteArray)) ++ t265) ++ (⟨#[32]⟩ : ByteArray)) ++ (rdOf ByteArray.empty t261 (ji8))).size + 1 ≤ 9223372036854775807
                      · rw [if_pos c18] at H
                        have c18b0 := eq_true c18
                        have c18b1 : decide (((((((rdOf ByteArray.empty t256 t259).extract 0 3) ++ (⟨#[44, 32]⟩ : ByteArray)) ++ t265) ++ (⟨#[32]⟩ : ByteArray)) ++ (rdOf ByteArray.empty t261 (ji8))).size + 1 ≤ 9223372036854775807) = true := decide_eq_true c18
                        try (have c18n := c18; simp only [ByteArray.size_append, ByteArray.size_extract, Nat.sub_zero, show (⟨#[32]⟩ : ByteArray).size = 1 from rfl, show (⟨#[44, 32]⟩ : ByteArray).size = 2 from rfl] at c18n; have c18b3 := eq_true c18n; have c18b4 := eq_false (Nat.not_lt.2 c18n); clear c18n)
                        try have c18b2 : (9223372036854775807 < ((((((rdOf ByteArray.empty t256 t259).extract 0 3) ++ (⟨#[44, 32]⟩ : ByteArray)) ++ t265) ++ (⟨#[32]⟩ : ByteArray)) ++ (rdOf ByteArray.empty t261 (ji8))).size + 1) = False := eq_false (Nat.not_lt.2 c18)
                        replace H := Option.bind_eq_some_iff.mp H
                        obtain ⟨t266, A190, H⟩ := H
                        (try dsimp only at H)
                        have A19 := Aside0.mk A190
                        clear A190
                        by_cases c20 : (((((((rdOf ByteArray.empty t256 t259).extract 0 3) ++ (⟨#[44, 32]⟩ : ByteArray)) ++ t265) ++ (⟨#[32]⟩ : ByteArray)) ++ (rdOf ByteArray.empty t261 (ji8))) ++ (⟨#[32]⟩ : ByteArray)).size + t266.size ≤ 9223372036854775807
                        · rw [if_pos c20] at H
                          have c20b0 := eq_true c20
                          have c20b1 : decide ((((((((rdOf ByteArray.empty t256 t259).extract 0 3) ++ (⟨#[44, 32]⟩ : ByteArray)) ++ t265) ++ (⟨#[32]⟩ : ByteArray)) ++ (rdOf ByteArray.empty t261 (ji8))) ++ (⟨#[32]⟩ : ByteArray)).size + t266.size ≤ 9223372036854775807) = true := decide_eq_true c20
                          try (have c20n := c20; simp only [ByteArray.size_append, ByteArray.size_extract, Nat.sub_zero, show (⟨#[32]⟩ : ByteArray).size = 1 from rfl, show (⟨#[44, 32]⟩ : ByteArray).size = 2 from rfl] at c20n; have c20b3 := eq_true c20n; have c20b4 := eq_false (Nat.not_lt.2 c20n); clear c20n)
                          try have c20b2 : (9223372036854775807 < (((((((rdOf ByteArray.empty t256 t259).extract 0 3) ++ (⟨#[44, 32]⟩ : ByteArray)) ++ t265) ++ (⟨#[32]⟩ : ByteArray)) ++ (rdOf ByteArray.empty t261 (ji8))) ++ (⟨#[32]⟩ : ByteArray)).size + t266.size) = False := eq_false (Nat.not_lt.2 c20)
                          by_cases c21 : ((((((((rdOf ByteArray.empty t256 t259).extract 0 3) ++ (⟨#[44, 32]⟩ : ByteArray)) ++ t265) ++ (⟨#[32]⟩ : ByteArray)) ++ (rdOf ByteArray.empty t261 (ji8))) ++ (⟨#[32]⟩ : ByteArray)) ++ t266).size + 1 ≤ 9223372036854775807
                          · rw [if_pos c21] at H
                            have c21b0 := eq_true c21
                            have c21b1 : decide (((((((((rdOf ByteArray.empty t256 t259).extract 0 3) ++ (⟨#[44, 32]⟩ : ByteArray)) ++ t265) ++ (⟨#[32]⟩ : ByteArray)) ++ (rdOf ByteArray.empty t261 (ji8))) ++ (⟨#[32]⟩ : ByteArray)) ++ t266).size + 1 ≤ 9223372036854775807) = true := decide_eq_true c21
                            try (have c21n := c21; simp only [ByteArray.size_append, ByteArray.size_extract, Nat.sub_zero, show (⟨#[32]⟩ : ByteArray).size = 1 from rfl, show (⟨#[44, 32]⟩ : ByteArray).size = 2 from rfl] at c21n; have c21b3 := eq_true c21n; have c21b4 := eq_false (Nat.not_lt.2 c21n); clear c21n)
                            try have c21b2 : (9223372036854775807 < ((((((((rdOf ByteArray.empty t256 t259).extract 0 3) ++ (⟨#[44, 32]⟩ : ByteArray)) ++ t265) ++ (⟨#[32]⟩ : ByteArray)) ++ (rdOf ByteArray.empty t261 (ji8))) ++ (⟨#[32]⟩ : ByteArray)) ++ t266).size + 1) = False := eq_false (Nat.not_lt.2 c21)
                            replace H := Option.bind_eq_some_iff.mp H
                            obtain ⟨t267, A220, H⟩ := H
                            (try dsimp only at H)
                            have A22 := Aside0.mk A220
                            clear A220
                            by_cases c23 : (((((((((rdOf ByteArray.empty t256 t259).extract 0 3) ++ (⟨#[44, 32]⟩ : ByteArray)) ++ t265) ++ (⟨#[32]⟩ : ByteArray)) ++ (rdOf ByteArray.empty t261 (ji8))) ++ (⟨#[32]⟩ : ByteArray)) ++ t266) ++ (⟨#[32]⟩ : ByteArray)).size + t267.size ≤ 9223372036854775807
                            · rw [if_pos c23] at H
                              have c23b0 := eq_true c23
                              have c23b1 : decide ((((((((((rdOf ByteArray.empty t256 t259).extract 0 3) ++ (⟨#[44, 32]⟩ : ByteArray)) ++ t265) ++ (⟨#[32]⟩ : ByteArray)) ++ (rdOf ByteArray.empty t261 (ji8))) ++ (⟨#[32]⟩ : ByteArray)) ++ t266) ++ (⟨#[32]⟩ : ByteArray)).size + t267.size ≤ 9223372036854775807) = true := decide_eq_true c23
                              try (have c23n := c23; simp only [ByteArray.size_append, ByteArray.size_extract, Nat.sub_zero, show (⟨#[32]⟩ : ByteArray).size = 1 from rfl, show (⟨#[44, 32]⟩ : ByteArray).size = 2 from rfl] at c23n; have c23b3 := eq_true c23n; have c23b4 := eq_false (Nat.not_lt.2 c23n); clear c23n)
                              try have c23b2 : (9223372036854775807 < (((((((((rdOf ByteArray.empty t256 t259).extract 0 3) ++ (⟨#[44, 32]⟩ : ByteArray)) ++ t265) ++ (⟨#[32]⟩ : ByteArray)) ++ (rdOf ByteArray.empty t261 (ji8))) ++ (⟨#[32]⟩ : ByteArray)) ++ t266) ++ (⟨#[32]⟩ : ByteArray)).size + t267.size) = False := eq_false (Nat.not_lt.2 c23)
                              by_cases c24 : ((((((((((rdOf ByteArray.empty t256 t259).extract 0 3) ++ (⟨#[44, 32]⟩ : ByteArray)) ++ t265) ++ (⟨#[32]⟩ : ByteArray)) ++ (rdOf ByteArray.empty t261 (ji8))) ++ (⟨#[32]⟩ : ByteArray)) ++ t266) ++ (⟨#[32]⟩ : ByteArray)) ++ t267).size + 4 ≤ 9223372036854775807
                              · rw [if_pos c24] at H
                                have c24b0 := eq_true c24
                                have c24b1 : decide (((((((((((rdOf ByteArray.empty t256 t259).extract 0 3) ++ (⟨#[44, 32]⟩ : ByteArray)) ++ t265) ++ (⟨#[32]⟩ : ByteArray)) ++ (rdOf ByteArray.empty t261 (ji8))) ++ (⟨#[32]⟩ : ByteArray)) ++ t266) ++ (⟨#[32]⟩ : ByteArray)) ++ t267).size + 4 ≤ 9223372036854775807) = true := decide_eq_true c24
                                try (have c24n := c24; simp only [ByteArray.size_append, ByteArray.size_extract, Nat.sub_zero, show (⟨#[32]⟩ : ByteArray).size = 1 from rfl, show (⟨#[44, 32]⟩ : ByteArray).size = 2 from rfl] at c24n; have c24b3 := eq_true c24n; have c24b4 := eq_false (Nat.not_lt.2 c24n); clear c24n)
                                try have c24b2 : (9223372036854775807 < ((((((((((rdOf ByteArray.empty t256 t259).extract 0 3) ++ (⟨#[44, 32]⟩ : ByteArray)) ++ t265) ++ (⟨#[32]⟩ : ByteArray)) ++ (rdOf ByteArray.empty t261 (ji8))) ++ (⟨#[32]⟩ : ByteArray)) ++ t266) ++ (⟨#[32]⟩ : ByteArray)) ++ t267).size + 4) = False := eq_false (Nat.not_lt.2 c24)
                                by_cases c25 : (rdOf ByteArray.empty t256 t259).size + 2 ≤ 9223372036854775807
                                · rw [if_pos c25] at H
                                  have c25b0 := eq_true c25
                                  have c25b1 : decide ((rdOf ByteArray.empty t256 t259).size + 2 ≤ 9223372036854775807) = true := decide_eq_true c25
                                  try have c25b2 : (9223372036854775807 < (rdOf ByteArray.empty t256 t259).size + 2) = False := eq_false (Nat.not_lt.2 c25)
                                  replace H := Option.bind_eq_some_iff.mp H
                                  obtain ⟨t268, A260, H⟩ := H
                                  (try dsimp only at H)
                                  have A26 := Aside0.mk A260
                                  clear A260
                                  by_cases c27 : ((rdOf ByteArray.empty t256 t259) ++ (⟨#[44, 32]⟩ : ByteArray)).size + t268.size ≤ 9223372036854775807
                                  · rw [if_pos c27] at H
                                    have c27b0 := eq_true c27
                                    have c27b1 : decide (((rdOf ByteArray.empty t256 t259) ++ (⟨#[44, 32]⟩ : ByteArray)).size + t268.size ≤ 9223372036854775807) = true := decide_eq_true c27
                                    try (have c27n := c27; simp only [ByteArray.size_append, show (⟨#[44, 32]⟩ : ByteArray).size = 2 from rfl] at c27n; have c27b3 := eq_true c27n; have c27b4 := eq_false (Nat.not_lt.2 c27n); clear c27n)
                                    try have c27b2 : (9223372036854775807 < ((rdOf ByteArray.empty t256 t259) ++ (⟨#[44, 32]⟩ : ByteArray)).size + t268.size) = False := eq_false (Nat.not_lt.2 c27)
                                    by_cases c28 : (((rdOf ByteArray.empty t256 t259) ++ (⟨#[44, 32]⟩ : ByteArray)) ++ t268).size + 1 ≤ 9223372036854775807
                                    · rw [if_pos c28] at H
                                      have c28b0 := eq_true c28
                                      have c28b1 : decide ((((rdOf ByteArray.empty t256 t259) ++ (⟨#[44, 32]⟩ : ByteArray)) ++ t268).size + 1 ≤ 9223372036854775807) = true := decide_eq_true c28
                                      try (have c28n := c28; simp only [ByteArray.size_append, show (⟨#[44, 32]⟩ : ByteArray).size = 2 from rfl] at c28n; have c28b3 := eq_true c28n; have c28b4 := eq_false (Nat.not_lt.2 c28n); clear c28n)
                                      try have c28b2 : (9223372036854775807 < (((rdOf ByteArray.empty t256 t259) ++ (⟨#[44, 32]⟩ : ByteArray)) ++ t268).size + 1) = False := eq_false (Nat.not_lt.2 c28)
                                      by_cases c29 : ((((rdOf ByteArray.empty t256 t259) ++ (⟨#[44, 32]⟩ : ByteArray)) ++ t268) ++ (⟨#[45]⟩ : ByteArray)).size + (rdOf ByteArray.empty t261 (ji8)).size ≤ 9223372036854775807
                                      · rw [if_pos c29] at H
                                        have c29b0 := eq_true c29
                                        have c29b1 : decide (((((rdOf ByteArray.empty t256 t259) ++ (⟨#[44, 32]⟩ : ByteArray)) ++ t268) ++ (⟨#[45]⟩ : ByteArray)).size + (rdOf ByteArray.empty t261 (ji8)).size ≤ 9223372036854775807) = true := decide_eq_true c29
                                        try (have c29n := c29; simp only [ByteArray.size_append, show (⟨#[44, 32]⟩ : ByteArray).size = 2 from rfl, show (⟨#[45]⟩ : ByteArray).size = 1 from rfl] at c29n; have c29b3 := eq_true c29n; have c29b4 := eq_false (Nat.not_lt.2 c29n); clear c29n)
                                        try have c29b2 : (9223372036854775807 < ((((rdOf ByteArray.empty t256 t259) ++ (⟨#[44, 32]⟩ : ByteArray)) ++ t268) ++ (⟨#[45]⟩ : ByteArray)).size + (rdOf ByteArray.empty t261 (ji8)).size) = False := eq_false (Nat.not_lt.2 c29)
                                        by_cases c30 : (((((rdOf ByteArray.empty t256 t259) ++ (⟨#[44, 32]⟩ : ByteArray)) ++ t268) ++ (⟨#[45]⟩ : ByteArray)) ++ (rdOf ByteArray.empty t261 (ji8))).size + 1 ≤ 9223372036854775807
                                        · rw [if_pos c30] at H
                                          have c30b0 := eq_true c30
                                          have c30b1 : decide ((((((rdOf ByteArray.empty t256 t259) ++ (⟨#[44, 32]⟩ : ByteArray)) ++ t268) ++ (⟨#[45]⟩ : ByteArray)) ++ (rdOf ByteArray.empty t261 (ji8))).size + 1 ≤ 9223372036854775807) = true := decide_eq_true c30
                                          try (have c30n := c30; simp only [ByteArray.size_append, show (⟨#[44, 32]⟩ : ByteArray).size = 2 from rfl, show (⟨#[45]⟩ : ByteArray).size = 1 from rfl] at c30n; have c30b3 := eq_true c30n; have c30b4 := eq_false (Nat.not_lt.2 c30n); clear c30n)
                                          try have c30b2 : (9223372036854775807 < (((((rdOf ByteArray.empty t256 t259) ++ (⟨#[44, 32]⟩ : ByteArray)) ++ t268) ++ (⟨#[45]⟩ : ByteArray)) ++ (rdOf ByteArray.empty t261 (ji8))).size + 1) = False := eq_false (Nat.not_lt.2 c30)
                                          replace H := Option.bind_eq_some_iff.mp H
                                          obtain ⟨t269, A310, H⟩ := H
                                          (try dsimp only at H)
                                          have A31 := Aside0.mk A310
                                          clear A310
                                          by_cases c32 : ((((((rdOf ByteArray.empty t256 t259) ++ (⟨#[44, 32]⟩ : ByteArray)) ++ t268) ++ (⟨#[45]⟩ : ByteArray)) ++ (rdOf ByteArray.empty t261 (ji8))) ++ (⟨#[45]⟩ : ByteArray)).size + t269.size ≤ 9223372036854775807
                                          · rw [if_pos c32] at H
                                            have c32b0 := eq_true c32
                                            have c32b1 : decide (((((((rdOf ByteArray.empty t256 t259) ++ (⟨#[44, 32]⟩ : ByteArray)) ++ t268) ++ (⟨#[45]⟩ : ByteArray)) ++ (rdOf ByteArray.empty t261 (ji8))) ++ (⟨#[45]⟩ : ByteArray)).size + t269.size ≤ 9223372036854775807) = true := decide_eq_true c32
                                            try (have c32n := c32; simp only [ByteArray.size_append, show (⟨#[44, 32]⟩ : ByteArray).size = 2 from rfl, show (⟨#[45]⟩ : ByteArray).size = 1 from rfl] at c32n; have c32b3 := eq_true c32n; have c32b4 := eq_false (Nat.not_lt.2 c32n); clear c32n)
                                            try have c32b2 : (9223372036854775807 < ((((((rdOf ByteArray.empty t256 t259) ++ (⟨#[44, 32]⟩ : ByteArray)) ++ t268) ++ (⟨#[45]⟩ : ByteArray)) ++ (rdOf ByteArray.empty t261 (ji8))) ++ (⟨#[45]⟩ : ByteArray)).size + t269.size) = False := eq_false (Nat.not_lt.2 c32)
                                            by_cases c33 : (((((((rdOf ByteArray.empty t256 t259) ++ (⟨#[44, 32]⟩ : ByteArray)) ++ t268) ++ (⟨#[45]⟩ : ByteArray)) ++ (rdOf ByteArray.empty t261 (ji8))) ++ (⟨#[45]⟩ : ByteArray)) ++ t269).size + 1 ≤ 9223372036854775807
                                            · rw [if_pos c33] at H
                                              have c33b0 := eq_true c33
                                              have c33b1 : decide ((((((((rdOf ByteArray.empty t256 t259) ++ (⟨#[44, 32]⟩ : ByteArray)) ++ t268) ++ (⟨#[45]⟩ : ByteArray)) ++ (rdOf ByteArray.empty t261 (ji8))) ++ (⟨#[45]⟩ : ByteArray)) ++ t269).size + 1 ≤ 9223372036854775807) = true := decide_eq_true c33
                                              try (have c33n := c33; simp only [ByteArray.size_append, show (⟨#[44, 32]⟩ : ByteArray).size = 2 from rfl, show (⟨#[45]⟩ : ByteArray).size = 1 from rfl] at c33n; have c33b3 := eq_true c33n; have c33b4 := eq_false (Nat.not_lt.2 c33n); clear c33n)
                                              try have c33b2 : (9223372036854775807 < (((((((rdOf ByteArray.empty t256 t259) ++ (⟨#[44, 32]⟩ : ByteArray)) ++ t268) ++ (⟨#[45]⟩ : ByteArray)) ++ (rdOf ByteArray.empty t261 (ji8))) ++ (⟨#[45]⟩ : ByteArray)) ++ t269).size + 1) = False := eq_false (Nat.not_lt.2 c33)
                                              replace H := Option.bind_eq_some_iff.mp H
                                              obtain ⟨t270, A340, H⟩ := H
                                              (try dsimp only at H)
                                              have A34 := Aside0.mk A340
                                              clear A340
                                              by_cases c35 : ((((((((rdOf ByteArray.empty t256 t259) ++ (⟨#[44, 32]⟩ : ByteArray)) ++ t268) ++ (⟨#[45]⟩ : ByteArray)) ++ (rdOf ByteArray.empty t261 (ji8))) ++ (⟨#[45]⟩ : ByteArray)) ++ t269) ++ (⟨#[32]⟩ : ByteArray)).size + t270.size ≤ 9223372036854775807
                                              · rw [if_pos c35] at H
                                                have c35b0 := eq_true c35
                                                have c35b1 : decide (((((((((rdOf ByteArray.empty t256 t259) ++ (⟨#[44, 32]⟩ : ByteArray)) ++ t268) ++ (⟨#[45]⟩ : ByteArray)) ++ (rdOf ByteArray.empty t261 (ji8))) ++ (⟨#[45]⟩ : ByteArray)) ++ t269) ++ (⟨#[32]⟩ : ByteArray)).size + t270.size ≤ 9223372036854775807) = true := decide_eq_true c35
                                                try (have c35n := c35; simp only [ByteArray.size_append, show (⟨#[32]⟩ : ByteArray).size = 1 from rfl, show (⟨#[44, 32]⟩ : ByteArray).size = 2 from rfl, show (⟨#[45]⟩ : ByteArray).size = 1 from rfl] at c35n; have c35b3 := eq_true c35n; have c35b4 := eq_false (Nat.not_lt.2 c35n); clear c35n)
                                                try have c35b2 : (9223372036854775807 < ((((((((rdOf ByteArray.empty t256 t259) ++ (⟨#[44, 32]⟩ : ByteArray)) ++ t268) ++ (⟨#[45]⟩ : ByteArray)) ++ (rdOf ByteArray.empty t261 (ji8))) ++ (⟨#[45]⟩ : ByteArray)) ++ t269) ++ (⟨#[32]⟩ : ByteArray)).size + t270.size) = False := eq_false (Nat.not_lt.2 c35)
                                                by_cases c36 : (((((((((rdOf ByteArray.empty t256 t259) ++ (⟨#[44, 32]⟩ : ByteArray)) ++ t268) ++ (⟨#[45]⟩ : ByteArray)) ++ (rdOf ByteArray.empty t261 (ji8))) ++ (⟨#[45]⟩ : ByteArray)) ++ t269) ++ (⟨#[32]⟩ : ByteArray)) ++ t270).size + 4 ≤ 9223372036854775807
                                                · rw [if_pos c36] at H
                                                  have c36b0 := eq_true c36
                                                  have c36b1 : decide ((((((((((rdOf ByteArray.empty t256 t259) ++ (⟨#[44, 32]⟩ : ByteArray)) ++ t268) ++ (⟨#[45]⟩ : ByteArray)) ++ (rdOf ByteArray.empty t261 (ji8))) ++ (⟨#[45]⟩ : ByteArray)) ++ t269) ++ (⟨#[32]⟩ : ByteArray)) ++ t270).size + 4 ≤ 9223372036854775807) = true := decide_eq_true c36
                                                  try (have c36n := c36; simp only [ByteArray.size_append, show (⟨#[32]⟩ : ByteArray).size = 1 from rfl, show (⟨#[44, 32]⟩ : ByteArray).size = 2 from rfl, show (⟨#[45]⟩ : ByteArray).size = 1 from rfl] at c36n; have c36b3 := eq_true c36n; have c36b4 := eq_false (Nat.not_lt.2 c36n); clear c36n)
                                                  try have c36b2 : (9223372036854775807 < (((((((((rdOf ByteArray.empty t256 t259) ++ (⟨#[44, 32]⟩ : ByteArray)) ++ t268) ++ (⟨#[45]⟩ : ByteArray)) ++ (rdOf ByteArray.empty t261 (ji8))) ++ (⟨#[45]⟩ : ByteArray)) ++ t269) ++ (⟨#[32]⟩ : ByteArray)) ++ t270).size + 4) = False := eq_false (Nat.not_lt.2 c36)
                                                  replace H := Option.bind_eq_some_iff.mp H
                                                  obtain ⟨t271, A370, H⟩ := H
                                                  (try dsimp only at H)
                                                  have A37 := Aside0.mk A370
                                                  clear A370
                                                  by_cases c38 : t255 < 10
                                                  · rw [if_pos c38] at H
                                                    have c38b0 : decide (t255 < 10) = true := decide_eq_true c38
                                                    clear c38
                                                    replace H := Option.bind_eq_some_iff.mp H
                                                    obtain ⟨t272, A390, H⟩ := H
                                                    (try dsimp only at H)
                                                    have A39 := Aside0.mk A390
                                                    clear A390
                                                    by_cases c40 : 1 + t272.size ≤ 9223372036854775807
                                                    · rw [if_pos c40] at H
                                                      have c40b0 := eq_true c40
                                                      have c40b1 : decide (1 + t272.size ≤ 9223372036854775807) = true := decide_eq_true c40
                                                      try have c40b2 : (9223372036854775807 < 1 + t272.size) = False := eq_false (Nat.not_lt.2 c40)
                                                      have c41b0 := eq_true (of_decide_eq_true (by first | (with_reducible assumption) | assumption) : 0 ≤ 3)
                                                      have c42b0 := eq_true (of_decide_eq_true (by first | (with_reducible assumption) | assumption) : 3 ≤ ((rdOf ByteArray.empty t256 t259).size : Int))
                                                      by_cases c43 : ((rdOf ByteArray.empty t256 t259).extract 0 3).size + 1 ≤ 9223372036854775807
                                                      · rw [if_pos c43] at H
                                                        have c43b0 := eq_true c43
                                                        have c43b1 : decide (((rdOf ByteArray.empty t256 t259).extract 0 3).size + 1 ≤ 9223372036854775807) = true := decide_eq_true c43
                                                        try (have c43n := c43; simp only [ByteArray.size_append, ByteArray.size_extract, Nat.sub_zero] at c43n; have c43b3 := eq_true c43n; have c43b4 := eq_false (Nat.not_lt.2 c43n); clear c43n)
                                                        try have c43b2 : (9223372036854775807 < ((rdOf ByteArray.empty t256 t259).extract 0 3).size + 1) = False := eq_false (Nat.not_lt.2 c43)
                                                        by_cases c44 : (((rdOf ByteArray.empty t256 t259).extract 0 3) ++ (⟨#[32]⟩ : ByteArray)).size + (rdOf ByteArray.empty t261 (ji8)).size ≤ 9223372036854775807
                                                        · rw [if_pos c44] at H
                                                          have c44b0 := eq_true c44
                                                          have c44b1 : decide ((((rdOf ByteArray.empty t256 t259).extract 0 3) ++ (⟨#[32]⟩ : ByteArray)).size + (rdOf ByteArray.empty t261 (ji8)).size ≤ 9223372036854775807) = true := decide_eq_true c44
                                                          try (have c44n := c44; simp only [ByteArray.size_append, ByteArray.size_extract, Nat.sub_zero, show (⟨#[32]⟩ : ByteArray).size = 1 from rfl] at c44n; have c44b3 := eq_true c44n; have c44b4 := eq_false (Nat.not_lt.2 c44n); clear c44n)
                                                          try have c44b2 : (9223372036854775807 < (((rdOf ByteArray.empty t256 t259).extract 0 3) ++ (⟨#[32]⟩ : ByteArray)).size + (rdOf ByteArray.empty t261 (ji8)).size) = False := eq_false (Nat.not_lt.2 c44)
                                                          by_cases c45 : ((((rdOf ByteArray.empty t256 t259).extract 0 3) ++ (⟨#[32]⟩ : ByteArray)) ++ (rdOf ByteArray.empty t261 (ji8))).size + 1 ≤ 9223372036854775807
                                                          · rw [if_pos c45] at H
                                                            have c45b0 := eq_true c45
                                                            have c45b1 : decide (((((rdOf ByteArray.empty t256 t259).extract 0 3) ++ (⟨#[32]⟩ : ByteArray)) ++ (rdOf ByteArray.empty t261 (ji8))).size + 1 ≤ 9223372036854775807) = true := decide_eq_true c45
                                                            try (have c45n := c45; simp only [ByteArray.size_append, ByteArray.size_extract, Nat.sub_zero, show (⟨#[32]⟩ : ByteArray).size = 1 from rfl] at c45n; have c45b3 := eq_true c45n; have c45b4 := eq_false (Nat.not_lt.2 c45n); clear c45n)
                                                            try have c45b2 : (9223372036854775807 < ((((rdOf ByteArray.empty t256 t259).extract 0 3) ++ (⟨#[32]⟩ : ByteArray)) ++ (rdOf ByteArray.empty t261 (ji8))).size + 1) = False := eq_false (Nat.not_lt.2 c45)
                                                            by_cases c46 : (((((rdOf ByteArray.empty t256 t259).extract 0 3) ++ (⟨#[32]⟩ : ByteArray)) ++ (rdOf ByteArray.empty t261 (ji8))) ++ (⟨#[32]⟩ : ByteArray)).size + ((⟨#[32]⟩ : ByteArray) ++ t272).size ≤ 9223372036854775807
                                                            · rw [if_pos c46] at H
                                                              have c46b0 := eq_true c46
                                                              have c46b1 : decide ((((((rdOf ByteArray.empty t256 t259).extract 0 3) ++ (⟨#[32]⟩ : ByteArray)) ++ (rdOf ByteArray.empty t261 (ji8))) ++ (⟨#[32]⟩ : ByteArray)).size + ((⟨#[32]⟩ : ByteArray) ++ t272).size ≤ 9223372036854775807) = true := decide_eq_true c46
                                                              try (have c46n := c46; simp only [ByteArray.size_append, ByteArray.size_extract, Nat.sub_zero, show (⟨#[32]⟩ : ByteArray).size = 1 from rfl] at c46n; have c46b3 := eq_true c46n; have c46b4 := eq_false (Nat.not_lt.2 c46n); clear c46n)
                                                              try have c46b2 : (9223372036854775807 < (((((rdOf ByteArray.empty t256 t259).extract 0 3) ++ (⟨#[32]⟩ : ByteArray)) ++ (rdOf ByteArray.empty t261 (ji8))) ++ (⟨#[32]⟩ : ByteArray)).size + ((⟨#[32]⟩ : ByteArray) ++ t272).size) = False := eq_false (Nat.not_lt.2 c46)
                                                              by_cases c47 : ((((((rdOf ByteArray.empty t256 t259).extract 0 3) ++ (⟨#[32]⟩ : ByteArray)) ++ (rdOf ByteArray.empty t261 (ji8))) ++ (⟨#[32]⟩ : ByteArray)) ++ ((⟨#[32]⟩ : ByteArray) ++ t272)).size + 1 ≤ 9223372036854775807
                                                              · rw [if_pos c47] at H
                                                                have c47b0 := eq_true c47
                                                                have c47b1 : decide (((((((rdOf ByteArray.empty t256 t259).extract 0 3) ++ (⟨#[32]⟩ : ByteArray)) ++ (rdOf ByteArray.empty t261 (ji8))) ++ (⟨#[32]⟩ : ByteArray)) ++ ((⟨#[32]⟩ : ByteArray) ++ t272)).size + 1 ≤ 9223372036854775807) = true := decide_eq_true c47
                                                                try (have c47n := c47; simp only [ByteArray.size_append, ByteArray.size_extract, Nat.sub_zero, show (⟨#[32]⟩ : ByteArray).size = 1 from rfl] at c47n; have c47b3 := eq_true c47n; have c47b4 := eq_false (Nat.not_lt.2 c47n); clear c47n)
                                                                try have c47b2 : (9223372036854775807 < ((((((rdOf ByteArray.empty t256 t259).extract 0 3) ++ (⟨#[32]⟩ : ByteArray)) ++ (rdOf ByteArray.empty t261 (ji8))) ++ (⟨#[32]⟩ : ByteArray)) ++ ((⟨#[32]⟩ : ByteArray) ++ t272)).size + 1) = False := eq_false (Nat.not_lt.2 c47)
                                                                replace H := Option.bind_eq_some_iff.mp H
                                                                obtain ⟨t273, A480, H⟩ := H
                                                                (try dsimp only at H)
                                                                have A48 := Aside0.mk A480
                                                                clear A480
                                                                by_cases c49 : (((((((rdOf ByteArray.empty t256 t259).extract 0 3) ++ (⟨#[32]⟩ : ByteArray)) ++ (rdOf ByteArray.empty t261 (ji8))) ++ (⟨#[32]⟩ : ByteArray)) ++ ((⟨#[32]⟩ : ByteArray) ++ t272)) ++ (⟨#[32]⟩ : ByteArray)).size + t273.size ≤ 9223372036854775807
                                                                · rw [if_pos c49] at H
                                                                  have c49b0 := eq_true c49
                                                                  have c49b1 : decide ((((((((rdOf ByteArray.empty t256 t259).extract 0 3) ++ (⟨#[32]⟩ : ByteArray)) ++ (rdOf ByteArray.empty t261 (ji8))) ++ (⟨#[32]⟩ : ByteArray)) ++ ((⟨#[32]⟩ : ByteArray) ++ t272)) ++ (⟨#[32]⟩ : ByteArray)).size + t273.size ≤ 9223372036854775807) = true := decide_eq_true c49
                                                                  try (have c49n := c49; simp only [ByteArray.size_append, ByteArray.size_extract, Nat.sub_zero, show (⟨#[32]⟩ : ByteArray).size = 1 from rfl] at c49n; have c49b3 := eq_true c49n; have c49b4 := eq_false (Nat.not_lt.2 c49n); clear c49n)
                                                                  try have c49b2 : (9223372036854775807 < (((((((rdOf ByteArray.empty t256 t259).extract 0 3) ++ (⟨#[32]⟩ : ByteArray)) ++ (rdOf ByteArray.empty t261 (ji8))) ++ (⟨#[32]⟩ : ByteArray)) ++ ((⟨#[32]⟩ : ByteArray) ++ t272)) ++ (⟨#[32]⟩ : ByteArray)).size + t273.size) = False := eq_false (Nat.not_lt.2 c49)
                                                                  by_cases c50 : ((((((((rdOf ByteArray.empty t256 t259).extract 0 3) ++ (⟨#[32]⟩ : ByteArray)) ++ (rdOf ByteArray.empty t261 (ji8))) ++ (⟨#[32]⟩ : ByteArray)) ++ ((⟨#[32]⟩ : ByteArray) ++ t272)) ++ (⟨#[32]⟩ : ByteArray)) ++ t273).size + 1 ≤ 9223372036854775807
                                                                  · rw [if_pos c50] at H
                                                                    have c50b0 := eq_true c50
                                                                    have c50b1 : decide (((((((((rdOf ByteArray.empty t256 t259).extract 0 3) ++ (⟨#[32]⟩ : ByteArray)) ++ (rdOf ByteArray.empty t261 (ji8))) ++ (⟨#[32]⟩ : ByteArray)) ++ ((⟨#[32]⟩ : ByteArray) ++ t272)) ++ (⟨#[32]⟩ : ByteArray)) ++ t273).size + 1 ≤ 9223372036854775807) = true := decide_eq_true c50
                                                                    try (have c50n := c50; simp only [ByteArray.size_append, ByteArray.size_extract, Nat.sub_zero, show (⟨#[32]⟩ : ByteArray).size = 1 from rfl] at c50n; have c50b3 := eq_true c50n; have c50b4 := eq_false (Nat.not_lt.2 c50n); clear c50n)
                                                                    try have c50b2 : (9223372036854775807 < ((((((((rdOf ByteArray.empty t256 t259).extract 0 3) ++ (⟨#[32]⟩ : ByteArray)) ++ (rdOf ByteArray.empty t261 (ji8))) ++ (⟨#[32]⟩ : ByteArray)) ++ ((⟨#[32]⟩ : ByteArray) ++ t272)) ++ (⟨#[32]⟩ : ByteArray)) ++ t273).size + 1) = False := eq_false (Nat.not_lt.2 c50)
                                                                    replace H := Option.bind_eq_some_iff.mp H
                                                                    obtain ⟨t274, A510, H⟩ := H
                                                                    (try dsimp only at H)
                                                                    have A51 := Aside0.mk A510
                                                                    clear A510
                                                                    by_cases c52 : (((((((((rdOf ByteArray.empty t256 t259).extract 0 3) ++ (⟨#[32]⟩ : ByteArray)) ++ (rdOf ByteArray.empty t261 (ji8))) ++ (⟨#[32]⟩ : ByteArray)) ++ ((⟨#[32]⟩ : ByteArray) ++ t272)) ++ (⟨#[32]⟩ : ByteArray)) ++ t273) ++ (⟨#[32]⟩ : ByteArray)).size + t274.size ≤ 9223372036854775807
                                                                    · rw [if_pos c52] at H
                                                                      have c52b0 := eq_true c52
                                                                      have c52b1 : decide ((((((((((rdOf ByteArray.empty t256 t259).extract 0 3) ++ (⟨#[32]⟩ : ByteArray)) ++ (rdOf ByteArray.empty t261 (ji8))) ++ (⟨#[32]⟩ : ByteArray)) ++ ((⟨#[32]⟩ : ByteArray) ++ t272)) ++ (⟨#[32]⟩ : ByteArray)) ++ t273) ++ (⟨#[32]⟩ : ByteArray)).size + t274.size ≤ 9223372036854775807) = true := decide_eq_true c52
                                                                      try (have c52n := c52; simp only [ByteArray.size_append, ByteArray.size_extract, Nat.sub_zero, show (⟨#[32]⟩ : ByteArray).size = 1 from rfl] at c52n; have c52b3 := eq_true c52n; have c52b4 := eq_false (Nat.not_lt.2 c52n); clear c52n)
                                                                      try have c52b2 : (9223372036854775807 < (((((((((rdOf ByteArray.empty t256 t259).extract 0 3) ++ (⟨#[32]⟩ : ByteArray)) ++ (rdOf ByteArray.empty t261 (ji8))) ++ (⟨#[32]⟩ : ByteArray)) ++ ((⟨#[32]⟩ : ByteArray) ++ t272)) ++ (⟨#[32]⟩ : ByteArray)) ++ t273) ++ (⟨#[32]⟩ : ByteArray)).size + t274.size) = False := eq_false (Nat.not_lt.2 c52)
                                                                      obtain ⟨y275, hy275⟩ : ∃ y_ : List ByteArray, y_ = (([((((((((((rdOf ByteArray.empty t256 t259).extract 0 3) ++ (⟨#[44, 32]⟩ : ByteArray)) ++ t265) ++ (⟨#[32]⟩ : ByteArray)) ++ (rdOf ByteArray.empty t261 (ji8))) ++ (⟨#[32]⟩ : ByteArray)) ++ t266) ++ (⟨#[32]⟩ : ByteArray)) ++ t267) ++ (⟨#[32, 71, 77, 84]⟩ : ByteArray), (((((((((rdOf ByteArray.empty t256 t259) ++ (⟨#[44, 32]⟩ : ByteArray)) ++ t268) ++ (⟨#[45]⟩ : ByteArray)) ++ (rdOf ByteArray.empty t261 (ji8))) ++ (⟨#[45]⟩ : ByteArray)) ++ t269) ++ (⟨#[32]⟩ : ByteArray)) ++ t270) ++ (⟨#[32, 71, 77, 84]⟩ : ByteArray), (((((((((rdOf ByteArray.empty t256 t259).extract 0 3) ++ (⟨#[32]⟩ : ByteArray)) ++ (rdOf ByteArray.empty t261 (ji8))) ++ (⟨#[32]⟩ : ByteArray)) ++ ((⟨#[32]⟩ : ByteArray) ++ t272)) ++ (⟨#[32]⟩ : ByteArray)) ++ t273) ++ (⟨#[32]⟩ : ByteArray)) ++ t274] : List ByteArray)) := ⟨_, rfl⟩
                                                                      replace H : (some y275) = some r := by first | (rw [hy275]; with_reducible exact H) | (have H2_ := (Option.bind_some _ _).symm.trans H; rw [hy275]; with_reducible exact H2_) | (have H2_ := (Option.bind_some _ _).symm.trans H; with_reducible exact H2_) | with_reducible exact H | (rw [hy275]; exact H) | exact H
                                                                      have Ny275 := Aside0.mk hy275
                                                                      clear hy275
                                                                      obtain rfl := Option.some.inj H
                                                                      go_enter Tryd.func42, Tryd.ntmps42
                                                                      try go_wp2_with (first | ((with_reducible refine gate_callee (f := 77) rfl ?_); refine goesL_ (some 15) rfl rfl Tryd.func77 (by kernel_rfl) rfl #[.int .i64 (wrap64 (Int.tdiv a0 86400))] rfl (by (try simp only [List.map_toArray, List.map_cons, List.map_nil]); first | done | rfl | (simp only [List.length_drop, List.length_take]; rfl) | (simp; repeat' first | rfl | constructor)) ?_; (with_reducible refine (spec_CivilOf.calls k (wrap64 (Int.tdiv a0 86400)) t253 t254 t255 _ A2.out).mono ?_); rintro e w53 ⟨rfl, hb⟩; refine ⟨_, rfl, ?_⟩; have n0_ := Aside0.mk (below_step (by repeat (first | (with_reducible first | exact HB.out | apply below_alloc | apply pw_below_drewN | apply below_drew1) | exact HB.out)) hb); clear HB; have HB := n0_; clear n0_; (try clear hb); (try clear hb2); (try clear hk); (try clear hi)) | ((with_reducible refine gate_callee (f := 78) rfl ?_); refine goesL_ (some 19) rfl rfl Tryd.func78 (by kernel_rfl) rfl #[] rfl (by (try simp only [List.map_toArray, List.map_cons, List.map_nil]); first | done | rfl | (simp only [List.length_drop, List.length_take]; rfl) | (simp; repeat' first | rfl | constructor)) ?_; (with_reducible refine (spec_l3Days.calls  t256 _ A3.out).mono ?_); rintro e w54 ⟨v257, rfl, ho0, hb⟩; refine ⟨_, rfl, ?_⟩; have n0_ := Aside0.mk (Kd.R_lower ho0 (below_size (by repeat (first | (with_reducible first | exact HB.out | apply below_alloc | apply pw_below_drewN | apply below_drew1) | exact HB.out)))); have n1_ := Aside0.mk (below_step (by repeat (first | (with_reducible first | exact HB.out | apply below_alloc | apply pw_below_drewN | apply below_drew1) | exact HB.out)) hb); clear HB; have HO258 := n0_; have HB := n1_; clear n0_ n1_; (try clear hb); (try clear hb2); (try clear hk); (try clear hi); (try clear ho0)) | ((with_reducible refine gate_callee (f := 79) rfl ?_); refine goesL_ (some 22) rfl rfl Tryd.func79 (by kernel_rfl) rfl #[.int .i64 (wrap64 (Int.tdiv a0 86400))] rfl (by (try simp only [List.map_toArray, List.map_cons, List.map_nil]); first | done | rfl | (simp only [List.length_drop, List.length_take]; rfl) | (simp; repeat' first | rfl | constructor)) ?_; (with_reducible refine (spec_WeekdayOf.calls (wrap64 (Int.tdiv a0 86400)) t259 _ A4.out).mono ?_); rintro e w' ⟨rfl, ⟨nd, rfl⟩⟩; refine ⟨_, rfl, ?_⟩; obtain ⟨Ao55, co55, eo55⟩ := Kd.R_slice HO258.out; subst eo55; have p260 : 0 ≤ (t259 : Int) := of_decide_eq_true (by first | (with_reducible assumption) | assumption); have q260 : t259 < (t256.length : Int) := of_decide_eq_true (by first | (with_reducible assumption) | assumption); obtain ⟨ad260, e260, hx260_0⟩ := Kd.at_string (Kd.R_reads' HO258.out).2.2 t259 p260 q260; cases e260; replace p260 := eq_true p260; replace q260 := eq_true q260) | ((with_reducible refine gate_callee (f := 74) rfl ?_); refine goesL_ (some 25) rfl rfl Tryd.func74 (by kernel_rfl) rfl #[] rfl (by (try simp only [List.map_toArray, List.map_cons, List.map_nil]); first | done | rfl | (simp only [List.length_drop, List.length_take]; rfl) | (simp; repeat' first | rfl | constructor)) ?_; (with_reducible refine (spec_l3Months.calls  t261 _ A7.out).mono ?_); rintro e w56 ⟨v262, rfl, ho0, hb⟩; refine ⟨_, rfl, ?_⟩; have n0_ := Aside0.mk (Kd.R_elder' (by (with_reducible repeat (first | apply Kd.R_alloc | apply Kd.R_drewN | apply Kd.R_drew)); exact HO258.out) (Kd.R_base ho0) hb); have n1_ := Aside0.mk (Kd.R_lower (Kd.R_new' ho0 (Kd.R_lt (by (with_reducible repeat (first | apply Kd.R_alloc | apply Kd.R_drewN | apply Kd.R_drew)); exact HO258.out))) (below_size (by repeat (first | (with_reducible first | exact HB.out | apply below_alloc | apply pw_below_drewN | apply below_drew1) | exact HB.out)))); have n2_ := Aside0.mk (below_step (by repeat (first | (with_reducible first | exact HB.out | apply below_alloc | apply pw_below_drewN | apply below_drew1) | exact HB.out)) hb); clear HO258; clear HB; have HO258 := n0_; have HO263 := n1_; have HB := n2_; clear n0_ n1_ n2_; (try clear hb); (try clear hb2); (try clear hk); (try clear hi); (try clear ho0); obtain ⟨Ao57, co57, eo57⟩ := Kd.R_slice HO263.out; subst eo57; have p264 : 0 ≤ ((ji8) : Int) := of_decide_eq_true (by first | (with_reducible assumption) | assumption); have q264 : (ji8) < (t261.length : Int) := of_decide_eq_true (by first | (with_reducible assumption) | assumption); obtain ⟨ad264, e264, hx264_0⟩ := Kd.at_string (Kd.R_reads' HO263.out).2.2 (ji8) p264 q264; cases e264; replace p264 := eq_true p264; replace q264 := eq_true q264))
                                                                      have n0_ := Aside0.mk (Kd.R_drew HO258.out)
                                                                      have n1_ := Aside0.mk (Kd.R_drew HO263.out)
                                                                      have n2_ := Aside0.mk (below_drew1 HB.out)
                                                                      clear HO258
                                                                      clear HO263
                                                                      clear HB
                                                                      have HO258 := n0_
                                                                      have HO263 := n1_
                                                                      have HB := n2_
                                                                      clear n0_ n1_ n2_
                                                                      refine start_ (n := 19) (S := fun w' => True) (ds := []) #[false, false, false, false, false, false, false, false, false, false, false, false, false, false, false, false, false, false, false] (by kernel_rfl) rfl rfl trivial (fun hHeld => ?_); refine with_tabW spec_l3Forms.tab4 spec_l3Forms.bits4 (fun HT_ HW_ => ?_)
                                                                      generalize w56.drew = w58 at HO258 HO263 HB hHeld ⊢
                                                                      refine pure_ (i := 0) (N := some 30) (v := ?_) (a' := ?_) #[true, false, false, false, false, false, false, false, false, false, false, false, false, false, false, false, false, false, false] rfl rfl (any_of HT_.out (by kernel_rfl)) (fun _ _ _ h => h) (Or.inl ⟨by rfl, ?_⟩) ?_ ?_
                                                                      rotate_left
                                                                      · intro w'
                                                                        go_simp
                                                                        with_reducible rfl
                                                                      rotate_left
                                                                      · simp only [Act.put, List.setIfInBounds_toArray, List.set_cons_zero, List.set_cons_succ, i64_w, i32_w]
                                                                        rfl
                                                                      refine pure_ (i := 1) (N := some 31) (v := ?_) (a' := ?_) #[true, true, false, false, false, false, false, false, false, false, false, false, false, false, false, false, false, false, false] rfl rfl (any_of HT_.out (by kernel_rfl)) (fun _ _ _ h => h) (Or.inl ⟨by rfl, ?_⟩) ?_ ?_
                                                                      rotate_left
                                                                      · intro w'
                                                                        go_simp
                                                                        with_reducible rfl
                                                                      rotate_left
                                                                      · simp only [Act.put, List.setIfInBounds_toArray, List.set_cons_zero, List.set_cons_succ, i64_w, i32_w]
                                                                        rfl
                                                                      refine pure_ (i := 2) (N := some 32) (v := ?_) (a' := ?_) #[true, true, true, false, false, false, false, false, false, false, false, false, false, false, false, false, false, false, false] rfl rfl (any_of HT_.out (by kernel_rfl)) (fun _ _ _ h => h) (Or.inl ⟨by rfl, ?_⟩) ?_ ?_
                                                                      rotate_left
                                                                      · intro w'
                                                                        go_simp
                                                                        with_reducible rfl
                                                                      rotate_left
                                                                      · simp only [Act.put, List.setIfInBounds_toArray, List.set_cons_zero, List.set_cons_succ, i64_w, i32_w]
                                                                        rfl
                                                                      refine pure_ (i := 3) (N := some 33) (v := ?_) (a' := ?_) #[true, true, true, true, false, false, false, false, false, false, false, false, false, false, false, false, false, false, false] rfl rfl (any_of HT_.out (by kernel_rfl)) (fun _ _ _ h => h) (Or.inl ⟨by rfl, ?_⟩) ?_ ?_
                                                                      rotate_left
                                                                      · intro w'
                                                                        go_simp
                                                                        with_reducible rfl
                                                                      rotate_left
                                                                      · simp only [Act.put, List.setIfInBounds_toArray, List.set_cons_zero, List.set_cons_succ, i64_w, i32_w]
                                                                        rfl
                                                                      refine pure_ (i := 7) (N := some 37) (v := ?_) (a' := ?_) #[true, true, true, true, false, false, false, true, false, false, false, false, false, false, false, false, false, false, false] rfl rfl (any_of HT_.out (by kernel_rfl)) (fun _ _ _ h => h) (Or.inl ⟨by rfl, ?_⟩) ?_ ?_
                                                                      rotate_left
                                                                      · intro w'
                                                                        go_simp
                                                                        with_reducible rfl
                                                                      rotate_left
                                                                      · simp only [Act.put, List.setIfInBounds_toArray, List.set_cons_zero, List.set_cons_succ, i64_w, i32_w]
                                                                        rfl
                                                                      refine pure_ (i := 10) (N := some 40) (v := ?_) (a' := ?_) #[true, true, true, true, false, false, false, true, false, false, true, false, false, false, false, false, false, false, false] rfl rfl (any_of HT_.out (by kernel_rfl)) (fun _ _ _ h => h) (Or.inl ⟨by rfl, ?_⟩) ?_ ?_
                                                                      rotate_left
                                                                      · intro w'
                                                                        go_simp
                                                                        with_reducible rfl
                                                                      rotate_left
                                                                      · simp only [Act.put, List.setIfInBounds_toArray, List.set_cons_zero, List.set_cons_succ, i64_w, i32_w]
                                                                        rfl
                                                                      refine pure_ (i := 14) (N := some 44) (v := ?_) (a' := ?_) #[true, true, true, true, false, false, false, true, false, false, true, false, false, false, true, false, false, false, false] rfl rfl (any_of HT_.out (by kernel_rfl)) (fun _ _ _ h => h) (Or.inl ⟨by rfl, ?_⟩) ?_ ?_
                                                                      rotate_left
                                                                      · intro w'
                                                                        go_simp
                                                                        with_reducible rfl
                                                                      rotate_left
                                                                      · simp only [Act.put, List.setIfInBounds_toArray, List.set_cons_zero, List.set_cons_succ, i64_w, i32_w]
                                                                        rfl
                                                                      refine one_ (i := 4) (N := some 34) #[true, true, true, true, true, false, false, true, false, false, true, false, false, false, true, false, false, false, false] rfl rfl (one_of HT_.out (by kernel_rfl)) (by decide) (fun K hK => ?_)
                                                                      refine goes_ Tryd.func80 (by kernel_rfl) rfl #[.int .i64 t255, .int .i64 2] (by rfl) rfl rfl (by (try simp only [List.map_toArray, List.map_cons, List.map_nil]); first | done | rfl | (simp only [List.length_drop, List.length_take]; rfl)) ?_
                                                                      with_reducible refine (spec_Digits.calls k t255 2 t265 _ A14.out).mono ?_
                                                                      rintro e w59 ⟨rfl, hb⟩
                                                                      refine ⟨_, rfl, ?_⟩
                                                                      have n0_ := Aside0.mk (Kd.R_below (by (with_reducible repeat (first | apply Kd.R_alloc | apply Kd.R_drewN | apply Kd.R_drew)); exact HO258.out) hb)
                                                                      have n1_ := Aside0.mk (Kd.R_below (by (with_reducible repeat (first | apply Kd.R_alloc | apply Kd.R_drewN | apply Kd.R_drew)); exact HO263.out) hb)
                                                                      have n2_ := Aside0.mk (below_step (by repeat (first | (with_reducible first | exact HB.out | apply below_alloc | apply pw_below_drewN | apply below_drew1) | exact HB.out)) hb)
                                                                      clear HO258
                                                                      clear HO263
                                                                      clear HB
                                                                      have HO258 := n0_
                                                                      have HO263 := n1_
                                                                      have HB := n2_
                                                                      clear n0_ n1_ n2_
                                                                      (try clear hb)
                                                                      (try clear hb2)
                                                                      (try clear hk)
                                                                      (try clear hi)
                                                                      refine hK.out _ _ trivial (fun hHeld => ?_)
                                                                      clear hK K
                                                                      refine norm_ (a' := ?_) ?_ ?_
                                                                      rotate_left
                                                                      · show Act.put _ (some 34) _ = _
                                                                        simp only [Act.put, List.setIfInBounds_toArray, List.set_cons_zero, List.set_cons_succ, i64_w, i32_w]
                                                                        rfl
                                                                      refine pure_ (i := 5) (N := some 35) (v := ?_) (a' := ?_) #[true, true, true, true, true, true, false, true, false, false, true, false, false, false, true, false, false, false, false] rfl rfl (any_of HT_.out (by kernel_rfl)) (fun _ _ _ h => h) (Or.inl ⟨by rfl, ?_⟩) ?_ ?_
                                                                      rotate_left
                                                                      · intro w'
                                                                        go_simp
                                                                        with_reducible rfl
                                                                      rotate_left
                                                                      · simp only [Act.put, List.setIfInBounds_toArray, List.set_cons_zero, List.set_cons_succ, i64_w, i32_w]
                                                                        rfl
                                                                      refine pure_ (i := 6) (N := some 36) (v := ?_) (a' := ?_) #[true, true, true, true, true, true, true, true, false, false, true, false, false, false, true, false, false, false, false] rfl rfl (any_of HT_.out (by kernel_rfl)) (fun _ _ _ h => h) (Or.inl ⟨by rfl, ?_⟩) ?_ ?_
                                                                      rotate_left
                                                                      · intro w'
                                                                        go_simp
                                                                        with_reducible rfl
                                                                      rotate_left
                                                                      · simp only [Act.put, List.setIfInBounds_toArray, List.set_cons_zero, List.set_cons_succ, i64_w, i32_w]
                                                                        rfl
                                                                      refine pure_ (i := 8) (N := some 38) (v := ?_) (a' := ?_) #[true, true, true, true, true, true, true, true, true, false, true, false, false, false, true, false, false, false, false] rfl rfl (any_of HT_.out (by kernel_rfl)) (fun _ _ _ h => h) (Or.inl ⟨by rfl, ?_⟩) ?_ ?_
                                                                      rotate_left
                                                                      · intro w'
                                                                        go_simp
                                                                        with_reducible rfl
                                                                      rotate_left
                                                                      · simp only [Act.put, List.setIfInBounds_toArray, List.set_cons_zero, List.set_cons_succ, i64_w, i32_w]
                                                                        rfl
                                                                      refine pure_ (i := 9) (N := some 39) (v := ?_) (a' := ?_) #[true, true, true, true, true, true, true, true, true, true, true, false, false, false, true, false, false, false, false] rfl rfl (any_of HT_.out (by kernel_rfl)) (fun _ _ _ h => h) (Or.inl ⟨by rfl, ?_⟩) ?_ ?_
                                                                      rotate_left
                                                                      · intro w'
                                                                        go_simp
                                                                        with_reducible rfl
                                                                      rotate_left
                                                                      · simp only [Act.put, List.setIfInBounds_toArray, List.set_cons_zero, List.set_cons_succ, i64_w, i32_w]
                                                                        rfl
                                                                      refine one_ (i := 11) (N := some 41) #[true, true, true, true, true, true, true, true, true, true, true, true, false, false, true, false, false, false, false] rfl rfl (one_of HT_.out (by kernel_rfl)) (by decide) (fun K hK => ?_)
                                                                      refine goes_ Tryd.func80 (by kernel_rfl) rfl #[.int .i64 t253, .int .i64 4] (by rfl) rfl rfl (by (try simp only [List.map_toArray, List.map_cons, List.map_nil]); first | done | rfl | (simp only [List.length_drop, List.length_take]; rfl)) ?_
                                                                      with_reducible refine (spec_Digits.calls k t253 4 t266 _ A19.out).mono ?_
                                                                      rintro e w60 ⟨rfl, hb⟩
                                                                      refine ⟨_, rfl, ?_⟩
                                                                      have n0_ := Aside0.mk (Kd.R_below (by (with_reducible repeat (first | apply Kd.R_alloc | apply Kd.R_drewN | apply Kd.R_drew)); exact HO258.out) hb)
                                                                      have n1_ := Aside0.mk (Kd.R_below (by (with_reducible repeat (first | apply Kd.R_alloc | apply Kd.R_drewN | apply Kd.R_drew)); exact HO263.out) hb)
                                                                      have n2_ := Aside0.mk (below_step (by repeat (first | (with_reducible first | exact HB.out | apply below_alloc | apply pw_below_drewN | apply below_drew1) | exact HB.out)) hb)
                                                                      clear HO258
                                                                      clear HO263
                                                                      clear HB
                                                                      have HO258 := n0_
                                                                      have HO263 := n1_
                                                                      have HB := n2_
                                                                      clear n0_ n1_ n2_
                                                                      (try clear hb)
                                                                      (try clear hb2)
                                                                      (try clear hk)
                                                                      (try clear hi)
                                                                      refine hK.out _ _ trivial (fun hHeld => ?_)
                                                                      clear hK K
                                                                      refine norm_ (a' := ?_) ?_ ?_
                                                                      rotate_left
                                                                      · show Act.put _ (some 41) _ = _
                                                                        simp only [Act.put, List.setIfInBounds_toArray, List.set_cons_zero, List.set_cons_succ, i64_w, i32_w]
                                                                        rfl
                                                                      refine pure_ (i := 12) (N := some 42) (v := ?_) (a' := ?_) #[true, true, true, true, true, true, true, true, true, true, true, true, true, false, true, false, false, false, false] rfl rfl (any_of HT_.out (by kernel_rfl)) (fun _ _ _ h => h) (Or.inl ⟨by rfl, ?_⟩) ?_ ?_
                                                                      rotate_left
                                                                      · intro w'
                                                                        go_simp
                                                                        with_reducible rfl
                                                                      rotate_left
                                                                      · simp only [Act.put, List.setIfInBounds_toArray, List.set_cons_zero, List.set_cons_succ, i64_w, i32_w]
                                                                        rfl
                                                                      refine pure_ (i := 13) (N := some 43) (v := ?_) (a' := ?_) #[true, true, true, true, true, true, true, true, true, true, true, true, true, true, true, false, false, false, false] rfl rfl (any_of HT_.out (by kernel_rfl)) (fun _ _ _ h => h) (Or.inl ⟨by rfl, ?_⟩) ?_ ?_
                                                                      rotate_left
                                                                      · intro w'
                                                                        go_simp
                                                                        with_reducible rfl
                                                                      rotate_left
                                                                      · simp only [Act.put, List.setIfInBounds_toArray, List.set_cons_zero, List.set_cons_succ, i64_w, i32_w]
                                                                        rfl
                                                                      refine one_ (i := 15) (N := some 45) #[true, true, true, true, true, true, true, true, true, true, true, true, true, true, true, true, false, false, false] rfl rfl (one_of HT_.out (by kernel_rfl)) (by decide) (fun K hK => ?_)
                                                                      refine goes_ Tryd.func81 (by kernel_rfl) rfl #[.int .i64 a0] (by rfl) rfl rfl (by (try simp only [List.map_toArray, List.map_cons, List.map_nil]); first | done | rfl | (simp only [List.length_drop, List.length_take]; rfl)) ?_
                                                                      with_reducible refine (spec_l3Clock.calls k a0 t267 _ A22.out).mono ?_
                                                                      rintro e w61 ⟨rfl, hb⟩
                                                                      refine ⟨_, rfl, ?_⟩
                                                                      have n0_ := Aside0.mk (Kd.R_below (by (with_reducible repeat (first | apply Kd.R_alloc | apply Kd.R_drewN | apply Kd.R_drew)); exact HO258.out) hb)
                                                                      have n1_ := Aside0.mk (Kd.R_below (by (with_reducible repeat (first | apply Kd.R_alloc | apply Kd.R_drewN | apply Kd.R_drew)); exact HO263.out) hb)
                                                                      have n2_ := Aside0.mk (below_step (by repeat (first | (with_reducible first | exact HB.out | apply below_alloc | apply pw_below_drewN | apply below_drew1) | exact HB.out)) hb)
                                                                      clear HO258
                                                                      clear HO263
                                                                      clear HB
                                                                      have HO258 := n0_
                                                                      have HO263 := n1_
                                                                      have HB := n2_
                                                                      clear n0_ n1_ n2_
                                                                      (try clear hb)
                                                                      (try clear hb2)
                                                                      (try clear hk)
                                                                      (try clear hi)
                                                                      refine hK.out _ _ trivial (fun hHeld => ?_)
                                                                      clear hK K
                                                                      refine norm_ (a' := ?_) ?_ ?_
                                                                      rotate_left
                                                                      · show Act.put _ (some 45) _ = _
                                                                        simp only [Act.put, List.setIfInBounds_toArray, List.set_cons_zero, List.set_cons_succ, i64_w, i32_w]
                                                                        rfl
                                                                      refine pure_ (i := 16) (N := some 46) (v := ?_) (a' := ?_) #[true, true, true, true, true, true, true, true, true, true, true, true, true, true, true, true, true, false, false] rfl rfl (any_of HT_.out (by kernel_rfl)) (fun _ _ _ h => h) (Or.inl ⟨by rfl, ?_⟩) ?_ ?_
                                                                      rotate_left
                                                                      · intro w'
                                                                        go_simp
                                                                        with_reducible rfl
                                                                      rotate_left
                                                                      · simp only [Act.put, List.setIfInBounds_toArray, List.set_cons_zero, List.set_cons_succ, i64_w, i32_w]
                                                                        rfl
                                                                      refine pure_ (i := 17) (N := some 47) (v := ?_) (a' := ?_) #[true, true, true, true, true, true, true, true, true, true, true, true, true, true, true, true, true, true, false] rfl rfl (any_of HT_.out (by kernel_rfl)) (fun _ _ _ h => h) (Or.inl ⟨by rfl, ?_⟩) ?_ ?_
                                                                      rotate_left
                                                                      · intro w'
                                                                        go_simp
                                                                        with_reducible rfl
                                                                      rotate_left
                                                                      · simp only [Act.put, List.setIfInBounds_toArray, List.set_cons_zero, List.set_cons_succ, i64_w, i32_w]
                                                                        rfl
                                                                      refine pure_ (i := 18) (N := some 8) (v := ?_) (a' := ?_) #[true, true, true, true, true, true, true, true, true, true, true, true, true, true, true, true, true, true, true] rfl rfl (any_of HT_.out (by kernel_rfl)) (fun _ _ _ h => h) (Or.inl ⟨by rfl, ?_⟩) ?_ ?_
                                                                      rotate_left
                                                                      · intro w'
                                                                        go_simp
                                                                        with_reducible rfl
                                                                      rotate_left
                                                                      · simp only [Act.put, List.setIfInBounds_toArray, List.set_cons_zero, List.set_cons_succ, i64_w, i32_w]
                                                                        rfl
                                                                      refine done_ (done_of HT_.out (by kernel_rfl)) ?_
                                                                      try go_wp2_with (first | ((with_reducible refine gate_callee (f := 80) rfl ?_); refine goesL_ (some 51) rfl rfl Tryd.func80 (by kernel_rfl) rfl #[.int .i64 t255, .int .i64 2] rfl (by (try simp only [List.map_toArray, List.map_cons, List.map_nil]); first | done | rfl | (simp only [List.length_drop, List.length_take]; rfl) | (simp; repeat' first | rfl | constructor)) ?_; (with_reducible refine (spec_Digits.calls k t255 2 t268 _ A26.out).mono ?_); rintro e w62 ⟨rfl, hb⟩; refine ⟨_, rfl, ?_⟩; have n0_ := Aside0.mk (Kd.R_below (by (with_reducible repeat (first | apply Kd.R_alloc | apply Kd.R_drewN | apply Kd.R_drew)); exact HO258.out) hb); have n1_ := Aside0.mk (Kd.R_below (by (with_reducible repeat (first | apply Kd.R_alloc | apply Kd.R_drewN | apply Kd.R_drew)); exact HO263.out) hb); have n2_ := Aside0.mk (below_step (by repeat (first | (with_reducible first | exact HB.out | apply below_alloc | apply pw_below_drewN | apply below_drew1) | exact HB.out)) hb); clear HO258; clear HO263; clear HB; have HO258 := n0_; have HO263 := n1_; have HB := n2_; clear n0_ n1_ n2_; (try clear hb); (try clear hb2); (try clear hk); (try clear hi)) | ((with_reducible refine gate_callee (f := 80) rfl ?_); refine goesL_ (some 59) rfl rfl Tryd.func80 (by kernel_rfl) rfl #[.int .i64 (Int.tmod t253 100), .int .i64 2] rfl (by (try simp only [List.map_toArray, List.map_cons, List.map_nil]); first | done | rfl | (simp only [List.length_drop, List.length_take]; rfl) | (simp; repeat' first | rfl | constructor)) ?_; (with_reducible refine (spec_Digits.calls k (Int.tmod t253 100) 2 t269 _ A31.out).mono ?_); rintro e w63 ⟨rfl, hb⟩; refine ⟨_, rfl, ?_⟩; have n0_ := Aside0.mk (Kd.R_below (by (with_reducible repeat (first | apply Kd.R_alloc | apply Kd.R_drewN | apply Kd.R_drew)); exact HO258.out) hb); have n1_ := Aside0.mk (Kd.R_below (by (with_reducible repeat (first | apply Kd.R_alloc | apply Kd.R_drewN | apply Kd.R_drew)); exact HO263.out) hb); have n2_ := Aside0.mk (below_step (by repeat (first | (with_reducible first | exact HB.out | apply below_alloc | apply pw_below_drewN | apply below_drew1) | exact HB.out)) hb); clear HO258; clear HO263; clear HB; have HO258 := n0_; have HO263 := n1_; have HB := n2_; clear n0_ n1_ n2_; (try clear hb); (try clear hb2); (try clear hk); (try clear hi)) | ((with_reducible refine gate_callee (f := 81) rfl ?_); refine goesL_ (some 63) rfl rfl Tryd.func81 (by kernel_rfl) rfl #[.int .i64 a0] rfl (by (try simp only [List.map_toArray, List.map_cons, List.map_nil]); first | done | rfl | (simp only [List.length_drop, List.length_take]; rfl) | (simp; repeat' first | rfl | constructor)) ?_; (with_reducible refine (spec_l3Clock.calls k a0 t270 _ A34.out).mono ?_); rintro e w64 ⟨rfl, hb⟩; refine ⟨_, rfl, ?_⟩; have n0_ := Aside0.mk (Kd.R_below (by (with_reducible repeat (first | apply Kd.R_alloc | apply Kd.R_drewN | apply Kd.R_drew)); exact HO258.out) hb); have n1_ := Aside0.mk (Kd.R_below (by (with_reducible repeat (first | apply Kd.R_alloc | apply Kd.R_drewN | apply Kd.R_drew)); exact HO263.out) hb); have n2_ := Aside0.mk (below_step (by repeat (first | (with_reducible first | exact HB.out | apply below_alloc | apply pw_below_drewN | apply below_drew1) | exact HB.out)) hb); clear HO258; clear HO263; clear HB; have HO258 := n0_; have HO263 := n1_; have HB := n2_; clear n0_ n1_ n2_; (try clear hb); (try clear hb2); (try clear hk); (try clear hi)) | ((with_reducible refine gate_callee (f := 80) rfl ?_); refine goesL_ (some 67) rfl rfl Tryd.func80 (by kernel_rfl) rfl #[.int .i64 t255, .int .i64 2] rfl (by (try simp only [List.map_toArray, List.map_cons, List.map_nil]); first | done | rfl | (simp only [List.length_drop, List.length_take]; rfl) | (simp; repeat' first | rfl | constructor)) ?_; (with_reducible refine (spec_Digits.calls k t255 2 t271 _ A37.out).mono ?_); rintro e w65 ⟨rfl, hb⟩; refine ⟨_, rfl, ?_⟩; have n0_ := Aside0.mk (Kd.R_below (by (with_reducible repeat (first | apply Kd.R_alloc | apply Kd.R_drewN | apply Kd.R_drew)); exact HO258.out) hb); have n1_ := Aside0.mk (Kd.R_below (by (with_reducible repeat (first | apply Kd.R_alloc | apply Kd.R_drewN | apply Kd.R_drew)); exact HO263.out) hb); have n2_ := Aside0.mk (below_step (by repeat (first | (with_reducible first | exact HB.out | apply below_alloc | apply pw_below_drewN | apply below_drew1) | exact HB.out)) hb); clear HO258; clear HO263; clear HB; have HO258 := n0_; have HO263 := n1_; have HB := n2_; clear n0_ n1_ n2_; (try clear hb); (try clear hb2); (try clear hk); (try clear hi)) | ((with_reducible refine gate_callee (f := 82) rfl ?_); refine goesL_ (some 71) rfl rfl Tryd.func82 (by kernel_rfl) rfl #[.int .i64 t255] rfl (by (try simp only [List.map_toArray, List.map_cons, List.map_nil]); first | done | rfl | (simp only [List.length_drop, List.length_take]; rfl) | (simp; repeat' first | rfl | constructor)) ?_; (with_reducible refine (spec_FormatInt.calls k t255 t272 _ A39.out).mono ?_); rintro e w66 ⟨rfl, hb⟩; refine ⟨_, rfl, ?_⟩; have n0_ := Aside0.mk (Kd.R_below (by (with_reducible repeat (first | apply Kd.R_alloc | apply Kd.R_drewN | apply Kd.R_drew)); exact HO258.out) hb); have n1_ := Aside0.mk (Kd.R_below (by (with_reducible repeat (first | apply Kd.R_alloc | apply Kd.R_drewN | apply Kd.R_drew)); exact HO263.out) hb); have n2_ := Aside0.mk (below_step (by repeat (first | (with_reducible first | exact HB.out | apply below_alloc | apply pw_below_drewN | apply below_drew1) | exact HB.out)) hb); clear HO258; clear HO263; clear HB; have HO258 := n0_; have HO263 := n1_; have HB := n2_; clear n0_ n1_ n2_; (try clear hb); (try clear hb2); (try clear hk); (try clear hi)))
                                                                      have n0_ := Aside0.mk (Kd.R_drew HO258.out)
                                                                      have n1_ := Aside0.mk (Kd.R_drew HO263.out)
                                                                      have n2_ := Aside0.mk (below_drew1 HB.out)
                                                                      clear HO258
                                                                      clear HO263
                                                                      clear HB
                                                                      have HO258 := n0_
                                                                      have HO263 := n1_
                                                                      have HB := n2_
                                                                      clear n0_ n1_ n2_
                                                                      refine start_ (n := 17) (S := fun w' => True) (ds := []) #[false, false, false, false, false, false, false, false, false, false, false, false, false, false, false, false, false] (by kernel_rfl) rfl rfl trivial (fun hHeld => ?_); refine with_tabW spec_l3Forms.tab9 spec_l3Forms.bits9 (fun HT_ HW_ => ?_)
                                                                      generalize w66.drew = w67 at HO258 HO263 HB hHeld ⊢
                                                                      refine pure_ (i := 0) (N := some 73) (v := ?_) (a' := ?_) #[true, false, false, false, false, false, false, false, false, false, false, false, false, false, false, false, false] rfl rfl (any_of HT_.out (by kernel_rfl)) (fun _ _ _ h => h) (Or.inl ⟨by rfl, ?_⟩) ?_ ?_
                                                                      rotate_left
                                                                      · intro w'
                                                                        go_simp
                                                                        with_reducible rfl
                                                                      rotate_left
                                                                      · simp only [Act.put, List.setIfInBounds_toArray, List.set_cons_zero, List.set_cons_succ, i64_w, i32_w]
                                                                        rfl
                                                                      refine pure_ (i := 1) (N := some 74) (v := ?_) (a' := ?_) #[true, true, false, false, false, false, false, false, false, false, false, false, false, false, false, false, false] rfl rfl (any_of HT_.out (by kernel_rfl)) (fun _ _ _ h => h) (Or.inl ⟨by rfl, ?_⟩) ?_ ?_
                                                                      rotate_left
                                                                      · intro w'
                                                                        go_simp
                                                                        with_reducible rfl
                                                                      rotate_left
                                                                      · simp only [Act.put, List.setIfInBounds_toArray, List.set_cons_zero, List.set_cons_succ, i64_w, i32_w]
                                                                        rfl
                                                                      refine pure_ (i := 2) (N := some 75) (v := ?_) (a' := ?_) #[true, true, true, false, false, false, false, false, false, false, false, false, false, false, false, false, false] rfl rfl (any_of HT_.out (by kernel_rfl)) (fun _ _ _ h => h) (Or.inl ⟨by rfl, ?_⟩) ?_ ?_
                                                                      rotate_left
                                                                      · intro w'
                                                                        go_simp
                                                                        with_reducible rfl
                                                                      rotate_left
                                                                      · simp only [Act.put, List.setIfInBounds_toArray, List.set_cons_zero, List.set_cons_succ, i64_w, i32_w]
                                                                        rfl
                                                                      refine pure_ (i := 3) (N := some 76) (v := ?_) (a' := ?_) #[true, true, true, true, false, false, false, false, false, false, false, false, false, false, false, false, false] rfl rfl (any_of HT_.out (by kernel_rfl)) (fun _ _ _ h => h) (Or.inl ⟨by rfl, ?_⟩) ?_ ?_
                                                                      rotate_left
                                                                      · intro w'
                                                                        go_simp
                                                                        with_reducible rfl
                                                                      rotate_left
                                                                      · simp only [Act.put, List.setIfInBounds_toArray, List.set_cons_zero, List.set_cons_succ, i64_w, i32_w]
                                                                        rfl
                                                                      refine pure_ (i := 4) (N := some 77) (v := ?_) (a' := ?_) #[true, true, true, true, true, false, false, false, false, false, false, false, false, false, false, false, false] rfl rfl (any_of HT_.out (by kernel_rfl)) (fun _ _ _ h => h) (Or.inl ⟨by rfl, ?_⟩) ?_ ?_
                                                                      rotate_left
                                                                      · intro w'
                                                                        go_simp
                                                                        with_reducible rfl
                                                                      rotate_left
                                                                      · simp only [Act.put, List.setIfInBounds_toArray, List.set_cons_zero, List.set_cons_succ, i64_w, i32_w]
                                                                        rfl
                                                                      refine pure_ (i := 5) (N := some 78) (v := ?_) (a' := ?_) #[true, true, true, true, true, true, false, false, false, false, false, false, false, false, false, false, false] rfl rfl (any_of HT_.out (by kernel_rfl)) (fun _ _ _ h => h) (Or.inl ⟨by rfl, ?_⟩) ?_ ?_
                                                                      rotate_left
                                                                      · intro w'
                                                                        go_simp
                                                                        with_reducible rfl
                                                                      rotate_left
                                                                      · simp only [Act.put, List.setIfInBounds_toArray, List.set_cons_zero, List.set_cons_succ, i64_w, i32_w]
                                                                        rfl
                                                                      refine pure_ (i := 6) (N := some 79) (v := ?_) (a' := ?_) #[true, true, true, true, true, true, true, false, false, false, false, false, false, false, false, false, false] rfl rfl (any_of HT_.out (by kernel_rfl)) (fun _ _ _ h => h) (Or.inl ⟨by rfl, ?_⟩) ?_ ?_
                                                                      rotate_left
                                                                      · intro w'
                                                                        go_simp
                                                                        with_reducible rfl
                                                                      rotate_left
                                                                      · simp only [Act.put, List.setIfInBounds_toArray, List.set_cons_zero, List.set_cons_succ, i64_w, i32_w]
                                                                        rfl
                                                                      refine pure_ (i := 7) (N := some 80) (v := ?_) (a' := ?_) #[true, true, true, true, true, true, true, true, false, false, false, false, false, false, false, false, false] rfl rfl (any_of HT_.out (by kernel_rfl)) (fun _ _ _ h => h) (Or.inl ⟨by rfl, ?_⟩) ?_ ?_
                                                                      rotate_left
                                                                      · intro w'
                                                                        go_simp
                                                                        with_reducible rfl
                                                                      rotate_left
                                                                      · simp only [Act.put, List.setIfInBounds_toArray, List.set_cons_zero, List.set_cons_succ, i64_w, i32_w]
                                                                        rfl
                                                                      refine pure_ (i := 8) (N := some 81) (v := ?_) (a' := ?_) #[true, true, true, true, true, true, true, true, true, false, false, false, false, false, false, false, false] rfl rfl (any_of HT_.out (by kernel_rfl)) (fun _ _ _ h => h) (Or.inl ⟨by rfl, ?_⟩) ?_ ?_
                                                                      rotate_left
                                                                      · intro w'
                                                                        go_simp
                                                                        with_reducible rfl
                                                                      rotate_left
                                                                      · simp only [Act.put, List.setIfInBounds_toArray, List.set_cons_zero, List.set_cons_succ, i64_w, i32_w]
                                                                        rfl
                                                                      refine pure_ (i := 9) (N := some 82) (v := ?_) (a' := ?_) #[true, true, true, true, true, true, true, true, true, true, false, false, false, false, false, false, false] rfl rfl (any_of HT_.out (by kernel_rfl)) (fun _ _ _ h => h) (Or.inl ⟨by rfl, ?_⟩) ?_ ?_
                                                                      rotate_left
                                                                      · intro w'
                                                                        go_simp
                                                                        with_reducible rfl
                                                                      rotate_left
                                                                      · simp only [Act.put, List.setIfInBounds_toArray, List.set_cons_zero, List.set_cons_succ, i64_w, i32_w]
                                                                        rfl
                                                                      refine pure_ (i := 13) (N := some 86) (v := ?_) (a' := ?_) #[true, true, true, true, true, true, true, true, true, true, false, false, false, true, false, false, false] rfl rfl (any_of HT_.out (by kernel_rfl)) (fun _ _ _ h => h) (Or.inl ⟨by rfl, ?_⟩) ?_ ?_
                                                                      rotate_left
                                                                      · intro w'
                                                                        go_simp
                                                                        with_reducible rfl
                                                                      rotate_left
                                                                      · simp only [Act.put, List.setIfInBounds_toArray, List.set_cons_zero, List.set_cons_succ, i64_w, i32_w]
                                                                        rfl
                                                                      refine one_ (i := 10) (N := some 83) #[true, true, true, true, true, true, true, true, true, true, true, false, false, true, false, false, false] rfl rfl (one_of HT_.out (by kernel_rfl)) (by decide) (fun K hK => ?_)
                                                                      refine goes_ Tryd.func81 (by kernel_rfl) rfl #[.int .i64 a0] (by rfl) rfl rfl (by (try simp only [List.map_toArray, List.map_cons, List.map_nil]); first | done | rfl | (simp only [List.length_drop, List.length_take]; rfl)) ?_
                                                                      with_reducible refine (spec_l3Clock.calls k a0 t273 _ A48.out).mono ?_
                                                                      rintro e w68 ⟨rfl, hb⟩
                                                                      refine ⟨_, rfl, ?_⟩
                                                                      have n0_ := Aside0.mk (Kd.R_below (by (with_reducible repeat (first | apply Kd.R_alloc | apply Kd.R_drewN | apply Kd.R_drew)); exact HO258.out) hb)
                                                                      have n1_ := Aside0.mk (Kd.R_below (by (with_reducible repeat (first | apply Kd.R_alloc | apply Kd.R_drewN | apply Kd.R_drew)); exact HO263.out) hb)
                                                                      have n2_ := Aside0.mk (below_step (by repeat (first | (with_reducible first | exact HB.out | apply below_alloc | apply pw_below_drewN | apply below_drew1) | exact HB.out)) hb)
                                                                      clear HO258
                                                                      clear HO263
                                                                      clear HB
                                                                      have HO258 := n0_
                                                                      have HO263 := n1_
                                                                      have HB := n2_
                                                                      clear n0_ n1_ n2_
                                                                      (try clear hb)
                                                                      (try clear hb2)
                                                                      (try clear hk)
                                                                      (try clear hi)
                                                                      refine hK.out _ _ trivial (fun hHeld => ?_)
                                                                      clear hK K
                                                                      refine norm_ (a' := ?_) ?_ ?_
                                                                      rotate_left
                                                                      · show Act.put _ (some 83) _ = _
                                                                        simp only [Act.put, List.setIfInBounds_toArray, List.set_cons_zero, List.set_cons_succ, i64_w, i32_w]
                                                                        rfl
                                                                      refine pure_ (i := 11) (N := some 84) (v := ?_) (a' := ?_) #[true, true, true, true, true, true, true, true, true, true, true, true, false, true, false, false, false] rfl rfl (any_of HT_.out (by kernel_rfl)) (fun _ _ _ h => h) (Or.inl ⟨by rfl, ?_⟩) ?_ ?_
                                                                      rotate_left
                                                                      · intro w'
                                                                        go_simp
                                                                        with_reducible rfl
                                                                      rotate_left
                                                                      · simp only [Act.put, List.setIfInBounds_toArray, List.set_cons_zero, List.set_cons_succ, i64_w, i32_w]
                                                                        rfl
                                                                      refine pure_ (i := 12) (N := some 85) (v := ?_) (a' := ?_) #[true, true, true, true, true, true, true, true, true, true, true, true, true, true, false, false, false] rfl rfl (any_of HT_.out (by kernel_rfl)) (fun _ _ _ h => h) (Or.inl ⟨by rfl, ?_⟩) ?_ ?_
                                                                      rotate_left
                                                                      · intro w'
                                                                        go_simp
                                                                        with_reducible rfl
                                                                      rotate_left
                                                                      · simp only [Act.put, List.setIfInBounds_toArray, List.set_cons_zero, List.set_cons_succ, i64_w, i32_w]
                                                                        rfl
                                                                      refine one_ (i := 14) (N := some 87) #[true, true, true, true, true, true, true, true, true, true, true, true, true, true, true, false, false] rfl rfl (one_of HT_.out (by kernel_rfl)) (by decide) (fun K hK => ?_)
                                                                      refine goes_ Tryd.func80 (by kernel_rfl) rfl #[.int .i64 t253, .int .i64 4] (by rfl) rfl rfl (by (try simp only [List.map_toArray, List.map_cons, List.map_nil]); first | done | rfl | (simp only [List.length_drop, List.length_take]; rfl)) ?_
                                                                      with_reducible refine (spec_Digits.calls k t253 4 t274 _ A51.out).mono ?_
                                                                      rintro e w69 ⟨rfl, hb⟩
                                                                      refine ⟨_, rfl, ?_⟩
                                                                      have n0_ := Aside0.mk (Kd.R_below (by (with_reducible repeat (first | apply Kd.R_alloc | apply Kd.R_drewN | apply Kd.R_drew)); exact HO258.out) hb)
                                                                      have n1_ := Aside0.mk (Kd.R_below (by (with_reducible repeat (first | apply Kd.R_alloc | apply Kd.R_drewN | apply Kd.R_drew)); exact HO263.out) hb)
                                                                      have n2_ := Aside0.mk (below_step (by repeat (first | (with_reducible first | exact HB.out | apply below_alloc | apply pw_below_drewN | apply below_drew1) | exact HB.out)) hb)
                                                                      clear HO258
                                                                      clear HO263
                                                                      clear HB
                                                                      have HO258 := n0_
                                                                      have HO263 := n1_
                                                                      have HB := n2_
                                                                      clear n0_ n1_ n2_
                                                                      (try clear hb)
                                                                      (try clear hb2)
                                                                      (try clear hk)
                                                                      (try clear hi)
                                                                      refine hK.out _ _ trivial (fun hHeld => ?_)
                                                                      clear hK K
                                                                      refine norm_ (a' := ?_) ?_ ?_
                                                                      rotate_left
                                                                      · show Act.put _ (some 87) _ = _
                                                                        simp only [Act.put, List.setIfInBounds_toArray, List.set_cons_zero, List.set_cons_succ, i64_w, i32_w]
                                                                        rfl
                                                                      refine pure_ (i := 15) (N := some 88) (v := ?_) (a' := ?_) #[true, true, true, true, true, true, true, true, true, true, true, true, true, true, true, true, false] rfl rfl (any_of HT_.out (by kernel_rfl)) (fun _ _ _ h => h) (Or.inl ⟨by rfl, ?_⟩) ?_ ?_
                                                                      rotate_left
                                                                      · intro w'
                                                                        go_simp
                                                                        with_reducible rfl
                                                                      rotate_left
                                                                      · simp only [Act.put, List.setIfInBounds_toArray, List.set_cons_zero, List.set_cons_succ, i64_w, i32_w]
                                                                        rfl
                                                                      refine pure_ (i := 16) (N := some 11) (v := ?_) (a' := ?_) #[true, true, true, true, true, true, true, true, true, true, true, true, true, true, true, true, true] rfl rfl (any_of HT_.out (by kernel_rfl)) (fun _ _ _ h => h) (Or.inl ⟨by rfl, ?_⟩) ?_ ?_
                                                                      rotate_left
                                                                      · intro w'
                                                                        go_simp
                                                                        with_reducible rfl
                                                                      rotate_left
                                                                      · simp only [Act.put, List.setIfInBounds_toArray, List.set_cons_zero, List.set_cons_succ, i64_w, i32_w]
                                                                        rfl
                                                                      refine done_ (done_of HT_.out (by kernel_rfl)) ?_
                                                                      try go_wp2_with (first | ((with_reducible refine gate_dst (N := 92) rfl ?_); refine Kd.R_lit Kd.string _ 9 ?hg (N := 92) ?hd (xs := ([((((((((((rdOf ByteArray.empty t256 t259).extract 0 3) ++ (⟨#[44, 32]⟩ : ByteArray)) ++ t265) ++ (⟨#[32]⟩ : ByteArray)) ++ (rdOf ByteArray.empty t261 (ji8))) ++ (⟨#[32]⟩ : ByteArray)) ++ t266) ++ (⟨#[32]⟩ : ByteArray)) ++ t267) ++ (⟨#[32, 71, 77, 84]⟩ : ByteArray), (((((((((rdOf ByteArray.empty t256 t259) ++ (⟨#[44, 32]⟩ : ByteArray)) ++ t268) ++ (⟨#[45]⟩ : ByteArray)) ++ (rdOf ByteArray.empty t261 (ji8))) ++ (⟨#[45]⟩ : ByteArray)) ++ t269) ++ (⟨#[32]⟩ : ByteArray)) ++ t270) ++ (⟨#[32, 71, 77, 84]⟩ : ByteArray), (((((((((rdOf ByteArray.empty t256 t259).extract 0 3) ++ (⟨#[32]⟩ : ByteArray)) ++ (rdOf ByteArray.empty t261 (ji8))) ++ (⟨#[32]⟩ : ByteArray)) ++ ((⟨#[32]⟩ : ByteArray) ++ t272)) ++ (⟨#[32]⟩ : ByteArray)) ++ t273) ++ (⟨#[32]⟩ : ByteArray)) ++ t274] : List ByteArray)) (inner := [.string (((((((((((rdOf ByteArray.empty t256 t259).extract 0 3) ++ (⟨#[44, 32]⟩ : ByteArray)) ++ t265) ++ (⟨#[32]⟩ : ByteArray)) ++ (rdOf ByteArray.empty t261 (ji8))) ++ (⟨#[32]⟩ : ByteArray)) ++ t266) ++ (⟨#[32]⟩ : ByteArray)) ++ t267) ++ (⟨#[32, 71, 77, 84]⟩ : ByteArray)), .string ((((((((((rdOf ByteArray.empty t256 t259) ++ (⟨#[44, 32]⟩ : ByteArray)) ++ t268) ++ (⟨#[45]⟩ : ByteArray)) ++ (rdOf ByteArray.empty t261 (ji8))) ++ (⟨#[45]⟩ : ByteArray)) ++ t269) ++ (⟨#[32]⟩ : ByteArray)) ++ t270) ++ (⟨#[32, 71, 77, 84]⟩ : ByteArray)), .string ((((((((((rdOf ByteArray.empty t256 t259).extract 0 3) ++ (⟨#[32]⟩ : ByteArray)) ++ (rdOf ByteArray.empty t261 (ji8))) ++ (⟨#[32]⟩ : ByteArray)) ++ ((⟨#[32]⟩ : ByteArray) ++ t272)) ++ (⟨#[32]⟩ : ByteArray)) ++ t273) ++ (⟨#[32]⟩ : ByteArray)) ++ t274)]) (ok := fun _ => True) (okp := fun _ => True) ?hr ?hp (fun _ hk => hk) trivial (Below.refl _ _) (Nat.le_refl _) (by simp) ?_; (case hd => rfl); (case hg => rfl); (case hr => first | (go_simp; done) | (go_simp; rfl)); (case hp => exact (Reps.one (show Kd.M Kd.string _ _ _ (((((((((((rdOf ByteArray.empty t256 t259).extract 0 3) ++ (⟨#[44, 32]⟩ : ByteArray)) ++ t265) ++ (⟨#[32]⟩ : ByteArray)) ++ (rdOf ByteArray.empty t261 (ji8))) ++ (⟨#[32]⟩ : ByteArray)) ++ t266) ++ (⟨#[32]⟩ : ByteArray)) ++ t267) ++ (⟨#[32, 71, 77, 84]⟩ : ByteArray)) [.string (((((((((((rdOf ByteArray.empty t256 t259).extract 0 3) ++ (⟨#[44, 32]⟩ : ByteArray)) ++ t265) ++ (⟨#[32]⟩ : ByteArray)) ++ (rdOf ByteArray.empty t261 (ji8))) ++ (⟨#[32]⟩ : ByteArray)) ++ t266) ++ (⟨#[32]⟩ : ByteArray)) ++ t267) ++ (⟨#[32, 71, 77, 84]⟩ : ByteArray))] from rfl) (Reps.one (show Kd.M Kd.string _ _ _ ((((((((((rdOf ByteArray.empty t256 t259) ++ (⟨#[44, 32]⟩ : ByteArray)) ++ t268) ++ (⟨#[45]⟩ : ByteArray)) ++ (rdOf ByteArray.empty t261 (ji8))) ++ (⟨#[45]⟩ : ByteArray)) ++ t269) ++ (⟨#[32]⟩ : ByteArray)) ++ t270) ++ (⟨#[32, 71, 77, 84]⟩ : ByteArray)) [.string ((((((((((rdOf ByteArray.empty t256 t259) ++ (⟨#[44, 32]⟩ : ByteArray)) ++ t268) ++ (⟨#[45]⟩ : ByteArray)) ++ (rdOf ByteArray.empty t261 (ji8))) ++ (⟨#[45]⟩ : ByteArray)) ++ t269) ++ (⟨#[32]⟩ : ByteArray)) ++ t270) ++ (⟨#[32, 71, 77, 84]⟩ : ByteArray))] from rfl) (Reps.one (show Kd.M Kd.string _ _ _ ((((((((((rdOf ByteArray.empty t256 t259).extract 0 3) ++ (⟨#[32]⟩ : ByteArray)) ++ (rdOf ByteArray.empty t261 (ji8))) ++ (⟨#[32]⟩ : ByteArray)) ++ ((⟨#[32]⟩ : ByteArray) ++ t272)) ++ (⟨#[32]⟩ : ByteArray)) ++ t273) ++ (⟨#[32]⟩ : ByteArray)) ++ t274) [.string ((((((((((rdOf ByteArray.empty t256 t259).extract 0 3) ++ (⟨#[32]⟩ : ByteArray)) ++ (rdOf ByteArray.empty t261 (ji8))) ++ (⟨#[32]⟩ : ByteArray)) ++ ((⟨#[32]⟩ : ByteArray) ++ t272)) ++ (⟨#[32]⟩ : ByteArray)) ++ t273) ++ (⟨#[32]⟩ : ByteArray)) ++ t274)] from rfl) (Reps.none _ _))))); intro v276 w70 ho71 hb hg_ hnew_; clear hg_ hnew_; (first | rw [← Ny275.out] at ho71 | (simp only [Int.reduceToNat] at ho71; rw [← Ny275.out] at ho71)); have n0_ := Aside0.mk (Kd.R_elder' (by (with_reducible repeat (first | apply Kd.R_alloc | apply Kd.R_drewN | apply Kd.R_drew)); exact HO258.out) (Kd.R_base ho71) hb); have n1_ := Aside0.mk (Kd.R_elder' (by (with_reducible repeat (first | apply Kd.R_alloc | apply Kd.R_drewN | apply Kd.R_drew)); exact HO263.out) (Kd.R_base ho71) hb); have n2_ := Aside0.mk (Kd.R_lower (Kd.R_new' (Kd.R_new' ho71 (Kd.R_lt (by (with_reducible repeat (first | apply Kd.R_alloc | apply Kd.R_drewN | apply Kd.R_drew)); exact HO258.out))) (Kd.R_lt (by (with_reducible repeat (first | apply Kd.R_alloc | apply Kd.R_drewN | apply Kd.R_drew)); exact HO263.out))) (below_size (by repeat (first | (with_reducible first | exact HB.out | apply below_alloc | apply pw_below_drewN | apply below_drew1) | exact HB.out)))); have n3_ := Aside0.mk (below_step (by repeat (first | (with_reducible first | exact HB.out | apply below_alloc | apply pw_below_drewN | apply below_drew1) | exact HB.out)) hb); clear HO258; clear HO263; clear HB; have HO258 := n0_; have HO263 := n1_; have HO277 := n2_; have HB := n3_; clear n0_ n1_ n2_ n3_; clear hb ho71))
                                                                      all_goals (go_ret; exact ⟨_, by first | rfl | (simp [errW_none, errW_some] <;> rfl) | (simp only [← hji8]; first | rfl | (simp [errW_none, errW_some] <;> rfl)) | (simp [*, errW_none, errW_some] <;> rfl), by (with_reducible repeat (first | apply Kd.R_alloc | apply Kd.R_drewN | apply Kd.R_drew)); exact Kd.R_mono HO277.out (fun _ hk => trivial), by repeat (first | (with_reducible first | exact HB.out | apply below_alloc | apply pw_below_drewN | apply below_drew1) | exact HB.out)⟩)
                                                                    · rw [if_neg c52] at H
                                                                      exact absurd H (by simp)
                                                                  · rw [if_neg c50] at H
                                                                    exact absurd H (by simp)
                                                                · rw [if_neg c49] at H
                                                                  exact absurd H (by simp)
                                                              · rw [if_neg c47] at H
                                                                exact absurd H (by simp)
                                                            · rw [if_neg c46] at H
                                                              exact absurd H (by simp)
                                                          · rw [if_neg c45] at H
                                                            exact absurd H (by simp)
                                                        · rw [if_neg c44] at H
                                                          exact absurd H (by simp)
                                                      · rw [if_neg c43] at H
                                                        exact absurd H (by simp)
                                                    · rw [if_neg c40] at H
                                                      exact absurd H (by simp)
                                                  · rw [if_neg c38] at H
                                                    have c38b0 : decide (t255 < 10) = false := decide_eq_false c38
                                                    clear c38
                                                    have c72b0 := eq_true (of_decide_eq_true (by first | (with_reducible assumption) | assumption) : 0 ≤ 3)
                                                    have c73b0 := eq_true (of_decide_eq_true (by first | (with_reducible assumption) | assumption) : 3 ≤ ((rdOf ByteArray.empty t256 t259).size : Int))
                                                    by_cases c74 : ((rdOf ByteArray.empty t256 t259).extract 0 3).size + 1 ≤ 9223372036854775807
                                                    · rw [if_pos c74] at H
                                                      have c74b0 := eq_true c74
                                                      have c74b1 : decide (((rdOf ByteArray.empty t256 t259).extract 0 3).size + 1 ≤ 9223372036854775807) = true := decide_eq_true c74
                                                      try (have c74n := c74; simp only [ByteArray.size_append, ByteArray.size_extract, Nat.sub_zero] at c74n; have c74b3 := eq_true c74n; have c74b4 := eq_false (Nat.not_lt.2 c74n); clear c74n)
                                                      try have c74b2 : (9223372036854775807 < ((rdOf ByteArray.empty t256 t259).extract 0 3).size + 1) = False := eq_false (Nat.not_lt.2 c74)
                                                      by_cases c75 : (((rdOf ByteArray.empty t256 t259).extract 0 3) ++ (⟨#[32]⟩ : ByteArray)).size + (rdOf ByteArray.empty t261 (ji8)).size ≤ 9223372036854775807
                                                      · rw [if_pos c75] at H
                                                        have c75b0 := eq_true c75
                                                        have c75b1 : decide ((((rdOf ByteArray.empty t256 t259).extract 0 3) ++ (⟨#[32]⟩ : ByteArray)).size + (rdOf ByteArray.empty t261 (ji8)).size ≤ 9223372036854775807) = true := decide_eq_true c75
                                                        try (have c75n := c75; simp only [ByteArray.size_append, ByteArray.size_extract, Nat.sub_zero, show (⟨#[32]⟩ : ByteArray).size = 1 from rfl] at c75n; have c75b3 := eq_true c75n; have c75b4 := eq_false (Nat.not_lt.2 c75n); clear c75n)
                                                        try have c75b2 : (9223372036854775807 < (((rdOf ByteArray.empty t256 t259).extract 0 3) ++ (⟨#[32]⟩ : ByteArray)).size + (rdOf ByteArray.empty t261 (ji8)).size) = False := eq_false (Nat.not_lt.2 c75)
                                                        by_cases c76 : ((((rdOf ByteArray.empty t256 t259).extract 0 3) ++ (⟨#[32]⟩ : ByteArray)) ++ (rdOf ByteArray.empty t261 (ji8))).size + 1 ≤ 9223372036854775807
                                                        · rw [if_pos c76] at H
                                                          have c76b0 := eq_true c76
                                                          have c76b1 : decide (((((rdOf ByteArray.empty t256 t259).extract 0 3) ++ (⟨#[32]⟩ : ByteArray)) ++ (rdOf ByteArray.empty t261 (ji8))).size + 1 ≤ 9223372036854775807) = true := decide_eq_true c76
                                                          try (have c76n := c76; simp only [ByteArray.size_append, ByteArray.size_extract, Nat.sub_zero, show (⟨#[32]⟩ : ByteArray).size = 1 from rfl] at c76n; have c76b3 := eq_true c76n; have c76b4 := eq_false (Nat.not_lt.2 c76n); clear c76n)
                                                          try have c76b2 : (9223372036854775807 < ((((rdOf ByteArray.empty t256 t259).extract 0 3) ++ (⟨#[32]⟩ : ByteArray)) ++ (rdOf ByteArray.empty t261 (ji8))).size + 1) = False := eq_false (Nat.not_lt.2 c76)
                                                          by_cases c77 : (((((rdOf ByteArray.empty t256 t259).extract 0 3) ++ (⟨#[32]⟩ : ByteArray)) ++ (rdOf ByteArray.empty t261 (ji8))) ++ (⟨#[32]⟩ : ByteArray)).size + t271.size ≤ 9223372036854775807
                                                          · rw [if_pos c77] at H
                                                            have c77b0 := eq_true c77
                                                            have c77b1 : decide ((((((rdOf ByteArray.empty t256 t259).extract 0 3) ++ (⟨#[32]⟩ : ByteArray)) ++ (rdOf ByteArray.empty t261 (ji8))) ++ (⟨#[32]⟩ : ByteArray)).size + t271.size ≤ 9223372036854775807) = true := decide_eq_true c77
                                                            try (have c77n := c77; simp only [ByteArray.size_append, ByteArray.size_extract, Nat.sub_zero, show (⟨#[32]⟩ : ByteArray).size = 1 from rfl] at c77n; have c77b3 := eq_true c77n; have c77b4 := eq_false (Nat.not_lt.2 c77n); clear c77n)
                                                            try have c77b2 : (9223372036854775807 < (((((rdOf ByteArray.empty t256 t259).extract 0 3) ++ (⟨#[32]⟩ : ByteArray)) ++ (rdOf ByteArray.empty t261 (ji8))) ++ (⟨#[32]⟩ : ByteArray)).size + t271.size) = False := eq_false (Nat.not_lt.2 c77)
                                                            by_cases c78 : ((((((rdOf ByteArray.empty t256 t259).extract 0 3) ++ (⟨#[32]⟩ : ByteArray)) ++ (rdOf ByteArray.empty t261 (ji8))) ++ (⟨#[32]⟩ : ByteArray)) ++ t271).size + 1 ≤ 9223372036854775807
                                                            · rw [if_pos c78] at H
                                                              have c78b0 := eq_true c78
                                                              have c78b1 : decide (((((((rdOf ByteArray.empty t256 t259).extract 0 3) ++ (⟨#[32]⟩ : ByteArray)) ++ (rdOf ByteArray.empty t261 (ji8))) ++ (⟨#[32]⟩ : ByteArray)) ++ t271).size + 1 ≤ 9223372036854775807) = true := decide_eq_true c78
                                                              try (have c78n := c78; simp only [ByteArray.size_append, ByteArray.size_extract, Nat.sub_zero, show (⟨#[32]⟩ : ByteArray).size = 1 from rfl] at c78n; have c78b3 := eq_true c78n; have c78b4 := eq_false (Nat.not_lt.2 c78n); clear c78n)
                                                              try have c78b2 : (9223372036854775807 < ((((((rdOf ByteArray.empty t256 t259).extract 0 3) ++ (⟨#[32]⟩ : ByteArray)) ++ (rdOf ByteArray.empty t261 (ji8))) ++ (⟨#[32]⟩ : ByteArray)) ++ t271).size + 1) = False := eq_false (Nat.not_lt.2 c78)
                                                              replace H := Option.bind_eq_some_iff.mp H
                                                              obtain ⟨t278, A790, H⟩ := H
                                                              (try dsimp only at H)
                                                              have A79 := Aside0.mk A790
                                                              clear A790
                                                              by_cases c80 : (((((((rdOf ByteArray.empty t256 t259).extract 0 3) ++ (⟨#[32]⟩ : ByteArray)) ++ (rdOf ByteArray.empty t261 (ji8))) ++ (⟨#[32]⟩ : ByteArray)) ++ t271) ++ (⟨#[32]⟩ : ByteArray)).size + t278.size ≤ 9223372036854775807
                                                              · rw [if_pos c80] at H
                                                                have c80b0 := eq_true c80
                                                                have c80b1 : decide ((((((((rdOf ByteArray.empty t256 t259).extract 0 3) ++ (⟨#[32]⟩ : ByteArray)) ++ (rdOf ByteArray.empty t261 (ji8))) ++ (⟨#[32]⟩ : ByteArray)) ++ t271) ++ (⟨#[32]⟩ : ByteArray)).size + t278.size ≤ 9223372036854775807) = true := decide_eq_true c80
                                                                try (have c80n := c80; simp only [ByteArray.size_append, ByteArray.size_extract, Nat.sub_zero, show (⟨#[32]⟩ : ByteArray).size = 1 from rfl] at c80n; have c80b3 := eq_true c80n; have c80b4 := eq_false (Nat.not_lt.2 c80n); clear c80n)
                                                                try have c80b2 : (9223372036854775807 < (((((((rdOf ByteArray.empty t256 t259).extract 0 3) ++ (⟨#[32]⟩ : ByteArray)) ++ (rdOf ByteArray.empty t261 (ji8))) ++ (⟨#[32]⟩ : ByteArray)) ++ t271) ++ (⟨#[32]⟩ : ByteArray)).size + t278.size) = False := eq_false (Nat.not_lt.2 c80)
                                                                by_cases c81 : ((((((((rdOf ByteArray.empty t256 t259).extract 0 3) ++ (⟨#[32]⟩ : ByteArray)) ++ (rdOf ByteArray.empty t261 (ji8))) ++ (⟨#[32]⟩ : ByteArray)) ++ t271) ++ (⟨#[32]⟩ : ByteArray)) ++ t278).size + 1 ≤ 9223372036854775807
                                                                · rw [if_pos c81] at H
                                                                  have c81b0 := eq_true c81
                                                                  have c81b1 : decide (((((((((rdOf ByteArray.empty t256 t259).extract 0 3) ++ (⟨#[32]⟩ : ByteArray)) ++ (rdOf ByteArray.empty t261 (ji8))) ++ (⟨#[32]⟩ : ByteArray)) ++ t271) ++ (⟨#[32]⟩ : ByteArray)) ++ t278).size + 1 ≤ 9223372036854775807) = true := decide_eq_true c81
                                                                  try (have c81n := c81; simp only [ByteArray.size_append, ByteArray.size_extract, Nat.sub_zero, show (⟨#[32]⟩ : ByteArray).size = 1 from rfl] at c81n; have c81b3 := eq_true c81n; have c81b4 := eq_false (Nat.not_lt.2 c81n); clear c81n)
                                                                  try have c81b2 : (9223372036854775807 < ((((((((rdOf ByteArray.empty t256 t259).extract 0 3) ++ (⟨#[32]⟩ : ByteArray)) ++ (rdOf ByteArray.empty t261 (ji8))) ++ (⟨#[32]⟩ : ByteArray)) ++ t271) ++ (⟨#[32]⟩ : ByteArray)) ++ t278).size + 1) = False := eq_false (Nat.not_lt.2 c81)
                                                                  replace H := Option.bind_eq_some_iff.mp H
                                                                  obtain ⟨t279, A820, H⟩ := H
                                                                  (try dsimp only at H)
                                                                  have A82 := Aside0.mk A820
                                                                  clear A820
                                                                  by_cases c83 : (((((((((rdOf ByteArray.empty t256 t259).extract 0 3) ++ (⟨#[32]⟩ : ByteArray)) ++ (rdOf ByteArray.empty t261 (ji8))) ++ (⟨#[32]⟩ : ByteArray)) ++ t271) ++ (⟨#[32]⟩ : ByteArray)) ++ t278) ++ (⟨#[32]⟩ : ByteArray)).size + t279.size ≤ 9223372036854775807
                                                                  · rw [if_pos c83] at H
                                                                    have c83b0 := eq_true c83
                                                                    have c83b1 : decide ((((((((((rdOf ByteArray.empty t256 t259).extract 0 3) ++ (⟨#[32]⟩ : ByteArray)) ++ (rdOf ByteArray.empty t261 (ji8))) ++ (⟨#[32]⟩ : ByteArray)) ++ t271) ++ (⟨#[32]⟩ : ByteArray)) ++ t278) ++ (⟨#[32]⟩ : ByteArray)).size + t279.size ≤ 9223372036854775807) = true := decide_eq_true c83
                                                                    try (have c83n := c83; simp only [ByteArray.size_append, ByteArray.size_extract, Nat.sub_zero, show (⟨#[32]⟩ : ByteArray).size = 1 from rfl] at c83n; have c83b3 := eq_true c83n; have c83b4 := eq_false (Nat.not_lt.2 c83n); clear c83n)
                                                                    try have c83b2 : (9223372036854775807 < (((((((((rdOf ByteArray.empty t256 t259).extract 0 3) ++ (⟨#[32]⟩ : ByteArray)) ++ (rdOf ByteArray.empty t261 (ji8))) ++ (⟨#[32]⟩ : ByteArray)) ++ t271) ++ (⟨#[32]⟩ : ByteArray)) ++ t278) ++ (⟨#[32]⟩ : ByteArray)).size + t279.size) = False := eq_false (Nat.not_lt.2 c83)
                                                                    obtain ⟨y280, hy280⟩ : ∃ y_ : List ByteArray, y_ = (([((((((((((rdOf ByteArray.empty t256 t259).extract 0 3) ++ (⟨#[44, 32]⟩ : ByteArray)) ++ t265) ++ (⟨#[32]⟩ : ByteArray)) ++ (rdOf ByteArray.empty t261 (ji8))) ++ (⟨#[32]⟩ : ByteArray)) ++ t266) ++ (⟨#[32]⟩ : ByteArray)) ++ t267) ++ (⟨#[32, 71, 77, 84]⟩ : ByteArray), (((((((((rdOf ByteArray.empty t256 t259) ++ (⟨#[44, 32]⟩ : ByteArray)) ++ t268) ++ (⟨#[45]⟩ : ByteArray)) ++ (rdOf ByteArray.empty t261 (ji8))) ++ (⟨#[45]⟩ : ByteArray)) ++ t269) ++ (⟨#[32]⟩ : ByteArray)) ++ t270) ++ (⟨#[32, 71, 77, 84]⟩ : ByteArray), (((((((((rdOf ByteArray.empty t256 t259).extract 0 3) ++ (⟨#[32]⟩ : ByteArray)) ++ (rdOf ByteArray.empty t261 (ji8))) ++ (⟨#[32]⟩ : ByteArray)) ++ t271) ++ (⟨#[32]⟩ : ByteArray)) ++ t278) ++ (⟨#[32]⟩ : ByteArray)) ++ t279] : List ByteArray)) := ⟨_, rfl⟩
                                                                    replace H : (some y280) = some r := by first | (rw [hy280]; with_reducible exact H) | (have H2_ := (Option.bind_some _ _).symm.trans H; rw [hy280]; with_reducible exact H2_) | (have H2_ := (Option.bind_some _ _).symm.trans H; with_reducible exact H2_) | with_reducible exact H | (rw [hy280]; exact H) | exact H
                                                                    have Ny280 := Aside0.mk hy280
                                                                    clear hy280
                                                                    obtain rfl := Option.some.inj H
                                                                    go_enter Tryd.func42, Tryd.ntmps42
                                                                    try go_wp2_with (first | ((with_reducible refine gate_callee (f := 77) rfl ?_); refine goesL_ (some 15) rfl rfl Tryd.func77 (by kernel_rfl) rfl #[.int .i64 (wrap64 (Int.tdiv a0 86400))] rfl (by (try simp only [List.map_toArray, List.map_cons, List.map_nil]); first | done | rfl | (simp only [List.length_drop, List.length_take]; rfl) | (simp; repeat' first | rfl | constructor)) ?_; (with_reducible refine (spec_CivilOf.calls k (wrap64 (Int.tdiv a0 86400)) t253 t254 t255 _ A2.out).mono ?_); rintro e w84 ⟨rfl, hb⟩; refine ⟨_, rfl, ?_⟩; have n0_ := Aside0.mk (below_step (by repeat (first | (with_reducible first | exact HB.out | apply below_alloc | apply pw_below_drewN | apply below_drew1) | exact HB.out)) hb); clear HB; have HB := n0_; clear n0_; (try clear hb); (try clear hb2); (try clear hk); (try clear hi)) | ((with_reducible refine gate_callee (f := 78) rfl ?_); refine goesL_ (some 19) rfl rfl Tryd.func78 (by kernel_rfl) rfl #[] rfl (by (try simp only [List.map_toArray, List.map_cons, List.map_nil]); first | done | rfl | (simp only [List.length_drop, List.length_take]; rfl) | (simp; repeat' first | rfl | constructor)) ?_; (with_reducible refine (spec_l3Days.calls  t256 _ A3.out).mono ?_); rintro e w85 ⟨v257, rfl, ho0, hb⟩; refine ⟨_, rfl, ?_⟩; have n0_ := Aside0.mk (Kd.R_lower ho0 (below_size (by repeat (first | (with_reducible first | exact HB.out | apply below_alloc | apply pw_below_drewN | apply below_drew1) | exact HB.out)))); have n1_ := Aside0.mk (below_step (by repeat (first | (with_reducible first | exact HB.out | apply below_alloc | apply pw_below_drewN | apply below_drew1) | exact HB.out)) hb); clear HB; have HO258 := n0_; have HB := n1_; clear n0_ n1_; (try clear hb); (try clear hb2); (try clear hk); (try clear hi); (try clear ho0)) | ((with_reducible refine gate_callee (f := 79) rfl ?_); refine goesL_ (some 22) rfl rfl Tryd.func79 (by kernel_rfl) rfl #[.int .i64 (wrap64 (Int.tdiv a0 86400))] rfl (by (try simp only [List.map_toArray, List.map_cons, List.map_nil]); first | done | rfl | (simp only [List.length_drop, List.length_take]; rfl) | (simp; repeat' first | rfl | constructor)) ?_; (with_reducible refine (spec_WeekdayOf.calls (wrap64 (Int.tdiv a0 86400)) t259 _ A4.out).mono ?_); rintro e w' ⟨rfl, ⟨nd, rfl⟩⟩; refine ⟨_, rfl, ?_⟩; obtain ⟨Ao86, co86, eo86⟩ := Kd.R_slice HO258.out; subst eo86; have p260 : 0 ≤ (t259 : Int) := of_decide_eq_true (by first | (with_reducible assumption) | assumption); have q260 : t259 < (t256.length : Int) := of_decide_eq_true (by first | (with_reducible assumption) | assumption); obtain ⟨ad260, e260, hx260_0⟩ := Kd.at_string (Kd.R_reads' HO258.out).2.2 t259 p260 q260; cases e260; replace p260 := eq_true p260; replace q260 := eq_true q260) | ((with_reducible refine gate_callee (f := 74) rfl ?_); refine goesL_ (some 25) rfl rfl Tryd.func74 (by kernel_rfl) rfl #[] rfl (by (try simp only [List.map_toArray, List.map_cons, List.map_nil]); first | done | rfl | (simp only [List.length_drop, List.length_take]; rfl) | (simp; repeat' first | rfl | constructor)) ?_; (with_reducible refine (spec_l3Months.calls  t261 _ A7.out).mono ?_); rintro e w87 ⟨v262, rfl, ho0, hb⟩; refine ⟨_, rfl, ?_⟩; have n0_ := Aside0.mk (Kd.R_elder' (by (with_reducible repeat (first | apply Kd.R_alloc | apply Kd.R_drewN | apply Kd.R_drew)); exact HO258.out) (Kd.R_base ho0) hb); have n1_ := Aside0.mk (Kd.R_lower (Kd.R_new' ho0 (Kd.R_lt (by (with_reducible repeat (first | apply Kd.R_alloc | apply Kd.R_drewN | apply Kd.R_drew)); exact HO258.out))) (below_size (by repeat (first | (with_reducible first | exact HB.out | apply below_alloc | apply pw_below_drewN | apply below_drew1) | exact HB.out)))); have n2_ := Aside0.mk (below_step (by repeat (first | (with_reducible first | exact HB.out | apply below_alloc | apply pw_below_drewN | apply below_drew1) | exact HB.out)) hb); clear HO258; clear HB; have HO258 := n0_; have HO263 := n1_; have HB := n2_; clear n0_ n1_ n2_; (try clear hb); (try clear hb2); (try clear hk); (try clear hi); (try clear ho0); obtain ⟨Ao88, co88, eo88⟩ := Kd.R_slice HO263.out; subst eo88; have p264 : 0 ≤ ((ji8) : Int) := of_decide_eq_true (by first | (with_reducible assumption) | assumption); have q264 : (ji8) < (t261.length : Int) := of_decide_eq_true (by first | (with_reducible assumption) | assumption); obtain ⟨ad264, e264, hx264_0⟩ := Kd.at_string (Kd.R_reads' HO263.out).2.2 (ji8) p264 q264; cases e264; replace p264 := eq_true p264; replace q264 := eq_true q264))
                                                                    have n0_ := Aside0.mk (Kd.R_drew HO258.out)
                                                                    have n1_ := Aside0.mk (Kd.R_drew HO263.out)
                                                                    have n2_ := Aside0.mk (below_drew1 HB.out)
                                                                    clear HO258
                                                                    clear HO263
                                                                    clear HB
                                                                    have HO258 := n0_
                                                                    have HO263 := n1_
                                                                    have HB := n2_
                                                                    clear n0_ n1_ n2_
                                                                    refine start_ (n := 19) (S := fun w' => True) (ds := []) #[false, false, false, false, false, false, false, false, false, false, false, false, false, false, false, false, false, false, false] (by kernel_rfl) rfl rfl trivial (fun hHeld => ?_); refine with_tabW spec_l3Forms.tab4 spec_l3Forms.bits4 (fun HT_ HW_ => ?_)
                                                                    generalize w87.drew = w89 at HO258 HO263 HB hHeld ⊢
                                                                    refine pure_ (i := 0) (N := some 30) (v := ?_) (a' := ?_) #[true, false, false, false, false, false, false, false, false, false, false, false, false, false, false, false, false, false, false] rfl rfl (any_of HT_.out (by kernel_rfl)) (fun _ _ _ h => h) (Or.inl ⟨by rfl, ?_⟩) ?_ ?_
                                                                    rotate_left
                                                                    · intro w'
                                                                      go_simp
                                                                      with_reducible rfl
                                                                    rotate_left
                                                                    · simp only [Act.put, List.setIfInBounds_toArray, List.set_cons_zero, List.set_cons_succ, i64_w, i32_w]
                                                                      rfl
                                                                    refine pure_ (i := 1) (N := some 31) (v := ?_) (a' := ?_) #[true, true, false, false, false, false, false, false, false, false, false, false, false, false, false, false, false, false, false] rfl rfl (any_of HT_.out (by kernel_rfl)) (fun _ _ _ h => h) (Or.inl ⟨by rfl, ?_⟩) ?_ ?_
                                                                    rotate_left
                                                                    · intro w'
                                                                      go_simp
                                                                      with_reducible rfl
                                                                    rotate_left
                                                                    · simp only [Act.put, List.setIfInBounds_toArray, List.set_cons_zero, List.set_cons_succ, i64_w, i32_w]
                                                                      rfl
                                                                    refine pure_ (i := 2) (N := some 32) (v := ?_) (a' := ?_) #[true, true, true, false, false, false, false, false, false, false, false, false, false, false, false, false, false, false, false] rfl rfl (any_of HT_.out (by kernel_rfl)) (fun _ _ _ h => h) (Or.inl ⟨by rfl, ?_⟩) ?_ ?_
                                                                    rotate_left
                                                                    · intro w'
                                                                      go_simp
                                                                      with_reducible rfl
                                                                    rotate_left
                                                                    · simp only [Act.put, List.setIfInBounds_toArray, List.set_cons_zero, List.set_cons_succ, i64_w, i32_w]
                                                                      rfl
                                                                    refine pure_ (i := 3) (N := some 33) (v := ?_) (a' := ?_) #[true, true, true, true, false, false, false, false, false, false, false, false, false, false, false, false, false, false, false] rfl rfl (any_of HT_.out (by kernel_rfl)) (fun _ _ _ h => h) (Or.inl ⟨by rfl, ?_⟩) ?_ ?_
                                                                    rotate_left
                                                                    · intro w'
                                                                      go_simp
                                                                      with_reducible rfl
                                                                    rotate_left
                                                                    · simp only [Act.put, List.setIfInBounds_toArray, List.set_cons_zero, List.set_cons_succ, i64_w, i32_w]
                                                                      rfl
                                                                    refine pure_ (i := 7) (N := some 37) (v := ?_) (a' := ?_) #[true, true, true, true, false, false, false, true, false, false, false, false, false, false, false, false, false, false, false] rfl rfl (any_of HT_.out (by kernel_rfl)) (fun _ _ _ h => h) (Or.inl ⟨by rfl, ?_⟩) ?_ ?_
                                                                    rotate_left
                                                                    · intro w'
                                                                      go_simp
                                                                      with_reducible rfl
                                                                    rotate_left
                                                                    · simp only [Act.put, List.setIfInBounds_toArray, List.set_cons_zero, List.set_cons_succ, i64_w, i32_w]
                                                                      rfl
                                                                    refine pure_ (i := 10) (N := some 40) (v := ?_) (a' := ?_) #[true, true, true, true, false, false, false, true, false, false, true, false, false, false, false, false, false, false, false] rfl rfl (any_of HT_.out (by kernel_rfl)) (fun _ _ _ h => h) (Or.inl ⟨by rfl, ?_⟩) ?_ ?_
                                                                    rotate_left
                                                                    · intro w'
                                                                      go_simp
                                                                      with_reducible rfl
                                                                    rotate_left
                                                                    · simp only [Act.put, List.setIfInBounds_toArray, List.set_cons_zero, List.set_cons_succ, i64_w, i32_w]
                                                                      rfl
                                                                    refine pure_ (i := 14) (N := some 44) (v := ?_) (a' := ?_) #[true, true, true, true, false, false, false, true, false, false, true, false, false, false, true, false, false, false, false] rfl rfl (any_of HT_.out (by kernel_rfl)) (fun _ _ _ h => h) (Or.inl ⟨by rfl, ?_⟩) ?_ ?_
                                                                    rotate_left
                                                                    · intro w'
                                                                      go_simp
                                                                      with_reducible rfl
                                                                    rotate_left
                                                                    · simp only [Act.put, List.setIfInBounds_toArray, List.set_cons_zero, List.set_cons_succ, i64_w, i32_w]
                                                                      rfl
                                                                    refine one_ (i := 4) (N := some 34) #[true, true, true, true, true, false, false, true, false, false, true, false, false, false, true, false, false, false, false] rfl rfl (one_of HT_.out (by kernel_rfl)) (by decide) (fun K hK => ?_)
                                                                    refine goes_ Tryd.func80 (by kernel_rfl) rfl #[.int .i64 t255, .int .i64 2] (by rfl) rfl rfl (by (try simp only [List.map_toArray, List.map_cons, List.map_nil]); first | done | rfl | (simp only [List.length_drop, List.length_take]; rfl)) ?_
                                                                    with_reducible refine (spec_Digits.calls k t255 2 t265 _ A14.out).mono ?_
                                                                    rintro e w90 ⟨rfl, hb⟩
                                                                    refine ⟨_, rfl, ?_⟩
                                                                    have n0_ := Aside0.mk (Kd.R_below (by (with_reducible repeat (first | apply Kd.R_alloc | apply Kd.R_drewN | apply Kd.R_drew)); exact HO258.out) hb)
                                                                    have n1_ := Aside0.mk (Kd.R_below (by (with_reducible repeat (first | apply Kd.R_alloc | apply Kd.R_drewN | apply Kd.R_drew)); exact HO263.out) hb)
                                                                    have n2_ := Aside0.mk (below_step (by repeat (first | (with_reducible first | exact HB.out | apply below_alloc | apply pw_below_drewN | apply below_drew1) | exact HB.out)) hb)
                                                                    clear HO258
                                                                    clear HO263
                                                                    clear HB
                                                                    have HO258 := n0_
                                                                    have HO263 := n1_
                                                                    have HB := n2_
                                                                    clear n0_ n1_ n2_
                                                                    (try clear hb)
                                                                    (try clear hb2)
                                                                    (try clear hk)
                                                                    (try clear hi)
                                                                    refine hK.out _ _ trivial (fun hHeld => ?_)
                                                                    clear hK K
                                                                    refine norm_ (a' := ?_) ?_ ?_
                                                                    rotate_left
                                                                    · show Act.put _ (some 34) _ = _
                                                                      simp only [Act.put, List.setIfInBounds_toArray, List.set_cons_zero, List.set_cons_succ, i64_w, i32_w]
                                                                      rfl
                                                                    refine pure_ (i := 5) (N := some 35) (v := ?_) (a' := ?_) #[true, true, true, true, true, true, false, true, false, false, true, false, false, false, true, false, false, false, false] rfl rfl (any_of HT_.out (by kernel_rfl)) (fun _ _ _ h => h) (Or.inl ⟨by rfl, ?_⟩) ?_ ?_
                                                                    rotate_left
                                                                    · intro w'
                                                                      go_simp
                                                                      with_reducible rfl
                                                                    rotate_left
                                                                    · simp only [Act.put, List.setIfInBounds_toArray, List.set_cons_zero, List.set_cons_succ, i64_w, i32_w]
                                                                      rfl
                                                                    refine pure_ (i := 6) (N := some 36) (v := ?_) (a' := ?_) #[true, true, true, true, true, true, true, true, false, false, true, false, false, false, true, false, false, false, false] rfl rfl (any_of HT_.out (by kernel_rfl)) (fun _ _ _ h => h) (Or.inl ⟨by rfl, ?_⟩) ?_ ?_
                                                                    rotate_left
                                                                    · intro w'
                                                                      go_simp
                                                                      with_reducible rfl
                                                                    rotate_left
                                                                    · simp only [Act.put, List.setIfInBounds_toArray, List.set_cons_zero, List.set_cons_succ, i64_w, i32_w]
                                                                      rfl
                                                                    refine pure_ (i := 8) (N := some 38) (v := ?_) (a' := ?_) #[true, true, true, true, true, true, true, true, true, false, true, false, false, false, true, false, false, false, false] rfl rfl (any_of HT_.out (by kernel_rfl)) (fun _ _ _ h => h) (Or.inl ⟨by rfl, ?_⟩) ?_ ?_
                                                                    rotate_left
                                                                    · intro w'
                                                                      go_simp
                                                                      with_reducible rfl
                                                                    rotate_left
                                                                    · simp only [Act.put, List.setIfInBounds_toArray, List.set_cons_zero, List.set_cons_succ, i64_w, i32_w]
                                                                      rfl
                                                                    refine pure_ (i := 9) (N := some 39) (v := ?_) (a' := ?_) #[true, true, true, true, true, true, true, true, true, true, true, false, false, false, true, false, false, false, false] rfl rfl (any_of HT_.out (by kernel_rfl)) (fun _ _ _ h => h) (Or.inl ⟨by rfl, ?_⟩) ?_ ?_
                                                                    rotate_left
                                                                    · intro w'
                                                                      go_simp
                                                                      with_reducible rfl
                                                                    rotate_left
                                                                    · simp only [Act.put, List.setIfInBounds_toArray, List.set_cons_zero, List.set_cons_succ, i64_w, i32_w]
                                                                      rfl
                                                                    refine one_ (i := 11) (N := some 41) #[true, true, true, true, true, true, true, true, true, true, true, true, false, false, true, false, false, false, false] rfl rfl (one_of HT_.out (by kernel_rfl)) (by decide) (fun K hK => ?_)
                                                                    refine goes_ Tryd.func80 (by kernel_rfl) rfl #[.int .i64 t253, .int .i64 4] (by rfl) rfl rfl (by (try simp only [List.map_toArray, List.map_cons, List.map_nil]); first | done | rfl | (simp only [List.length_drop, List.length_take]; rfl)) ?_
                                                                    with_reducible refine (spec_Digits.calls k t253 4 t266 _ A19.out).mono ?_
                                                                    rintro e w91 ⟨rfl, hb⟩
                                                                    refine ⟨_, rfl, ?_⟩
                                                                    have n0_ := Aside0.mk (Kd.R_below (by (with_reducible repeat (first | apply Kd.R_alloc | apply Kd.R_drewN | apply Kd.R_drew)); exact HO258.out) hb)
                                                                    have n1_ := Aside0.mk (Kd.R_below (by (with_reducible repeat (first | apply Kd.R_alloc | apply Kd.R_drewN | apply Kd.R_drew)); exact HO263.out) hb)
                                                                    have n2_ := Aside0.mk (below_step (by repeat (first | (with_reducible first | exact HB.out | apply below_alloc | apply pw_below_drewN | apply below_drew1) | exact HB.out)) hb)
                                                                    clear HO258
                                                                    clear HO263
                                                                    clear HB
                                                                    have HO258 := n0_
                                                                    have HO263 := n1_
                                                                    have HB := n2_
                                                                    clear n0_ n1_ n2_
                                                                    (try clear hb)
                                                                    (try clear hb2)
                                                                    (try clear hk)
                                                                    (try clear hi)
                                                                    refine hK.out _ _ trivial (fun hHeld => ?_)
                                                                    clear hK K
                                                                    refine norm_ (a' := ?_) ?_ ?_
                                                                    rotate_left
                                                                    · show Act.put _ (some 41) _ = _
                                                                      simp only [Act.put, List.setIfInBounds_toArray, List.set_cons_zero, List.set_cons_succ, i64_w, i32_w]
                                                                      rfl
                                                                    refine pure_ (i := 12) (N := some 42) (v := ?_) (a' := ?_) #[true, true, true, true, true, true, true, true, true, true, true, true, true, false, true, false, false, false, false] rfl rfl (any_of HT_.out (by kernel_rfl)) (fun _ _ _ h => h) (Or.inl ⟨by rfl, ?_⟩) ?_ ?_
                                                                    rotate_left
                                                                    · intro w'
                                                                      go_simp
                                                                      with_reducible rfl
                                                                    rotate_left
                                                                    · simp only [Act.put, List.setIfInBounds_toArray, List.set_cons_zero, List.set_cons_succ, i64_w, i32_w]
                                                                      rfl
                                                                    refine pure_ (i := 13) (N := some 43) (v := ?_) (a' := ?_) #[true, true, true, true, true, true, true, true, true, true, true, true, true, true, true, false, false, false, false] rfl rfl (any_of HT_.out (by kernel_rfl)) (fun _ _ _ h => h) (Or.inl ⟨by rfl, ?_⟩) ?_ ?_
                                                                    rotate_left
                                                                    · intro w'
                                                                      go_simp
                                                                      with_reducible rfl
                                                                    rotate_left
                                                                    · simp only [Act.put, List.setIfInBounds_toArray, List.set_cons_zero, List.set_cons_succ, i64_w, i32_w]
                                                                      rfl
                                                                    refine one_ (i := 15) (N := some 45) #[true, true, true, true, true, true, true, true, true, true, true, true, true, true, true, true, false, false, false] rfl rfl (one_of HT_.out (by kernel_rfl)) (by decide) (fun K hK => ?_)
                                                                    refine goes_ Tryd.func81 (by kernel_rfl) rfl #[.int .i64 a0] (by rfl) rfl rfl (by (try simp only [List.map_toArray, List.map_cons, List.map_nil]); first | done | rfl | (simp only [List.length_drop, List.length_take]; rfl)) ?_
                                                                    with_reducible refine (spec_l3Clock.calls k a0 t267 _ A22.out).mono ?_
                                                                    rintro e w92 ⟨rfl, hb⟩
                                                                    refine ⟨_, rfl, ?_⟩
                                                                    have n0_ := Aside0.mk (Kd.R_below (by (with_reducible repeat (first | apply Kd.R_alloc | apply Kd.R_drewN | apply Kd.R_drew)); exact HO258.out) hb)
                                                                    have n1_ := Aside0.mk (Kd.R_below (by (with_reducible repeat (first | apply Kd.R_alloc | apply Kd.R_drewN | apply Kd.R_drew)); exact HO263.out) hb)
                                                                    have n2_ := Aside0.mk (below_step (by repeat (first | (with_reducible first | exact HB.out | apply below_alloc | apply pw_below_drewN | apply below_drew1) | exact HB.out)) hb)
                                                                    clear HO258
                                                                    clear HO263
                                                                    clear HB
                                                                    have HO258 := n0_
                                                                    have HO263 := n1_
                                                                    have HB := n2_
                                                                    clear n0_ n1_ n2_
                                                                    (try clear hb)
                                                                    (try clear hb2)
                                                                    (try clear hk)
                                                                    (try clear hi)
                                                                    refine hK.out _ _ trivial (fun hHeld => ?_)
                                                                    clear hK K
                                                                    refine norm_ (a' := ?_) ?_ ?_
                                                                    rotate_left
                                                                    · show Act.put _ (some 45) _ = _
                                                                      simp only [Act.put, List.setIfInBounds_toArray, List.set_cons_zero, List.set_cons_succ, i64_w, i32_w]
                                                                      rfl
                                                                    refine pure_ (i := 16) (N := some 46) (v := ?_) (a' := ?_) #[true, true, true, true, true, true, true, true, true, true, true, true, true, true, true, true, true, false, false] rfl rfl (any_of HT_.out (by kernel_rfl)) (fun _ _ _ h => h) (Or.inl ⟨by rfl, ?_⟩) ?_ ?_
                                                                    rotate_left
                                                                    · intro w'
                                                                      go_simp
                                                                      with_reducible rfl
                                                                    rotate_left
                                                                    · simp only [Act.put, List.setIfInBounds_toArray, List.set_cons_zero, List.set_cons_succ, i64_w, i32_w]
                                                                      rfl
                                                                    refine pure_ (i := 17) (N := some 47) (v := ?_) (a' := ?_) #[true, true, true, true, true, true, true, true, true, true, true, true, true, true, true, true, true, true, false] rfl rfl (any_of HT_.out (by kernel_rfl)) (fun _ _ _ h => h) (Or.inl ⟨by rfl, ?_⟩) ?_ ?_
                                                                    rotate_left
                                                                    · intro w'
                                                                      go_simp
                                                                      with_reducible rfl
                                                                    rotate_left
                                                                    · simp only [Act.put, List.setIfInBounds_toArray, List.set_cons_zero, List.set_cons_succ, i64_w, i32_w]
                                                                      rfl
                                                                    refine pure_ (i := 18) (N := some 8) (v := ?_) (a' := ?_) #[true, true, true, true, true, true, true, true, true, true, true, true, true, true, true, true, true, true, true] rfl rfl (any_of HT_.out (by kernel_rfl)) (fun _ _ _ h => h) (Or.inl ⟨by rfl, ?_⟩) ?_ ?_
                                                                    rotate_left
                                                                    · intro w'
                                                                      go_simp
                                                                      with_reducible rfl
                                                                    rotate_left
                                                                    · simp only [Act.put, List.setIfInBounds_toArray, List.set_cons_zero, List.set_cons_succ, i64_w, i32_w]
                                                                      rfl
                                                                    refine done_ (done_of HT_.out (by kernel_rfl)) ?_
                                                                    try go_wp2_with (first | ((with_reducible refine gate_callee (f := 80) rfl ?_); refine goesL_ (some 51) rfl rfl Tryd.func80 (by kernel_rfl) rfl #[.int .i64 t255, .int .i64 2] rfl (by (try simp only [List.map_toArray, List.map_cons, List.map_nil]); first | done | rfl | (simp only [List.length_drop, List.length_take]; rfl) | (simp; repeat' first | rfl | constructor)) ?_; (with_reducible refine (spec_Digits.calls k t255 2 t268 _ A26.out).mono ?_); rintro e w93 ⟨rfl, hb⟩; refine ⟨_, rfl, ?_⟩; have n0_ := Aside0.mk (Kd.R_below (by (with_reducible repeat (first | apply Kd.R_alloc | apply Kd.R_drewN | apply Kd.R_drew)); exact HO258.out) hb); have n1_ := Aside0.mk (Kd.R_below (by (with_reducible repeat (first | apply Kd.R_alloc | apply Kd.R_drewN | apply Kd.R_drew)); exact HO263.out) hb); have n2_ := Aside0.mk (below_step (by repeat (first | (with_reducible first | exact HB.out | apply below_alloc | apply pw_below_drewN | apply below_drew1) | exact HB.out)) hb); clear HO258; clear HO263; clear HB; have HO258 := n0_; have HO263 := n1_; have HB := n2_; clear n0_ n1_ n2_; (try clear hb); (try clear hb2); (try clear hk); (try clear hi)) | ((with_reducible refine gate_callee (f := 80) rfl ?_); refine goesL_ (some 59) rfl rfl Tryd.func80 (by kernel_rfl) rfl #[.int .i64 (Int.tmod t253 100), .int .i64 2] rfl (by (try simp only [List.map_toArray, List.map_cons, List.map_nil]); first | done | rfl | (simp only [List.length_drop, List.length_take]; rfl) | (simp; repeat' first | rfl | constructor)) ?_; (with_reducible refine (spec_Digits.calls k (Int.tmod t253 100) 2 t269 _ A31.out).mono ?_); rintro e w94 ⟨rfl, hb⟩; refine ⟨_, rfl, ?_⟩; have n0_ := Aside0.mk (Kd.R_below (by (with_reducible repeat (first | apply Kd.R_alloc | apply Kd.R_drewN | apply Kd.R_drew)); exact HO258.out) hb); have n1_ := Aside0.mk (Kd.R_below (by (with_reducible repeat (first | apply Kd.R_alloc | apply Kd.R_drewN | apply Kd.R_drew)); exact HO263.out) hb); have n2_ := Aside0.mk (below_step (by repeat (first | (with_reducible first | exact HB.out | apply below_alloc | apply pw_below_drewN | apply below_drew1) | exact HB.out)) hb); clear HO258; clear HO263; clear HB; have HO258 := n0_; have HO263 := n1_; have HB := n2_; clear n0_ n1_ n2_; (try clear hb); (try clear hb2); (try clear hk); (try clear hi)) | ((with_reducible refine gate_callee (f := 81) rfl ?_); refine goesL_ (some 63) rfl rfl Tryd.func81 (by kernel_rfl) rfl #[.int .i64 a0] rfl (by (try simp only [List.map_toArray, List.map_cons, List.map_nil]); first | done | rfl | (simp only [List.length_drop, List.length_take]; rfl) | (simp; repeat' first | rfl | constructor)) ?_; (with_reducible refine (spec_l3Clock.calls k a0 t270 _ A34.out).mono ?_); rintro e w95 ⟨rfl, hb⟩; refine ⟨_, rfl, ?_⟩; have n0_ := Aside0.mk (Kd.R_below (by (with_reducible repeat (first | apply Kd.R_alloc | apply Kd.R_drewN | apply Kd.R_drew)); exact HO258.out) hb); have n1_ := Aside0.mk (Kd.R_below (by (with_reducible repeat (first | apply Kd.R_alloc | apply Kd.R_drewN | apply Kd.R_drew)); exact HO263.out) hb); have n2_ := Aside0.mk (below_step (by repeat (first | (with_reducible first | exact HB.out | apply below_alloc | apply pw_below_drewN | apply below_drew1) | exact HB.out)) hb); clear HO258; clear HO263; clear HB; have HO258 := n0_; have HO263 := n1_; have HB := n2_; clear n0_ n1_ n2_; (try clear hb); (try clear hb2); (try clear hk); (try clear hi)) | ((with_reducible refine gate_callee (f := 80) rfl ?_); refine goesL_ (some 67) rfl rfl Tryd.func80 (by kernel_rfl) rfl #[.int .i64 t255, .int .i64 2] rfl (by (try simp only [List.map_toArray, List.map_cons, List.map_nil]); first | done | rfl | (simp only [List.length_drop, List.length_take]; rfl) | (simp; repeat' first | rfl | constructor)) ?_; (with_reducible refine (spec_Digits.calls k t255 2 t271 _ A37.out).mono ?_); rintro e w96 ⟨rfl, hb⟩; refine ⟨_, rfl, ?_⟩; have n0_ := Aside0.mk (Kd.R_below (by (with_reducible repeat (first | apply Kd.R_alloc | apply Kd.R_drewN | apply Kd.R_drew)); exact HO258.out) hb); have n1_ := Aside0.mk (Kd.R_below (by (with_reducible repeat (first | apply Kd.R_alloc | apply Kd.R_drewN | apply Kd.R_drew)); exact HO263.out) hb); have n2_ := Aside0.mk (below_step (by repeat (first | (with_reducible first | exact HB.out | apply below_alloc | apply pw_below_drewN | apply below_drew1) | exact HB.out)) hb); clear HO258; clear HO263; clear HB; have HO258 := n0_; have HO263 := n1_; have HB := n2_; clear n0_ n1_ n2_; (try clear hb); (try clear hb2); (try clear hk); (try clear hi)))
                                                                    have n0_ := Aside0.mk (Kd.R_drew HO258.out)
                                                                    have n1_ := Aside0.mk (Kd.R_drew HO263.out)
                                                                    have n2_ := Aside0.mk (below_drew1 HB.out)
                                                                    clear HO258
                                                                    clear HO263
                                                                    clear HB
                                                                    have HO258 := n0_
                                                                    have HO263 := n1_
                                                                    have HB := n2_
                                                                    clear n0_ n1_ n2_
                                                                    refine start_ (n := 17) (S := fun w' => True) (ds := []) #[false, false, false, false, false, false, false, false, false, false, false, false, false, false, false, false, false] (by kernel_rfl) rfl rfl trivial (fun hHeld => ?_); refine with_tabW spec_l3Forms.tab9 spec_l3Forms.bits9 (fun HT_ HW_ => ?_)
                                                                    generalize w96.drew = w97 at HO258 HO263 HB hHeld ⊢
                                                                    refine pure_ (i := 0) (N := some 73) (v := ?_) (a' := ?_) #[true, false, false, false, false, false, false, false, false, false, false, false, false, false, false, false, false] rfl rfl (any_of HT_.out (by kernel_rfl)) (fun _ _ _ h => h) (Or.inl ⟨by rfl, ?_⟩) ?_ ?_
                                                                    rotate_left
                                                                    · intro w'
                                                                      go_simp
                                                                      with_reducible rfl
                                                                    rotate_left
                                                                    · simp only [Act.put, List.setIfInBounds_toArray, List.set_cons_zero, List.set_cons_succ, i64_w, i32_w]
                                                                      rfl
                                                                    refine pure_ (i := 1) (N := some 74) (v := ?_) (a' := ?_) #[true, true, false, false, false, false, false, false, false, false, false, false, false, false, false, false, false] rfl rfl (any_of HT_.out (by kernel_rfl)) (fun _ _ _ h => h) (Or.inl ⟨by rfl, ?_⟩) ?_ ?_
                                                                    rotate_left
                                                                    · intro w'
                                                                      go_simp
                                                                      with_reducible rfl
                                                                    rotate_left
                                                                    · simp only [Act.put, List.setIfInBounds_toArray, List.set_cons_zero, List.set_cons_succ, i64_w, i32_w]
                                                                      rfl
                                                                    refine pure_ (i := 2) (N := some 75) (v := ?_) (a' := ?_) #[true, true, true, false, false, false, false, false, false, false, false, false, false, false, false, false, false] rfl rfl (any_of HT_.out (by kernel_rfl)) (fun _ _ _ h => h) (Or.inl ⟨by rfl, ?_⟩) ?_ ?_
                                                                    rotate_left
                                                                    · intro w'
                                                                      go_simp
                                                                      with_reducible rfl
                                                                    rotate_left
                                                                    · simp only [Act.put, List.setIfInBounds_toArray, List.set_cons_zero, List.set_cons_succ, i64_w, i32_w]
                                                                      rfl
                                                                    refine pure_ (i := 3) (N := some 76) (v := ?_) (a' := ?_) #[true, true, true, true, false, false, false, false, false, false, false, false, false, false, false, false, false] rfl rfl (any_of HT_.out (by kernel_rfl)) (fun _ _ _ h => h) (Or.inl ⟨by rfl, ?_⟩) ?_ ?_
                                                                    rotate_left
                                                                    · intro w'
                                                                      go_simp
                                                                      with_reducible rfl
                                                                    rotate_left
                                                                    · simp only [Act.put, List.setIfInBounds_toArray, List.set_cons_zero, List.set_cons_succ, i64_w, i32_w]
                                                                      rfl
                                                                    refine pure_ (i := 4) (N := some 77) (v := ?_) (a' := ?_) #[true, true, true, true, true, false, false, false, false, false, false, false, false, false, false, false, false] rfl rfl (any_of HT_.out (by kernel_rfl)) (fun _ _ _ h => h) (Or.inl ⟨by rfl, ?_⟩) ?_ ?_
                                                                    rotate_left
                                                                    · intro w'
                                                                      go_simp
                                                                      with_reducible rfl
                                                                    rotate_left
                                                                    · simp only [Act.put, List.setIfInBounds_toArray, List.set_cons_zero, List.set_cons_succ, i64_w, i32_w]
                                                                      rfl
                                                                    refine pure_ (i := 5) (N := some 78) (v := ?_) (a' := ?_) #[true, true, true, true, true, true, false, false, false, false, false, false, false, false, false, false, false] rfl rfl (any_of HT_.out (by kernel_rfl)) (fun _ _ _ h => h) (Or.inl ⟨by rfl, ?_⟩) ?_ ?_
                                                                    rotate_left
                                                                    · intro w'
                                                                      go_simp
                                                                      with_reducible rfl
                                                                    rotate_left
                                                                    · simp only [Act.put, List.setIfInBounds_toArray, List.set_cons_zero, List.set_cons_succ, i64_w, i32_w]
                                                                      rfl
                                                                    refine pure_ (i := 6) (N := some 79) (v := ?_) (a' := ?_) #[true, true, true, true, true, true, true, false, false, false, false, false, false, false, false, false, false] rfl rfl (any_of HT_.out (by kernel_rfl)) (fun _ _ _ h => h) (Or.inl ⟨by rfl, ?_⟩) ?_ ?_
                                                                    rotate_left
                                                                    · intro w'
                                                                      go_simp
                                                                      with_reducible rfl
                                                                    rotate_left
                                                                    · simp only [Act.put, List.setIfInBounds_toArray, List.set_cons_zero, List.set_cons_succ, i64_w, i32_w]
                                                                      rfl
                                                                    refine pure_ (i := 7) (N := some 80) (v := ?_) (a' := ?_) #[true, true, true, true, true, true, true, true, false, false, false, false, false, false, false, false, false] rfl rfl (any_of HT_.out (by kernel_rfl)) (fun _ _ _ h => h) (Or.inl ⟨by rfl, ?_⟩) ?_ ?_
                                                                    rotate_left
                                                                    · intro w'
                                                                      go_simp
                                                                      with_reducible rfl
                                                                    rotate_left
                                                                    · simp only [Act.put, List.setIfInBounds_toArray, List.set_cons_zero, List.set_cons_succ, i64_w, i32_w]
                                                                      rfl
                                                                    refine pure_ (i := 8) (N := some 81) (v := ?_) (a' := ?_) #[true, true, true, true, true, true, true, true, true, false, false, false, false, false, false, false, false] rfl rfl (any_of HT_.out (by kernel_rfl)) (fun _ _ _ h => h) (Or.inl ⟨by rfl, ?_⟩) ?_ ?_
                                                                    rotate_left
                                                                    · intro w'
                                                                      go_simp
                                                                      with_reducible rfl
                                                                    rotate_left
                                                                    · simp only [Act.put, List.setIfInBounds_toArray, List.set_cons_zero, List.set_cons_succ, i64_w, i32_w]
                                                                      rfl
                                                                    refine pure_ (i := 9) (N := some 82) (v := ?_) (a' := ?_) #[true, true, true, true, true, true, true, true, true, true, false, false, false, false, false, false, false] rfl rfl (any_of HT_.out (by kernel_rfl)) (fun _ _ _ h => h) (Or.inl ⟨by rfl, ?_⟩) ?_ ?_
                                                                    rotate_left
                                                                    · intro w'
                                                                      go_simp
                                                                      with_reducible rfl
                                                                    rotate_left
                                                                    · simp only [Act.put, List.setIfInBounds_toArray, List.set_cons_zero, List.set_cons_succ, i64_w, i32_w]
                                                                      rfl
                                                                    refine pure_ (i := 13) (N := some 86) (v := ?_) (a' := ?_) #[true, true, true, true, true, true, true, true, true, true, false, false, false, true, false, false, false] rfl rfl (any_of HT_.out (by kernel_rfl)) (fun _ _ _ h => h) (Or.inl ⟨by rfl, ?_⟩) ?_ ?_
                                                                    rotate_left
                                                                    · intro w'
                                                                      go_simp
                                                                      with_reducible rfl
                                                                    rotate_left
                                                                    · simp only [Act.put, List.setIfInBounds_toArray, List.set_cons_zero, List.set_cons_succ, i64_w, i32_w]
                                                                      rfl
                                                                    refine one_ (i := 10) (N := some 83) #[true, true, true, true, true, true, true, true, true, true, true, false, false, true, false, false, false] rfl rfl (one_of HT_.out (by kernel_rfl)) (by decide) (fun K hK => ?_)
                                                                    refine goes_ Tryd.func81 (by kernel_rfl) rfl #[.int .i64 a0] (by rfl) rfl rfl (by (try simp only [List.map_toArray, List.map_cons, List.map_nil]); first | done | rfl | (simp only [List.length_drop, List.length_take]; rfl)) ?_
                                                                    with_reducible refine (spec_l3Clock.calls k a0 t278 _ A79.out).mono ?_
                                                                    rintro e w98 ⟨rfl, hb⟩
                                                                    refine ⟨_, rfl, ?_⟩
                                                                    have n0_ := Aside0.mk (Kd.R_below (by (with_reducible repeat (first | apply Kd.R_alloc | apply Kd.R_drewN | apply Kd.R_drew)); exact HO258.out) hb)
                                                                    have n1_ := Aside0.mk (Kd.R_below (by (with_reducible repeat (first | apply Kd.R_alloc | apply Kd.R_drewN | apply Kd.R_drew)); exact HO263.out) hb)
                                                                    have n2_ := Aside0.mk (below_step (by repeat (first | (with_reducible first | exact HB.out | apply below_alloc | apply pw_below_drewN | apply below_drew1) | exact HB.out)) hb)
                                                                    clear HO258
                                                                    clear HO263
                                                                    clear HB
                                                                    have HO258 := n0_
                                                                    have HO263 := n1_
                                                                    have HB := n2_
                                                                    clear n0_ n1_ n2_
                                                                    (try clear hb)
                                                                    (try clear hb2)
                                                                    (try clear hk)
                                                                    (try clear hi)
                                                                    refine hK.out _ _ trivial (fun hHeld => ?_)
                                                                    clear hK K
                                                                    refine norm_ (a' := ?_) ?_ ?_
                                                                    rotate_left
                                                                    · show Act.put _ (some 83) _ = _
                                                                      simp only [Act.put, List.setIfInBounds_toArray, List.set_cons_zero, List.set_cons_succ, i64_w, i32_w]
                                                                      rfl
                                                                    refine pure_ (i := 11) (N := some 84) (v := ?_) (a' := ?_) #[true, true, true, true, true, true, true, true, true, true, true, true, false, true, false, false, false] rfl rfl (any_of HT_.out (by kernel_rfl)) (fun _ _ _ h => h) (Or.inl ⟨by rfl, ?_⟩) ?_ ?_
                                                                    rotate_left
                                                                    · intro w'
                                                                      go_simp
                                                                      with_reducible rfl
                                                                    rotate_left
                                                                    · simp only [Act.put, List.setIfInBounds_toArray, List.set_cons_zero, List.set_cons_succ, i64_w, i32_w]
                                                                      rfl
                                                                    refine pure_ (i := 12) (N := some 85) (v := ?_) (a' := ?_) #[true, true, true, true, true, true, true, true, true, true, true, true, true, true, false, false, false] rfl rfl (any_of HT_.out (by kernel_rfl)) (fun _ _ _ h => h) (Or.inl ⟨by rfl, ?_⟩) ?_ ?_
                                                                    rotate_left
                                                                    · intro w'
                                                                      go_simp
                                                                      with_reducible rfl
                                                                    rotate_left
                                                                    · simp only [Act.put, List.setIfInBounds_toArray, List.set_cons_zero, List.set_cons_succ, i64_w, i32_w]
                                                                      rfl
                                                                    refine one_ (i := 14) (N := some 87) #[true, true, true, true, true, true, true, true, true, true, true, true, true, true, true, false, false] rfl rfl (one_of HT_.out (by kernel_rfl)) (by decide) (fun K hK => ?_)
                                                                    refine goes_ Tryd.func80 (by kernel_rfl) rfl #[.int .i64 t253, .int .i64 4] (by rfl) rfl rfl (by (try simp only [List.map_toArray, List.map_cons, List.map_nil]); first | done | rfl | (simp only [List.length_drop, List.length_take]; rfl)) ?_
                                                                    with_reducible refine (spec_Digits.calls k t253 4 t279 _ A82.out).mono ?_
                                                                    rintro e w99 ⟨rfl, hb⟩
                                                                    refine ⟨_, rfl, ?_⟩
                                                                    have n0_ := Aside0.mk (Kd.R_below (by (with_reducible repeat (first | apply Kd.R_alloc | apply Kd.R_drewN | apply Kd.R_drew)); exact HO258.out) hb)
                                                                    have n1_ := Aside0.mk (Kd.R_below (by (with_reducible repeat (first | apply Kd.R_alloc | apply Kd.R_drewN | apply Kd.R_drew)); exact HO263.out) hb)
                                                                    have n2_ := Aside0.mk (below_step (by repeat (first | (with_reducible first | exact HB.out | apply below_alloc | apply pw_below_drewN | apply below_drew1) | exact HB.out)) hb)
                                                                    clear HO258
                                                                    clear HO263
                                                                    clear HB
                                                                    have HO258 := n0_
                                                                    have HO263 := n1_
                                                                    have HB := n2_
                                                                    clear n0_ n1_ n2_
                                                                    (try clear hb)
                                                                    (try clear hb2)
                                                                    (try clear hk)
                                                                    (try clear hi)
                                                                    refine hK.out _ _ trivial (fun hHeld => ?_)
                                                                    clear hK K
                                                                    refine norm_ (a' := ?_) ?_ ?_
                                                                    rotate_left
                                                                    · show Act.put _ (some 87) _ = _
                                                                      simp only [Act.put, List.setIfInBounds_toArray, List.set_cons_zero, List.set_cons_succ, i64_w, i32_w]
                                                                      rfl
                                                                    refine pure_ (i := 15) (N := some 88) (v := ?_) (a' := ?_) #[true, true, true, true, true, true, true, true, true, true, true, true, true, true, true, true, false] rfl rfl (any_of HT_.out (by kernel_rfl)) (fun _ _ _ h => h) (Or.inl ⟨by rfl, ?_⟩) ?_ ?_
                                                                    rotate_left
                                                                    · intro w'
                                                                      go_simp
                                                                      with_reducible rfl
                                                                    rotate_left
                                                                    · simp only [Act.put, List.setIfInBounds_toArray, List.set_cons_zero, List.set_cons_succ, i64_w, i32_w]
                                                                      rfl
                                                                    refine pure_ (i := 16) (N := some 11) (v := ?_) (a' := ?_) #[true, true, true, true, true, true, true, true, true, true, true, true, true, true, true, true, true] rfl rfl (any_of HT_.out (by kernel_rfl)) (fun _ _ _ h => h) (Or.inl ⟨by rfl, ?_⟩) ?_ ?_
                                                                    rotate_left
                                                                    · intro w'
                                                                      go_simp
                                                                      with_reducible rfl
                                                                    rotate_left
                                                                    · simp only [Act.put, List.setIfInBounds_toArray, List.set_cons_zero, List.set_cons_succ, i64_w, i32_w]
                                                                      rfl
                                                                    refine done_ (done_of HT_.out (by kernel_rfl)) ?_
                                                                    try go_wp2_with (first | ((with_reducible refine gate_dst (N := 92) rfl ?_); refine Kd.R_lit Kd.string _ 9 ?hg (N := 92) ?hd (xs := ([((((((((((rdOf ByteArray.empty t256 t259).extract 0 3) ++ (⟨#[44, 32]⟩ : ByteArray)) ++ t265) ++ (⟨#[32]⟩ : ByteArray)) ++ (rdOf ByteArray.empty t261 (ji8))) ++ (⟨#[32]⟩ : ByteArray)) ++ t266) ++ (⟨#[32]⟩ : ByteArray)) ++ t267) ++ (⟨#[32, 71, 77, 84]⟩ : ByteArray), (((((((((rdOf ByteArray.empty t256 t259) ++ (⟨#[44, 32]⟩ : ByteArray)) ++ t268) ++ (⟨#[45]⟩ : ByteArray)) ++ (rdOf ByteArray.empty t261 (ji8))) ++ (⟨#[45]⟩ : ByteArray)) ++ t269) ++ (⟨#[32]⟩ : ByteArray)) ++ t270) ++ (⟨#[32, 71, 77, 84]⟩ : ByteArray), (((((((((rdOf ByteArray.empty t256 t259).extract 0 3) ++ (⟨#[32]⟩ : ByteArray)) ++ (rdOf ByteArray.empty t261 (ji8))) ++ (⟨#[32]⟩ : ByteArray)) ++ t271) ++ (⟨#[32]⟩ : ByteArray)) ++ t278) ++ (⟨#[32]⟩ : ByteArray)) ++ t279] : List ByteArray)) (inner := [.string (((((((((((rdOf ByteArray.empty t256 t259).extract 0 3) ++ (⟨#[44, 32]⟩ : ByteArray)) ++ t265) ++ (⟨#[32]⟩ : ByteArray)) ++ (rdOf ByteArray.empty t261 (ji8))) ++ (⟨#[32]⟩ : ByteArray)) ++ t266) ++ (⟨#[32]⟩ : ByteArray)) ++ t267) ++ (⟨#[32, 71, 77, 84]⟩ : ByteArray)), .string ((((((((((rdOf ByteArray.empty t256 t259) ++ (⟨#[44, 32]⟩ : ByteArray)) ++ t268) ++ (⟨#[45]⟩ : ByteArray)) ++ (rdOf ByteArray.empty t261 (ji8))) ++ (⟨#[45]⟩ : ByteArray)) ++ t269) ++ (⟨#[32]⟩ : ByteArray)) ++ t270) ++ (⟨#[32, 71, 77, 84]⟩ : ByteArray)), .string ((((((((((rdOf ByteArray.empty t256 t259).extract 0 3) ++ (⟨#[32]⟩ : ByteArray)) ++ (rdOf ByteArray.empty t261 (ji8))) ++ (⟨#[32]⟩ : ByteArray)) ++ t271) ++ (⟨#[32]⟩ : ByteArray)) ++ t278) ++ (⟨#[32]⟩ : ByteArray)) ++ t279)]) (ok := fun _ => True) (okp := fun _ => True) ?hr ?hp (fun _ hk => hk) trivial (Below.refl _ _) (Nat.le_refl _) (by simp) ?_; (case hd => rfl); (case hg => rfl); (case hr => first | (go_simp; done) | (go_simp; rfl)); (case hp => exact (Reps.one (show Kd.M Kd.string _ _ _ (((((((((((rdOf ByteArray.empty t256 t259).extract 0 3) ++ (⟨#[44, 32]⟩ : ByteArray)) ++ t265) ++ (⟨#[32]⟩ : ByteArray)) ++ (rdOf ByteArray.empty t261 (ji8))) ++ (⟨#[32]⟩ : ByteArray)) ++ t266) ++ (⟨#[32]⟩ : ByteArray)) ++ t267) ++ (⟨#[32, 71, 77, 84]⟩ : ByteArray)) [.string (((((((((((rdOf ByteArray.empty t256 t259).extract 0 3) ++ (⟨#[44, 32]⟩ : ByteArray)) ++ t265) ++ (⟨#[32]⟩ : ByteArray)) ++ (rdOf ByteArray.empty t261 (ji8))) ++ (⟨#[32]⟩ : ByteArray)) ++ t266) ++ (⟨#[32]⟩ : ByteArray)) ++ t267) ++ (⟨#[32, 71, 77, 84]⟩ : ByteArray))] from rfl) (Reps.one (show Kd.M Kd.string _ _ _ ((((((((((rdOf ByteArray.empty t256 t259) ++ (⟨#[44, 32]⟩ : ByteArray)) ++ t268) ++ (⟨#[45]⟩ : ByteArray)) ++ (rdOf ByteArray.empty t261 (ji8))) ++ (⟨#[45]⟩ : ByteArray)) ++ t269) ++ (⟨#[32]⟩ : ByteArray)) ++ t270) ++ (⟨#[32, 71, 77, 84]⟩ : ByteArray)) [.string ((((((((((rdOf ByteArray.empty t256 t259) ++ (⟨#[44, 32]⟩ : ByteArray)) ++ t268) ++ (⟨#[45]⟩ : ByteArray)) ++ (rdOf ByteArray.empty t261 (ji8))) ++ (⟨#[45]⟩ : ByteArray)) ++ t269) ++ (⟨#[32]⟩ : ByteArray)) ++ t270) ++ (⟨#[32, 71, 77, 84]⟩ : ByteArray))] from rfl) (Reps.one (show Kd.M Kd.string _ _ _ ((((((((((rdOf ByteArray.empty t256 t259).extract 0 3) ++ (⟨#[32]⟩ : ByteArray)) ++ (rdOf ByteArray.empty t261 (ji8))) ++ (⟨#[32]⟩ : ByteArray)) ++ t271) ++ (⟨#[32]⟩ : ByteArray)) ++ t278) ++ (⟨#[32]⟩ : ByteArray)) ++ t279) [.string ((((((((((rdOf ByteArray.empty t256 t259).extract 0 3) ++ (⟨#[32]⟩ : ByteArray)) ++ (rdOf ByteArray.empty t261 (ji8))) ++ (⟨#[32]⟩ : ByteArray)) ++ t271) ++ (⟨#[32]⟩ : ByteArray)) ++ t278) ++ (⟨#[32]⟩ : ByteArray)) ++ t279)] from rfl) (Reps.none _ _))))); intro v281 w100 ho101 hb hg_ hnew_; clear hg_ hnew_; (first | rw [← Ny280.out] at ho101 | (simp only [Int.reduceToNat] at ho101; rw [← Ny280.out] at ho101)); have n0_ := Aside0.mk (Kd.R_elder' (by (with_reducible repeat (first | apply Kd.R_alloc | apply Kd.R_drewN | apply Kd.R_drew)); exact HO258.out) (Kd.R_base ho101) hb); have n1_ := Aside0.mk (Kd.R_elder' (by (with_reducible repeat (first | apply Kd.R_alloc | apply Kd.R_drewN | apply Kd.R_drew)); exact HO263.out) (Kd.R_base ho101) hb); have n2_ := Aside0.mk (Kd.R_lower (Kd.R_new' (Kd.R_new' ho101 (Kd.R_lt (by (with_reducible repeat (first | apply Kd.R_alloc | apply Kd.R_drewN | apply Kd.R_drew)); exact HO258.out))) (Kd.R_lt (by (with_reducible repeat (first | apply Kd.R_alloc | apply Kd.R_drewN | apply Kd.R_drew)); exact HO263.out))) (below_size (by repeat (first | (with_reducible first | exact HB.out | apply below_alloc | apply pw_below_drewN | apply below_drew1) | exact HB.out)))); have n3_ := Aside0.mk (below_step (by repeat (first | (with_reducible first | exact HB.out | apply below_alloc | apply pw_below_drewN | apply below_drew1) | exact HB.out)) hb); clear HO258; clear HO263; clear HB; have HO258 := n0_; have HO263 := n1_; have HO282 := n2_; have HB := n3_; clear n0_ n1_ n2_ n3_; clear hb ho101))
                                                                    all_goals (go_ret; exact ⟨_, by first | rfl | (simp [errW_none, errW_some] <;> rfl) | (simp only [← hji8]; first | rfl | (simp [errW_none, errW_some] <;> rfl)) | (simp [*, errW_none, errW_some] <;> rfl), by (with_reducible repeat (first | apply Kd.R_alloc | apply Kd.R_drewN | apply Kd.R_drew)); exact Kd.R_mono HO282.out (fun _ hk => trivial), by repeat (first | (with_reducible first | exact HB.out | apply below_alloc | apply pw_below_drewN | apply below_drew1) | exact HB.out)⟩)
                                                                  · rw [if_neg c83] at H
                                                                    exact absurd H (by simp)
                                                                · rw [if_neg c81] at H
                                                                  exact absurd H (by simp)
                                                              · rw [if_neg c80] at H
                                                                exact absurd H (by simp)
                                                            · rw [if_neg c78] at H
                                                              exact absurd H (by simp)
                                                          · rw [if_neg c77] at H
                                                            exact absurd H (by simp)
                                                        · rw [if_neg c76] at H
                                                          exact absurd H (by simp)
                                                      · rw [if_neg c75] at H
                                                        exact absurd H (by simp)
                                                    · rw [if_neg c74] at H
                                                      exact absurd H (by simp)
                                                · rw [if_neg c36] at H
                                                  exact absurd H (by simp)
                                              · rw [if_neg c35] at H
                                                exact absurd H (by simp)
                                            · rw [if_neg c33] at H
                                              exact absurd H (by simp)
                                          · rw [if_neg c32] at H
                                            exact absurd H (by simp)
                                        · rw [if_neg c30] at H
                                          exact absurd H (by simp)
                                      · rw [if_neg c29] at H
                                        exact absurd H (by simp)
                                    · rw [if_neg c28] at H
                                      exact absurd H (by simp)
                                  · rw [if_neg c27] at H
                                    exact absurd H (by simp)
                                · rw [if_neg c25] at H
                                  exact absurd H (by simp)
                              · rw [if_neg c24] at H
                                exact absurd H (by simp)
                            · rw [if_neg c23] at H
                              exact absurd H (by simp)
                          · rw [if_neg c21] at H
                            exact absurd H (by simp)
                        · rw [if_neg c20] at H
                          exact absurd H (by simp)
                      · rw [if_neg c18] at H
                        exact absurd H (by simp)
                    · rw [if_neg c17] at H
                      exact absurd H (by simp)
                  · rw [if_neg c16] at H
                    exact absurd H (by simp)
                · rw [if_neg c15] at H
                  exact absurd H (by simp)
              · rw [if_neg c13] at H
                exact absurd H (by simp)
            · rw [if_neg c12] at H
              exact absurd H (by simp)
          · rw [if_neg c11] at H
            exact absurd H (by simp)
        · rw [if_neg c10] at H
          exact absurd H (by simp)
      · rw [if_neg c9] at H
        exact absurd H (by simp)
    · rw [if_neg c6] at H
      exact absurd H (by simp)
  · rw [if_neg c5] at H
    exact absurd H (by simp)

end Go.Proofs.YtlboepkphddacabDoor.RFnDates
