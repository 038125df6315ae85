/- What the Go functions that the law FnDirectives reaches answer: for each one a Lean function, and the proof that its call comes to what that function says. Conditions: those that each theorem states. Written by a program. -/
import Derived.Test.YtlboepkphddacabDoorRFnDirectivesx0
import Derived.Test.YtlboepkphddacabDoorRFnDirectivesx3
import Derived.Test.YtlboepkphddacabDoorRFnDirectivesx8
namespace Go.Proofs.YtlboepkphddacabDoor.RFnDirectives
open Go.RowKit Go.Proofs.YtlboepkphddacabDoorW.PrintWords Go.Proofs.YtlboepkphddacabDoorW.PrintLast Go.Proofs.YtlboepkphddacabDoorW.PrintMore
attribute [local go_sem] max2_int min2_int max_two min_two max_three min_three max_four min_four   -- for this text's walks alone
set_option linter.unusedVariables false
set_option linter.unusedSimpArgs false

/-! ### impl_FormatDirectives: function 34 -/
def impl_FormatDirectives.l0 : Nat → List ByteArray → List (S53) → Int → Int → Option (ByteArray)
  | 0, _, _, _, _ => none
  | k + 1, x3, x9, x10, x11 => if x11 < x10 then (if 0 ≤ x11 then (if x11 < (x9.length : Int) then (if (rd_T53 x9 x11).f2 = true then ((impl_IsToken.f k ((rd_T53 x9 x11).f1)).bind fun t309 => (if t309 = true then (if 1 + ((rd_T53 x9 x11).f1).size ≤ 9223372036854775807 then (if ((rd_T53 x9 x11).f0).size + ((⟨#[61]⟩ : ByteArray) ++ ((rd_T53 x9 x11).f1)).size ≤ 9223372036854775807 then (if x3.length < 8796093022208 then (impl_FormatDirectives.l0 k (x3 ++ [((rd_T53 x9 x11).f0) ++ ((⟨#[61]⟩ : ByteArray) ++ ((rd_T53 x9 x11).f1))]) x9 x10 (wrap64 (x11 + 1))) else (none)) else (none)) else (none)) else ((impl_QuoteText.f k ((rd_T53 x9 x11).f1)).bind fun t313 => (if 1 + t313.size ≤ 9223372036854775807 then (if ((rd_T53 x9 x11).f0).size + ((⟨#[61]⟩ : ByteArray) ++ t313).size ≤ 9223372036854775807 then (if x3.length < 8796093022208 then (impl_FormatDirectives.l0 k (x3 ++ [((rd_T53 x9 x11).f0) ++ ((⟨#[61]⟩ : ByteArray) ++ t313)]) x9 x10 (wrap64 (x11 + 1))) else (none)) else (none)) else (none))))) else (if x3.length < 8796093022208 then (impl_FormatDirectives.l0 k (x3 ++ [(rd_T53 x9 x11).f0]) x9 x10 (wrap64 (x11 + 1))) else (none))) else (none)) else (none)) else ((impl_JoinList.f x3).bind fun t306 => (some t306))
def impl_FormatDirectives.f (k : Nat) (l0 : List (S53)) : Option (ByteArray) := impl_FormatDirectives.l0 k (([] : List ByteArray)) l0 (l0.length : Int) 0
theorem impl_FormatDirectives.mono_l : ∀ k, (∀ y0 y1 y2 y3, LeO (impl_FormatDirectives.l0 k y0 y1 y2 y3) (impl_FormatDirectives.l0 (k + 1) y0 y1 y2 y3))
  | 0 => fun _ _ _ _ r h => by simp [impl_FormatDirectives.l0] at h
  | k + 1 => by
    have ih0 := impl_FormatDirectives.mono_l k
    · intro y0 y1 y2 y3
      unfold impl_FormatDirectives.l0
      repeat' first
      | (with_reducible exact ih0 _ _ _ _)
      | (with_reducible exact impl_IsToken.mono _ _)
      | (with_reducible exact impl_QuoteText.mono _ _)
      | (with_reducible exact LeO.refl _)
      | (with_reducible exact LeO.none _)
      | (with_reducible refine LeO.ite ?_ ?_)
      | (with_reducible refine LeO.bind ?_ (fun _ => ?_))
      | exact ih0 _ _ _ _
      | exact impl_IsToken.mono _ _
      | exact impl_QuoteText.mono _ _
      | exact LeO.none _
      | refine LeO.ite ?_ ?_
      | refine LeO.bind ?_ (fun _ => ?_)
theorem impl_FormatDirectives.mono : ∀ a0 k, LeO (impl_FormatDirectives.f k a0) (impl_FormatDirectives.f (k + 1) a0) := by
  intro a0 k
  have ih0 := impl_FormatDirectives.mono_l k
  unfold impl_FormatDirectives.f
  repeat' first
      | (with_reducible exact ih0 _ _ _ _)
      | (with_reducible exact impl_IsToken.mono _ _)
      | (with_reducible exact impl_QuoteText.mono _ _)
      | (with_reducible exact LeO.refl _)
      | (with_reducible exact LeO.none _)
      | (with_reducible refine LeO.ite ?_ ?_)
      | (with_reducible refine LeO.bind ?_ (fun _ => ?_))
      | exact ih0 _ _ _ _
      | exact impl_IsToken.mono _ _
      | exact impl_QuoteText.mono _ _
      | exact LeO.none _
      | refine LeO.ite ?_ ?_
      | refine LeO.bind ?_ (fun _ => ?_)
set_option maxHeartbeats 8000000 in
set_option maxRecDepth 100000 in
theorem impl_FormatDirectives.calls (k : Nat) (A0 : Option Addr) (c0 : Nat) (l0 : List (S53)) (r : ByteArray) (w : World) (hr0 : Kd.C k53 w A0 l0.length l0) (hc0 : l0.length ≤ c0) (h : impl_FormatDirectives.f k l0 = some r) :
    Calls Tryd.prog 34 #[.slice A0 l0.length c0] w fun e w' => e = .returned (.string r) ∧ Below w.heap.size w w' := by
  have hu53 := Tryd.underlying53
  have HR0 := Aside0.mk hr0
  have HC0 := Aside0.mk hc0
  clear hr0 hc0
  have HB := Aside0.mk (Below.refl w.heap.size w)
  have H : (impl_FormatDirectives.l0 k (([] : List ByteArray)) l0 (l0.length : Int) 0) = some r := h
  clear h
  obtain ⟨y303, hy303⟩ : ∃ y_ : List ByteArray, y_ = (([] : List ByteArray)) := ⟨_, rfl⟩
  replace H : (impl_FormatDirectives.l0 k y303 l0 (l0.length : Int) 0) = some r := by first | (rw [hy303]; with_reducible exact H) | (have H2_ := (Option.bind_some _ _).symm.trans H; rw [hy303]; with_reducible exact H2_) | (have H2_ := (Option.bind_some _ _).symm.trans H; with_reducible exact H2_) | with_reducible exact H | (rw [hy303]; exact H) | exact H
  have Ny303 := Aside0.mk hy303
  clear hy303
  have H' := Aside0.mk H
  clear H
  go_enter Tryd.func34, Tryd.ntmps34
  go_wp2_with (first | ((with_reducible refine gate_dst (N := 8) rfl ?_); refine Kd.R_lit Kd.string _ 9 ?hg (N := 8) ?hd (xs := ([] : List ByteArray)) (inner := []) (ok := fun _ => True) (okp := fun _ => True) ?hr ?hp (fun _ hk => hk) trivial (Below.refl _ _) (Nat.le_refl _) (by simp) ?_; (case hd => rfl); (case hg => rfl); (case hr => first | (go_simp; done) | (go_simp; rfl)); (case hp => exact (Reps.none _ _)); intro v304 w2 ho3 hb hg_ hnew_; clear hg_ hnew_; (first | rw [← Ny303.out] at ho3 | (simp only [Int.reduceToNat] at ho3; rw [← Ny303.out] at ho3)); have n0_ := Aside0.mk (Kd.R_lower ho3 (below_size (by repeat (first | (with_reducible first | exact HB.out | apply below_alloc | apply pw_below_drewN | apply below_drew1) | exact HB.out)))); have n1_ := Aside0.mk (below_step (by repeat (first | (with_reducible first | exact HB.out | apply below_alloc | apply pw_below_drewN | apply below_drew1) | exact HB.out)) hb); clear HB; have HO305 := n0_; have HB := n1_; clear n0_ n1_; clear hb ho3))
  go_loopg [3, 11] k (fun kq v3 v11 w' => ∃ (x3_1 : List ByteArray) (x11_1 : Int), v11 = .int .i64 x11_1 ∧ Aside0 (impl_FormatDirectives.l0 kq x3_1 l0 (l0.length : Int) x11_1 = some r) ∧ Aside0 (kq ≤ k) ∧ Aside0 (Kd.R Kd.string 9 w' w.heap.size (fun _ => True) v3 x3_1) ∧ Aside0 (Below w.heap.size w w'))
  case atStart => exact ⟨(y303), (0), (by first | rfl | (simp; done) | (simp [*]; done)), H', ⟨Nat.le_refl _⟩, ⟨by (with_reducible repeat (first | apply Kd.R_alloc | apply Kd.R_drewN | apply Kd.R_drew)); exact HO305.out⟩, ⟨by repeat (first | (with_reducible first | exact HB.out | apply below_alloc | apply pw_below_drewN | apply below_drew1) | exact HB.out)⟩⟩
  case round =>
    clear H'
    try clear p2
    try clear c3
    obtain ⟨x3_1, x11_1, rfl, HA, HK1, HO_3, HB⟩ := hrel
    cases gk with
    | zero => exact absurd HA.out (by simp [impl_FormatDirectives.l0])
    | succ k1 =>
      have H := HA.out
      clear HA
      simp only [impl_FormatDirectives.l0] at H
      by_cases c4 : x11_1 < (l0.length : Int)
      · rw [if_pos c4] at H
        have c4b0 : decide (x11_1 < (l0.length : Int)) = true := decide_eq_true c4
        clear c4
        by_cases c5 : 0 ≤ x11_1
        · rw [if_pos c5] at H
          have c5b0 : decide (0 ≤ x11_1) = true := decide_eq_true c5
          clear c5
          by_cases c6 : x11_1 < (l0.length : Int)
          · rw [if_pos c6] at H
            have c6b0 : decide (x11_1 < (l0.length : Int)) = true := decide_eq_true c6
            clear c6
            obtain ⟨bq7, hbq7⟩ : ∃ b_ : Bool, b_ = ((rd_T53 l0 x11_1).f2) := ⟨_, rfl⟩
            replace H : (if bq7 = true then ((impl_IsToken.f k1 ((rd_T53 l0 x11_1).f1)).bind fun t309 => (if t309 = true then (if 1 + ((rd_T53 l0 x11_1).f1).size ≤ 9223372036854775807 then (if ((rd_T53 l0 x11_1).f0).size + ((⟨#[61]⟩ : ByteArray) ++ ((rd_T53 l0 x11_1).f1)).size ≤ 9223372036854775807 then (if x3_1.length < 8796093022208 then (impl_FormatDirectives.l0 k1 (x3_1 ++ [((rd_T53 l0 x11_1).f0) ++ ((⟨#[61]⟩ : ByteArray) ++ ((rd_T53 l0 x11_1).f1))]) l0 (l0.length : Int) (wrap64 (x11_1 + 1))) else (none)) else (none)) else (none)) else ((impl_QuoteText.f k1 ((rd_T53 l0 x11_1).f1)).bind fun t313 => (if 1 + t313.size ≤ 9223372036854775807 then (if ((rd_T53 l0 x11_1).f0).size + ((⟨#[61]⟩ : ByteArray) ++ t313).size ≤ 9223372036854775807 then (if x3_1.length < 8796093022208 then (impl_FormatDirectives.l0 k1 (x3_1 ++ [((rd_T53 l0 x11_1).f0) ++ ((⟨#[61]⟩ : ByteArray) ++ t313)]) l0 (l0.length : Int) (wrap64 (x11_1 + 1))) else (none)) else (none)) else (none))))) else (if x3_1.length < 8796093022208 then (impl_FormatDirectives.l0 k1 (x3_1 ++ [(rd_T53 l0 x11_1).f0]) l0 (l0.length : Int) (wrap64 (x11_1 + 1))) else (none))) = some r := by rw [← hbq7] at H; exact H
            have Nbq7 := Aside0.mk hbq7
            clear hbq7
            by_cases c8 : bq7 = true
            · subst c8
              have H1 : ((impl_IsToken.f k1 ((rd_T53 l0 x11_1).f1)).bind fun t309 => (if t309 = true then (if 1 + ((rd_T53 l0 x11_1).f1).size ≤ 9223372036854775807 then (if ((rd_T53 l0 x11_1).f0).size + ((⟨#[61]⟩ : ByteArray) ++ ((rd_T53 l0 x11_1).f1)).size ≤ 9223372036854775807 then (if x3_1.length < 8796093022208 then (impl_FormatDirectives.l0 k1 (x3_1 ++ [((rd_T53 l0 x11_1).f0) ++ ((⟨#[61]⟩ : ByteArray) ++ ((rd_T53 l0 x11_1).f1))]) l0 (l0.length : Int) (wrap64 (x11_1 + 1))) else (none)) else (none)) else (none)) else ((impl_QuoteText.f k1 ((rd_T53 l0 x11_1).f1)).bind fun t313 => (if 1 + t313.size ≤ 9223372036854775807 then (if ((rd_T53 l0 x11_1).f0).size + ((⟨#[61]⟩ : ByteArray) ++ t313).size ≤ 9223372036854775807 then (if x3_1.length < 8796093022208 then (impl_FormatDirectives.l0 k1 (x3_1 ++ [((rd_T53 l0 x11_1).f0) ++ ((⟨#[61]⟩ : ByteArray) ++ t313)]) l0 (l0.length : Int) (wrap64 (x11_1 + 1))) else (none)) else (none)) else (none))))) = some r := by rw [if_pos rfl] at H; exact H
              clear H
              have H := H1
              clear H1
              replace H := Option.bind_eq_some_iff.mp H
              obtain ⟨t309, A90, H⟩ := H
              replace H : (if t309 = true then (if 1 + ((rd_T53 l0 x11_1).f1).size ≤ 9223372036854775807 then (if ((rd_T53 l0 x11_1).f0).size + ((⟨#[61]⟩ : ByteArray) ++ ((rd_T53 l0 x11_1).f1)).size ≤ 9223372036854775807 then (if x3_1.length < 8796093022208 then (impl_FormatDirectives.l0 k1 (x3_1 ++ [((rd_T53 l0 x11_1).f0) ++ ((⟨#[61]⟩ : ByteArray) ++ ((rd_T53 l0 x11_1).f1))]) l0 (l0.length : Int) (wrap64 (x11_1 + 1))) else (none)) else (none)) else (none)) else ((impl_QuoteText.f k1 ((rd_T53 l0 x11_1).f1)).bind fun t313 => (if 1 + t313.size ≤ 9223372036854775807 then (if ((rd_T53 l0 x11_1).f0).size + ((⟨#[61]⟩ : ByteArray) ++ t313).size ≤ 9223372036854775807 then (if x3_1.length < 8796093022208 then (impl_FormatDirectives.l0 k1 (x3_1 ++ [((rd_T53 l0 x11_1).f0) ++ ((⟨#[61]⟩ : ByteArray) ++ t313)]) l0 (l0.length : Int) (wrap64 (x11_1 + 1))) else (none)) else (none)) else (none)))) = some r := H
              have A9 := Aside0.mk A90
              clear A90
              by_cases c10 : t309 = true
              · subst c10
                have H1 : (if 1 + ((rd_T53 l0 x11_1).f1).size ≤ 9223372036854775807 then (if ((rd_T53 l0 x11_1).f0).size + ((⟨#[61]⟩ : ByteArray) ++ ((rd_T53 l0 x11_1).f1)).size ≤ 9223372036854775807 then (if x3_1.length < 8796093022208 then (impl_FormatDirectives.l0 k1 (x3_1 ++ [((rd_T53 l0 x11_1).f0) ++ ((⟨#[61]⟩ : ByteArray) ++ ((rd_T53 l0 x11_1).f1))]) l0 (l0.length : Int) (wrap64 (x11_1 + 1))) else (none)) else (none)) else (none)) = some r := by rw [if_pos rfl] at H; exact H
                clear H
                have H := H1
                clear H1
                by_cases c11 : 1 + ((rd_T53 l0 x11_1).f1).size ≤ 9223372036854775807
                · rw [if_pos c11] at H
                  have c11b0 := eq_true c11
                  have c11b1 : decide (1 + ((rd_T53 l0 x11_1).f1).size ≤ 9223372036854775807) = true := decide_eq_true c11
                  try have c11b2 : (9223372036854775807 < 1 + ((rd_T53 l0 x11_1).f1).size) = False := eq_false (Nat.not_lt.2 c11)
                  by_cases c12 : ((rd_T53 l0 x11_1).f0).size + ((⟨#[61]⟩ : ByteArray) ++ ((rd_T53 l0 x11_1).f1)).size ≤ 9223372036854775807
                  · rw [if_pos c12] at H
                    have c12b0 := eq_true c12
                    have c12b1 : decide (((rd_T53 l0 x11_1).f0).size + ((⟨#[61]⟩ : ByteArray) ++ ((rd_T53 l0 x11_1).f1)).size ≤ 9223372036854775807) = true := decide_eq_true c12
                    try (have c12n := c12; simp only [ByteArray.size_append, show (⟨#[61]⟩ : ByteArray).size = 1 from rfl] at c12n; have c12b3 := eq_true c12n; have c12b4 := eq_false (Nat.not_lt.2 c12n); clear c12n)
                    try have c12b2 : (9223372036854775807 < ((rd_T53 l0 x11_1).f0).size + ((⟨#[61]⟩ : ByteArray) ++ ((rd_T53 l0 x11_1).f1)).size) = False := eq_false (Nat.not_lt.2 c12)
                    by_cases c13 : x3_1.length < 8796093022208
                    · rw [if_pos c13] at H
                      have LMc13 := Aside0.mk c13
                      clear c13
                      obtain ⟨y310, hy310⟩ : ∃ y_ : List ByteArray, y_ = (x3_1 ++ [((rd_T53 l0 x11_1).f0) ++ ((⟨#[61]⟩ : ByteArray) ++ ((rd_T53 l0 x11_1).f1))]) := ⟨_, rfl⟩
                      replace H : (impl_FormatDirectives.l0 k1 y310 l0 (l0.length : Int) (wrap64 (x11_1 + 1))) = some r := by first | (rw [hy310]; with_reducible exact H) | (have H2_ := (Option.bind_some _ _).symm.trans H; rw [hy310]; with_reducible exact H2_) | (have H2_ := (Option.bind_some _ _).symm.trans H; with_reducible exact H2_) | with_reducible exact H | (rw [hy310]; exact H) | exact H
                      have Ny310 := Aside0.mk hy310
                      clear hy310
                      have H' := Aside0.mk H
                      clear H
                      have p307 : 0 ≤ (x11_1 : Int) := of_decide_eq_true (by first | (with_reducible assumption) | assumption)
                      have q307 : x11_1 < (l0.length : Int) := of_decide_eq_true (by first | (with_reducible assumption) | assumption)
                      obtain ⟨ad307, e307, hx307_0, hx307_1, hx307_2⟩ := at_T53 HR0.out x11_1 p307 q307
                      (try rw [← Nbq7.out] at hx307_2)
                      cases e307
                      replace hx307_0 := (HB.out.cell (World.block_lt_of_cell? w _ hx307_0)).trans hx307_0
                      replace hx307_1 := (HB.out.cell (World.block_lt_of_cell? w _ hx307_1)).trans hx307_1
                      replace hx307_2 := (HB.out.cell (World.block_lt_of_cell? w _ hx307_2)).trans hx307_2
                      replace p307 := eq_true p307
                      replace q307 := eq_true q307
                      go_wp2_with (first | ((with_reducible refine gate_dst (N := 5) rfl ?_); refine box_event ?hg (N := 5) ?hd (cs := #[.string (⟨#[]⟩ : ByteArray), .string (⟨#[]⟩ : ByteArray), .bool false]) (t := 53) ?hr ?_; (case hd => rfl); (case hg => rfl); (case hr => first | (go_simp; done) | (go_simp; rfl)); intro gb308 hg w14 hbox hb; have n0_ := Aside0.mk (Kd.R_below (by (with_reducible repeat (first | apply Kd.R_alloc | apply Kd.R_drewN | apply Kd.R_drew)); exact HO_3.out) hb); have n1_ := Aside0.mk (below_step (by repeat (first | (with_reducible first | exact HB.out | apply below_alloc | apply pw_below_drewN | apply below_drew1) | exact HB.out)) hb); have n2_ := Aside0.mk (hbox); have n3_ := Aside0.mk ((by rw [hg]; exact (below_size (by repeat (first | (with_reducible first | exact HB.out | apply below_alloc | apply pw_below_drewN | apply below_drew1) | exact HB.out))) : w.heap.size ≤ gb308)); have n4_ := Aside0.mk ((by rw [hg]; exact (below_size (by repeat (first | (with_reducible first | exact HB.out | apply below_alloc | apply pw_below_drewN | apply below_drew1) | exact HB.out))) : w.heap.size ≤ gb308)); clear HO_3; clear HB; have HO_3 := n0_; have HB := n1_; have BK308 := n2_; have GW308 := n3_; have GE308 := n4_; clear n0_ n1_ n2_ n3_ n4_; clear hb hbox hg; have hcz15_0 : w14.cell? ⟨gb308, 0, none⟩ = some (.string (⟨#[]⟩ : ByteArray)) := (blk_cell BK308.out 0).trans rfl; have hcz15_1 : w14.cell? ⟨gb308, 1, none⟩ = some (.string (⟨#[]⟩ : ByteArray)) := (blk_cell BK308.out 1).trans rfl; have hcz15_2 : w14.cell? ⟨gb308, 2, none⟩ = some (.bool false) := (blk_cell BK308.out 2).trans rfl; have hfz15_0 := blk_frozen BK308.out 0; have hfz15_1 := blk_frozen BK308.out 1; have hfz15_2 := blk_frozen BK308.out 2) | ((with_reducible refine gate_callee (f := 62) rfl ?_); refine goesL_ (some 22) rfl rfl Tryd.func62 (by kernel_rfl) rfl #[.string ((rd_T53 l0 x11_1).f1)] rfl (by (try simp only [List.map_toArray, List.map_cons, List.map_nil]); first | done | rfl | (simp only [List.length_drop, List.length_take]; rfl) | (simp; repeat' first | rfl | constructor)) ?_; (with_reducible refine (impl_IsToken.calls k1 ((rd_T53 l0 x11_1).f1) true _ A9.out).mono ?_); rintro e w16 ⟨rfl, hb⟩; refine ⟨_, rfl, ?_⟩; have n0_ := Aside0.mk (Kd.R_below (by (with_reducible repeat (first | apply Kd.R_alloc | apply Kd.R_drewN | apply Kd.R_drew)); exact (Kd.R_mono (Kd.R_far (p := ⟨gb308, 2, none⟩) (Kd.R_far (p := ⟨gb308, 1, none⟩) (Kd.R_far (p := ⟨gb308, 0, none⟩) (Kd.R_types HO_3.out BK308.out (by decide)) (fun _ hk => hk.2) (.string ((rd_T53 l0 x11_1).f0))) (fun _ hk => hk.2) (.string ((rd_T53 l0 x11_1).f1))) (fun _ hk => hk.2) (.bool true)) (fun _ h_ => h_.1))) hb); have n1_ := Aside0.mk (blk_below (g := gb308) (o := .cells #[.string ((rd_T53 l0 x11_1).f0), .string ((rd_T53 l0 x11_1).f1), .bool true] 53 (0, 0)) (by (with_reducible repeat (first | refine blk_drewN ?_ _ | refine blk_drew ?_ | refine blk_alloc ?_ _)); refine blk_put (cs := #[.string ((rd_T53 l0 x11_1).f0), .string ((rd_T53 l0 x11_1).f1), .bool false]) ?_ 2 _ rfl; (with_reducible repeat (first | refine blk_drewN ?_ _ | refine blk_drew ?_ | refine blk_alloc ?_ _)); refine blk_put (cs := #[.string ((rd_T53 l0 x11_1).f0), .string (⟨#[]⟩ : ByteArray), .bool false]) ?_ 1 _ rfl; (with_reducible repeat (first | refine blk_drewN ?_ _ | refine blk_drew ?_ | refine blk_alloc ?_ _)); refine blk_put (cs := #[.string (⟨#[]⟩ : ByteArray), .string (⟨#[]⟩ : ByteArray), .bool false]) ?_ 0 _ rfl; (with_reducible repeat (first | refine blk_drewN ?_ _ | refine blk_drew ?_ | refine blk_alloc ?_ _)); exact BK308.out) hb); have n2_ := Aside0.mk (below_step (by repeat (first | (with_reducible first | exact HB.out | apply below_alloc | apply pw_below_drewN | apply below_drew1 | refine below_set ?_ GE308.out) | exact HB.out)) hb); clear HO_3; clear BK308; clear HB; have HO_3 := n0_; have BK308 := n1_; have HB := n2_; clear n0_ n1_ n2_; (try clear hb); (try clear hb2); (try clear hk); (try clear hi)) | ((with_reducible refine gate_builtin (b := .append) (xs := #[.tmp 30, .tmp 32]) rfl ?_); at_builtin; refine Kd.R_append Kd.string (w0 := w) w.heap.size rfl (.tmp 30) (.tmp 32) 59 9 (.string ⟨#[]⟩) 16 rfl Tryd.underlying59 info9 rfl (by decide) (by omega) u3 x3_1 (((rd_T53 l0 x11_1).f0) ++ ((⟨#[61]⟩ : ByteArray) ++ ((rd_T53 l0 x11_1).f1))) [.string (((rd_T53 l0 x11_1).f0) ++ ((⟨#[61]⟩ : ByteArray) ++ ((rd_T53 l0 x11_1).f1)))] (fun _ => True) (fun _ => False) rfl rfl ?aP (fun _ hk => hk.elim) ?aF ?aO ?aB ?aS ?aL ?_; (case aP => exact rfl); (case aB => exact (by repeat (first | (with_reducible first | exact HB.out | apply below_alloc | apply pw_below_drewN | apply below_drew1 | refine below_set ?_ GE308.out) | exact HB.out))); (case aF => exact (fun _ _ => trivial)); (case aO => exact (by (with_reducible repeat (first | apply Kd.R_alloc | apply Kd.R_drewN | apply Kd.R_drew)); exact HO_3.out)); (case aS => exact (below_size (by repeat (first | (with_reducible first | exact HB.out | apply below_alloc | apply pw_below_drewN | apply below_drew1 | refine below_set ?_ GE308.out) | exact HB.out)))); (case aL => have := LMc13.out; omega); intro v311 w17 ho hb hg hat; rw [← Ny310.out] at ho; have n0_ := Aside0.mk (blk_grown (g := gb308) (o := .cells #[.string ((rd_T53 l0 x11_1).f0), .string ((rd_T53 l0 x11_1).f1), .bool true] 53 (0, 0)) (by (with_reducible repeat (first | refine blk_drewN ?_ _ | refine blk_drew ?_ | refine blk_alloc ?_ _)); exact BK308.out) hg (Kd.R_ne HO_3.out BK308.out (by decide))); have n1_ := Aside0.mk (hb); have n2_ := Aside0.mk (ho); clear BK308; clear HB; clear HO_3; have BK308 := n0_; have HB := n1_; have HO312 := n2_; clear n0_ n1_ n2_; clear ho hb hg hat))
                      go_roundg k1
                      case measure => have := HK1.out; omega
                      case rel => exact ⟨(y310), (wrap64 (x11_1 + 1)), (by first | rfl | (simp; done) | (simp [*]; done)), H', ⟨by have := HK1.out; omega⟩, ⟨by (with_reducible repeat (first | apply Kd.R_alloc | apply Kd.R_drewN | apply Kd.R_drew)); exact HO312.out⟩, ⟨by repeat (first | (with_reducible first | exact HB.out | apply below_alloc | apply pw_below_drewN | apply below_drew1 | refine below_set ?_ GE308.out) | exact HB.out)⟩⟩
                    · rw [if_neg c13] at H
                      exact absurd H (by simp)
                  · rw [if_neg c12] at H
                    exact absurd H (by simp)
                · rw [if_neg c11] at H
                  exact absurd H (by simp)
              · replace c10 := Bool.eq_false_iff.mpr c10
                subst c10
                have H1 : ((impl_QuoteText.f k1 ((rd_T53 l0 x11_1).f1)).bind fun t313 => (if 1 + t313.size ≤ 9223372036854775807 then (if ((rd_T53 l0 x11_1).f0).size + ((⟨#[61]⟩ : ByteArray) ++ t313).size ≤ 9223372036854775807 then (if x3_1.length < 8796093022208 then (impl_FormatDirectives.l0 k1 (x3_1 ++ [((rd_T53 l0 x11_1).f0) ++ ((⟨#[61]⟩ : ByteArray) ++ t313)]) l0 (l0.length : Int) (wrap64 (x11_1 + 1))) else (none)) else (none)) else (none))) = some r := by rw [if_neg (show ¬ (false = true) by decide)] at H; exact H
                clear H
                have H := H1
                clear H1
                replace H := Option.bind_eq_some_iff.mp H
                obtain ⟨t313, A180, H⟩ := H
                replace H : (if 1 + t313.size ≤ 9223372036854775807 then (if ((rd_T53 l0 x11_1).f0).size + ((⟨#[61]⟩ : ByteArray) ++ t313).size ≤ 9223372036854775807 then (if x3_1.length < 8796093022208 then (impl_FormatDirectives.l0 k1 (x3_1 ++ [((rd_T53 l0 x11_1).f0) ++ ((⟨#[61]⟩ : ByteArray) ++ t313)]) l0 (l0.length : Int) (wrap64 (x11_1 + 1))) else (none)) else (none)) else (none)) = some r := H
                have A18 := Aside0.mk A180
                clear A180
                by_cases c19 : 1 + t313.size ≤ 9223372036854775807
                · rw [if_pos c19] at H
                  have c19b0 := eq_true c19
                  have c19b1 : decide (1 + t313.size ≤ 9223372036854775807) = true := decide_eq_true c19
                  try have c19b2 : (9223372036854775807 < 1 + t313.size) = False := eq_false (Nat.not_lt.2 c19)
                  by_cases c20 : ((rd_T53 l0 x11_1).f0).size + ((⟨#[61]⟩ : ByteArray) ++ t313).size ≤ 9223372036854775807
                  · rw [if_pos c20] at H
                    have c20b0 := eq_true c20
                    have c20b1 : decide (((rd_T53 l0 x11_1).f0).size + ((⟨#[61]⟩ : ByteArray) ++ t313).size ≤ 9223372036854775807) = true := decide_eq_true c20
                    try (have c20n := c20; simp only [ByteArray.size_append, show (⟨#[61]⟩ : ByteArray).size = 1 from rfl] at c20n; have c20b3 := eq_true c20n; have c20b4 := eq_false (Nat.not_lt.2 c20n); clear c20n)
                    try have c20b2 : (9223372036854775807 < ((rd_T53 l0 x11_1).f0).size + ((⟨#[61]⟩ : ByteArray) ++ t313).size) = False := eq_false (Nat.not_lt.2 c20)
                    by_cases c21 : x3_1.length < 8796093022208
                    · rw [if_pos c21] at H
                      have LMc21 := Aside0.mk c21
                      clear c21
                      obtain ⟨y314, hy314⟩ : ∃ y_ : List ByteArray, y_ = (x3_1 ++ [((rd_T53 l0 x11_1).f0) ++ ((⟨#[61]⟩ : ByteArray) ++ t313)]) := ⟨_, rfl⟩
                      replace H : (impl_FormatDirectives.l0 k1 y314 l0 (l0.length : Int) (wrap64 (x11_1 + 1))) = some r := by first | (rw [hy314]; with_reducible exact H) | (have H2_ := (Option.bind_some _ _).symm.trans H; rw [hy314]; with_reducible exact H2_) | (have H2_ := (Option.bind_some _ _).symm.trans H; with_reducible exact H2_) | with_reducible exact H | (rw [hy314]; exact H) | exact H
                      have Ny314 := Aside0.mk hy314
                      clear hy314
                      have H' := Aside0.mk H
                      clear H
                      have p307 : 0 ≤ (x11_1 : Int) := of_decide_eq_true (by first | (with_reducible assumption) | assumption)
                      have q307 : x11_1 < (l0.length : Int) := of_decide_eq_true (by first | (with_reducible assumption) | assumption)
                      obtain ⟨ad307, e307, hx307_0, hx307_1, hx307_2⟩ := at_T53 HR0.out x11_1 p307 q307
                      (try rw [← Nbq7.out] at hx307_2)
                      cases e307
                      replace hx307_0 := (HB.out.cell (World.block_lt_of_cell? w _ hx307_0)).trans hx307_0
                      replace hx307_1 := (HB.out.cell (World.block_lt_of_cell? w _ hx307_1)).trans hx307_1
                      replace hx307_2 := (HB.out.cell (World.block_lt_of_cell? w _ hx307_2)).trans hx307_2
                      replace p307 := eq_true p307
                      replace q307 := eq_true q307
                      go_wp2_with (first | ((with_reducible refine gate_dst (N := 5) rfl ?_); refine box_event ?hg (N := 5) ?hd (cs := #[.string (⟨#[]⟩ : ByteArray), .string (⟨#[]⟩ : ByteArray), .bool false]) (t := 53) ?hr ?_; (case hd => rfl); (case hg => rfl); (case hr => first | (go_simp; done) | (go_simp; rfl)); intro gb308 hg w22 hbox hb; have n0_ := Aside0.mk (Kd.R_below (by (with_reducible repeat (first | apply Kd.R_alloc | apply Kd.R_drewN | apply Kd.R_drew)); exact HO_3.out) hb); have n1_ := Aside0.mk (below_step (by repeat (first | (with_reducible first | exact HB.out | apply below_alloc | apply pw_below_drewN | apply below_drew1) | exact HB.out)) hb); have n2_ := Aside0.mk (hbox); have n3_ := Aside0.mk ((by rw [hg]; exact (below_size (by repeat (first | (with_reducible first | exact HB.out | apply below_alloc | apply pw_below_drewN | apply below_drew1) | exact HB.out))) : w.heap.size ≤ gb308)); have n4_ := Aside0.mk ((by rw [hg]; exact (below_size (by repeat (first | (with_reducible first | exact HB.out | apply below_alloc | apply pw_below_drewN | apply below_drew1) | exact HB.out))) : w.heap.size ≤ gb308)); clear HO_3; clear HB; have HO_3 := n0_; have HB := n1_; have BK308 := n2_; have GW308 := n3_; have GE308 := n4_; clear n0_ n1_ n2_ n3_ n4_; clear hb hbox hg; have hcz23_0 : w22.cell? ⟨gb308, 0, none⟩ = some (.string (⟨#[]⟩ : ByteArray)) := (blk_cell BK308.out 0).trans rfl; have hcz23_1 : w22.cell? ⟨gb308, 1, none⟩ = some (.string (⟨#[]⟩ : ByteArray)) := (blk_cell BK308.out 1).trans rfl; have hcz23_2 : w22.cell? ⟨gb308, 2, none⟩ = some (.bool false) := (blk_cell BK308.out 2).trans rfl; have hfz23_0 := blk_frozen BK308.out 0; have hfz23_1 := blk_frozen BK308.out 1; have hfz23_2 := blk_frozen BK308.out 2) | ((with_reducible refine gate_callee (f := 62) rfl ?_); refine goesL_ (some 22) rfl rfl Tryd.func62 (by kernel_rfl) rfl #[.string ((rd_T53 l0 x11_1).f1)] rfl (by (try simp only [List.map_toArray, List.map_cons, List.map_nil]); first | done | rfl | (simp only [List.length_drop, List.length_take]; rfl) | (simp; repeat' first | rfl | constructor)) ?_; (with_reducible refine (impl_IsToken.calls k1 ((rd_T53 l0 x11_1).f1) false _ A9.out).mono ?_); rintro e w24 ⟨rfl, hb⟩; refine ⟨_, rfl, ?_⟩; have n0_ := Aside0.mk (Kd.R_below (by (with_reducible repeat (first | apply Kd.R_alloc | apply Kd.R_drewN | apply Kd.R_drew)); exact (Kd.R_mono (Kd.R_far (p := ⟨gb308, 2, none⟩) (Kd.R_far (p := ⟨gb308, 1, none⟩) (Kd.R_far (p := ⟨gb308, 0, none⟩) (Kd.R_types HO_3.out BK308.out (by decide)) (fun _ hk => hk.2) (.string ((rd_T53 l0 x11_1).f0))) (fun _ hk => hk.2) (.string ((rd_T53 l0 x11_1).f1))) (fun _ hk => hk.2) (.bool true)) (fun _ h_ => h_.1))) hb); have n1_ := Aside0.mk (blk_below (g := gb308) (o := .cells #[.string ((rd_T53 l0 x11_1).f0), .string ((rd_T53 l0 x11_1).f1), .bool true] 53 (0, 0)) (by (with_reducible repeat (first | refine blk_drewN ?_ _ | refine blk_drew ?_ | refine blk_alloc ?_ _)); refine blk_put (cs := #[.string ((rd_T53 l0 x11_1).f0), .string ((rd_T53 l0 x11_1).f1), .bool false]) ?_ 2 _ rfl; (with_reducible repeat (first | refine blk_drewN ?_ _ | refine blk_drew ?_ | refine blk_alloc ?_ _)); refine blk_put (cs := #[.string ((rd_T53 l0 x11_1).f0), .string (⟨#[]⟩ : ByteArray), .bool false]) ?_ 1 _ rfl; (with_reducible repeat (first | refine blk_drewN ?_ _ | refine blk_drew ?_ | refine blk_alloc ?_ _)); refine blk_put (cs := #[.string (⟨#[]⟩ : ByteArray), .string (⟨#[]⟩ : ByteArray), .bool false]) ?_ 0 _ rfl; (with_reducible repeat (first | refine blk_drewN ?_ _ | refine blk_drew ?_ | refine blk_alloc ?_ _)); exact BK308.out) hb); have n2_ := Aside0.mk (below_step (by repeat (first | (with_reducible first | exact HB.out | apply below_alloc | apply pw_below_drewN | apply below_drew1 | refine below_set ?_ GE308.out) | exact HB.out)) hb); clear HO_3; clear BK308; clear HB; have HO_3 := n0_; have BK308 := n1_; have HB := n2_; clear n0_ n1_ n2_; (try clear hb); (try clear hb2); (try clear hk); (try clear hi)) | ((with_reducible refine gate_callee (f := 71) rfl ?_); refine goesL_ (some 25) rfl rfl Tryd.func71 (by kernel_rfl) rfl #[.string ((rd_T53 l0 x11_1).f1)] rfl (by (try simp only [List.map_toArray, List.map_cons, List.map_nil]); first | done | rfl | (simp only [List.length_drop, List.length_take]; rfl) | (simp; repeat' first | rfl | constructor)) ?_; (with_reducible refine (impl_QuoteText.calls k1 ((rd_T53 l0 x11_1).f1) t313 _ A18.out).mono ?_); rintro e w25 ⟨rfl, hb⟩; refine ⟨_, rfl, ?_⟩; have n0_ := Aside0.mk (Kd.R_below (by (with_reducible repeat (first | apply Kd.R_alloc | apply Kd.R_drewN | apply Kd.R_drew)); exact HO_3.out) hb); have n1_ := Aside0.mk (blk_below (g := gb308) (o := .cells #[.string ((rd_T53 l0 x11_1).f0), .string ((rd_T53 l0 x11_1).f1), .bool true] 53 (0, 0)) (by (with_reducible repeat (first | refine blk_drewN ?_ _ | refine blk_drew ?_ | refine blk_alloc ?_ _)); exact BK308.out) hb); have n2_ := Aside0.mk (below_step (by repeat (first | (with_reducible first | exact HB.out | apply below_alloc | apply pw_below_drewN | apply below_drew1 | refine below_set ?_ GE308.out) | exact HB.out)) hb); clear HO_3; clear BK308; clear HB; have HO_3 := n0_; have BK308 := n1_; have HB := n2_; clear n0_ n1_ n2_; (try clear hb); (try clear hb2); (try clear hk); (try clear hi)) | ((with_reducible refine gate_builtin (b := .append) (xs := #[.tmp 30, .tmp 32]) rfl ?_); at_builtin; refine Kd.R_append Kd.string (w0 := w) w.heap.size rfl (.tmp 30) (.tmp 32) 59 9 (.string ⟨#[]⟩) 16 rfl Tryd.underlying59 info9 rfl (by decide) (by omega) u3 x3_1 (((rd_T53 l0 x11_1).f0) ++ ((⟨#[61]⟩ : ByteArray) ++ t313)) [.string (((rd_T53 l0 x11_1).f0) ++ ((⟨#[61]⟩ : ByteArray) ++ t313))] (fun _ => True) (fun _ => False) rfl rfl ?aP (fun _ hk => hk.elim) ?aF ?aO ?aB ?aS ?aL ?_; (case aP => exact rfl); (case aB => exact (by repeat (first | (with_reducible first | exact HB.out | apply below_alloc | apply pw_below_drewN | apply below_drew1 | refine below_set ?_ GE308.out) | exact HB.out))); (case aF => exact (fun _ _ => trivial)); (case aO => exact (by (with_reducible repeat (first | apply Kd.R_alloc | apply Kd.R_drewN | apply Kd.R_drew)); exact HO_3.out)); (case aS => exact (below_size (by repeat (first | (with_reducible first | exact HB.out | apply below_alloc | apply pw_below_drewN | apply below_drew1 | refine below_set ?_ GE308.out) | exact HB.out)))); (case aL => have := LMc21.out; omega); intro v315 w26 ho hb hg hat; rw [← Ny314.out] at ho; have n0_ := Aside0.mk (blk_grown (g := gb308) (o := .cells #[.string ((rd_T53 l0 x11_1).f0), .string ((rd_T53 l0 x11_1).f1), .bool true] 53 (0, 0)) (by (with_reducible repeat (first | refine blk_drewN ?_ _ | refine blk_drew ?_ | refine blk_alloc ?_ _)); exact BK308.out) hg (Kd.R_ne HO_3.out BK308.out (by decide))); have n1_ := Aside0.mk (hb); have n2_ := Aside0.mk (ho); clear BK308; clear HB; clear HO_3; have BK308 := n0_; have HB := n1_; have HO316 := n2_; clear n0_ n1_ n2_; clear ho hb hg hat))
                      go_roundg k1
                      case measure => have := HK1.out; omega
                      case rel => exact ⟨(y314), (wrap64 (x11_1 + 1)), (by first | rfl | (simp; done) | (simp [*]; done)), H', ⟨by have := HK1.out; omega⟩, ⟨by (with_reducible repeat (first | apply Kd.R_alloc | apply Kd.R_drewN | apply Kd.R_drew)); exact HO316.out⟩, ⟨by repeat (first | (with_reducible first | exact HB.out | apply below_alloc | apply pw_below_drewN | apply below_drew1 | refine below_set ?_ GE308.out) | exact HB.out)⟩⟩
                    · rw [if_neg c21] at H
                      exact absurd H (by simp)
                  · rw [if_neg c20] at H
                    exact absurd H (by simp)
                · rw [if_neg c19] at H
                  exact absurd H (by simp)
            · replace c8 := Bool.eq_false_iff.mpr c8
              subst c8
              have H1 : (if x3_1.length < 8796093022208 then (impl_FormatDirectives.l0 k1 (x3_1 ++ [(rd_T53 l0 x11_1).f0]) l0 (l0.length : Int) (wrap64 (x11_1 + 1))) else (none)) = some r := by rw [if_neg (show ¬ (false = true) by decide)] at H; exact H
              clear H
              have H := H1
              clear H1
              by_cases c27 : x3_1.length < 8796093022208
              · rw [if_pos c27] at H
                have LMc27 := Aside0.mk c27
                clear c27
                obtain ⟨y317, hy317⟩ : ∃ y_ : List ByteArray, y_ = (x3_1 ++ [(rd_T53 l0 x11_1).f0]) := ⟨_, rfl⟩
                replace H : (impl_FormatDirectives.l0 k1 y317 l0 (l0.length : Int) (wrap64 (x11_1 + 1))) = some r := by first | (rw [hy317]; with_reducible exact H) | (have H2_ := (Option.bind_some _ _).symm.trans H; rw [hy317]; with_reducible exact H2_) | (have H2_ := (Option.bind_some _ _).symm.trans H; with_reducible exact H2_) | with_reducible exact H | (rw [hy317]; exact H) | exact H
                have Ny317 := Aside0.mk hy317
                clear hy317
                have H' := Aside0.mk H
                clear H
                have p307 : 0 ≤ (x11_1 : Int) := of_decide_eq_true (by first | (with_reducible assumption) | assumption)
                have q307 : x11_1 < (l0.length : Int) := of_decide_eq_true (by first | (with_reducible assumption) | assumption)
                obtain ⟨ad307, e307, hx307_0, hx307_1, hx307_2⟩ := at_T53 HR0.out x11_1 p307 q307
                (try rw [← Nbq7.out] at hx307_2)
                cases e307
                replace hx307_0 := (HB.out.cell (World.block_lt_of_cell? w _ hx307_0)).trans hx307_0
                replace hx307_1 := (HB.out.cell (World.block_lt_of_cell? w _ hx307_1)).trans hx307_1
                replace hx307_2 := (HB.out.cell (World.block_lt_of_cell? w _ hx307_2)).trans hx307_2
                replace p307 := eq_true p307
                replace q307 := eq_true q307
                go_wp2_with (first | ((with_reducible refine gate_dst (N := 5) rfl ?_); refine box_event ?hg (N := 5) ?hd (cs := #[.string (⟨#[]⟩ : ByteArray), .string (⟨#[]⟩ : ByteArray), .bool false]) (t := 53) ?hr ?_; (case hd => rfl); (case hg => rfl); (case hr => first | (go_simp; done) | (go_simp; rfl)); intro gb308 hg w28 hbox hb; have n0_ := Aside0.mk (Kd.R_below (by (with_reducible repeat (first | apply Kd.R_alloc | apply Kd.R_drewN | apply Kd.R_drew)); exact HO_3.out) hb); have n1_ := Aside0.mk (below_step (by repeat (first | (with_reducible first | exact HB.out | apply below_alloc | apply pw_below_drewN | apply below_drew1) | exact HB.out)) hb); have n2_ := Aside0.mk (hbox); have n3_ := Aside0.mk ((by rw [hg]; exact (below_size (by repeat (first | (with_reducible first | exact HB.out | apply below_alloc | apply pw_below_drewN | apply below_drew1) | exact HB.out))) : w.heap.size ≤ gb308)); have n4_ := Aside0.mk ((by rw [hg]; exact (below_size (by repeat (first | (with_reducible first | exact HB.out | apply below_alloc | apply pw_below_drewN | apply below_drew1) | exact HB.out))) : w.heap.size ≤ gb308)); clear HO_3; clear HB; have HO_3 := n0_; have HB := n1_; have BK308 := n2_; have GW308 := n3_; have GE308 := n4_; clear n0_ n1_ n2_ n3_ n4_; clear hb hbox hg; have hcz29_0 : w28.cell? ⟨gb308, 0, none⟩ = some (.string (⟨#[]⟩ : ByteArray)) := (blk_cell BK308.out 0).trans rfl; have hcz29_1 : w28.cell? ⟨gb308, 1, none⟩ = some (.string (⟨#[]⟩ : ByteArray)) := (blk_cell BK308.out 1).trans rfl; have hcz29_2 : w28.cell? ⟨gb308, 2, none⟩ = some (.bool false) := (blk_cell BK308.out 2).trans rfl; have hfz29_0 := blk_frozen BK308.out 0; have hfz29_1 := blk_frozen BK308.out 1; have hfz29_2 := blk_frozen BK308.out 2) | ((with_reducible refine gate_builtin (b := .append) (xs := #[.tmp 30, .tmp 32]) rfl ?_); at_builtin; refine Kd.R_append Kd.string (w0 := w) w.heap.size rfl (.tmp 30) (.tmp 32) 59 9 (.string ⟨#[]⟩) 16 rfl Tryd.underlying59 info9 rfl (by decide) (by omega) u3 x3_1 ((rd_T53 l0 x11_1).f0) [.string ((rd_T53 l0 x11_1).f0)] (fun _ => True) (fun _ => False) rfl (by first | (go_simp; done) | (go_simp; rfl)) ?aP (fun _ hk => hk.elim) ?aF ?aO ?aB ?aS ?aL ?_; (case aP => exact rfl); (case aB => exact (by repeat (first | (with_reducible first | exact HB.out | apply below_alloc | apply pw_below_drewN | apply below_drew1 | refine below_set ?_ GE308.out) | exact HB.out))); (case aF => exact (fun _ _ => trivial)); (case aO => exact (by (with_reducible repeat (first | apply Kd.R_alloc | apply Kd.R_drewN | apply Kd.R_drew)); exact Kd.R_mono (Kd.R_far (p := ⟨gb308, 2, none⟩) (Kd.R_far (p := ⟨gb308, 1, none⟩) (Kd.R_far (p := ⟨gb308, 0, none⟩) (Kd.R_types HO_3.out BK308.out (by decide)) (fun _ hk => hk.2) (.string ((rd_T53 l0 x11_1).f0))) (fun _ hk => hk.2) (.string ((rd_T53 l0 x11_1).f1))) (fun _ hk => hk.2) (.bool false)) (fun _ hk => trivial))); (case aS => exact (below_size (by repeat (first | (with_reducible first | exact HB.out | apply below_alloc | apply pw_below_drewN | apply below_drew1 | refine below_set ?_ GE308.out) | exact HB.out)))); (case aL => have := LMc27.out; omega); intro v318 w30 ho hb hg hat; rw [← Ny317.out] at ho; have n0_ := Aside0.mk (blk_grown (g := gb308) (o := .cells #[.string ((rd_T53 l0 x11_1).f0), .string ((rd_T53 l0 x11_1).f1), .bool false] 53 (0, 0)) (by (with_reducible repeat (first | refine blk_drewN ?_ _ | refine blk_drew ?_ | refine blk_alloc ?_ _)); refine blk_put (cs := #[.string ((rd_T53 l0 x11_1).f0), .string ((rd_T53 l0 x11_1).f1), .bool false]) ?_ 2 _ rfl; (with_reducible repeat (first | refine blk_drewN ?_ _ | refine blk_drew ?_ | refine blk_alloc ?_ _)); refine blk_put (cs := #[.string ((rd_T53 l0 x11_1).f0), .string (⟨#[]⟩ : ByteArray), .bool false]) ?_ 1 _ rfl; (with_reducible repeat (first | refine blk_drewN ?_ _ | refine blk_drew ?_ | refine blk_alloc ?_ _)); refine blk_put (cs := #[.string (⟨#[]⟩ : ByteArray), .string (⟨#[]⟩ : ByteArray), .bool false]) ?_ 0 _ rfl; (with_reducible repeat (first | refine blk_drewN ?_ _ | refine blk_drew ?_ | refine blk_alloc ?_ _)); exact BK308.out) hg (Kd.R_ne HO_3.out BK308.out (by decide))); have n1_ := Aside0.mk (hb); have n2_ := Aside0.mk (ho); clear BK308; clear HB; clear HO_3; have BK308 := n0_; have HB := n1_; have HO319 := n2_; clear n0_ n1_ n2_; clear ho hb hg hat))
                go_roundg k1
                case measure => have := HK1.out; omega
                case rel => exact ⟨(y317), (wrap64 (x11_1 + 1)), (by first | rfl | (simp; done) | (simp [*]; done)), H', ⟨by have := HK1.out; omega⟩, ⟨by (with_reducible repeat (first | apply Kd.R_alloc | apply Kd.R_drewN | apply Kd.R_drew)); exact HO319.out⟩, ⟨by repeat (first | (with_reducible first | exact HB.out | apply below_alloc | apply pw_below_drewN | apply below_drew1 | refine below_set ?_ GE308.out) | exact HB.out)⟩⟩
              · rw [if_neg c27] at H
                exact absurd H (by simp)
          · rw [if_neg c6] at H
            exact absurd H (by simp)
        · rw [if_neg c5] at H
          exact absurd H (by simp)
      · rw [if_neg c4] at H
        have c4b0 : decide (x11_1 < (l0.length : Int)) = false := decide_eq_false c4
        clear c4
        replace H := Option.bind_eq_some_iff.mp H
        obtain ⟨t306, A310, H⟩ := H
        replace H : (some t306) = some r := H
        have A31 := Aside0.mk A310
        clear A310
        obtain rfl := Option.some.inj H
        obtain ⟨Ao32, co32, eo32⟩ := Kd.R_slice HO_3.out
        subst eo32
        go_wp2_with (first | ((with_reducible refine gate_callee (f := 72) rfl ?_); refine goesL_ (some 36) rfl rfl Tryd.func72 (by kernel_rfl) rfl #[.slice Ao32 x3_1.length co32] rfl (by (try simp only [List.map_toArray, List.map_cons, List.map_nil]); first | done | rfl | (simp only [List.length_drop, List.length_take]; rfl) | (simp; repeat' first | rfl | constructor)) ?_; (with_reducible refine (impl_JoinList.calls _ _ x3_1 t306 _ ?side1 ?side2 A31.out).mono ?_); (case side1 => repeat (first | exact (Kd.R_reads' HO_3.out).2.2 | (with_reducible refine Kd.C_alloc ?_ _) | (with_reducible refine Kd.C_drewN ?_ _) | (with_reducible refine Kd.C_drew ?_))); (case side2 => exact (Kd.R_reads' HO_3.out).2.1); rintro e w33 ⟨rfl, hb⟩; refine ⟨_, rfl, ?_⟩; have n0_ := Aside0.mk (Kd.R_below (by (with_reducible repeat (first | apply Kd.R_alloc | apply Kd.R_drewN | apply Kd.R_drew)); exact HO_3.out) hb); have n1_ := Aside0.mk (below_step (by repeat (first | (with_reducible first | exact HB.out | apply below_alloc | apply pw_below_drewN | apply below_drew1) | exact HB.out)) hb); clear HO_3; clear HB; have HO_3 := n0_; have HB := n1_; clear n0_ n1_; (try clear hb); (try clear hb2); (try clear hk); (try clear hi)))
        go_ret
        exact ⟨by first | rfl | (simp [errW_none, errW_some] <;> rfl) | (simp [*, errW_none, errW_some] <;> rfl), by repeat (first | (with_reducible first | exact HB.out | apply below_alloc | apply pw_below_drewN | apply below_drew1) | exact HB.out)⟩

/-! ### impl_FindDirective: function 73 -/
def impl_FindDirective.l0 : Nat → ByteArray → List (S53) → Int → Int → Option (Int)
  | 0, _, _, _, _ => none
  | k + 1, x1, x7, x8, x9 => if x9 < x8 then (if 0 ≤ x9 then (if x9 < (x7.length : Int) then (if ((rd_T53 x7 x9).f0).toList = x1.toList then (some x9) else (impl_FindDirective.l0 k x1 x7 x8 (wrap64 (x9 + 1)))) else (none)) else (none)) else (some (-1))
def impl_FindDirective.f (k : Nat) (l0 : List (S53)) (a1 : ByteArray) : Option (Int) := impl_FindDirective.l0 k a1 l0 (l0.length : Int) 0
theorem impl_FindDirective.mono_l : ∀ k, (∀ y0 y1 y2 y3, LeO (impl_FindDirective.l0 k y0 y1 y2 y3) (impl_FindDirective.l0 (k + 1) y0 y1 y2 y3))
  | 0 => fun _ _ _ _ r h => by simp [impl_FindDirective.l0] at h
  | k + 1 => by
    have ih0 := impl_FindDirective.mono_l k
    · intro y0 y1 y2 y3
      unfold impl_FindDirective.l0
      repeat' first
      | (with_reducible exact ih0 _ _ _ _)
      | (with_reducible exact LeO.refl _)
      | (with_reducible exact LeO.none _)
      | (with_reducible refine LeO.ite ?_ ?_)
      | (with_reducible refine LeO.bind ?_ (fun _ => ?_))
      | exact ih0 _ _ _ _
      | exact LeO.none _
      | refine LeO.ite ?_ ?_
      | refine LeO.bind ?_ (fun _ => ?_)
theorem impl_FindDirective.mono : ∀ a0 a1 k, LeO (impl_FindDirective.f k a0 a1) (impl_FindDirective.f (k + 1) a0 a1) := by
  intro a0 a1 k
  have ih0 := impl_FindDirective.mono_l k
  unfold impl_FindDirective.f
  repeat' first
      | (with_reducible exact ih0 _ _ _ _)
      | (with_reducible exact LeO.refl _)
      | (with_reducible exact LeO.none _)
      | (with_reducible refine LeO.ite ?_ ?_)
      | (with_reducible refine LeO.bind ?_ (fun _ => ?_))
      | exact ih0 _ _ _ _
      | exact LeO.none _
      | refine LeO.ite ?_ ?_
      | refine LeO.bind ?_ (fun _ => ?_)
set_option maxHeartbeats 8000000 in
set_option maxRecDepth 100000 in
theorem impl_FindDirective.calls (k : Nat) (A0 : Option Addr) (c0 : Nat) (l0 : List (S53)) (a1 : ByteArray) (r : Int) (w : World) (hr0 : Kd.C k53 w A0 l0.length l0) (hc0 : l0.length ≤ c0) (h : impl_FindDirective.f k l0 a1 = some r) :
    Calls Tryd.prog 73 #[.slice A0 l0.length c0, .string a1] w fun e w' => e = .returned (.int .i64 r) ∧ Below w.heap.size w w' := by
  have hu53 := Tryd.underlying53
  have HR0 := Aside0.mk hr0
  have HC0 := Aside0.mk hc0
  clear hr0 hc0
  have HB := Aside0.mk (Below.refl w.heap.size w)
  have H : (impl_FindDirective.l0 k a1 l0 (l0.length : Int) 0) = some r := h
  clear h
  have H' := Aside0.mk H
  clear H
  go_enter Tryd.func73, Tryd.ntmps73
  go_wp2
  go_loopg [9] k (fun kq v9 w' => ∃ (x9_1 : Int), v9 = .int .i64 x9_1 ∧ Aside0 (impl_FindDirective.l0 kq a1 l0 (l0.length : Int) x9_1 = some r) ∧ Aside0 (kq ≤ k) ∧ Aside0 (Below w.heap.size w w'))
  case atStart => exact ⟨(0), (by first | rfl | (simp; done) | (simp [*]; done)), H', ⟨Nat.le_refl _⟩, ⟨by repeat (first | (with_reducible first | exact HB.out | apply below_alloc | apply pw_below_drewN | apply below_drew1) | exact HB.out)⟩⟩
  case round =>
    clear H'
    try clear p2
    obtain ⟨x9_1, rfl, HA, HK1, HB⟩ := hrel
    cases gk with
    | zero => exact absurd HA.out (by simp [impl_FindDirective.l0])
    | succ k1 =>
      have H := HA.out
      clear HA
      simp only [impl_FindDirective.l0] at H
      by_cases c3 : x9_1 < (l0.length : Int)
      · rw [if_pos c3] at H
        have c3b0 : decide (x9_1 < (l0.length : Int)) = true := decide_eq_true c3
        clear c3
        by_cases c4 : 0 ≤ x9_1
        · rw [if_pos c4] at H
          have c4b0 : decide (0 ≤ x9_1) = true := decide_eq_true c4
          clear c4
          by_cases c5 : x9_1 < (l0.length : Int)
          · rw [if_pos c5] at H
            have c5b0 : decide (x9_1 < (l0.length : Int)) = true := decide_eq_true c5
            clear c5
            by_cases c6 : ((rd_T53 l0 x9_1).f0).toList = a1.toList
            · rw [if_pos c6] at H
              have c6b0 : (((rd_T53 l0 x9_1).f0).toList == a1.toList) = true := beq_iff_eq.mpr c6
              have c6b1 : (((rd_T53 l0 x9_1).f0).toList != a1.toList) = false := bne_eq_false_iff_eq.mpr c6
              clear c6
              obtain rfl := Option.some.inj H
              have p320 : 0 ≤ (x9_1 : Int) := of_decide_eq_true (by first | (with_reducible assumption) | assumption)
              have q320 : x9_1 < (l0.length : Int) := of_decide_eq_true (by first | (with_reducible assumption) | assumption)
              obtain ⟨ad320, e320, hx320_0, hx320_1, hx320_2⟩ := at_T53 HR0.out x9_1 p320 q320
              cases e320
              replace hx320_0 := (HB.out.cell (World.block_lt_of_cell? w _ hx320_0)).trans hx320_0
              replace hx320_1 := (HB.out.cell (World.block_lt_of_cell? w _ hx320_1)).trans hx320_1
              replace hx320_2 := (HB.out.cell (World.block_lt_of_cell? w _ hx320_2)).trans hx320_2
              replace p320 := eq_true p320
              replace q320 := eq_true q320
              go_wp2_with (first | ((with_reducible refine gate_dst (N := 6) rfl ?_); refine box_event ?hg (N := 6) ?hd (cs := #[.string (⟨#[]⟩ : ByteArray), .string (⟨#[]⟩ : ByteArray), .bool false]) (t := 53) ?hr ?_; (case hd => rfl); (case hg => rfl); (case hr => first | (go_simp; done) | (go_simp; rfl)); intro gb321 hg w7 hbox hb; have n0_ := Aside0.mk (below_step (by repeat (first | (with_reducible first | exact HB.out | apply below_alloc | apply pw_below_drewN | apply below_drew1) | exact HB.out)) hb); have n1_ := Aside0.mk (hbox); have n2_ := Aside0.mk ((by rw [hg]; exact (below_size (by repeat (first | (with_reducible first | exact HB.out | apply below_alloc | apply pw_below_drewN | apply below_drew1) | exact HB.out))) : w.heap.size ≤ gb321)); have n3_ := Aside0.mk ((by rw [hg]; exact (below_size (by repeat (first | (with_reducible first | exact HB.out | apply below_alloc | apply pw_below_drewN | apply below_drew1) | exact HB.out))) : w.heap.size ≤ gb321)); clear HB; have HB := n0_; have BK321 := n1_; have GW321 := n2_; have GE321 := n3_; clear n0_ n1_ n2_ n3_; clear hb hbox hg; have hcz8_0 : w7.cell? ⟨gb321, 0, none⟩ = some (.string (⟨#[]⟩ : ByteArray)) := (blk_cell BK321.out 0).trans rfl; have hcz8_1 : w7.cell? ⟨gb321, 1, none⟩ = some (.string (⟨#[]⟩ : ByteArray)) := (blk_cell BK321.out 1).trans rfl; have hcz8_2 : w7.cell? ⟨gb321, 2, none⟩ = some (.bool false) := (blk_cell BK321.out 2).trans rfl; have hfz8_0 := blk_frozen BK321.out 0; have hfz8_1 := blk_frozen BK321.out 1; have hfz8_2 := blk_frozen BK321.out 2))
              go_ret
              exact ⟨by first | rfl | (simp [errW_none, errW_some] <;> rfl) | (simp [*, errW_none, errW_some] <;> rfl), by repeat (first | (with_reducible first | exact HB.out | apply below_alloc | apply pw_below_drewN | apply below_drew1 | refine below_set ?_ GE321.out) | exact HB.out)⟩
            · rw [if_neg c6] at H
              have c6b0 : (((rd_T53 l0 x9_1).f0).toList == a1.toList) = false := beq_eq_false_iff_ne.mpr c6
              have c6b1 : (((rd_T53 l0 x9_1).f0).toList != a1.toList) = true := bne_iff_ne.mpr c6
              have H' := Aside0.mk H
              clear H
              have p320 : 0 ≤ (x9_1 : Int) := of_decide_eq_true (by first | (with_reducible assumption) | assumption)
              have q320 : x9_1 < (l0.length : Int) := of_decide_eq_true (by first | (with_reducible assumption) | assumption)
              obtain ⟨ad320, e320, hx320_0, hx320_1, hx320_2⟩ := at_T53 HR0.out x9_1 p320 q320
              cases e320
              replace hx320_0 := (HB.out.cell (World.block_lt_of_cell? w _ hx320_0)).trans hx320_0
              replace hx320_1 := (HB.out.cell (World.block_lt_of_cell? w _ hx320_1)).trans hx320_1
              replace hx320_2 := (HB.out.cell (World.block_lt_of_cell? w _ hx320_2)).trans hx320_2
              replace p320 := eq_true p320
              replace q320 := eq_true q320
              go_wp2_with (first | ((with_reducible refine gate_dst (N := 6) rfl ?_); refine box_event ?hg (N := 6) ?hd (cs := #[.string (⟨#[]⟩ : ByteArray), .string (⟨#[]⟩ : ByteArray), .bool false]) (t := 53) ?hr ?_; (case hd => rfl); (case hg => rfl); (case hr => first | (go_simp; done) | (go_simp; rfl)); intro gb321 hg w9 hbox hb; have n0_ := Aside0.mk (below_step (by repeat (first | (with_reducible first | exact HB.out | apply below_alloc | apply pw_below_drewN | apply below_drew1) | exact HB.out)) hb); have n1_ := Aside0.mk (hbox); have n2_ := Aside0.mk ((by rw [hg]; exact (below_size (by repeat (first | (with_reducible first | exact HB.out | apply below_alloc | apply pw_below_drewN | apply below_drew1) | exact HB.out))) : w.heap.size ≤ gb321)); have n3_ := Aside0.mk ((by rw [hg]; exact (below_size (by repeat (first | (with_reducible first | exact HB.out | apply below_alloc | apply pw_below_drewN | apply below_drew1) | exact HB.out))) : w.heap.size ≤ gb321)); clear HB; have HB := n0_; have BK321 := n1_; have GW321 := n2_; have GE321 := n3_; clear n0_ n1_ n2_ n3_; clear hb hbox hg; have hcz10_0 : w9.cell? ⟨gb321, 0, none⟩ = some (.string (⟨#[]⟩ : ByteArray)) := (blk_cell BK321.out 0).trans rfl; have hcz10_1 : w9.cell? ⟨gb321, 1, none⟩ = some (.string (⟨#[]⟩ : ByteArray)) := (blk_cell BK321.out 1).trans rfl; have hcz10_2 : w9.cell? ⟨gb321, 2, none⟩ = some (.bool false) := (blk_cell BK321.out 2).trans rfl; have hfz10_0 := blk_frozen BK321.out 0; have hfz10_1 := blk_frozen BK321.out 1; have hfz10_2 := blk_frozen BK321.out 2))
              go_roundg k1
              case measure => have := HK1.out; omega
              case rel => exact ⟨(wrap64 (x9_1 + 1)), (by first | rfl | (simp; done) | (simp [*]; done)), H', ⟨by have := HK1.out; omega⟩, ⟨by repeat (first | (with_reducible first | exact HB.out | apply below_alloc | apply pw_below_drewN | apply below_drew1 | refine below_set ?_ GE321.out) | exact HB.out)⟩⟩
          · rw [if_neg c5] at H
            exact absurd H (by simp)
        · rw [if_neg c4] at H
          exact absurd H (by simp)
      · rw [if_neg c3] at H
        have c3b0 : decide (x9_1 < (l0.length : Int)) = false := decide_eq_false c3
        clear c3
        obtain rfl := Option.some.inj H
        go_wp2
        go_ret
        exact ⟨by first | rfl | (simp [errW_none, errW_some] <;> rfl) | (simp [*, errW_none, errW_some] <;> rfl), by repeat (first | (with_reducible first | exact HB.out | apply below_alloc | apply pw_below_drewN | apply below_drew1) | exact HB.out)⟩

/-! ### impl_HasDirective: function 35 -/
def impl_HasDirective.f (k : Nat) (l0 : List (S53)) (a1 : ByteArray) : Option (Bool) := (impl_FindDirective.f k l0 a1).bind fun t322 => (some (decide (t322 ≥ 0)))
theorem impl_HasDirective.mono : ∀ a0 a1 k, LeO (impl_HasDirective.f k a0 a1) (impl_HasDirective.f (k + 1) a0 a1) := by
  intro a0 a1 k
  unfold impl_HasDirective.f
  repeat' first
      | (with_reducible exact impl_FindDirective.mono _ _ _)
      | (with_reducible exact LeO.refl _)
      | (with_reducible exact LeO.none _)
      | (with_reducible refine LeO.ite ?_ ?_)
      | (with_reducible refine LeO.bind ?_ (fun _ => ?_))
      | exact impl_FindDirective.mono _ _ _
      | exact LeO.none _
      | refine LeO.ite ?_ ?_
      | refine LeO.bind ?_ (fun _ => ?_)
set_option maxHeartbeats 8000000 in
set_option maxRecDepth 100000 in
theorem impl_HasDirective.calls (k : Nat) (A0 : Option Addr) (c0 : Nat) (l0 : List (S53)) (a1 : ByteArray) (r : Bool) (w : World) (hr0 : Kd.C k53 w A0 l0.length l0) (hc0 : l0.length ≤ c0) (h : impl_HasDirective.f k l0 a1 = some r) :
    Calls Tryd.prog 35 #[.slice A0 l0.length c0, .string a1] w fun e w' => e = .returned (.bool r) ∧ Below w.heap.size w w' := by
  have HR0 := Aside0.mk hr0
  have HC0 := Aside0.mk hc0
  clear hr0 hc0
  have HB := Aside0.mk (Below.refl w.heap.size w)
  have H : ((impl_FindDirective.f k l0 a1).bind fun t322 => (some (decide (t322 ≥ 0)))) = some r := h
  clear h
  replace H := Option.bind_eq_some_iff.mp H
  obtain ⟨t322, A30, H⟩ := H
  replace H : (some (decide (t322 ≥ 0))) = some r := H
  have A3 := Aside0.mk A30
  clear A30
  obtain rfl := Option.some.inj H
  go_enter Tryd.func35, Tryd.ntmps35
  go_wp2_with (first | ((with_reducible refine gate_callee (f := 73) rfl ?_); refine goesL_ (some 7) rfl rfl Tryd.func73 (by kernel_rfl) rfl #[.slice A0 l0.length c0, .string a1] rfl (by (try simp only [List.map_toArray, List.map_cons, List.map_nil]); first | done | rfl | (simp only [List.length_drop, List.length_take]; rfl) | (simp; repeat' first | rfl | constructor)) ?_; (with_reducible refine (impl_FindDirective.calls k _ _ l0 a1 t322 _ ?side1 ?side2 A3.out).mono ?_); (case side1 => repeat (first | exact HR0.out | (with_reducible refine Kd.C_alloc ?_ _) | (with_reducible refine Kd.C_drewN ?_ _) | (with_reducible refine Kd.C_drew ?_))); (case side2 => exact HC0.out); rintro e w4 ⟨rfl, hb⟩; refine ⟨_, rfl, ?_⟩; have n0_ := Aside0.mk (below_step (by repeat (first | (with_reducible first | exact HB.out | apply below_alloc | apply pw_below_drewN | apply below_drew1) | exact HB.out)) hb); clear HB; have HB := n0_; clear n0_; (try clear hb); (try clear hb2); (try clear hk); (try clear hi)))
  go_ret
  exact ⟨by first | rfl | (simp [errW_none, errW_some] <;> rfl) | (simp [*, errW_none, errW_some] <;> rfl), by repeat (first | (with_reducible first | exact HB.out | apply below_alloc | apply pw_below_drewN | apply below_drew1) | exact HB.out)⟩

/-! ### impl_SecondsOf: function 37 -/
def secL : Int → List Int → Int
  | n, [] => n
  | n, b :: r => if 48 ≤ b ∧ b ≤ 57 then secL (min 2147483648 (10 * n + (b - 48))) r else 0
def impl_SecondsOf.f (k : Nat) (l0 : List (S53)) (a1 : ByteArray) : Option (Int × Bool) := (impl_FindDirective.f k l0 a1).bind fun i => if i < 0 then some (0, false) else if i < (l0.length : Int) ∧ ((rd_T53 l0 i).f1).size ≤ 4611686018427387904 then some (secL 0 (bytesOf ((rd_T53 l0 i).f1)), true) else none
theorem impl_SecondsOf.mono : ∀ a0 a1 k, LeO (impl_SecondsOf.f k a0 a1) (impl_SecondsOf.f (k + 1) a0 a1) := by
  intro a0 a1 k
  unfold impl_SecondsOf.f
  exact LeO.bind (impl_FindDirective.mono _ _ _) (fun _ => LeO.refl _)
set_option maxHeartbeats 8000000 in
set_option maxRecDepth 100000 in
theorem impl_SecondsOf.calls (k : Nat) (A0 : Option Addr) (c0 : Nat) (l0 : List (S53)) (a1 : ByteArray) (r1 : Int) (r2 : Bool) (w : World) (hr0 : Kd.C k53 w A0 l0.length l0) (hc0 : l0.length ≤ c0) (h : impl_SecondsOf.f k l0 a1 = some (r1, r2)) :
    Calls Tryd.prog 37 #[.slice A0 l0.length c0, .string a1] w fun e w' => e = .returned (.tuple #[.int .i64 r1, .bool r2]) ∧ Below w.heap.size w w' := by
  have hu53 := Tryd.underlying53
  unfold impl_SecondsOf.f at h
  obtain ⟨i, hi, h⟩ := Option.bind_eq_some_iff.mp h
  have HI := Aside0.mk hi
  have HR0 := Aside0.mk hr0
  have HC0 := Aside0.mk hc0
  clear hi hr0 hc0
  by_cases g : i < 0
  · rw [if_pos g] at h
    simp only [Option.some.injEq, Prod.mk.injEq] at h
    obtain ⟨rfl, rfl⟩ := h
    have c1 : decide (i < 0) = true := decide_eq_true g
    clear g
    go_enter Tryd.func37, Tryd.ntmps37
    go_wp2_with (first | (go_at_call 73; refine (impl_FindDirective.calls k A0 c0 l0 a1 i _ HR0.out HC0.out HI.out).mono ?_; rintro e w' ⟨rfl, hb⟩))
    go_ret2
    exact ⟨rfl, hb⟩
  · rw [if_neg g] at h
    have c1 : decide (i < 0) = false := decide_eq_false g
    split at h
    · rename_i g2
      simp only [Option.some.injEq, Prod.mk.injEq] at h
      obtain ⟨hv, rfl⟩ := h
      have HV := Aside0.mk hv
      have G2 := Aside0.mk g2
      have p1 : 0 ≤ i := by omega
      have q1 := g2.1
      obtain ⟨ad, e1, hx0, hx1, hx2⟩ := at_T53 HR0.out i p1 q1
      cases e1
      have HX1 := Aside0.mk hx1
      clear hx0 hx1 hx2 hv g g2
      replace p1 := eq_true p1
      replace q1 := eq_true q1
      go_enter Tryd.func37, Tryd.ntmps37
      go_wp2_with (first | (go_at_call 73; refine (impl_FindDirective.calls k _ c0 l0 a1 i _ HR0.out HC0.out HI.out).mono ?_; rintro e w1 ⟨rfl, hb⟩; have HB1 := Aside0.mk hb; clear hb; have hx := (HB1.out.cell (World.block_lt_of_cell? w _ HX1.out)).trans HX1.out; have kb := fun W => print_bytes (P := Tryd.prog) 9 27 5 Tryd.underlying9 Tryd.underlying27 Tryd.underlying5 ((rd_T53 l0 i).f1) W))
      go_loopg [7, 22] (((rd_T53 l0 i).f1).size + 1) (fun kq v7 v22 w' => ∃ (n x : Int) (pre rest : List Int), v7 = .int .i64 n ∧ v22 = .int .i64 x ∧ Aside0 (x = (pre.length : Int)) ∧ Aside0 (bytesOf ((rd_T53 l0 i).f1) = pre ++ rest) ∧ Aside0 (kq = rest.length + 1) ∧ Aside0 (0 ≤ n ∧ n ≤ 2147483648) ∧ Aside0 (secL n rest = r1) ∧ Aside0 (MRow w' w1.heap.size 5 (bytesOf ((rd_T53 l0 i).f1))) ∧ Aside0 (Below w.heap.size w w'))
      case atStart => exact ⟨0, 0, [], bytesOf ((rd_T53 l0 i).f1), rfl, rfl, ⟨rfl⟩, ⟨rfl⟩, ⟨by rw [bytesOf_length]⟩, ⟨by omega⟩, HV, ⟨MRow.of_bytes _ _ _⟩, ⟨bytes_below HB1.out HB1.out.size _ _⟩⟩
      case round =>
        obtain ⟨n, x, pre, rest, rfl, rfl, HX, HL, HK, HN, HW, HM, HB⟩ := hrel
        have hlen : Aside0 (((rd_T53 l0 i).f1).size = pre.length + rest.length) := ⟨by rw [← bytesOf_length ((rd_T53 l0 i).f1), HL.out, List.length_append]⟩
        cases rest with
        | nil =>
          have c2 : decide (x < (((rd_T53 l0 i).f1).size : Int)) = false := decide_eq_false (by rw [HX.out, hlen.out]; simp)
          obtain rfl := HW.out
          go_wp2
          go_ret2
          exact ⟨rfl, by repeat (first | exact HB.out | apply pw_below_drewN | apply below_drew1)⟩
        | cons b rest =>
          have c2 : decide (x < (((rd_T53 l0 i).f1).size : Int)) = true := decide_eq_true (by rw [HX.out, hlen.out]; simp; omega)
          have p0 : (0 ≤ x) = True := eq_true (by rw [HX.out]; omega)
          have q0 : (x < (((rd_T53 l0 i).f1).size : Int)) = True := eq_true (of_decide_eq_true c2)
          have hb0 := HM.out.at x (by rw [HX.out]; omega) (by rw [bytesOf_length, HX.out, hlen.out]; simp; omega)
          have hrd : rd (bytesOf ((rd_T53 l0 i).f1)) x = b := by rw [HX.out, HL.out]; simp [rd]
          rw [hrd] at hb0
          clear hrd
          obtain ⟨hb1, hb2⟩ := hb0
          have hb3 := lowB_of ((rd_T53 l0 i).f1) (b := b) (by rw [HL.out]; simp)
          have HB3 := Aside0.mk hb3
          have hx1 : Aside0 (wrap64 (x + 1) = ((pre ++ [b]).length : Int)) := ⟨by have h2 := hlen.out; have h3 := G2.out.2; simp only [List.length_cons] at h2; rw [HX.out]; unfold wrap64; simp; omega⟩
          by_cases g1 : b < 48
          · have d1 : decide (b < (48 : Int)) = true := decide_eq_true g1
            have e : r1 = 0 := by rw [← HW.out]; unfold secL; rw [if_neg (by omega)]
            subst e
            clear g1 hb3
            go_wp2
            go_ret2
            exact ⟨rfl, by repeat (first | exact HB.out | apply pw_below_drewN | apply below_drew1)⟩
          · have d1 : decide (b < (48 : Int)) = false := decide_eq_false g1
            by_cases g2 : 57 < b
            · have d2 : decide ((57 : Int) < b) = true := decide_eq_true g2
              have e : r1 = 0 := by rw [← HW.out]; unfold secL; rw [if_neg (by omega)]
              subst e
              clear g1 g2 hb3
              go_wp2
              go_ret2
              exact ⟨rfl, by repeat (first | exact HB.out | apply pw_below_drewN | apply below_drew1)⟩
            · have d2 : decide ((57 : Int) < b) = false := decide_eq_false g2
              have G3 := Aside0.mk (show 48 ≤ b ∧ b ≤ 57 by omega)
              clear g1 g2 hb3
              go_wp2
              all_goals
                go_roundg (rest.length + 1)
                case measure => have := HK.out; simp at this; omega
                case rel =>
                  have hn := HN.out
                  have hg := G3.out
                  have e2 : ∀ z : Int, z = min 2147483648 (10 * n + (b - 48)) → (0 ≤ z ∧ z ≤ 2147483648) ∧ secL z rest = r1 := by
                    intro z hz
                    refine ⟨by omega, ?_⟩
                    have := HW.out
                    unfold secL at this
                    rw [if_pos hg, ← hz] at this
                    exact this
                  refine ⟨_, _, pre ++ [b], rest, rfl, rfl, hx1, ⟨by rw [HL.out]; simp⟩, ⟨rfl⟩, ⟨(e2 _ ?_).1⟩, ⟨(e2 _ ?_).2⟩, ⟨HM.out⟩, ⟨by repeat (first | exact HB.out | apply pw_below_drewN | apply below_drew1)⟩⟩
                  all_goals (simp only [wrap64] at *; omega)
    · exact absurd h (by simp)


end Go.Proofs.YtlboepkphddacabDoor.RFnDirectives
