/- What the Go functions that the law FnRanges reaches answer: for each one a Lean function, and the proof that its call comes to what that function says. Conditions: those that each theorem states. Written by a program. -/
import Derived.Test.YtlboepkphddacabGreatDoorRFnRangesx0
import Derived.Test.YtlboepkphddacabGreatDoorRFnRangesx4
namespace Go.Proofs.YtlboepkphddacabGreatDoor.RFnRanges
open Go.RowKit Go.Proofs.YtlboepkphddacabGreatDoorW.PrintWords Go.Proofs.YtlboepkphddacabGreatDoorW.PrintLast Go.Proofs.YtlboepkphddacabGreatDoorW.PrintMore
attribute [local go_sem] max2_int min2_int max_two min_two max_three min_three max_four min_four   -- for this text's walks alone
set_option linter.unusedVariables false
set_option linter.unusedSimpArgs false

/-! ### spec_l1Bent: function 20 -/
theorem spec_l1Bent.str (s : ByteArray) : strOfNums (bytesOf s) = s := by
  obtain ⟨⟨l⟩⟩ := s
  unfold strOfNums bytesOf
  simp only [List.map_map]
  congr 2
  exact (List.map_congr_left (fun b _ => by simp)).trans (List.map_id l)
theorem spec_l1Bent.keep_new {w w1 : World} {g B j : Nat} (h : KeepBut w w1 g none) (hB : w.heap.size ≤ B) (v : Value) : KeepBut w (w1.setCell ⟨B, j, none⟩ v) g none :=
  ⟨by simpa [World.setCell] using h.1, fun i hi hg hr => by
    rw [← h.2 i hi hg hr]
    simp only [World.setCell, Array.getElem?_modify]
    rw [if_neg (by omega)]⟩
theorem spec_l1Bent.cut {B n c : Nat} {x : Int} (h0 : 0 ≤ x) (h1 : x ≤ (n : Int)) (hc : n ≤ c) (W : World) :
    (Instr.slice 22 (.slice (some ⟨B, 0, none⟩) n c) none (some (.int .i64 x)) none).run Tryz.prog W = .ok (.slice (some ⟨B, 0, none⟩) x.toNat c) W := by
  obtain ⟨i0, hi, _, hsz, _⟩ := info_parts (show (Tryz.prog.info? 5).map (fun i => (i.zero, i.size, i.bytes)) = some (some (.int .u8 0), 1, 1) by kernel_rfl)
  have h := (print_take_int (k := .u8) 22 5 Tryz.underlying22 hi hsz (some ⟨B, 0, none⟩) c (List.replicate n 0) x h0 (by rw [List.length_replicate]; exact h1) (by rw [List.length_replicate]; exact hc)).1 W
  rw [List.length_take, List.length_replicate, Nat.min_eq_left (by omega)] at h
  exact h
theorem spec_l1Bent.reads {w : World} {B e n : Nat} {xs : List Int} (h : MRow w B e xs) (hn : xs.length = n) (hl : n ≤ 9223372036854775807) : ReadsInt w .u8 (some ⟨B, 0, none⟩) n xs := by
  refine ⟨hn, hl, fun _ => ⟨_, rfl, fun j hj => ?_⟩⟩
  have h1 := (h.at (j : Int) (by omega) (by omega)).1
  rw [add_plain]
  simpa [rd] using h1
theorem spec_l1Bent.append {ops : Array Oper} {rest : List Oper} {o : Oper} {a : Act} {Q : Exit → Act → World → Prop} {W : World} {B cap c : Nat} {xs : List Int} {v : Int} {ad : Addr} (hgd : o.guard = none) (s x : Operand)
    (hop : o.op = .call { callee := .builtin .append, args := #[s, x], argTypes := #[22, 22] }) (n : Nat) (hn : xs.length = n) (hs : a.eval s = .slice (some ⟨B, 0, none⟩) n cap) (hx : a.eval x = .slice (some ad) 1 c)
    (hM : MRowC W B 5 xs cap) (hc : W.cell? ad = some (.int .u8 v)) (hl : n ≤ 2000000)
    (h : ∀ v1 w1, (∀ nq, (convert 22 9 v1).run Tryz.prog (w1.drewN nq) = .ok (.string (strOfNums (xs ++ [v]))) (w1.drewN nq)) → W.grownBy w1 (some B) → wpList Tryz.prog ops Q rest (a.put o.dst v1) w1) : wpList Tryz.prog ops Q (o :: rest) a W := by
  obtain ⟨i0, hi, hz0, hz1, hz2⟩ := info_parts (show (Tryz.prog.info? 5).map (fun i => (i.zero, i.size, i.bytes)) = some (some (.int .u8 0), 1, 1) by kernel_rfl)
  obtain ⟨tail, hcap, hh⟩ := hM
  have hnl : (nums .u8 xs).length = n := by rw [nums_length, hn]
  have hcell : ∀ j u, (nums .u8 xs)[j]? = some u → W.cell? ⟨B, 0 + j, none⟩ = some u := by
    intro j u hj
    have hjl := (List.getElem?_eq_some_iff.1 hj).1
    unfold World.cell?
    rw [hh]
    simp only [Option.isSome_none, Bool.false_eq_true, if_false, Nat.zero_add]
    rw [List.getElem?_toArray, List.getElem?_append_left hjl]
    exact hj
  refine wpList_append_arg W hgd s x 22 hop 5 i0 (.int .u8 0) 1 1 Tryz.underlying22 hi hz0 hz1 hz2 rfl (by decide) B 0 n cap (nums .u8 xs) hs (by rw [hnl]; omega) hcell ad 1 c [.int .u8 v] hx rfl ?_ ?_ ?_ (by simp only [maxLen]; omega) (by omega) ?_ ?_
  · intro j u hj
    match j, hj with
    | 0, hj => simp at hj; subst hj; rw [show ad.add 0 = ad by unfold Addr.add; split <;> simp_all]; exact hc
    | j + 1, hj => simp at hj
  · intro u hu; simp at hu; subst hu; rfl
  · intro hr j hj
    have hj0 : j = 0 := by simpa using hj
    subst hj0
    have e : 0 + n * 1 + 0 = n := by omega
    rw [e]
    constructor
    · unfold World.cell?
      rw [hh]
      simp only [Option.isSome_none, Bool.false_eq_true, if_false]
      rw [List.getElem?_toArray, List.getElem?_append_right (by omega), hnl, Nat.sub_self]
      cases tail with
      | nil => simp at hcap; omega
      | cons t0 tail => rfl
    · unfold World.frozen?
      rw [hh]
      simp only [List.length_append, hnl]
      have : ¬ n + tail.length ≤ n := by omega
      simp [this]
  · intro hr
    refine h _ _ (fun nq => ?_) ?_
    · have hrow : MRow (W.setCells B (0 + n * 1) [.int .u8 v]) B 5 (xs ++ [v]) := by
        cases tail with
        | nil => simp at hcap; omega
        | cons t0 tail =>
          refine ⟨tail, ?_⟩
          have e0 : 0 + n * 1 = n := by omega
          rw [e0]
          show (W.setCell ⟨B, n, none⟩ (.int .u8 v)).heap[B]? = _
          have e1 : (nums .u8 xs ++ t0 :: tail).set n (.int .u8 v) = nums .u8 (xs ++ [v]) ++ tail := by
            rw [List.set_append_right _ _ (by omega), hnl, Nat.sub_self, List.set_cons_zero, nums_append]
            simp [nums]
          have e2 : (nums .u8 (xs ++ [v]) ++ tail).length = (nums .u8 xs ++ t0 :: tail).length := by simp [nums_length]; omega
          rw [e2, ← e1]
          generalize (nums .u8 xs ++ t0 :: tail).length = L at hh
          unfold World.setCell
          simp only [Array.getElem?_modify, if_true, hh, Option.map_some, Option.isSome_none, Bool.false_eq_true, if_false]
          rw [List.setIfInBounds_toArray]
      exact MRow.back Tryz.underlying22 Tryz.underlying5 Tryz.underlying9 hrow (by rw [List.length_append, hn]; rfl) nq
    · refine ⟨rfl, rfl, rfl, by simp [World.setCells, World.setCell], fun k hk hne => ?_⟩
      simp only [World.setCells, World.setCell, Array.getElem?_modify]
      rw [if_neg (fun e => hne (by rw [e]))]
  · intro _ v1 w1 hown hgr
    refine h v1 w1 (fun nq => ?_) ⟨hgr.os, hgr.tape, hgr.output, hgr.size, fun k hk _ => hgr.block k hk (by simp)⟩
    have e : nums .u8 xs ++ [Value.int .u8 v] = nums .u8 (xs ++ [v]) := by rw [nums_append]; rfl
    rw [e] at hown
    exact own_string Tryz.underlying22 Tryz.underlying5 Tryz.underlying9 (show (w1.drewN nq).ownsRow _ _ _ _ _ _ from hown)
def spec_l1Bent.f (b : List Int) (i h : Int) (s : ByteArray) : Option (ByteArray × Int × Int) :=
  if s.size ≤ 1000000 then (spec_l1Below.f b i h 7).bind fun q =>
    if q.1 = 0 then (if 0 < s.size then (spec_l1Below.f b q.2.1 q.2.2 (s.size : Int)).bind fun x => (spec_l1Below.f b x.2.1 x.2.2 256).bind fun y => if 0 ≤ x.1 ∧ x.1 < (s.size : Int) then some (strOfNums ((bytesOf s).set x.1.toNat (y.1 % 256)), y.2.1, y.2.2) else none else some (s, q.2.1, q.2.2))
    else if q.1 = 1 then (spec_l1Below.f b q.2.1 q.2.2 ((s.size : Int) + 1)).bind fun x => if 0 ≤ x.1 ∧ x.1 ≤ (s.size : Int) then some (strOfNums ((bytesOf s).take x.1.toNat), x.2.1, x.2.2) else none
    else if q.1 = 2 then (spec_l1Int.f b q.2.1 q.2.2 ([0, 32, 44, 34, 255] : List Int)).bind fun x => some (strOfNums (bytesOf s ++ [x.1 % 256]), x.2.1, x.2.2)
    else if q.1 = 3 then (if 0 < s.size then (spec_l1Below.f b q.2.1 q.2.2 (s.size : Int)).bind fun x => if 0 ≤ x.1 ∧ x.1 < (s.size : Int) then some (strOfNums ((bytesOf s).take x.1.toNat ++ (bytesOf s).drop (x.1.toNat + 1)), x.2.1, x.2.2) else none else some (s, q.2.1, q.2.2))
    else some (s, q.2.1, q.2.2)
  else none
set_option maxHeartbeats 8000000 in
set_option maxRecDepth 100000 in
theorem spec_l1Bent.calls (g : Nat) (b : List Int) (i h : Int) (s : ByteArray) (r1 : ByteArray) (r2 r3 : Int) (w0 w : World) (hI : IsS63 w0 w g b i h) (hB : Below w0.heap.size w0 w) (H : spec_l1Bent.f b i h s = some (r1, r2, r3)) :
    Calls Tryz.prog 20 #[.pointer (some ⟨g, 0, none⟩), .string s] w fun e w' => e = .returned (.string r1) ∧ IsS63 w0 w' g b r2 r3 ∧ Below w0.heap.size w0 w' ∧ KeepBut w w' g none := by
  unfold spec_l1Bent.f at H
  by_cases hs : s.size ≤ 1000000
  · rw [if_pos hs] at H
    replace H := Option.bind_eq_some_iff.mp H
    obtain ⟨⟨q, i1, h1⟩, A10, H⟩ := H
    have A1 := Aside0.mk A10
    clear A10
    try dsimp only at H
    have hg := IsS63.lt hI
    have kb := fun W => print_bytes (P := Tryz.prog) 9 22 5 Tryz.underlying9 Tryz.underlying22 Tryz.underlying5 s W
    have HW := Aside0.mk hB.size
    have HI1 := Aside0.mk (hI.below (bytes_below (Below.refl _ _) (Nat.le_refl _) 5 s))
    have HB1 := Aside0.mk (bytes_below hB hB.size 5 s)
    have HK1 := Aside0.mk (KeepBut.of_below (bytes_below (Below.refl w.heap.size w) (Nat.le_refl _) 5 s) g none)
    have HM1 := Aside0.mk (MRowC.of_bytes w 5 s)
    have HNE := Aside0.mk (show w.heap.size ≠ g by omega)
    clear hI hB hg
    by_cases q0 : q = 0
    · rw [if_pos q0] at H
      subst q0
      by_cases z : 0 < s.size
      · rw [if_pos z] at H
        have zd : decide ((0 : Int) < (s.size : Int)) = true := decide_eq_true (by omega)
        have zn : decide (0 < s.size) = true := decide_eq_true z
        replace H := Option.bind_eq_some_iff.mp H
        obtain ⟨⟨x, i2, h2⟩, A20, H⟩ := H
        have A2 := Aside0.mk A20
        clear A20
        try dsimp only at H
        replace H := Option.bind_eq_some_iff.mp H
        obtain ⟨⟨y, i3, h3⟩, A30, H⟩ := H
        have A3 := Aside0.mk A30
        clear A30
        try dsimp only at H
        split at H
        · rename_i hx
          simp only [Option.some.injEq, Prod.mk.injEq] at H
          obtain ⟨rfl, rfl, rfl⟩ := H
          have p0 : (0 ≤ x) = True := eq_true hx.1
          have p1 : (x < (s.size : Int)) = True := eq_true hx.2
          have HX := Aside0.mk hx
          clear hx z
          go_enter Tryz.func20, Tryz.ntmps20
          go_wp2_with (first | (go_at_call 33; (with_reducible refine (spec_l1Below.calls g b i h 7 0 i1 h1  w0 _ HI1.out HB1.out A1.out).mono ?_); rintro e w1 ⟨rfl, hi, hb, hk⟩; have HM2 := Aside0.mk (HM1.out.keep hk HNE.out); have HI2 := Aside0.mk hi; have HB2 := Aside0.mk hb; have HK2 := Aside0.mk (HK1.out.trans hk (.inl rfl)); clear hi hb hk) | (go_at_call 33; (with_reducible refine (spec_l1Below.calls g b i1 h1 (s.size : Int) x i2 h2  w0 _ HI2.out HB2.out A2.out).mono ?_); rintro e w2 ⟨rfl, hi, hb, hk⟩; have HM3 := Aside0.mk (HM2.out.keep hk HNE.out); have HI3 := Aside0.mk hi; have HB3 := Aside0.mk hb; have HK3 := Aside0.mk (HK2.out.trans hk (.inl rfl)); clear hi hb hk) | (go_at_call 33; (with_reducible refine (spec_l1Below.calls g b i2 h2 256 y i3 h3  w0 _ HI3.out HB3.out A3.out).mono ?_); rintro e w3 ⟨rfl, hi, hb, hk⟩; have HM4 := Aside0.mk (HM3.out.keep hk HNE.out); have HI4 := Aside0.mk hi; have HB4 := Aside0.mk hb; have HK4 := Aside0.mk (HK3.out.trans hk (.inl rfl)); clear hi hb hk; obtain ⟨hc1, hc2⟩ := HM4.out.row.at x HX.out.1 (by rw [bytesOf_length]; exact HX.out.2); have hback := fun (nq : Nat) => MRow.back (w := w3.setCell ⟨w.heap.size, x.toNat, none⟩ (.int .u8 (y % 256))) (cap := grownCap w s.size 0 5) (n := s.size) (P := Tryz.prog) (src := 22) (dst := 9) Tryz.underlying22 Tryz.underlying5 Tryz.underlying9 (MRow.set HM4.out.row x (by rw [bytesOf_length]; have := HX.out; omega) (y % 256)) (by rw [List.length_set, bytesOf_length]) nq; have hback0 := hback 0; simp only [World.drewN_zero] at hback0))
          go_ret
          exact ⟨rfl, by repeat (first | exact HI4.out.far (p := ⟨w.heap.size, x.toNat, none⟩) (Ne.symm HNE.out) _ | apply IsS63.drewN | apply IsS63.drew), by repeat (first | exact mrow_below HB4.out HW.out _ _ | apply pw_below_drewN | apply below_drew1), by repeat (first | exact spec_l1Bent.keep_new HK4.out (Nat.le_refl _) _ | apply keep_drewN | apply keep_drew)⟩
        · exact absurd H (by simp)
      · rw [if_neg z] at H
        have zd : decide ((0 : Int) < (s.size : Int)) = false := decide_eq_false (by omega)
        have zn : decide (0 < s.size) = false := decide_eq_false z
        clear z
        simp only [Option.some.injEq, Prod.mk.injEq] at H
        obtain ⟨rfl, rfl, rfl⟩ := H
        go_enter Tryz.func20, Tryz.ntmps20
        go_wp2_with (first | (go_at_call 33; (with_reducible refine (spec_l1Below.calls g b i h 7 0 i1 h1  w0 _ HI1.out HB1.out A1.out).mono ?_); rintro e w1 ⟨rfl, hi, hb, hk⟩; have HM2 := Aside0.mk (HM1.out.keep hk HNE.out); have HI2 := Aside0.mk hi; have HB2 := Aside0.mk hb; have HK2 := Aside0.mk (HK1.out.trans hk (.inl rfl)); clear hi hb hk; have hback := fun (nq : Nat) => MRow.back (cap := grownCap w s.size 0 5) (n := s.size) (P := Tryz.prog) (src := 22) (dst := 9) Tryz.underlying22 Tryz.underlying5 Tryz.underlying9 HM2.out.row (bytesOf_length s) nq; rw [spec_l1Bent.str] at hback; have hback0 := hback 0; simp only [World.drewN_zero] at hback0))
        go_ret
        exact ⟨rfl, by repeat (first | exact HI2.out | apply IsS63.drewN | apply IsS63.drew | apply IsS63.alloc), by repeat (first | exact HB2.out | apply pw_below_drewN | apply below_drew1 | apply below_alloc), by repeat (first | exact HK2.out | apply keep_drewN | apply keep_drew | apply keep_alloc)⟩
    · rw [if_neg q0] at H
      have q0b : (q == 0) = false := beq_eq_false_iff_ne.mpr q0
      by_cases q1 : q = 1
      · rw [if_pos q1] at H
        subst q1
        clear q0
        replace H := Option.bind_eq_some_iff.mp H
        obtain ⟨⟨x, i2, h2⟩, A20, H⟩ := H
        have A2 := Aside0.mk A20
        clear A20
        try dsimp only at H
        split at H
        · rename_i hx
          simp only [Option.some.injEq, Prod.mk.injEq] at H
          obtain ⟨rfl, rfl, rfl⟩ := H
          have p0 : (0 ≤ x) = True := eq_true hx.1
          have hws : wrap64 ((s.size : Int) + 1) = (s.size : Int) + 1 := by unfold wrap64; omega
          have hww : IntKind.i64.wrap ((s.size : Int) + 1) = (s.size : Int) + 1 := (i64_w _).trans hws
          have htake : ∀ W : World, (Instr.slice 22 (.slice (some ⟨w.heap.size, 0, none⟩) s.size (grownCap w s.size 0 5)) none (some (.int .i64 x)) none).run Tryz.prog W = .ok (.slice (some ⟨w.heap.size, 0, none⟩) x.toNat (grownCap w s.size 0 5)) W := fun W => spec_l1Bent.cut hx.1 hx.2 (grownCap_ge w s.size 0 5) W
          have HX := Aside0.mk hx
          clear hx hs
          go_enter Tryz.func20, Tryz.ntmps20
          go_wp2_with (first | (go_at_call 33; (with_reducible refine (spec_l1Below.calls g b i h 7 1 i1 h1  w0 _ HI1.out HB1.out A1.out).mono ?_); rintro e w1 ⟨rfl, hi, hb, hk⟩; have HM2 := Aside0.mk (HM1.out.keep hk HNE.out); have HI2 := Aside0.mk hi; have HB2 := Aside0.mk hb; have HK2 := Aside0.mk (HK1.out.trans hk (.inl rfl)); clear hi hb hk) | (go_at_call 33; (with_reducible refine (spec_l1Below.calls g b i1 h1 ((s.size : Int) + 1) x i2 h2  w0 _ HI2.out HB2.out A2.out).mono ?_); rintro e w2 ⟨rfl, hi, hb, hk⟩; have HM3 := Aside0.mk (HM2.out.keep hk HNE.out); have HI3 := Aside0.mk hi; have HB3 := Aside0.mk hb; have HK3 := Aside0.mk (HK2.out.trans hk (.inl rfl)); clear hi hb hk; have hback := fun (nq : Nat) => MRow.backT (cap := grownCap w s.size 0 5) (n := x.toNat) (P := Tryz.prog) (src := 22) (dst := 9) Tryz.underlying22 Tryz.underlying5 Tryz.underlying9 HM3.out.row (by rw [bytesOf_length]; have := HX.out; omega) nq; have hback0 := hback 0; simp only [World.drewN_zero] at hback0))
          go_ret
          exact ⟨rfl, by repeat (first | exact HI3.out | apply IsS63.drewN | apply IsS63.drew | apply IsS63.alloc), by repeat (first | exact HB3.out | apply pw_below_drewN | apply below_drew1 | apply below_alloc), by repeat (first | exact HK3.out | apply keep_drewN | apply keep_drew | apply keep_alloc)⟩
        · exact absurd H (by simp)
      · rw [if_neg q1] at H
        have q1b : (q == 1) = false := beq_eq_false_iff_ne.mpr q1
        by_cases q2 : q = 2
        · rw [if_pos q2] at H
          subst q2
          clear q0 q1
          obtain ⟨ys, hys⟩ : ∃ ys : List Int, ys = [0, 32, 44, 34, 255] := ⟨_, rfl⟩
          rw [← hys] at H
          have NY := Aside0.mk hys
          clear hys
          replace H := Option.bind_eq_some_iff.mp H
          obtain ⟨⟨x, i2, h2⟩, A20, H⟩ := H
          have A2 := Aside0.mk A20
          clear A20
          try dsimp only at H
          simp only [Option.some.injEq, Prod.mk.injEq] at H
          obtain ⟨rfl, rfl, rfl⟩ := H
          go_enter Tryz.func20, Tryz.ntmps20
          go_wp2_with (first | (go_at_call 33; (with_reducible refine (spec_l1Below.calls g b i h 7 2 i1 h1  w0 _ HI1.out HB1.out A1.out).mono ?_); rintro e w1 ⟨rfl, hi, hb, hk⟩; have HM2 := Aside0.mk (HM1.out.keep hk HNE.out); have HI2 := Aside0.mk hi; have HB2 := Aside0.mk hb; have HK2 := Aside0.mk (HK1.out.trans hk (.inl rfl)); clear hi hb hk) | ((with_reducible refine gate_dst (N := 38) rfl ?_); refine Kd.R_lit (Kd.int .i64) _ 3 ?hg (N := 38) ?hd (xs := ([0, 32, 44, 34, 255] : List Int)) (inner := [.int .i64 0, .int .i64 32, .int .i64 44, .int .i64 34, .int .i64 255]) (ok := fun _ => True) (okp := fun _ => True) ?hr ?hp (fun _ hk => hk) trivial (Below.refl _ _) (Nat.le_refl _) (by simp) ?_; (case hd => rfl); (case hg => rfl); (case hr => first | (go_simp; done) | (go_simp; rfl)); (case hp => exact (Reps.one (show Kd.M (Kd.int .i64) _ _ _ 0 [.int .i64 0] from rfl) (Reps.one (show Kd.M (Kd.int .i64) _ _ _ 32 [.int .i64 32] from rfl) (Reps.one (show Kd.M (Kd.int .i64) _ _ _ 44 [.int .i64 44] from rfl) (Reps.one (show Kd.M (Kd.int .i64) _ _ _ 34 [.int .i64 34] from rfl) (Reps.one (show Kd.M (Kd.int .i64) _ _ _ 255 [.int .i64 255] from rfl) (Reps.none _ _))))))); intro v9 w3 ho4 hb hg_ hnew_; clear hg_ hnew_; (first | rw [← NY.out] at ho4 | (simp only [Int.reduceToNat] at ho4; rw [← NY.out] at ho4)); have HO := Aside0.mk ho4; have HI3 := Aside0.mk (HI2.out.below hb); have HB3 := Aside0.mk (below_step HB2.out hb); have HK3 := Aside0.mk (KeepBut.trans HK2.out (KeepBut.of_below hb g none) (.inl rfl)); have HM3 := Aside0.mk (HM2.out.below hb); clear ho4 hb; obtain ⟨Ao5, co5, eo5⟩ := Kd.R_slice HO.out; subst eo5) | (go_at_call 28; (with_reducible refine (spec_l1Int.calls g b i1 h1 _ _ ys x i2 h2 w0 _ HI3.out HB3.out (Kd.R_reads' HO.out).2.2 (Kd.R_reads' HO.out).2.1 (far_slice (IsS63.own_ne HI3.out HO.out (by decide))) A2.out).mono ?_); rintro e w4 ⟨rfl, hi, hb, hk⟩; have HM4 := Aside0.mk (HM3.out.keep hk HNE.out); have HI4 := Aside0.mk hi; have HB4 := Aside0.mk hb; have HK4 := Aside0.mk (HK3.out.trans hk (.inl rfl)); clear hi hb hk HO) | ((with_reducible refine gate_dst (N := 42) rfl ?_); refine spec_l1Bent.append rfl _ _ rfl s.size (bytesOf_length s) rfl rfl (HM4.out.below (below_alloc (Below.refl _ _) _)) (by simp; rfl) (by omega) ?_; intro v1 w5 hbk hgr; have hback := hbk; have hback0 := hbk 0; simp only [World.drewN_zero] at hback0; have HI5 := Aside0.mk ((HI4.out.alloc _).grown hgr (by simpa using Ne.symm HNE.out)); have HB5 := Aside0.mk (Below.grown (below_alloc HB4.out _) hgr (below_alloc HB4.out _).size (fun k hk => by cases hk; exact HW.out)); have HK5 := Aside0.mk (KeepBut.trans (keep_alloc HK4.out _) (KeepBut.of_grown hgr g) (.inr ⟨_, rfl, Nat.le_refl _⟩)); clear hbk hgr))
          go_ret
          exact ⟨rfl, by repeat (first | exact HI5.out | apply IsS63.drewN | apply IsS63.drew | apply IsS63.alloc), by repeat (first | exact HB5.out | apply pw_below_drewN | apply below_drew1 | apply below_alloc), by repeat (first | exact HK5.out | apply keep_drewN | apply keep_drew | apply keep_alloc)⟩
        · rw [if_neg q2] at H
          have q2b : (q == 2) = false := beq_eq_false_iff_ne.mpr q2
          by_cases q3 : q = 3
          · rw [if_pos q3] at H
            subst q3
            clear q0 q1 q2
            by_cases z : 0 < s.size
            · rw [if_pos z] at H
              have zd : decide ((0 : Int) < (s.size : Int)) = true := decide_eq_true (by omega)
              have zn : decide (0 < s.size) = true := decide_eq_true z
              replace H := Option.bind_eq_some_iff.mp H
              obtain ⟨⟨x, i2, h2⟩, A20, H⟩ := H
              have A2 := Aside0.mk A20
              clear A20
              try dsimp only at H
              split at H
              · rename_i hx
                simp only [Option.some.injEq, Prod.mk.injEq] at H
                obtain ⟨rfl, rfl, rfl⟩ := H
                have p0 : (0 ≤ x) = True := eq_true hx.1
                have hws : wrap64 (x + 1) = x + 1 := by unfold wrap64; omega
                have hww : IntKind.i64.wrap (x + 1) = x + 1 := (i64_w _).trans hws
                have htake : ∀ W : World, (Instr.slice 22 (.slice (some ⟨w.heap.size, 0, none⟩) s.size (grownCap w s.size 0 5)) none (some (.int .i64 x)) none).run Tryz.prog W = .ok (.slice (some ⟨w.heap.size, 0, none⟩) x.toNat (grownCap w s.size 0 5)) W := fun W => spec_l1Bent.cut hx.1 (by omega) (grownCap_ge w s.size 0 5) W
                obtain ⟨i0, hi0, _, hsz0, _⟩ := info_parts (show (Tryz.prog.info? 5).map (fun i => (i.zero, i.size, i.bytes)) = some (some (.int .u8 0), 1, 1) by kernel_rfl)
                obtain ⟨A', hdrop, hd2, _⟩ := print_cut_int (P := Tryz.prog) (k := .u8) 22 5 Tryz.underlying22 hi0 hsz0 (some ⟨w.heap.size, 0, none⟩) (grownCap w s.size 0 5) (bytesOf s) (x + 1) (by omega) (by rw [bytesOf_length]; omega) (by rw [bytesOf_length]; exact grownCap_ge w s.size 0 5)
                rw [bytesOf_length] at hdrop hd2
                obtain ⟨ys, hys⟩ : ∃ ys : List Int, ys = (bytesOf s).drop (x + 1).toNat := ⟨_, rfl⟩
                rw [← hys] at hdrop hd2
                generalize grownCap w s.size 0 5 - (x + 1).toNat = c2 at hdrop
                have HYL := Aside0.mk (show ys.length ≤ s.size by rw [hys, List.length_drop, bytesOf_length]; omega)
                have HYS := Aside0.mk hys
                clear hys
                have HD := Aside0.mk hd2
                have HX := Aside0.mk hx
                clear hx hd2 z hi0 hsz0
                go_enter Tryz.func20, Tryz.ntmps20
                go_wp2_with (first | (go_at_call 33; (with_reducible refine (spec_l1Below.calls g b i h 7 3 i1 h1  w0 _ HI1.out HB1.out A1.out).mono ?_); rintro e w1 ⟨rfl, hi, hb, hk⟩; have HM2 := Aside0.mk (HM1.out.keep hk HNE.out); have HI2 := Aside0.mk hi; have HB2 := Aside0.mk hb; have HK2 := Aside0.mk (HK1.out.trans hk (.inl rfl)); clear hi hb hk) | (go_at_call 33; (with_reducible refine (spec_l1Below.calls g b i1 h1 (s.size : Int) x i2 h2  w0 _ HI2.out HB2.out A2.out).mono ?_); rintro e w2 ⟨rfl, hi, hb, hk⟩; have HM3 := Aside0.mk (HM2.out.keep hk HNE.out); have HI3 := Aside0.mk hi; have HB3 := Aside0.mk hb; have HK3 := Aside0.mk (HK2.out.trans hk (.inl rfl)); clear hi hb hk))
                replace HI3 := Aside0.mk (IsS63.drew HI3.out)
                replace HB3 := Aside0.mk (below_drew HB3.out)
                replace HK3 := Aside0.mk (keep_drew HK3.out)
                replace HM3 : Aside0 (MRowC w2.drew w.heap.size 5 (bytesOf s) (grownCap w s.size 0 5)) := ⟨HM3.out⟩
                refine start_ (n := 11) (S := fun w' => True) (ds := []) #[false, false, false, false, false, false, false, false, false, false, false] (by kernel_rfl) rfl rfl trivial (fun hHeld => ?_)
                generalize w2.drew = w3 at HI3 HB3 HK3 HM3 ⊢
                refine pure_ (i := 1) (N := some 53) (v := ?_) (a' := ?_) #[false, true, false, false, false, false, false, false, false, false, false] rfl rfl (by kernel_rfl) (fun _ _ _ h => h) (Or.inl ⟨by rfl, ?_⟩) ?_ ?_
                rotate_left
                · intro w'
                  go_simp
                  with_reducible rfl
                rotate_left
                · simp only [Act.put, List.setIfInBounds_toArray, List.set_cons_zero, List.set_cons_succ, i64_w, i32_w]
                  rfl
                refine pure_ (i := 2) (N := some 54) (v := ?_) (a' := ?_) #[false, true, true, false, false, false, false, false, false, false, false] rfl rfl (by kernel_rfl) (fun _ _ _ h => h) (Or.inl ⟨by rfl, ?_⟩) ?_ ?_
                rotate_left
                · intro w'
                  go_simp
                  with_reducible rfl
                rotate_left
                · simp only [Act.put, List.setIfInBounds_toArray, List.set_cons_zero, List.set_cons_succ, i64_w, i32_w]
                  rfl
                refine pure_ (i := 3) (N := some 55) (v := ?_) (a' := ?_) #[false, true, true, true, false, false, false, false, false, false, false] rfl rfl (by kernel_rfl) (fun _ _ _ h => h) (Or.inl ⟨by rfl, ?_⟩) ?_ ?_
                rotate_left
                · intro w'
                  go_simp
                  with_reducible rfl
                rotate_left
                · simp only [Act.put, List.setIfInBounds_toArray, List.set_cons_zero, List.set_cons_succ, i64_w, i32_w]
                  rfl
                refine pure_ (i := 5) (N := some 57) (v := ?_) (a' := ?_) #[false, true, true, true, false, true, false, false, false, false, false] rfl rfl (by kernel_rfl) (fun _ _ _ h => h) (Or.inl ⟨by rfl, ?_⟩) ?_ ?_
                rotate_left
                · intro w'
                  go_simp
                  with_reducible rfl
                rotate_left
                · simp only [Act.put, List.setIfInBounds_toArray, List.set_cons_zero, List.set_cons_succ, i64_w, i32_w]
                  rfl
                refine pure_ (i := 6) (N := some 58) (v := ?_) (a' := ?_) #[false, true, true, true, false, true, true, false, false, false, false] rfl rfl (by kernel_rfl) (fun _ _ _ h => h) (Or.inl ⟨by rfl, ?_⟩) ?_ ?_
                rotate_left
                · intro w'
                  go_simp
                  with_reducible rfl
                rotate_left
                · simp only [Act.put, List.setIfInBounds_toArray, List.set_cons_zero, List.set_cons_succ, i64_w, i32_w]
                  rfl
                refine pure_ (i := 7) (N := some 59) (v := ?_) (a' := ?_) #[false, true, true, true, false, true, true, true, false, false, false] rfl rfl (by kernel_rfl) (fun _ _ _ h => h) (Or.inl ⟨by rfl, ?_⟩) ?_ ?_
                rotate_left
                · intro w'
                  go_simp
                  with_reducible rfl
                rotate_left
                · simp only [Act.put, List.setIfInBounds_toArray, List.set_cons_zero, List.set_cons_succ, i64_w, i32_w]
                  rfl
                refine pure_ (i := 8) (N := some 60) (v := ?_) (a' := ?_) #[false, true, true, true, false, true, true, true, true, false, false] rfl rfl (by kernel_rfl) (fun _ _ _ h => h) (Or.inl ⟨by rfl, ?_⟩) ?_ ?_
                rotate_left
                · intro w'
                  go_simp
                  with_reducible rfl
                rotate_left
                · simp only [Act.put, List.setIfInBounds_toArray, List.set_cons_zero, List.set_cons_succ, i64_w, i32_w]
                  rfl
                refine one_ (i := 0) (N := some 52) #[true, true, true, true, false, true, true, true, true, false, false] rfl rfl (by kernel_rfl) (by decide) (fun K hK => ?_)
                refine Kd.R_lit_step (Kd.int .u8) w3.heap.size 5 (by rfl) (N := 52) rfl (xs := ([] : List Int)) (inner := []) (ok := fun _ => True) (okp := fun _ => True) ?hr (Reps.none _ _) (fun _ hk => hk) trivial (Below.refl w3.heap.size w3) (Nat.le_refl _) (by simp) ?_
                case hr => first | (go_simp; done) | (go_simp; rfl)
                intro v1 w4 ho1 hb1 hg1_ hn1_
                clear hg1_ hn1_
                have HO1 := Aside0.mk ho1
                have HC1 := Aside0.mk hb1
                clear ho1 hb1
                refine hK.out _ _ trivial (fun hHeld => ?_)
                clear hK K
                refine norm_ (a' := ?_) ?_ ?_
                rotate_left
                · show Act.put _ (some 52) _ = _
                  simp only [Act.put, List.setIfInBounds_toArray, List.set_cons_zero, List.set_cons_succ, i64_w, i32_w]
                  rfl
                refine one_ (i := 4) (N := some 56) #[true, true, true, true, true, true, true, true, true, false, false] rfl rfl (by kernel_rfl) (by decide) (fun K hK => ?_)
                refine Kd.R_append_rows_step (Kd.int .u8) w3.heap.size (by rfl) (.tmp 52) (.tmp 55) 22 5 (.int .u8 0) 1 (by rfl) Tryz.underlying22 (by kernel_rfl) rfl (by decide) (by decide) v1 [] ((bytesOf s).take x.toNat) (some ⟨w.heap.size, 0, none⟩) x.toNat (grownCap w s.size 0 5) (fun _ => True) (fun _ => False) rfl rfl HO1.out (Kd.C_of_reads (d := (0 : Int)) (ReadsInt.take_ (spec_l1Bent.reads (HM3.out.below HC1.out).row (bytesOf_length s) (by omega)) x.toNat (by have := HX.out; omega))) (fun _ _ h => h) (fun _ h => h.elim) (fun _ _ => trivial) HC1.out HC1.out.size (by simp only [List.length_append, List.length_nil, List.length_take, List.length_drop, bytesOf_length]; have := HYL.out; have hx9 := HX.out; omega) ?_
                intro v2 w5 ho2 hb2 hg2_ hn2_
                clear hg2_ hn2_
                have HO2 := Aside0.mk ho2
                have HC2 := Aside0.mk hb2
                clear ho2 hb2
                refine hK.out _ _ trivial (fun hHeld => ?_)
                clear hK K
                refine norm_ (a' := ?_) ?_ ?_
                rotate_left
                · show Act.put _ (some 56) _ = _
                  simp only [Act.put, List.setIfInBounds_toArray, List.set_cons_zero, List.set_cons_succ, i64_w, i32_w]
                  rfl
                refine one_ (i := 9) (N := some 61) #[true, true, true, true, true, true, true, true, true, true, false] rfl rfl (by kernel_rfl) (by decide) (fun K hK => ?_)
                refine Kd.R_append_rows_step (Kd.int .u8) w3.heap.size (by rfl) (.tmp 56) (.tmp 60) 22 5 (.int .u8 0) 1 (by rfl) Tryz.underlying22 (by kernel_rfl) rfl (by decide) (by decide) v2 ([] ++ (bytesOf s).take x.toNat) ys A' ys.length c2 (fun _ => True) (fun _ => False) rfl rfl HO2.out (Kd.C_of_reads (d := (0 : Int)) (HD.out _ (spec_l1Bent.reads (HM3.out.below HC2.out).row (bytesOf_length s) (by omega)))) (fun _ _ h => h) (fun _ h => h.elim) (fun _ _ => trivial) HC2.out HC2.out.size (by simp only [List.length_append, List.length_nil, List.length_take, List.length_drop, bytesOf_length]; have := HYL.out; have hx9 := HX.out; omega) ?_
                intro v3 w6 ho3 hb3 hg3_ hn3_
                clear hg3_ hn3_
                have HO3 := Aside0.mk ho3
                have HC3 := Aside0.mk hb3
                clear ho3 hb3
                refine hK.out _ _ trivial (fun hHeld => ?_)
                clear hK K
                refine norm_ (a' := ?_) ?_ ?_
                rotate_left
                · show Act.put _ (some 61) _ = _
                  simp only [Act.put, List.setIfInBounds_toArray, List.set_cons_zero, List.set_cons_succ, i64_w, i32_w]
                  rfl
                refine pure_ (i := 10) (N := some 5) (v := ?_) (a' := ?_) #[true, true, true, true, true, true, true, true, true, true, true] rfl rfl (by kernel_rfl) (fun _ _ _ h => h) (Or.inl ⟨by rfl, ?_⟩) ?_ ?_
                rotate_left
                · intro w'
                  go_simp
                  with_reducible rfl
                rotate_left
                · simp only [Act.put, List.setIfInBounds_toArray, List.set_cons_zero, List.set_cons_succ, i64_w, i32_w]
                  rfl
                refine done_ (by kernel_rfl) ?_
                have e9 : [] ++ (bytesOf s).take x.toNat ++ ys = (bytesOf s).take x.toNat ++ (bytesOf s).drop (x.toNat + 1) := by rw [List.nil_append, HYS.out, show (x + 1).toNat = x.toNat + 1 by have := HX.out; omega]
                replace HO3 := Aside0.mk (show (Kd.int .u8).R 5 w6 w3.heap.size (fun _ => True) v3 ((bytesOf s).take x.toNat ++ (bytesOf s).drop (x.toNat + 1)) by rw [← e9]; exact HO3.out)
                have hback := fun (nq : Nat) => own_string (P := Tryz.prog) (src := 22) (dst := 9) Tryz.underlying22 Tryz.underlying5 Tryz.underlying9 (Kd.own_of_R (Kd.R_below HO3.out (pw_below_drewN (Below.refl _ _) nq)))
                have hback0 := hback 0
                simp only [World.drewN_zero] at hback0
                have HI4 := Aside0.mk (HI3.out.below HC3.out)
                have HB4 := Aside0.mk (below_step HB3.out HC3.out)
                have HK4 := Aside0.mk (KeepBut.trans HK3.out (KeepBut.of_below HC3.out g none) (.inl rfl))
                go_wp2
                go_ret
                exact ⟨rfl, by repeat (first | exact HI4.out | apply IsS63.drewN | apply IsS63.drew | apply IsS63.alloc), by repeat (first | exact HB4.out | apply pw_below_drewN | apply below_drew1 | apply below_alloc), by repeat (first | exact HK4.out | apply keep_drewN | apply keep_drew | apply keep_alloc)⟩
              · exact absurd H (by simp)
            · rw [if_neg z] at H
              have zd : decide ((0 : Int) < (s.size : Int)) = false := decide_eq_false (by omega)
              have zn : decide (0 < s.size) = false := decide_eq_false z
              clear z
              simp only [Option.some.injEq, Prod.mk.injEq] at H
              obtain ⟨rfl, rfl, rfl⟩ := H
              go_enter Tryz.func20, Tryz.ntmps20
              go_wp2_with (first | (go_at_call 33; (with_reducible refine (spec_l1Below.calls g b i h 7 3 i1 h1  w0 _ HI1.out HB1.out A1.out).mono ?_); rintro e w1 ⟨rfl, hi, hb, hk⟩; have HM2 := Aside0.mk (HM1.out.keep hk HNE.out); have HI2 := Aside0.mk hi; have HB2 := Aside0.mk hb; have HK2 := Aside0.mk (HK1.out.trans hk (.inl rfl)); clear hi hb hk; have hback := fun (nq : Nat) => MRow.back (cap := grownCap w s.size 0 5) (n := s.size) (P := Tryz.prog) (src := 22) (dst := 9) Tryz.underlying22 Tryz.underlying5 Tryz.underlying9 HM2.out.row (bytesOf_length s) nq; rw [spec_l1Bent.str] at hback; have hback0 := hback 0; simp only [World.drewN_zero] at hback0))
              go_ret
              exact ⟨rfl, by repeat (first | exact HI2.out | apply IsS63.drewN | apply IsS63.drew | apply IsS63.alloc), by repeat (first | exact HB2.out | apply pw_below_drewN | apply below_drew1 | apply below_alloc), by repeat (first | exact HK2.out | apply keep_drewN | apply keep_drew | apply keep_alloc)⟩
          · rw [if_neg q3] at H
            have q3b : (q == 3) = false := beq_eq_false_iff_ne.mpr q3
            clear q0 q1 q2 q3
            simp only [Option.some.injEq, Prod.mk.injEq] at H
            obtain ⟨rfl, rfl, rfl⟩ := H
            go_enter Tryz.func20, Tryz.ntmps20
            go_wp2_with (first | (go_at_call 33; (with_reducible refine (spec_l1Below.calls g b i h 7 q i1 h1  w0 _ HI1.out HB1.out A1.out).mono ?_); rintro e w1 ⟨rfl, hi, hb, hk⟩; have HM2 := Aside0.mk (HM1.out.keep hk HNE.out); have HI2 := Aside0.mk hi; have HB2 := Aside0.mk hb; have HK2 := Aside0.mk (HK1.out.trans hk (.inl rfl)); clear hi hb hk; have hback := fun (nq : Nat) => MRow.back (cap := grownCap w s.size 0 5) (n := s.size) (P := Tryz.prog) (src := 22) (dst := 9) Tryz.underlying22 Tryz.underlying5 Tryz.underlying9 HM2.out.row (bytesOf_length s) nq; rw [spec_l1Bent.str] at hback; have hback0 := hback 0; simp only [World.drewN_zero] at hback0))
            go_ret
            exact ⟨rfl, by repeat (first | exact HI2.out | apply IsS63.drewN | apply IsS63.drew | apply IsS63.alloc), by repeat (first | exact HB2.out | apply pw_below_drewN | apply below_drew1 | apply below_alloc), by repeat (first | exact HK2.out | apply keep_drewN | apply keep_drew | apply keep_alloc)⟩
  · rw [if_neg hs] at H
    exact absurd H (by simp)

/-! ### spec_FormatInt: function 34 -/
def spec_FormatInt.l0 : Nat → Int → ByteArray → Int → Option (ByteArray)
  | 0, _, _, _ => none
  | k + 1, x0, x3, x4 => if x4 = 0 then (if x0 < 0 then (if 1 + x3.size ≤ 9223372036854775807 then (some ((⟨#[45]⟩ : ByteArray) ++ x3)) else (none)) else (some x3)) else (if (Int.tmod x4 10) < 0 then ((some (([(wrap64 (48 + (wrap64 (-(Int.tmod x4 10))))) % 256] : List Int) : List Int)).bind fun y169 => (if (strOfNums y169).size + x3.size ≤ 9223372036854775807 then (spec_FormatInt.l0 k x0 ((strOfNums y169) ++ x3) (wrap64 (Int.tdiv x4 10))) else (none))) else ((some (([(wrap64 (48 + (Int.tmod x4 10))) % 256] : List Int) : List Int)).bind fun y172 => (if (strOfNums y172).size + x3.size ≤ 9223372036854775807 then (spec_FormatInt.l0 k x0 ((strOfNums y172) ++ x3) (wrap64 (Int.tdiv x4 10))) else (none))))
def spec_FormatInt.f (k : Nat) (a0 : Int) : Option (ByteArray) := if a0 = 0 then (some (⟨#[48]⟩ : ByteArray)) else (spec_FormatInt.l0 k a0 (⟨#[]⟩ : ByteArray) a0)
theorem spec_FormatInt.mono_l : ∀ k, (∀ y0 y1 y2, LeO (spec_FormatInt.l0 k y0 y1 y2) (spec_FormatInt.l0 (k + 1) y0 y1 y2))
  | 0 => fun _ _ _ r h => by simp [spec_FormatInt.l0] at h
  | k + 1 => by
    have ih0 := spec_FormatInt.mono_l k
    · intro y0 y1 y2
      unfold spec_FormatInt.l0
      repeat' first
      | (with_reducible exact ih0 _ _ _)
      | (with_reducible exact LeO.refl _)
      | (with_reducible exact LeO.none _)
      | (with_reducible refine LeO.ite ?_ ?_)
      | (with_reducible refine LeO.bind ?_ (fun _ => ?_))
      | exact ih0 _ _ _
      | exact LeO.none _
      | refine LeO.ite ?_ ?_
      | refine LeO.bind ?_ (fun _ => ?_)
theorem spec_FormatInt.mono : ∀ a0 k, LeO (spec_FormatInt.f k a0) (spec_FormatInt.f (k + 1) a0) := by
  intro a0 k
  have ih0 := spec_FormatInt.mono_l k
  unfold spec_FormatInt.f
  repeat' first
      | (with_reducible exact ih0 _ _ _)
      | (with_reducible exact LeO.refl _)
      | (with_reducible exact LeO.none _)
      | (with_reducible refine LeO.ite ?_ ?_)
      | (with_reducible refine LeO.bind ?_ (fun _ => ?_))
      | exact ih0 _ _ _
      | exact LeO.none _
      | refine LeO.ite ?_ ?_
      | refine LeO.bind ?_ (fun _ => ?_)
set_option maxHeartbeats 8000000 in
set_option maxRecDepth 100000 in
theorem spec_FormatInt.calls (k : Nat) (a0 : Int) (r : ByteArray) (w : World) (h : spec_FormatInt.f k a0 = some r) :
    Calls Tryz.prog 34 #[.int .i64 a0] w fun e w' => e = .returned (.string r) ∧ Below w.heap.size w w' := by
  have HB := Aside0.mk (Below.refl w.heap.size w)
  have H : (if a0 = 0 then (some (⟨#[48]⟩ : ByteArray)) else (spec_FormatInt.l0 k a0 (⟨#[]⟩ : ByteArray) a0)) = some r := h
  clear h
  by_cases c2 : a0 = 0
  · rw [if_pos c2] at H
    have c2b0 : (a0 == 0) = true := beq_iff_eq.mpr c2
    have c2b1 : (a0 != 0) = false := bne_eq_false_iff_eq.mpr c2
    clear c2
    obtain rfl := Option.some.inj H
    go_enter Tryz.func34, Tryz.ntmps34
    go_wp2
    go_ret
    exact ⟨by first | rfl | (simp [errW_none, errW_some] <;> rfl) | (simp [*, errW_none, errW_some] <;> rfl), by repeat (first | (with_reducible first | exact HB.out | apply below_alloc | apply pw_below_drewN | apply below_drew1) | exact HB.out)⟩
  · rw [if_neg c2] at H
    have c2b0 : (a0 == 0) = false := beq_eq_false_iff_ne.mpr c2
    have c2b1 : (a0 != 0) = true := bne_iff_ne.mpr c2
    have H' := Aside0.mk H
    clear H
    go_enter Tryz.func34, Tryz.ntmps34
    go_wp2
    go_loopg [3, 4] k (fun kq v3 v4 w' => ∃ (x3_1 : ByteArray) (x4_1 : Int), v3 = .string x3_1 ∧ v4 = .int .i64 x4_1 ∧ Aside0 (spec_FormatInt.l0 kq a0 x3_1 x4_1 = some r) ∧ Aside0 (kq ≤ k) ∧ Aside0 (Below w.heap.size w w'))
    case atStart => exact ⟨((⟨#[]⟩ : ByteArray)), (a0), (by first | rfl | (simp; done) | (simp [*]; done)), (by first | rfl | (simp; done) | (simp [*]; done)), H', ⟨Nat.le_refl _⟩, ⟨by repeat (first | (with_reducible first | exact HB.out | apply below_alloc | apply pw_below_drewN | apply below_drew1) | exact HB.out)⟩⟩
    case round =>
      clear H'
      try clear c2
      try clear c2b0
      try clear c2b1
      try clear p2
      obtain ⟨x3_1, x4_1, rfl, rfl, HA, HK1, HB⟩ := hrel
      cases gk with
      | zero => exact absurd HA.out (by simp [spec_FormatInt.l0])
      | succ k1 =>
        have H := HA.out
        clear HA
        simp only [spec_FormatInt.l0] at H
        by_cases c3 : x4_1 = 0
        · rw [if_pos c3] at H
          have c3b0 : (x4_1 == 0) = true := beq_iff_eq.mpr c3
          have c3b1 : (x4_1 != 0) = false := bne_eq_false_iff_eq.mpr c3
          clear c3
          by_cases c4 : a0 < 0
          · rw [if_pos c4] at H
            have c4b0 : decide (a0 < 0) = true := decide_eq_true c4
            clear c4
            by_cases c5 : 1 + x3_1.size ≤ 9223372036854775807
            · rw [if_pos c5] at H
              have c5b0 := eq_true c5
              have c5b1 : decide (1 + x3_1.size ≤ 9223372036854775807) = true := decide_eq_true c5
              try have c5b2 : (9223372036854775807 < 1 + x3_1.size) = False := eq_false (Nat.not_lt.2 c5)
              obtain rfl := Option.some.inj H
              go_wp2
              go_ret
              exact ⟨by first | rfl | (simp [errW_none, errW_some] <;> rfl) | (simp [*, errW_none, errW_some] <;> rfl), by repeat (first | (with_reducible first | exact HB.out | apply below_alloc | apply pw_below_drewN | apply below_drew1) | exact HB.out)⟩
            · rw [if_neg c5] at H
              exact absurd H (by simp)
          · rw [if_neg c4] at H
            have c4b0 : decide (a0 < 0) = false := decide_eq_false c4
            clear c4
            obtain rfl := Option.some.inj H
            go_wp2
            go_ret
            exact ⟨by first | rfl | (simp [errW_none, errW_some] <;> rfl) | (simp [*, errW_none, errW_some] <;> rfl), by repeat (first | (with_reducible first | exact HB.out | apply below_alloc | apply pw_below_drewN | apply below_drew1) | exact HB.out)⟩
        · rw [if_neg c3] at H
          have c3b0 : (x4_1 == 0) = false := beq_eq_false_iff_ne.mpr c3
          have c3b1 : (x4_1 != 0) = true := bne_iff_ne.mpr c3
          by_cases c6 : (Int.tmod x4_1 10) < 0
          · rw [if_pos c6] at H
            have c6b0 : decide ((Int.tmod x4_1 10) < 0) = true := decide_eq_true c6
            clear c6
            obtain ⟨y169, hy169⟩ : ∃ y_ : List Int, y_ = (([(wrap64 (48 + (wrap64 (-(Int.tmod x4_1 10))))) % 256] : List Int)) := ⟨_, rfl⟩
            replace H : (if (strOfNums y169).size + x3_1.size ≤ 9223372036854775807 then (spec_FormatInt.l0 k1 a0 ((strOfNums y169) ++ x3_1) (wrap64 (Int.tdiv x4_1 10))) else (none)) = some r := by first | (rw [hy169]; with_reducible exact H) | (have H2_ := (Option.bind_some _ _).symm.trans H; rw [hy169]; with_reducible exact H2_) | (have H2_ := (Option.bind_some _ _).symm.trans H; with_reducible exact H2_) | with_reducible exact H | (rw [hy169]; exact H) | exact H
            have Ny169 := Aside0.mk hy169
            clear hy169
            by_cases c7 : (strOfNums y169).size + x3_1.size ≤ 9223372036854775807
            · rw [if_pos c7] at H
              have c7b0 := eq_true c7
              have c7b1 : decide ((strOfNums y169).size + x3_1.size ≤ 9223372036854775807) = true := decide_eq_true c7
              try have c7b2 : (9223372036854775807 < (strOfNums y169).size + x3_1.size) = False := eq_false (Nat.not_lt.2 c7)
              have H' := Aside0.mk H
              clear H
              go_wp2_with (first | ((with_reducible refine gate_dst (N := 22) rfl ?_); refine Kd.R_lit (Kd.int .u8) _ 5 ?hg (N := 22) ?hd (xs := ([(wrap64 (48 + (wrap64 (-(Int.tmod x4_1 10))))) % 256] : List Int)) (inner := [.int .u8 ((wrap64 (48 + (wrap64 (-(Int.tmod x4_1 10))))) % 256)]) (ok := fun _ => True) (okp := fun _ => True) ?hr ?hp (fun _ hk => hk) trivial (Below.refl _ _) (Nat.le_refl _) (by simp) ?_; (case hd => rfl); (case hg => rfl); (case hr => first | (go_simp; done) | (go_simp; rfl)); (case hp => exact (Reps.one (show Kd.M (Kd.int .u8) _ _ _ ((wrap64 (48 + (wrap64 (-(Int.tmod x4_1 10))))) % 256) [.int .u8 ((wrap64 (48 + (wrap64 (-(Int.tmod x4_1 10))))) % 256)] from rfl) (Reps.none _ _))); intro v170 w8 ho9 hb hg_ hnew_; clear hg_ hnew_; (first | rw [← Ny169.out] at ho9 | (simp only [Int.reduceToNat] at ho9; rw [← Ny169.out] at ho9)); have n0_ := Aside0.mk (Kd.R_lower ho9 (below_size (by repeat (first | (with_reducible first | exact HB.out | apply below_alloc | apply pw_below_drewN | apply below_drew1) | exact HB.out)))); have n1_ := Aside0.mk (below_step (by repeat (first | (with_reducible first | exact HB.out | apply below_alloc | apply pw_below_drewN | apply below_drew1) | exact HB.out)) hb); clear HB; have HO171 := n0_; have HB := n1_; clear n0_ n1_; clear hb ho9; have hcv10 := own_string (P := Tryz.prog) Tryz.underlying22 Tryz.underlying5 Tryz.underlying9 (Kd.own_of_R HO171.out); have hcvq11 := fun (nq : Nat) => own_string (P := Tryz.prog) Tryz.underlying22 Tryz.underlying5 Tryz.underlying9 (Kd.own_of_R (Kd.R_below HO171.out (pw_below_drewN (Below.refl _ _) nq)))))
              go_roundg k1
              case measure => have := HK1.out; omega
              case rel => exact ⟨((strOfNums y169) ++ x3_1), (wrap64 (Int.tdiv x4_1 10)), (by first | rfl | (simp; done) | (simp [*]; done)), (by first | rfl | (simp; done) | (simp [*]; done)), H', ⟨by have := HK1.out; omega⟩, ⟨by repeat (first | (with_reducible first | exact HB.out | apply below_alloc | apply pw_below_drewN | apply below_drew1) | exact HB.out)⟩⟩
            · rw [if_neg c7] at H
              exact absurd H (by simp)
          · rw [if_neg c6] at H
            have c6b0 : decide ((Int.tmod x4_1 10) < 0) = false := decide_eq_false c6
            clear c6
            obtain ⟨y172, hy172⟩ : ∃ y_ : List Int, y_ = (([(wrap64 (48 + (Int.tmod x4_1 10))) % 256] : List Int)) := ⟨_, rfl⟩
            replace H : (if (strOfNums y172).size + x3_1.size ≤ 9223372036854775807 then (spec_FormatInt.l0 k1 a0 ((strOfNums y172) ++ x3_1) (wrap64 (Int.tdiv x4_1 10))) else (none)) = some r := by first | (rw [hy172]; with_reducible exact H) | (have H2_ := (Option.bind_some _ _).symm.trans H; rw [hy172]; with_reducible exact H2_) | (have H2_ := (Option.bind_some _ _).symm.trans H; with_reducible exact H2_) | with_reducible exact H | (rw [hy172]; exact H) | exact H
            have Ny172 := Aside0.mk hy172
            clear hy172
            by_cases c12 : (strOfNums y172).size + x3_1.size ≤ 9223372036854775807
            · rw [if_pos c12] at H
              have c12b0 := eq_true c12
              have c12b1 : decide ((strOfNums y172).size + x3_1.size ≤ 9223372036854775807) = true := decide_eq_true c12
              try have c12b2 : (9223372036854775807 < (strOfNums y172).size + x3_1.size) = False := eq_false (Nat.not_lt.2 c12)
              have H' := Aside0.mk H
              clear H
              go_wp2_with (first | ((with_reducible refine gate_dst (N := 22) rfl ?_); refine Kd.R_lit (Kd.int .u8) _ 5 ?hg (N := 22) ?hd (xs := ([(wrap64 (48 + (Int.tmod x4_1 10))) % 256] : List Int)) (inner := [.int .u8 ((wrap64 (48 + (Int.tmod x4_1 10))) % 256)]) (ok := fun _ => True) (okp := fun _ => True) ?hr ?hp (fun _ hk => hk) trivial (Below.refl _ _) (Nat.le_refl _) (by simp) ?_; (case hd => rfl); (case hg => rfl); (case hr => first | (go_simp; done) | (go_simp; rfl)); (case hp => exact (Reps.one (show Kd.M (Kd.int .u8) _ _ _ ((wrap64 (48 + (Int.tmod x4_1 10))) % 256) [.int .u8 ((wrap64 (48 + (Int.tmod x4_1 10))) % 256)] from rfl) (Reps.none _ _))); intro v173 w13 ho14 hb hg_ hnew_; clear hg_ hnew_; (first | rw [← Ny172.out] at ho14 | (simp only [Int.reduceToNat] at ho14; rw [← Ny172.out] at ho14)); have n0_ := Aside0.mk (Kd.R_lower ho14 (below_size (by repeat (first | (with_reducible first | exact HB.out | apply below_alloc | apply pw_below_drewN | apply below_drew1) | exact HB.out)))); have n1_ := Aside0.mk (below_step (by repeat (first | (with_reducible first | exact HB.out | apply below_alloc | apply pw_below_drewN | apply below_drew1) | exact HB.out)) hb); clear HB; have HO174 := n0_; have HB := n1_; clear n0_ n1_; clear hb ho14; have hcv15 := own_string (P := Tryz.prog) Tryz.underlying22 Tryz.underlying5 Tryz.underlying9 (Kd.own_of_R HO174.out); have hcvq16 := fun (nq : Nat) => own_string (P := Tryz.prog) Tryz.underlying22 Tryz.underlying5 Tryz.underlying9 (Kd.own_of_R (Kd.R_below HO174.out (pw_below_drewN (Below.refl _ _) nq)))))
              go_roundg k1
              case measure => have := HK1.out; omega
              case rel => exact ⟨((strOfNums y172) ++ x3_1), (wrap64 (Int.tdiv x4_1 10)), (by first | rfl | (simp; done) | (simp [*]; done)), (by first | rfl | (simp; done) | (simp [*]; done)), H', ⟨by have := HK1.out; omega⟩, ⟨by repeat (first | (with_reducible first | exact HB.out | apply below_alloc | apply pw_below_drewN | apply below_drew1) | exact HB.out)⟩⟩
            · rw [if_neg c12] at H
              exact absurd H (by simp)

/-! ### spec_JoinList: function 35 -/
def spec_JoinList.l0 : Nat → List ByteArray → ByteArray → Int → Option (ByteArray)
  | 0, _, _, _ => none
  | k + 1, x0, x3, x4 => if x4 < (x0.length : Int) then (if x4 > 0 then (if x3.size + 2 ≤ 9223372036854775807 then (if 0 ≤ x4 then (if (x3 ++ (⟨#[44, 32]⟩ : ByteArray)).size + (rdOf ByteArray.empty x0 x4).size ≤ 9223372036854775807 then (spec_JoinList.l0 k x0 ((x3 ++ (⟨#[44, 32]⟩ : ByteArray)) ++ (rdOf ByteArray.empty x0 x4)) (wrap64 (x4 + 1))) else (none)) else (none)) else (none)) else (if 0 ≤ x4 then (if x3.size + (rdOf ByteArray.empty x0 x4).size ≤ 9223372036854775807 then (spec_JoinList.l0 k x0 (x3 ++ (rdOf ByteArray.empty x0 x4)) (wrap64 (x4 + 1))) else (none)) else (none))) else (some x3)
def spec_JoinList.f (k : Nat) (l0 : List ByteArray) : Option (ByteArray) := spec_JoinList.l0 k l0 (⟨#[]⟩ : ByteArray) 0
theorem spec_JoinList.mono_l : ∀ k, (∀ y0 y1 y2, LeO (spec_JoinList.l0 k y0 y1 y2) (spec_JoinList.l0 (k + 1) y0 y1 y2))
  | 0 => fun _ _ _ r h => by simp [spec_JoinList.l0] at h
  | k + 1 => by
    have ih0 := spec_JoinList.mono_l k
    · intro y0 y1 y2
      unfold spec_JoinList.l0
      repeat' first
      | (with_reducible exact ih0 _ _ _)
      | (with_reducible exact LeO.refl _)
      | (with_reducible exact LeO.none _)
      | (with_reducible refine LeO.ite ?_ ?_)
      | (with_reducible refine LeO.bind ?_ (fun _ => ?_))
      | exact ih0 _ _ _
      | exact LeO.none _
      | refine LeO.ite ?_ ?_
      | refine LeO.bind ?_ (fun _ => ?_)
theorem spec_JoinList.mono : ∀ a0 k, LeO (spec_JoinList.f k a0) (spec_JoinList.f (k + 1) a0) := by
  intro a0 k
  have ih0 := spec_JoinList.mono_l k
  unfold spec_JoinList.f
  repeat' first
      | (with_reducible exact ih0 _ _ _)
      | (with_reducible exact LeO.refl _)
      | (with_reducible exact LeO.none _)
      | (with_reducible refine LeO.ite ?_ ?_)
      | (with_reducible refine LeO.bind ?_ (fun _ => ?_))
      | exact ih0 _ _ _
      | exact LeO.none _
      | refine LeO.ite ?_ ?_
      | refine LeO.bind ?_ (fun _ => ?_)
set_option maxHeartbeats 8000000 in
set_option maxRecDepth 100000 in
theorem spec_JoinList.calls (k : Nat) (A0 : Option Addr) (c0 : Nat) (l0 : List ByteArray) (r : ByteArray) (w : World) (hr0 : Kd.C Kd.string w A0 l0.length l0) (hc0 : l0.length ≤ c0) (h : spec_JoinList.f k l0 = some r) :
    Calls Tryz.prog 35 #[.slice A0 l0.length c0] w fun e w' => e = .returned (.string r) ∧ Drawn0 w w' := by
  have HR0 := Aside0.mk hr0
  have HC0 := Aside0.mk hc0
  clear hr0 hc0
  have H : (spec_JoinList.l0 k l0 (⟨#[]⟩ : ByteArray) 0) = some r := h
  clear h
  have H' := Aside0.mk H
  clear H
  go_enter Tryz.func35, Tryz.ntmps35
  go_wp2
  go_loopg [3, 4] k (fun kq v3 v4 w' => ∃ (x3_1 : ByteArray) (x4_1 : Int), v3 = .string x3_1 ∧ v4 = .int .i64 x4_1 ∧ Aside0 (spec_JoinList.l0 kq l0 x3_1 x4_1 = some r) ∧ Aside0 (kq ≤ k) ∧ Drawn0 w w')
  case atStart => exact ⟨((⟨#[]⟩ : ByteArray)), (0), (by first | rfl | (simp; done) | (simp [*]; done)), (by first | rfl | (simp; done) | (simp [*]; done)), H', ⟨Nat.le_refl _⟩, by repeat (first | exact Drawn0.refl _ | apply Drawn0.step)⟩
  case round =>
    clear H'
    obtain ⟨x3_1, x4_1, rfl, rfl, HA, HK1, ⟨m1, rfl⟩⟩ := hrel
    cases gk with
    | zero => exact absurd HA.out (by simp [spec_JoinList.l0])
    | succ k1 =>
      have H := HA.out
      clear HA
      simp only [spec_JoinList.l0] at H
      by_cases c2 : x4_1 < (l0.length : Int)
      · rw [if_pos c2] at H
        have c2b0 : decide (x4_1 < (l0.length : Int)) = true := decide_eq_true c2
        clear c2
        by_cases c3 : x4_1 > 0
        · rw [if_pos c3] at H
          have c3b0 : decide (0 < x4_1) = true := decide_eq_true c3
          clear c3
          by_cases c4 : x3_1.size + 2 ≤ 9223372036854775807
          · rw [if_pos c4] at H
            have c4b0 := eq_true c4
            have c4b1 : decide (x3_1.size + 2 ≤ 9223372036854775807) = true := decide_eq_true c4
            try have c4b2 : (9223372036854775807 < x3_1.size + 2) = False := eq_false (Nat.not_lt.2 c4)
            by_cases c5 : 0 ≤ x4_1
            · rw [if_pos c5] at H
              have c5b0 : decide (0 ≤ x4_1) = true := decide_eq_true c5
              clear c5
              by_cases c6 : (x3_1 ++ (⟨#[44, 32]⟩ : ByteArray)).size + (rdOf ByteArray.empty l0 x4_1).size ≤ 9223372036854775807
              · rw [if_pos c6] at H
                have c6b0 := eq_true c6
                have c6b1 : decide ((x3_1 ++ (⟨#[44, 32]⟩ : ByteArray)).size + (rdOf ByteArray.empty l0 x4_1).size ≤ 9223372036854775807) = true := decide_eq_true c6
                try (have c6n := c6; simp only [ByteArray.size_append, show (⟨#[44, 32]⟩ : ByteArray).size = 2 from rfl] at c6n; have c6b3 := eq_true c6n; have c6b4 := eq_false (Nat.not_lt.2 c6n); clear c6n)
                try have c6b2 : (9223372036854775807 < (x3_1 ++ (⟨#[44, 32]⟩ : ByteArray)).size + (rdOf ByteArray.empty l0 x4_1).size) = False := eq_false (Nat.not_lt.2 c6)
                have H' := Aside0.mk H
                clear H
                have p175 : 0 ≤ (x4_1 : Int) := of_decide_eq_true (by first | (with_reducible assumption) | assumption)
                have q175 : x4_1 < (l0.length : Int) := of_decide_eq_true (by first | (with_reducible assumption) | assumption)
                obtain ⟨ad175, e175, hx175_0⟩ := Kd.at_string HR0.out x4_1 p175 q175
                cases e175
                replace p175 := eq_true p175
                replace q175 := eq_true q175
                go_wp2
                go_roundg k1
                case measure => have := HK1.out; omega
                case rel => exact ⟨((x3_1 ++ (⟨#[44, 32]⟩ : ByteArray)) ++ (rdOf ByteArray.empty l0 x4_1)), (wrap64 (x4_1 + 1)), (by first | rfl | (simp; done) | (simp [*]; done)), (by first | rfl | (simp; done) | (simp [*]; done)), H', ⟨by have := HK1.out; omega⟩, by repeat (first | exact Drawn0.refl _ | apply Drawn0.step)⟩
              · rw [if_neg c6] at H
                exact absurd H (by simp)
            · rw [if_neg c5] at H
              exact absurd H (by simp)
          · rw [if_neg c4] at H
            exact absurd H (by simp)
        · rw [if_neg c3] at H
          have c3b0 : decide (0 < x4_1) = false := decide_eq_false c3
          clear c3
          by_cases c7 : 0 ≤ x4_1
          · rw [if_pos c7] at H
            have c7b0 : decide (0 ≤ x4_1) = true := decide_eq_true c7
            clear c7
            by_cases c8 : x3_1.size + (rdOf ByteArray.empty l0 x4_1).size ≤ 9223372036854775807
            · rw [if_pos c8] at H
              have c8b0 := eq_true c8
              have c8b1 : decide (x3_1.size + (rdOf ByteArray.empty l0 x4_1).size ≤ 9223372036854775807) = true := decide_eq_true c8
              try have c8b2 : (9223372036854775807 < x3_1.size + (rdOf ByteArray.empty l0 x4_1).size) = False := eq_false (Nat.not_lt.2 c8)
              have H' := Aside0.mk H
              clear H
              have p176 : 0 ≤ (x4_1 : Int) := of_decide_eq_true (by first | (with_reducible assumption) | assumption)
              have q176 : x4_1 < (l0.length : Int) := of_decide_eq_true (by first | (with_reducible assumption) | assumption)
              obtain ⟨ad176, e176, hx176_0⟩ := Kd.at_string HR0.out x4_1 p176 q176
              cases e176
              replace p176 := eq_true p176
              replace q176 := eq_true q176
              go_wp2
              go_roundg k1
              case measure => have := HK1.out; omega
              case rel => exact ⟨(x3_1 ++ (rdOf ByteArray.empty l0 x4_1)), (wrap64 (x4_1 + 1)), (by first | rfl | (simp; done) | (simp [*]; done)), (by first | rfl | (simp; done) | (simp [*]; done)), H', ⟨by have := HK1.out; omega⟩, by repeat (first | exact Drawn0.refl _ | apply Drawn0.step)⟩
            · rw [if_neg c8] at H
              exact absurd H (by simp)
          · rw [if_neg c7] at H
            exact absurd H (by simp)
      · rw [if_neg c2] at H
        have c2b0 : decide (x4_1 < (l0.length : Int)) = false := decide_eq_false c2
        clear c2
        obtain rfl := Option.some.inj H
        go_wp2
        go_ret
        exact ⟨by first | rfl | (simp; done) | (simp [*]; done), by repeat (first | exact Drawn0.refl _ | apply Drawn0.step)⟩

end Go.Proofs.YtlboepkphddacabGreatDoor.RFnRanges
