/- What the Go functions that the law FnDates reaches answer: for each one a Lean function, and the proof that its call comes to what that function says. Conditions: those that each theorem states. Written by a program. -/
import Derived.Test.YtlboepkphddacabDoorRFnDatesx0
import Derived.Test.YtlboepkphddacabDoorRFnDatesx5
import Derived.Test.YtlboepkphddacabDoorRFnDatesx7
namespace Go.Proofs.YtlboepkphddacabDoor.RFnDates
open Go.RowKit Go.Proofs.YtlboepkphddacabDoorW.PrintWords Go.Proofs.YtlboepkphddacabDoorW.PrintLast Go.Proofs.YtlboepkphddacabDoorW.PrintMore
attribute [local go_sem] max2_int min2_int max_two min_two max_three min_three max_four min_four   -- for this text's walks alone
set_option linter.unusedVariables false
set_option linter.unusedSimpArgs false

/-! ### spec_l1Str: function 52 -/
def spec_l1Str.f (s0_0 : List Int) (s0_1 : Int) (s0_2 : Int) (l1 : List ByteArray) : Option (ByteArray × Int × Int) := (spec_l1Below.f s0_0 s0_1 s0_2 (l1.length : Int)).bind fun bt283 => (if 0 ≤ bt283.1 then (if bt283.1 < (l1.length : Int) then (some (rdOf ByteArray.empty l1 bt283.1, bt283.2.1, bt283.2.2)) else (none)) else (none))
set_option maxHeartbeats 8000000 in
set_option maxRecDepth 100000 in
theorem spec_l1Str.calls (g : Nat) (s0_0 : List Int) (s0_1 : Int) (s0_2 : Int) (A1 : Option Addr) (c1 : Nat) (l1 : List ByteArray) (r1 : ByteArray) (r2 : Int) (r3 : Int) (w0 w : World) (hI : IsS89 w0 w g s0_0 s0_1 s0_2) (hB : Below w0.heap.size w0 w) (hr1 : Kd.C Kd.string w A1 l1.length l1) (hc1 : l1.length ≤ c1) (hf1 : ∀ ad, A1 = some ad → 0 < l1.length → ad.block ≠ g) (h : spec_l1Str.f s0_0 s0_1 s0_2 l1 = some (r1, r2, r3)) :
    Calls Tryd.prog 52 #[.pointer (some ⟨g, 0, none⟩), .slice A1 l1.length c1] w fun e w' => e = .returned (.string r1) ∧ IsS89 w0 w' g s0_0 r2 r3 ∧ Below w0.heap.size w0 w' ∧ KeepBut w w' g none := by
  have HR1 := Aside0.mk hr1
  have HC1 := Aside0.mk hc1
  clear hr1 hc1
  have HI0 := Aside0.mk hI
  have HK := Aside0.mk (KeepBut.refl w g none)
  have HL := Aside0.mk hB.size
  clear hI
  have HW0 := Aside0.mk hB.size
  have HB := Aside0.mk hB
  clear hB
  have H : ((spec_l1Below.f s0_0 s0_1 s0_2 (l1.length : Int)).bind fun bt283 => (if 0 ≤ bt283.1 then (if bt283.1 < (l1.length : Int) then (some (rdOf ByteArray.empty l1 bt283.1, bt283.2.1, bt283.2.2)) else (none)) else (none))) = some (r1, r2, r3) := h
  clear h
  replace H := Option.bind_eq_some_iff.mp H
  obtain ⟨⟨t283, t284, t285⟩, A30, H⟩ := H
  replace H : (if 0 ≤ t283 then (if t283 < (l1.length : Int) then (some (rdOf ByteArray.empty l1 t283, t284, t285)) else (none)) else (none)) = some (r1, r2, r3) := H
  have A3 := Aside0.mk A30
  clear A30
  by_cases c4 : 0 ≤ t283
  · rw [if_pos c4] at H
    have c4b0 : decide (0 ≤ t283) = true := decide_eq_true c4
    clear c4
    by_cases c5 : t283 < (l1.length : Int)
    · rw [if_pos c5] at H
      have c5b0 : decide (t283 < (l1.length : Int)) = true := decide_eq_true c5
      clear c5
      simp only [Option.some.injEq, Prod.mk.injEq] at H
      obtain ⟨rfl, rfl, rfl⟩ := H
      go_enter Tryd.func52, Tryd.ntmps52
      go_wp2_with (first | ((with_reducible refine gate_callee (f := 48) rfl ?_); refine goesL_ (some 9) rfl rfl Tryd.func48 (by kernel_rfl) rfl #[.pointer (some ⟨g, 0, none⟩), .int .i64 (l1.length : Int)] rfl (by (try simp only [List.map_toArray, List.map_cons, List.map_nil]); first | done | rfl | (simp only [List.length_drop, List.length_take]; rfl) | (simp; repeat' first | rfl | constructor)) ?_; (with_reducible refine (spec_l1Below.calls g s0_0 s0_1 s0_2 (l1.length : Int) t283 t284 t285 w0 _ ?side1 ?side2 A3.out).mono ?_); (case side1 => repeat (first | (with_reducible first | exact HI0.out | apply IsS89.alloc | apply IsS89.drewN | apply IsS89.drew | apply IsS89.set_1 | apply IsS89.set_2) | exact HI0.out)); (case side2 => repeat (first | (with_reducible first | exact HB.out | apply below_alloc | apply pw_below_drewN | apply below_drew1 | refine below_set ?_ (IsS89.ge HI0.out)) | exact HB.out)); rintro e w6 ⟨rfl, hi, hb, hk⟩; refine ⟨_, rfl, ?_⟩; have n0_ := Aside0.mk (KeepBut.trans (by repeat (first | (with_reducible first | exact HK.out | apply KeepBut.set_ | apply keep_drewN | apply keep_drew | apply keep_alloc) | exact HK.out)) hk (.inl rfl)); have n1_ := Aside0.mk (hb); have n2_ := Aside0.mk (hi); clear HK; clear HB; clear HI0; have HK := n0_; have HB := n1_; have HI0 := n2_; clear n0_ n1_ n2_; (try clear hb); (try clear hb2); (try clear hk); (try clear hi); have p286 : 0 ≤ (t283 : Int) := of_decide_eq_true (by first | (with_reducible assumption) | assumption); have q286 : t283 < (l1.length : Int) := of_decide_eq_true (by first | (with_reducible assumption) | assumption); obtain ⟨ad286, e286, hx286_0⟩ := Kd.at_string HR1.out t283 p286 q286; cases e286; replace hx286_0 := keep_cell HK.out hx286_0 (by first | (rw [add_block]; exact hf1 _ rfl (by omega)) | exact hf1 _ rfl (by omega) | exact hf1 ad286 rfl (by omega)); replace p286 := eq_true p286; replace q286 := eq_true q286))
      go_ret
      exact ⟨by first | rfl | (simp [errW_none, errW_some] <;> rfl) | (simp [*, errW_none, errW_some] <;> rfl), by repeat (first | (with_reducible first | exact HI0.out | apply IsS89.alloc | apply IsS89.drewN | apply IsS89.drew | apply IsS89.set_1 | apply IsS89.set_2) | exact HI0.out), by repeat (first | (with_reducible first | exact HB.out | apply below_alloc | apply pw_below_drewN | apply below_drew1 | refine below_set ?_ (IsS89.ge HI0.out)) | exact HB.out), by repeat (first | (with_reducible first | exact HK.out | apply KeepBut.set_ | apply keep_drewN | apply keep_drew | apply keep_alloc) | exact HK.out)⟩
    · rw [if_neg c5] at H
      exact absurd H (by simp)
  · rw [if_neg c4] at H
    exact absurd H (by simp)

/-! ### spec_l1Bent: function 53 -/
theorem spec_l1Bent.str (s : ByteArray) : strOfNums (bytesOf s) = s := by
  obtain ⟨⟨l⟩⟩ := s
  unfold strOfNums bytesOf
  simp only [List.map_map]
  congr 2
  exact (List.map_congr_left (fun b _ => by simp)).trans (List.map_id l)
theorem spec_l1Bent.keep_new {w w1 : World} {g B j : Nat} (h : KeepBut w w1 g none) (hB : w.heap.size ≤ B) (v : Value) : KeepBut w (w1.setCell ⟨B, j, none⟩ v) g none :=
  ⟨by simpa [World.setCell] using h.1, fun i hi hg hr => by
    rw [← h.2 i hi hg hr]
    simp only [World.setCell, Array.getElem?_modify]
    rw [if_neg (by omega)]⟩
theorem spec_l1Bent.cut {B n c : Nat} {x : Int} (h0 : 0 ≤ x) (h1 : x ≤ (n : Int)) (hc : n ≤ c) (W : World) :
    (Instr.slice 27 (.slice (some ⟨B, 0, none⟩) n c) none (some (.int .i64 x)) none).run Tryd.prog W = .ok (.slice (some ⟨B, 0, none⟩) x.toNat c) W := by
  obtain ⟨i0, hi, _, hsz, _⟩ := info_parts (show (Tryd.prog.info? 5).map (fun i => (i.zero, i.size, i.bytes)) = some (some (.int .u8 0), 1, 1) by kernel_rfl)
  have h := (print_take_int (k := .u8) 27 5 Tryd.underlying27 hi hsz (some ⟨B, 0, none⟩) c (List.replicate n 0) x h0 (by rw [List.length_replicate]; exact h1) (by rw [List.length_replicate]; exact hc)).1 W
  rw [List.length_take, List.length_replicate, Nat.min_eq_left (by omega)] at h
  exact h
theorem spec_l1Bent.reads {w : World} {B e n : Nat} {xs : List Int} (h : MRow w B e xs) (hn : xs.length = n) (hl : n ≤ 9223372036854775807) : ReadsInt w .u8 (some ⟨B, 0, none⟩) n xs := by
  refine ⟨hn, hl, fun _ => ⟨_, rfl, fun j hj => ?_⟩⟩
  have h1 := (h.at (j : Int) (by omega) (by omega)).1
  rw [add_plain]
  simpa [rd] using h1
theorem spec_l1Bent.append {ops : Array Oper} {rest : List Oper} {o : Oper} {a : Act} {Q : Exit → Act → World → Prop} {W : World} {B cap c : Nat} {xs : List Int} {v : Int} {ad : Addr} (hgd : o.guard = none) (s x : Operand)
    (hop : o.op = .call { callee := .builtin .append, args := #[s, x], argTypes := #[27, 27] }) (n : Nat) (hn : xs.length = n) (hs : a.eval s = .slice (some ⟨B, 0, none⟩) n cap) (hx : a.eval x = .slice (some ad) 1 c)
    (hM : MRowC W B 5 xs cap) (hc : W.cell? ad = some (.int .u8 v)) (hl : n ≤ 2000000)
    (h : ∀ v1 w1, (∀ nq, (convert 27 9 v1).run Tryd.prog (w1.drewN nq) = .ok (.string (strOfNums (xs ++ [v]))) (w1.drewN nq)) → W.grownBy w1 (some B) → wpList Tryd.prog ops Q rest (a.put o.dst v1) w1) : wpList Tryd.prog ops Q (o :: rest) a W := by
  obtain ⟨i0, hi, hz0, hz1, hz2⟩ := info_parts (show (Tryd.prog.info? 5).map (fun i => (i.zero, i.size, i.bytes)) = some (some (.int .u8 0), 1, 1) by kernel_rfl)
  obtain ⟨tail, hcap, hh⟩ := hM
  have hnl : (nums .u8 xs).length = n := by rw [nums_length, hn]
  have hcell : ∀ j u, (nums .u8 xs)[j]? = some u → W.cell? ⟨B, 0 + j, none⟩ = some u := by
    intro j u hj
    have hjl := (List.getElem?_eq_some_iff.1 hj).1
    unfold World.cell?
    rw [hh]
    simp only [Option.isSome_none, Bool.false_eq_true, if_false, Nat.zero_add]
    rw [List.getElem?_toArray, List.getElem?_append_left hjl]
    exact hj
  refine wpList_append_arg W hgd s x 27 hop 5 i0 (.int .u8 0) 1 1 Tryd.underlying27 hi hz0 hz1 hz2 rfl (by decide) B 0 n cap (nums .u8 xs) hs (by rw [hnl]; omega) hcell ad 1 c [.int .u8 v] hx rfl ?_ ?_ ?_ (by simp only [maxLen]; omega) (by omega) ?_ ?_
  · intro j u hj
    match j, hj with
    | 0, hj => simp at hj; subst hj; rw [show ad.add 0 = ad by unfold Addr.add; split <;> simp_all]; exact hc
    | j + 1, hj => simp at hj
  · intro u hu; simp at hu; subst hu; rfl
  · intro hr j hj
    have hj0 : j = 0 := by simpa using hj
    subst hj0
    have e : 0 + n * 1 + 0 = n := by omega
    rw [e]
    constructor
    · unfold World.cell?
      rw [hh]
      simp only [Option.isSome_none, Bool.false_eq_true, if_false]
      rw [List.getElem?_toArray, List.getElem?_append_right (by omega), hnl, Nat.sub_self]
      cases tail with
      | nil => simp at hcap; omega
      | cons t0 tail => rfl
    · unfold World.frozen?
      rw [hh]
      simp only [List.length_append, hnl]
      have : ¬ n + tail.length ≤ n := by omega
      simp [this]
  · intro hr
    refine h _ _ (fun nq => ?_) ?_
    · have hrow : MRow (W.setCells B (0 + n * 1) [.int .u8 v]) B 5 (xs ++ [v]) := by
        cases tail with
        | nil => simp at hcap; omega
        | cons t0 tail =>
          refine ⟨tail, ?_⟩
          have e0 : 0 + n * 1 = n := by omega
          rw [e0]
          show (W.setCell ⟨B, n, none⟩ (.int .u8 v)).heap[B]? = _
          have e1 : (nums .u8 xs ++ t0 :: tail).set n (.int .u8 v) = nums .u8 (xs ++ [v]) ++ tail := by
            rw [List.set_append_right _ _ (by omega), hnl, Nat.sub_self, List.set_cons_zero, nums_append]
            simp [nums]
          have e2 : (nums .u8 (xs ++ [v]) ++ tail).length = (nums .u8 xs ++ t0 :: tail).length := by simp [nums_length]; omega
          rw [e2, ← e1]
          generalize (nums .u8 xs ++ t0 :: tail).length = L at hh
          unfold World.setCell
          simp only [Array.getElem?_modify, if_true, hh, Option.map_some, Option.isSome_none, Bool.false_eq_true, if_false]
          rw [List.setIfInBounds_toArray]
      exact MRow.back Tryd.underlying27 Tryd.underlying5 Tryd.underlying9 hrow (by rw [List.length_append, hn]; rfl) nq
    · refine ⟨rfl, rfl, rfl, by simp [World.setCells, World.setCell], fun k hk hne => ?_⟩
      simp only [World.setCells, World.setCell, Array.getElem?_modify]
      rw [if_neg (fun e => hne (by rw [e]))]
  · intro _ v1 w1 hown hgr
    refine h v1 w1 (fun nq => ?_) ⟨hgr.os, hgr.tape, hgr.output, hgr.size, fun k hk _ => hgr.block k hk (by simp)⟩
    have e : nums .u8 xs ++ [Value.int .u8 v] = nums .u8 (xs ++ [v]) := by rw [nums_append]; rfl
    rw [e] at hown
    exact own_string Tryd.underlying27 Tryd.underlying5 Tryd.underlying9 (show (w1.drewN nq).ownsRow _ _ _ _ _ _ from hown)
def spec_l1Bent.f (b : List Int) (i h : Int) (s : ByteArray) : Option (ByteArray × Int × Int) :=
  if s.size ≤ 1000000 then (spec_l1Below.f b i h 7).bind fun q =>
    if q.1 = 0 then (if 0 < s.size then (spec_l1Below.f b q.2.1 q.2.2 (s.size : Int)).bind fun x => (spec_l1Below.f b x.2.1 x.2.2 256).bind fun y => if 0 ≤ x.1 ∧ x.1 < (s.size : Int) then some (strOfNums ((bytesOf s).set x.1.toNat (y.1 % 256)), y.2.1, y.2.2) else none else some (s, q.2.1, q.2.2))
    else if q.1 = 1 then (spec_l1Below.f b q.2.1 q.2.2 ((s.size : Int) + 1)).bind fun x => if 0 ≤ x.1 ∧ x.1 ≤ (s.size : Int) then some (strOfNums ((bytesOf s).take x.1.toNat), x.2.1, x.2.2) else none
    else if q.1 = 2 then (spec_l1Int.f b q.2.1 q.2.2 ([0, 32, 44, 34, 255] : List Int)).bind fun x => some (strOfNums (bytesOf s ++ [x.1 % 256]), x.2.1, x.2.2)
    else if q.1 = 3 then (if 0 < s.size then (spec_l1Below.f b q.2.1 q.2.2 (s.size : Int)).bind fun x => if 0 ≤ x.1 ∧ x.1 < (s.size : Int) then some (strOfNums ((bytesOf s).take x.1.toNat ++ (bytesOf s).drop (x.1.toNat + 1)), x.2.1, x.2.2) else none else some (s, q.2.1, q.2.2))
    else some (s, q.2.1, q.2.2)
  else none
set_option maxHeartbeats 8000000 in
set_option maxRecDepth 100000 in
theorem spec_l1Bent.calls (g : Nat) (b : List Int) (i h : Int) (s : ByteArray) (r1 : ByteArray) (r2 r3 : Int) (w0 w : World) (hI : IsS89 w0 w g b i h) (hB : Below w0.heap.size w0 w) (H : spec_l1Bent.f b i h s = some (r1, r2, r3)) :
    Calls Tryd.prog 53 #[.pointer (some ⟨g, 0, none⟩), .string s] w fun e w' => e = .returned (.string r1) ∧ IsS89 w0 w' g b r2 r3 ∧ Below w0.heap.size w0 w' ∧ KeepBut w w' g none := by
  unfold spec_l1Bent.f at H
  by_cases hs : s.size ≤ 1000000
  · rw [if_pos hs] at H
    replace H := Option.bind_eq_some_iff.mp H
    obtain ⟨⟨q, i1, h1⟩, A10, H⟩ := H
    have A1 := Aside0.mk A10
    clear A10
    try dsimp only at H
    have hg := IsS89.lt hI
    have kb := fun W => print_bytes (P := Tryd.prog) 9 27 5 Tryd.underlying9 Tryd.underlying27 Tryd.underlying5 s W
    have HW := Aside0.mk hB.size
    have HI1 := Aside0.mk (hI.below (bytes_below (Below.refl _ _) (Nat.le_refl _) 5 s))
    have HB1 := Aside0.mk (bytes_below hB hB.size 5 s)
    have HK1 := Aside0.mk (KeepBut.of_below (bytes_below (Below.refl w.heap.size w) (Nat.le_refl _) 5 s) g none)
    have HM1 := Aside0.mk (MRowC.of_bytes w 5 s)
    have HNE := Aside0.mk (show w.heap.size ≠ g by omega)
    clear hI hB hg
    by_cases q0 : q = 0
    · rw [if_pos q0] at H
      subst q0
      by_cases z : 0 < s.size
      · rw [if_pos z] at H
        have zd : decide ((0 : Int) < (s.size : Int)) = true := decide_eq_true (by omega)
        have zn : decide (0 < s.size) = true := decide_eq_true z
        replace H := Option.bind_eq_some_iff.mp H
        obtain ⟨⟨x, i2, h2⟩, A20, H⟩ := H
        have A2 := Aside0.mk A20
        clear A20
        try dsimp only at H
        replace H := Option.bind_eq_some_iff.mp H
        obtain ⟨⟨y, i3, h3⟩, A30, H⟩ := H
        have A3 := Aside0.mk A30
        clear A30
        try dsimp only at H
        split at H
        · rename_i hx
          simp only [Option.some.injEq, Prod.mk.injEq] at H
          obtain ⟨rfl, rfl, rfl⟩ := H
          have p0 : (0 ≤ x) = True := eq_true hx.1
          have p1 : (x < (s.size : Int)) = True := eq_true hx.2
          have HX := Aside0.mk hx
          clear hx z
          go_enter Tryd.func53, Tryd.ntmps53
          go_wp2_with (first | (go_at_call 48; (with_reducible refine (spec_l1Below.calls g b i h 7 0 i1 h1  w0 _ HI1.out HB1.out A1.out).mono ?_); rintro e w1 ⟨rfl, hi, hb, hk⟩; have HM2 := Aside0.mk (HM1.out.keep hk HNE.out); have HI2 := Aside0.mk hi; have HB2 := Aside0.mk hb; have HK2 := Aside0.mk (HK1.out.trans hk (.inl rfl)); clear hi hb hk) | (go_at_call 48; (with_reducible refine (spec_l1Below.calls g b i1 h1 (s.size : Int) x i2 h2  w0 _ HI2.out HB2.out A2.out).mono ?_); rintro e w2 ⟨rfl, hi, hb, hk⟩; have HM3 := Aside0.mk (HM2.out.keep hk HNE.out); have HI3 := Aside0.mk hi; have HB3 := Aside0.mk hb; have HK3 := Aside0.mk (HK2.out.trans hk (.inl rfl)); clear hi hb hk) | (go_at_call 48; (with_reducible refine (spec_l1Below.calls g b i2 h2 256 y i3 h3  w0 _ HI3.out HB3.out A3.out).mono ?_); rintro e w3 ⟨rfl, hi, hb, hk⟩; have HM4 := Aside0.mk (HM3.out.keep hk HNE.out); have HI4 := Aside0.mk hi; have HB4 := Aside0.mk hb; have HK4 := Aside0.mk (HK3.out.trans hk (.inl rfl)); clear hi hb hk; obtain ⟨hc1, hc2⟩ := HM4.out.row.at x HX.out.1 (by rw [bytesOf_length]; exact HX.out.2); have hback := fun (nq : Nat) => MRow.back (w := w3.setCell ⟨w.heap.size, x.toNat, none⟩ (.int .u8 (y % 256))) (cap := grownCap w s.size 0 5) (n := s.size) (P := Tryd.prog) (src := 27) (dst := 9) Tryd.underlying27 Tryd.underlying5 Tryd.underlying9 (MRow.set HM4.out.row x (by rw [bytesOf_length]; have := HX.out; omega) (y % 256)) (by rw [List.length_set, bytesOf_length]) nq; have hback0 := hback 0; simp only [World.drewN_zero] at hback0))
          go_ret
          exact ⟨rfl, by repeat (first | exact HI4.out.far (p := ⟨w.heap.size, x.toNat, none⟩) (Ne.symm HNE.out) _ | apply IsS89.drewN | apply IsS89.drew), by repeat (first | exact mrow_below HB4.out HW.out _ _ | apply pw_below_drewN | apply below_drew1), by repeat (first | exact spec_l1Bent.keep_new HK4.out (Nat.le_refl _) _ | apply keep_drewN | apply keep_drew)⟩
        · exact absurd H (by simp)
      · rw [if_neg z] at H
        have zd : decide ((0 : Int) < (s.size : Int)) = false := decide_eq_false (by omega)
        have zn : decide (0 < s.size) = false := decide_eq_false z
        clear z
        simp only [Option.some.injEq, Prod.mk.injEq] at H
        obtain ⟨rfl, rfl, rfl⟩ := H
        go_enter Tryd.func53, Tryd.ntmps53
        go_wp2_with (first | (go_at_call 48; (with_reducible refine (spec_l1Below.calls g b i h 7 0 i1 h1  w0 _ HI1.out HB1.out A1.out).mono ?_); rintro e w1 ⟨rfl, hi, hb, hk⟩; have HM2 := Aside0.mk (HM1.out.keep hk HNE.out); have HI2 := Aside0.mk hi; have HB2 := Aside0.mk hb; have HK2 := Aside0.mk (HK1.out.trans hk (.inl rfl)); clear hi hb hk; have hback := fun (nq : Nat) => MRow.back (cap := grownCap w s.size 0 5) (n := s.size) (P := Tryd.prog) (src := 27) (dst := 9) Tryd.underlying27 Tryd.underlying5 Tryd.underlying9 HM2.out.row (bytesOf_length s) nq; rw [spec_l1Bent.str] at hback; have hback0 := hback 0; simp only [World.drewN_zero] at hback0))
        go_ret
        exact ⟨rfl, by repeat (first | exact HI2.out | apply IsS89.drewN | apply IsS89.drew | apply IsS89.alloc), by repeat (first | exact HB2.out | apply pw_below_drewN | apply below_drew1 | apply below_alloc), by repeat (first | exact HK2.out | apply keep_drewN | apply keep_drew | apply keep_alloc)⟩
    · rw [if_neg q0] at H
      have q0b : (q == 0) = false := beq_eq_false_iff_ne.mpr q0
      by_cases q1 : q = 1
      · rw [if_pos q1] at H
        subst q1
        clear q0
        replace H := Option.bind_eq_some_iff.mp H
        obtain ⟨⟨x, i2, h2⟩, A20, H⟩ := H
        have A2 := Aside0.mk A20
        clear A20
        try dsimp only at H
        split at H
        · rename_i hx
          simp only [Option.some.injEq, Prod.mk.injEq] at H
          obtain ⟨rfl, rfl, rfl⟩ := H
          have p0 : (0 ≤ x) = True := eq_true hx.1
          have hws : wrap64 ((s.size : Int) + 1) = (s.size : Int) + 1 := by unfold wrap64; omega
          have hww : IntKind.i64.wrap ((s.size : Int) + 1) = (s.size : Int) + 1 := (i64_w _).trans hws
          have htake : ∀ W : World, (Instr.slice 27 (.slice (some ⟨w.heap.size, 0, none⟩) s.size (grownCap w s.size 0 5)) none (some (.int .i64 x)) none).run Tryd.prog W = .ok (.slice (some ⟨w.heap.size, 0, none⟩) x.toNat (grownCap w s.size 0 5)) W := fun W => spec_l1Bent.cut hx.1 hx.2 (grownCap_ge w s.size 0 5) W
          have HX := Aside0.mk hx
          clear hx hs
          go_enter Tryd.func53, Tryd.ntmps53
          go_wp2_with (first | (go_at_call 48; (with_reducible refine (spec_l1Below.calls g b i h 7 1 i1 h1  w0 _ HI1.out HB1.out A1.out).mono ?_); rintro e w1 ⟨rfl, hi, hb, hk⟩; have HM2 := Aside0.mk (HM1.out.keep hk HNE.out); have HI2 := Aside0.mk hi; have HB2 := Aside0.mk hb; have HK2 := Aside0.mk (HK1.out.trans hk (.inl rfl)); clear hi hb hk) | (go_at_call 48; (with_reducible refine (spec_l1Below.calls g b i1 h1 ((s.size : Int) + 1) x i2 h2  w0 _ HI2.out HB2.out A2.out).mono ?_); rintro e w2 ⟨rfl, hi, hb, hk⟩; have HM3 := Aside0.mk (HM2.out.keep hk HNE.out); have HI3 := Aside0.mk hi; have HB3 := Aside0.mk hb; have HK3 := Aside0.mk (HK2.out.trans hk (.inl rfl)); clear hi hb hk; have hback := fun (nq : Nat) => MRow.backT (cap := grownCap w s.size 0 5) (n := x.toNat) (P := Tryd.prog) (src := 27) (dst := 9) Tryd.underlying27 Tryd.underlying5 Tryd.underlying9 HM3.out.row (by rw [bytesOf_length]; have := HX.out; omega) nq; have hback0 := hback 0; simp only [World.drewN_zero] at hback0))
          go_ret
          exact ⟨rfl, by repeat (first | exact HI3.out | apply IsS89.drewN | apply IsS89.drew | apply IsS89.alloc), by repeat (first | exact HB3.out | apply pw_below_drewN | apply below_drew1 | apply below_alloc), by repeat (first | exact HK3.out | apply keep_drewN | apply keep_drew | apply keep_alloc)⟩
        · exact absurd H (by simp)
      · rw [if_neg q1] at H
        have q1b : (q == 1) = false := beq_eq_false_iff_ne.mpr q1
        by_cases q2 : q = 2
        · rw [if_pos q2] at H
          subst q2
          clear q0 q1
          obtain ⟨ys, hys⟩ : ∃ ys : List Int, ys = [0, 32, 44, 34, 255] := ⟨_, rfl⟩
          rw [← hys] at H
          have NY := Aside0.mk hys
          clear hys
          replace H := Option.bind_eq_some_iff.mp H
          obtain ⟨⟨x, i2, h2⟩, A20, H⟩ := H
          have A2 := Aside0.mk A20
          clear A20
          try dsimp only at H
          simp only [Option.some.injEq, Prod.mk.injEq] at H
          obtain ⟨rfl, rfl, rfl⟩ := H
          go_enter Tryd.func53, Tryd.ntmps53
          go_wp2_with (first | (go_at_call 48; (with_reducible refine (spec_l1Below.calls g b i h 7 2 i1 h1  w0 _ HI1.out HB1.out A1.out).mono ?_); rintro e w1 ⟨rfl, hi, hb, hk⟩; have HM2 := Aside0.mk (HM1.out.keep hk HNE.out); have HI2 := Aside0.mk hi; have HB2 := Aside0.mk hb; have HK2 := Aside0.mk (HK1.out.trans hk (.inl rfl)); clear hi hb hk) | ((with_reducible refine gate_dst (N := 38) rfl ?_); refine Kd.R_lit (Kd.int .i64) _ 3 ?hg (N := 38) ?hd (xs := ([0, 32, 44, 34, 255] : List Int)) (inner := [.int .i64 0, .int .i64 32, .int .i64 44, .int .i64 34, .int .i64 255]) (ok := fun _ => True) (okp := fun _ => True) ?hr ?hp (fun _ hk => hk) trivial (Below.refl _ _) (Nat.le_refl _) (by simp) ?_; (case hd => rfl); (case hg => rfl); (case hr => first | (go_simp; done) | (go_simp; rfl)); (case hp => exact (Reps.one (show Kd.M (Kd.int .i64) _ _ _ 0 [.int .i64 0] from rfl) (Reps.one (show Kd.M (Kd.int .i64) _ _ _ 32 [.int .i64 32] from rfl) (Reps.one (show Kd.M (Kd.int .i64) _ _ _ 44 [.int .i64 44] from rfl) (Reps.one (show Kd.M (Kd.int .i64) _ _ _ 34 [.int .i64 34] from rfl) (Reps.one (show Kd.M (Kd.int .i64) _ _ _ 255 [.int .i64 255] from rfl) (Reps.none _ _))))))); intro v9 w3 ho4 hb hg_ hnew_; clear hg_ hnew_; (first | rw [← NY.out] at ho4 | (simp only [Int.reduceToNat] at ho4; rw [← NY.out] at ho4)); have HO := Aside0.mk ho4; have HI3 := Aside0.mk (HI2.out.below hb); have HB3 := Aside0.mk (below_step HB2.out hb); have HK3 := Aside0.mk (KeepBut.trans HK2.out (KeepBut.of_below hb g none) (.inl rfl)); have HM3 := Aside0.mk (HM2.out.below hb); clear ho4 hb; obtain ⟨Ao5, co5, eo5⟩ := Kd.R_slice HO.out; subst eo5) | (go_at_call 47; (with_reducible refine (spec_l1Int.calls g b i1 h1 _ _ ys x i2 h2 w0 _ HI3.out HB3.out (Kd.R_reads' HO.out).2.2 (Kd.R_reads' HO.out).2.1 (far_slice (IsS89.own_ne HI3.out HO.out (by decide))) A2.out).mono ?_); rintro e w4 ⟨rfl, hi, hb, hk⟩; have HM4 := Aside0.mk (HM3.out.keep hk HNE.out); have HI4 := Aside0.mk hi; have HB4 := Aside0.mk hb; have HK4 := Aside0.mk (HK3.out.trans hk (.inl rfl)); clear hi hb hk HO) | ((with_reducible refine gate_dst (N := 42) rfl ?_); refine spec_l1Bent.append rfl _ _ rfl s.size (bytesOf_length s) rfl rfl (HM4.out.below (below_alloc (Below.refl _ _) _)) (by simp; rfl) (by omega) ?_; intro v1 w5 hbk hgr; have hback := hbk; have hback0 := hbk 0; simp only [World.drewN_zero] at hback0; have HI5 := Aside0.mk ((HI4.out.alloc _).grown hgr (by simpa using Ne.symm HNE.out)); have HB5 := Aside0.mk (Below.grown (below_alloc HB4.out _) hgr (below_alloc HB4.out _).size (fun k hk => by cases hk; exact HW.out)); have HK5 := Aside0.mk (KeepBut.trans (keep_alloc HK4.out _) (KeepBut.of_grown hgr g) (.inr ⟨_, rfl, Nat.le_refl _⟩)); clear hbk hgr))
          go_ret
          exact ⟨rfl, by repeat (first | exact HI5.out | apply IsS89.drewN | apply IsS89.drew | apply IsS89.alloc), by repeat (first | exact HB5.out | apply pw_below_drewN | apply below_drew1 | apply below_alloc), by repeat (first | exact HK5.out | apply keep_drewN | apply keep_drew | apply keep_alloc)⟩
        · rw [if_neg q2] at H
          have q2b : (q == 2) = false := beq_eq_false_iff_ne.mpr q2
          by_cases q3 : q = 3
          · rw [if_pos q3] at H
            subst q3
            clear q0 q1 q2
            by_cases z : 0 < s.size
            · rw [if_pos z] at H
              have zd : decide ((0 : Int) < (s.size : Int)) = true := decide_eq_true (by omega)
              have zn : decide (0 < s.size) = true := decide_eq_true z
              replace H := Option.bind_eq_some_iff.mp H
              obtain ⟨⟨x, i2, h2⟩, A20, H⟩ := H
              have A2 := Aside0.mk A20
              clear A20
              try dsimp only at H
              split at H
              · rename_i hx
                simp only [Option.some.injEq, Prod.mk.injEq] at H
                obtain ⟨rfl, rfl, rfl⟩ := H
                have p0 : (0 ≤ x) = True := eq_true hx.1
                have hws : wrap64 (x + 1) = x + 1 := by unfold wrap64; omega
                have hww : IntKind.i64.wrap (x + 1) = x + 1 := (i64_w _).trans hws
                have htake : ∀ W : World, (Instr.slice 27 (.slice (some ⟨w.heap.size, 0, none⟩) s.size (grownCap w s.size 0 5)) none (some (.int .i64 x)) none).run Tryd.prog W = .ok (.slice (some ⟨w.heap.size, 0, none⟩) x.toNat (grownCap w s.size 0 5)) W := fun W => spec_l1Bent.cut hx.1 (by omega) (grownCap_ge w s.size 0 5) W
                obtain ⟨i0, hi0, _, hsz0, _⟩ := info_parts (show (Tryd.prog.info? 5).map (fun i => (i.zero, i.size, i.bytes)) = some (some (.int .u8 0), 1, 1) by kernel_rfl)
                obtain ⟨A', hdrop, hd2, _⟩ := print_cut_int (P := Tryd.prog) (k := .u8) 27 5 Tryd.underlying27 hi0 hsz0 (some ⟨w.heap.size, 0, none⟩) (grownCap w s.size 0 5) (bytesOf s) (x + 1) (by omega) (by rw [bytesOf_length]; omega) (by rw [bytesOf_length]; exact grownCap_ge w s.size 0 5)
                rw [bytesOf_length] at hdrop hd2
                obtain ⟨ys, hys⟩ : ∃ ys : List Int, ys = (bytesOf s).drop (x + 1).toNat := ⟨_, rfl⟩
                rw [← hys] at hdrop hd2
                generalize grownCap w s.size 0 5 - (x + 1).toNat = c2 at hdrop
                have HYL := Aside0.mk (show ys.length ≤ s.size by rw [hys, List.length_drop, bytesOf_length]; omega)
                have HYS := Aside0.mk hys
                clear hys
                have HD := Aside0.mk hd2
                have HX := Aside0.mk hx
                clear hx hd2 z hi0 hsz0
                go_enter Tryd.func53, Tryd.ntmps53
                go_wp2_with (first | (go_at_call 48; (with_reducible refine (spec_l1Below.calls g b i h 7 3 i1 h1  w0 _ HI1.out HB1.out A1.out).mono ?_); rintro e w1 ⟨rfl, hi, hb, hk⟩; have HM2 := Aside0.mk (HM1.out.keep hk HNE.out); have HI2 := Aside0.mk hi; have HB2 := Aside0.mk hb; have HK2 := Aside0.mk (HK1.out.trans hk (.inl rfl)); clear hi hb hk) | (go_at_call 48; (with_reducible refine (spec_l1Below.calls g b i1 h1 (s.size : Int) x i2 h2  w0 _ HI2.out HB2.out A2.out).mono ?_); rintro e w2 ⟨rfl, hi, hb, hk⟩; have HM3 := Aside0.mk (HM2.out.keep hk HNE.out); have HI3 := Aside0.mk hi; have HB3 := Aside0.mk hb; have HK3 := Aside0.mk (HK2.out.trans hk (.inl rfl)); clear hi hb hk))
                replace HI3 := Aside0.mk (IsS89.drew HI3.out)
                replace HB3 := Aside0.mk (below_drew HB3.out)
                replace HK3 := Aside0.mk (keep_drew HK3.out)
                replace HM3 : Aside0 (MRowC w2.drew w.heap.size 5 (bytesOf s) (grownCap w s.size 0 5)) := ⟨HM3.out⟩
                refine start_ (n := 11) (S := fun w' => True) (ds := []) #[false, false, false, false, false, false, false, false, false, false, false] (by kernel_rfl) rfl rfl trivial (fun hHeld => ?_)
                generalize w2.drew = w3 at HI3 HB3 HK3 HM3 ⊢
                refine pure_ (i := 1) (N := some 53) (v := ?_) (a' := ?_) #[false, true, false, false, false, false, false, false, false, false, false] rfl rfl (by kernel_rfl) (fun _ _ _ h => h) (Or.inl ⟨by rfl, ?_⟩) ?_ ?_
                rotate_left
                · intro w'
                  go_simp
                  with_reducible rfl
                rotate_left
                · simp only [Act.put, List.setIfInBounds_toArray, List.set_cons_zero, List.set_cons_succ, i64_w, i32_w]
                  rfl
                refine pure_ (i := 2) (N := some 54) (v := ?_) (a' := ?_) #[false, true, true, false, false, false, false, false, false, false, false] rfl rfl (by kernel_rfl) (fun _ _ _ h => h) (Or.inl ⟨by rfl, ?_⟩) ?_ ?_
                rotate_left
                · intro w'
                  go_simp
                  with_reducible rfl
                rotate_left
                · simp only [Act.put, List.setIfInBounds_toArray, List.set_cons_zero, List.set_cons_succ, i64_w, i32_w]
                  rfl
                refine pure_ (i := 3) (N := some 55) (v := ?_) (a' := ?_) #[false, true, true, true, false, false, false, false, false, false, false] rfl rfl (by kernel_rfl) (fun _ _ _ h => h) (Or.inl ⟨by rfl, ?_⟩) ?_ ?_
                rotate_left
                · intro w'
                  go_simp
                  with_reducible rfl
                rotate_left
                · simp only [Act.put, List.setIfInBounds_toArray, List.set_cons_zero, List.set_cons_succ, i64_w, i32_w]
                  rfl
                refine pure_ (i := 5) (N := some 57) (v := ?_) (a' := ?_) #[false, true, true, true, false, true, false, false, false, false, false] rfl rfl (by kernel_rfl) (fun _ _ _ h => h) (Or.inl ⟨by rfl, ?_⟩) ?_ ?_
                rotate_left
                · intro w'
                  go_simp
                  with_reducible rfl
                rotate_left
                · simp only [Act.put, List.setIfInBounds_toArray, List.set_cons_zero, List.set_cons_succ, i64_w, i32_w]
                  rfl
                refine pure_ (i := 6) (N := some 58) (v := ?_) (a' := ?_) #[false, true, true, true, false, true, true, false, false, false, false] rfl rfl (by kernel_rfl) (fun _ _ _ h => h) (Or.inl ⟨by rfl, ?_⟩) ?_ ?_
                rotate_left
                · intro w'
                  go_simp
                  with_reducible rfl
                rotate_left
                · simp only [Act.put, List.setIfInBounds_toArray, List.set_cons_zero, List.set_cons_succ, i64_w, i32_w]
                  rfl
                refine pure_ (i := 7) (N := some 59) (v := ?_) (a' := ?_) #[false, true, true, true, false, true, true, true, false, false, false] rfl rfl (by kernel_rfl) (fun _ _ _ h => h) (Or.inl ⟨by rfl, ?_⟩) ?_ ?_
                rotate_left
                · intro w'
                  go_simp
                  with_reducible rfl
                rotate_left
                · simp only [Act.put, List.setIfInBounds_toArray, List.set_cons_zero, List.set_cons_succ, i64_w, i32_w]
                  rfl
                refine pure_ (i := 8) (N := some 60) (v := ?_) (a' := ?_) #[false, true, true, true, false, true, true, true, true, false, false] rfl rfl (by kernel_rfl) (fun _ _ _ h => h) (Or.inl ⟨by rfl, ?_⟩) ?_ ?_
                rotate_left
                · intro w'
                  go_simp
                  with_reducible rfl
                rotate_left
                · simp only [Act.put, List.setIfInBounds_toArray, List.set_cons_zero, List.set_cons_succ, i64_w, i32_w]
                  rfl
                refine one_ (i := 0) (N := some 52) #[true, true, true, true, false, true, true, true, true, false, false] rfl rfl (by kernel_rfl) (by decide) (fun K hK => ?_)
                refine Kd.R_lit_step (Kd.int .u8) w3.heap.size 5 (by rfl) (N := 52) rfl (xs := ([] : List Int)) (inner := []) (ok := fun _ => True) (okp := fun _ => True) ?hr (Reps.none _ _) (fun _ hk => hk) trivial (Below.refl w3.heap.size w3) (Nat.le_refl _) (by simp) ?_
                case hr => first | (go_simp; done) | (go_simp; rfl)
                intro v1 w4 ho1 hb1 hg1_ hn1_
                clear hg1_ hn1_
                have HO1 := Aside0.mk ho1
                have HC1 := Aside0.mk hb1
                clear ho1 hb1
                refine hK.out _ _ trivial (fun hHeld => ?_)
                clear hK K
                refine norm_ (a' := ?_) ?_ ?_
                rotate_left
                · show Act.put _ (some 52) _ = _
                  simp only [Act.put, List.setIfInBounds_toArray, List.set_cons_zero, List.set_cons_succ, i64_w, i32_w]
                  rfl
                refine one_ (i := 4) (N := some 56) #[true, true, true, true, true, true, true, true, true, false, false] rfl rfl (by kernel_rfl) (by decide) (fun K hK => ?_)
                refine Kd.R_append_rows_step (Kd.int .u8) w3.heap.size (by rfl) (.tmp 52) (.tmp 55) 27 5 (.int .u8 0) 1 (by rfl) Tryd.underlying27 (by kernel_rfl) rfl (by decide) (by decide) v1 [] ((bytesOf s).take x.toNat) (some ⟨w.heap.size, 0, none⟩) x.toNat (grownCap w s.size 0 5) (fun _ => True) (fun _ => False) rfl rfl HO1.out (Kd.C_of_reads (d := (0 : Int)) (ReadsInt.take_ (spec_l1Bent.reads (HM3.out.below HC1.out).row (bytesOf_length s) (by omega)) x.toNat (by have := HX.out; omega))) (fun _ _ h => h) (fun _ h => h.elim) (fun _ _ => trivial) HC1.out HC1.out.size (by simp only [List.length_append, List.length_nil, List.length_take, List.length_drop, bytesOf_length]; have := HYL.out; have hx9 := HX.out; omega) ?_
                intro v2 w5 ho2 hb2 hg2_ hn2_
                clear hg2_ hn2_
                have HO2 := Aside0.mk ho2
                have HC2 := Aside0.mk hb2
                clear ho2 hb2
                refine hK.out _ _ trivial (fun hHeld => ?_)
                clear hK K
                refine norm_ (a' := ?_) ?_ ?_
                rotate_left
                · show Act.put _ (some 56) _ = _
                  simp only [Act.put, List.setIfInBounds_toArray, List.set_cons_zero, List.set_cons_succ, i64_w, i32_w]
                  rfl
                refine one_ (i := 9) (N := some 61) #[true, true, true, true, true, true, true, true, true, true, false] rfl rfl (by kernel_rfl) (by decide) (fun K hK => ?_)
                refine Kd.R_append_rows_step (Kd.int .u8) w3.heap.size (by rfl) (.tmp 56) (.tmp 60) 27 5 (.int .u8 0) 1 (by rfl) Tryd.underlying27 (by kernel_rfl) rfl (by decide) (by decide) v2 ([] ++ (bytesOf s).take x.toNat) ys A' ys.length c2 (fun _ => True) (fun _ => False) rfl rfl HO2.out (Kd.C_of_reads (d := (0 : Int)) (HD.out _ (spec_l1Bent.reads (HM3.out.below HC2.out).row (bytesOf_length s) (by omega)))) (fun _ _ h => h) (fun _ h => h.elim) (fun _ _ => trivial) HC2.out HC2.out.size (by simp only [List.length_append, List.length_nil, List.length_take, List.length_drop, bytesOf_length]; have := HYL.out; have hx9 := HX.out; omega) ?_
                intro v3 w6 ho3 hb3 hg3_ hn3_
                clear hg3_ hn3_
                have HO3 := Aside0.mk ho3
                have HC3 := Aside0.mk hb3
                clear ho3 hb3
                refine hK.out _ _ trivial (fun hHeld => ?_)
                clear hK K
                refine norm_ (a' := ?_) ?_ ?_
                rotate_left
                · show Act.put _ (some 61) _ = _
                  simp only [Act.put, List.setIfInBounds_toArray, List.set_cons_zero, List.set_cons_succ, i64_w, i32_w]
                  rfl
                refine pure_ (i := 10) (N := some 5) (v := ?_) (a' := ?_) #[true, true, true, true, true, true, true, true, true, true, true] rfl rfl (by kernel_rfl) (fun _ _ _ h => h) (Or.inl ⟨by rfl, ?_⟩) ?_ ?_
                rotate_left
                · intro w'
                  go_simp
                  with_reducible rfl
                rotate_left
                · simp only [Act.put, List.setIfInBounds_toArray, List.set_cons_zero, List.set_cons_succ, i64_w, i32_w]
                  rfl
                refine done_ (by kernel_rfl) ?_
                have e9 : [] ++ (bytesOf s).take x.toNat ++ ys = (bytesOf s).take x.toNat ++ (bytesOf s).drop (x.toNat + 1) := by rw [List.nil_append, HYS.out, show (x + 1).toNat = x.toNat + 1 by have := HX.out; omega]
                replace HO3 := Aside0.mk (show (Kd.int .u8).R 5 w6 w3.heap.size (fun _ => True) v3 ((bytesOf s).take x.toNat ++ (bytesOf s).drop (x.toNat + 1)) by rw [← e9]; exact HO3.out)
                have hback := fun (nq : Nat) => own_string (P := Tryd.prog) (src := 27) (dst := 9) Tryd.underlying27 Tryd.underlying5 Tryd.underlying9 (Kd.own_of_R (Kd.R_below HO3.out (pw_below_drewN (Below.refl _ _) nq)))
                have hback0 := hback 0
                simp only [World.drewN_zero] at hback0
                have HI4 := Aside0.mk (HI3.out.below HC3.out)
                have HB4 := Aside0.mk (below_step HB3.out HC3.out)
                have HK4 := Aside0.mk (KeepBut.trans HK3.out (KeepBut.of_below HC3.out g none) (.inl rfl))
                go_wp2
                go_ret
                exact ⟨rfl, by repeat (first | exact HI4.out | apply IsS89.drewN | apply IsS89.drew | apply IsS89.alloc), by repeat (first | exact HB4.out | apply pw_below_drewN | apply below_drew1 | apply below_alloc), by repeat (first | exact HK4.out | apply keep_drewN | apply keep_drew | apply keep_alloc)⟩
              · exact absurd H (by simp)
            · rw [if_neg z] at H
              have zd : decide ((0 : Int) < (s.size : Int)) = false := decide_eq_false (by omega)
              have zn : decide (0 < s.size) = false := decide_eq_false z
              clear z
              simp only [Option.some.injEq, Prod.mk.injEq] at H
              obtain ⟨rfl, rfl, rfl⟩ := H
              go_enter Tryd.func53, Tryd.ntmps53
              go_wp2_with (first | (go_at_call 48; (with_reducible refine (spec_l1Below.calls g b i h 7 3 i1 h1  w0 _ HI1.out HB1.out A1.out).mono ?_); rintro e w1 ⟨rfl, hi, hb, hk⟩; have HM2 := Aside0.mk (HM1.out.keep hk HNE.out); have HI2 := Aside0.mk hi; have HB2 := Aside0.mk hb; have HK2 := Aside0.mk (HK1.out.trans hk (.inl rfl)); clear hi hb hk; have hback := fun (nq : Nat) => MRow.back (cap := grownCap w s.size 0 5) (n := s.size) (P := Tryd.prog) (src := 27) (dst := 9) Tryd.underlying27 Tryd.underlying5 Tryd.underlying9 HM2.out.row (bytesOf_length s) nq; rw [spec_l1Bent.str] at hback; have hback0 := hback 0; simp only [World.drewN_zero] at hback0))
              go_ret
              exact ⟨rfl, by repeat (first | exact HI2.out | apply IsS89.drewN | apply IsS89.drew | apply IsS89.alloc), by repeat (first | exact HB2.out | apply pw_below_drewN | apply below_drew1 | apply below_alloc), by repeat (first | exact HK2.out | apply keep_drewN | apply keep_drew | apply keep_alloc)⟩
          · rw [if_neg q3] at H
            have q3b : (q == 3) = false := beq_eq_false_iff_ne.mpr q3
            clear q0 q1 q2 q3
            simp only [Option.some.injEq, Prod.mk.injEq] at H
            obtain ⟨rfl, rfl, rfl⟩ := H
            go_enter Tryd.func53, Tryd.ntmps53
            go_wp2_with (first | (go_at_call 48; (with_reducible refine (spec_l1Below.calls g b i h 7 q i1 h1  w0 _ HI1.out HB1.out A1.out).mono ?_); rintro e w1 ⟨rfl, hi, hb, hk⟩; have HM2 := Aside0.mk (HM1.out.keep hk HNE.out); have HI2 := Aside0.mk hi; have HB2 := Aside0.mk hb; have HK2 := Aside0.mk (HK1.out.trans hk (.inl rfl)); clear hi hb hk; have hback := fun (nq : Nat) => MRow.back (cap := grownCap w s.size 0 5) (n := s.size) (P := Tryd.prog) (src := 27) (dst := 9) Tryd.underlying27 Tryd.underlying5 Tryd.underlying9 HM2.out.row (bytesOf_length s) nq; rw [spec_l1Bent.str] at hback; have hback0 := hback 0; simp only [World.drewN_zero] at hback0))
            go_ret
            exact ⟨rfl, by repeat (first | exact HI2.out | apply IsS89.drewN | apply IsS89.drew | apply IsS89.alloc), by repeat (first | exact HB2.out | apply pw_below_drewN | apply below_drew1 | apply below_alloc), by repeat (first | exact HK2.out | apply keep_drewN | apply keep_drew | apply keep_alloc)⟩
  · rw [if_neg hs] at H
    exact absurd H (by simp)

/-! ### spec_DrawParseDate: function 17 -/
def spec_DrawParseDate.f (k : Nat) (l0 : List Int) : Option (ByteArray) := (spec_l1New.f k l0).bind fun bt287 => ((spec_l3Time.f bt287.1 bt287.2.1 bt287.2.2).bind fun bt291 => ((spec_l1In.f bt291.1 0 4102444799).bind fun t294 => (if t294 = true then ((spec_l3Forms.f k bt291.1).bind fun t295 => ((spec_l1Below.f bt287.1 bt291.2.1 bt291.2.2 3).bind fun bt298 => (if 0 ≤ bt298.1 then (if bt298.1 < (t295.length : Int) then ((spec_l1Bent.f bt287.1 bt298.2.1 bt298.2.2 (rdOf ByteArray.empty t295 bt298.1)).bind fun bt302 => (some bt302.1)) else (none)) else (none)))) else ((spec_l1Str.f bt287.1 bt291.2.1 bt291.2.2 (([(⟨#[]⟩ : ByteArray), (⟨#[83, 117, 110, 44, 32, 48, 54, 32, 78, 111, 118, 32, 49, 57, 57, 52, 32, 48, 56, 58, 52, 57, 58, 51, 55, 32, 71, 77, 84]⟩ : ByteArray), (⟨#[77, 111, 110, 44, 32, 48, 54, 32, 78, 111, 118, 32, 49, 57, 57, 52, 32, 48, 56, 58, 52, 57, 58, 51, 55, 32, 71, 77, 84]⟩ : ByteArray), (⟨#[83, 117, 110, 44, 32, 48, 54, 32, 78, 111, 118, 32, 49, 57, 57, 52, 32, 48, 56, 58, 52, 57, 58, 54, 48, 32, 71, 77, 84]⟩ : ByteArray), (⟨#[83, 117, 110, 44, 32, 51, 49, 32, 70, 101, 98, 32, 49, 57, 57, 52, 32, 48, 56, 58, 52, 57, 58, 51, 55, 32, 71, 77, 84]⟩ : ByteArray), (⟨#[84, 104, 117, 44, 32, 48, 49, 32, 74, 97, 110, 32, 49, 57, 55, 48, 32, 48, 48, 58, 48, 48, 58, 48, 48, 32, 71, 77, 84]⟩ : ByteArray), (⟨#[83, 117, 110, 100, 97, 121, 44, 32, 48, 54, 45, 78, 111, 118, 45, 57, 52, 32, 48, 56, 58, 52, 57, 58, 51, 55, 32, 71, 77, 84]⟩ : ByteArray), (⟨#[83, 117, 110, 32, 78, 111, 118, 32, 32, 54, 32, 48, 56, 58, 52, 57, 58, 51, 55, 32, 49, 57, 57, 52]⟩ : ByteArray), (⟨#[83, 117, 110, 32, 78, 111, 118, 32, 48, 54, 32, 48, 56, 58, 52, 57, 58, 51, 55, 32, 49, 57, 57, 52]⟩ : ByteArray), (⟨#[87, 101, 100, 110, 101, 115, 100, 97, 121, 44, 32, 48, 54, 45, 78, 111, 118, 45, 50, 52, 32, 48, 56, 58, 52, 57, 58, 51, 55, 32, 71, 77, 84]⟩ : ByteArray)] : List ByteArray))).bind fun bt308 => (some bt308.1)))))
theorem spec_DrawParseDate.mono : ∀ a0 k, LeO (spec_DrawParseDate.f k a0) (spec_DrawParseDate.f (k + 1) a0) := by
  intro a0 k
  unfold spec_DrawParseDate.f
  repeat' first
      | (with_reducible exact spec_l1New.mono _ _)
      | (with_reducible exact spec_l3Forms.mono _ _)
      | (with_reducible exact LeO.refl _)
      | (with_reducible exact LeO.none _)
      | (with_reducible refine LeO.ite ?_ ?_)
      | (with_reducible refine LeO.bind ?_ (fun _ => ?_))
      | exact spec_l1New.mono _ _
      | exact spec_l3Forms.mono _ _
      | exact LeO.none _
      | refine LeO.ite ?_ ?_
      | refine LeO.bind ?_ (fun _ => ?_)
set_option maxHeartbeats 8000000 in
set_option maxRecDepth 100000 in
theorem spec_DrawParseDate.calls (k : Nat) (A0 : Option Addr) (c0 : Nat) (l0 : List Int) (r : ByteArray) (w : World) (hr0 : Kd.C (Kd.int .u8) w A0 l0.length l0) (hc0 : l0.length ≤ c0) (h : spec_DrawParseDate.f k l0 = some r) :
    Calls Tryd.prog 17 #[.slice A0 l0.length c0] w fun e w' => e = .returned (.string r) ∧ Below w.heap.size w w' := by
  have HR0 := Aside0.mk hr0
  have HC0 := Aside0.mk hc0
  clear hr0 hc0
  have HB := Aside0.mk (Below.refl w.heap.size w)
  have H : ((spec_l1New.f k l0).bind fun bt287 => ((spec_l3Time.f bt287.1 bt287.2.1 bt287.2.2).bind fun bt291 => ((spec_l1In.f bt291.1 0 4102444799).bind fun t294 => (if t294 = true then ((spec_l3Forms.f k bt291.1).bind fun t295 => ((spec_l1Below.f bt287.1 bt291.2.1 bt291.2.2 3).bind fun bt298 => (if 0 ≤ bt298.1 then (if bt298.1 < (t295.length : Int) then ((spec_l1Bent.f bt287.1 bt298.2.1 bt298.2.2 (rdOf ByteArray.empty t295 bt298.1)).bind fun bt302 => (some bt302.1)) else (none)) else (none)))) else ((spec_l1Str.f bt287.1 bt291.2.1 bt291.2.2 (([(⟨#[]⟩ : ByteArray), (⟨#[83, 117, 110, 44, 32, 48, 54, 32, 78, 111, 118, 32, 49, 57, 57, 52, 32, 48, 56, 58, 52, 57, 58, 51, 55, 32, 71, 77, 84]⟩ : ByteArray), (⟨#[77, 111, 110, 44, 32, 48, 54, 32, 78, 111, 118, 32, 49, 57, 57, 52, 32, 48, 56, 58, 52, 57, 58, 51, 55, 32, 71, 77, 84]⟩ : ByteArray), (⟨#[83, 117, 110, 44, 32, 48, 54, 32, 78, 111, 118, 32, 49, 57, 57, 52, 32, 48, 56, 58, 52, 57, 58, 54, 48, 32, 71, 77, 84]⟩ : ByteArray), (⟨#[83, 117, 110, 44, 32, 51, 49, 32, 70, 101, 98, 32, 49, 57, 57, 52, 32, 48, 56, 58, 52, 57, 58, 51, 55, 32, 71, 77, 84]⟩ : ByteArray), (⟨#[84, 104, 117, 44, 32, 48, 49, 32, 74, 97, 110, 32, 49, 57, 55, 48, 32, 48, 48, 58, 48, 48, 58, 48, 48, 32, 71, 77, 84]⟩ : ByteArray), (⟨#[83, 117, 110, 100, 97, 121, 44, 32, 48, 54, 45, 78, 111, 118, 45, 57, 52, 32, 48, 56, 58, 52, 57, 58, 51, 55, 32, 71, 77, 84]⟩ : ByteArray), (⟨#[83, 117, 110, 32, 78, 111, 118, 32, 32, 54, 32, 48, 56, 58, 52, 57, 58, 51, 55, 32, 49, 57, 57, 52]⟩ : ByteArray), (⟨#[83, 117, 110, 32, 78, 111, 118, 32, 48, 54, 32, 48, 56, 58, 52, 57, 58, 51, 55, 32, 49, 57, 57, 52]⟩ : ByteArray), (⟨#[87, 101, 100, 110, 101, 115, 100, 97, 121, 44, 32, 48, 54, 45, 78, 111, 118, 45, 50, 52, 32, 48, 56, 58, 52, 57, 58, 51, 55, 32, 71, 77, 84]⟩ : ByteArray)] : List ByteArray))).bind fun bt308 => (some bt308.1)))))) = some r := h
  clear h
  replace H := Option.bind_eq_some_iff.mp H
  obtain ⟨⟨t287, t288, t289⟩, A20, H⟩ := H
  replace H : ((spec_l3Time.f t287 t288 t289).bind fun bt291 => ((spec_l1In.f bt291.1 0 4102444799).bind fun t294 => (if t294 = true then ((spec_l3Forms.f k bt291.1).bind fun t295 => ((spec_l1Below.f t287 bt291.2.1 bt291.2.2 3).bind fun bt298 => (if 0 ≤ bt298.1 then (if bt298.1 < (t295.length : Int) then ((spec_l1Bent.f t287 bt298.2.1 bt298.2.2 (rdOf ByteArray.empty t295 bt298.1)).bind fun bt302 => (some bt302.1)) else (none)) else (none)))) else ((spec_l1Str.f t287 bt291.2.1 bt291.2.2 (([(⟨#[]⟩ : ByteArray), (⟨#[83, 117, 110, 44, 32, 48, 54, 32, 78, 111, 118, 32, 49, 57, 57, 52, 32, 48, 56, 58, 52, 57, 58, 51, 55, 32, 71, 77, 84]⟩ : ByteArray), (⟨#[77, 111, 110, 44, 32, 48, 54, 32, 78, 111, 118, 32, 49, 57, 57, 52, 32, 48, 56, 58, 52, 57, 58, 51, 55, 32, 71, 77, 84]⟩ : ByteArray), (⟨#[83, 117, 110, 44, 32, 48, 54, 32, 78, 111, 118, 32, 49, 57, 57, 52, 32, 48, 56, 58, 52, 57, 58, 54, 48, 32, 71, 77, 84]⟩ : ByteArray), (⟨#[83, 117, 110, 44, 32, 51, 49, 32, 70, 101, 98, 32, 49, 57, 57, 52, 32, 48, 56, 58, 52, 57, 58, 51, 55, 32, 71, 77, 84]⟩ : ByteArray), (⟨#[84, 104, 117, 44, 32, 48, 49, 32, 74, 97, 110, 32, 49, 57, 55, 48, 32, 48, 48, 58, 48, 48, 58, 48, 48, 32, 71, 77, 84]⟩ : ByteArray), (⟨#[83, 117, 110, 100, 97, 121, 44, 32, 48, 54, 45, 78, 111, 118, 45, 57, 52, 32, 48, 56, 58, 52, 57, 58, 51, 55, 32, 71, 77, 84]⟩ : ByteArray), (⟨#[83, 117, 110, 32, 78, 111, 118, 32, 32, 54, 32, 48, 56, 58, 52, 57, 58, 51, 55, 32, 49, 57, 57, 52]⟩ : ByteArray), (⟨#[83, 117, 110, 32, 78, 111, 118, 32, 48, 54, 32, 48, 56, 58, 52, 57, 58, 51, 55, 32, 49, 57, 57, 52]⟩ : ByteArray), (⟨#[87, 101, 100, 110, 101, 115, 100, 97, 121, 44, 32, 48, 54, 45, 78, 111, 118, 45, 50, 52, 32, 48, 56, 58, 52, 57, 58, 51, 55, 32, 71, 77, 84]⟩ : ByteArray)] : List ByteArray))).bind fun bt308 => (some bt308.1))))) = some r := H
  have A2 := Aside0.mk A20
  clear A20
  replace H := Option.bind_eq_some_iff.mp H
  obtain ⟨⟨t291, t292, t293⟩, A30, H⟩ := H
  replace H : ((spec_l1In.f t291 0 4102444799).bind fun t294 => (if t294 = true then ((spec_l3Forms.f k t291).bind fun t295 => ((spec_l1Below.f t287 t292 t293 3).bind fun bt298 => (if 0 ≤ bt298.1 then (if bt298.1 < (t295.length : Int) then ((spec_l1Bent.f t287 bt298.2.1 bt298.2.2 (rdOf ByteArray.empty t295 bt298.1)).bind fun bt302 => (some bt302.1)) else (none)) else (none)))) else ((spec_l1Str.f t287 t292 t293 (([(⟨#[]⟩ : ByteArray), (⟨#[83, 117, 110, 44, 32, 48, 54, 32, 78, 111, 118, 32, 49, 57, 57, 52, 32, 48, 56, 58, 52, 57, 58, 51, 55, 32, 71, 77, 84]⟩ : ByteArray), (⟨#[77, 111, 110, 44, 32, 48, 54, 32, 78, 111, 118, 32, 49, 57, 57, 52, 32, 48, 56, 58, 52, 57, 58, 51, 55, 32, 71, 77, 84]⟩ : ByteArray), (⟨#[83, 117, 110, 44, 32, 48, 54, 32, 78, 111, 118, 32, 49, 57, 57, 52, 32, 48, 56, 58, 52, 57, 58, 54, 48, 32, 71, 77, 84]⟩ : ByteArray), (⟨#[83, 117, 110, 44, 32, 51, 49, 32, 70, 101, 98, 32, 49, 57, 57, 52, 32, 48, 56, 58, 52, 57, 58, 51, 55, 32, 71, 77, 84]⟩ : ByteArray), (⟨#[84, 104, 117, 44, 32, 48, 49, 32, 74, 97, 110, 32, 49, 57, 55, 48, 32, 48, 48, 58, 48, 48, 58, 48, 48, 32, 71, 77, 84]⟩ : ByteArray), (⟨#[83, 117, 110, 100, 97, 121, 44, 32, 48, 54, 45, 78, 111, 118, 45, 57, 52, 32, 48, 56, 58, 52, 57, 58, 51, 55, 32, 71, 77, 84]⟩ : ByteArray), (⟨#[83, 117, 110, 32, 78, 111, 118, 32, 32, 54, 32, 48, 56, 58, 52, 57, 58, 51, 55, 32, 49, 57, 57, 52]⟩ : ByteArray), (⟨#[83, 117, 110, 32, 78, 111, 118, 32, 48, 54, 32, 48, 56, 58, 52, 57, 58, 51, 55, 32, 49, 57, 57, 52]⟩ : ByteArray), (⟨#[87, 101, 100, 110, 101, 115, 100, 97, 121, 44, 32, 48, 54, 45, 78, 111, 118, 45, 50, 52, 32, 48, 56, 58, 52, 57, 58, 51, 55, 32, 71, 77, 84]⟩ : ByteArray)] : List ByteArray))).bind fun bt308 => (some bt308.1)))) = some r := H
  have A3 := Aside0.mk A30
  clear A30
  replace H := Option.bind_eq_some_iff.mp H
  obtain ⟨t294, A40, H⟩ := H
  replace H : (if t294 = true then ((spec_l3Forms.f k t291).bind fun t295 => ((spec_l1Below.f t287 t292 t293 3).bind fun bt298 => (if 0 ≤ bt298.1 then (if bt298.1 < (t295.length : Int) then ((spec_l1Bent.f t287 bt298.2.1 bt298.2.2 (rdOf ByteArray.empty t295 bt298.1)).bind fun bt302 => (some bt302.1)) else (none)) else (none)))) else ((spec_l1Str.f t287 t292 t293 (([(⟨#[]⟩ : ByteArray), (⟨#[83, 117, 110, 44, 32, 48, 54, 32, 78, 111, 118, 32, 49, 57, 57, 52, 32, 48, 56, 58, 52, 57, 58, 51, 55, 32, 71, 77, 84]⟩ : ByteArray), (⟨#[77, 111, 110, 44, 32, 48, 54, 32, 78, 111, 118, 32, 49, 57, 57, 52, 32, 48, 56, 58, 52, 57, 58, 51, 55, 32, 71, 77, 84]⟩ : ByteArray), (⟨#[83, 117, 110, 44, 32, 48, 54, 32, 78, 111, 118, 32, 49, 57, 57, 52, 32, 48, 56, 58, 52, 57, 58, 54, 48, 32, 71, 77, 84]⟩ : ByteArray), (⟨#[83, 117, 110, 44, 32, 51, 49, 32, 70, 101, 98, 32, 49, 57, 57, 52, 32, 48, 56, 58, 52, 57, 58, 51, 55, 32, 71, 77, 84]⟩ : ByteArray), (⟨#[84, 104, 117, 44, 32, 48, 49, 32, 74, 97, 110, 32, 49, 57, 55, 48, 32, 48, 48, 58, 48, 48, 58, 48, 48, 32, 71, 77, 84]⟩ : ByteArray), (⟨#[83, 117, 110, 100, 97, 121, 44, 32, 48, 54, 45, 78, 111, 118, 45, 57, 52, 32, 48, 56, 58, 52, 57, 58, 51, 55, 32, 71, 77, 84]⟩ : ByteArray), (⟨#[83, 117, 110, 32, 78, 111, 118, 32, 32, 54, 32, 48, 56, 58, 52, 57, 58, 51, 55, 32, 49, 57, 57, 52]⟩ : ByteArray), (⟨#[83, 117, 110, 32, 78, 111, 118, 32, 48, 54, 32, 48, 56, 58, 52, 57, 58, 51, 55, 32, 49, 57, 57, 52]⟩ : ByteArray), (⟨#[87, 101, 100, 110, 101, 115, 100, 97, 121, 44, 32, 48, 54, 45, 78, 111, 118, 45, 50, 52, 32, 48, 56, 58, 52, 57, 58, 51, 55, 32, 71, 77, 84]⟩ : ByteArray)] : List ByteArray))).bind fun bt308 => (some bt308.1))) = some r := H
  have A4 := Aside0.mk A40
  clear A40
  by_cases c5 : t294 = true
  · subst c5
    have H1 : ((spec_l3Forms.f k t291).bind fun t295 => ((spec_l1Below.f t287 t292 t293 3).bind fun bt298 => (if 0 ≤ bt298.1 then (if bt298.1 < (t295.length : Int) then ((spec_l1Bent.f t287 bt298.2.1 bt298.2.2 (rdOf ByteArray.empty t295 bt298.1)).bind fun bt302 => (some bt302.1)) else (none)) else (none)))) = some r := by rw [if_pos rfl] at H; exact H
    clear H
    have H := H1
    clear H1
    replace H := Option.bind_eq_some_iff.mp H
    obtain ⟨t295, A60, H⟩ := H
    replace H : ((spec_l1Below.f t287 t292 t293 3).bind fun bt298 => (if 0 ≤ bt298.1 then (if bt298.1 < (t295.length : Int) then ((spec_l1Bent.f t287 bt298.2.1 bt298.2.2 (rdOf ByteArray.empty t295 bt298.1)).bind fun bt302 => (some bt302.1)) else (none)) else (none))) = some r := H
    have A6 := Aside0.mk A60
    clear A60
    replace H := Option.bind_eq_some_iff.mp H
    obtain ⟨⟨t298, t299, t300⟩, A70, H⟩ := H
    replace H : (if 0 ≤ t298 then (if t298 < (t295.length : Int) then ((spec_l1Bent.f t287 t299 t300 (rdOf ByteArray.empty t295 t298)).bind fun bt302 => (some bt302.1)) else (none)) else (none)) = some r := H
    have A7 := Aside0.mk A70
    clear A70
    by_cases c8 : 0 ≤ t298
    · rw [if_pos c8] at H
      have c8b0 : decide (0 ≤ t298) = true := decide_eq_true c8
      clear c8
      by_cases c9 : t298 < (t295.length : Int)
      · rw [if_pos c9] at H
        have c9b0 : decide (t298 < (t295.length : Int)) = true := decide_eq_true c9
        clear c9
        replace H := Option.bind_eq_some_iff.mp H
        obtain ⟨⟨t302, t303, t304⟩, A100, H⟩ := H
        replace H : (some t302) = some r := H
        have A10 := Aside0.mk A100
        clear A100
        obtain rfl := Option.some.inj H
        go_enter Tryd.func17, Tryd.ntmps17
        go_wp2_with (first | ((with_reducible refine gate_callee (f := 45) rfl ?_); refine goesL_ (some 6) rfl rfl Tryd.func45 (by kernel_rfl) rfl #[.slice A0 l0.length c0] rfl (by (try simp only [List.map_toArray, List.map_cons, List.map_nil]); first | done | rfl | (simp only [List.length_drop, List.length_take]; rfl) | (simp; repeat' first | rfl | constructor)) ?_; (with_reducible refine (spec_l1New.calls k _ _ l0 t287 t288 t289 w _ ?side1 ?side2 ?side3 A2.out).mono ?_); (case side1 => repeat (first | (with_reducible first | exact HB.out | apply below_alloc | apply pw_below_drewN | apply below_drew1) | exact HB.out)); (case side2 => exact HR0.out); (case side3 => exact HC0.out); rintro e w11 ⟨g290, rfl, hi, hb, hb2⟩; refine ⟨_, rfl, ?_⟩; have n0_ := Aside0.mk (hb); have n1_ := Aside0.mk (hi); clear HB; have HB := n0_; have HI290 := n1_; clear n0_ n1_; (try clear hb); (try clear hb2); (try clear hk); (try clear hi)) | ((with_reducible refine gate_callee (f := 46) rfl ?_); refine goesL_ (some 8) rfl rfl Tryd.func46 (by kernel_rfl) rfl #[.pointer (some ⟨g290, 0, none⟩)] rfl (by (try simp only [List.map_toArray, List.map_cons, List.map_nil]); first | done | rfl | (simp only [List.length_drop, List.length_take]; rfl) | (simp; repeat' first | rfl | constructor)) ?_; (with_reducible refine (spec_l3Time.calls g290 t287 t288 t289 t291 t292 t293 w _ ?side1 ?side2 A3.out).mono ?_); (case side1 => repeat (first | (with_reducible first | exact HI290.out | apply IsS89.alloc | apply IsS89.drewN | apply IsS89.drew | apply IsS89.set_1 | apply IsS89.set_2) | exact HI290.out)); (case side2 => repeat (first | (with_reducible first | exact HB.out | apply below_alloc | apply pw_below_drewN | apply below_drew1 | refine below_set ?_ (IsS89.ge HI290.out)) | exact HB.out)); rintro e w12 ⟨rfl, hi, hb, hk⟩; refine ⟨_, rfl, ?_⟩; have n0_ := Aside0.mk (hb); have n1_ := Aside0.mk (hi); clear HB; clear HI290; have HB := n0_; have HI290 := n1_; clear n0_ n1_; (try clear hb); (try clear hb2); (try clear hk); (try clear hi)) | ((with_reducible refine gate_callee (f := 40) rfl ?_); refine goesL_ (some 10) rfl rfl Tryd.func40 (by kernel_rfl) rfl #[.int .i64 t291, .int .i64 0, .int .i64 4102444799] rfl (by (try simp only [List.map_toArray, List.map_cons, List.map_nil]); first | done | rfl | (simp only [List.length_drop, List.length_take]; rfl) | (simp; repeat' first | rfl | constructor)) ?_; (with_reducible refine (spec_l1In.calls t291 0 4102444799 true _ A4.out).mono ?_); rintro e w' ⟨rfl, ⟨nd, rfl⟩⟩; refine ⟨_, rfl, ?_⟩) | ((with_reducible refine gate_callee (f := 42) rfl ?_); refine goesL_ (some 17) rfl rfl Tryd.func42 (by kernel_rfl) rfl #[.int .i64 t291] rfl (by (try simp only [List.map_toArray, List.map_cons, List.map_nil]); first | done | rfl | (simp only [List.length_drop, List.length_take]; rfl) | (simp; repeat' first | rfl | constructor)) ?_; (with_reducible refine (spec_l3Forms.calls k t291 t295 _ A6.out).mono ?_); rintro e w13 ⟨v296, rfl, ho0, hb⟩; refine ⟨_, rfl, ?_⟩; have n0_ := Aside0.mk (Kd.R_lower ho0 (below_size (by repeat (first | (with_reducible first | exact HB.out | apply below_alloc | apply pw_below_drewN | apply below_drew1 | refine below_set ?_ (IsS89.ge HI290.out)) | exact HB.out)))); have n1_ := Aside0.mk (IsS89.below (by repeat (first | (with_reducible first | exact HI290.out | apply IsS89.alloc | apply IsS89.drewN | apply IsS89.drew | apply IsS89.set_1 | apply IsS89.set_2) | exact HI290.out)) hb); have n2_ := Aside0.mk (below_step (by repeat (first | (with_reducible first | exact HB.out | apply below_alloc | apply pw_below_drewN | apply below_drew1 | refine below_set ?_ (IsS89.ge HI290.out)) | exact HB.out)) hb); clear HI290; clear HB; have HO297 := n0_; have HI290 := n1_; have HB := n2_; clear n0_ n1_ n2_; (try clear hb); (try clear hb2); (try clear hk); (try clear hi); (try clear ho0)) | ((with_reducible refine gate_callee (f := 48) rfl ?_); refine goesL_ (some 19) rfl rfl Tryd.func48 (by kernel_rfl) rfl #[.pointer (some ⟨g290, 0, none⟩), .int .i64 3] rfl (by (try simp only [List.map_toArray, List.map_cons, List.map_nil]); first | done | rfl | (simp only [List.length_drop, List.length_take]; rfl) | (simp; repeat' first | rfl | constructor)) ?_; (with_reducible refine (spec_l1Below.calls g290 t287 t292 t293 3 t298 t299 t300 w _ ?side1 ?side2 A7.out).mono ?_); (case side1 => repeat (first | (with_reducible first | exact HI290.out | apply IsS89.alloc | apply IsS89.drewN | apply IsS89.drew | apply IsS89.set_1 | apply IsS89.set_2) | exact HI290.out)); (case side2 => repeat (first | (with_reducible first | exact HB.out | apply below_alloc | apply pw_below_drewN | apply below_drew1 | refine below_set ?_ (IsS89.ge HI290.out)) | exact HB.out)); rintro e w14 ⟨rfl, hi, hb, hk⟩; refine ⟨_, rfl, ?_⟩; have n0_ := Aside0.mk (Kd.R_mono (Kd.R_keep (IsS89.apart (show IsS89 w _ g290 t287 t292 t293 from by repeat (first | (with_reducible first | exact HI290.out | apply IsS89.alloc | apply IsS89.drewN | apply IsS89.drew | apply IsS89.set_1 | apply IsS89.set_2) | exact HI290.out)) (by (with_reducible repeat (first | apply Kd.R_alloc | apply Kd.R_drewN | apply Kd.R_drew)); exact HO297.out) (by decide)) hk (fun _ h => h.2)) (fun _ h => h.1)); have n1_ := Aside0.mk (hb); have n2_ := Aside0.mk (hi); clear HO297; clear HB; clear HI290; have HO297 := n0_; have HB := n1_; have HI290 := n2_; clear n0_ n1_ n2_; (try clear hb); (try clear hb2); (try clear hk); (try clear hi); obtain ⟨Ao15, co15, eo15⟩ := Kd.R_slice HO297.out; subst eo15; have p301 : 0 ≤ (t298 : Int) := of_decide_eq_true (by first | (with_reducible assumption) | assumption); have q301 : t298 < (t295.length : Int) := of_decide_eq_true (by first | (with_reducible assumption) | assumption); obtain ⟨ad301, e301, hx301_0⟩ := Kd.at_string (Kd.R_reads' HO297.out).2.2 t298 p301 q301; cases e301; replace p301 := eq_true p301; replace q301 := eq_true q301) | ((with_reducible refine gate_callee (f := 53) rfl ?_); refine goesL_ (some 22) rfl rfl Tryd.func53 (by kernel_rfl) rfl #[.pointer (some ⟨g290, 0, none⟩), .string (rdOf ByteArray.empty t295 t298)] rfl (by (try simp only [List.map_toArray, List.map_cons, List.map_nil]); first | done | rfl | (simp only [List.length_drop, List.length_take]; rfl) | (simp; repeat' first | rfl | constructor)) ?_; (with_reducible refine (spec_l1Bent.calls g290 t287 t299 t300 (rdOf ByteArray.empty t295 t298) t302 t303 t304 w _ ?side1 ?side2 A10.out).mono ?_); (case side1 => repeat (first | (with_reducible first | exact HI290.out | apply IsS89.alloc | apply IsS89.drewN | apply IsS89.drew | apply IsS89.set_1 | apply IsS89.set_2) | exact HI290.out)); (case side2 => repeat (first | (with_reducible first | exact HB.out | apply below_alloc | apply pw_below_drewN | apply below_drew1 | refine below_set ?_ (IsS89.ge HI290.out)) | exact HB.out)); rintro e w16 ⟨rfl, hi, hb, hk⟩; refine ⟨_, rfl, ?_⟩; have n0_ := Aside0.mk (Kd.R_mono (Kd.R_keep (IsS89.apart (show IsS89 w _ g290 t287 t299 t300 from by repeat (first | (with_reducible first | exact HI290.out | apply IsS89.alloc | apply IsS89.drewN | apply IsS89.drew | apply IsS89.set_1 | apply IsS89.set_2) | exact HI290.out)) (by (with_reducible repeat (first | apply Kd.R_alloc | apply Kd.R_drewN | apply Kd.R_drew)); exact HO297.out) (by decide)) hk (fun _ h => h.2)) (fun _ h => h.1)); have n1_ := Aside0.mk (hb); have n2_ := Aside0.mk (hi); clear HO297; clear HB; clear HI290; have HO297 := n0_; have HB := n1_; have HI290 := n2_; clear n0_ n1_ n2_; (try clear hb); (try clear hb2); (try clear hk); (try clear hi)))
        go_ret
        exact ⟨by first | rfl | (simp [errW_none, errW_some] <;> rfl) | (simp [*, errW_none, errW_some] <;> rfl), by repeat (first | (with_reducible first | exact HB.out | apply below_alloc | apply pw_below_drewN | apply below_drew1 | refine below_set ?_ (IsS89.ge HI290.out)) | exact HB.out)⟩
      · rw [if_neg c9] at H
        exact absurd H (by simp)
    · rw [if_neg c8] at H
      exact absurd H (by simp)
  · replace c5 := Bool.eq_false_iff.mpr c5
    subst c5
    have H1 : ((spec_l1Str.f t287 t292 t293 (([(⟨#[]⟩ : ByteArray), (⟨#[83, 117, 110, 44, 32, 48, 54, 32, 78, 111, 118, 32, 49, 57, 57, 52, 32, 48, 56, 58, 52, 57, 58, 51, 55, 32, 71, 77, 84]⟩ : ByteArray), (⟨#[77, 111, 110, 44, 32, 48, 54, 32, 78, 111, 118, 32, 49, 57, 57, 52, 32, 48, 56, 58, 52, 57, 58, 51, 55, 32, 71, 77, 84]⟩ : ByteArray), (⟨#[83, 117, 110, 44, 32, 48, 54, 32, 78, 111, 118, 32, 49, 57, 57, 52, 32, 48, 56, 58, 52, 57, 58, 54, 48, 32, 71, 77, 84]⟩ : ByteArray), (⟨#[83, 117, 110, 44, 32, 51, 49, 32, 70, 101, 98, 32, 49, 57, 57, 52, 32, 48, 56, 58, 52, 57, 58, 51, 55, 32, 71, 77, 84]⟩ : ByteArray), (⟨#[84, 104, 117, 44, 32, 48, 49, 32, 74, 97, 110, 32, 49, 57, 55, 48, 32, 48, 48, 58, 48, 48, 58, 48, 48, 32, 71, 77, 84]⟩ : ByteArray), (⟨#[83, 117, 110, 100, 97, 121, 44, 32, 48, 54, 45, 78, 111, 118, 45, 57, 52, 32, 48, 56, 58, 52, 57, 58, 51, 55, 32, 71, 77, 84]⟩ : ByteArray), (⟨#[83, 117, 110, 32, 78, 111, 118, 32, 32, 54, 32, 48, 56, 58, 52, 57, 58, 51, 55, 32, 49, 57, 57, 52]⟩ : ByteArray), (⟨#[83, 117, 110, 32, 78, 111, 118, 32, 48, 54, 32, 48, 56, 58, 52, 57, 58, 51, 55, 32, 49, 57, 57, 52]⟩ : ByteArray), (⟨#[87, 101, 100, 110, 101, 115, 100, 97, 121, 44, 32, 48, 54, 45, 78, 111, 118, 45, 50, 52, 32, 48, 56, 58, 52, 57, 58, 51, 55, 32, 71, 77, 84]⟩ : ByteArray)] : List ByteArray))).bind fun bt308 => (some bt308.1)) = some r := by rw [if_neg (show ¬ (false = true) by decide)] at H; exact H
    clear H
    have H := H1
    clear H1
    obtain ⟨y305, hy305⟩ : ∃ y_ : List ByteArray, y_ = (([(⟨#[]⟩ : ByteArray), (⟨#[83, 117, 110, 44, 32, 48, 54, 32, 78, 111, 118, 32, 49, 57, 57, 52, 32, 48, 56, 58, 52, 57, 58, 51, 55, 32, 71, 77, 84]⟩ : ByteArray), (⟨#[77, 111, 110, 44, 32, 48, 54, 32, 78, 111, 118, 32, 49, 57, 57, 52, 32, 48, 56, 58, 52, 57, 58, 51, 55, 32, 71, 77, 84]⟩ : ByteArray), (⟨#[83, 117, 110, 44, 32, 48, 54, 32, 78, 111, 118, 32, 49, 57, 57, 52, 32, 48, 56, 58, 52, 57, 58, 54, 48, 32, 71, 77, 84]⟩ : ByteArray), (⟨#[83, 117, 110, 44, 32, 51, 49, 32, 70, 101, 98, 32, 49, 57, 57, 52, 32, 48, 56, 58, 52, 57, 58, 51, 55, 32, 71, 77, 84]⟩ : ByteArray), (⟨#[84, 104, 117, 44, 32, 48, 49, 32, 74, 97, 110, 32, 49, 57, 55, 48, 32, 48, 48, 58, 48, 48, 58, 48, 48, 32, 71, 77, 84]⟩ : ByteArray), (⟨#[83, 117, 110, 100, 97, 121, 44, 32, 48, 54, 45, 78, 111, 118, 45, 57, 52, 32, 48, 56, 58, 52, 57, 58, 51, 55, 32, 71, 77, 84]⟩ : ByteArray), (⟨#[83, 117, 110, 32, 78, 111, 118, 32, 32, 54, 32, 48, 56, 58, 52, 57, 58, 51, 55, 32, 49, 57, 57, 52]⟩ : ByteArray), (⟨#[83, 117, 110, 32, 78, 111, 118, 32, 48, 54, 32, 48, 56, 58, 52, 57, 58, 51, 55, 32, 49, 57, 57, 52]⟩ : ByteArray), (⟨#[87, 101, 100, 110, 101, 115, 100, 97, 121, 44, 32, 48, 54, 45, 78, 111, 118, 45, 50, 52, 32, 48, 56, 58, 52, 57, 58, 51, 55, 32, 71, 77, 84]⟩ : ByteArray)] : List ByteArray)) := ⟨_, rfl⟩
    replace H : ((spec_l1Str.f t287 t292 t293 y305).bind fun bt308 => (some bt308.1)) = some r := by first | (rw [hy305]; with_reducible exact H) | (have H2_ := (Option.bind_some _ _).symm.trans H; rw [hy305]; with_reducible exact H2_) | (have H2_ := (Option.bind_some _ _).symm.trans H; with_reducible exact H2_) | with_reducible exact H | (rw [hy305]; exact H) | exact H
    have Ny305 := Aside0.mk hy305
    clear hy305
    replace H := Option.bind_eq_some_iff.mp H
    obtain ⟨⟨t308, t309, t310⟩, A170, H⟩ := H
    replace H : (some t308) = some r := H
    have A17 := Aside0.mk A170
    clear A170
    obtain rfl := Option.some.inj H
    go_enter Tryd.func17, Tryd.ntmps17
    go_wp2_with (first | ((with_reducible refine gate_callee (f := 45) rfl ?_); refine goesL_ (some 6) rfl rfl Tryd.func45 (by kernel_rfl) rfl #[.slice A0 l0.length c0] rfl (by (try simp only [List.map_toArray, List.map_cons, List.map_nil]); first | done | rfl | (simp only [List.length_drop, List.length_take]; rfl) | (simp; repeat' first | rfl | constructor)) ?_; (with_reducible refine (spec_l1New.calls k _ _ l0 t287 t288 t289 w _ ?side1 ?side2 ?side3 A2.out).mono ?_); (case side1 => repeat (first | (with_reducible first | exact HB.out | apply below_alloc | apply pw_below_drewN | apply below_drew1) | exact HB.out)); (case side2 => exact HR0.out); (case side3 => exact HC0.out); rintro e w18 ⟨g290, rfl, hi, hb, hb2⟩; refine ⟨_, rfl, ?_⟩; have n0_ := Aside0.mk (hb); have n1_ := Aside0.mk (hi); clear HB; have HB := n0_; have HI290 := n1_; clear n0_ n1_; (try clear hb); (try clear hb2); (try clear hk); (try clear hi)) | ((with_reducible refine gate_callee (f := 46) rfl ?_); refine goesL_ (some 8) rfl rfl Tryd.func46 (by kernel_rfl) rfl #[.pointer (some ⟨g290, 0, none⟩)] rfl (by (try simp only [List.map_toArray, List.map_cons, List.map_nil]); first | done | rfl | (simp only [List.length_drop, List.length_take]; rfl) | (simp; repeat' first | rfl | constructor)) ?_; (with_reducible refine (spec_l3Time.calls g290 t287 t288 t289 t291 t292 t293 w _ ?side1 ?side2 A3.out).mono ?_); (case side1 => repeat (first | (with_reducible first | exact HI290.out | apply IsS89.alloc | apply IsS89.drewN | apply IsS89.drew | apply IsS89.set_1 | apply IsS89.set_2) | exact HI290.out)); (case side2 => repeat (first | (with_reducible first | exact HB.out | apply below_alloc | apply pw_below_drewN | apply below_drew1 | refine below_set ?_ (IsS89.ge HI290.out)) | exact HB.out)); rintro e w19 ⟨rfl, hi, hb, hk⟩; refine ⟨_, rfl, ?_⟩; have n0_ := Aside0.mk (hb); have n1_ := Aside0.mk (hi); clear HB; clear HI290; have HB := n0_; have HI290 := n1_; clear n0_ n1_; (try clear hb); (try clear hb2); (try clear hk); (try clear hi)) | ((with_reducible refine gate_callee (f := 40) rfl ?_); refine goesL_ (some 10) rfl rfl Tryd.func40 (by kernel_rfl) rfl #[.int .i64 t291, .int .i64 0, .int .i64 4102444799] rfl (by (try simp only [List.map_toArray, List.map_cons, List.map_nil]); first | done | rfl | (simp only [List.length_drop, List.length_take]; rfl) | (simp; repeat' first | rfl | constructor)) ?_; (with_reducible refine (spec_l1In.calls t291 0 4102444799 false _ A4.out).mono ?_); rintro e w' ⟨rfl, ⟨nd, rfl⟩⟩; refine ⟨_, rfl, ?_⟩) | ((with_reducible refine gate_dst (N := 13) rfl ?_); refine Kd.R_lit Kd.string _ 9 ?hg (N := 13) ?hd (xs := ([(⟨#[]⟩ : ByteArray), (⟨#[83, 117, 110, 44, 32, 48, 54, 32, 78, 111, 118, 32, 49, 57, 57, 52, 32, 48, 56, 58, 52, 57, 58, 51, 55, 32, 71, 77, 84]⟩ : ByteArray), (⟨#[77, 111, 110, 44, 32, 48, 54, 32, 78, 111, 118, 32, 49, 57, 57, 52, 32, 48, 56, 58, 52, 57, 58, 51, 55, 32, 71, 77, 84]⟩ : ByteArray), (⟨#[83, 117, 110, 44, 32, 48, 54, 32, 78, 111, 118, 32, 49, 57, 57, 52, 32, 48, 56, 58, 52, 57, 58, 54, 48, 32, 71, 77, 84]⟩ : ByteArray), (⟨#[83, 117, 110, 44, 32, 51, 49, 32, 70, 101, 98, 32, 49, 57, 57, 52, 32, 48, 56, 58, 52, 57, 58, 51, 55, 32, 71, 77, 84]⟩ : ByteArray), (⟨#[84, 104, 117, 44, 32, 48, 49, 32, 74, 97, 110, 32, 49, 57, 55, 48, 32, 48, 48, 58, 48, 48, 58, 48, 48, 32, 71, 77, 84]⟩ : ByteArray), (⟨#[83, 117, 110, 100, 97, 121, 44, 32, 48, 54, 45, 78, 111, 118, 45, 57, 52, 32, 48, 56, 58, 52, 57, 58, 51, 55, 32, 71, 77, 84]⟩ : ByteArray), (⟨#[83, 117, 110, 32, 78, 111, 118, 32, 32, 54, 32, 48, 56, 58, 52, 57, 58, 51, 55, 32, 49, 57, 57, 52]⟩ : ByteArray), (⟨#[83, 117, 110, 32, 78, 111, 118, 32, 48, 54, 32, 48, 56, 58, 52, 57, 58, 51, 55, 32, 49, 57, 57, 52]⟩ : ByteArray), (⟨#[87, 101, 100, 110, 101, 115, 100, 97, 121, 44, 32, 48, 54, 45, 78, 111, 118, 45, 50, 52, 32, 48, 56, 58, 52, 57, 58, 51, 55, 32, 71, 77, 84]⟩ : ByteArray)] : List ByteArray)) (inner := [.string (⟨#[]⟩ : ByteArray), .string (⟨#[83, 117, 110, 44, 32, 48, 54, 32, 78, 111, 118, 32, 49, 57, 57, 52, 32, 48, 56, 58, 52, 57, 58, 51, 55, 32, 71, 77, 84]⟩ : ByteArray), .string (⟨#[77, 111, 110, 44, 32, 48, 54, 32, 78, 111, 118, 32, 49, 57, 57, 52, 32, 48, 56, 58, 52, 57, 58, 51, 55, 32, 71, 77, 84]⟩ : ByteArray), .string (⟨#[83, 117, 110, 44, 32, 48, 54, 32, 78, 111, 118, 32, 49, 57, 57, 52, 32, 48, 56, 58, 52, 57, 58, 54, 48, 32, 71, 77, 84]⟩ : ByteArray), .string (⟨#[83, 117, 110, 44, 32, 51, 49, 32, 70, 101, 98, 32, 49, 57, 57, 52, 32, 48, 56, 58, 52, 57, 58, 51, 55, 32, 71, 77, 84]⟩ : ByteArray), .string (⟨#[84, 104, 117, 44, 32, 48, 49, 32, 74, 97, 110, 32, 49, 57, 55, 48, 32, 48, 48, 58, 48, 48, 58, 48, 48, 32, 71, 77, 84]⟩ : ByteArray), .string (⟨#[83, 117, 110, 100, 97, 121, 44, 32, 48, 54, 45, 78, 111, 118, 45, 57, 52, 32, 48, 56, 58, 52, 57, 58, 51, 55, 32, 71, 77, 84]⟩ : ByteArray), .string (⟨#[83, 117, 110, 32, 78, 111, 118, 32, 32, 54, 32, 48, 56, 58, 52, 57, 58, 51, 55, 32, 49, 57, 57, 52]⟩ : ByteArray), .string (⟨#[83, 117, 110, 32, 78, 111, 118, 32, 48, 54, 32, 48, 56, 58, 52, 57, 58, 51, 55, 32, 49, 57, 57, 52]⟩ : ByteArray), .string (⟨#[87, 101, 100, 110, 101, 115, 100, 97, 121, 44, 32, 48, 54, 45, 78, 111, 118, 45, 50, 52, 32, 48, 56, 58, 52, 57, 58, 51, 55, 32, 71, 77, 84]⟩ : ByteArray)]) (ok := fun _ => True) (okp := fun _ => True) ?hr ?hp (fun _ hk => hk) trivial (Below.refl _ _) (Nat.le_refl _) (by simp) ?_; (case hd => rfl); (case hg => rfl); (case hr => first | (go_simp; done) | (go_simp; rfl)); (case hp => exact (Reps.one (show Kd.M Kd.string _ _ _ (⟨#[]⟩ : ByteArray) [.string (⟨#[]⟩ : ByteArray)] from rfl) (Reps.one (show Kd.M Kd.string _ _ _ (⟨#[83, 117, 110, 44, 32, 48, 54, 32, 78, 111, 118, 32, 49, 57, 57, 52, 32, 48, 56, 58, 52, 57, 58, 51, 55, 32, 71, 77, 84]⟩ : ByteArray) [.string (⟨#[83, 117, 110, 44, 32, 48, 54, 32, 78, 111, 118, 32, 49, 57, 57, 52, 32, 48, 56, 58, 52, 57, 58, 51, 55, 32, 71, 77, 84]⟩ : ByteArray)] from rfl) (Reps.one (show Kd.M Kd.string _ _ _ (⟨#[77, 111, 110, 44, 32, 48, 54, 32, 78, 111, 118, 32, 49, 57, 57, 52, 32, 48, 56, 58, 52, 57, 58, 51, 55, 32, 71, 77, 84]⟩ : ByteArray) [.string (⟨#[77, 111, 110, 44, 32, 48, 54, 32, 78, 111, 118, 32, 49, 57, 57, 52, 32, 48, 56, 58, 52, 57, 58, 51, 55, 32, 71, 77, 84]⟩ : ByteArray)] from rfl) (Reps.one (show Kd.M Kd.string _ _ _ (⟨#[83, 117, 110, 44, 32, 48, 54, 32, 78, 111, 118, 32, 49, 57, 57, 52, 32, 48, 56, 58, 52, 57, 58, 54, 48, 32, 71, 77, 84]⟩ : ByteArray) [.string (⟨#[83, 117, 110, 44, 32, 48, 54, 32, 78, 111, 118, 32, 49, 57, 57, 52, 32, 48, 56, 58, 52, 57, 58, 54, 48, 32, 71, 77, 84]⟩ : ByteArray)] from rfl) (Reps.one (show Kd.M Kd.string _ _ _ (⟨#[83, 117, 110, 44, 32, 51, 49, 32, 70, 101, 98, 32, 49, 57, 57, 52, 32, 48, 56, 58, 52, 57, 58, 51, 55, 32, 71, 77, 84]⟩ : ByteArray) [.string (⟨#[83, 117, 110, 44, 32, 51, 49, 32, 70, 101, 98, 32, 49, 57, 57, 52, 32, 48, 56, 58, 52, 57, 58, 51, 55, 32, 71, 77, 84]⟩ : ByteArray)] from rfl) (Reps.one (show Kd.M Kd.string _ _ _ (⟨#[84, 104, 117, 44, 32, 48, 49, 32, 74, 97, 110, 32, 49, 57, 55, 48, 32, 48, 48, 58, 48, 48, 58, 48, 48, 32, 71, 77, 84]⟩ : ByteArray) [.string (⟨#[84, 104, 117, 44, 32, 48, 49, 32, 74, 97, 110, 32, 49, 57, 55, 48, 32, 48, 48, 58, 48, 48, 58, 48, 48, 32, 71, 77, 84]⟩ : ByteArray)] from rfl) (Reps.one (show Kd.M Kd.string _ _ _ (⟨#[83, 117, 110, 100, 97, 121, 44, 32, 48, 54, 45, 78, 111, 118, 45, 57, 52, 32, 48, 56, 58, 52, 57, 58, 51, 55, 32, 71, 77, 84]⟩ : ByteArray) [.string (⟨#[83, 117, 110, 100, 97, 121, 44, 32, 48, 54, 45, 78, 111, 118, 45, 57, 52, 32, 48, 56, 58, 52, 57, 58, 51, 55, 32, 71, 77, 84]⟩ : ByteArray)] from rfl) (Reps.one (show Kd.M Kd.string _ _ _ (⟨#[83, 117, 110, 32, 78, 111, 118, 32, 32, 54, 32, 48, 56, 58, 52, 57, 58, 51, 55, 32, 49, 57, 57, 52]⟩ : ByteArray) [.string (⟨#[83, 117, 110, 32, 78, 111, 118, 32, 32, 54, 32, 48, 56, 58, 52, 57, 58, 51, 55, 32, 49, 57, 57, 52]⟩ : ByteArray)] from rfl) (Reps.one (show Kd.M Kd.string _ _ _ (⟨#[83, 117, 110, 32, 78, 111, 118, 32, 48, 54, 32, 48, 56, 58, 52, 57, 58, 51, 55, 32, 49, 57, 57, 52]⟩ : ByteArray) [.string (⟨#[83, 117, 110, 32, 78, 111, 118, 32, 48, 54, 32, 48, 56, 58, 52, 57, 58, 51, 55, 32, 49, 57, 57, 52]⟩ : ByteArray)] from rfl) (Reps.one (show Kd.M Kd.string _ _ _ (⟨#[87, 101, 100, 110, 101, 115, 100, 97, 121, 44, 32, 48, 54, 45, 78, 111, 118, 45, 50, 52, 32, 48, 56, 58, 52, 57, 58, 51, 55, 32, 71, 77, 84]⟩ : ByteArray) [.string (⟨#[87, 101, 100, 110, 101, 115, 100, 97, 121, 44, 32, 48, 54, 45, 78, 111, 118, 45, 50, 52, 32, 48, 56, 58, 52, 57, 58, 51, 55, 32, 71, 77, 84]⟩ : ByteArray)] from rfl) (Reps.none _ _)))))))))))); intro v306 w20 ho21 hb hg_ hnew_; clear hg_ hnew_; (first | rw [← Ny305.out] at ho21 | (simp only [Int.reduceToNat] at ho21; rw [← Ny305.out] at ho21)); have n0_ := Aside0.mk (Kd.R_lower ho21 (below_size (by repeat (first | (with_reducible first | exact HB.out | apply below_alloc | apply pw_below_drewN | apply below_drew1 | refine below_set ?_ (IsS89.ge HI290.out)) | exact HB.out)))); have n1_ := Aside0.mk (IsS89.below (by repeat (first | (with_reducible first | exact HI290.out | apply IsS89.alloc | apply IsS89.drewN | apply IsS89.drew | apply IsS89.set_1 | apply IsS89.set_2) | exact HI290.out)) hb); have n2_ := Aside0.mk (below_step (by repeat (first | (with_reducible first | exact HB.out | apply below_alloc | apply pw_below_drewN | apply below_drew1 | refine below_set ?_ (IsS89.ge HI290.out)) | exact HB.out)) hb); clear HI290; clear HB; have HO307 := n0_; have HI290 := n1_; have HB := n2_; clear n0_ n1_ n2_; clear hb ho21; obtain ⟨Ao22, co22, eo22⟩ := Kd.R_slice HO307.out; subst eo22) | ((with_reducible refine gate_callee (f := 52) rfl ?_); refine goesL_ (some 14) rfl rfl Tryd.func52 (by kernel_rfl) rfl #[.pointer (some ⟨g290, 0, none⟩), .slice Ao22 y305.length co22] rfl (by (try simp only [List.map_toArray, List.map_cons, List.map_nil]); first | done | rfl | (simp only [List.length_drop, List.length_take]; rfl) | (simp; repeat' first | rfl | constructor)) ?_; (with_reducible refine (spec_l1Str.calls g290 t287 t292 t293 _ _ y305 t308 t309 t310 w _ ?side1 ?side2 ?side3 ?side4 ?side5 A17.out).mono ?_); (case side1 => repeat (first | (with_reducible first | exact HI290.out | apply IsS89.alloc | apply IsS89.drewN | apply IsS89.drew | apply IsS89.set_1 | apply IsS89.set_2) | exact HI290.out)); (case side2 => repeat (first | (with_reducible first | exact HB.out | apply below_alloc | apply pw_below_drewN | apply below_drew1 | refine below_set ?_ (IsS89.ge HI290.out)) | exact HB.out)); (case side3 => repeat (first | exact (Kd.R_reads' HO307.out).2.2 | (with_reducible refine Kd.C_alloc ?_ _) | (with_reducible refine Kd.C_drewN ?_ _) | (with_reducible refine Kd.C_drew ?_))); (case side4 => exact (Kd.R_reads' HO307.out).2.1); (case side5 => exact far_slice (IsS89.own_ne HI290.out HO307.out (by decide))); rintro e w23 ⟨rfl, hi, hb, hk⟩; refine ⟨_, rfl, ?_⟩; have n0_ := Aside0.mk (Kd.R_mono (Kd.R_keep (IsS89.apart (show IsS89 w _ g290 t287 t292 t293 from by repeat (first | (with_reducible first | exact HI290.out | apply IsS89.alloc | apply IsS89.drewN | apply IsS89.drew | apply IsS89.set_1 | apply IsS89.set_2) | exact HI290.out)) (by (with_reducible repeat (first | apply Kd.R_alloc | apply Kd.R_drewN | apply Kd.R_drew)); exact HO307.out) (by decide)) hk (fun _ h => h.2)) (fun _ h => h.1)); have n1_ := Aside0.mk (hb); have n2_ := Aside0.mk (hi); clear HO307; clear HB; clear HI290; have HO307 := n0_; have HB := n1_; have HI290 := n2_; clear n0_ n1_ n2_; (try clear hb); (try clear hb2); (try clear hk); (try clear hi)))
    go_ret
    exact ⟨by first | rfl | (simp [errW_none, errW_some] <;> rfl) | (simp [*, errW_none, errW_some] <;> rfl), by repeat (first | (with_reducible first | exact HB.out | apply below_alloc | apply pw_below_drewN | apply below_drew1 | refine below_set ?_ (IsS89.ge HI290.out)) | exact HB.out)⟩

end Go.Proofs.YtlboepkphddacabDoor.RFnDates
