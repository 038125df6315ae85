/- The law FnExactFormatDirectives holds: for every input that can be read as data the call returns true, and each argument reads afterwards as it read before. Conditions: none beyond the row's own. -/
import Derived.Test.YtmppjfnojkgllacRows
import Derived.Test.YtmppjfnojkgllacPreFnExactFormatDirectives
import Derived.Test.YtmppjfnojkgllacPureFnExactFormatDirectives
import Derived.WalkKit
import Derived.ProofKit
import Derived.OpenShut
import Derived.ShutString
import Derived.ChangeOld
import Derived.Below
import Derived.SizedLaws
import Derived.Deep.Slices
import Derived.Carry
import Derived.Test.YtmppjfnojkgllacWSized
namespace Go.Proofs.Ytmppjfnojkgllac.fnExactFormatDirectives
open Go.ChangeShapes Go.WideShapes Go.ChangeAt Go.RowKit
open Go.ChangeMaps (open_string shut_string)
open Go.Proofs.Ytmppjfnojkgllac.RFnExactFormatDirectives Go.Proofs.YtmppjfnojkgllacW.PrintWords
set_option linter.unusedVariables false
set_option linter.unusedSimpArgs false
theorem own : ownKnob Try.prog.godebug = none := by kernel_rfl
theorem laidOut : laidOutB Try.prog = true := by kernel_rfl
set_option maxRecDepth 100000 in
theorem cells31 {H : Type} {enc : TypeId × Value → H} {W : World} {base : Nat} {sp : Nat → Bool} {held : Bool} {n : Nat} {cs : List Value} {x : DataW H × List MemPlace} (h : DataW.trod enc Try.prog W base sp held n 31 cs = some x) :
    ∃ (f0 : ByteArray) (f1 : ByteArray) (f2 : Bool), cs = [.string f0, .string f1, .bool f2] ∧ f0.size ≤ maxLen ∧ f1.size ≤ maxLen := by
  have hc4 : Try.prog.cellsOf 4 = 1 := by kernel_rfl
  have hc9 : Try.prog.cellsOf 9 = 1 := by kernel_rfl
  have hc31 : Try.prog.cellsOf 31 = 3 := by kernel_rfl
  obtain ⟨ys, m, _, _, hl, hn, hf⟩ := DataW.trod_struct Try.underlying31 h
  rw [hc31] at hl
  match ys, hn with
  | [y0, y1, y2], _ =>
    match cs, hl with
    | [c0, c1, c2], _ =>
      have g0 := hf 0 _ rfl
      have g1 := hf 1 _ rfl
      have g2 := hf 2 _ rfl
      simp [hc4, hc9, hc31] at g0 g1 g2
      obtain ⟨f0, e0, _, s0⟩ := DataW.trod_string Try.underlying9 g0
      obtain ⟨f1, e1, _, s1⟩ := DataW.trod_string Try.underlying9 g1
      obtain ⟨f2, e2, _⟩ := DataW.trod_bool Try.underlying4 g2
      simp only [List.cons.injEq, and_true] at e0 e1 e2
      subst e0 e1 e2
      exact ⟨f0, f1, f2, rfl, s0, s1⟩
theorem add_add0 (a : Addr) (i j : Nat) : (a.add i).add j = a.add (i + j) := Go.Deep.add_add a i j
theorem row_of {H : Type} {enc : TypeId × Value → H} {W : World} {α : Type} [Inhabited α] (kd : Kd α) (good : α → Prop) {t e : TypeId} {B : Nat} (ht : Try.prog.underlying t = some (.slice e)) (hc : Try.prog.cellsOf e = kd.sz) (hB : Try.prog.bytesOf e = B)
    (each : ∀ n cs x, DataW.trod enc Try.prog W 0 (fun _ => true) true n e cs = some x → ∃ v : α, kd.K W v cs ∧ good v)
    {a : Option Addr} {len cap : Nat} {d : DataW H} {ps : List MemPlace} {ts : List TypeId} {ds : List (DataW H)} {j : Nat} (hsz : (DataW.weightsEach Try.prog ts ds).all (· ≤ reachBytes) = true) (htj : ts[j]? = some t) (hdj : ds[j]? = some d)
    (h : DataW.Trod enc Try.prog W 0 (fun _ => true) true t (.slice a len cap) d ps) :
    ∃ xs : List α, Kd.C kd W a xs.length xs ∧ len = xs.length ∧ xs.length ≤ cap ∧ xs.length * B ≤ 140737488351232 ∧ ∀ v ∈ xs, good v := by
  obtain ⟨fuel, hf⟩ := h
  rcases Go.Deep.open_slice ht hf with ⟨hcs, hx⟩ | ⟨ad, l, c, m, n, D, Pl, hcs, _, hl, hm, hmm, hx, hel⟩
  · simp [Value.cells] at hcs
    obtain ⟨rfl, rfl, rfl⟩ := hcs
    exact ⟨[], ⟨rfl, by simp, fun hp => absurd hp (by simp)⟩, rfl, by simp, by simp, by simp⟩
  · simp [Value.cells] at hcs
    obtain ⟨rfl, rfl, rfl⟩ := hcs
    obtain ⟨hx, _⟩ := Prod.mk.inj hx
    subst hx
    have z := sized_slice hsz htj hdj ht
    rw [hB] at z
    simp only [List.length_map, List.length_range] at z
    have hlm : len ≤ m := by rw [hmm]; simp; exact hl
    have hz : len * B ≤ 140737488351232 := Nat.le_trans (Nat.mul_le_mul_right _ (by omega)) z
    obtain ⟨F, hF⟩ := Go.Deep.choose_lt (α := α) (n := len) (p := fun i v => good v ∧ ∃ cs, W.cells? 0 (ad.add (i * kd.sz)) kd.sz = some cs ∧ kd.K W v cs) (fun i hi => by
      obtain ⟨cs, h1, h2⟩ := hel i (by omega)
      obtain ⟨v, hv, hg⟩ := each _ _ _ h2
      rw [hc] at h1
      exact ⟨v, hg, cs, h1, hv⟩)
    have hlen : ((List.range len).map F).length = len := by simp
    refine ⟨(List.range len).map F, ⟨rfl, ?_, fun _ => ⟨ad, rfl, fun i p hp => ?_⟩⟩, hlen.symm, by rw [hlen]; exact hl, by rw [hlen]; exact hz, fun v hv => ?_⟩
    · rw [hlen]; unfold maxLen at hm; omega
    · have hi : i < len := by
        have := (List.getElem?_eq_some_iff.1 hp).1
        rwa [hlen] at this
      rw [List.getElem?_map, List.getElem?_range hi] at hp
      simp at hp
      subst hp
      obtain ⟨_, cs, h1, h2⟩ := hF i hi
      obtain ⟨_, g1, g2⟩ := World.cells?_some h1
      refine ⟨cs, g1, h2, fun q u hu => ?_⟩
      have hq : q < kd.sz := by
        have := (List.getElem?_eq_some_iff.1 hu).1
        omega
      rw [← hu, ← add_add0]
      exact g2 q hq
    · obtain ⟨i, hi, rfl⟩ := List.mem_map.1 hv
      exact (hF i (List.mem_range.1 hi)).1
set_option maxRecDepth 100000 in
theorem lifted (os : Os) (started : os.Started) (H : Type) (enc : TypeId × Value → H) :
    ReturnsInHanded {} Try.checked os 3 .any (Rows.fnExactFormatDirectivesSpec.pre6 enc Try.prog Try.f3 Rows.fnExactFormatDirectivesRow.domain false) (Rows.fnExactFormatDirectivesSpec.post enc Try.prog Try.f3 false true false false) := by
  refine returnsInHanded_of_change_sized (C := Try.checked) own started (by kernel_rfl) Try.func3
    (ChangeSpec.witness6 (enc := enc) (C := Try.checked) false ⟨#[], #[.slice none 0 0], []⟩ 8 (by kernel_rfl) (by kernel_rfl) (by kernel_rfl) (by kernel_rfl)) ?_
  intro W base args ds gs before hval0 hW hcnd hsz0 _
  have hsz : (DataW.weightsEach Try.prog (Try.f3.params.toList ++ Rows.fnExactFormatDirectivesSpec.plain.varTypes Try.prog) (ds ++ gs)).all (· ≤ reachBytes) = true := hsz0
  have hval : ∀ (j : Nat) t v, Try.f3.params[j]? = some t → args[j]? = some v → Value.okWide Try.prog W .any base t v := hval0
  have hW' := hW
  obtain ⟨p, q, hA0, hV, rfl, hfz, hnd⟩ := hW
  have hA : DataW.TrodAll enc Try.prog W 0 (fun _ => true) true Try.f3.params.toList args.toList ds p := hA0
  rw [Try.params3] at hA hval hsz
  obtain ⟨v0, vs0, d0, ds0, p0, q0, hargs, rfl, rfl, h0, r0⟩ := trodAll_cons hA
  obtain ⟨rfl, rfl, rfl⟩ := trodAll_nil r0
  obtain rfl : args = #[v0] := by cases args; simp_all
  obtain ⟨rfl, rfl⟩ := trodVars_none hV
  obtain ⟨A0, len0, c0, rfl⟩ := okWide_slice Try.underlying22 (hval 0 22 v0 rfl rfl)
  have k0 := h0
  have lt0 : ∀ x ∈ p0, x.block < W.heap.size := by obtain ⟨m, hm⟩ := k0; exact DataW.trod_lt m _ _ _ hm
  letI : Inhabited S31 := ⟨z31⟩
  obtain ⟨l0, hr0, rfl, hc0, hm0, hg0⟩ := row_of k31 (fun x => x.f0.size ≤ maxLen ∧ x.f1.size ≤ maxLen) Try.underlying22 (by kernel_rfl) (by kernel_rfl : Try.prog.bytesOf 31 = 40) (fun n cs x hx => by obtain ⟨f0, f1, f2, rfl, s0, s1⟩ := cells31 hx; exact ⟨⟨f0, f1, f2⟩, k31_mk W _, ⟨s0, s1⟩⟩) hsz (j := 0) (t := 22) rfl rfl h0
  clear hA0 hval0 hsz0 hsz
  obtain ⟨k, hk⟩ := Pure.FnExactFormatDirectives l0 hm0 hg0
  refine (laws_FnExactFormatDirectives.calls k A0 c0 l0 true W hr0 hc0 hk).mono fun e W' ⟨he, bel0⟩ => ?_
  have bel : Below W.heap.size W W' := bel0
  subst he
  exact ⟨_, rfl, _, _, _, [], _, [], hW', trodAll_mk1 (shut_bool Try.underlying4 _), (trodAll_cons_mk (Below.trod laidOut (by kernel_rfl) (of_decide_eq_true (by kernel_rfl)) k0 bel lt0) trodAll_mk0), rfl, bel.frame _, fun h => by cases h⟩
theorem over : Rows.fnExactFormatDirectivesRow.holds Try.pinned (OpenSpec.ofChange Rows.fnExactFormatDirectivesSpec) :=
  OpenClaim.holds_of_wide 3 Try.f3 rfl rfl rfl rfl rfl rfl rfl ⟨rfl, rfl, rfl, rfl, rfl⟩ rfl rfl rfl rfl rfl (by kernel_rfl) Try.func3 (by kernel_rfl)
    (of_decide_eq_true (by kernel_rfl)) (by unfold Func.isWrapper; first | (rw [if_pos (by decide +kernel)]; kernel_rfl) | (rw [if_neg (by decide +kernel)]; exact ⟨rfl, rfl⟩))
    (fun os started H enc _ => lifted os started H enc)
theorem proved : Rows.FnExactFormatDirectivesSaid := over
#print axioms proved
end Go.Proofs.Ytmppjfnojkgllac.fnExactFormatDirectives
namespace Go.Proofs.Ytmppjfnojkgllac
/-- The row, under a short name, for the claim. -/
theorem fnExactFormatDirectives_holds : Rows.FnExactFormatDirectivesSaid := fnExactFormatDirectives.proved
end Go.Proofs.Ytmppjfnojkgllac
