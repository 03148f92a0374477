/- The law laws_FnExactRunMixed: what its arguments hold is read, and the pure statement answers. Conditions: none. -/
import Derived.Test.YtnajkfdgkghgbaaRows
import Derived.Test.YtnajkfdgkghgbaaVRunMixedPAx10
import Derived.Test.YtnajkfdgkghgbaaVRunMixedPureFnExactRunMixed
import Derived.Test.YtnajkfdgkghgbaaVRunMixedXRow
import Derived.WalkKit
import Derived.ProofKit
import Derived.OpenShut
import Derived.ShutString
import Derived.ChangeOld
import Derived.Below
import Derived.SizedLaws
namespace Go.Proofs.Ytnajkfdgkghgbaa.fnExactRunMixed
open Go.ChangeShapes Go.WideShapes Go.ChangeAt Go.RowKit Go.Proofs.YtnajkfdgkghgbaaX Go.Proofs.Ytnajkfdgkghgbaa.PA Go.Proofs.YtnajkfdgkghgbaaW.PrintWords
open Go.ChangeMaps (open_string shut_string)
set_option linter.unusedVariables false
theorem own : ownKnob Try.prog.godebug = none := by kernel_rfl
theorem laidOut : laidOutB Try.prog = true := by kernel_rfl
theorem rd69 {H : Type} {enc : TypeId × Value → H} {w : World} {spare : Nat → Bool} {held : Bool} : Rd enc Try.prog w spare held k69 69 (fun v => ((Lit.int .i64 v.f0).wf = true ∧ (Lit.int .i64 v.f1).wf = true ∧ (Lit.int .i64 v.f2).wf = true ∧ (Lit.int .i64 v.f3).wf = true)) := by
  intro fuel cs x h
  obtain ⟨xs, n, rfl, _, hl, hx, hf⟩ := DataW.trod_struct Try.underlying69 h
  obtain ⟨v0, e0, w0⟩ := Rd.field (T := 3) (o := 0) (c := 1) 0 hx hf rfl rfl rfl (by kernel_rfl) (Rd.int Try.underlying3)
  obtain ⟨v1, e1, w1⟩ := Rd.field (T := 3) (o := 1) (c := 1) 1 hx hf rfl rfl rfl (by kernel_rfl) (Rd.int Try.underlying3)
  obtain ⟨v2, e2, w2⟩ := Rd.field (T := 3) (o := 2) (c := 1) 2 hx hf rfl rfl rfl (by kernel_rfl) (Rd.int Try.underlying3)
  obtain ⟨v3, e3, w3⟩ := Rd.field (T := 3) (o := 3) (c := 1) 3 hx hf rfl rfl rfl (by kernel_rfl) (Rd.int Try.underlying3)
  have hl' : cs.length = 4 := hl.trans (by kernel_rfl)
  obtain ⟨c0, c1, c2, c3, rfl⟩ := len4 hl'
  have e0' : [c0] = [.int .i64 v0] := e0
  simp only [List.cons.injEq, and_true] at e0'
  obtain rfl := e0'
  have e1' : [c1] = [.int .i64 v1] := e1
  simp only [List.cons.injEq, and_true] at e1'
  obtain rfl := e1'
  have e2' : [c2] = [.int .i64 v2] := e2
  simp only [List.cons.injEq, and_true] at e2'
  obtain rfl := e2'
  have e3' : [c3] = [.int .i64 v3] := e3
  simp only [List.cons.injEq, and_true] at e3'
  obtain rfl := e3'
  exact ⟨⟨v0, v1, v2, v3⟩, k69_mk w ⟨v0, v1, v2, v3⟩, ⟨w0, w1, w2, w3⟩⟩
set_option maxRecDepth 100000 in
theorem lifted (os : Os) (started : os.Started) (H : Type) (enc : TypeId × Value → H) :
    ReturnsInHanded {} Try.checked os 3 .any (Rows.fnExactRunMixedSpec.pre6 enc Try.prog Try.f3 Rows.fnExactRunMixedRow.domain false) (Rows.fnExactRunMixedSpec.post enc Try.prog Try.f3 false true false false) := by
  refine returnsInHanded_of_change_sized (C := Try.checked) own started (by kernel_rfl) Try.func3
    (ChangeSpec.witness6 (enc := enc) (C := Try.checked) false ⟨#[], #[.slice none 0 0, .slice none 0 0], []⟩ 8 (by kernel_rfl) (by kernel_rfl) (by kernel_rfl) (by kernel_rfl)) ?_
  intro W base args ds gs before hval0 hW hcnd hsz0 _
  have hval : ∀ (j : Nat) t v, Try.f3.params[j]? = some t → args[j]? = some v → Value.okWide Try.prog W .any base t v := hval0
  have hW' := hW
  obtain ⟨p, q, hA0, hV, rfl, hfz, hnd⟩ := hW
  have hA : DataW.TrodAll enc Try.prog W 0 (fun _ => true) true Try.f3.params.toList args.toList ds p := hA0
  rw [Try.params3] at hA hval
  obtain ⟨v0, vs0, d0, ds0, p0, q0, hargs, rfl, rfl, h0, r0⟩ := trodAll_cons hA
  obtain ⟨v1, vs1, d1, ds1, p1, q1, rfl, rfl, rfl, h1, r1⟩ := trodAll_cons r0
  obtain ⟨rfl, rfl, rfl⟩ := trodAll_nil r1
  obtain rfl : args = #[v0, v1] := by cases args; simp_all
  obtain ⟨rfl, rfl⟩ := trodVars_none hV
  have lt0 : ∀ x ∈ p0, x.block < W.heap.size := by obtain ⟨m, hm⟩ := h0; exact DataW.trod_lt m _ _ _ hm
  obtain ⟨A0, c0, l0, rfl, hc0, hr0, ok0⟩ := Rd.arg (d := k69) (E := 69) h0 (okWide_slice Try.underlying22 (hval 0 22 v0 rfl rfl)) (Rd.slice Try.underlying22 (by kernel_rfl) rd69)
  have lt1 : ∀ x ∈ p1, x.block < W.heap.size := by obtain ⟨m, hm⟩ := h1; exact DataW.trod_lt m _ _ _ hm
  obtain ⟨A1, c1, l1, rfl, hc1, hr1, ok1⟩ := Rd.arg (d := (Kd.slice 3 (Kd.int .i64))) (E := 26) h1 (okWide_slice Try.underlying23 (hval 1 23 v1 rfl rfl)) (Rd.slice Try.underlying23 (by kernel_rfl) (Rd.slice Try.underlying26 (by kernel_rfl) (Rd.int Try.underlying3)))
  clear hA0 hval0 hsz0
  have hin1 : ∀ x ∈ l1, x.length ≤ 9223372036854775807 := by
    intro x hx
    obtain ⟨j, hj⟩ := List.getElem?_of_mem hx
    have hl : j < l1.length := (List.getElem?_eq_some_iff.1 hj).1
    obtain ⟨ad, e, hc⟩ := hr1.2.2 (by omega)
    obtain ⟨c, _, ⟨A, c', _, _, hC⟩, _⟩ := hc j x hj
    exact hC.2.1
  obtain ⟨k, hk⟩ := Pure.FnExactRunMixed l0 l1 ok0 hr0.2.1 ok1 hr1.2.1 hin1
  refine (PA.laws_FnExactRunMixed.calls k _ _ l0 _ _ l1 W hr0 hc0 hr1 hc1 hk).mono fun e W' ⟨he, bel⟩ => ?_
  subst he
  exact ⟨_, rfl, _, _, _, [], _, [], hW', trodAll_mk1 (shut_bool Try.underlying4 _), (trodAll_cons_mk (Below.trod laidOut (by kernel_rfl) (of_decide_eq_true (by kernel_rfl)) h0 bel lt0) (trodAll_cons_mk (Below.trod laidOut (by kernel_rfl) (of_decide_eq_true (by kernel_rfl)) h1 bel lt1) trodAll_mk0)), rfl, bel.frame _, fun h => by cases h⟩
theorem over : Rows.fnExactRunMixedRow.holds Try.pinned (OpenSpec.ofChange Rows.fnExactRunMixedSpec) :=
  OpenClaim.holds_of_wide 3 Try.f3 rfl rfl rfl rfl rfl rfl rfl ⟨rfl, rfl, rfl, rfl, rfl⟩ rfl rfl rfl rfl rfl (by kernel_rfl) Try.func3 (by kernel_rfl)
    (of_decide_eq_true (by kernel_rfl)) (by unfold Func.isWrapper; first | (rw [if_pos (by decide +kernel)]; kernel_rfl) | (rw [if_neg (by decide +kernel)]; exact ⟨rfl, rfl⟩))
    (fun os started H enc _ => lifted os started H enc)
theorem proved : Rows.FnExactRunMixedSaid := over
#print axioms proved
end Go.Proofs.Ytnajkfdgkghgbaa.fnExactRunMixed
namespace Go.Proofs.Ytnajkfdgkghgbaa
/-- The row, under a short name, for the claim. -/
theorem fnExactRunMixed_holds : Rows.FnExactRunMixedSaid := fnExactRunMixed.proved
end Go.Proofs.Ytnajkfdgkghgbaa
