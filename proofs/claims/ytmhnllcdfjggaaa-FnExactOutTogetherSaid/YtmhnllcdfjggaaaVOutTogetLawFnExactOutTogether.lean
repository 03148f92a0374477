/- The law laws_FnExactOutTogether: what its arguments hold is read, and the pure statement answers. Conditions: none. -/
import Derived.Test.YtmhnllcdfjggaaaRows
import Derived.Test.YtmhnllcdfjggaaaVOutTogetPAx13
import Derived.Test.YtmhnllcdfjggaaaVOutTogetPureFnExactOutTogether
import Derived.Test.YtmhnllcdfjggaaaVOutTogetXRow
import Derived.WalkKit
import Derived.ProofKit
import Derived.OpenShut
import Derived.ShutString
import Derived.ChangeOld
import Derived.Below
import Derived.SizedLaws
namespace Go.Proofs.Ytmhnllcdfjggaaa.fnExactOutTogether
open Go.ChangeShapes Go.WideShapes Go.ChangeAt Go.RowKit Go.Proofs.YtmhnllcdfjggaaaX Go.Proofs.Ytmhnllcdfjggaaa.PA Go.Proofs.YtmhnllcdfjggaaaW.PrintWords
open Go.ChangeMaps (open_string shut_string)
set_option linter.unusedVariables false
theorem own : ownKnob Try.prog.godebug = none := by kernel_rfl
theorem laidOut : laidOutB Try.prog = true := by kernel_rfl
theorem rd22 {H : Type} {enc : TypeId × Value → H} {w : World} {spare : Nat → Bool} {held : Bool} : Rd enc Try.prog w spare held k22 22 (fun v => ((Lit.int .i64 v.f0).wf = true ∧ (Lit.int .i64 v.f1).wf = true ∧ (Lit.int .i64 v.f2).wf = true ∧ (Lit.int .i64 v.f3).wf = true)) := by
  intro fuel cs x h
  obtain ⟨xs, n, rfl, _, hl, hx, hf⟩ := DataW.trod_array Try.underlying22 h
  obtain ⟨v0, e0, w0⟩ := Rd.item (c := 1) (o := 0) 0 hx (by decide) hf (by kernel_rfl) (by decide) (Rd.int Try.underlying3)
  obtain ⟨v1, e1, w1⟩ := Rd.item (c := 1) (o := 1) 1 hx (by decide) hf (by kernel_rfl) (by decide) (Rd.int Try.underlying3)
  obtain ⟨v2, e2, w2⟩ := Rd.item (c := 1) (o := 2) 2 hx (by decide) hf (by kernel_rfl) (by decide) (Rd.int Try.underlying3)
  obtain ⟨v3, e3, w3⟩ := Rd.item (c := 1) (o := 3) 3 hx (by decide) hf (by kernel_rfl) (by decide) (Rd.int Try.underlying3)
  have hl' : cs.length = 4 := hl.trans (by kernel_rfl)
  obtain ⟨c0, c1, c2, c3, rfl⟩ := len4 hl'
  have e0' : [c0] = [.int .i64 v0] := e0
  simp only [List.cons.injEq, and_true] at e0'
  obtain rfl := e0'
  have e1' : [c1] = [.int .i64 v1] := e1
  simp only [List.cons.injEq, and_true] at e1'
  obtain rfl := e1'
  have e2' : [c2] = [.int .i64 v2] := e2
  simp only [List.cons.injEq, and_true] at e2'
  obtain rfl := e2'
  have e3' : [c3] = [.int .i64 v3] := e3
  simp only [List.cons.injEq, and_true] at e3'
  obtain rfl := e3'
  exact ⟨⟨v0, v1, v2, v3⟩, k22_mk w ⟨v0, v1, v2, v3⟩, ⟨w0, w1, w2, w3⟩⟩
theorem rd24 {H : Type} {enc : TypeId × Value → H} {w : World} {spare : Nat → Bool} {held : Bool} : Rd enc Try.prog w spare held k24 24 (fun v => (((Lit.int .i64 v.f0.f0).wf = true ∧ (Lit.int .i64 v.f0.f1).wf = true ∧ (Lit.int .i64 v.f0.f2).wf = true ∧ (Lit.int .i64 v.f0.f3).wf = true))) := by
  intro fuel cs x h
  obtain ⟨xs, n, rfl, _, hl, hx, hf⟩ := DataW.trod_struct Try.underlying24 h
  obtain ⟨v0, e0, w0⟩ := Rd.field (T := 22) (o := 0) (c := 4) 0 hx hf rfl rfl rfl (by kernel_rfl) rd22
  have hl' : cs.length = 4 := hl.trans (by kernel_rfl)
  obtain ⟨c0, c1, c2, c3, rfl⟩ := len4 hl'
  have e0' : [c0, c1, c2, c3] = _ := k22_open (show k22.K w v0 [c0, c1, c2, c3] from e0)
  simp only [List.cons.injEq, and_true] at e0'
  obtain ⟨rfl, rfl, rfl, rfl⟩ := e0'
  exact ⟨⟨v0⟩, k24_mk w ⟨v0⟩, w0⟩
set_option maxRecDepth 100000 in
theorem lifted (os : Os) (started : os.Started) (H : Type) (enc : TypeId × Value → H) :
    ReturnsInHanded {} Try.checked os 3 .any (Rows.fnExactOutTogetherSpec.pre6 enc Try.prog Try.f3 Rows.fnExactOutTogetherRow.domain false) (Rows.fnExactOutTogetherSpec.post enc Try.prog Try.f3 false true false false) := by
  refine returnsInHanded_of_change_sized (C := Try.checked) own started (by kernel_rfl) Try.func3
    (ChangeSpec.witness6 (enc := enc) (C := Try.checked) false ⟨#[], #[.agg #[.int .i64 0, .int .i64 0, .int .i64 0, .int .i64 0], .agg #[.int .i64 0, .int .i64 0, .int .i64 0, .int .i64 0], .int .i64 0], []⟩ 8 (by kernel_rfl) (by kernel_rfl) (by kernel_rfl) (by kernel_rfl)) ?_
  intro W base args ds gs before hval0 hW hcnd hsz0 _
  have hval : ∀ (j : Nat) t v, Try.f3.params[j]? = some t → args[j]? = some v → Value.okWide Try.prog W .any base t v := hval0
  have hW' := hW
  obtain ⟨p, q, hA0, hV, rfl, hfz, hnd⟩ := hW
  have hA : DataW.TrodAll enc Try.prog W 0 (fun _ => true) true Try.f3.params.toList args.toList ds p := hA0
  rw [Try.params3] at hA hval
  obtain ⟨v0, vs0, d0, ds0, p0, q0, hargs, rfl, rfl, h0, r0⟩ := trodAll_cons hA
  obtain ⟨v1, vs1, d1, ds1, p1, q1, rfl, rfl, rfl, h1, r1⟩ := trodAll_cons r0
  obtain ⟨v2, vs2, d2, ds2, p2, q2, rfl, rfl, rfl, h2, r2⟩ := trodAll_cons r1
  obtain ⟨rfl, rfl, rfl⟩ := trodAll_nil r2
  obtain rfl : args = #[v0, v1, v2] := by cases args; simp_all
  obtain ⟨rfl, rfl⟩ := trodVars_none hV
  have lt0 : ∀ x ∈ p0, x.block < W.heap.size := by obtain ⟨m, hm⟩ := h0; exact DataW.trod_lt m _ _ _ hm
  obtain ⟨x0, cs0, rfl, hK0, ok0⟩ := Rd.agg h0 (okWide_agg (.inl ⟨_, Try.underlying24⟩) (hval 0 24 v0 rfl rfl)) rd24
  obtain rfl := k24_open hK0
  have lt1 : ∀ x ∈ p1, x.block < W.heap.size := by obtain ⟨m, hm⟩ := h1; exact DataW.trod_lt m _ _ _ hm
  obtain ⟨x1, cs1, rfl, hK1, ok1⟩ := Rd.agg h1 (okWide_agg (.inr ⟨_, _, Try.underlying22⟩) (hval 1 22 v1 rfl rfl)) rd22
  obtain rfl := k22_open hK1
  obtain ⟨a2, rfl, rfl, rfl, w2⟩ := open_int Try.underlying3 (hval 2 3 v2 rfl rfl) h2
  clear hA0 hval0 hsz0
  obtain ⟨k, hk⟩ := Pure.FnExactOutTogether x0.f0.f0 x0.f0.f1 x0.f0.f2 x0.f0.f3 x1.f0 x1.f1 x1.f2 x1.f3 a2 ok0.1 ok0.2.1 ok0.2.2.1 ok0.2.2.2 ok1.1 ok1.2.1 ok1.2.2.1 ok1.2.2.2 w2
  refine (PA.laws_FnExactOutTogether.calls k x0.f0.f0 x0.f0.f1 x0.f0.f2 x0.f0.f3 x1.f0 x1.f1 x1.f2 x1.f3 a2 W  hk).mono fun e W' ⟨he, bel⟩ => ?_
  subst he
  exact ⟨_, rfl, _, _, _, [], _, [], hW', trodAll_mk1 (shut_bool Try.underlying4 _), (trodAll_cons_mk (Below.trod laidOut (by kernel_rfl) (of_decide_eq_true (by kernel_rfl)) h0 bel lt0) (trodAll_cons_mk (Below.trod laidOut (by kernel_rfl) (of_decide_eq_true (by kernel_rfl)) h1 bel lt1) (trodAll_cons_mk (shut_int Try.underlying3 w2) trodAll_mk0))), rfl, bel.frame _, fun h => by cases h⟩
theorem over : Rows.fnExactOutTogetherRow.holds Try.pinned (OpenSpec.ofChange Rows.fnExactOutTogetherSpec) :=
  OpenClaim.holds_of_wide 3 Try.f3 rfl rfl rfl rfl rfl rfl rfl ⟨rfl, rfl, rfl, rfl, rfl⟩ rfl rfl rfl rfl rfl (by kernel_rfl) Try.func3 (by kernel_rfl)
    (of_decide_eq_true (by kernel_rfl)) (by unfold Func.isWrapper; first | (rw [if_pos (by decide +kernel)]; kernel_rfl) | (rw [if_neg (by decide +kernel)]; exact ⟨rfl, rfl⟩))
    (fun os started H enc _ => lifted os started H enc)
theorem proved : Rows.FnExactOutTogetherSaid := over
#print axioms proved
end Go.Proofs.Ytmhnllcdfjggaaa.fnExactOutTogether
namespace Go.Proofs.Ytmhnllcdfjggaaa
/-- The row, under a short name, for the claim. -/
theorem fnExactOutTogether_holds : Rows.FnExactOutTogetherSaid := fnExactOutTogether.proved
end Go.Proofs.Ytmhnllcdfjggaaa
