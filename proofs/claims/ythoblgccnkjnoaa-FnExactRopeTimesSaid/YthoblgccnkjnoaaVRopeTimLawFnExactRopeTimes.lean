/- The law laws_FnExactRopeTimes: what its arguments hold is read, and the pure statement answers. Conditions: none. -/
import Derived.Test.YthoblgccnkjnoaaRows
import Derived.Test.YthoblgccnkjnoaaVRopeTimPTx17
import Derived.Test.YthoblgccnkjnoaaVRopeTimPureFnExactRopeTimes
import Derived.Test.YthoblgccnkjnoaaVRopeTimXRow
import Derived.WalkKit
import Derived.ProofKit
import Derived.OpenShut
import Derived.ShutString
import Derived.ChangeOld
import Derived.Below
import Derived.SizedLaws
namespace Go.Proofs.Ythoblgccnkjnoaa.fnExactRopeTimes
open Go.ChangeShapes Go.WideShapes Go.ChangeAt Go.RowKit Go.Proofs.YthoblgccnkjnoaaX Go.Proofs.Ythoblgccnkjnoaa.PT Go.Proofs.YthoblgccnkjnoaaW.PrintWords
open Go.ChangeMaps (open_string shut_string)
set_option linter.unusedVariables false
theorem own : ownKnob Try.prog.godebug = none := by kernel_rfl
theorem laidOut : laidOutB Try.prog = true := by kernel_rfl
theorem rd22 {H : Type} {enc : TypeId × Value → H} {w : World} {spare : Nat → Bool} {held : Bool} : Rd enc Try.prog w spare held k22 22 (fun v => ((Lit.int .i64 v.f0).wf = true ∧ (Lit.int .i64 v.f1).wf = true ∧ (Lit.int .i64 v.f2).wf = true)) := by
  intro fuel cs x h
  obtain ⟨xs, n, rfl, _, hl, hx, hf⟩ := DataW.trod_array Try.underlying22 h
  obtain ⟨v0, e0, w0⟩ := Rd.item (c := 1) (o := 0) 0 hx (by decide) hf (by kernel_rfl) (by decide) (Rd.int Try.underlying3)
  obtain ⟨v1, e1, w1⟩ := Rd.item (c := 1) (o := 1) 1 hx (by decide) hf (by kernel_rfl) (by decide) (Rd.int Try.underlying3)
  obtain ⟨v2, e2, w2⟩ := Rd.item (c := 1) (o := 2) 2 hx (by decide) hf (by kernel_rfl) (by decide) (Rd.int Try.underlying3)
  have hl' : cs.length = 3 := hl.trans (by kernel_rfl)
  obtain ⟨c0, c1, c2, rfl⟩ := len3 hl'
  have e0' : [c0] = [.int .i64 v0] := e0
  simp only [List.cons.injEq, and_true] at e0'
  obtain rfl := e0'
  have e1' : [c1] = [.int .i64 v1] := e1
  simp only [List.cons.injEq, and_true] at e1'
  obtain rfl := e1'
  have e2' : [c2] = [.int .i64 v2] := e2
  simp only [List.cons.injEq, and_true] at e2'
  obtain rfl := e2'
  exact ⟨⟨v0, v1, v2⟩, k22_mk w ⟨v0, v1, v2⟩, ⟨w0, w1, w2⟩⟩
theorem rd24 {H : Type} {enc : TypeId × Value → H} {w : World} {spare : Nat → Bool} {held : Bool} : Rd enc Try.prog w spare held k24 24 (fun v => (((Lit.int .i64 v.f0.f0).wf = true ∧ (Lit.int .i64 v.f0.f1).wf = true ∧ (Lit.int .i64 v.f0.f2).wf = true) ∧ ((Lit.int .i64 v.f1.f0).wf = true ∧ (Lit.int .i64 v.f1.f1).wf = true ∧ (Lit.int .i64 v.f1.f2).wf = true))) := by
  intro fuel cs x h
  obtain ⟨xs, n, rfl, _, hl, hx, hf⟩ := DataW.trod_struct Try.underlying24 h
  obtain ⟨v0, e0, w0⟩ := Rd.field (T := 22) (o := 0) (c := 3) 0 hx hf rfl rfl rfl (by kernel_rfl) rd22
  obtain ⟨v1, e1, w1⟩ := Rd.field (T := 22) (o := 3) (c := 3) 1 hx hf rfl rfl rfl (by kernel_rfl) rd22
  have hl' : cs.length = 6 := hl.trans (by kernel_rfl)
  obtain ⟨c0, c1, c2, c3, c4, c5, rfl⟩ := len6 hl'
  have e0' : [c0, c1, c2] = _ := k22_open (show k22.K w v0 [c0, c1, c2] from e0)
  simp only [List.cons.injEq, and_true] at e0'
  obtain ⟨rfl, rfl, rfl⟩ := e0'
  have e1' : [c3, c4, c5] = _ := k22_open (show k22.K w v1 [c3, c4, c5] from e1)
  simp only [List.cons.injEq, and_true] at e1'
  obtain ⟨rfl, rfl, rfl⟩ := e1'
  exact ⟨⟨v0, v1⟩, k24_mk w ⟨v0, v1⟩, ⟨w0, w1⟩⟩
set_option maxRecDepth 100000 in
theorem lifted (os : Os) (started : os.Started) (H : Type) (enc : TypeId × Value → H) :
    ReturnsInHanded {} Try.checked os 6 .any (Rows.fnExactRopeTimesSpec.pre6 enc Try.prog Try.f6 Rows.fnExactRopeTimesRow.domain false) (Rows.fnExactRopeTimesSpec.post enc Try.prog Try.f6 false true false false) := by
  refine returnsInHanded_of_change_sized (C := Try.checked) own started (by kernel_rfl) Try.func6
    (ChangeSpec.witness6 (enc := enc) (C := Try.checked) false ⟨#[], #[.agg #[.int .i64 0, .int .i64 0, .int .i64 0, .int .i64 0, .int .i64 0, .int .i64 0]], []⟩ 8 (by kernel_rfl) (by kernel_rfl) (by kernel_rfl) (by kernel_rfl)) ?_
  intro W base args ds gs before hval0 hW hcnd hsz0 _
  have hval : ∀ (j : Nat) t v, Try.f6.params[j]? = some t → args[j]? = some v → Value.okWide Try.prog W .any base t v := hval0
  have hW' := hW
  obtain ⟨p, q, hA0, hV, rfl, hfz, hnd⟩ := hW
  have hA : DataW.TrodAll enc Try.prog W 0 (fun _ => true) true Try.f6.params.toList args.toList ds p := hA0
  rw [Try.params6] at hA hval
  obtain ⟨v0, vs0, d0, ds0, p0, q0, hargs, rfl, rfl, h0, r0⟩ := trodAll_cons hA
  obtain ⟨rfl, rfl, rfl⟩ := trodAll_nil r0
  obtain rfl : args = #[v0] := by cases args; simp_all
  obtain ⟨rfl, rfl⟩ := trodVars_none hV
  have lt0 : ∀ x ∈ p0, x.block < W.heap.size := by obtain ⟨m, hm⟩ := h0; exact DataW.trod_lt m _ _ _ hm
  obtain ⟨x0, cs0, rfl, hK0, ok0⟩ := Rd.agg h0 (okWide_agg (.inl ⟨_, Try.underlying24⟩) (hval 0 24 v0 rfl rfl)) rd24
  obtain rfl := k24_open hK0
  clear hA0 hval0 hsz0
  obtain ⟨k, hk⟩ := Pure.FnExactRopeTimes x0.f0.f0 x0.f0.f1 x0.f0.f2 x0.f1.f0 x0.f1.f1 x0.f1.f2 ok0.1.1 ok0.1.2.1 ok0.1.2.2 ok0.2.1 ok0.2.2.1 ok0.2.2.2
  refine (PT.laws_FnExactRopeTimes.calls k x0.f0.f0 x0.f0.f1 x0.f0.f2 x0.f1.f0 x0.f1.f1 x0.f1.f2 W  hk).mono fun e W' ⟨he, bel⟩ => ?_
  subst he
  exact ⟨_, rfl, _, _, _, [], _, [], hW', trodAll_mk1 (shut_bool Try.underlying4 _), (trodAll_cons_mk (Below.trod laidOut (by kernel_rfl) (of_decide_eq_true (by kernel_rfl)) h0 bel lt0) trodAll_mk0), rfl, bel.frame _, fun h => by cases h⟩
theorem over : Rows.fnExactRopeTimesRow.holds Try.pinned (OpenSpec.ofChange Rows.fnExactRopeTimesSpec) :=
  OpenClaim.holds_of_wide 6 Try.f6 rfl rfl rfl rfl rfl rfl rfl ⟨rfl, rfl, rfl, rfl, rfl⟩ rfl rfl rfl rfl rfl (by kernel_rfl) Try.func6 (by kernel_rfl)
    (of_decide_eq_true (by kernel_rfl)) (by unfold Func.isWrapper; first | (rw [if_pos (by decide +kernel)]; kernel_rfl) | (rw [if_neg (by decide +kernel)]; exact ⟨rfl, rfl⟩))
    (fun os started H enc _ => lifted os started H enc)
theorem proved : Rows.FnExactRopeTimesSaid := over
#print axioms proved
end Go.Proofs.Ythoblgccnkjnoaa.fnExactRopeTimes
namespace Go.Proofs.Ythoblgccnkjnoaa
/-- The row, under a short name, for the claim. -/
theorem fnExactRopeTimes_holds : Rows.FnExactRopeTimesSaid := fnExactRopeTimes.proved
end Go.Proofs.Ythoblgccnkjnoaa
