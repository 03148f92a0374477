/- The law laws_FnExactNextTime: what its arguments hold is read, and the pure statement answers. Conditions: none. -/
import Derived.Test.YthloakjlpblakaaRows
import Derived.Test.YthloakjlpblakaaVNextTimePHx9
import Derived.Test.YthloakjlpblakaaVNextTimePureFnExactNextTime
import Derived.Test.YthloakjlpblakaaVNextTimeXRow
import Derived.WalkKit
import Derived.ProofKit
import Derived.OpenShut
import Derived.ShutString
import Derived.ChangeOld
import Derived.Below
import Derived.SizedLaws
namespace Go.Proofs.Ythloakjlpblakaa.fnExactNextTime
open Go.ChangeShapes Go.WideShapes Go.ChangeAt Go.RowKit Go.Proofs.YthloakjlpblakaaX Go.Proofs.Ythloakjlpblakaa.PH Go.Proofs.YthloakjlpblakaaW.PrintWords
open Go.ChangeMaps (open_string shut_string)
set_option linter.unusedVariables false
theorem own : ownKnob Try.prog.godebug = none := by kernel_rfl
theorem laidOut : laidOutB Try.prog = true := by kernel_rfl
theorem rd27 {H : Type} {enc : TypeId × Value → H} {w : World} {spare : Nat → Bool} {held : Bool} : Rd enc Try.prog w spare held k27 27 (fun v => ((Lit.int .i64 v.f0).wf = true ∧ (Lit.int .i64 v.f1).wf = true)) := by
  intro fuel cs x h
  obtain ⟨xs, n, rfl, _, hl, hx, hf⟩ := DataW.trod_array Try.underlying27 h
  obtain ⟨v0, e0, w0⟩ := Rd.item (c := 1) (o := 0) 0 hx (by decide) hf (by kernel_rfl) (by decide) (Rd.int Try.underlying3)
  obtain ⟨v1, e1, w1⟩ := Rd.item (c := 1) (o := 1) 1 hx (by decide) hf (by kernel_rfl) (by decide) (Rd.int Try.underlying3)
  have hl' : cs.length = 2 := hl.trans (by kernel_rfl)
  obtain ⟨c0, c1, rfl⟩ := len2 hl'
  have e0' : [c0] = [.int .i64 v0] := e0
  simp only [List.cons.injEq, and_true] at e0'
  obtain rfl := e0'
  have e1' : [c1] = [.int .i64 v1] := e1
  simp only [List.cons.injEq, and_true] at e1'
  obtain rfl := e1'
  exact ⟨⟨v0, v1⟩, k27_mk w ⟨v0, v1⟩, ⟨w0, w1⟩⟩
set_option maxRecDepth 100000 in
theorem lifted (os : Os) (started : os.Started) (H : Type) (enc : TypeId × Value → H) :
    ReturnsInHanded {} Try.checked os 13 .any (Rows.fnExactNextTimeSpec.pre6 enc Try.prog Try.f13 Rows.fnExactNextTimeRow.domain false) (Rows.fnExactNextTimeSpec.post enc Try.prog Try.f13 false true false false) := by
  refine returnsInHanded_of_change_sized (C := Try.checked) own started (by kernel_rfl) Try.func13
    (ChangeSpec.witness6 (enc := enc) (C := Try.checked) false ⟨#[], #[.agg #[.int .i64 0, .int .i64 0], .int .i64 0], []⟩ 8 (by kernel_rfl) (by kernel_rfl) (by kernel_rfl) (by kernel_rfl)) ?_
  intro W base args ds gs before hval0 hW hcnd hsz0 _
  have hval : ∀ (j : Nat) t v, Try.f13.params[j]? = some t → args[j]? = some v → Value.okWide Try.prog W .any base t v := hval0
  have hW' := hW
  obtain ⟨p, q, hA0, hV, rfl, hfz, hnd⟩ := hW
  have hA : DataW.TrodAll enc Try.prog W 0 (fun _ => true) true Try.f13.params.toList args.toList ds p := hA0
  rw [Try.params13] at hA hval
  obtain ⟨v0, vs0, d0, ds0, p0, q0, hargs, rfl, rfl, h0, r0⟩ := trodAll_cons hA
  obtain ⟨v1, vs1, d1, ds1, p1, q1, rfl, rfl, rfl, h1, r1⟩ := trodAll_cons r0
  obtain ⟨rfl, rfl, rfl⟩ := trodAll_nil r1
  obtain rfl : args = #[v0, v1] := by cases args; simp_all
  obtain ⟨rfl, rfl⟩ := trodVars_none hV
  have lt0 : ∀ x ∈ p0, x.block < W.heap.size := by obtain ⟨m, hm⟩ := h0; exact DataW.trod_lt m _ _ _ hm
  obtain ⟨x0, cs0, rfl, hK0, ok0⟩ := Rd.agg h0 (okWide_agg (.inr ⟨_, _, Try.underlying27⟩) (hval 0 27 v0 rfl rfl)) rd27
  obtain rfl := k27_open hK0
  obtain ⟨a1, rfl, rfl, rfl, w1⟩ := open_int Try.underlying3 (hval 1 3 v1 rfl rfl) h1
  clear hA0 hval0 hsz0
  obtain ⟨k, hk⟩ := Pure.FnExactNextTime x0.f0 x0.f1 a1 ok0.1 ok0.2 w1
  refine (PH.laws_FnExactNextTime.calls k x0.f0 x0.f1 a1 W  hk).mono fun e W' ⟨he, bel⟩ => ?_
  subst he
  exact ⟨_, rfl, _, _, _, [], _, [], hW', trodAll_mk1 (shut_bool Try.underlying4 _), (trodAll_cons_mk (Below.trod laidOut (by kernel_rfl) (of_decide_eq_true (by kernel_rfl)) h0 bel lt0) (trodAll_cons_mk (shut_int Try.underlying3 w1) trodAll_mk0)), rfl, bel.frame _, fun h => by cases h⟩
theorem over : Rows.fnExactNextTimeRow.holds Try.pinned (OpenSpec.ofChange Rows.fnExactNextTimeSpec) :=
  OpenClaim.holds_of_wide 13 Try.f13 rfl rfl rfl rfl rfl rfl rfl ⟨rfl, rfl, rfl, rfl, rfl⟩ rfl rfl rfl rfl rfl (by kernel_rfl) Try.func13 (by kernel_rfl)
    (of_decide_eq_true (by kernel_rfl)) (by unfold Func.isWrapper; first | (rw [if_pos (by decide +kernel)]; kernel_rfl) | (rw [if_neg (by decide +kernel)]; exact ⟨rfl, rfl⟩))
    (fun os started H enc _ => lifted os started H enc)
theorem proved : Rows.FnExactNextTimeSaid := over
#print axioms proved
end Go.Proofs.Ythloakjlpblakaa.fnExactNextTime
namespace Go.Proofs.Ythloakjlpblakaa
/-- The row, under a short name, for the claim. -/
theorem fnExactNextTime_holds : Rows.FnExactNextTimeSaid := fnExactNextTime.proved
end Go.Proofs.Ythloakjlpblakaa
