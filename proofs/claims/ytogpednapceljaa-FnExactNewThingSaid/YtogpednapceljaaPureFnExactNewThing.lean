/- NewThing: the program's answer is the reference's. Conditions: none. -/
import Derived.Test.YtogpednapceljaaBase
set_option linter.unusedVariables false
set_option linter.unusedSimpArgs false
namespace Go.Proofs.Ytogpednapceljaa.Pure
open Go.RowKit Go.Proofs.Ytogpednapceljaa.PA Go.Proofs.Ytogpednapceljaa.PL Go.Proofs.YtogpednapceljaaW.PrintWords Go.Proofs.YtogpednapceljaaW.PrintLast Go.Proofs.YtogpednapceljaaW.PrintMore
theorem new_j0 (k : Nat) (n : Int) (z : Bool) (a b c d : Int) : ∃ r, spec_NewThing.j0 (k + 2) n z a b c d = some r ∧ impl_NewThing.j0 (k + 2) n z a b c d = some r := by
  simp only [spec_NewThing.j0, impl_NewThing.j0, specThing_ok, implThing_ok, Option.bind_some]
  cases z
  · simp only [Bool.false_eq_true, if_false]
    split <;> exact ⟨_, rfl, rfl⟩
  · simp only [if_true]
    split <;> exact ⟨_, rfl, rfl⟩
theorem eqThing_self (a b c d : Int) : laws_eqThing.f a b c d a b c d = some true := by simp [laws_eqThing.f]
theorem FnExactNewThing : laws_FnExactNewThing.Pure := by
  intro a n _ _
  refine ⟨2, ?_⟩
  have h : ∃ r, spec_NewThing.f 2 a n = some r ∧ impl_NewThing.f 2 a n = some r := by
    unfold spec_NewThing.f impl_NewThing.f
    rw [in_ok, within_ok, Option.bind_some, Option.bind_some]
    by_cases h1 : a = 1
    · rw [if_pos h1, if_pos h1]
      exact new_j0 0 _ _ _ _ _ _
    · rw [if_neg h1, if_neg h1]
      exact new_j0 0 _ _ _ _ _ _
  obtain ⟨r, e1, e2⟩ := h
  unfold laws_FnExactNewThing.f
  rw [e1, e2, Option.bind_some, Option.bind_some, eqThing_self, Option.bind_some, if_pos rfl, if_neg (by simp)]
end Go.Proofs.Ytogpednapceljaa.Pure
