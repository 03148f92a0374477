/- AreThings: the program's answer is the reference's, for all lists. Conditions: none. -/
import Derived.Test.YtogpednapceljaaBase
set_option linter.unusedVariables false
set_option linter.unusedSimpArgs false
namespace Go.Proofs.Ytogpednapceljaa.Pure
open Go.RowKit Go.Proofs.Ytogpednapceljaa.PA Go.Proofs.Ytogpednapceljaa.PL Go.Proofs.YtogpednapceljaaW.PrintWords Go.Proofs.YtogpednapceljaaW.PrintLast
theorem FnExactAreThings : laws_FnExactAreThings.Pure := by
  intro xs _ hxs
  unfold laws_FnExactAreThings.f
  by_cases hx : xs.length ≤ 1048576
  · refine ⟨2097152, ?_⟩
    obtain ⟨n, hn⟩ := szThingS_ex xs
    rw [hn, Option.bind_some]
    split
    · rfl
    · rw [toThingS_ok hx (by omega), Option.bind_some]
      have hm : (xs.map convThing).length ≤ 1048576 := by simpa using hx
      unfold spec_AreThings.f
      rw [specGood_ok (by omega), Option.bind_some, Option.bind_some, Option.bind_some, implGood_ok (by omega) (by omega), Option.bind_some]
      simp only [bne_self_eq_false, Bool.false_eq_true, if_false]
      rw [Option.bind_some, eqThingS_self (by omega) (by omega)]
      rfl
  · refine ⟨1, ?_⟩
    rw [szThingS_far (by omega) hxs]
    rfl
end Go.Proofs.Ytogpednapceljaa.Pure
