/- LastingPlan: the program's answer is the reference's. Conditions: none. -/
import Derived.Test.YtpadckbjknjkaaaPlan
import Derived.Test.YtpadckbjknjkaaaListsI
import Derived.Test.YtpadckbjknjkaaaPAx4
set_option linter.unusedVariables false
set_option linter.unusedSimpArgs false
namespace Go.Proofs.Ytpadckbjknjkaaa.Pure
open Go.RowKit Go.Proofs.Ytpadckbjknjkaaa.PA Go.Proofs.Ytpadckbjknjkaaa.PL Go.Proofs.YtpadckbjknjkaaaW.PrintWords Go.Proofs.YtpadckbjknjkaaaW.PrintLast
theorem FnExactLastingPlan : laws_FnExactLastingPlan.Pure := by
  intro a b c n _ _ _ _
  refine ⟨2002, ?_⟩
  obtain ⟨r, h1, h2, hr⟩ := plan_ok (k := 2002) (by omega) a b c n
  obtain ⟨r', h1', h2', _⟩ := plan_ok (k := 2001) (by omega) a b c n
  have hrr : r' = r := by
    have := spec_LastingPlan.mono a b c n 2001
    rw [h1'] at this
    have := this _ rfl
    rw [h1] at this
    exact (Option.some.inj this).symm
  subst hrr
  unfold laws_FnExactLastingPlan.f
  simp only [laws_toVessel.f, Option.bind_some, h1, h2]
  rw [eqIntS_self (by omega) (by omega), Option.bind_some, if_pos rfl]
  simp only [laws_FnExactLastingPlan.j0, bne_self_eq_false, Bool.false_eq_true, if_false]
  rw [markIntS_ok (by omega) (by omega), Option.bind_some]
  simp only
  rw [heldIntS_ok (by omega) (by omega), Option.bind_some, if_neg (by omega), if_pos rfl]
  simp only [laws_toVessel.f, Option.bind_some, h1', h2']
  rw [eqIntS_self (by omega) (by omega), Option.bind_some, if_pos rfl]
  simp only [laws_FnExactLastingPlan.j1, bne_self_eq_false, Bool.false_eq_true, if_false]
  rw [heldIntS_ok (by omega) (by omega), Option.bind_some, if_neg (by omega), if_pos rfl]
end Go.Proofs.Ytpadckbjknjkaaa.Pure
