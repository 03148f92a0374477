/- FewestFillings: the program's answer is the reference's. Conditions: none. -/
import Derived.Test.YtpadckbjknjkaaaPlan
set_option linter.unusedVariables false
set_option linter.unusedSimpArgs false
namespace Go.Proofs.Ytpadckbjknjkaaa.Pure
open Go.RowKit Go.Proofs.Ytpadckbjknjkaaa.PA Go.Proofs.Ytpadckbjknjkaaa.PL Go.Proofs.YtpadckbjknjkaaaW.PrintWords Go.Proofs.YtpadckbjknjkaaaW.PrintLast
theorem FnExactFewestFillings : laws_FnExactFewestFillings.Pure := by
  intro a b c n _ _ _ _
  refine ⟨1000, ?_⟩
  obtain ⟨r, h1, h2, _⟩ := plan_ok (Nat.le_refl 1000) a b c n
  unfold laws_FnExactFewestFillings.f spec_FewestFillings.f impl_FewestFillings.f
  simp only [laws_toVessel.f, Option.bind_some, h1, h2]
  simp
end Go.Proofs.Ytpadckbjknjkaaa.Pure
