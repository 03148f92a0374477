/- AreVessels: the program's answer is the reference's, for all lists. Conditions: none. -/
import Derived.Test.YtpadckbjknjkaaaBase
set_option linter.unusedVariables false
set_option linter.unusedSimpArgs false
namespace Go.Proofs.Ytpadckbjknjkaaa.Pure
open Go.RowKit Go.Proofs.Ytpadckbjknjkaaa.PA Go.Proofs.Ytpadckbjknjkaaa.PL Go.Proofs.YtpadckbjknjkaaaW.PrintWords Go.Proofs.YtpadckbjknjkaaaW.PrintLast
theorem FnExactAreVessels : laws_FnExactAreVessels.Pure := by
  intro xs _ hxs
  unfold laws_FnExactAreVessels.f
  by_cases hx : xs.length ≤ 1048576
  · refine ⟨2097152, ?_⟩
    obtain ⟨n, hn⟩ := szVesselS_ex xs
    rw [hn, Option.bind_some]
    split
    · rfl
    · rw [toVesselS_ok hx (by omega), Option.bind_some]
      have hm : (xs.map convVessel).length ≤ 1048576 := by simpa using hx
      unfold spec_AreVessels.f
      rw [specGood_ok (by omega), Option.bind_some, Option.bind_some, Option.bind_some, implGood_ok (by omega) (by omega), Option.bind_some]
      simp only [bne_self_eq_false, Bool.false_eq_true, if_false]
      rw [Option.bind_some, eqVesselS_self (by omega) (by omega)]
      rfl
  · refine ⟨1, ?_⟩
    rw [szVesselS_far (by omega) hxs]
    rfl
end Go.Proofs.Ytpadckbjknjkaaa.Pure
