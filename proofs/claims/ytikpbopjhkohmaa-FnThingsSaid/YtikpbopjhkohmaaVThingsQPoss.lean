/- PossibleActs: the program's answer is the reference's, and it holds nothing of its argument. Conditions: none. -/
import Derived.Test.YtikpbopjhkohmaaVThingsBase
import Derived.Test.YtikpbopjhkohmaaVThingsLists
import Derived.Test.YtikpbopjhkohmaaVThingsPTx0
import Derived.Test.YtikpbopjhkohmaaVThingsPTx1
import Derived.Test.YtikpbopjhkohmaaVThingsPTx2
import Derived.Test.YtikpbopjhkohmaaVThingsPTx3
import Derived.Test.YtikpbopjhkohmaaVThingsPTx4
import Derived.Test.YtikpbopjhkohmaaVThingsPTx5
import Derived.Test.YtikpbopjhkohmaaVThingsPTx6
import Derived.Test.YtikpbopjhkohmaaVThingsPTx7
import Derived.Test.YtikpbopjhkohmaaVThingsPTx8
import Derived.Test.YtikpbopjhkohmaaVThingsPTx9
import Derived.Test.YtikpbopjhkohmaaVThingsPTx10
import Derived.Test.YtikpbopjhkohmaaVThingsPTx11
import Derived.Test.YtikpbopjhkohmaaVThingsPTx12
set_option linter.unusedVariables false
set_option linter.unusedSimpArgs false
namespace Go.Proofs.Ytikpbopjhkohmaa.Pure
open Go.RowKit Go.Proofs.Ytikpbopjhkohmaa.PT Go.Proofs.Ytikpbopjhkohmaa.PL Go.Proofs.YtikpbopjhkohmaaW.PrintWords Go.Proofs.YtikpbopjhkohmaaW.PrintLast Go.Proofs.YtikpbopjhkohmaaW.PrintMore
/-- An act is possible. -/
def can (x : S45) : Bool := decide (x.f0 = 1 ∨ (x.f0 = 2 ∧ 0 < x.f2 ∧ x.f3 < 2) ∨ (x.f0 = 3 ∧ 0 < x.f2))
theorem specCan2_ok {x : S45} (h : Thg x) : spec_l8Can.f x.f0 x.f1 x.f2 x.f3 = some (can x) := by
  obtain ⟨_, _, _, h4⟩ := h
  unfold spec_l8Can.f can
  by_cases h2 : x.f0 = 2
  · rw [if_pos h2]
    by_cases h5 : x.f2 > 0
    · rw [if_pos h5]
      congr 1
      rw [decide_eq_decide]
      omega
    · rw [if_neg h5]
      congr 1
      symm
      exact decide_eq_false (by omega)
  · rw [if_neg h2]
    by_cases h3 : x.f0 = 3
    · rw [if_pos h3]
      congr 1
      rw [decide_eq_decide]
      omega
    · rw [if_neg h3]
      congr 1
      symm
      exact decide_eq_true (by omega)
theorem actF_can (x : S45) : ∃ a b c d, impl_Thing_act.f x.f0 x.f1 x.f2 x.f3 = some (can x, a, b, c, d) := by
  unfold impl_Thing_act.f actF can actW
  by_cases h1 : x.f0 = 1
  · rw [if_pos h1, decide_eq_true (Or.inl h1)]
    exact ⟨_, _, _, _, rfl⟩
  · rw [if_neg h1]
    by_cases h2 : x.f0 = 2 ∧ 0 < x.f2 ∧ x.f3 < 2
    · rw [if_pos h2, decide_eq_true (Or.inr (Or.inl h2))]
      exact ⟨_, _, _, _, rfl⟩
    · rw [if_neg h2]
      by_cases h3 : x.f0 = 3 ∧ 0 < x.f2
      · rw [if_pos h3, decide_eq_true (Or.inr (Or.inr h3))]
        exact ⟨_, _, _, _, rfl⟩
      · rw [if_neg h3, decide_eq_false (by rintro (h | h | h) <;> contradiction)]
        exact ⟨_, _, _, _, rfl⟩
end Go.Proofs.Ytikpbopjhkohmaa.Pure
