/- OutAt: the program's answer is the reference's, for all candles. Conditions: none. -/
import Derived.Test.YtkefphfjeodgnaaBase
set_option linter.unusedVariables false
set_option linter.unusedSimpArgs false
namespace Go.Proofs.Ytkefphfjeodgnaa.Pure
open Go.RowKit Go.Proofs.Ytkefphfjeodgnaa.PA Go.Proofs.YtkefphfjeodgnaaW.PrintWords Go.Proofs.YtkefphfjeodgnaaW.PrintLast
theorem FnExactOutAt : laws_FnExactOutAt.Pure := by
  intro a b c _ _ _
  refine ⟨BIG, ?_⟩
  have hk : BIG ≤ BIG := Nat.le_refl _
  unfold laws_FnExactOutAt.f spec_OutAt.f impl_OutAt.f
  simp only [toCandle_ok, Option.bind_some, cand_ok, impl_isCandle_ok]
  by_cases h : Cand a b c
  · simp only [h, decide_true, if_true, specOut_ok hk h, implOut_ok hk h, Option.bind_some, eqA2_self]
    simp
  · simp only [h, decide_false, Option.bind_some, eqA2_self]
    simp [eqA2_self]
end Go.Proofs.Ytkefphfjeodgnaa.Pure
