/- LengthAt: the program's answer is the reference's, for all candles and times. Conditions: none. -/
import Derived.Test.YtkefphfjeodgnaaBase2
import Derived.Test.YtkefphfjeodgnaaPAx10
set_option linter.unusedVariables false
set_option linter.unusedSimpArgs false
namespace Go.Proofs.Ytkefphfjeodgnaa.Pure
open Go.RowKit Go.Proofs.Ytkefphfjeodgnaa.PA Go.Proofs.YtkefphfjeodgnaaW.PrintWords Go.Proofs.YtkefphfjeodgnaaW.PrintLast
theorem FnExactLengthAt : laws_FnExactLengthAt.Pure := by
  intro a b c t u _ _ _ _ _
  refine ⟨BIG, ?_⟩
  have hk : BIG ≤ BIG := Nat.le_refl _
  unfold laws_FnExactLengthAt.f spec_LengthAt.f impl_LengthAt.f
  simp only [toCandle_ok, toA2_ok, Option.bind_some, cand_ok, impl_isCandle_ok, specTime_ok hk, implTime_ok hk]
  by_cases h : Cand a b c
  · by_cases h2 : Mom t u
    · simp only [h, h2, decide_true, if_true, specLen_ok hk h h2, implLen_ok hk h h2, Option.bind_some, eqA2_self]
      simp
    · simp [h, h2, eqA2_self]
  · simp [h, eqA2_self]
end Go.Proofs.Ytkefphfjeodgnaa.Pure
