/- IsCandle: the program's answer is the reference's, for all candles. Conditions: none. -/
import Derived.Test.YtkefphfjeodgnaaBase
set_option linter.unusedVariables false
set_option linter.unusedSimpArgs false
namespace Go.Proofs.Ytkefphfjeodgnaa.Pure
open Go.RowKit Go.Proofs.Ytkefphfjeodgnaa.PA Go.Proofs.YtkefphfjeodgnaaW.PrintWords Go.Proofs.YtkefphfjeodgnaaW.PrintLast
theorem FnExactIsCandle : laws_FnExactIsCandle.Pure := by
  intro a b c _ _ _
  unfold laws_FnExactIsCandle.f
  simp only [toCandle_ok, Option.bind_some, isCandle_ok, impl_isCandle_ok]
  simp
end Go.Proofs.Ytkefphfjeodgnaa.Pure
