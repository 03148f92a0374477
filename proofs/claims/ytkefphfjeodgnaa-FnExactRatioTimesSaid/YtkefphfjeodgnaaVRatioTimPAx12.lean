-- Printed by a program of this session's own.
import Derived.Test.YtkefphfjeodgnaaVRatioTimPAx0
import Derived.Test.YtkefphfjeodgnaaVRatioTimPAx2
import Derived.Test.YtkefphfjeodgnaaVRatioTimPAx3
import Derived.Test.YtkefphfjeodgnaaVRatioTimPAx5

namespace Go.Proofs.Ytkefphfjeodgnaa.PA
open Go.RowKit Go.Proofs.YtkefphfjeodgnaaW.PrintWords Go.Proofs.YtkefphfjeodgnaaW.PrintLast Go.Proofs.YtkefphfjeodgnaaW.PrintMore Go.Proofs.YtkefphfjeodgnaaX
attribute [local go_sem] max2_int max_two  -- for this text's walks alone
set_option linter.unusedVariables false
set_option linter.unusedSimpArgs false

/-! ### impl_Candle_burns: function 124 -/
def impl_Candle_burns.f (k : Nat) (a0_0 : Int) (a0_1 : Int) (a0_2 : Int) (a1_0 : Int) (a1_1 : Int) : Option (Bool) := (impl_whole.f a0_2).bind fun bt346 => ((impl_less.f a1_0 a1_1 bt346.1 bt346.2).bind fun t348 => (if t348 = true then (some false) else ((impl_Candle_out.f k a0_0 a0_1 a0_2).bind fun bt349 => ((impl_less.f a1_0 a1_1 bt349.1 bt349.2).bind fun t351 => (some t351)))))
/-! ### impl_burning: function 112 -/
/-! ### impl_BurningAt: function 52 -/
/-! ### spec_l7List: function 104 -/
end Go.Proofs.Ytkefphfjeodgnaa.PA
