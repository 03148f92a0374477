-- Printed by a program of this session's own.
import Derived.Test.YtkefphfjeodgnaaVChainCanPAx0
import Derived.Test.YtkefphfjeodgnaaVChainCanPAx2
import Derived.Test.YtkefphfjeodgnaaVChainCanPAx3
import Derived.Test.YtkefphfjeodgnaaVChainCanPAx5
import Derived.Test.YtkefphfjeodgnaaVChainCanPAx16
import Derived.Test.YtkefphfjeodgnaaVChainCanPAx17
namespace Go.Proofs.Ytkefphfjeodgnaa.PA
open Go.RowKit Go.Proofs.YtkefphfjeodgnaaW.PrintWords Go.Proofs.YtkefphfjeodgnaaW.PrintLast Go.Proofs.YtkefphfjeodgnaaW.PrintMore Go.Proofs.YtkefphfjeodgnaaX
attribute [local go_sem] max2_int max_two  -- for this text's walks alone
set_option linter.unusedVariables false
set_option linter.unusedSimpArgs false

/-! ### laws_FnExactLightTotal: function 8 -/
/-! ### impl_Candle_burns: function 124 -/
/-! ### impl_burning: function 112 -/
/-! ### impl_BurningAt: function 52 -/
end Go.Proofs.Ytkefphfjeodgnaa.PA
