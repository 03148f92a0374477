-- Printed by a program of this session's own.
import Derived.Test.YtkefphfjeodgnaaVChainCanPAx0
import Derived.Test.YtkefphfjeodgnaaVChainCanPAx4
import Derived.Test.YtkefphfjeodgnaaVChainCanPAx5
import Derived.Test.YtkefphfjeodgnaaVChainCanPAx12
import Derived.Test.YtkefphfjeodgnaaVChainCanPAx16
import Derived.Test.YtkefphfjeodgnaaVChainCanPAx17
import Derived.Test.YtkefphfjeodgnaaVChainCanPAx18
namespace Go.Proofs.Ytkefphfjeodgnaa.PA
open Go.RowKit Go.Proofs.YtkefphfjeodgnaaW.PrintWords Go.Proofs.YtkefphfjeodgnaaW.PrintLast Go.Proofs.YtkefphfjeodgnaaW.PrintMore Go.Proofs.YtkefphfjeodgnaaX
attribute [local go_sem] max2_int max_two  -- for this text's walks alone
set_option linter.unusedVariables false
set_option linter.unusedSimpArgs false

/-! ### spec_l7Many: function 113 -/
/-! ### spec_BurningAt: function 53 -/
/-! ### laws_FnExactBurningAt: function 11 -/
end Go.Proofs.Ytkefphfjeodgnaa.PA
