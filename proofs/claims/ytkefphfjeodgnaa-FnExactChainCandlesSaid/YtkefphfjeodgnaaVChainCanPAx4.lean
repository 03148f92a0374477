-- Printed by a program of this session's own.
import Derived.Test.YtkefphfjeodgnaaVChainCanPAx0
import Derived.Test.YtkefphfjeodgnaaVChainCanPAx1
import Derived.Test.YtkefphfjeodgnaaVChainCanPAx2
namespace Go.Proofs.Ytkefphfjeodgnaa.PA
open Go.RowKit Go.Proofs.YtkefphfjeodgnaaW.PrintWords Go.Proofs.YtkefphfjeodgnaaW.PrintLast Go.Proofs.YtkefphfjeodgnaaW.PrintMore Go.Proofs.YtkefphfjeodgnaaX
attribute [local go_sem] max2_int max_two  -- for this text's walks alone
set_option linter.unusedVariables false
set_option linter.unusedSimpArgs false


/-! ### spec_l7Time: function 76 -/
/-! ### spec_l2Less: function 77 -/
/-! ### spec_l2Minus: function 78 -/
/-! ### spec_l2Plus: function 79 -/
end Go.Proofs.Ytkefphfjeodgnaa.PA
