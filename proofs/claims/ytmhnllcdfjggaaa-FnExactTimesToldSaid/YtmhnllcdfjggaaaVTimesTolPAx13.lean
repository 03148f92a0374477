-- Printed by a program of this session's own.
import Derived.Test.YtmhnllcdfjggaaaVTimesTolPAx0
import Derived.Test.YtmhnllcdfjggaaaVTimesTolPAx1
import Derived.Test.YtmhnllcdfjggaaaVTimesTolPAx2
import Derived.Test.YtmhnllcdfjggaaaVTimesTolPAx9
import Derived.Test.YtmhnllcdfjggaaaVTimesTolPAx10
namespace Go.Proofs.Ytmhnllcdfjggaaa.PA
open Go.RowKit Go.Proofs.YtmhnllcdfjggaaaW.PrintWords Go.Proofs.YtmhnllcdfjggaaaW.PrintLast Go.Proofs.YtmhnllcdfjggaaaW.PrintMore Go.Proofs.YtmhnllcdfjggaaaX
attribute [local go_sem] max2_int min2_int max_two min_two  -- for this text's walks alone
set_option linter.unusedVariables false
set_option linter.unusedSimpArgs false

/-! ### laws_FnExactOutTogether: function 3 -/
def laws_FnExactOutTogether.B13 : List Nat := [0, 1, 0, 7, 0, 31, 63, 127, 127, 255, 1023]
end Go.Proofs.Ytmhnllcdfjggaaa.PA
