-- Printed by a program of this session's own.
import Derived.Test.YtmhnllcdfjggaaaVOutTogetPAx0
import Derived.Test.YtmhnllcdfjggaaaVOutTogetPAx1
import Derived.Test.YtmhnllcdfjggaaaVOutTogetPAx9
import Derived.Test.YtmhnllcdfjggaaaVOutTogetPAx10
namespace Go.Proofs.Ytmhnllcdfjggaaa.PA
open Go.RowKit Go.Proofs.YtmhnllcdfjggaaaW.PrintWords Go.Proofs.YtmhnllcdfjggaaaW.PrintLast Go.Proofs.YtmhnllcdfjggaaaW.PrintMore Go.Proofs.YtmhnllcdfjggaaaX
attribute [local go_sem] max2_int min2_int max_two min_two  -- for this text's walks alone
set_option linter.unusedVariables false
set_option linter.unusedSimpArgs false

/-! ### laws_FnExactTimesTold: function 4 -/
def laws_FnExactTimesTold.B13 : List Nat := [0, 1, 0, 7, 0, 31, 63, 127, 127, 255, 1023]
end Go.Proofs.Ytmhnllcdfjggaaa.PA
