-- Printed by a program of this session's own.
import Derived.Test.YthloakjlpblakaaDoorPBx0
import Derived.Test.YthloakjlpblakaaDoorPBx1
namespace Go.Proofs.YthloakjlpblakaaDoor.PB
open Go.RowKit Go.Proofs.YthloakjlpblakaaDoorW.PrintWords Go.Proofs.YthloakjlpblakaaDoorW.PrintLast Go.Proofs.YthloakjlpblakaaDoorW.PrintMore Go.Proofs.YthloakjlpblakaaDoorX
attribute [local go_sem] max2_int min2_int max_two min_two max_three min_three max_four min_four   -- for this text's walks alone
set_option linter.unusedVariables false
set_option linter.unusedSimpArgs false

end Go.Proofs.YthloakjlpblakaaDoor.PB
