-- Printed by a program of this session's own.
import Derived.Test.YthloakjlpblakaaPGx0
import Derived.Test.YthloakjlpblakaaPGx1
import Derived.Test.YthloakjlpblakaaPGx2
import Derived.Test.YthloakjlpblakaaPGx3
import Derived.Test.YthloakjlpblakaaPGx4
import Derived.Test.YthloakjlpblakaaPGx5
import Derived.Test.YthloakjlpblakaaPGx6
namespace Go.Proofs.Ythloakjlpblakaa.PG
open Go.RowKit Go.Proofs.YthloakjlpblakaaW.PrintWords Go.Proofs.YthloakjlpblakaaW.PrintLast Go.Proofs.YthloakjlpblakaaW.PrintMore Go.Proofs.YthloakjlpblakaaX
attribute [local go_sem] max2_int min2_int max_two min_two max_three min_three max_four min_four   -- for this text's walks alone
set_option linter.unusedVariables false
set_option linter.unusedSimpArgs false

end Go.Proofs.Ythloakjlpblakaa.PG
