/- DoActs: the program's answer is the reference's, and it holds nothing of its arguments. Conditions: none. -/
import Derived.Test.YtikpbopjhkohmaaVThingsActs
import Derived.Test.YtikpbopjhkohmaaVThingsLists
import Derived.Test.YtikpbopjhkohmaaVThingsPTx0
import Derived.Test.YtikpbopjhkohmaaVThingsPTx1
import Derived.Test.YtikpbopjhkohmaaVThingsPTx2
import Derived.Test.YtikpbopjhkohmaaVThingsPTx3
import Derived.Test.YtikpbopjhkohmaaVThingsPTx4
import Derived.Test.YtikpbopjhkohmaaVThingsPTx5
import Derived.Test.YtikpbopjhkohmaaVThingsPTx6
import Derived.Test.YtikpbopjhkohmaaVThingsPTx7
import Derived.Test.YtikpbopjhkohmaaVThingsPTx8
import Derived.Test.YtikpbopjhkohmaaVThingsPTx9
import Derived.Test.YtikpbopjhkohmaaVThingsPTx10
import Derived.Test.YtikpbopjhkohmaaVThingsPTx11
import Derived.Test.YtikpbopjhkohmaaVThingsPTx12
set_option linter.unusedVariables false
set_option linter.unusedSimpArgs false
namespace Go.Proofs.Ytikpbopjhkohmaa.Pure
open Go.RowKit Go.Proofs.Ytikpbopjhkohmaa.PT Go.Proofs.Ytikpbopjhkohmaa.PL Go.Proofs.YtikpbopjhkohmaaW.PrintWords Go.Proofs.YtikpbopjhkohmaaW.PrintLast Go.Proofs.YtikpbopjhkohmaaW.PrintMore
theorem specActs_step {xs : List S45} (h : good xs = true) {l : List Int} {k i : Nat} {a : Int} (ha : l[i]? = some a) (hi : i ≤ 4611686018427387904) :
    spec_l8Acts.l0 (k + 1) l xs (i : Int) = match acted xs a with | some ys => spec_l8Acts.l0 k l ys ((i + 1 : Nat) : Int) | none => some (xs, (i : Int)) := by
  have hi1 := lt_of ha
  simp only [spec_l8Acts.l0]
  rw [if_pos (by omega), if_pos (by omega), rdI ha, specActed_ok h, Option.bind_some, wrS i hi]
  cases acted xs a <;> simp
end Go.Proofs.Ytikpbopjhkohmaa.Pure
