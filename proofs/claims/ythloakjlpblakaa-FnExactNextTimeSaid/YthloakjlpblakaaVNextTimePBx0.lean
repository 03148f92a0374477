-- Printed by a program of this session's own.
import Derived.Test.YthloakjlpblakaaProg
import Derived.Below
import Derived.Deep.Draws
import Derived.Deep.AppendLies
import Derived.Maps.AppendAt
import Derived.OwnWalk
import Derived.Laws.BytesArg
import Derived.Laws.MakeOwn
import Derived.Laws.OwnMore
import Derived.Deep.OwnRows
import Derived.Tactics
import Derived.Lib.ConvBytes
import Derived.Laws.Slices
import Derived.WalkKit
import Derived.KernelRfl
import Derived.RowKit3
import Derived.Deep.LoopGhost
import Derived.Deep.QuietTactic
import Derived.BigQuiet
import Derived.WideLaws
import Derived.Deep.DeepCutAuto
import Derived.Deep.CutBlock
import Derived.Deep.RegionHeld3
import Derived.Laws.Rows
import Derived.Lib.AppendStr
import Derived.ArgAppend
import Derived.Laws.IdiomCopy
import Derived.OrdersHeld
import Derived.Laws.BitsLemmas
import Derived.RowKit
import Derived.Test.YthloakjlpblakaaVNextTimeWWords
import Derived.Test.YthloakjlpblakaaVNextTimeWLast
import Derived.Test.YthloakjlpblakaaVNextTimeWTab


import Derived.Test.YthloakjlpblakaaVNextTimeWApart
import Derived.Test.YthloakjlpblakaaVNextTimeWArr
import Derived.Test.YthloakjlpblakaaVNextTimeWZeros
import Derived.Test.YthloakjlpblakaaVNextTimeWFoot
import Derived.Test.YthloakjlpblakaaVNextTimeWKept
import Derived.Test.YthloakjlpblakaaVNextTimeWShare
import Derived.Test.YthloakjlpblakaaVNextTimeWN


import Derived.Laws.StructEq
import Derived.Test.YthloakjlpblakaaVNextTimeWRepsOne
import Derived.Test.YthloakjlpblakaaVNextTimeWInv

import Derived.Test.YthloakjlpblakaaVNextTimeWGuard
import Derived.Test.YthloakjlpblakaaVNextTimeWNEv
import Derived.Test.YthloakjlpblakaaVNextTimeWMore
import Derived.Test.YthloakjlpblakaaVNextTimeXArr
namespace Go.Proofs.Ythloakjlpblakaa.PB
open Go.RowKit Go.Proofs.YthloakjlpblakaaW.PrintWords Go.Proofs.YthloakjlpblakaaW.PrintLast Go.Proofs.YthloakjlpblakaaW.PrintMore Go.Proofs.YthloakjlpblakaaX
attribute [local go_sem] max2_int max_two  -- for this text's walks alone
set_option linter.unusedVariables false
set_option linter.unusedSimpArgs false



def errW : Option Int → Value
  | none => .nilIface
  | some c => .iface 0 (.int .i64 c)
theorem errW_none : errW none = .nilIface := rfl
theorem errW_some (c : Int) : errW (some c) = .iface 0 (.int .i64 c) := rfl

-- the values' own types

end Go.Proofs.Ythloakjlpblakaa.PB
