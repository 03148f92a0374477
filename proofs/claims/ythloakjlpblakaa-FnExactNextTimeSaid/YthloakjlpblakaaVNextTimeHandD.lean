/- The fuses that texts tell: their contracts. Conditions: those each lemma names. -/
import Derived.Test.YthloakjlpblakaaVNextTimeHandB
import Derived.Deep.QuietTactic
import Derived.BigQuiet
set_option linter.unusedVariables false
set_option linter.unusedSimpArgs false
namespace Go.Proofs.Ythloakjlpblakaa.PB
open Go.RowKit Go.Proofs.YthloakjlpblakaaW.PrintWords Go.Proofs.YthloakjlpblakaaW.PrintLast Go.Proofs.YthloakjlpblakaaW.PrintMore Go.Proofs.YthloakjlpblakaaX

/-- The fuse's text with all ropes turned. -/
def FT.turn : FT → ByteArray
  | .spark => ⟨#[46]⟩
  | .node _ _ a b => (((⟨#[40]⟩ : ByteArray) ++ b.turn) ++ a.turn) ++ ⟨#[41]⟩
/-! ### More rounds tell the same -/
end Go.Proofs.Ythloakjlpblakaa.PB
