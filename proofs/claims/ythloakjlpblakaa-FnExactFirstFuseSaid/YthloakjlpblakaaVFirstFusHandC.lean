/- The reader of fuses. Conditions: those each lemma names. -/
import Derived.Test.YthloakjlpblakaaVFirstFusHandB
set_option linter.unusedVariables false
set_option linter.unusedSimpArgs false
namespace Go.Proofs.Ythloakjlpblakaa.PB
open Go.RowKit Go.Proofs.YthloakjlpblakaaW.PrintWords Go.Proofs.YthloakjlpblakaaW.PrintLast Go.Proofs.YthloakjlpblakaaW.PrintMore Go.Proofs.YthloakjlpblakaaX

theorem fpost_some {f : Nat} {args : Array Value} {w : World} {a : FT} (h : Calls Try.prog f args w (FPost w (some a))) :
    Calls Try.prog f args w fun e w' => ∃ g, e = .returned (.pointer (some ⟨g, 0, none⟩)) ∧ Aside0 (FRel w' (some g) (some a)) ∧ Aside0 (Below w.heap.size w w') :=
  h.mono fun e w' ⟨o, h1, h2, h3⟩ => match o, h1, h2 with
    | some g, h1, h2 => ⟨g, h1, ⟨h2⟩, ⟨h3⟩⟩
    | none, _, h2 => h2.elim
theorem fpost_none {f : Nat} {args : Array Value} {w : World} (h : Calls Try.prog f args w (FPost w none)) :
    Calls Try.prog f args w fun e w' => e = .returned (.pointer none) ∧ Aside0 (Below w.heap.size w w') :=
  h.mono fun e w' ⟨o, h1, h2, h3⟩ => match o, h1, h2 with
    | none, h1, _ => ⟨h1, ⟨h3⟩⟩
    | some _, _, h2 => h2.elim
end Go.Proofs.Ythloakjlpblakaa.PB
