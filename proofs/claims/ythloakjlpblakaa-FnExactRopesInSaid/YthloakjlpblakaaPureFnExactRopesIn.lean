/- RopesIn: the program's answer is the reference's. Conditions: none. -/
import Derived.Test.YthloakjlpblakaaFP
set_option linter.unusedVariables false
set_option linter.unusedSimpArgs false
namespace Go.Proofs.Ythloakjlpblakaa.Pure
open Go.RowKit Go.Proofs.Ythloakjlpblakaa.PA Go.Proofs.Ythloakjlpblakaa.PB Go.Proofs.YthloakjlpblakaaW.PrintWords Go.Proofs.YthloakjlpblakaaW.PrintLast Go.Proofs.YthloakjlpblakaaW.PrintMore
theorem FnExactRopesIn : laws_FnExactRopesIn.Pure := by
  intro s _
  obtain ⟨B, hB⟩ : ∃ B, B = BIG := ⟨_, rfl⟩
  refine ⟨B + 4000, ?_⟩
  have H := parse_all (k := B + 4000) hB s (by omega)
  unfold laws_FnExactRopesIn.f
  split
  · rfl
  · unfold spec_RopesIn.f impl_RopesIn.f
    unfold ropesF
    rcases H with ⟨a, e1, e2, e3, e4⟩ | ⟨e1, q1, q2, q3, q4, e4⟩
    · rw [e4, e1]
      simp
    · rw [e4, e1]
      simp
end Go.Proofs.Ythloakjlpblakaa.Pure
