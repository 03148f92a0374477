/- TurnFuse: the program's answer is the reference's. Conditions: none. -/
import Derived.Test.YthloakjlpblakaaFP
set_option linter.unusedVariables false
set_option linter.unusedSimpArgs false
namespace Go.Proofs.Ythloakjlpblakaa.Pure
open Go.RowKit Go.Proofs.Ythloakjlpblakaa.PA Go.Proofs.Ythloakjlpblakaa.PB Go.Proofs.YthloakjlpblakaaW.PrintWords Go.Proofs.YthloakjlpblakaaW.PrintLast Go.Proofs.YthloakjlpblakaaW.PrintMore
theorem FnExactTurnFuse : laws_FnExactTurnFuse.Pure := by
  intro s _
  obtain ⟨B, hB⟩ : ∃ B, B = BIG := ⟨_, rfl⟩
  refine ⟨B + 4000, ?_⟩
  have H := parse_all (k := B + 4000) hB s (by omega)
  unfold laws_FnExactTurnFuse.f
  split
  · rfl
  · unfold spec_TurnFuse.f impl_TurnFuse.f
    unfold turnF spec_IsFuse.f
    rcases H with ⟨a, e1, e2, e3, e4⟩ | ⟨e1, q1, q2, q3, q4, e4⟩
    · have la := txt_len a
      have ra := e2.ropes
      have ht := turn_go hB a e2 [] (B + 4000) (by rw [List.append_nil]; omega) (by omega)
      rw [List.append_nil, ← e3] at ht
      rw [e4, e1]
      simp [ht]
    · rw [e4, e1]
      simp
end Go.Proofs.Ythloakjlpblakaa.Pure
