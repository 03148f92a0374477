/- FirstFuse: the program's answers are the reference's. Conditions: none. -/
import Derived.Test.YthloakjlpblakaaVFirstFusPureFnExactFewestRopes
set_option linter.unusedVariables false
set_option linter.unusedSimpArgs false
namespace Go.Proofs.Ythloakjlpblakaa.Pure
open Go.RowKit Go.Proofs.Ythloakjlpblakaa.PF Go.Proofs.YthloakjlpblakaaW.PrintWords Go.Proofs.YthloakjlpblakaaW.PrintLast
theorem first_all : PB.TS.all okFirst = true := by
  set_option maxRecDepth 100000 in kernel_rfl
theorem FnExactFirstFuse : laws_FnExactFirstFuse.Pure := by
  intro a b _ _
  by_cases h : ∃ t ∈ PB.TS, t.1 = a ∧ t.2 = b
  · obtain ⟨t, ht, rfl, rfl⟩ := h
    refine ⟨4000, ?_⟩
    have h1 := List.all_eq_true.1 first_all t ht
    unfold okFirst at h1
    unfold laws_FnExactFirstFuse.f laws_toIntA2.f impl_FirstFuse.f
    simp only [Option.bind_some, mFirst_eq]
    split at h1
    · rename_i x y x2 y2 e1 e2
      rw [Bool.and_eq_true, decide_eq_true_eq, beq_iff_eq] at h1
      rw [e1, e2]
      simp only [Option.bind_some, toList_eq]
      rw [if_pos h1.1, h1.2]; simp
    · exact absurd h1 (by decide)
  · obtain ⟨k, hk⟩ : ∃ k, k = BIG + 5000 := ⟨_, rfl⟩
    refine ⟨k, ?_⟩
    have hn : ∀ t ∈ PB.TS, ¬ (t.1 = a ∧ t.2 = b) := fun t ht e => h ⟨t, ht, e⟩
    obtain ⟨q, h1, h2⟩ := first_not a b hn k (by omega)
    unfold laws_FnExactFirstFuse.f laws_toIntA2.f impl_FirstFuse.f PB.firstTF spec_FirstFuse.f
    simp only [Option.bind_some]
    rw [h1, h2, Option.bind_some, find_not a b hn k (by omega)]
    cases q <;> simp
end Go.Proofs.Ythloakjlpblakaa.Pure
