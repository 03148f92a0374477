/- FirstRopePlan: the program's answer is the reference's. Conditions: none. -/
import Derived.Test.YthoblgccnkjnoaaVFirstRopRopeD
import Derived.Test.YthoblgccnkjnoaaVFirstRopListsJ
set_option linter.unusedVariables false
set_option linter.unusedSimpArgs false
namespace Go.Proofs.Ythoblgccnkjnoaa.Pure
open Go.RowKit Go.Proofs.Ythoblgccnkjnoaa.PA Go.Proofs.Ythoblgccnkjnoaa.PL Go.Proofs.YthoblgccnkjnoaaW.PrintWords Go.Proofs.YthoblgccnkjnoaaW.PrintLast Go.Proofs.YthoblgccnkjnoaaW.PrintMore
theorem toRopes_eq (a b c d e f : Int) : laws_toRopes.f a b c d e f = some (a, b, c, d, e, f) := rfl
theorem FnExactFirstRopePlan : laws_FnExactFirstRopePlan.Pure := by
  intro a0 a1 a2 a3 a4 a5 T _ _ _ _ _ _ _
  refine ⟨200010, ?_⟩
  obtain ⟨K, hK⟩ : ∃ K, K = 200008 := ⟨_, rfl⟩
  rw [show (200010 : Nat) = K + 1 + 1 by omega]
  obtain ⟨A, hA⟩ : ∃ A : List S22 × Bool, A = if goodB ⟨a0, a1, a2, a3, a4, a5⟩ = true then ((outB (planA T ⟨a0, a1, a2, a3, a4, a5⟩)).2, (outB (planA T ⟨a0, a1, a2, a3, a4, a5⟩)).1) else ([], false) := ⟨_, rfl⟩
  have hl : A.1.length ≤ 3 := by
    rw [hA]
    split
    · rename_i hg
      exact planA_len ((goodB_iff _).1 hg)
    · exact Nat.zero_le _
  have hs : ∀ k, 200000 ≤ k → spec_FirstRopePlan.f k a0 a1 a2 a3 a4 a5 T = some A := fun k hk => by rw [hA]; exact firstRope_s ⟨a0, a1, a2, a3, a4, a5⟩ T k hk
  have hi : ∀ k, 1000 ≤ k → impl_FirstRopePlan.f k a0 a1 a2 a3 a4 a5 T = some A := fun k hk => by rw [hA]; exact firstRopeF_eq ⟨a0, a1, a2, a3, a4, a5⟩ T k hk
  clear hA
  obtain ⟨L, b⟩ := A
  have hl' : L.length ≤ 3 := hl
  have hm : ∀ k, 10 ≤ k → laws_markIntA3S.f k L 1 = some (((1 + 3 * L.length : Nat) : Int), marked mkIntA3 3 L.length) := fun k hk => markIntA3S_ok (by omega) (by omega)
  have hh : ∀ k, 10 ≤ k → laws_heldIntA3S.f k (marked mkIntA3 3 L.length) 1 = some ((1 + 3 * L.length : Nat) : Int) := fun k hk => heldIntA3S_ok (by omega) (by omega)
  have he : ∀ k, 10 ≤ k → laws_eqIntA3S.f k L L = some true := fun k hk => eqIntA3S_self (by omega) (by omega)
  unfold laws_FnExactFirstRopePlan.f
  rw [toRopes_eq, Option.bind_some, hs (K + 1 + 1) (by omega), Option.bind_some, Option.bind_some, hi (K + 1 + 1) (by omega), Option.bind_some, he (K + 1 + 1) (by omega), Option.bind_some, if_pos rfl]
  have hb : (b != b) = false := by cases b <;> rfl
  dsimp only
  rw [hb, laws_FnExactFirstRopePlan.j0, if_neg Bool.false_ne_true, hm (K + 1) (by omega), Option.bind_some]
  dsimp only
  rw [hh (K + 1) (by omega), Option.bind_some, if_neg (by omega), if_pos rfl, toRopes_eq, Option.bind_some]
  dsimp only
  rw [hi (K + 1) (by omega), Option.bind_some]
  dsimp only
  rw [he (K + 1) (by omega), Option.bind_some, if_pos rfl, hb, laws_FnExactFirstRopePlan.j1, if_neg Bool.false_ne_true, hh K (by omega), Option.bind_some, if_neg (by omega), if_pos rfl]
end Go.Proofs.Ythoblgccnkjnoaa.Pure
