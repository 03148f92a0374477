/- RopeTimes: the program's answer is the reference's. Conditions: none. -/
import Derived.Test.YthoblgccnkjnoaaVRopeTimTRopeT
import Derived.Test.YthoblgccnkjnoaaVRopeTimListsI
set_option linter.unusedVariables false
set_option linter.unusedSimpArgs false
namespace Go.Proofs.Ythoblgccnkjnoaa.Pure
open Go.RowKit Go.Proofs.Ythoblgccnkjnoaa.PT Go.Proofs.Ythoblgccnkjnoaa.PL Go.Proofs.YthoblgccnkjnoaaW.PrintWords Go.Proofs.YthoblgccnkjnoaaW.PrintLast Go.Proofs.YthoblgccnkjnoaaW.PrintMore
theorem toRopes_id (a b c d e f : Int) : laws_toRopes.f a b c d e f = some (a, b, c, d, e, f) := rfl
theorem FnExactRopeTimes : laws_FnExactRopeTimes.Pure := by
  intro a0 a1 a2 a3 a4 a5 _ _ _ _ _ _
  refine ⟨3000010, ?_⟩
  obtain ⟨K, hK⟩ : ∃ K, K = 3000008 := ⟨_, rfl⟩
  rw [show (3000010 : Nat) = K + 1 + 1 by omega]
  obtain ⟨A, hA⟩ : ∃ A : List Int × Bool, A = if goodB ⟨a0, a1, a2, a3, a4, a5⟩ = true then (allT ⟨a0, a1, a2, a3, a4, a5⟩, true) else ([], false) := ⟨_, rfl⟩
  have hl : A.1.length ≤ 60000 := by
    rw [hA]
    split
    · exact allT_len _
    · exact Nat.zero_le _
  have hs : ∀ k, 3000000 ≤ k → spec_RopeTimes.f k a0 a1 a2 a3 a4 a5 = some A := fun k hk => by
    have hG := l5Good_eq (k - 3) ⟨a0, a1, a2, a3, a4, a5⟩
    rw [show k - 3 + 3 = k by omega] at hG
    dsimp only at hG
    unfold spec_RopeTimes.f
    rw [hG, Option.bind_some, hA]
    by_cases hg : goodB ⟨a0, a1, a2, a3, a4, a5⟩ = true
    · have hT := l5Times_eq ⟨a0, a1, a2, a3, a4, a5⟩ ((goodB_iff _).1 hg) k hk
      dsimp only at hT
      rw [if_pos hg, if_pos hg, hT, Option.bind_some]
    · rw [if_neg hg, if_neg hg]
  have hi : ∀ k, 1000 ≤ k → impl_RopeTimes.f k a0 a1 a2 a3 a4 a5 = some A := fun k hk => by rw [hA]; exact timesF_eq ⟨a0, a1, a2, a3, a4, a5⟩ k hk
  clear hA
  obtain ⟨L, b⟩ := A
  have hl' : L.length ≤ 60000 := hl
  have hm : ∀ k, 100000 ≤ k → laws_markIntS.f k L 1 = some (((1 + 1 * L.length : Nat) : Int), marked (fun c => c) 1 L.length) := fun k hk => markIntS_ok (by omega) (by omega)
  have hh : ∀ k, 100000 ≤ k → laws_heldIntS.f k (marked (fun c => c) 1 L.length) 1 = some ((1 + 1 * L.length : Nat) : Int) := fun k hk => heldIntS_ok (by omega) (by omega)
  have he : ∀ k, 100000 ≤ k → laws_eqIntS.f k L L = some true := fun k hk => eqIntS_self (by omega) (by omega)
  unfold laws_FnExactRopeTimes.f
  rw [toRopes_id, Option.bind_some]
  dsimp only
  rw [hs (K + 1 + 1) (by omega), Option.bind_some, Option.bind_some]
  dsimp only
  rw [hi (K + 1 + 1) (by omega), Option.bind_some]
  dsimp only
  rw [he (K + 1 + 1) (by omega), Option.bind_some, if_pos rfl]
  have hb : (b != b) = false := by cases b <;> rfl
  rw [hb, laws_FnExactRopeTimes.j0, if_neg Bool.false_ne_true, hm (K + 1) (by omega), Option.bind_some]
  dsimp only
  rw [hh (K + 1) (by omega), Option.bind_some, if_neg (by omega), if_pos rfl, toRopes_id, Option.bind_some]
  dsimp only
  rw [hi (K + 1) (by omega), Option.bind_some]
  dsimp only
  rw [he (K + 1) (by omega), Option.bind_some, if_pos rfl, hb, laws_FnExactRopeTimes.j1, if_neg Bool.false_ne_true, hh K (by omega), Option.bind_some, if_neg (by omega), if_pos rfl]
end Go.Proofs.Ythoblgccnkjnoaa.Pure
