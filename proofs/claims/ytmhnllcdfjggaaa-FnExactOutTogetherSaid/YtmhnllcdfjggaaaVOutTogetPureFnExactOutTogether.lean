/- OutTogether: the program's answer is the reference's. Conditions: none. -/
import Derived.Test.YtmhnllcdfjggaaaVOutTogetStepE
import Derived.Test.YtmhnllcdfjggaaaVOutTogetListsI
set_option linter.unusedVariables false
set_option linter.unusedSimpArgs false
namespace Go.Proofs.Ytmhnllcdfjggaaa.Pure
open Go.RowKit Go.Proofs.Ytmhnllcdfjggaaa.PA Go.Proofs.Ytmhnllcdfjggaaa.PL Go.Proofs.YtmhnllcdfjggaaaW.PrintWords Go.Proofs.YtmhnllcdfjggaaaW.PrintLast Go.Proofs.YtmhnllcdfjggaaaW.PrintMore Go.Proofs.Ytmhnllcdfjggaaa.TT Go.Proofs.Ytmhnllcdfjggaaa.Mp Go.Proofs.Ytmhnllcdfjggaaa.Lv
theorem toKit_idOutTogether (a b c d : Int) : laws_toKit.f a b c d = some (a, b, c, d) := rfl
theorem toA4_idOutTogether (a b c d : Int) : laws_toIntA4.f a b c d = some (a, b, c, d) := rfl
theorem FnExactOutTogether : laws_FnExactOutTogether.Pure := by
 intro a0 a1 a2 a3 b0 b1 b2 b3 most _ _ _ _ _ _ _ _ _
 obtain ⟨C, hC⟩ : ∃ C : Nat, ∀ m, m ≤ 41000 → 60 * m + 80 ≤ C := ⟨60 * 41000 + 80, fun m hm => Nat.add_le_add_right (Nat.mul_le_mul_left 60 hm) 80⟩
 obtain ⟨B, hB⟩ : ∃ B : Nat, ∀ m, m ≤ 41000 → 2 * m + 30 ≤ B := ⟨2 * 41000 + 30, fun m hm => Nat.add_le_add_right (Nat.mul_le_mul_left 2 hm) 30⟩
 obtain ⟨F, hF⟩ : ∃ F : Nat, ∀ m, m ≤ 600000 → 2 * m + 30 ≤ F := ⟨2 * 600000 + 30, fun m hm => Nat.add_le_add_right (Nat.mul_le_mul_left 2 hm) 30⟩
 obtain ⟨K0, hK0⟩ : ∃ K0, K0 = C + F + B * 12 + 1000 := ⟨_, rfl⟩
 refine ⟨K0 + 1 + 1, ?_⟩
 obtain ⟨g, hg1, hg2, hg3⟩ := guard_go ⟨a0, a1, a2, a3⟩ ⟨b0, b1, b2, b3, 0⟩ most
 dsimp only at hg1 hg2 hg3
 have key : ∃ (A : List Int × Bool), A.1.length ≤ 41 ∧ (∀ k, K0 ≤ k → spec_OutTogether.f k a0 a1 a2 a3 b0 b1 b2 b3 most = some A) ∧ (∀ k, K0 ≤ k → impl_OutTogether.f k a0 a1 a2 a3 b0 b1 b2 b3 most = some A) := by
  cases g with
  | false =>
   refine ⟨([], false), Nat.zero_le _, fun k hk => ?_, fun k hk => ?_⟩
   ·obtain ⟨q, rfl⟩ : ∃ q, k = q + 4 := ⟨k - 4, by omega⟩
    unfold spec_OutTogether.f
    rw [hg1, Option.bind_some, if_neg (by decide)]
   ·obtain ⟨q, rfl⟩ : ∃ q, k = q + 4 := ⟨k - 4, by omega⟩
    unfold impl_OutTogether.f
    rw [hg2, Option.bind_some, if_neg (by decide)]
  | true =>
   obtain ⟨hK, hs, hM, m0, m1⟩ := hg3 rfl
   refine ⟨(toldL (stepP a0 a1 a2 a3) most (setsP a0 a1 a2 a3) ⟨b0, b1, b2, b3, 0⟩ (fun p => p.a == 0 && (p.b == 0 && (p.c == 0 && (p.d == 0)))), true), toldL_len _ _ m1 _ _ _, fun k hk => ?_, fun k hk => ?_⟩
   ·have hT := times_go ⟨a0, a1, a2, a3⟩ hK hM most m0 m1 ⟨b0, b1, b2, b3, 0⟩ hs rfl true (fun p => p.a == 0 && (p.b == 0 && (p.c == 0 && (p.d == 0)))) (fun x hx => next_zero hx.1.1 hx.2.1.1 hx.2.2.1.1 hx.2.2.2.1) C B F hC hB hF k (by omega) (by omega)
    dsimp only at hT
    obtain ⟨q, rfl⟩ : ∃ q, k = q + 4 := ⟨k - 4, by omega⟩
    unfold spec_OutTogether.f
    rw [hg1, Option.bind_some, if_pos rfl, hT, Option.bind_some]
   ·have hT := toldF_eq ⟨a0, a1, a2, a3⟩ hK b0 b1 b2 b3 hs most m0 m1 (fun p => p.a == 0 && (p.b == 0 && (p.c == 0 && (p.d == 0))))
    dsimp only at hT
    obtain ⟨q, rfl⟩ : ∃ q, k = q + 4 := ⟨k - 4, by omega⟩
    unfold impl_OutTogether.f impl_Kit_told_at_impl_OutTogether_1.f
    rw [hg2, Option.bind_some, if_pos rfl, hT, Option.bind_some]
 clear hg1 hg2 hg3
 obtain ⟨⟨L, b⟩, hl, hs, hi⟩ := key
 have hl' : L.length ≤ 41 := hl
 have hm : ∀ k, K0 ≤ k → laws_markIntS.f k L 1 = some (((1 + 1 * L.length : Nat) : Int), marked (fun c => c) 1 L.length) := fun k hk => markIntS_ok (by omega) (by omega)
 have hh : ∀ k, K0 ≤ k → laws_heldIntS.f k (marked (fun c => c) 1 L.length) 1 = some ((1 + 1 * L.length : Nat) : Int) := fun k hk => heldIntS_ok (by omega) (by omega)
 have he : ∀ k, K0 ≤ k → laws_eqIntS.f k L L = some true := fun k hk => eqIntS_self (by omega) (by omega)
 clear hK0
 unfold laws_FnExactOutTogether.f
 rw [toKit_idOutTogether, Option.bind_some, toA4_idOutTogether, Option.bind_some]
 dsimp only
 rw [hs (K0 + 1 + 1) (by omega), Option.bind_some, Option.bind_some, Option.bind_some]
 dsimp only
 rw [hi (K0 + 1 + 1) (by omega), Option.bind_some]
 dsimp only
 rw [he (K0 + 1 + 1) (by omega), Option.bind_some, if_pos rfl]
 have hb : (b != b) = false := by cases b <;> rfl
 rw [hb, laws_FnExactOutTogether.j0, if_neg Bool.false_ne_true, hm (K0 + 1) (by omega), Option.bind_some]
 dsimp only
 rw [hh (K0 + 1) (by omega), Option.bind_some, if_neg (by omega), if_pos rfl, toKit_idOutTogether, Option.bind_some, toA4_idOutTogether, Option.bind_some]
 dsimp only
 rw [hi (K0 + 1) (by omega), Option.bind_some]
 dsimp only
 rw [he (K0 + 1) (by omega), Option.bind_some, if_pos rfl, hb, laws_FnExactOutTogether.j1, if_neg Bool.false_ne_true, hh K0 (by omega), Option.bind_some, if_neg (by omega), if_pos rfl]
end Go.Proofs.Ytmhnllcdfjggaaa.Pure
