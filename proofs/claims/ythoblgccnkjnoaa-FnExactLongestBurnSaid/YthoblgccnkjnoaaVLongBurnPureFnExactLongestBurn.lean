/- LongestBurn: the program's answer is the reference's. Conditions: none. -/
import Derived.Test.YthoblgccnkjnoaaVLongBurnTRopeT
set_option linter.unusedVariables false
set_option linter.unusedSimpArgs false
namespace Go.Proofs.Ythoblgccnkjnoaa.Pure
open Go.RowKit Go.Proofs.Ythoblgccnkjnoaa.PT Go.Proofs.Ythoblgccnkjnoaa.PL Go.Proofs.YthoblgccnkjnoaaW.PrintWords Go.Proofs.YthoblgccnkjnoaaW.PrintLast Go.Proofs.YthoblgccnkjnoaaW.PrintMore
theorem toRopes_eq (a b c d e f : Int) : laws_toRopes.f a b c d e f = some (a, b, c, d, e, f) := rfl
theorem allT_pos {r : Rp} (g : r.good) {y : Int} (h : y ∈ allT r) : 0 < y := by
  rcases allT_mem.1 h with h | h | h
  · exact timesA_pos g h
  · exact timesA_pos g h
  · exact timesA_pos g h
/-- The reference's greatest. -/
theorem longest_go (L : List Int) (hL : L.length ≤ 60000) : ∀ (m : List Int) (j k : Nat) (a : Int), L.drop j = m → m.Pairwise (· < ·) → (∀ x ∈ m, a < x) → m.length + 2 ≤ k →
    spec_LongestBurn.l0 k a L (j : Int) = some ((m.getLast?).getD a, true) := by
  intro m
  induction m with
  | nil =>
    intro j k a hd _ _ hk
    obtain ⟨k, rfl⟩ : ∃ j, k = j + 1 := ⟨k - 1, by omega⟩
    have := drop_nil hd
    rw [spec_LongestBurn.l0, if_neg (by omega)]
    rfl
  | cons y m ih =>
    intro j k a hd hp ha hk
    rw [List.length_cons] at hk
    obtain ⟨k, rfl⟩ : ∃ j, k = j + 1 := ⟨k - 1, by omega⟩
    obtain ⟨hy, hd', hj⟩ := drop_cons hd
    rw [List.pairwise_cons] at hp
    have h1 := ha y List.mem_cons_self
    have hm : spec_l1Most.f a y = some y := by unfold spec_l1Most.f; rw [if_neg (by omega)]
    rw [spec_LongestBurn.l0, if_pos (by omega), if_pos (by omega), rdI _ _ _ hy, hm, Option.bind_some, wrS j (by omega), ih (j + 1) k y hd' hp.2 hp.1 (by omega)]
    cases m with
    | nil => rfl
    | cons z m => rw [List.getLast?_cons_cons]; rfl
theorem FnExactLongestBurn : laws_FnExactLongestBurn.Pure := by
  intro a0 a1 a2 a3 a4 a5 _ _ _ _ _ _
  refine ⟨3000010, ?_⟩
  obtain ⟨K, hK⟩ : ∃ K, K = 3000009 := ⟨_, rfl⟩
  rw [show (3000010 : Nat) = K + 1 by omega]
  have hG := l5Good_eq (K + 1 - 3) ⟨a0, a1, a2, a3, a4, a5⟩
  rw [show K + 1 - 3 + 3 = K + 1 by omega] at hG
  have hi := timesF_eq ⟨a0, a1, a2, a3, a4, a5⟩ (K + 1) (by omega)
  have key : ∃ x, spec_LongestBurn.f (K + 1) a0 a1 a2 a3 a4 a5 = some x ∧ impl_LongestBurn.f (K + 1) a0 a1 a2 a3 a4 a5 = some x := by
    unfold spec_LongestBurn.f impl_LongestBurn.f impl_RopeTimes.f
    dsimp only at hG hi
    rw [hG, hi, Option.bind_some, Option.bind_some]
    by_cases hg : goodB ⟨a0, a1, a2, a3, a4, a5⟩ = true
    · have g := (goodB_iff _).1 hg
      have hT := l5Times_eq ⟨a0, a1, a2, a3, a4, a5⟩ g (K + 1) (by omega)
      dsimp only at hT
      have hl := allT_len ⟨a0, a1, a2, a3, a4, a5⟩
      have hs := allT_sorted ⟨a0, a1, a2, a3, a4, a5⟩
      have hp : ∀ x ∈ allT ⟨a0, a1, a2, a3, a4, a5⟩, 0 < x := fun x hx => allT_pos g hx
      rw [if_pos hg, if_pos hg, hT, Option.bind_some]
      generalize allT ⟨a0, a1, a2, a3, a4, a5⟩ = L at hl hs hp
      have h1 : spec_LongestBurn.l0 (K + 1) 0 L 0 = _ := longest_go L hl L 0 (K + 1) 0 rfl hs hp (by omega)
      refine ⟨_, h1, ?_⟩
      dsimp only
      by_cases he : L.length = 0
      · obtain rfl := List.length_eq_zero_iff.1 he
        rfl
      · have hw : wrap64 ((L.length : Int) - 1) = ((L.length - 1 : Nat) : Int) := by rw [wr (by omega) (by omega)]; omega
        rw [if_neg (by omega), hw, if_pos (by omega), if_pos (by omega)]
        have hlast : L.getLast? = some L[L.length - 1] := by rw [List.getLast?_eq_getElem?, List.getElem?_eq_getElem (by omega)]
        rw [hlast, rdI L (L.length - 1) L[L.length - 1] (List.getElem?_eq_getElem (by omega))]
        rfl
    · rw [if_neg hg, if_neg hg]
      exact ⟨_, rfl, rfl⟩
  obtain ⟨⟨v, b⟩, e1, e2⟩ := key
  have hb : (b != b) = false := by cases b <;> rfl
  unfold laws_FnExactLongestBurn.f
  rw [toRopes_eq, Option.bind_some]
  dsimp only
  rw [e1, Option.bind_some, Option.bind_some]
  dsimp only
  rw [e2, Option.bind_some]
  dsimp only
  rw [if_pos rfl, hb, laws_FnExactLongestBurn.j0, if_neg Bool.false_ne_true]
end Go.Proofs.Ythoblgccnkjnoaa.Pure
