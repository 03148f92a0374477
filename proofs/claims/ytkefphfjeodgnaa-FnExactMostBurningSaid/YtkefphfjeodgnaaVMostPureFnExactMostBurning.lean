/- MostBurning: the program's answer is the reference's. Conditions: none. -/
import Derived.Test.YtkefphfjeodgnaaVMostBurning
import Derived.Test.YtkefphfjeodgnaaVMostPAx20
set_option linter.unusedVariables false
set_option linter.unusedSimpArgs false
namespace Go.Proofs.Ytkefphfjeodgnaa.Pure
open Go.RowKit Go.Proofs.Ytkefphfjeodgnaa.PA Go.Proofs.Ytkefphfjeodgnaa.PL Go.Proofs.YtkefphfjeodgnaaW.PrintWords Go.Proofs.YtkefphfjeodgnaaW.PrintLast Go.Proofs.YtkefphfjeodgnaaW.PrintMore
theorem bigs {k : Nat} (hk : BIG + 2000000 ≤ k) : BIG ≤ k ∧ BIG + 100 ≤ k ∧ 20 ≤ k ∧ 1048576 < k ∧ BIG + 1000 ≤ k := by
  have := BIG_le
  generalize BIG = B at *
  omega
theorem most_go {xs : List S25} (hg : good xs = true) : ∀ (d k i : Nat) (m s : Int), xs.length = i + d → BIG + 200 + d < k →
    ∃ r, spec_MostBurning.l0 k xs m s i = some r ∧ impl_MostBurning.l0 k xs m s xs (xs.length : Int) i = some r := by
  have hl := good_len hg
  intro d
  induction d with
  | zero =>
    intro k i m s h1 hk
    obtain ⟨k, rfl⟩ : ∃ m, k = m + 1 := ⟨k - 1, by omega⟩
    simp only [spec_MostBurning.l0, impl_MostBurning.l0]
    rw [if_neg (by omega), if_neg (by omega)]
    exact ⟨_, rfl, rfl⟩
  | succ d ih =>
    intro k i m s h1 hk
    obtain ⟨k, rfl⟩ : ∃ m, k = m + 1 := ⟨k - 1, by omega⟩
    obtain ⟨x, hxx⟩ := at_lt (xs := xs) (i := i) (by omega)
    have hi : (i : Int) < (xs.length : Int) := by omega
    have h0 : (0 : Int) ≤ (i : Int) := by omega
    obtain ⟨_, _, h3⟩ := good_at hg hxx
    obtain ⟨c1, c2⟩ := many_ok (k := k) (by omega) hg (t := x.f2) (u := 1) (by omega) (by omega)
    simp only [spec_MostBurning.l0, impl_MostBurning.l0, impl_whole.f, hi, h0, if_true, rd_at hxx, c1, c2, Option.bind_some, wrS i (by omega)]
    by_cases g1 : (many xs x.f2 1 : Int) > m
    · simp only [g1, if_true]
      exact ih k (i + 1) _ _ (by omega) (by omega)
    · simp only [g1, if_false]
      by_cases g2 : (many xs x.f2 1 : Int) = m
      · simp only [g2, if_true]
        by_cases g3 : x.f2 < s
        · simp only [g3, if_true]
          exact ih k (i + 1) _ _ (by omega) (by omega)
        · simp only [g3, if_false]
          exact ih k (i + 1) _ _ (by omega) (by omega)
      · simp only [g2, if_false]
        exact ih k (i + 1) _ _ (by omega) (by omega)
theorem mostBurning_ok {k : Nat} (hk : BIG + 2000000 ≤ k) {ys : List S25} (hm : ys.length ≤ 1048576) : ∃ r, spec_MostBurning.f k ys = some r ∧ impl_MostBurning.f k ys = some r := by
  unfold spec_MostBurning.f impl_MostBurning.f
  rw [specList_ok (bigs hk).2.2.1, implList_ok (by omega) (Nat.lt_of_le_of_lt hm (bigs hk).2.2.2.1)]
  by_cases hg : good ys = true
  · have hl := good_len hg
    simp only [Option.bind_some, hg, if_true]
    exact most_go hg ys.length k 0 0 0 (by omega) (by omega)
  · simp only [Option.bind_some, hg, if_false]
    exact ⟨_, rfl, rfl⟩
theorem FnExactMostBurning : laws_FnExactMostBurning.Pure := by
  intro xs _ hxs
  unfold laws_FnExactMostBurning.f
  by_cases hx : xs.length ≤ 1048576
  · obtain ⟨k, hk⟩ : ∃ k, k = BIG + 2097152 := ⟨_, rfl⟩
    refine ⟨k + 1, ?_⟩
    obtain ⟨n, hn⟩ := szCandleS_ex xs
    rw [hn, Option.bind_some]
    split
    · rfl
    · have hm : (xs.map convCandle).length ≤ 1048576 := by simpa using hx
      have ht : ∀ k, xs.length < k → laws_toCandleS.f k xs = some (xs.map convCandle) := fun k hk => toCandleS_ok hx hk
      rw [ht _ (by omega), Option.bind_some]
      generalize xs.map convCandle = ys at *
      obtain ⟨r, e1, e2⟩ := mostBurning_ok (k := k + 1) (by omega) hm
      rw [e1, Option.bind_some, Option.bind_some, e2, Option.bind_some, if_pos rfl, if_pos rfl]
      simp only [laws_FnExactMostBurning.j0, bne_self_eq_false, Bool.false_eq_true, if_false]
      rw [ht _ (by omega), Option.bind_some, eqCandleS_self (by omega) (by omega), Option.bind_some, if_pos rfl]
  · refine ⟨1, ?_⟩
    rw [szCandleS_far (by omega) hxs]
    rfl
end Go.Proofs.Ytkefphfjeodgnaa.Pure
