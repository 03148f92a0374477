/- BurningAt: the program's count is the reference's. Conditions: none. -/
import Derived.Test.YtkefphfjeodgnaaBurning
set_option linter.unusedVariables false
set_option linter.unusedSimpArgs false
namespace Go.Proofs.Ytkefphfjeodgnaa.Pure
open Go.RowKit Go.Proofs.Ytkefphfjeodgnaa.PA Go.Proofs.Ytkefphfjeodgnaa.PL Go.Proofs.YtkefphfjeodgnaaW.PrintWords Go.Proofs.YtkefphfjeodgnaaW.PrintLast Go.Proofs.YtkefphfjeodgnaaW.PrintMore
theorem bigs {k : Nat} (hk : BIG + 2000000 ≤ k) : BIG ≤ k ∧ BIG + 100 ≤ k ∧ 20 ≤ k ∧ 1048576 < k ∧ BIG + 1000 ≤ k := by
  have := BIG_le
  generalize BIG = B at *
  omega
theorem burningAt_ok {k : Nat} (hk : BIG + 2000000 ≤ k) {ys : List S25} (hm : ys.length ≤ 1048576) (t u : Int) : ∃ r, spec_BurningAt.f k ys t u = some r ∧ impl_BurningAt.f k ys t u = some r := by
  unfold spec_BurningAt.f impl_BurningAt.f
  rw [specList_ok (bigs hk).2.2.1, implList_ok (by omega) (Nat.lt_of_le_of_lt hm (bigs hk).2.2.2.1), specTime_ok (bigs hk).1, implTime_ok (bigs hk).1]
  by_cases hg : good ys = true
  · simp only [Option.bind_some, hg, if_true]
    by_cases ht : Mom t u
    · have ht' := ht
      obtain ⟨h1, h2, _⟩ := ht'
      obtain ⟨e1, e2⟩ := many_ok (bigs hk).2.1 hg h1 h2
      simp only [decide_eq_true ht, if_true, e1, e2, Option.bind_some]
      exact ⟨_, rfl, rfl⟩
    · simp only [decide_eq_false ht, Bool.false_eq_true, if_false]
      exact ⟨_, rfl, rfl⟩
  · simp only [Option.bind_some, hg, if_false]
    exact ⟨_, rfl, rfl⟩
theorem FnExactBurningAt : laws_FnExactBurningAt.Pure := by
  intro xs t u _ hxs _ _
  unfold laws_FnExactBurningAt.f
  by_cases hx : xs.length ≤ 1048576
  · obtain ⟨k, hk⟩ : ∃ k, k = BIG + 2097152 := ⟨_, rfl⟩
    refine ⟨k + 1, ?_⟩
    obtain ⟨n, hn⟩ := szCandleS_ex xs
    rw [hn, Option.bind_some]
    split
    · rfl
    · have hm : (xs.map convCandle).length ≤ 1048576 := by simpa using hx
      have ht : ∀ k, xs.length < k → laws_toCandleS.f k xs = some (xs.map convCandle) := fun k hk => toCandleS_ok hx hk
      rw [ht _ (by omega), Option.bind_some, toA2_ok, Option.bind_some]
      generalize xs.map convCandle = ys at *
      obtain ⟨r, e1, e2⟩ := burningAt_ok (k := k + 1) (by omega) hm t u
      rw [e1, Option.bind_some, Option.bind_some, Option.bind_some, e2, Option.bind_some, if_pos rfl]
      simp only [laws_FnExactBurningAt.j0, bne_self_eq_false, Bool.false_eq_true, if_false]
      rw [ht _ (by omega), Option.bind_some, eqCandleS_self (by omega) (by omega), Option.bind_some, if_pos rfl]
  · refine ⟨1, ?_⟩
    rw [szCandleS_far (by omega) hxs]
    rfl
end Go.Proofs.Ytkefphfjeodgnaa.Pure
