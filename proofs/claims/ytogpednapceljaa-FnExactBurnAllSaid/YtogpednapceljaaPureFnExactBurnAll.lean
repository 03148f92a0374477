/- BurnAll: the program's answer is the reference's. Conditions: none. -/
import Derived.Test.YtogpednapceljaaBase
import Derived.Test.YtogpednapceljaaPAx5
set_option linter.unusedVariables false
set_option linter.unusedSimpArgs false
namespace Go.Proofs.Ytogpednapceljaa.Pure
open Go.RowKit Go.Proofs.Ytogpednapceljaa.PA Go.Proofs.Ytogpednapceljaa.PL Go.Proofs.YtogpednapceljaaW.PrintWords Go.Proofs.YtogpednapceljaaW.PrintLast Go.Proofs.YtogpednapceljaaW.PrintMore
theorem most_mx (a b : Int) : spec_l1Most.f a b = some (mx a b) := by
  unfold spec_l1Most.f mx
  split <;> split <;> first | rfl | (congr 1; omega) | omega
theorem burn_go (xs : List S23) (hx : xs.length ≤ 1099511627776) : ∀ (d k i : Nat) (m : Int), xs.length = i + d → d < k → ∃ r, spec_BurnAll.l0 k xs m i = some r ∧ impl_BurnAll.l0 k m xs (xs.length : Int) i = some r := by
  intro d
  induction d with
  | zero =>
    intro k i m h1 hk
    obtain ⟨k, rfl⟩ : ∃ m, k = m + 1 := ⟨k - 1, by omega⟩
    simp only [spec_BurnAll.l0, impl_BurnAll.l0]
    rw [if_neg (by omega), if_neg (by omega)]
    exact ⟨_, rfl, rfl⟩
  | succ d ih =>
    intro k i m h1 hk
    obtain ⟨k, rfl⟩ : ∃ m, k = m + 1 := ⟨k - 1, by omega⟩
    obtain ⟨x, hxx⟩ := at_lt (xs := xs) (i := i) (by omega)
    have hi : (i : Int) < (xs.length : Int) := by omega
    have h0 : (0 : Int) ≤ (i : Int) := by omega
    simp only [spec_BurnAll.l0, impl_BurnAll.l0, hi, h0, if_true, rd_at hxx, most_mx, Option.bind_some, wrS i (by omega)]
    by_cases g1 : x.f0 = 2
    · simp only [g1, if_true]
      exact ih k (i + 1) _ (by omega) (by omega)
    · simp only [g1, if_false]
      by_cases g2 : x.f0 = 3
      · simp only [g2, if_true]
        exact ih k (i + 1) _ (by omega) (by omega)
      · simp only [g2, if_false]
        exact ih k (i + 1) _ (by omega) (by omega)
theorem burnAll_ok {k : Nat} (hk : 2000000 ≤ k) {ys : List S23} (hm : ys.length ≤ 1048576) : ∃ r, spec_BurnAll.f k ys = some r ∧ impl_BurnAll.f k ys = some r := by
  unfold spec_BurnAll.f impl_BurnAll.f
  rw [specGood_ok (by omega), implGood_ok (by omega) (by omega)]
  by_cases hg : good ys = true
  · simp only [Option.bind_some, hg, if_true]
    exact burn_go ys (by omega) ys.length k 0 0 (by omega) (by omega)
  · simp only [Option.bind_some, hg, if_false]
    exact ⟨_, rfl, rfl⟩
theorem FnExactBurnAll : laws_FnExactBurnAll.Pure := by
  intro xs _ hxs
  unfold laws_FnExactBurnAll.f
  by_cases hx : xs.length ≤ 1048576
  · obtain ⟨k, hk⟩ : ∃ k, k = 2097152 := ⟨_, rfl⟩
    refine ⟨k + 1, ?_⟩
    obtain ⟨n, hn⟩ := szThingS_ex xs
    rw [hn, Option.bind_some]
    split
    · rfl
    · have hm : (xs.map convThing).length ≤ 1048576 := by simpa using hx
      have ht : ∀ k, xs.length < k → laws_toThingS.f k xs = some (xs.map convThing) := fun k hk => toThingS_ok hx hk
      rw [ht _ (by omega), Option.bind_some]
      generalize xs.map convThing = ys at *
      obtain ⟨r, e1, e2⟩ := burnAll_ok (k := k + 1) (by omega) hm
      rw [e1, Option.bind_some, Option.bind_some, e2, Option.bind_some, if_pos rfl]
      simp only [laws_FnExactBurnAll.j0, bne_self_eq_false, Bool.false_eq_true, if_false]
      rw [ht _ (by omega), Option.bind_some, eqThingS_self (by omega) (by omega), Option.bind_some, if_pos rfl]
  · refine ⟨1, ?_⟩
    rw [szThingS_far (by omega) hxs]
    rfl
end Go.Proofs.Ytogpednapceljaa.Pure
