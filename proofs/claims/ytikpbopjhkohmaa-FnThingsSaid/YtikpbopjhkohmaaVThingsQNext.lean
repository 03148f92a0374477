/- NextQuarter: the program's answer is the reference's. Conditions: none. -/
import Derived.Test.YtikpbopjhkohmaaVThingsBase
import Derived.Test.YtikpbopjhkohmaaVThingsLists
import Derived.Test.YtikpbopjhkohmaaVThingsPTx0
import Derived.Test.YtikpbopjhkohmaaVThingsPTx1
import Derived.Test.YtikpbopjhkohmaaVThingsPTx2
import Derived.Test.YtikpbopjhkohmaaVThingsPTx3
import Derived.Test.YtikpbopjhkohmaaVThingsPTx4
import Derived.Test.YtikpbopjhkohmaaVThingsPTx5
import Derived.Test.YtikpbopjhkohmaaVThingsPTx6
import Derived.Test.YtikpbopjhkohmaaVThingsPTx7
import Derived.Test.YtikpbopjhkohmaaVThingsPTx8
import Derived.Test.YtikpbopjhkohmaaVThingsPTx9
import Derived.Test.YtikpbopjhkohmaaVThingsPTx10
import Derived.Test.YtikpbopjhkohmaaVThingsPTx11
import Derived.Test.YtikpbopjhkohmaaVThingsPTx12
set_option linter.unusedVariables false
set_option linter.unusedSimpArgs false
namespace Go.Proofs.Ytikpbopjhkohmaa.Pure
open Go.RowKit Go.Proofs.Ytikpbopjhkohmaa.PT Go.Proofs.Ytikpbopjhkohmaa.PL Go.Proofs.YtikpbopjhkohmaaW.PrintWords Go.Proofs.YtikpbopjhkohmaaW.PrintLast Go.Proofs.YtikpbopjhkohmaaW.PrintMore
/-- A thing's rateN. -/
def rateN (x : S45) : Int := if x.f0 = 1 then mn x.f2 1 else x.f3
theorem specRateN_ok (x : S45) : spec_l8Rate.f x.f0 x.f1 x.f2 x.f3 = some (rateN x) := by
  unfold spec_l8Rate.f rateN spec_l1Least.f mn
  split
  · split <;> split <;> first | rfl | (rw [Option.bind_some]; done) | (rw [Option.bind_some]; congr 1; done) | (rw [Option.bind_some]; congr 1; omega) | omega
  · rfl
theorem implRateN_ok (x : S45) : impl_Thing_rate.f x.f0 x.f1 x.f2 x.f3 = some (rateN x) := by
  unfold impl_Thing_rate.f rateN
  split <;> rfl
theorem rateN_bd {x : S45} (h : Thg x) : 0 ≤ rateN x ∧ rateN x ≤ 2 := by
  obtain ⟨h1, h2, h3, h4⟩ := h
  unfold rateN mn
  split
  · split <;> omega
  · omega
/-- The quarters until a thing has burnt. -/
def quarters (x : S45) : Int := wrap64 (Int.tdiv (wrap64 (wrap64 (x.f2 + rateN x) - 1)) (rateN x))
theorem quarters_nonneg {x : S45} (h : Thg x) (hr : ¬ rateN x = 0) : 0 ≤ quarters x := by
  have hb := rateN_bd h
  obtain ⟨h1, h2, _, _⟩ := h
  unfold quarters
  rw [wr (n := x.f2 + rateN x) (by omega) (by omega), wr (n := x.f2 + rateN x - 1) (by omega) (by omega), Int.tdiv_eq_ediv_of_nonneg (by omega)]
  have e1 : 0 ≤ (x.f2 + rateN x - 1) / rateN x := Int.ediv_nonneg (by omega) (by omega)
  have e2 : (x.f2 + rateN x - 1) / rateN x ≤ x.f2 + rateN x - 1 := Int.ediv_le_self _ (by omega)
  rw [wr (by omega) (by omega)]
  exact e1
theorem next_go {xs : List S45} (hg : good xs = true) : ∀ (d k i : Nat) (m : Int), xs.length = i + d → d < k → 0 ≤ m → ∃ r : Int, 0 ≤ r ∧ spec_l8Next.l0 k xs m i = some r ∧ impl_nextQuarter.l0 k m xs (xs.length : Int) i = some r := by
  have hl := good_len hg
  intro d
  induction d with
  | zero =>
    intro k i m h1 hk hm
    obtain ⟨k, rfl⟩ : ∃ m, k = m + 1 := ⟨k - 1, by omega⟩
    simp only [spec_l8Next.l0, impl_nextQuarter.l0]
    rw [if_neg (by omega), if_neg (by omega)]
    exact ⟨_, hm, rfl, rfl⟩
  | succ d ih =>
    intro k i m h1 hk hm
    obtain ⟨k, rfl⟩ : ∃ m, k = m + 1 := ⟨k - 1, by omega⟩
    obtain ⟨x, hxx⟩ := at_lt (xs := xs) (i := i) (by omega)
    have hi : (i : Int) < (xs.length : Int) := by omega
    have h0 : (0 : Int) ≤ (i : Int) := by omega
    have hq : wrap64 (Int.tdiv (wrap64 (wrap64 (x.f2 + rateN x) - 1)) (rateN x)) = quarters x := rfl
    simp only [spec_l8Next.l0, impl_nextQuarter.l0, hi, h0, if_true, rd_at hxx, specRateN_ok, implRateN_ok, Option.bind_some, wrS i (by omega), hq]
    by_cases g1 : rateN x = 0
    · simp only [g1, if_true]
      exact ih k (i + 1) _ (by omega) (by omega) hm
    · have hn := quarters_nonneg (good_at hg hxx) g1
      simp only [g1, if_false]
      by_cases g2 : m = 0
      · simp only [g2, if_true]
        exact ih k (i + 1) _ (by omega) (by omega) hn
      · simp only [g2, if_false]
        by_cases g3 : quarters x < m
        · simp only [g3, if_true]
          exact ih k (i + 1) _ (by omega) (by omega) hn
        · simp only [g3, if_false]
          exact ih k (i + 1) _ (by omega) (by omega) hm
theorem nextQuarter_ok {k : Nat} (hk : 2000000 ≤ k) {ys : List S45} (hm : ys.length ≤ 1048576) : ∃ r, spec_NextQuarter.f k ys = some r ∧ impl_NextQuarter.f k ys = some r := by
  unfold spec_NextQuarter.f impl_NextQuarter.f spec_l8Next.f impl_nextQuarter.f
  rw [specGood_ok (by omega), implGood_ok (by omega) (by omega)]
  by_cases hg : good ys = true
  · simp only [Option.bind_some, hg, if_true]
    obtain ⟨r, hr, e1, e2⟩ := next_go hg ys.length k 0 0 (by omega) (by omega) (by omega)
    rw [show ((0 : Nat) : Int) = 0 from rfl] at e1 e2
    rw [e1, e2, Option.bind_some, Option.bind_some]
    by_cases h0 : r = 0
    · rw [if_pos h0, h0]
      exact ⟨_, rfl, rfl⟩
    · rw [if_neg h0, Option.bind_some, decide_eq_true (show r > 0 by omega)]
      exact ⟨_, rfl, rfl⟩
  · simp only [Option.bind_some, hg, if_false]
    exact ⟨_, rfl, rfl⟩
end Go.Proofs.Ytikpbopjhkohmaa.Pure
