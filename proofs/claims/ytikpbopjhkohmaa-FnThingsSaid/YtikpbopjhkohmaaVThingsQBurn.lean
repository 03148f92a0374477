/- BurnAll: the program's answer is the reference's. Conditions: none. -/
import Derived.Test.YtikpbopjhkohmaaVThingsBase
import Derived.Test.YtikpbopjhkohmaaVThingsLists
import Derived.Test.YtikpbopjhkohmaaVThingsPTx0
import Derived.Test.YtikpbopjhkohmaaVThingsPTx1
import Derived.Test.YtikpbopjhkohmaaVThingsPTx2
import Derived.Test.YtikpbopjhkohmaaVThingsPTx3
import Derived.Test.YtikpbopjhkohmaaVThingsPTx4
import Derived.Test.YtikpbopjhkohmaaVThingsPTx5
import Derived.Test.YtikpbopjhkohmaaVThingsPTx6
import Derived.Test.YtikpbopjhkohmaaVThingsPTx7
import Derived.Test.YtikpbopjhkohmaaVThingsPTx8
import Derived.Test.YtikpbopjhkohmaaVThingsPTx9
import Derived.Test.YtikpbopjhkohmaaVThingsPTx10
import Derived.Test.YtikpbopjhkohmaaVThingsPTx11
import Derived.Test.YtikpbopjhkohmaaVThingsPTx12
set_option linter.unusedVariables false
set_option linter.unusedSimpArgs false
namespace Go.Proofs.Ytikpbopjhkohmaa.Pure
open Go.RowKit Go.Proofs.Ytikpbopjhkohmaa.PT Go.Proofs.Ytikpbopjhkohmaa.PL Go.Proofs.YtikpbopjhkohmaaW.PrintWords Go.Proofs.YtikpbopjhkohmaaW.PrintLast Go.Proofs.YtikpbopjhkohmaaW.PrintMore
theorem most_mx (a b : Int) : spec_l1Most.f a b = some (mx a b) := by
  unfold spec_l1Most.f mx
  split <;> split <;> first | rfl | (congr 1; omega) | omega
theorem burn_go (xs : List S45) (hx : xs.length ≤ 1099511627776) : ∀ (d k i : Nat) (m : Int), xs.length = i + d → d < k → ∃ v : Int, spec_BurnAll.l0 k xs m i = some (v, true) ∧ impl_BurnAll.l0 k m xs (xs.length : Int) i = some (v, true) := by
  intro d
  induction d with
  | zero =>
    intro k i m h1 hk
    obtain ⟨k, rfl⟩ : ∃ m, k = m + 1 := ⟨k - 1, by omega⟩
    simp only [spec_BurnAll.l0, impl_BurnAll.l0]
    rw [if_neg (by omega), if_neg (by omega)]
    exact ⟨_, rfl, rfl⟩
  | succ d ih =>
    intro k i m h1 hk
    obtain ⟨k, rfl⟩ : ∃ m, k = m + 1 := ⟨k - 1, by omega⟩
    obtain ⟨x, hxx⟩ := at_lt (xs := xs) (i := i) (by omega)
    have hi : (i : Int) < (xs.length : Int) := by omega
    have h0 : (0 : Int) ≤ (i : Int) := by omega
    simp only [spec_BurnAll.l0, impl_BurnAll.l0, hi, h0, if_true, rd_at hxx, most_mx, Option.bind_some, wrS i (by omega)]
    by_cases g1 : x.f0 = 2
    · simp only [g1, if_true]
      exact ih k (i + 1) _ (by omega) (by omega)
    · simp only [g1, if_false]
      by_cases g2 : x.f0 = 3
      · simp only [g2, if_true]
        exact ih k (i + 1) _ (by omega) (by omega)
      · simp only [g2, if_false]
        exact ih k (i + 1) _ (by omega) (by omega)
theorem burnAll_ok {k : Nat} (hk : 2000000 ≤ k) {ys : List S45} (hm : ys.length ≤ 1048576) : ∃ v : Int, spec_BurnAll.f k ys = some (v, good ys) ∧ impl_BurnAll.f k ys = some (v, good ys) := by
  unfold spec_BurnAll.f impl_BurnAll.f
  rw [specGood_ok (by omega), implGood_ok (by omega) (by omega)]
  by_cases hg : good ys = true
  · simp only [Option.bind_some, hg, if_true]
    exact burn_go ys (by omega) ys.length k 0 0 (by omega) (by omega)
  · simp only [Option.bind_some, hg, if_false]
    exact ⟨_, rfl, rfl⟩
end Go.Proofs.Ytikpbopjhkohmaa.Pure
