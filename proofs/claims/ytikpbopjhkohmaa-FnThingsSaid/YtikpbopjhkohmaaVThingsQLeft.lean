/- LeftMinutes: the program's list is the reference's, and it holds nothing of its argument. Conditions: none. -/
import Derived.Test.YtikpbopjhkohmaaVThingsBase
import Derived.Test.YtikpbopjhkohmaaVThingsFrac
import Derived.Test.YtikpbopjhkohmaaVThingsLists
import Derived.Test.YtikpbopjhkohmaaVThingsPTx0
import Derived.Test.YtikpbopjhkohmaaVThingsPTx1
import Derived.Test.YtikpbopjhkohmaaVThingsPTx2
import Derived.Test.YtikpbopjhkohmaaVThingsPTx3
import Derived.Test.YtikpbopjhkohmaaVThingsPTx4
import Derived.Test.YtikpbopjhkohmaaVThingsPTx5
import Derived.Test.YtikpbopjhkohmaaVThingsPTx6
import Derived.Test.YtikpbopjhkohmaaVThingsPTx7
import Derived.Test.YtikpbopjhkohmaaVThingsPTx8
import Derived.Test.YtikpbopjhkohmaaVThingsPTx9
import Derived.Test.YtikpbopjhkohmaaVThingsPTx10
import Derived.Test.YtikpbopjhkohmaaVThingsPTx11
import Derived.Test.YtikpbopjhkohmaaVThingsPTx12
set_option linter.unusedVariables false
set_option linter.unusedSimpArgs false
namespace Go.Proofs.Ytikpbopjhkohmaa.Pure
open Go.RowKit Go.Proofs.Ytikpbopjhkohmaa.PT Go.Proofs.Ytikpbopjhkohmaa.PL Go.Proofs.YtikpbopjhkohmaaW.PrintWords Go.Proofs.YtikpbopjhkohmaaW.PrintLast Go.Proofs.YtikpbopjhkohmaaW.PrintMore
/-- The minutes that a thing has leftM. -/
def leftM (x : S45) : S51 := ⟨(cut x.f2 4).1, (cut x.f2 4).2⟩
theorem left_go {xs : List S45} (hg : good xs = true) : ∀ (d k i : Nat) (acc : List S51), xs.length = i + d → BIG + d < k → acc.length = i →
    spec_LeftMinutes.l0 k xs acc i = some (acc ++ (xs.drop i).map leftM, true) ∧ impl_LeftMinutes.l0 k acc xs (xs.length : Int) i = some (acc ++ (xs.drop i).map leftM, true) := by
  have hl := good_len hg
  intro d
  induction d with
  | zero =>
    intro k i acc h1 hk ha
    obtain ⟨k, rfl⟩ : ∃ m, k = m + 1 := ⟨k - 1, by omega⟩
    simp only [spec_LeftMinutes.l0, impl_LeftMinutes.l0]
    rw [if_neg (by omega), if_neg (by omega), List.drop_eq_nil_of_le (by omega), List.map_nil, List.append_nil]
    exact ⟨rfl, rfl⟩
  | succ d ih =>
    intro k i acc h1 hk ha
    obtain ⟨k, rfl⟩ : ∃ m, k = m + 1 := ⟨k - 1, by omega⟩
    obtain ⟨x, hxx⟩ := at_lt (xs := xs) (i := i) (by omega)
    have hd : xs.drop i = x :: xs.drop (i + 1) := by
      rw [List.drop_eq_getElem_cons (by omega)]
      rw [List.getElem?_eq_getElem (by omega)] at hxx
      cases hxx; rfl
    obtain ⟨g1, g2, _, _⟩ := good_at hg hxx
    have hi : (i : Int) < (xs.length : Int) := by omega
    have h0 : (0 : Int) ≤ (i : Int) := by omega
    have h3 : acc.length < 8796093022208 := by omega
    have e1 : spec_l2Cut.f k x.f2 4 = some (cut x.f2 4) := l2Cut_ok (by omega) (by omega) (by omega) (by omega)
    have e2 : impl_reduced.f k x.f2 4 = some (cut x.f2 4) := reduced_ok (by omega) (by omega) (by omega) (by omega)
    simp only [spec_LeftMinutes.l0, impl_LeftMinutes.l0, hi, h0, h3, if_true, rd_at hxx, e1, e2, Option.bind_some, wrS i (by omega)]
    have := ih k (i + 1) (acc ++ [leftM x]) (by omega) (by omega) (by simp; omega)
    rw [List.append_assoc] at this
    rw [hd, List.map_cons]
    exact this
end Go.Proofs.Ytikpbopjhkohmaa.Pure
