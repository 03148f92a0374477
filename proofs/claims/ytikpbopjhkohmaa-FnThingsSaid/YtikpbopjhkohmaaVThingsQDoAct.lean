/- DoAct: the program's answer is the reference's, and it holds nothing of its argument. Conditions: none. -/
import Derived.Test.YtikpbopjhkohmaaVThingsActs
import Derived.Test.YtikpbopjhkohmaaVThingsLists
import Derived.Test.YtikpbopjhkohmaaVThingsPTx0
import Derived.Test.YtikpbopjhkohmaaVThingsPTx1
import Derived.Test.YtikpbopjhkohmaaVThingsPTx2
import Derived.Test.YtikpbopjhkohmaaVThingsPTx3
import Derived.Test.YtikpbopjhkohmaaVThingsPTx4
import Derived.Test.YtikpbopjhkohmaaVThingsPTx5
import Derived.Test.YtikpbopjhkohmaaVThingsPTx6
import Derived.Test.YtikpbopjhkohmaaVThingsPTx7
import Derived.Test.YtikpbopjhkohmaaVThingsPTx8
import Derived.Test.YtikpbopjhkohmaaVThingsPTx9
import Derived.Test.YtikpbopjhkohmaaVThingsPTx10
import Derived.Test.YtikpbopjhkohmaaVThingsPTx11
import Derived.Test.YtikpbopjhkohmaaVThingsPTx12
set_option linter.unusedVariables false
set_option linter.unusedSimpArgs false
namespace Go.Proofs.Ytikpbopjhkohmaa.Pure
open Go.RowKit Go.Proofs.Ytikpbopjhkohmaa.PT Go.Proofs.Ytikpbopjhkohmaa.PL Go.Proofs.YtikpbopjhkohmaaW.PrintWords Go.Proofs.YtikpbopjhkohmaaW.PrintLast Go.Proofs.YtikpbopjhkohmaaW.PrintMore
/-- What both answer. -/
def doneAct (xs : List S45) (a : Int) : List S45 × Bool := if good xs = true then (match acted xs a with | some ys => (ys, true) | none => ([], false)) else ([], false)
theorem doneAct_len (xs : List S45) (a : Int) : (doneAct xs a).1.length ≤ xs.length := by
  unfold doneAct
  split
  · rename_i h
    cases e : acted xs a with
    | none => simp
    | some ys => simp only; rw [(acted_good h e).2]; exact Nat.le_refl _
  · simp
theorem specDoAct_ok {k : Nat} (hk : 30 ≤ k) (xs : List S45) (a : Int) : spec_DoAct.f k xs a = some (doneAct xs a) := by
  unfold spec_DoAct.f doneAct
  rw [specGood_ok (by omega), Option.bind_some]
  by_cases h : good xs = true
  · rw [if_pos h, if_pos h, specActed_ok h, Option.bind_some]
    cases acted xs a <;> rfl
  · rw [if_neg h, if_neg h]
theorem implDoAct_ok {k : Nat} (hk : 30 ≤ k) {xs : List S45} (hx : xs.length ≤ 1048576) (hk2 : xs.length < k) (a : Int) : impl_DoAct.f k xs a = some (doneAct xs a) := by
  unfold impl_DoAct.f doneAct impl_Thing_33.f
  simp only [Option.bind_some, List.length_nil, List.nil_append]
  rw [if_pos (by omega), Option.bind_some, implGood_ok (by omega) hk2, Option.bind_some]
  by_cases h : good xs = true
  · rw [if_pos h, if_pos h]
    unfold impl_doActs.f
    obtain ⟨k, rfl⟩ : ∃ j, k = j + 1 + 1 := ⟨k - 2, by omega⟩
    have e1 := implActs_step h (l := [a]) (k := k + 1) (i := 0) (a := a) rfl (by omega)
    rw [show ((0 : Nat) : Int) = 0 from rfl] at e1
    rw [e1]
    cases ha : acted xs a with
    | none => rfl
    | some ys =>
      simp only
      rw [implActs_end (by simp), Option.bind_some]
      rfl
  · rw [if_neg h, if_neg h]
end Go.Proofs.Ytikpbopjhkohmaa.Pure
