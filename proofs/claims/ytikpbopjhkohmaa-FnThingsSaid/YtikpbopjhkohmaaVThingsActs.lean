/- Acts on things: what both answer. Conditions: those each lemma names. -/
import Derived.Test.YtikpbopjhkohmaaVThingsBase
import Derived.Test.YtikpbopjhkohmaaVThingsLists
import Derived.Test.YtikpbopjhkohmaaVThingsPTx0
import Derived.Test.YtikpbopjhkohmaaVThingsPTx1
import Derived.Test.YtikpbopjhkohmaaVThingsPTx2
import Derived.Test.YtikpbopjhkohmaaVThingsPTx3
import Derived.Test.YtikpbopjhkohmaaVThingsPTx4
import Derived.Test.YtikpbopjhkohmaaVThingsPTx5
import Derived.Test.YtikpbopjhkohmaaVThingsPTx6
import Derived.Test.YtikpbopjhkohmaaVThingsPTx7
import Derived.Test.YtikpbopjhkohmaaVThingsPTx8
import Derived.Test.YtikpbopjhkohmaaVThingsPTx9
import Derived.Test.YtikpbopjhkohmaaVThingsPTx10
import Derived.Test.YtikpbopjhkohmaaVThingsPTx11
import Derived.Test.YtikpbopjhkohmaaVThingsPTx12
set_option linter.unusedVariables false
set_option linter.unusedSimpArgs false
namespace Go.Proofs.Ytikpbopjhkohmaa.Pure
open Go.RowKit Go.Proofs.Ytikpbopjhkohmaa.PT Go.Proofs.Ytikpbopjhkohmaa.PL Go.Proofs.YtikpbopjhkohmaaW.PrintWords Go.Proofs.YtikpbopjhkohmaaW.PrintLast Go.Proofs.YtikpbopjhkohmaaW.PrintMore
/-- An act is possible. -/
def Can (x : S45) : Prop := x.f0 = 1 ∨ (x.f0 = 2 ∧ 0 < x.f2 ∧ x.f3 < 2) ∨ (x.f0 = 3 ∧ 0 < x.f2)
instance (x : S45) : Decidable (Can x) := by unfold Can; infer_instance
/-- The thing behind an act. -/
def did (x : S45) : S45 := if x.f0 = 1 then ⟨x.f0, x.f1, 4 * x.f1 - x.f2, x.f3⟩ else if x.f0 = 2 then ⟨x.f0, x.f1, x.f2, x.f3 + 1⟩ else ⟨x.f0, x.f1, x.f2, 1 - x.f3⟩
theorem specCan_ok {x : S45} (h : Thg x) : spec_l8Can.f x.f0 x.f1 x.f2 x.f3 = some (decide (Can x)) := by
  obtain ⟨_, _, _, h4⟩ := h
  unfold spec_l8Can.f
  by_cases h2 : x.f0 = 2
  · rw [if_pos h2]
    by_cases h5 : x.f2 > 0
    · rw [if_pos h5, decide_eq_decide.2 (show x.f3 < 2 ↔ Can x from by unfold Can; omega)]
    · rw [if_neg h5, decide_eq_false (show ¬ Can x from by unfold Can; omega)]
  · rw [if_neg h2]
    by_cases h3 : x.f0 = 3
    · rw [if_pos h3, decide_eq_decide.2 (show x.f2 > 0 ↔ Can x from by unfold Can; omega)]
    · rw [if_neg h3, decide_eq_true (show Can x from by unfold Can; omega)]
theorem did_thg {x : S45} (h : Thg x) (hc : Can x) : Thg (did x) := by
  obtain ⟨h1, h2, h3, h4⟩ := h
  unfold Can at hc
  unfold did Thg
  by_cases e1 : x.f0 = 1
  · rw [if_pos e1]; simp only; omega
  · rw [if_neg e1]
    by_cases e2 : x.f0 = 2
    · rw [if_pos e2]; simp only; omega
    · rw [if_neg e2]; simp only; omega
theorem specDo_ok {x : S45} (h : Thg x) (hc : Can x) : spec_l8Do.f x.f0 x.f1 x.f2 x.f3 = some ((did x).f0, (did x).f1, (did x).f2, (did x).f3) := by
  obtain ⟨h1, h2, h3, h4⟩ := h
  unfold Can at hc
  unfold spec_l8Do.f did
  by_cases e1 : x.f0 = 1
  · rw [if_pos e1, if_pos e1, wr (n := 4 * x.f1) (by omega) (by omega), wr (by omega) (by omega)]
  · rw [if_neg e1, if_neg e1]
    by_cases e2 : x.f0 = 2
    · rw [if_pos e2, if_pos e2, wr (by omega) (by omega)]
    · rw [if_neg e2, if_neg e2, if_pos (by omega), wr (by omega) (by omega)]
theorem actF_did {x : S45} (h : Thg x) (hc : Can x) : actF x.f0 x.f1 x.f2 x.f3 = (true, (did x).f0, (did x).f1, (did x).f2, (did x).f3) := by
  obtain ⟨h1, h2, h3, h4⟩ := h
  unfold Can at hc
  unfold actF actW did
  by_cases e1 : x.f0 = 1
  · rw [if_pos e1, if_pos e1, wr (n := 4 * x.f1) (by omega) (by omega), wr (by omega) (by omega)]
    rfl
  · rw [if_neg e1, if_neg e1]
    by_cases e2 : x.f0 = 2
    · rw [if_pos e2, if_pos ⟨e2, by omega, by omega⟩, wr (by omega) (by omega)]
      rfl
    · rw [if_neg e2, if_neg (fun h => e2 h.1), if_pos ⟨by omega, by omega⟩, wr (by omega) (by omega)]
      rfl
theorem actF_not {x : S45} (hc : ¬ Can x) : actF x.f0 x.f1 x.f2 x.f3 = (false, x.f0, x.f1, x.f2, x.f3) := by
  unfold Can at hc
  unfold actF actW
  rw [if_neg (fun h => hc (Or.inl h)), if_neg (fun h => hc (Or.inr (Or.inl h))), if_neg (fun h => hc (Or.inr (Or.inr h)))]
/-- A list behind an act, if that is possible. -/
def acted (xs : List S45) (a : Int) : Option (List S45) := if 0 ≤ a ∧ a < (xs.length : Int) ∧ Can (rd_T45 xs a) then some (xs.set a.toNat (did (rd_T45 xs a))) else none
theorem good_rd {xs : List S45} (h : good xs = true) {a : Int} (h0 : 0 ≤ a) (h1 : a < (xs.length : Int)) : Thg (rd_T45 xs a) := by
  obtain ⟨x, hx⟩ := at_lt (xs := xs) (i := a.toNat) (by omega)
  have : rd_T45 xs a = x := by unfold rd_T45; rw [List.getD_eq_getElem?_getD, hx]; rfl
  rw [this]
  exact good_at h hx
theorem acted_good {xs ys : List S45} (h : good xs = true) {a : Int} (e : acted xs a = some ys) : good ys = true ∧ ys.length = xs.length := by
  unfold acted at e
  split at e
  · rename_i hc
    obtain rfl := Option.some.inj e
    have ht := did_thg (good_rd h hc.1 hc.2.1) hc.2.2
    refine ⟨?_, by simp⟩
    unfold good at h ⊢
    rw [Bool.and_eq_true, List.all_eq_true] at h ⊢
    refine ⟨by rw [List.length_set]; exact h.1, fun y hy => ?_⟩
    rcases List.mem_or_eq_of_mem_set hy with h1 | h1
    · exact h.2 y h1
    · rw [h1]; exact decide_eq_true ht
  · cases e
theorem specActed_ok {xs : List S45} (h : good xs = true) (a : Int) : spec_l8Acted.f xs a = some (match acted xs a with | some ys => (ys, true) | none => ([], false)) := by
  have hl := good_len h
  unfold spec_l8Acted.f acted
  rw [wr (by omega) (by omega), in_ok, Option.bind_some]
  by_cases h1 : 0 ≤ a ∧ a ≤ (xs.length : Int) - 1
  · have e1 : a < (xs.length : Int) := by omega
    rw [if_pos (decide_eq_true h1), if_pos h1.1, if_pos e1, specCan_ok (good_rd h h1.1 e1), Option.bind_some]
    by_cases hc : Can (rd_T45 xs a)
    · rw [decide_eq_true hc, if_pos rfl, if_pos ⟨h1.1, e1, hc⟩]
      simp only [Option.bind_some, List.length_nil, List.nil_append]
      rw [if_pos (by omega)]
      simp only [Option.bind_some, specDo_ok (good_rd h h1.1 e1) hc, e1, if_true]
    · rw [decide_eq_false hc, if_neg Bool.false_ne_true, if_neg (fun hh => hc hh.2.2)]
  · rw [if_neg (by simpa using h1), if_neg (fun hh => h1 ⟨hh.1, by omega⟩)]
theorem implAct_ok {xs : List S45} (h : good xs = true) {a : Int} (h0 : 0 ≤ a) (h1 : a < (xs.length : Int)) : impl_Thing_act_at.f xs a = some (match acted xs a with | some ys => (true, ys) | none => (false, xs)) := by
  unfold impl_Thing_act_at.f acted
  rw [if_pos h0, if_pos h1]
  by_cases hc : Can (rd_T45 xs a)
  · rw [if_pos ⟨h0, h1, hc⟩, actF_did (good_rd h h0 h1) hc]
  · rw [if_neg (fun hh => hc hh.2.2), actF_not hc]
    simp only
    have : xs.set a.toNat ⟨(rd_T45 xs a).f0, (rd_T45 xs a).f1, (rd_T45 xs a).f2, (rd_T45 xs a).f3⟩ = xs := set_getD_self xs a.toNat z45
    rw [this]
theorem rdI {l : List Int} {i : Nat} {x : Int} (h : l[i]? = some x) : rd l (i : Int) = x := by simp [rd, h]
/-- One round of the program's acts. -/
theorem implActs_step {xs : List S45} (h : good xs = true) {l : List Int} {k i : Nat} {a : Int} (ha : l[i]? = some a) (hi : i ≤ 4611686018427387904) :
    impl_doActs.l0 (k + 1) xs l l (l.length : Int) (i : Int) = match acted xs a with | some ys => impl_doActs.l0 k ys l l (l.length : Int) ((i + 1 : Nat) : Int) | none => some ((i : Int), xs) := by
  have hl := good_len h
  have hi1 := lt_of ha
  simp only [impl_doActs.l0]
  rw [if_pos (by omega), if_pos (by omega), if_pos (by omega), rdI ha, wr (by omega) (by omega), within_ok, Option.bind_some, wrS i hi]
  by_cases h1 : 0 ≤ a ∧ a ≤ (xs.length : Int) - 1
  · have e1 : a < (xs.length : Int) := by omega
    rw [if_pos (decide_eq_true h1), if_pos h1.1, if_pos e1, implAct_ok h h1.1 e1, Option.bind_some]
    cases acted xs a <;> simp
  · rw [if_neg (by simpa using h1)]
    have : acted xs a = none := by unfold acted; rw [if_neg (fun hh => h1 ⟨hh.1, by omega⟩)]
    rw [this]
theorem implActs_end {xs : List S45} {l : List Int} {k i : Nat} (hi : l.length ≤ i) : impl_doActs.l0 (k + 1) xs l l (l.length : Int) (i : Int) = some ((l.length : Int), xs) := by
  simp only [impl_doActs.l0]
  rw [if_neg (by omega)]
end Go.Proofs.Ytikpbopjhkohmaa.Pure
