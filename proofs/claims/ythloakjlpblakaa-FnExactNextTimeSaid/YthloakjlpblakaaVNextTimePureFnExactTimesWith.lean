/- TimesWith: the program's list of times is the reference's, for all numbers. Conditions: none. -/
import Derived.Test.YthloakjlpblakaaVNextTimeChkH
import Derived.Test.YthloakjlpblakaaVNextTimeLists
import Derived.Test.YthloakjlpblakaaVNextTimePHx0
import Derived.Test.YthloakjlpblakaaVNextTimePHx1
import Derived.Test.YthloakjlpblakaaVNextTimePHx2
import Derived.Test.YthloakjlpblakaaVNextTimePHx3
import Derived.Test.YthloakjlpblakaaVNextTimePHx4
import Derived.Test.YthloakjlpblakaaVNextTimePHx5
import Derived.Test.YthloakjlpblakaaVNextTimePHx6
import Derived.Test.YthloakjlpblakaaVNextTimePHx7
import Derived.Test.YthloakjlpblakaaVNextTimePHx8
import Derived.Test.YthloakjlpblakaaVNextTimePHx9
set_option linter.unusedVariables false
set_option linter.unusedSimpArgs false
namespace Go.Proofs.Ythloakjlpblakaa.Pure
open Go.RowKit Go.Proofs.Ythloakjlpblakaa.PH Go.Proofs.Ythloakjlpblakaa.PL Go.Proofs.YthloakjlpblakaaW.PrintWords Go.Proofs.YthloakjlpblakaaW.PrintLast Go.Proofs.YthloakjlpblakaaW.PrintMore
theorem up_le {α : Type} {f : Nat → Option α} (hm : ∀ k, LeO (f k) (f (k + 1))) {j k : Nat} (h : j ≤ k) {r : α} (e : f j = some r) : f k = some r := by
  induction h with
  | refl => exact e
  | step _ ih => exact hm _ _ ih
theorem table_up {n : Nat} {T : List (List S54)} (e : spec_l6Table.f 4000 n = some T) {k : Nat} (h : 4000 ≤ k) : spec_l6Table.f k n = some T := up_le (f := fun k => spec_l6Table.f k n) (spec_l6Table.mono n) h e
theorem ropes_yes {n : Nat} (h : n ≤ 8) : spec_l6Ropes.f n = some true := by
  unfold spec_l6Ropes.f spec_l1In.f
  rw [if_pos (by omega), decide_eq_true (by omega)]
  rfl
theorem ropes_no {a : Int} (h : ¬ (0 ≤ a ∧ a ≤ 8)) : spec_l6Ropes.f a = some false := by
  unfold spec_l6Ropes.f spec_l1In.f
  by_cases h0 : a ≥ 0
  · rw [if_pos h0, decide_eq_false (by omega)]; rfl
  · rw [if_neg h0]; rfl
theorem chkL_get {n : Nat} {o : List (List PB.FT)} {T : List (List S54)} (h : chkL n o T = true) : (∃ l ts, o[n]? = some l ∧ T[n]? = some ts ∧ PB.timesL l = some (tms ts)) ∧ T.length = n + 1 ∧ PB.timesL o.flatten = some (unionU T) ∧ (unionU T).Pairwise PB.ltP ∧ (∀ x, x ∈ tms T.flatten ↔ x ∈ unionU T) ∧ (∀ l ∈ T, l.length ≤ 1000) ∧ (∀ x ∈ tms T.flatten, PB.SmF x) ∧ o.flatten.length ≤ 1000000 := by
  unfold chkL at h
  rw [Bool.and_eq_true, Bool.and_eq_true, Bool.and_eq_true, Bool.and_eq_true, Bool.and_eq_true, Bool.and_eq_true, beq_iff_eq] at h
  obtain ⟨h1, h2, h3, h4, h5, h6, h7⟩ := h
  refine ⟨?_, h2, PB.okL_ok h3, PB.strictB_ok h4, PB.sameB_ok h5, fun l hl => of_decide_eq_true (List.all_eq_true.1 h6 l hl), fun x hx => PB.smB_ok (List.all_eq_true.1 h7 x hx), ?_⟩
  · split at h1
    · rename_i l ts e1 e2
      exact ⟨l, ts, e1, e2, PB.okL_ok h1⟩
    · cases h1
  · unfold PB.okL at h3
    simp only [Bool.and_eq_true, decide_eq_true_eq] at h3
    exact h3.1.2
end Go.Proofs.Ythloakjlpblakaa.Pure
