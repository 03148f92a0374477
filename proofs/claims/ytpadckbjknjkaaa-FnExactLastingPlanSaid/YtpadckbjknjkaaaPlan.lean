/- LastingPlan: the program's days are the reference's. Conditions: those each lemma names. -/
import Derived.Test.YtpadckbjknjkaaaBase
import Derived.Test.YtpadckbjknjkaaaPAx3
set_option linter.unusedVariables false
set_option linter.unusedSimpArgs false
namespace Go.Proofs.Ytpadckbjknjkaaa.Pure
open Go.RowKit Go.Proofs.Ytpadckbjknjkaaa.PA Go.Proofs.Ytpadckbjknjkaaa.PL Go.Proofs.YtpadckbjknjkaaaW.PrintWords Go.Proofs.YtpadckbjknjkaaaW.PrintLast
theorem most_ok (a b : Int) : spec_l1Most.f a b = some (if a > b then a else b) := by
  unfold spec_l1Most.f
  split <;> rfl
theorem plan_go {a b c n : Int} (ha : 1 ≤ a ∧ a ≤ 99) (hb : 0 ≤ b ∧ b ≤ 20) (hn : 0 ≤ n ∧ n ≤ 200) :
    ∀ (d k : Nat) (l : List Int) (s : Int) (i : Nat), n = i + d → d < k → l.length ≤ i → 0 ≤ s ∧ s ≤ 99 →
      ∃ r, spec_LastingPlan.l0 k n l s i a b c = some r ∧ impl_LastingPlan.l0 k l n i a b s = some r ∧ r.1.length ≤ 200 := by
  intro d
  induction d with
  | zero =>
    intro k l s i h1 hk hl hs
    obtain ⟨k, rfl⟩ : ∃ m, k = m + 1 := ⟨k - 1, by omega⟩
    refine ⟨(l, true), ?_, ?_, by simp only; omega⟩
    · simp only [spec_LastingPlan.l0]; rw [if_neg (by omega)]
    · simp only [impl_LastingPlan.l0]; rw [if_neg (by omega)]
  | succ d ih =>
    intro k l s i h1 hk hl hs
    obtain ⟨k, rfl⟩ : ∃ m, k = m + 1 := ⟨k - 1, by omega⟩
    simp only [spec_LastingPlan.l0, impl_LastingPlan.l0]
    have e1 : (i : Int) < n := by omega
    have e2 : l.length < 17592186044416 := by omega
    simp only [e1, e2, if_true]
    by_cases h2 : s ≤ b
    · simp only [h2, if_true]
      rw [wr (n := a - b) (by omega) (by omega), most_ok, Option.bind_some]
      by_cases h3 : a - b ≤ 0
      · simp only [h3, if_true]
        rw [if_pos (by split <;> omega)]
        exact ⟨([], false), rfl, rfl, by simp⟩
      · simp only [h3, if_false]
        rw [if_neg (c := 0 > a - b) (by omega), if_neg (by omega), wrS i (by omega)]
        exact ih k _ (a - b) (i + 1) (by omega) (by omega) (by simp; omega) (by omega)
    · simp only [h2, if_false]
      have e3 : ¬ s - b ≤ 0 := by omega
      rw [wr (n := s - b) (by omega) (by omega), most_ok, Option.bind_some, if_neg (c := 0 > s - b) (by omega), if_neg (by omega), if_neg e3, wrS i (by omega)]
      exact ih k l (s - b) (i + 1) (by omega) (by omega) (by omega) (by omega)
theorem plan_ok {k : Nat} (hk : 1000 ≤ k) (a b c n : Int) : ∃ r, spec_LastingPlan.f k a b c n = some r ∧ impl_LastingPlan.f k a b c n = some r ∧ r.1.length ≤ 200 := by
  obtain ⟨k, rfl⟩ : ∃ m, k = m + 1 := ⟨k - 1, by omega⟩
  unfold spec_LastingPlan.f impl_LastingPlan.f
  rw [vessel_ok, Option.bind_some, implGood_ok (by simp) (by simp; omega), Option.bind_some, in_ok, within_ok, Option.bind_some, Option.bind_some]
  have hg : good [(⟨a, b, c⟩ : S33)] = ves ⟨a, b, c⟩ := by simp [good]
  rw [hg]
  by_cases hv : ves ⟨a, b, c⟩ = true
  · rw [if_pos hv, if_pos hv]
    by_cases hn : 0 ≤ n ∧ n ≤ 200
    · simp only [spec_LastingPlan.j0, impl_LastingPlan.j0]
      rw [if_neg (by simpa using hn), if_neg (by simpa using hn)]
      have hv' := of_decide_eq_true hv
      simp only at hv'
      exact plan_go hv'.1 hv'.2.1 hn n.toNat k [] c 0 (by omega) (by omega) (by simp) (by omega)
    · simp only [spec_LastingPlan.j0, impl_LastingPlan.j0]
      have hn2 : (!decide (0 ≤ n ∧ n ≤ 200)) = true := by rw [decide_eq_false hn]; rfl
      rw [if_pos hn2, if_pos hn2]
      exact ⟨_, rfl, rfl, by simp⟩
  · rw [if_neg hv, if_neg hv]
    simp only [spec_LastingPlan.j0, impl_LastingPlan.j0]
    exact ⟨_, rfl, rfl, by simp⟩
end Go.Proofs.Ytpadckbjknjkaaa.Pure
