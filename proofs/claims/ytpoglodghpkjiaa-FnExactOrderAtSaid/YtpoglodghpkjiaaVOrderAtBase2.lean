/- Candles: times, comparisons, lengths. Conditions: those each lemma names. -/
import Derived.Test.YtpoglodghpkjiaaVOrderAtBase
import Derived.Test.YtpoglodghpkjiaaVOrderAtPAx0
import Derived.Test.YtpoglodghpkjiaaVOrderAtPAx1
import Derived.Test.YtpoglodghpkjiaaVOrderAtPAx2
import Derived.Test.YtpoglodghpkjiaaVOrderAtPAx3
import Derived.Test.YtpoglodghpkjiaaVOrderAtPAx4
import Derived.Test.YtpoglodghpkjiaaVOrderAtPAx5
import Derived.Test.YtpoglodghpkjiaaVOrderAtPAx6
import Derived.Test.YtpoglodghpkjiaaVOrderAtPAx7
import Derived.Test.YtpoglodghpkjiaaVOrderAtPAx8
import Derived.Test.YtpoglodghpkjiaaVOrderAtPAx9
import Derived.Test.YtpoglodghpkjiaaVOrderAtPAx10
import Derived.Test.YtpoglodghpkjiaaVOrderAtPAx11
set_option linter.unusedVariables false
set_option linter.unusedSimpArgs false
namespace Go.Proofs.Ytpoglodghpkjiaa.Pure
open Go.RowKit Go.Proofs.Ytpoglodghpkjiaa.PA Go.Proofs.YtpoglodghpkjiaaW.PrintWords Go.Proofs.YtpoglodghpkjiaaW.PrintLast Go.Proofs.YtpoglodghpkjiaaW.PrintMore

theorem toA2_ok (a b : Int) : laws_toIntA2.f a b = some (a, b) := rfl
/-- A time is valid. -/
def Mom (a b : Int) : Prop := (0 ≤ a ∧ a ≤ 100000) ∧ (1 ≤ b ∧ b ≤ 100000) ∧ Int.gcd a b = 1
instance (a b : Int) : Decidable (Mom a b) := by unfold Mom; infer_instance
theorem specTime_ok {k : Nat} (hk : BIG ≤ k) (a b : Int) : spec_l7Time.f k a b = some (decide (Mom a b)) := by
  unfold spec_l7Time.f
  simp only [in_ok, Option.bind_some, decide_eq_true_eq]
  unfold Mom
  by_cases h1 : 0 ≤ a ∧ a ≤ 100000
  · by_cases h2 : 1 ≤ b ∧ b ≤ 100000
    · rw [if_pos h1, if_pos h2, l2Cut_ok hk (by omega) (by omega) (by omega), Option.bind_some]
      have := cut_self_iff (a := a) (b := b) (by omega)
      by_cases h3 : Int.gcd a b = 1
      · rw [this.2 h3]; simp [h1, h2, h3]
      · have h4 : ¬ cut a b = (a, b) := fun h => h3 (this.1 h)
        have h5 : ((cut a b).1 == a && ((cut a b).2 == b)) = false := by
          cases hh : ((cut a b).1 == a && ((cut a b).2 == b))
          · rfl
          · simp only [Bool.and_eq_true, beq_iff_eq] at hh
            exact absurd (Prod.ext hh.1 hh.2) h4
        rw [h5]; simp [h3]
    · rw [if_pos h1, if_neg h2]; simp [h2]
  · rw [if_neg h1]; simp [h1]
theorem implTime_ok {k : Nat} (hk : BIG ≤ k) (a b : Int) : impl_isMoment.f k a b = some (decide (Mom a b)) := by
  unfold impl_isMoment.f
  simp only [within_ok, Option.bind_some, decide_eq_true_eq]
  unfold Mom
  by_cases h1 : 0 ≤ a ∧ a ≤ 100000
  · by_cases h2 : 1 ≤ b ∧ b ≤ 100000
    · rw [if_pos h1, if_pos h2, impl_gcd_ok hk (by omega) (by omega) (by omega), Option.bind_some]
      by_cases h3 : Int.gcd a b = 1
      · simp [h1, h2, h3]
      · have : ¬ ((Int.gcd a b : Int) = 1) := by omega
        simp [h3, this]
    · rw [if_pos h1, if_neg h2]; simp [h2]
  · rw [if_neg h1]; simp [h1]
/-- No product of these passes a word's bounds. -/
def Sm (n : Int) (B : Nat) : Prop := n.natAbs ≤ B
theorem Sm.mul {a b : Int} {A B : Nat} (h1 : Sm a A) (h2 : Sm b B) : Sm (a * b) (A * B) := by
  unfold Sm at *
  rw [Int.natAbs_mul]
  exact Nat.mul_le_mul h1 h2
theorem Sm.wrap {n : Int} {B : Nat} (h : Sm n B) (hB : B ≤ 4611686018427387904) : wrap64 n = n := by
  unfold Sm at h
  exact w64 (by omega) (by omega)
theorem specLess_ok {a b c d : Int} {A B : Nat} (h1 : Sm (a * d) A) (h2 : Sm (c * b) B) (hA : A ≤ 4611686018427387904) (hB : B ≤ 4611686018427387904) : spec_l2Less.f a b c d = some (decide (a * d < c * b)) := by
  unfold spec_l2Less.f
  rw [h1.wrap hA, h2.wrap hB]
theorem implLess_ok {a b c d : Int} {A B : Nat} (h1 : Sm (a * d) A) (h2 : Sm (c * b) B) (hA : A ≤ 2305843009213693952) (hB : B ≤ 2305843009213693952) : impl_less.f a b c d = some (decide (a * d < c * b)) := by
  unfold impl_less.f impl_compareFractions.f
  rw [h1.wrap (by omega), h2.wrap (by omega), Option.bind_some]
  unfold Sm at h1 h2
  rw [w64 (by omega) (by omega)]
  congr 1
  rw [decide_eq_decide]
  omega
theorem minus_ok {k : Nat} (hk : BIG ≤ k) {a b c d : Int} {A B C : Nat} (h1 : Sm (a * d) A) (h2 : Sm (c * b) B) (h3 : Sm (b * d) C) (hp : 0 < b * d) (hAB : A + B ≤ 4611686018427387904) (hC : C ≤ 4611686018427387904) :
    spec_l2Minus.f k a b c d = some (cut (a * d - c * b) (b * d)) := by
  unfold spec_l2Minus.f
  rw [h1.wrap (by omega), h2.wrap (by omega), h3.wrap hC]
  unfold Sm at *
  rw [w64 (n := a * d - c * b) (by omega) (by omega), l2Cut_ok hk hp (by omega) (by omega)]
  rfl
theorem sm {n : Int} {B : Nat} (h1 : -(B : Int) ≤ n) (h2 : n ≤ B) : Sm n B := by unfold Sm; omega
/-- The time at which a candle has burnt down: a small fraction. -/
theorem out_bd {a b c : Int} (h : Cand a b c) : 0 ≤ (cut (c * b + a) b).1 ∧ (cut (c * b + a) b).1 ≤ 1287 ∧ 0 < (cut (c * b + a) b).2 ∧ (cut (c * b + a) b).2 ≤ 12 := by
  unfold Cand at h
  have h1 := mul_bd (a := c) (b := b) (A := 99) (B := 12) (by omega) (by omega) (by omega) (by omega)
  have h2 := cut_nonneg (a := c * b + a) (b := b) (by omega) (by omega)
  have h3 := cut_le1 (a := c * b + a) (b := b) (by omega) (by omega)
  have h4 := cut_pos (a := c * b + a) (b := b) (by omega)
  have h5 := cut_le (c * b + a) b (by omega)
  omega
end Go.Proofs.Ytpoglodghpkjiaa.Pure
