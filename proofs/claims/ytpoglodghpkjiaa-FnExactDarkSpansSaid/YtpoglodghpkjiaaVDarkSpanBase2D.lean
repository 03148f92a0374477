/- Candles: times, comparisons, lengths. Conditions: those each lemma names. -/
import Derived.Test.YtpoglodghpkjiaaVDarkSpanBaseD
import Derived.Test.YtpoglodghpkjiaaVDarkSpanPDx0
import Derived.Test.YtpoglodghpkjiaaVDarkSpanPDx1
import Derived.Test.YtpoglodghpkjiaaVDarkSpanPDx2
import Derived.Test.YtpoglodghpkjiaaVDarkSpanPDx3
import Derived.Test.YtpoglodghpkjiaaVDarkSpanPDx4
import Derived.Test.YtpoglodghpkjiaaVDarkSpanPDx5
import Derived.Test.YtpoglodghpkjiaaVDarkSpanPDx6
import Derived.Test.YtpoglodghpkjiaaVDarkSpanPDx7
import Derived.Test.YtpoglodghpkjiaaVDarkSpanPDx8
import Derived.Test.YtpoglodghpkjiaaVDarkSpanPDx9
import Derived.Test.YtpoglodghpkjiaaVDarkSpanPDx10
import Derived.Test.YtpoglodghpkjiaaVDarkSpanPDx11
import Derived.Test.YtpoglodghpkjiaaVDarkSpanPDx12
import Derived.Test.YtpoglodghpkjiaaVDarkSpanPDx13
set_option linter.unusedVariables false
set_option linter.unusedSimpArgs false
namespace Go.Proofs.Ytpoglodghpkjiaa.Pure
open Go.RowKit Go.Proofs.Ytpoglodghpkjiaa.PD Go.Proofs.YtpoglodghpkjiaaW.PrintWords Go.Proofs.YtpoglodghpkjiaaW.PrintLast Go.Proofs.YtpoglodghpkjiaaW.PrintMore

/-- A time is valid. -/
def Mom (a b : Int) : Prop := (0 ≤ a ∧ a ≤ 100000) ∧ (1 ≤ b ∧ b ≤ 100000) ∧ Int.gcd a b = 1
instance (a b : Int) : Decidable (Mom a b) := by unfold Mom; infer_instance
/-- No product of these passes a word's bounds. -/
def Sm (n : Int) (B : Nat) : Prop := n.natAbs ≤ B
theorem Sm.mul {a b : Int} {A B : Nat} (h1 : Sm a A) (h2 : Sm b B) : Sm (a * b) (A * B) := by
  unfold Sm at *
  rw [Int.natAbs_mul]
  exact Nat.mul_le_mul h1 h2
theorem Sm.wrap {n : Int} {B : Nat} (h : Sm n B) (hB : B ≤ 4611686018427387904) : wrap64 n = n := by
  unfold Sm at h
  exact w64 (by omega) (by omega)
theorem specLess_ok {a b c d : Int} {A B : Nat} (h1 : Sm (a * d) A) (h2 : Sm (c * b) B) (hA : A ≤ 4611686018427387904) (hB : B ≤ 4611686018427387904) : spec_l2Less.f a b c d = some (decide (a * d < c * b)) := by
  unfold spec_l2Less.f
  rw [h1.wrap hA, h2.wrap hB]
theorem implLess_ok {a b c d : Int} {A B : Nat} (h1 : Sm (a * d) A) (h2 : Sm (c * b) B) (hA : A ≤ 2305843009213693952) (hB : B ≤ 2305843009213693952) : impl_less.f a b c d = some (decide (a * d < c * b)) := by
  unfold impl_less.f impl_compareFractions.f
  rw [h1.wrap (by omega), h2.wrap (by omega), Option.bind_some]
  unfold Sm at h1 h2
  rw [w64 (by omega) (by omega)]
  congr 1
  rw [decide_eq_decide]
  omega
theorem sm {n : Int} {B : Nat} (h1 : -(B : Int) ≤ n) (h2 : n ≤ B) : Sm n B := by unfold Sm; omega
/-- The time at which a candle has burnt down: a small fraction. -/
theorem out_bd {a b c : Int} (h : Cand a b c) : 0 ≤ (cut (c * b + a) b).1 ∧ (cut (c * b + a) b).1 ≤ 1287 ∧ 0 < (cut (c * b + a) b).2 ∧ (cut (c * b + a) b).2 ≤ 12 := by
  unfold Cand at h
  have h1 := mul_bd (a := c) (b := b) (A := 99) (B := 12) (by omega) (by omega) (by omega) (by omega)
  have h2 := cut_nonneg (a := c * b + a) (b := b) (by omega) (by omega)
  have h3 := cut_le1 (a := c * b + a) (b := b) (by omega) (by omega)
  have h4 := cut_pos (a := c * b + a) (b := b) (by omega)
  have h5 := cut_le (c * b + a) b (by omega)
  omega
end Go.Proofs.Ytpoglodghpkjiaa.Pure
