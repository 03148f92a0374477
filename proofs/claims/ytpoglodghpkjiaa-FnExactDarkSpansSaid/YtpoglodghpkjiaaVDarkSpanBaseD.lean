/- Candles: what the program's and the reference's smallest functions answer. Conditions: those each lemma names. -/
import Derived.Test.YtpoglodghpkjiaaVDarkSpanFracD
import Derived.Test.YtpoglodghpkjiaaVDarkSpanPDx0
import Derived.Test.YtpoglodghpkjiaaVDarkSpanPDx1
import Derived.Test.YtpoglodghpkjiaaVDarkSpanPDx2
import Derived.Test.YtpoglodghpkjiaaVDarkSpanPDx3
import Derived.Test.YtpoglodghpkjiaaVDarkSpanPDx4
import Derived.Test.YtpoglodghpkjiaaVDarkSpanPDx5
import Derived.Test.YtpoglodghpkjiaaVDarkSpanPDx6
import Derived.Test.YtpoglodghpkjiaaVDarkSpanPDx7
import Derived.Test.YtpoglodghpkjiaaVDarkSpanPDx8
import Derived.Test.YtpoglodghpkjiaaVDarkSpanPDx9
import Derived.Test.YtpoglodghpkjiaaVDarkSpanPDx10
import Derived.Test.YtpoglodghpkjiaaVDarkSpanPDx11
import Derived.Test.YtpoglodghpkjiaaVDarkSpanPDx12
import Derived.Test.YtpoglodghpkjiaaVDarkSpanPDx13
set_option linter.unusedVariables false
set_option linter.unusedSimpArgs false
namespace Go.Proofs.Ytpoglodghpkjiaa.Pure
open Go.RowKit Go.Proofs.Ytpoglodghpkjiaa.PD Go.Proofs.YtpoglodghpkjiaaW.PrintWords Go.Proofs.YtpoglodghpkjiaaW.PrintLast Go.Proofs.YtpoglodghpkjiaaW.PrintMore

theorem in_ok (a lo hi : Int) : spec_l1In.f a lo hi = some (decide (lo ≤ a ∧ a ≤ hi)) := by
  unfold spec_l1In.f
  by_cases h : a ≥ lo
  · rw [if_pos h]
    congr 1
    have : lo ≤ a := h
    simp [this]
  · rw [if_neg h]
    have : ¬ lo ≤ a := h
    simp [this]
theorem within_ok (a lo hi : Int) : impl_within.f a lo hi = some (decide (lo ≤ a ∧ a ≤ hi)) := in_ok a lo hi
/-- A candle is valid. -/
def Cand (a b c : Int) : Prop := (1 ≤ a ∧ a ≤ 99) ∧ (1 ≤ b ∧ b ≤ 12) ∧ (0 ≤ c ∧ c ≤ 99)
instance (a b c : Int) : Decidable (Cand a b c) := by unfold Cand; infer_instance
theorem cand_ok (a b c : Int) : spec_l7Candle.f a b c = some (decide (Cand a b c)) := by
  unfold spec_l7Candle.f
  simp only [in_ok, Option.bind_some, decide_eq_true_eq]
  unfold Cand
  by_cases h1 : 1 ≤ a ∧ a ≤ 99 <;> by_cases h2 : 1 ≤ b ∧ b ≤ 12 <;> by_cases h3 : 0 ≤ c ∧ c ≤ 99 <;> simp [h1, h2, h3]
theorem impl_isCandle_ok (a b c : Int) : impl_IsCandle.f a b c = some (decide (Cand a b c)) := by
  unfold impl_IsCandle.f
  simp only [within_ok, Option.bind_some, decide_eq_true_eq]
  unfold Cand
  by_cases h1 : 1 ≤ a ∧ a ≤ 99 <;> by_cases h2 : 1 ≤ b ∧ b ≤ 12 <;> by_cases h3 : 0 ≤ c ∧ c ≤ 99 <;> simp [h1, h2, h3]
/-! ### The time at which a candle has burnt down -/
theorem mul_bd {a b A B : Int} (h1 : 0 ≤ a) (h2 : a ≤ A) (h3 : 0 ≤ b) (h4 : b ≤ B) : 0 ≤ a * b ∧ a * b ≤ A * B :=
  ⟨Int.mul_nonneg h1 h3, Int.mul_le_mul h2 h4 h3 (by omega)⟩
theorem cut_nonneg {a b : Int} (hb : 0 < b) (ha : 0 ≤ a) : 0 ≤ (cut a b).1 := by
  unfold cut
  exact Int.ediv_nonneg ha (by omega)
theorem cut_le1 {a b : Int} (hb : 0 < b) (ha : 0 ≤ a) : (cut a b).1 ≤ a := by
  have h1 := cut_nonneg hb ha
  have h2 := cut_abs a b hb
  omega
theorem specOut_ok {k : Nat} (hk : BIG ≤ k) {a b c : Int} (h : Cand a b c) : spec_l7Out.f k a b c = some (cut (c * b + a) b) := by
  unfold Cand at h
  have h1 := mul_bd (a := c) (b := b) (A := 99) (B := 12) (by omega) (by omega) (by omega) (by omega)
  unfold spec_l7Out.f
  rw [w64 (n := c * b) (by omega) (by omega), w64 (n := c * b + a) (by omega) (by omega), l2Cut_ok hk (by omega) (by omega) (by omega)]
  rfl
/-- A sum of fractions that are cut, cut: is the sum, cut. -/
theorem cut_plus {a b c : Int} (hb : 0 < b) : cut (c * (cut a b).2 + (cut a b).1) (cut a b).2 = cut (c * b + a) b := by
  have hp := cut_pos (a := a) hb
  have hx := cut_cross a b hb
  refine cut_eq hp hb ?_
  grind
theorem over_ok {k : Nat} (hk : BIG ≤ k) {a b : Int} (hb : 0 < b) (ha : a.natAbs ≤ 4611686018427387904) (hb2 : b ≤ 4611686018427387904) : impl_over.f k a b = some (cut a b) := by
  unfold impl_over.f
  rw [if_neg (by omega), reduced_ok hk hb ha hb2]; rfl
theorem implOut_ok {k : Nat} (hk : BIG ≤ k) {a b c : Int} (h : Cand a b c) : impl_Candle_out.f k a b c = some (cut (c * b + a) b) := by
  unfold Cand at h
  unfold impl_Candle_out.f impl_whole.f
  have hp := cut_pos (a := a) (b := b) (by omega)
  have hl := cut_le a b (by omega)
  have h0 := cut_nonneg (a := a) (b := b) (by omega) (by omega)
  have hl1 := cut_le1 (a := a) (b := b) (by omega) (by omega)
  have h1 := mul_bd (a := c) (b := (cut a b).2) (A := 99) (B := 12) (by omega) (by omega) (by omega) (by omega)
  simp only [Option.bind_some]
  rw [over_ok hk (by omega) (by omega) (by omega), Option.bind_some]
  unfold impl_plus.f
  rw [Int.mul_one, Int.one_mul, w64 (n := c * (cut a b).2) (by omega) (by omega), w64 (n := (cut a b).1) (by omega) (by omega), w64 (n := c * (cut a b).2 + (cut a b).1) (by omega) (by omega), w64 (n := (cut a b).2) (by omega) (by omega),
    reduced_ok hk hp (by omega) (by omega), cut_plus (by omega)]
  rfl
end Go.Proofs.Ytpoglodghpkjiaa.Pure
