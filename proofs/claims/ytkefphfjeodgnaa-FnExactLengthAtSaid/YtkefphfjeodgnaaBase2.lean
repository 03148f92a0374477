/- Candles: times, comparisons, lengths. Conditions: those each lemma names. -/
import Derived.Test.YtkefphfjeodgnaaBase
set_option linter.unusedVariables false
set_option linter.unusedSimpArgs false
namespace Go.Proofs.Ytkefphfjeodgnaa.Pure
open Go.RowKit Go.Proofs.Ytkefphfjeodgnaa.PA Go.Proofs.YtkefphfjeodgnaaW.PrintWords Go.Proofs.YtkefphfjeodgnaaW.PrintLast Go.Proofs.YtkefphfjeodgnaaW.PrintMore

/-- A time is valid. -/
def Mom (a b : Int) : Prop := (0 ≤ a ∧ a ≤ 100000) ∧ (1 ≤ b ∧ b ≤ 100000) ∧ Int.gcd a b = 1
instance (a b : Int) : Decidable (Mom a b) := by unfold Mom; infer_instance
theorem specTime_ok {k : Nat} (hk : BIG ≤ k) (a b : Int) : spec_l7Time.f k a b = some (decide (Mom a b)) := by
  unfold spec_l7Time.f
  simp only [in_ok, Option.bind_some, decide_eq_true_eq]
  unfold Mom
  by_cases h1 : 0 ≤ a ∧ a ≤ 100000
  · by_cases h2 : 1 ≤ b ∧ b ≤ 100000
    · rw [if_pos h1, if_pos h2, l2Cut_ok hk (by omega) (by omega) (by omega), Option.bind_some]
      have := cut_self_iff (a := a) (b := b) (by omega)
      by_cases h3 : Int.gcd a b = 1
      · rw [this.2 h3]; simp [h1, h2, h3]
      · have h4 : ¬ cut a b = (a, b) := fun h => h3 (this.1 h)
        have h5 : ((cut a b).1 == a && ((cut a b).2 == b)) = false := by
          cases hh : ((cut a b).1 == a && ((cut a b).2 == b))
          · rfl
          · simp only [Bool.and_eq_true, beq_iff_eq] at hh
            exact absurd (Prod.ext hh.1 hh.2) h4
        rw [h5]; simp [h3]
    · rw [if_pos h1, if_neg h2]; simp [h2]
  · rw [if_neg h1]; simp [h1]
theorem implTime_ok {k : Nat} (hk : BIG ≤ k) (a b : Int) : impl_isMoment.f k a b = some (decide (Mom a b)) := by
  unfold impl_isMoment.f
  simp only [within_ok, Option.bind_some, decide_eq_true_eq]
  unfold Mom
  by_cases h1 : 0 ≤ a ∧ a ≤ 100000
  · by_cases h2 : 1 ≤ b ∧ b ≤ 100000
    · rw [if_pos h1, if_pos h2, impl_gcd_ok hk (by omega) (by omega) (by omega), Option.bind_some]
      by_cases h3 : Int.gcd a b = 1
      · simp [h1, h2, h3]
      · have : ¬ ((Int.gcd a b : Int) = 1) := by omega
        simp [h3, this]
    · rw [if_pos h1, if_neg h2]; simp [h2]
  · rw [if_neg h1]; simp [h1]
/-- No product of these passes a word's bounds. -/
def Sm (n : Int) (B : Nat) : Prop := n.natAbs ≤ B
theorem Sm.mul {a b : Int} {A B : Nat} (h1 : Sm a A) (h2 : Sm b B) : Sm (a * b) (A * B) := by
  unfold Sm at *
  rw [Int.natAbs_mul]
  exact Nat.mul_le_mul h1 h2
theorem Sm.wrap {n : Int} {B : Nat} (h : Sm n B) (hB : B ≤ 4611686018427387904) : wrap64 n = n := by
  unfold Sm at h
  exact w64 (by omega) (by omega)
theorem specLess_ok {a b c d : Int} {A B : Nat} (h1 : Sm (a * d) A) (h2 : Sm (c * b) B) (hA : A ≤ 4611686018427387904) (hB : B ≤ 4611686018427387904) : spec_l2Less.f a b c d = some (decide (a * d < c * b)) := by
  unfold spec_l2Less.f
  rw [h1.wrap hA, h2.wrap hB]
theorem implLess_ok {a b c d : Int} {A B : Nat} (h1 : Sm (a * d) A) (h2 : Sm (c * b) B) (hA : A ≤ 2305843009213693952) (hB : B ≤ 2305843009213693952) : impl_less.f a b c d = some (decide (a * d < c * b)) := by
  unfold impl_less.f impl_compareFractions.f
  rw [h1.wrap (by omega), h2.wrap (by omega), Option.bind_some]
  unfold Sm at h1 h2
  rw [w64 (by omega) (by omega)]
  congr 1
  rw [decide_eq_decide]
  omega
theorem minus_ok {k : Nat} (hk : BIG ≤ k) {a b c d : Int} {A B C : Nat} (h1 : Sm (a * d) A) (h2 : Sm (c * b) B) (h3 : Sm (b * d) C) (hp : 0 < b * d) (hAB : A + B ≤ 4611686018427387904) (hC : C ≤ 4611686018427387904) :
    spec_l2Minus.f k a b c d = some (cut (a * d - c * b) (b * d)) := by
  unfold spec_l2Minus.f
  rw [h1.wrap (by omega), h2.wrap (by omega), h3.wrap hC]
  unfold Sm at *
  rw [w64 (n := a * d - c * b) (by omega) (by omega), l2Cut_ok hk hp (by omega) (by omega)]
  rfl
theorem specPlus_ok {k : Nat} (hk : BIG ≤ k) {a b c d : Int} {A B C : Nat} (h1 : Sm (a * d) A) (h2 : Sm (c * b) B) (h3 : Sm (b * d) C) (hp : 0 < b * d) (hAB : A + B ≤ 4611686018427387904) (hC : C ≤ 4611686018427387904) :
    spec_l2Plus.f k a b c d = some (cut (a * d + c * b) (b * d)) := by
  unfold spec_l2Plus.f
  rw [h1.wrap (by omega), h2.wrap (by omega), h3.wrap hC]
  unfold Sm at *
  rw [w64 (n := a * d + c * b) (by omega) (by omega), l2Cut_ok hk hp (by omega) (by omega)]
  rfl
theorem implPlus_ok {k : Nat} (hk : BIG ≤ k) {a b c d : Int} {A B C : Nat} (h1 : Sm (a * d) A) (h2 : Sm (c * b) B) (h3 : Sm (b * d) C) (hp : 0 < b * d) (hAB : A + B ≤ 4611686018427387904) (hC : C ≤ 4611686018427387904) :
    impl_plus.f k a b c d = some (cut (a * d + c * b) (b * d)) := by
  unfold impl_plus.f
  rw [h1.wrap (by omega), h2.wrap (by omega), h3.wrap hC]
  unfold Sm at *
  rw [w64 (n := a * d + c * b) (by omega) (by omega), reduced_ok hk hp (by omega) (by omega)]
  rfl
theorem times_ok {k : Nat} (hk : BIG ≤ k) {a b c d : Int} {A C : Nat} (h1 : Sm (a * c) A) (h3 : Sm (b * d) C) (hp : 0 < b * d) (hA : A ≤ 4611686018427387904) (hC : C ≤ 4611686018427387904) :
    spec_l2Times.f k a b c d = some (cut (a * c) (b * d)) := by
  unfold spec_l2Times.f
  rw [h1.wrap (by omega), h3.wrap hC]
  unfold Sm at *
  rw [l2Cut_ok hk hp (by omega) (by omega)]
  rfl
theorem sm {n : Int} {B : Nat} (h1 : -(B : Int) ≤ n) (h2 : n ≤ B) : Sm n B := by unfold Sm; omega
/-- The time at which a candle has burnt down: a small fraction. -/
theorem out_bd {a b c : Int} (h : Cand a b c) : 0 ≤ (cut (c * b + a) b).1 ∧ (cut (c * b + a) b).1 ≤ 1287 ∧ 0 < (cut (c * b + a) b).2 ∧ (cut (c * b + a) b).2 ≤ 12 := by
  unfold Cand at h
  have h1 := mul_bd (a := c) (b := b) (A := 99) (B := 12) (by omega) (by omega) (by omega) (by omega)
  have h2 := cut_nonneg (a := c * b + a) (b := b) (by omega) (by omega)
  have h3 := cut_le1 (a := c * b + a) (b := b) (by omega) (by omega)
  have h4 := cut_pos (a := c * b + a) (b := b) (by omega)
  have h5 := cut_le (c * b + a) b (by omega)
  omega
/-- A candle's length at a time. -/
def len (a b c t u : Int) : Int × Int := if c * u < t * 1 then (if t * (cut (c * b + a) b).2 < (cut (c * b + a) b).1 * u then cut ((a + b * c) * u - b * t) u else (0, 1)) else (a, 1)
theorem implLen_ok {k : Nat} (hk : BIG ≤ k) {a b c t u : Int} (h : Cand a b c) (ht : Mom t u) : impl_Candle_length.f k a b c t u = some (len a b c t u) := by
  obtain ⟨o1, o2, o3, o4⟩ := out_bd h
  have ho := implOut_ok hk h
  unfold Cand at h
  unfold Mom at ht
  have m1 := mul_bd (a := c) (b := u) (A := 99) (B := 100000) (by omega) (by omega) (by omega) (by omega)
  have m2 := mul_bd (a := b) (b := c) (A := 12) (B := 99) (by omega) (by omega) (by omega) (by omega)
  have m3 := mul_bd (a := b) (b := t) (A := 12) (B := 100000) (by omega) (by omega) (by omega) (by omega)
  have m4 := mul_bd (a := a + b * c) (b := u) (A := 1287) (B := 100000) (by omega) (by omega) (by omega) (by omega)
  unfold impl_Candle_length.f impl_whole.f len
  simp only [Option.bind_some]
  rw [implLess_ok (A := 9900000) (B := 100000) (sm (by omega) (by omega)) (sm (by omega) (by omega)) (by omega) (by omega), Option.bind_some]
  by_cases h1 : c * u < t * 1
  · simp only [h1, decide_true, if_true, ho, Option.bind_some]
    rw [implLess_ok (A := 100000 * 12) (B := 1287 * 100000) ((sm (by omega) (by omega)).mul (sm (by omega) (by omega))) ((sm (by omega) (by omega)).mul (sm (by omega) (by omega))) (by omega) (by omega), Option.bind_some]
    by_cases h2 : t * (cut (c * b + a) b).2 < (cut (c * b + a) b).1 * u
    · simp only [h2, decide_true, if_true]
      rw [w64 (n := b * c) (by omega) (by omega), w64 (n := a + b * c) (by omega) (by omega), w64 (n := (a + b * c) * u) (by omega) (by omega), w64 (n := b * t) (by omega) (by omega), w64 (n := (a + b * c) * u - b * t) (by omega) (by omega),
        reduced_ok hk (by omega) (by omega) (by omega)]
      rfl
    · simp only [h2, decide_false, Bool.false_eq_true, if_false, Option.bind_some]
  · simp only [h1, decide_false, Bool.false_eq_true, if_false, Option.bind_some]
theorem specLen_ok {k : Nat} (hk : BIG ≤ k) {a b c t u : Int} (h : Cand a b c) (ht : Mom t u) : spec_l7Length.f k a b c t u = some (len a b c t u) := by
  obtain ⟨o1, o2, o3, o4⟩ := out_bd h
  have ho := specOut_ok hk h
  unfold Cand at h
  unfold Mom at ht
  have m1 := mul_bd (a := c) (b := u) (A := 99) (B := 100000) (by omega) (by omega) (by omega) (by omega)
  have m2 := mul_bd (a := b) (b := c) (A := 12) (B := 99) (by omega) (by omega) (by omega) (by omega)
  have m3 := mul_bd (a := b) (b := t) (A := 12) (B := 100000) (by omega) (by omega) (by omega) (by omega)
  unfold spec_l7Length.f len
  rw [specLess_ok (A := 9900000) (B := 100000) (sm (by omega) (by omega)) (sm (by omega) (by omega)) (by omega) (by omega), Option.bind_some]
  by_cases h1 : c * u < t * 1
  · simp only [h1, decide_true, if_true, ho, Option.bind_some]
    rw [specLess_ok (A := 100000 * 12) (B := 1287 * 100000) ((sm (by omega) (by omega)).mul (sm (by omega) (by omega))) ((sm (by omega) (by omega)).mul (sm (by omega) (by omega))) (by omega) (by omega), Option.bind_some]
    by_cases h2 : t * (cut (c * b + a) b).2 < (cut (c * b + a) b).1 * u
    · simp only [h2, decide_true, if_true]
      rw [minus_ok hk (A := 100000) (B := 9900000) (C := 100000) (sm (by omega) (by omega)) (sm (by omega) (by omega)) (sm (by omega) (by omega)) (by omega) (by omega) (by omega), Option.bind_some]
      have q1 : (t * 1 - c * u).natAbs ≤ 10000000 := by omega
      have p1 := cut_pos (a := t * 1 - c * u) (b := u * 1) (by omega)
      have p2 := cut_le (t * 1 - c * u) (u * 1) (by omega)
      have p3 := cut_abs (t * 1 - c * u) (u * 1) (by omega)
      have p4 := cut_cross (t * 1 - c * u) (u * 1) (by omega)
      generalize cut (t * 1 - c * u) (u * 1) = x at *
      obtain ⟨x1, x2⟩ := x
      simp only at p1 p2 p3 p4 ⊢
      rw [times_ok hk (A := 12 * 10000000) (C := 1 * 100000) ((sm (by omega) (by omega)).mul (sm (by omega) (by omega))) ((sm (by omega) (by omega)).mul (sm (by omega) (by omega))) (by omega) (by omega) (by omega), Option.bind_some]
      have r0 : (b * x1).natAbs ≤ 12 * 10000000 := (sm (by omega) (by omega) : Sm b 12).mul (sm (by omega) (by omega) : Sm x1 10000000)
      have r1 := cut_pos (a := b * x1) (b := 1 * x2) (by omega)
      have r2 := cut_le (b * x1) (1 * x2) (by omega)
      have r3 := cut_abs (b * x1) (1 * x2) (by omega)
      have r4 := cut_cross (b * x1) (1 * x2) (by omega)
      generalize cut (b * x1) (1 * x2) = y at *
      obtain ⟨y1, y2⟩ := y
      simp only at r1 r2 r3 r4 ⊢
      rw [minus_ok hk (A := 99 * 100000) (B := 120000000) (C := 100000) ((sm (by omega) (by omega)).mul (sm (by omega) (by omega))) (sm (by omega) (by omega)) (sm (by omega) (by omega)) (by omega) (by omega) (by omega)]
      show some (cut (a * y2 - y1 * 1) (1 * y2)) = _
      congr 1
      refine cut_eq (by omega) (by omega) ?_
      have e1 : x1 * u = (t - c * u) * x2 := by grind
      have e2 : y1 * x2 = b * x1 * y2 := by grind
      have e3 : ((a * y2 - y1 * 1) * u) * x2 = (((a + b * c) * u - b * t) * (1 * y2)) * x2 := by grind
      exact Int.eq_of_mul_eq_mul_right (by omega) e3
    · simp only [h2, decide_false, Bool.false_eq_true, if_false, Option.bind_some]
  · simp only [h1, decide_false, Bool.false_eq_true, if_false, Option.bind_some]
end Go.Proofs.Ytkefphfjeodgnaa.Pure
