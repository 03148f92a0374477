/- Candles: lengths. Conditions: those each lemma names. -/
import Derived.Test.YtpoglodghpkjiaaVOrderAtBase2
import Derived.Test.YtpoglodghpkjiaaVOrderAtPAx0
import Derived.Test.YtpoglodghpkjiaaVOrderAtPAx1
import Derived.Test.YtpoglodghpkjiaaVOrderAtPAx2
import Derived.Test.YtpoglodghpkjiaaVOrderAtPAx3
import Derived.Test.YtpoglodghpkjiaaVOrderAtPAx4
import Derived.Test.YtpoglodghpkjiaaVOrderAtPAx5
import Derived.Test.YtpoglodghpkjiaaVOrderAtPAx6
import Derived.Test.YtpoglodghpkjiaaVOrderAtPAx7
import Derived.Test.YtpoglodghpkjiaaVOrderAtPAx8
import Derived.Test.YtpoglodghpkjiaaVOrderAtPAx9
import Derived.Test.YtpoglodghpkjiaaVOrderAtPAx10
import Derived.Test.YtpoglodghpkjiaaVOrderAtPAx11
set_option linter.unusedVariables false
set_option linter.unusedSimpArgs false
namespace Go.Proofs.Ytpoglodghpkjiaa.Pure
open Go.RowKit Go.Proofs.Ytpoglodghpkjiaa.PA Go.Proofs.YtpoglodghpkjiaaW.PrintWords Go.Proofs.YtpoglodghpkjiaaW.PrintLast Go.Proofs.YtpoglodghpkjiaaW.PrintMore

/-- A time is valid. -/
theorem times_ok {k : Nat} (hk : BIG ≤ k) {a b c d : Int} {A C : Nat} (h1 : Sm (a * c) A) (h3 : Sm (b * d) C) (hp : 0 < b * d) (hA : A ≤ 4611686018427387904) (hC : C ≤ 4611686018427387904) :
    spec_l2Times.f k a b c d = some (cut (a * c) (b * d)) := by
  unfold spec_l2Times.f
  rw [h1.wrap (by omega), h3.wrap hC]
  unfold Sm at *
  rw [l2Cut_ok hk hp (by omega) (by omega)]
  rfl
/-- A candle's length at a time. -/
def len (a b c t u : Int) : Int × Int := if c * u < t * 1 then (if t * (cut (c * b + a) b).2 < (cut (c * b + a) b).1 * u then cut ((a + b * c) * u - b * t) u else (0, 1)) else (a, 1)
theorem implLen_ok {k : Nat} (hk : BIG ≤ k) {a b c t u : Int} (h : Cand a b c) (ht : Mom t u) : impl_Candle_length.f k a b c t u = some (len a b c t u) := by
  obtain ⟨o1, o2, o3, o4⟩ := out_bd h
  have ho := implOut_ok hk h
  unfold Cand at h
  unfold Mom at ht
  have m1 := mul_bd (a := c) (b := u) (A := 99) (B := 100000) (by omega) (by omega) (by omega) (by omega)
  have m2 := mul_bd (a := b) (b := c) (A := 12) (B := 99) (by omega) (by omega) (by omega) (by omega)
  have m3 := mul_bd (a := b) (b := t) (A := 12) (B := 100000) (by omega) (by omega) (by omega) (by omega)
  have m4 := mul_bd (a := a + b * c) (b := u) (A := 1287) (B := 100000) (by omega) (by omega) (by omega) (by omega)
  unfold impl_Candle_length.f impl_whole.f len
  simp only [Option.bind_some]
  rw [implLess_ok (A := 9900000) (B := 100000) (sm (by omega) (by omega)) (sm (by omega) (by omega)) (by omega) (by omega), Option.bind_some]
  by_cases h1 : c * u < t * 1
  · simp only [h1, decide_true, if_true, ho, Option.bind_some]
    rw [implLess_ok (A := 100000 * 12) (B := 1287 * 100000) ((sm (by omega) (by omega)).mul (sm (by omega) (by omega))) ((sm (by omega) (by omega)).mul (sm (by omega) (by omega))) (by omega) (by omega), Option.bind_some]
    by_cases h2 : t * (cut (c * b + a) b).2 < (cut (c * b + a) b).1 * u
    · simp only [h2, decide_true, if_true]
      rw [w64 (n := b * c) (by omega) (by omega), w64 (n := a + b * c) (by omega) (by omega), w64 (n := (a + b * c) * u) (by omega) (by omega), w64 (n := b * t) (by omega) (by omega), w64 (n := (a + b * c) * u - b * t) (by omega) (by omega),
        reduced_ok hk (by omega) (by omega) (by omega)]
      rfl
    · simp only [h2, decide_false, Bool.false_eq_true, if_false, Option.bind_some]
  · simp only [h1, decide_false, Bool.false_eq_true, if_false, Option.bind_some]
theorem specLen_ok {k : Nat} (hk : BIG ≤ k) {a b c t u : Int} (h : Cand a b c) (ht : Mom t u) : spec_l7Length.f k a b c t u = some (len a b c t u) := by
  obtain ⟨o1, o2, o3, o4⟩ := out_bd h
  have ho := specOut_ok hk h
  unfold Cand at h
  unfold Mom at ht
  have m1 := mul_bd (a := c) (b := u) (A := 99) (B := 100000) (by omega) (by omega) (by omega) (by omega)
  have m2 := mul_bd (a := b) (b := c) (A := 12) (B := 99) (by omega) (by omega) (by omega) (by omega)
  have m3 := mul_bd (a := b) (b := t) (A := 12) (B := 100000) (by omega) (by omega) (by omega) (by omega)
  unfold spec_l7Length.f len
  rw [specLess_ok (A := 9900000) (B := 100000) (sm (by omega) (by omega)) (sm (by omega) (by omega)) (by omega) (by omega), Option.bind_some]
  by_cases h1 : c * u < t * 1
  · simp only [h1, decide_true, if_true, ho, Option.bind_some]
    rw [specLess_ok (A := 100000 * 12) (B := 1287 * 100000) ((sm (by omega) (by omega)).mul (sm (by omega) (by omega))) ((sm (by omega) (by omega)).mul (sm (by omega) (by omega))) (by omega) (by omega), Option.bind_some]
    by_cases h2 : t * (cut (c * b + a) b).2 < (cut (c * b + a) b).1 * u
    · simp only [h2, decide_true, if_true]
      rw [minus_ok hk (A := 100000) (B := 9900000) (C := 100000) (sm (by omega) (by omega)) (sm (by omega) (by omega)) (sm (by omega) (by omega)) (by omega) (by omega) (by omega), Option.bind_some]
      have q1 : (t * 1 - c * u).natAbs ≤ 10000000 := by omega
      have p1 := cut_pos (a := t * 1 - c * u) (b := u * 1) (by omega)
      have p2 := cut_le (t * 1 - c * u) (u * 1) (by omega)
      have p3 := cut_abs (t * 1 - c * u) (u * 1) (by omega)
      have p4 := cut_cross (t * 1 - c * u) (u * 1) (by omega)
      generalize cut (t * 1 - c * u) (u * 1) = x at *
      obtain ⟨x1, x2⟩ := x
      simp only at p1 p2 p3 p4 ⊢
      rw [times_ok hk (A := 12 * 10000000) (C := 1 * 100000) ((sm (by omega) (by omega)).mul (sm (by omega) (by omega))) ((sm (by omega) (by omega)).mul (sm (by omega) (by omega))) (by omega) (by omega) (by omega), Option.bind_some]
      have r0 : (b * x1).natAbs ≤ 12 * 10000000 := (sm (by omega) (by omega) : Sm b 12).mul (sm (by omega) (by omega) : Sm x1 10000000)
      have r1 := cut_pos (a := b * x1) (b := 1 * x2) (by omega)
      have r2 := cut_le (b * x1) (1 * x2) (by omega)
      have r3 := cut_abs (b * x1) (1 * x2) (by omega)
      have r4 := cut_cross (b * x1) (1 * x2) (by omega)
      generalize cut (b * x1) (1 * x2) = y at *
      obtain ⟨y1, y2⟩ := y
      simp only at r1 r2 r3 r4 ⊢
      rw [minus_ok hk (A := 99 * 100000) (B := 120000000) (C := 100000) ((sm (by omega) (by omega)).mul (sm (by omega) (by omega))) (sm (by omega) (by omega)) (sm (by omega) (by omega)) (by omega) (by omega) (by omega)]
      show some (cut (a * y2 - y1 * 1) (1 * y2)) = _
      congr 1
      refine cut_eq (by omega) (by omega) ?_
      have e1 : x1 * u = (t - c * u) * x2 := by grind
      have e2 : y1 * x2 = b * x1 * y2 := by grind
      have e3 : ((a * y2 - y1 * 1) * u) * x2 = (((a + b * c) * u - b * t) * (1 * y2)) * x2 := by grind
      exact Int.eq_of_mul_eq_mul_right (by omega) e3
    · simp only [h2, decide_false, Bool.false_eq_true, if_false, Option.bind_some]
  · simp only [h1, decide_false, Bool.false_eq_true, if_false, Option.bind_some]
end Go.Proofs.Ytpoglodghpkjiaa.Pure
