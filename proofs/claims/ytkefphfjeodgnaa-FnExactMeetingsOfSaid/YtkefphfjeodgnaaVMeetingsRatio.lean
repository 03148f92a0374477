/- Candles: lengths of two candles that are in a ratio. Conditions: those each lemma names. -/
import Derived.Test.YtkefphfjeodgnaaVMeetingsBase3
set_option linter.unusedVariables false
set_option linter.unusedSimpArgs false
namespace Go.Proofs.Ytkefphfjeodgnaa.Pure
open Go.RowKit Go.Proofs.Ytkefphfjeodgnaa.PA Go.Proofs.YtkefphfjeodgnaaW.PrintWords Go.Proofs.YtkefphfjeodgnaaW.PrintLast Go.Proofs.YtkefphfjeodgnaaW.PrintMore

theorem cut_lt {X b t u : Int} (hb : 0 < b) : t * (cut X b).2 < (cut X b).1 * u ↔ t * b < X * u := by
  have h1 := cut_pos (a := X) hb
  have h2 := cut_cross X b hb
  generalize cut X b = z at *
  have e : (z.1 * u) * b = (X * u) * z.2 := by
    calc (z.1 * u) * b = (z.1 * b) * u := by grind
      _ = (X * u) * z.2 := by rw [h2]; grind
  have e2 : (t * z.2) * b = (t * b) * z.2 := by grind
  constructor
  · intro h
    have h3 : t * z.2 * b < z.1 * u * b := Int.mul_lt_mul_of_pos_right h hb
    rw [e, e2] at h3
    exact Int.lt_of_mul_lt_mul_right h3 (by omega)
  · intro h
    have h3 : (t * b) * z.2 < (X * u) * z.2 := Int.mul_lt_mul_of_pos_right h h1
    rw [← e, ← e2] at h3
    exact Int.lt_of_mul_lt_mul_right h3 (by omega)
theorem cut_one (a : Int) : cut a 1 = (a, 1) := by
  refine cut_cop (by omega) ?_
  exact Int.gcd_one_right a
theorem len_at {a b c t u : Int} (h : Cand a b c) (hu : 0 < u) (ht : c * u ≤ t) : len a b c t u = if t * b < (c * b + a) * u then cut ((a + b * c) * u - b * t) u else (0, 1) := by
  unfold Cand at h
  unfold len
  by_cases h1 : c * u < t * 1
  · rw [if_pos h1]
    by_cases h2 : t * b < (c * b + a) * u
    · rw [if_pos h2, if_pos ((cut_lt (by omega)).2 h2)]
    · rw [if_neg h2, if_neg (fun h3 => h2 ((cut_lt (by omega)).1 h3))]
  · have e : c * u = t := by omega
    rw [if_neg h1]
    have h3 : 0 < a * u := Int.mul_pos (by omega) hu
    have e2 : (c * b + a) * u - t * b = a * u := by rw [← e]; grind
    have e4 : (a + b * c) * u - b * t = a * u := by rw [← e]; grind
    rw [if_pos (by omega), e4, ← cut_one a]
    exact cut_eq (by omega) hu (by grind)
/-- A candle burns, in whole numbers. -/
theorem burn_pos {a b c t u : Int} (h : t * b < (c * b + a) * u) : 0 < (a + b * c) * u - b * t := by
  have e : (a + b * c) * u - b * t = (c * b + a) * u - t * b := by grind
  omega
end Go.Proofs.Ytkefphfjeodgnaa.Pure
