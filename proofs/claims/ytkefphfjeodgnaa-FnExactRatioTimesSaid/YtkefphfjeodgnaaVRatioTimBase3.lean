/- Candles: lengths. Conditions: those each lemma names. -/
import Derived.Test.YtkefphfjeodgnaaVRatioTimBase2
import Derived.Test.YtkefphfjeodgnaaVRatioTimPAx0
import Derived.Test.YtkefphfjeodgnaaVRatioTimPAx2
import Derived.Test.YtkefphfjeodgnaaVRatioTimPAx3
import Derived.Test.YtkefphfjeodgnaaVRatioTimPAx4
import Derived.Test.YtkefphfjeodgnaaVRatioTimPAx5
import Derived.Test.YtkefphfjeodgnaaVRatioTimPAx8
import Derived.Test.YtkefphfjeodgnaaVRatioTimPAx12
import Derived.Test.YtkefphfjeodgnaaVRatioTimPAx13
import Derived.Test.YtkefphfjeodgnaaVRatioTimPAx15
import Derived.Test.YtkefphfjeodgnaaVRatioTimPAx16
import Derived.Test.YtkefphfjeodgnaaVRatioTimPAx17
import Derived.Test.YtkefphfjeodgnaaVRatioTimPAx18
set_option linter.unusedVariables false
set_option linter.unusedSimpArgs false
namespace Go.Proofs.Ytkefphfjeodgnaa.Pure
open Go.RowKit Go.Proofs.Ytkefphfjeodgnaa.PA Go.Proofs.YtkefphfjeodgnaaW.PrintWords Go.Proofs.YtkefphfjeodgnaaW.PrintLast Go.Proofs.YtkefphfjeodgnaaW.PrintMore

/-- A candle's length at a time. -/
def len (a b c t u : Int) : Int × Int := if c * u < t * 1 then (if t * (cut (c * b + a) b).2 < (cut (c * b + a) b).1 * u then cut ((a + b * c) * u - b * t) u else (0, 1)) else (a, 1)
theorem implLen_ok {k : Nat} (hk : BIG ≤ k) {a b c t u : Int} (h : Cand a b c) (ht : Mom t u) : impl_Candle_length.f k a b c t u = some (len a b c t u) := by
  obtain ⟨o1, o2, o3, o4⟩ := out_bd h
  have ho := implOut_ok hk h
  unfold Cand at h
  unfold Mom at ht
  have m1 := mul_bd (a := c) (b := u) (A := 99) (B := 100000) (by omega) (by omega) (by omega) (by omega)
  have m2 := mul_bd (a := b) (b := c) (A := 12) (B := 99) (by omega) (by omega) (by omega) (by omega)
  have m3 := mul_bd (a := b) (b := t) (A := 12) (B := 100000) (by omega) (by omega) (by omega) (by omega)
  have m4 := mul_bd (a := a + b * c) (b := u) (A := 1287) (B := 100000) (by omega) (by omega) (by omega) (by omega)
  unfold impl_Candle_length.f impl_whole.f len
  simp only [Option.bind_some]
  rw [implLess_ok (A := 9900000) (B := 100000) (sm (by omega) (by omega)) (sm (by omega) (by omega)) (by omega) (by omega), Option.bind_some]
  by_cases h1 : c * u < t * 1
  · simp only [h1, decide_true, if_true, ho, Option.bind_some]
    rw [implLess_ok (A := 100000 * 12) (B := 1287 * 100000) ((sm (by omega) (by omega)).mul (sm (by omega) (by omega))) ((sm (by omega) (by omega)).mul (sm (by omega) (by omega))) (by omega) (by omega), Option.bind_some]
    by_cases h2 : t * (cut (c * b + a) b).2 < (cut (c * b + a) b).1 * u
    · simp only [h2, decide_true, if_true]
      rw [w64 (n := b * c) (by omega) (by omega), w64 (n := a + b * c) (by omega) (by omega), w64 (n := (a + b * c) * u) (by omega) (by omega), w64 (n := b * t) (by omega) (by omega), w64 (n := (a + b * c) * u - b * t) (by omega) (by omega),
        reduced_ok hk (by omega) (by omega) (by omega)]
      rfl
    · simp only [h2, decide_false, Bool.false_eq_true, if_false, Option.bind_some]
  · simp only [h1, decide_false, Bool.false_eq_true, if_false, Option.bind_some]
end Go.Proofs.Ytkefphfjeodgnaa.Pure
