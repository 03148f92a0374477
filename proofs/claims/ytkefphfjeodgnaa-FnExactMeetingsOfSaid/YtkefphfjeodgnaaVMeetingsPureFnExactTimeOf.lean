/- TimeOf: the program's answer is the reference's, for all candles and lengths. Conditions: none. -/
import Derived.Test.YtkefphfjeodgnaaVMeetingsBase2
import Derived.Test.YtkefphfjeodgnaaVMeetingsPAx0
import Derived.Test.YtkefphfjeodgnaaVMeetingsPAx1
import Derived.Test.YtkefphfjeodgnaaVMeetingsPAx2
import Derived.Test.YtkefphfjeodgnaaVMeetingsPAx3
import Derived.Test.YtkefphfjeodgnaaVMeetingsPAx4
import Derived.Test.YtkefphfjeodgnaaVMeetingsPAx5
import Derived.Test.YtkefphfjeodgnaaVMeetingsPAx8
import Derived.Test.YtkefphfjeodgnaaVMeetingsPAx9
import Derived.Test.YtkefphfjeodgnaaVMeetingsPAx12
import Derived.Test.YtkefphfjeodgnaaVMeetingsPAx13
import Derived.Test.YtkefphfjeodgnaaVMeetingsPAx17
import Derived.Test.YtkefphfjeodgnaaVMeetingsPAx19
import Derived.Test.YtkefphfjeodgnaaVMeetingsPAx20
import Derived.Test.YtkefphfjeodgnaaVMeetingsPAx21
import Derived.Test.YtkefphfjeodgnaaVMeetingsPAx22
import Derived.Test.YtkefphfjeodgnaaVMeetingsPAx23
import Derived.Test.YtkefphfjeodgnaaVMeetingsPAx24
import Derived.Test.YtkefphfjeodgnaaVMeetingsPAx25
import Derived.Test.YtkefphfjeodgnaaVMeetingsPAx26
import Derived.Test.YtkefphfjeodgnaaVMeetingsPAx27
set_option linter.unusedVariables false
set_option linter.unusedSimpArgs false
namespace Go.Proofs.Ytkefphfjeodgnaa.Pure
open Go.RowKit Go.Proofs.Ytkefphfjeodgnaa.PA Go.Proofs.YtkefphfjeodgnaaW.PrintWords Go.Proofs.YtkefphfjeodgnaaW.PrintLast
/-- The time at which a candle has a length. -/
def timeOf (a b c t u : Int) : Int × Int := cut (c * (cut (a * u - t) (u * b)).2 + (cut (a * u - t) (u * b)).1) (cut (a * u - t) (u * b)).2
theorem specTimeOf_ok {k : Nat} (hk : BIG ≤ k) {a b c t u : Int} (h : Cand a b c) (ht : Mom t u) (hl : t * 1 < a * u) : spec_TimeOf.j0 (k + 1) false a b c t u = some ((timeOf a b c t u).1, (timeOf a b c t u).2, true) := by
  unfold Cand at h
  unfold Mom at ht
  have m1 := mul_bd (a := a) (b := u) (A := 99) (B := 100000) (by omega) (by omega) (by omega) (by omega)
  simp only [spec_TimeOf.j0]
  rw [if_neg (by decide), minus_ok hk (A := 9900000) (B := 100000) (C := 100000) (sm (by omega) (by omega)) (sm (by omega) (by omega)) (sm (by omega) (by omega)) (by omega) (by omega) (by omega), Option.bind_some]
  have p1 := cut_pos (a := a * u - t * 1) (b := 1 * u) (by omega)
  have p2 := cut_le (a * u - t * 1) (1 * u) (by omega)
  have p3 := cut_abs (a * u - t * 1) (1 * u) (by omega)
  have p4 := cut_cross (a * u - t * 1) (1 * u) (by omega)
  generalize cut (a * u - t * 1) (1 * u) = x at *
  obtain ⟨x1, x2⟩ := x
  simp only at p1 p2 p3 p4 ⊢
  have m2 := mul_bd (a := x2) (b := b) (A := 100000) (B := 12) (by omega) (by omega) (by omega) (by omega)
  have m4 : 0 < u * b := Int.mul_pos (by omega) (by omega)
  have m3 : 0 < x2 * b := Int.mul_pos (by omega) (by omega)
  rw [w64 (n := x2 * b) (by omega) (by omega), l2Cut_ok hk m3 (by omega) (by omega), Option.bind_some]
  have e : cut x1 (x2 * b) = cut (a * u - t) (u * b) := by
    refine cut_eq m3 m4 ?_
    grind
  rw [e]
  have m5 := mul_bd (a := u) (b := b) (A := 100000) (B := 12) (by omega) (by omega) (by omega) (by omega)
  have q1 := cut_pos (a := a * u - t) (b := u * b) m4
  have q2 := cut_le (a * u - t) (u * b) m4
  have q3 := cut_abs (a * u - t) (u * b) m4
  unfold timeOf
  generalize cut (a * u - t) (u * b) = y at *
  obtain ⟨y1, y2⟩ := y
  simp only at q1 q2 q3 ⊢
  rw [specPlus_ok hk (A := 99 * 1200000) (B := 20000000) (C := 1200000) ((sm (by omega) (by omega)).mul (sm (by omega) (by omega))) (sm (by omega) (by omega)) (sm (by omega) (by omega)) (by omega) (by omega) (by omega)]
  simp only [Option.bind_some, Int.mul_one, Int.one_mul]
end Go.Proofs.Ytkefphfjeodgnaa.Pure
