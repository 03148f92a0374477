/- How many candles burn at a time. Conditions: those each lemma names. -/
import Derived.Test.YtkefphfjeodgnaaVMeetingsBase
import Derived.Test.YtkefphfjeodgnaaVMeetingsLists
import Derived.Test.YtkefphfjeodgnaaVMeetingsPAx0
import Derived.Test.YtkefphfjeodgnaaVMeetingsPAx1
import Derived.Test.YtkefphfjeodgnaaVMeetingsPAx2
import Derived.Test.YtkefphfjeodgnaaVMeetingsPAx3
import Derived.Test.YtkefphfjeodgnaaVMeetingsPAx4
import Derived.Test.YtkefphfjeodgnaaVMeetingsPAx5
import Derived.Test.YtkefphfjeodgnaaVMeetingsPAx8
import Derived.Test.YtkefphfjeodgnaaVMeetingsPAx9
import Derived.Test.YtkefphfjeodgnaaVMeetingsPAx12
import Derived.Test.YtkefphfjeodgnaaVMeetingsPAx13
import Derived.Test.YtkefphfjeodgnaaVMeetingsPAx17
import Derived.Test.YtkefphfjeodgnaaVMeetingsPAx19
import Derived.Test.YtkefphfjeodgnaaVMeetingsPAx20
import Derived.Test.YtkefphfjeodgnaaVMeetingsPAx21
import Derived.Test.YtkefphfjeodgnaaVMeetingsPAx22
import Derived.Test.YtkefphfjeodgnaaVMeetingsPAx23
import Derived.Test.YtkefphfjeodgnaaVMeetingsPAx24
import Derived.Test.YtkefphfjeodgnaaVMeetingsPAx25
import Derived.Test.YtkefphfjeodgnaaVMeetingsPAx26
import Derived.Test.YtkefphfjeodgnaaVMeetingsPAx27
import Derived.Test.YtkefphfjeodgnaaVMeetingsBase2

set_option linter.unusedVariables false
set_option linter.unusedSimpArgs false
namespace Go.Proofs.Ytkefphfjeodgnaa.Pure
open Go.RowKit Go.Proofs.Ytkefphfjeodgnaa.PA Go.Proofs.Ytkefphfjeodgnaa.PL Go.Proofs.YtkefphfjeodgnaaW.PrintWords Go.Proofs.YtkefphfjeodgnaaW.PrintLast Go.Proofs.YtkefphfjeodgnaaW.PrintMore
/-- A candle burns at a time. -/
def burnsAt (x : S25) (t u : Int) : Bool := !decide (t * 1 < x.f2 * u) && decide (t * (cut (x.f2 * x.f1 + x.f0) x.f1).2 < (cut (x.f2 * x.f1 + x.f0) x.f1).1 * u)
theorem burns_ok {k : Nat} (hk : BIG ≤ k) {x : S25} (h : Cand x.f0 x.f1 x.f2) {t u : Int} (ht : 0 ≤ t ∧ t ≤ 100000) (hu : 1 ≤ u ∧ u ≤ 100000) :
    spec_l7Burns.f k x.f0 x.f1 x.f2 t u = some (burnsAt x t u) ∧ impl_Candle_burns.f k x.f0 x.f1 x.f2 t u = some (burnsAt x t u) := by
  have ho := out_bd h
  have h1 := specOut_ok hk h
  have h2 := implOut_ok hk h
  have h' := h
  obtain ⟨⟨a1, a2⟩, ⟨b1, b2⟩, c1, c2⟩ := h'
  unfold spec_l7Burns.f impl_Candle_burns.f impl_whole.f burnsAt
  have m1 := mul_bd (a := x.f2) (b := u) (A := 99) (B := 100000) (by omega) (by omega) (by omega) (by omega)
  generalize cut (x.f2 * x.f1 + x.f0) x.f1 = y at *
  obtain ⟨y1, y2⟩ := y
  simp only at ho
  have m2 := mul_bd (a := t) (b := y2) (A := 100000) (B := 12) (by omega) (by omega) (by omega) (by omega)
  have m3 := mul_bd (a := y1) (b := u) (A := 1287) (B := 100000) (by omega) (by omega) (by omega) (by omega)
  have s1 : Sm (t * 1) 100000 := sm (by omega) (by omega)
  have s2 : Sm (x.f2 * u) 9900000 := sm (by omega) (by omega)
  have s3 : Sm (t * y2) 1200000 := sm (by omega) (by omega)
  have s4 : Sm (y1 * u) 128700000 := sm (by omega) (by omega)
  simp only [Option.bind_some]
  rw [specLess_ok s1 s2 (by omega) (by omega), implLess_ok s1 s2 (by omega) (by omega), Option.bind_some, Option.bind_some, h1, h2, Option.bind_some, Option.bind_some]
  simp only
  rw [specLess_ok s3 s4 (by omega) (by omega), implLess_ok s3 s4 (by omega) (by omega), Option.bind_some]
  by_cases h5 : t * 1 < x.f2 * u
  · simp only [decide_eq_true h5, if_true, Bool.not_true, Bool.false_and, and_self]
  · simp only [decide_eq_false h5, Bool.false_eq_true, if_false, Bool.not_false, Bool.true_and, and_self]
def many (xs : List S25) (t u : Int) : Nat := (xs.filter fun x => burnsAt x t u).length
end Go.Proofs.Ytkefphfjeodgnaa.Pure
