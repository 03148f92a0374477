/- How many candles burn at a time. Conditions: those each lemma names. -/
import Derived.Test.YtkefphfjeodgnaaVMostCandList
import Derived.Test.YtkefphfjeodgnaaVMostBase2
import Derived.Test.YtkefphfjeodgnaaVMostPAx19
set_option linter.unusedVariables false
set_option linter.unusedSimpArgs false
namespace Go.Proofs.Ytkefphfjeodgnaa.Pure
open Go.RowKit Go.Proofs.Ytkefphfjeodgnaa.PA Go.Proofs.Ytkefphfjeodgnaa.PL Go.Proofs.YtkefphfjeodgnaaW.PrintWords Go.Proofs.YtkefphfjeodgnaaW.PrintLast Go.Proofs.YtkefphfjeodgnaaW.PrintMore
/-- A candle burns at a time. -/
def burnsAt (x : S25) (t u : Int) : Bool := !decide (t * 1 < x.f2 * u) && decide (t * (cut (x.f2 * x.f1 + x.f0) x.f1).2 < (cut (x.f2 * x.f1 + x.f0) x.f1).1 * u)
theorem burns_ok {k : Nat} (hk : BIG ≤ k) {x : S25} (h : Cand x.f0 x.f1 x.f2) {t u : Int} (ht : 0 ≤ t ∧ t ≤ 100000) (hu : 1 ≤ u ∧ u ≤ 100000) :
    spec_l7Burns.f k x.f0 x.f1 x.f2 t u = some (burnsAt x t u) ∧ impl_Candle_burns.f k x.f0 x.f1 x.f2 t u = some (burnsAt x t u) := by
  have ho := out_bd h
  have h1 := specOut_ok hk h
  have h2 := implOut_ok hk h
  have h' := h
  obtain ⟨⟨a1, a2⟩, ⟨b1, b2⟩, c1, c2⟩ := h'
  unfold spec_l7Burns.f impl_Candle_burns.f impl_whole.f burnsAt
  have m1 := mul_bd (a := x.f2) (b := u) (A := 99) (B := 100000) (by omega) (by omega) (by omega) (by omega)
  generalize cut (x.f2 * x.f1 + x.f0) x.f1 = y at *
  obtain ⟨y1, y2⟩ := y
  simp only at ho
  have m2 := mul_bd (a := t) (b := y2) (A := 100000) (B := 12) (by omega) (by omega) (by omega) (by omega)
  have m3 := mul_bd (a := y1) (b := u) (A := 1287) (B := 100000) (by omega) (by omega) (by omega) (by omega)
  have s1 : Sm (t * 1) 100000 := sm (by omega) (by omega)
  have s2 : Sm (x.f2 * u) 9900000 := sm (by omega) (by omega)
  have s3 : Sm (t * y2) 1200000 := sm (by omega) (by omega)
  have s4 : Sm (y1 * u) 128700000 := sm (by omega) (by omega)
  simp only [Option.bind_some]
  rw [specLess_ok s1 s2 (by omega) (by omega), implLess_ok s1 s2 (by omega) (by omega), Option.bind_some, Option.bind_some, h1, h2, Option.bind_some, Option.bind_some]
  simp only
  rw [specLess_ok s3 s4 (by omega) (by omega), implLess_ok s3 s4 (by omega) (by omega), Option.bind_some]
  by_cases h5 : t * 1 < x.f2 * u
  · simp only [decide_eq_true h5, if_true, Bool.not_true, Bool.false_and, and_self]
  · simp only [decide_eq_false h5, Bool.false_eq_true, if_false, Bool.not_false, Bool.true_and, and_self]
def many (xs : List S25) (t u : Int) : Nat := (xs.filter fun x => burnsAt x t u).length
theorem many_go {xs : List S25} (hg : good xs = true) {t u : Int} (ht : 0 ≤ t ∧ t ≤ 100000) (hu : 1 ≤ u ∧ u ≤ 100000) : ∀ (d k i n : Nat), xs.length = i + d → BIG + d < k → n ≤ i →
    spec_l7Many.l0 k xs n i t u = some ((n + many (xs.drop i) t u : Nat) : Int) ∧ impl_burning.l0 k n xs (xs.length : Int) i t u = some ((n + many (xs.drop i) t u : Nat) : Int) := by
  have hl := good_len hg
  intro d
  induction d with
  | zero =>
    intro k i n h1 hk hn
    obtain ⟨k, rfl⟩ : ∃ m, k = m + 1 := ⟨k - 1, by omega⟩
    simp only [spec_l7Many.l0, impl_burning.l0]
    rw [if_neg (by omega), if_neg (by omega), List.drop_eq_nil_of_le (by omega)]
    exact ⟨rfl, rfl⟩
  | succ d ih =>
    intro k i n h1 hk hn
    obtain ⟨k, rfl⟩ : ∃ m, k = m + 1 := ⟨k - 1, by omega⟩
    obtain ⟨x, hxx⟩ := at_lt (xs := xs) (i := i) (by omega)
    have hd : xs.drop i = x :: xs.drop (i + 1) := by
      rw [List.drop_eq_getElem_cons (by omega)]
      rw [List.getElem?_eq_getElem (by omega)] at hxx
      cases hxx; rfl
    have hi : (i : Int) < (xs.length : Int) := by omega
    have h0 : (0 : Int) ≤ (i : Int) := by omega
    obtain ⟨c1, c2⟩ := burns_ok (k := k) (by omega) (good_at hg hxx) ht hu
    simp only [spec_l7Many.l0, impl_burning.l0, hi, h0, if_true, rd_at hxx, c1, c2, Option.bind_some, wrS i (by omega), wrS n (by omega)]
    by_cases hb : burnsAt x t u = true
    · have e : n + many (xs.drop i) t u = n + 1 + many (xs.drop (i + 1)) t u := by
        rw [hd]; unfold many; rw [List.filter_cons, if_pos hb, List.length_cons]; omega
      rw [if_pos hb, if_pos hb, e]
      exact ih k (i + 1) (n + 1) (by omega) (by omega) (by omega)
    · have e : n + many (xs.drop i) t u = n + many (xs.drop (i + 1)) t u := by
        rw [hd]; unfold many; rw [List.filter_cons, if_neg hb]
      rw [if_neg hb, if_neg hb, e]
      exact ih k (i + 1) n (by omega) (by omega) (by omega)
theorem many_ok {k : Nat} (hk : BIG + 100 ≤ k) {xs : List S25} (hg : good xs = true) {t u : Int} (ht : 0 ≤ t ∧ t ≤ 100000) (hu : 1 ≤ u ∧ u ≤ 100000) :
    spec_l7Many.f k xs t u = some (many xs t u : Int) ∧ impl_burning.f k xs t u = some (many xs t u : Int) := by
  have hl := good_len hg
  have h := many_go hg ht hu xs.length k 0 0 (by omega) (by omega) (by omega)
  rw [List.drop_zero, Nat.zero_add] at h
  exact h
end Go.Proofs.Ytkefphfjeodgnaa.Pure
