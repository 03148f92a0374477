/- LightTotal: the program's sum is the reference's. Conditions: none. -/
import Derived.Test.YtkefphfjeodgnaaCandList
import Derived.Test.YtkefphfjeodgnaaBase2
import Derived.Test.YtkefphfjeodgnaaPAx18
set_option linter.unusedVariables false
set_option linter.unusedSimpArgs false
namespace Go.Proofs.Ytkefphfjeodgnaa.Pure
open Go.RowKit Go.Proofs.Ytkefphfjeodgnaa.PA Go.Proofs.Ytkefphfjeodgnaa.PL Go.Proofs.YtkefphfjeodgnaaW.PrintWords Go.Proofs.YtkefphfjeodgnaaW.PrintLast Go.Proofs.YtkefphfjeodgnaaW.PrintMore
/-- The sum of what is left of a list's candles, from a place on. -/
def total : List S25 → Int × Int → Int × Int
  | [], t => t
  | x :: xs, t => total xs (cut (t.1 * (cut x.f0 x.f1).2 + (cut x.f0 x.f1).1 * t.2) (t.2 * (cut x.f0 x.f1).2))
theorem total_step {k : Nat} (hk : BIG ≤ k) {x : S25} (hx : Cand x.f0 x.f1 x.f2) {t : Int × Int} {i : Nat} (hi : i < 6) (h0 : 0 ≤ t.1) (h1 : 0 < t.2) (h2 : t.2 ≤ 12 ^ i) (h3 : t.1 ≤ 99 * i * t.2) :
    let t' := cut (t.1 * (cut x.f0 x.f1).2 + (cut x.f0 x.f1).1 * t.2) (t.2 * (cut x.f0 x.f1).2)
    spec_l2Cut.f k x.f0 x.f1 = some (cut x.f0 x.f1) ∧ impl_over.f k x.f0 x.f1 = some (cut x.f0 x.f1) ∧ spec_l2Plus.f k t.1 t.2 (cut x.f0 x.f1).1 (cut x.f0 x.f1).2 = some t' ∧ impl_plus.f k t.1 t.2 (cut x.f0 x.f1).1 (cut x.f0 x.f1).2 = some t' ∧
      0 ≤ t'.1 ∧ 0 < t'.2 ∧ t'.2 ≤ 12 ^ (i + 1) ∧ t'.1 ≤ 99 * ((i + 1 : Nat) : Int) * t'.2 := by
  obtain ⟨⟨a1, a2⟩, ⟨b1, b2⟩, _⟩ := hx
  have p1 := cut_pos (a := x.f0) (b := x.f1) (by omega)
  have p2 := cut_le x.f0 x.f1 (by omega)
  have p3 := cut_nonneg (a := x.f0) (b := x.f1) (by omega) (by omega)
  have p4 := cut_le1 (a := x.f0) (b := x.f1) (by omega) (by omega)
  have q1 : spec_l2Cut.f k x.f0 x.f1 = some (cut x.f0 x.f1) := l2Cut_ok hk (by omega) (by omega) (by omega)
  have q2 : impl_over.f k x.f0 x.f1 = some (cut x.f0 x.f1) := over_ok hk (by omega) (by omega) (by omega)
  have p5 := cut_cross x.f0 x.f1 (by omega)
  have p6 : (cut x.f0 x.f1).1 ≤ 99 * (cut x.f0 x.f1).2 := by omega
  generalize cut x.f0 x.f1 = c at *
  obtain ⟨c1, c2⟩ := c
  obtain ⟨t1, t2⟩ := t
  simp only at *
  have e12 : (12 : Int) ^ i ≤ 248832 := by
    rcases i with _ | _ | _ | _ | _ | _ | i <;> first | decide | omega
  have m1 : 99 * (i : Int) * t2 ≤ 99 * 5 * 248832 := Int.mul_le_mul (by omega) (by omega) (by omega) (by omega)
  have m2 := mul_bd (a := t1) (b := c2) (A := 123171840) (B := 12) h0 (by omega) (by omega) (by omega)
  have m3 := mul_bd (a := c1) (b := t2) (A := 99) (B := 248832) (by omega) (by omega) (by omega) (by omega)
  have m4 := mul_bd (a := t2) (b := c2) (A := 248832) (B := 12) (by omega) (by omega) (by omega) (by omega)
  have m5 : 0 < t2 * c2 := Int.mul_pos h1 p1
  have s1 : Sm (t1 * c2) 1478062080 := sm (by omega) (by omega)
  have s2 : Sm (c1 * t2) 24634368 := sm (by omega) (by omega)
  have s3 : Sm (t2 * c2) 2985984 := sm (by omega) (by omega)
  have r1 := cut_pos (a := t1 * c2 + c1 * t2) m5
  have r2 := cut_le (t1 * c2 + c1 * t2) (t2 * c2) m5
  have r3 := cut_nonneg (a := t1 * c2 + c1 * t2) m5 (by omega)
  have r4 := cut_cross (t1 * c2 + c1 * t2) (t2 * c2) m5
  refine ⟨q1, q2, specPlus_ok hk s1 s2 s3 m5 (by omega) (by omega), implPlus_ok hk s1 s2 s3 m5 (by omega) (by omega), r3, r1, ?_, ?_⟩
  · have : t2 * c2 ≤ 12 ^ i * 12 := Int.mul_le_mul h2 (by omega) (by omega) (by omega)
    rw [Int.pow_succ]
    omega
  · have h6 : t1 * c2 + c1 * t2 ≤ 99 * ((i + 1 : Nat) : Int) * (t2 * c2) := by
      have u1 : t1 * c2 ≤ 99 * (i : Int) * t2 * c2 := Int.mul_le_mul_of_nonneg_right h3 (by omega)
      have u2 : c1 * t2 ≤ 99 * c2 * t2 := Int.mul_le_mul_of_nonneg_right p6 (by omega)
      have u3 : 99 * ((i + 1 : Nat) : Int) * (t2 * c2) = 99 * (i : Int) * t2 * c2 + 99 * c2 * t2 := by
        rw [Int.natCast_add]; grind
      omega
    generalize cut (t1 * c2 + c1 * t2) (t2 * c2) = y at *
    obtain ⟨y1, y2⟩ := y
    simp only at *
    have u4 : y1 * (t2 * c2) ≤ 99 * ((i + 1 : Nat) : Int) * y2 * (t2 * c2) := by
      rw [r4]
      have := Int.mul_le_mul_of_nonneg_right h6 (c := y2) (by omega)
      grind
    exact Int.le_of_mul_le_mul_right u4 m5
theorem total_go {xs : List S25} (hg : good xs = true) : ∀ (d k i : Nat) (t : Int × Int), xs.length = i + d → BIG + d < k → 0 ≤ t.1 → 0 < t.2 → t.2 ≤ 12 ^ i → t.1 ≤ 99 * i * t.2 →
    spec_LightTotal.l0 k xs i t.1 t.2 = some ((total (xs.drop i) t).1, (total (xs.drop i) t).2, true) ∧ impl_LightTotal.l0 k xs (xs.length : Int) i t.1 t.2 = some ((total (xs.drop i) t).1, (total (xs.drop i) t).2, true) := by
  have hl := good_len hg
  intro d
  induction d with
  | zero =>
    intro k i t h1 hk _ _ _ _
    obtain ⟨k, rfl⟩ : ∃ m, k = m + 1 := ⟨k - 1, by omega⟩
    simp only [spec_LightTotal.l0, impl_LightTotal.l0]
    rw [if_neg (by omega), if_neg (by omega), List.drop_eq_nil_of_le (by omega)]
    exact ⟨rfl, rfl⟩
  | succ d ih =>
    intro k i t h1 hk g0 g1 g2 g3
    obtain ⟨k, rfl⟩ : ∃ m, k = m + 1 := ⟨k - 1, by omega⟩
    obtain ⟨x, hxx⟩ := at_lt (xs := xs) (i := i) (by omega)
    have hd : xs.drop i = x :: xs.drop (i + 1) := by
      rw [List.drop_eq_getElem_cons (by omega)]
      rw [List.getElem?_eq_getElem (by omega)] at hxx
      cases hxx; rfl
    have hi : (i : Int) < (xs.length : Int) := by omega
    have h0 : (0 : Int) ≤ (i : Int) := by omega
    obtain ⟨c1, c2, c3, c4, c5, c6, c7, c8⟩ := total_step (k := k) (by omega) (good_at hg hxx) (t := t) (i := i) (by omega) g0 g1 g2 g3
    simp only [spec_LightTotal.l0, impl_LightTotal.l0, hi, h0, if_true, rd_at hxx, c1, c2, Option.bind_some, c3, c4, wrS i (by omega), hd, total]
    exact ih k (i + 1) _ (by omega) (by omega) c5 c6 c7 c8
theorem lightTotal_ok {k : Nat} (hk : BIG + 2000000 ≤ k) {ys : List S25} (hm : ys.length ≤ 1048576) : ∃ r, spec_LightTotal.f k ys = some r ∧ impl_LightTotal.f k ys = some r := by
  unfold spec_LightTotal.f impl_LightTotal.f impl_whole.f
  rw [specList_ok (by have := BIG_le; omega), implList_ok (by omega) (by omega)]
  by_cases hg : good ys = true
  · have hl := good_len hg
    obtain ⟨e1, e2⟩ := total_go hg ys.length k 0 (0, 1) (by omega) (by omega) (by decide) (by decide) (by decide) (by decide)
    rw [show ((0 : Nat) : Int) = 0 from rfl] at e1 e2
    simp only at e1 e2
    simp only [Option.bind_some, hg, if_true, e1, e2]
    exact ⟨_, rfl, rfl⟩
  · simp only [Option.bind_some, hg, if_false]
    exact ⟨_, rfl, rfl⟩
theorem FnExactLightTotal : laws_FnExactLightTotal.Pure := by
  intro xs _ hxs
  unfold laws_FnExactLightTotal.f
  by_cases hx : xs.length ≤ 1048576
  · obtain ⟨k, hk⟩ : ∃ k, k = BIG + 2097152 := ⟨_, rfl⟩
    refine ⟨k + 1, ?_⟩
    obtain ⟨n, hn⟩ := szCandleS_ex xs
    rw [hn, Option.bind_some]
    split
    · rfl
    · have hm : (xs.map convCandle).length ≤ 1048576 := by simpa using hx
      have ht : ∀ k, xs.length < k → laws_toCandleS.f k xs = some (xs.map convCandle) := fun k hk => toCandleS_ok hx hk
      rw [ht _ (by omega), Option.bind_some]
      generalize xs.map convCandle = ys at *
      obtain ⟨r, e1, e2⟩ := lightTotal_ok (k := k + 1) (by omega) hm
      rw [e1, Option.bind_some, Option.bind_some, e2, Option.bind_some, eqA2_self, Option.bind_some, if_pos rfl]
      simp only [laws_FnExactLightTotal.j0, bne_self_eq_false, Bool.false_eq_true, if_false]
      rw [ht _ (by omega), Option.bind_some, eqCandleS_self (by omega) (by omega), Option.bind_some, if_pos rfl]
  · refine ⟨1, ?_⟩
    rw [szCandleS_far (by omega) hxs]
    rfl
end Go.Proofs.Ytkefphfjeodgnaa.Pure
