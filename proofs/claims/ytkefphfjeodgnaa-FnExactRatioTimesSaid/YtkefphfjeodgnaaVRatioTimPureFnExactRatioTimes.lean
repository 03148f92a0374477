/- RatioTimes: the program's list is the reference's, for all candles and numbers. Conditions: none. -/
import Derived.Test.YtkefphfjeodgnaaVRatioTimRatio
import Derived.Test.YtkefphfjeodgnaaVRatioTimBurning
import Derived.Test.YtkefphfjeodgnaaVRatioTimListsJ
set_option linter.unusedVariables false
set_option linter.unusedSimpArgs false
namespace Go.Proofs.Ytkefphfjeodgnaa.Pure
open Go.RowKit Go.Proofs.Ytkefphfjeodgnaa.PA Go.Proofs.Ytkefphfjeodgnaa.PL Go.Proofs.YtkefphfjeodgnaaW.PrintWords Go.Proofs.YtkefphfjeodgnaaW.PrintLast Go.Proofs.YtkefphfjeodgnaaW.PrintMore
/-- What a line of a candle comes to, in whole numbers. -/
theorem burnsAt_iff {a b c t u : Int} (h : Cand a b c) (hu : 0 < u) (ht : c * u ≤ t) : burnsAt ⟨a, b, c⟩ t u = decide (t * b < (c * b + a) * u) := by
  unfold Cand at h
  unfold burnsAt
  simp only
  have h1 : ¬ t * 1 < c * u := by omega
  rw [decide_eq_false h1, Bool.not_false, Bool.true_and, decide_eq_decide]
  exact cut_lt (by omega)
/-- The one time, if there is one. -/
def ratT (a0 a1 a2 b0 b1 b2 n d : Int) : Option (Int × Int) :=
  let top := d * (a0 + a1 * a2) - n * (b0 + b1 * b2)
  let bot := d * a1 - n * b1
  if bot = 0 then (if top = 0 then some (max a2 b2, 1) else none) else some (if bot < 0 then cut (-top) (-bot) else cut top bot)
def ratL (a0 a1 a2 b0 b1 b2 n d : Int) : List S28 :=
  match ratT a0 a1 a2 b0 b1 b2 n d with
  | none => []
  | some t => if max a2 b2 * t.2 ≤ t.1 ∧ t.1 * a1 < (a2 * a1 + a0) * t.2 ∧ t.1 * b1 < (b2 * b1 + b0) * t.2 then [⟨t.1, t.2⟩] else []
theorem big_pos : 1000 ≤ BIG := by decide
section
variable {a0 a1 a2 b0 b1 b2 n d : Int}
theorem rat_bd (ha : Cand a0 a1 a2) (hb : Cand b0 b1 b2) (hn : 1 ≤ n ∧ n ≤ 12) (hd : 1 ≤ d ∧ d ≤ 12) :
    (0 ≤ a1 * a2 ∧ a1 * a2 ≤ 1188) ∧ (0 ≤ b1 * b2 ∧ b1 * b2 ≤ 1188) ∧ (0 ≤ d * (a0 + a1 * a2) ∧ d * (a0 + a1 * a2) ≤ 15444) ∧ (0 ≤ n * (b0 + b1 * b2) ∧ n * (b0 + b1 * b2) ≤ 15444) ∧ (0 ≤ d * a1 ∧ d * a1 ≤ 144) ∧ (0 ≤ n * b1 ∧ n * b1 ≤ 144) := by
  unfold Cand at ha hb
  have m1 := mul_bd (a := a1) (b := a2) (A := 12) (B := 99) (by omega) (by omega) (by omega) (by omega)
  have m2 := mul_bd (a := b1) (b := b2) (A := 12) (B := 99) (by omega) (by omega) (by omega) (by omega)
  have m3 := mul_bd (a := d) (b := a0 + a1 * a2) (A := 12) (B := 1287) (by omega) (by omega) (by omega) (by omega)
  have m4 := mul_bd (a := n) (b := b0 + b1 * b2) (A := 12) (B := 1287) (by omega) (by omega) (by omega) (by omega)
  have m5 := mul_bd (a := d) (b := a1) (A := 12) (B := 12) (by omega) (by omega) (by omega) (by omega)
  have m6 := mul_bd (a := n) (b := b1) (A := 12) (B := 12) (by omega) (by omega) (by omega) (by omega)
  omega
theorem overN_ok {k : Nat} (hk : BIG ≤ k) {a b : Int} (hb : b ≠ 0) (ha : a.natAbs ≤ 4611686018427387904) (hb2 : b.natAbs ≤ 4611686018427387904) : impl_over.f k a b = some (if b < 0 then cut (-a) (-b) else cut a b) := by
  by_cases h : b < 0
  · unfold impl_over.f
    rw [if_pos h, if_pos h, w64 (by omega) (by omega), w64 (by omega) (by omega), reduced_ok hk (by omega) (by omega) (by omega)]
    rfl
  · rw [if_neg h]
    exact over_ok hk (by omega) ha (by omega)
/-- From the test for the times' order on. -/
theorem impl_rat_end {k : Nat} (hk : BIG ≤ k) (ha : Cand a0 a1 a2) (hb : Cand b0 b1 b2) (hn : 1 ≤ n ∧ n ≤ 12) (hd : 1 ≤ d ∧ d ≤ 12) {st t u : Int} (hst : st = max a2 b2) (hu : 0 < u) (hu2 : u ≤ 144) (ht : t.natAbs ≤ 15444) (hg : Int.gcd t u = 1)
    (he : (d * a1 - n * b1) * t = (d * (a0 + a1 * a2) - n * (b0 + b1 * b2)) * u ∨ (d * a1 - n * b1 = 0 ∧ t = st ∧ u = 1)) :
    impl_RatioTimes.j1 (k + 2) n d st a0 a1 a2 b0 b1 b2 t u = some (if st * u ≤ t ∧ t * a1 < (a2 * a1 + a0) * u ∧ t * b1 < (b2 * b1 + b0) * u ∧ (d * a1 - n * b1 = 0 → d * (a0 + a1 * a2) - n * (b0 + b1 * b2) = 0) then [⟨t, u⟩] else [], true) := by
  have ha' := ha
  have hb' := hb
  unfold Cand at ha' hb'
  have hs : 0 ≤ st ∧ st ≤ 99 ∧ a2 ≤ st ∧ b2 ≤ st := by omega
  have m0 := mul_bd (a := st) (b := u) (A := 99) (B := 144) (by omega) (by omega) (by omega) (by omega)
  simp only [impl_RatioTimes.j1, impl_whole.f, Option.bind_some]
  rw [implLess_ok (A := 15444) (B := 99 * 144) (sm (by omega) (by omega)) (sm (by omega) (by omega)) (by omega) (by omega), Option.bind_some]
  by_cases h1 : t * 1 < st * u
  · rw [decide_eq_true h1, if_pos rfl, if_neg (by omega)]
  · rw [decide_eq_false h1, if_neg (by decide)]
    have hm : Mom t u := ⟨by omega, by omega, hg⟩
    rw [implLen_ok (by omega) ha hm, Option.bind_some, implLen_ok (by omega) hb hm, Option.bind_some]
    have ea : a2 * u ≤ t := by
      have : a2 * u ≤ st * u := Int.mul_le_mul_of_nonneg_right (by omega) (by omega)
      omega
    have eb : b2 * u ≤ t := by
      have : b2 * u ≤ st * u := Int.mul_le_mul_of_nonneg_right (by omega) (by omega)
      omega
    have za := len_zero ha hu ea
    have zb := len_zero hb hu eb
    by_cases h2 : t * a1 < (a2 * a1 + a0) * u
    · by_cases h3 : t * b1 < (b2 * b1 + b0) * u
      · rw [if_neg (fun h => za.1 h h2), if_neg (fun h => zb.1 h h3)]
        have la := len_at ha hu ea
        have lb := len_at hb hu eb
        rw [if_pos h2] at la
        rw [if_pos h3] at lb
        have pa := burn_pos h2
        have pb := burn_pos h3
        have ca := cut_cross ((a0 + a1 * a2) * u - a1 * t) u hu
        have cb := cut_cross ((b0 + b1 * b2) * u - b1 * t) u hu
        have qa := cut_pos (a := (a0 + a1 * a2) * u - a1 * t) hu
        have qb := cut_pos (a := (b0 + b1 * b2) * u - b1 * t) hu
        have ra := cut_le ((a0 + a1 * a2) * u - a1 * t) u hu
        have rb := cut_le ((b0 + b1 * b2) * u - b1 * t) u hu
        have sa := cut_abs ((a0 + a1 * a2) * u - a1 * t) u hu
        have sb := cut_abs ((b0 + b1 * b2) * u - b1 * t) u hu
        have n1 := mul_bd (a := a1) (b := a2) (A := 12) (B := 99) (by omega) (by omega) (by omega) (by omega)
        have n2 := mul_bd (a := b1) (b := b2) (A := 12) (B := 99) (by omega) (by omega) (by omega) (by omega)
        have n3 := mul_bd (a := a0 + a1 * a2) (b := u) (A := 1287) (B := 144) (by omega) (by omega) (by omega) (by omega)
        have n4 := mul_bd (a := b0 + b1 * b2) (b := u) (A := 1287) (B := 144) (by omega) (by omega) (by omega) (by omega)
        have n5 := mul_bd (a := a1) (b := t) (A := 12) (B := 15444) (by omega) (by omega) (by omega) (by omega)
        have n6 := mul_bd (a := b1) (b := t) (A := 12) (B := 15444) (by omega) (by omega) (by omega) (by omega)
        rw [la, lb]
        have hiff := ratio_iff (n := n) (d := d) hu ca cb qa qb
        generalize hX : (a0 + a1 * a2) * u - a1 * t = X at *
        generalize hY : (b0 + b1 * b2) * u - b1 * t = Y at *
        have hval : d * X = n * Y ↔ (d * a1 - n * b1) * t = (d * (a0 + a1 * a2) - n * (b0 + b1 * b2)) * u := by
          have e1 : d * X - n * Y = (d * (a0 + a1 * a2) - n * (b0 + b1 * b2)) * u - (d * a1 - n * b1) * t := by rw [← hX, ← hY]; grind
          omega
        generalize cut X u = x at *
        generalize cut Y u = y at *
        obtain ⟨x1, x2⟩ := x
        obtain ⟨y1, y2⟩ := y
        simp only at ca cb qa qb ra rb sa sb hiff ⊢
        have sx : Sm x1 185328 := by unfold Sm; omega
        have sy : Sm y1 185328 := by unfold Sm; omega
        have sx2 : Sm x2 144 := sm (by omega) (by omega)
        have sy2 : Sm y2 144 := sm (by omega) (by omega)
        have sn : Sm n 12 := sm (by omega) (by omega)
        have sd : Sm d 12 := sm (by omega) (by omega)
        rw [(sd.mul sx).wrap (by omega), (sn.mul sy).wrap (by omega), ((sd.mul sx).mul sy2).wrap (by omega), ((sn.mul sy).mul sx2).wrap (by omega)]
        obtain ⟨k, rfl⟩ : ∃ m, k = m + 1 := ⟨k - 1, by have := big_pos; omega⟩
        simp only [impl_RatioTimes.j2]
        have key : (d * x1 * y2 = n * y1 * x2) ↔ (d * a1 - n * b1 = 0 → d * (a0 + a1 * a2) - n * (b0 + b1 * b2) = 0) := by
          rw [hiff, hval]
          constructor
          · intro h h0
            rw [h0, Int.zero_mul] at h
            rcases Int.mul_eq_zero.1 h.symm with h | h
            · exact h
            · omega
          · intro h
            rcases he with he | ⟨h0, _, _⟩
            · exact he
            · rw [h0, h h0]; simp
        by_cases h4 : d * x1 * y2 = n * y1 * x2
        · have h5 : (d * x1 * y2 != n * y1 * x2) = false := by simp [h4]
          rw [h5, if_neg (by decide), if_pos ⟨by omega, h2, h3, key.1 h4⟩]
        · have h5 : (d * x1 * y2 != n * y1 * x2) = true := by simp [h4]
          rw [h5, if_pos rfl, if_neg (fun h => h4 (key.2 h.2.2.2))]
      · rw [if_neg (fun h => za.1 h h2), if_pos (zb.2 h3), if_neg (fun h => h3 h.2.2.1)]
        simp only [impl_RatioTimes.j2, if_true]
    · rw [if_pos (za.2 h2), if_neg (fun h => h2 h.2.1)]
      simp only [impl_RatioTimes.j2, if_true]
theorem impl_rat_ok {k : Nat} (hk : BIG ≤ k) (ha : Cand a0 a1 a2) (hb : Cand b0 b1 b2) (hn : 1 ≤ n ∧ n ≤ 12) (hd : 1 ≤ d ∧ d ≤ 12) : impl_RatioTimes.j0 (k + 3) n d false a0 a1 a2 b0 b1 b2 = some (ratL a0 a1 a2 b0 b1 b2 n d, true) := by
  obtain ⟨⟨p1, p2⟩, ⟨p3, p4⟩, ⟨p5, p6⟩, ⟨p7, p8⟩, ⟨p9, p10⟩, p11, p12⟩ := rat_bd ha hb hn hd
  have ha' := ha
  have hb' := hb
  unfold Cand at ha' hb'
  have hm : mx a2 b2 = max a2 b2 := by unfold mx; omega
  simp only [impl_RatioTimes.j0, impl_whole.f, Option.bind_some, hm]
  rw [if_neg (by decide), w64 (n := a1 * a2) (by omega) (by omega), w64 (n := b1 * b2) (by omega) (by omega), w64 (n := a0 + a1 * a2) (by omega) (by omega), w64 (n := b0 + b1 * b2) (by omega) (by omega), w64 (n := d * (a0 + a1 * a2)) (by omega) (by omega), w64 (n := n * (b0 + b1 * b2)) (by omega) (by omega), w64 (n := d * a1) (by omega) (by omega), w64 (n := n * b1) (by omega) (by omega),
    w64 (n := d * a1 - n * b1) (by omega) (by omega), w64 (n := d * (a0 + a1 * a2) - n * (b0 + b1 * b2)) (by omega) (by omega)]
  unfold ratL ratT
  simp only
  by_cases h0 : d * a1 - n * b1 = 0
  · rw [if_pos h0, if_pos h0, impl_rat_end (by omega) ha hb hn hd rfl (by omega) (by omega) (by omega) (Int.gcd_one_right _) (Or.inr ⟨h0, rfl, rfl⟩)]
    by_cases h1 : d * (a0 + a1 * a2) - n * (b0 + b1 * b2) = 0
    · rw [if_pos h1]
      simp [h1]
    · rw [if_neg h1]
      simp [h1, h0]
  · rw [if_neg h0, if_neg h0, overN_ok (by omega) h0 (by omega) (by omega), Option.bind_some]
    by_cases h1 : d * a1 - n * b1 < 0
    · rw [if_pos h1]
      have q1 := cut_pos (a := -(d * (a0 + a1 * a2) - n * (b0 + b1 * b2))) (b := -(d * a1 - n * b1)) (by omega)
      have q2 := cut_le (-(d * (a0 + a1 * a2) - n * (b0 + b1 * b2))) (-(d * a1 - n * b1)) (by omega)
      have q3 := cut_abs (-(d * (a0 + a1 * a2) - n * (b0 + b1 * b2))) (-(d * a1 - n * b1)) (by omega)
      have q4 := cut_cross (-(d * (a0 + a1 * a2) - n * (b0 + b1 * b2))) (-(d * a1 - n * b1)) (by omega)
      have q5 := cut_gcd (-(d * (a0 + a1 * a2) - n * (b0 + b1 * b2))) (-(d * a1 - n * b1)) (by omega)
      rw [impl_rat_end (by omega) ha hb hn hd rfl q1 (by omega) (by omega) q5 (Or.inl (by grind))]
      simp only [h0, false_implies, and_true]
    · rw [if_neg h1]
      have q1 := cut_pos (a := d * (a0 + a1 * a2) - n * (b0 + b1 * b2)) (b := d * a1 - n * b1) (by omega)
      have q2 := cut_le (d * (a0 + a1 * a2) - n * (b0 + b1 * b2)) (d * a1 - n * b1) (by omega)
      have q3 := cut_abs (d * (a0 + a1 * a2) - n * (b0 + b1 * b2)) (d * a1 - n * b1) (by omega)
      have q4 := cut_cross (d * (a0 + a1 * a2) - n * (b0 + b1 * b2)) (d * a1 - n * b1) (by omega)
      have q5 := cut_gcd (d * (a0 + a1 * a2) - n * (b0 + b1 * b2)) (d * a1 - n * b1) (by omega)
      rw [impl_rat_end (by omega) ha hb hn hd rfl q1 (by omega) (by omega) q5 (Or.inl (by grind))]
      simp only [h0, false_implies, and_true]
/-- The reference, from the test of the times on. -/
theorem spec_rat_end {k : Nat} (hk : BIG ≤ k) (ha : Cand a0 a1 a2) (hb : Cand b0 b1 b2) {st t u : Int} (hst : st = max a2 b2) (hu : 0 < u) (hu2 : u ≤ 144) (ht : t.natAbs ≤ 15444) :
    spec_RatioTimes.j3 (k + 2) [] a0 a1 a2 b0 b1 b2 st 1 t u = some (if st * u ≤ t ∧ t * a1 < (a2 * a1 + a0) * u ∧ t * b1 < (b2 * b1 + b0) * u then [⟨t, u⟩] else [], true) := by
  have ha' := ha
  have hb' := hb
  unfold Cand at ha' hb'
  have hs : 0 ≤ st ∧ st ≤ 99 ∧ a2 ≤ st ∧ b2 ≤ st := by omega
  have m0 := mul_bd (a := st) (b := u) (A := 99) (B := 144) (by omega) (by omega) (by omega) (by omega)
  simp only [spec_RatioTimes.j3]
  rw [specLess_ok (A := 15444) (B := 99 * 144) (sm (by omega) (by omega)) (sm (by omega) (by omega)) (by omega) (by omega), Option.bind_some]
  by_cases h1 : t * 1 < st * u
  · rw [decide_eq_true h1, if_pos rfl, if_neg (by omega)]
    simp only [spec_RatioTimes.j4, Bool.false_eq_true, if_false]
  · rw [decide_eq_false h1, if_neg (by decide)]
    have ea : a2 * u ≤ t := by
      have : a2 * u ≤ st * u := Int.mul_le_mul_of_nonneg_right (by omega) (by omega)
      omega
    have eb : b2 * u ≤ t := by
      have : b2 * u ≤ st * u := Int.mul_le_mul_of_nonneg_right (by omega) (by omega)
      omega
    have fa := (burns_ok (k := k + 1) (by omega) (x := ⟨a0, a1, a2⟩) ha (t := t) (u := u) (by omega) (by omega)).1
    have fb := (burns_ok (k := k + 1) (by omega) (x := ⟨b0, b1, b2⟩) hb (t := t) (u := u) (by omega) (by omega)).1
    rw [burnsAt_iff ha hu ea] at fa
    rw [burnsAt_iff hb hu eb] at fb
    rw [fa, Option.bind_some]
    by_cases h2 : t * a1 < (a2 * a1 + a0) * u
    · rw [decide_eq_true h2, if_pos rfl, fb, Option.bind_some]
      simp only [spec_RatioTimes.j4]
      by_cases h3 : t * b1 < (b2 * b1 + b0) * u
      · rw [decide_eq_true h3, if_pos rfl, if_pos (by simp), if_pos ⟨by omega, h2, h3⟩]
        rfl
      · rw [decide_eq_false h3, if_neg (by decide), if_neg (fun h => h3 h.2.2)]
    · rw [decide_eq_false h2, if_neg (by decide), if_neg (fun h => h2 h.2.1)]
      simp only [spec_RatioTimes.j4, Bool.false_eq_true, if_false]
theorem spec_rat_ok {k : Nat} (hk : BIG ≤ k) (ha : Cand a0 a1 a2) (hb : Cand b0 b1 b2) (hn : 1 ≤ n ∧ n ≤ 12) (hd : 1 ≤ d ∧ d ≤ 12) : spec_RatioTimes.j0 (k + 5) n d [] false a0 a1 a2 b0 b1 b2 = some (ratL a0 a1 a2 b0 b1 b2 n d, true) := by
  obtain ⟨⟨p1, p2⟩, ⟨p3, p4⟩, ⟨p5, p6⟩, ⟨p7, p8⟩, ⟨p9, p10⟩, p11, p12⟩ := rat_bd ha hb hn hd
  have ha' := ha
  have hb' := hb
  unfold Cand at ha' hb'
  have hm : spec_l1Most.f a2 b2 = some (max a2 b2) := by unfold spec_l1Most.f; split <;> (congr 1; omega)
  simp only [spec_RatioTimes.j0]
  rw [if_neg (by decide), hm, Option.bind_some, w64 (n := a1 * a2) (by omega) (by omega), w64 (n := b1 * b2) (by omega) (by omega), w64 (n := a0 + a1 * a2) (by omega) (by omega), w64 (n := b0 + b1 * b2) (by omega) (by omega), w64 (n := d * (a0 + a1 * a2)) (by omega) (by omega), w64 (n := n * (b0 + b1 * b2)) (by omega) (by omega), w64 (n := d * a1) (by omega) (by omega), w64 (n := n * b1) (by omega) (by omega),
    w64 (n := d * a1 - n * b1) (by omega) (by omega), w64 (n := d * (a0 + a1 * a2) - n * (b0 + b1 * b2)) (by omega) (by omega), w64 (n := -(d * a1 - n * b1)) (by omega) (by omega), w64 (n := -(d * (a0 + a1 * a2) - n * (b0 + b1 * b2))) (by omega) (by omega)]
  unfold ratL ratT
  simp only
  generalize hT : d * (a0 + a1 * a2) - n * (b0 + b1 * b2) = T at *
  generalize hB : d * a1 - n * b1 = B at *
  have neg : ∀ (T B : Int), 0 < B → B ≤ 144 → T.natAbs ≤ 15444 → spec_RatioTimes.j1 (k + 4) [] T B a0 a1 a2 b0 b1 b2 (max a2 b2) 1 = some (if max a2 b2 * (cut T B).2 ≤ (cut T B).1 ∧ (cut T B).1 * a1 < (a2 * a1 + a0) * (cut T B).2 ∧ (cut T B).1 * b1 < (b2 * b1 + b0) * (cut T B).2 then [⟨(cut T B).1, (cut T B).2⟩] else [], true) := by
    intro T B h1 h2 h3
    have q1 := cut_pos (a := T) (b := B) h1
    have q2 := cut_le T B h1
    have q3 := cut_abs T B h1
    have q4 := cut_cross T B h1
    simp only [spec_RatioTimes.j1]
    rw [if_neg (by omega), if_pos h1]
    simp only [spec_RatioTimes.j2]
    by_cases hneg : T < 0
    · rw [decide_eq_true hneg, if_pos rfl]
      have : (cut T B).1 < 0 := by
        rcases Int.lt_or_le (cut T B).1 0 with h | h
        · exact h
        · have a_ := Int.mul_nonneg h (by omega : 0 ≤ B)
          have b_ := Int.mul_neg_of_neg_of_pos hneg q1
          omega
      have m : 0 ≤ max a2 b2 * (cut T B).2 := Int.mul_nonneg (by omega) (by omega)
      rw [if_neg (by omega)]
    · rw [decide_eq_false hneg, if_neg (by decide), if_pos h1, l2Cut_ok (by omega) h1 (by omega) (by omega), Option.bind_some]
      exact spec_rat_end hk ha hb rfl q1 (by omega) (by omega)
  by_cases h0 : B = 0
  · rw [if_neg (by omega), if_pos h0]
    simp only [spec_RatioTimes.j1]
    rw [if_pos h0]
    by_cases h1 : T = 0
    · rw [if_pos h1, if_pos h1, if_neg (by omega)]
      simp only [spec_RatioTimes.j2]
      rw [if_neg (by decide), if_neg (by omega)]
      exact spec_rat_end hk ha hb rfl (by omega) (by omega) (by omega)
    · rw [if_neg h1, if_neg h1]
      simp only [spec_RatioTimes.j2, if_true]
  · rw [if_neg h0]
    by_cases h1 : B < 0
    · rw [if_pos h1, if_pos h1]
      exact neg (-T) (-B) (by omega) (by omega) (by omega)
    · rw [if_neg h1, if_neg h1]
      exact neg T B (by omega) (by omega) (by omega)
end
def ratR (a0 a1 a2 b0 b1 b2 n d : Int) : List S28 × Bool := if Cand a0 a1 a2 ∧ Cand b0 b1 b2 ∧ (1 ≤ n ∧ n ≤ 12) ∧ (1 ≤ d ∧ d ≤ 12) then (ratL a0 a1 a2 b0 b1 b2 n d, true) else ([], false)
theorem ratR_len (a0 a1 a2 b0 b1 b2 n d : Int) : (ratR a0 a1 a2 b0 b1 b2 n d).1.length ≤ 1 := by
  unfold ratR ratL
  split
  · split
    · simp
    · split <;> simp
  · simp
theorem rat_impl {k : Nat} (hk : BIG + 10 ≤ k) (a0 a1 a2 b0 b1 b2 n d : Int) : impl_RatioTimes.f k a0 a1 a2 b0 b1 b2 n d = some (ratR a0 a1 a2 b0 b1 b2 n d) := by
  obtain ⟨k, rfl⟩ : ∃ m, k = m + 3 := ⟨k - 3, by omega⟩
  unfold impl_RatioTimes.f ratR
  simp only [impl_isCandle_ok, within_ok, Option.bind_some, decide_eq_true_eq]
  have no : impl_RatioTimes.j0 (k + 3) n d true a0 a1 a2 b0 b1 b2 = some ([], false) := by simp only [impl_RatioTimes.j0, if_true]
  by_cases h1 : Cand a0 a1 a2
  · by_cases h2 : Cand b0 b1 b2
    · by_cases h3 : 1 ≤ n ∧ n ≤ 12
      · by_cases h4 : 1 ≤ d ∧ d ≤ 12
        · rw [if_pos h1, if_pos h2, if_pos h3, if_pos ⟨h1, h2, h3, h4⟩, decide_eq_true h4]
          exact impl_rat_ok (by omega) h1 h2 h3 h4
        · rw [if_pos h1, if_pos h2, if_pos h3, if_neg (fun h => h4 h.2.2.2), decide_eq_false h4]
          exact no
      · rw [if_pos h1, if_pos h2, if_neg h3, if_neg (fun h => h3 h.2.2.1)]
        exact no
    · rw [if_pos h1, if_neg h2, if_neg (fun h => h2 h.2.1)]
      exact no
  · rw [if_neg h1, if_neg (fun h => h1 h.1)]
    exact no
theorem rat_spec {k : Nat} (hk : BIG + 10 ≤ k) (a0 a1 a2 b0 b1 b2 n d : Int) : spec_RatioTimes.f k a0 a1 a2 b0 b1 b2 n d = some (ratR a0 a1 a2 b0 b1 b2 n d) := by
  obtain ⟨k, rfl⟩ : ∃ m, k = m + 5 := ⟨k - 5, by omega⟩
  unfold spec_RatioTimes.f ratR
  simp only [cand_ok, in_ok, Option.bind_some, decide_eq_true_eq]
  have no : spec_RatioTimes.j0 (k + 5) n d [] true a0 a1 a2 b0 b1 b2 = some ([], false) := by simp only [spec_RatioTimes.j0, if_true]
  by_cases h1 : Cand a0 a1 a2
  · by_cases h2 : Cand b0 b1 b2
    · by_cases h3 : 1 ≤ n ∧ n ≤ 12
      · by_cases h4 : 1 ≤ d ∧ d ≤ 12
        · rw [if_pos h1, if_pos h2, if_pos h3, if_pos ⟨h1, h2, h3, h4⟩, decide_eq_true h4]
          exact spec_rat_ok (by omega) h1 h2 h3 h4
        · rw [if_pos h1, if_pos h2, if_pos h3, if_neg (fun h => h4 h.2.2.2), decide_eq_false h4]
          exact no
      · rw [if_pos h1, if_pos h2, if_neg h3, if_neg (fun h => h3 h.2.2.1)]
        exact no
    · rw [if_pos h1, if_neg h2, if_neg (fun h => h2 h.2.1)]
      exact no
  · rw [if_neg h1, if_neg (fun h => h1 h.1)]
    exact no
theorem FnExactRatioTimes : laws_FnExactRatioTimes.Pure := by
  intro a0 a1 a2 b0 b1 b2 n d _ _ _ _ _ _ _ _
  have hs : ∀ k, BIG + 10 ≤ k → spec_RatioTimes.f k a0 a1 a2 b0 b1 b2 n d = some (ratR a0 a1 a2 b0 b1 b2 n d) := fun k hk => rat_spec hk ..
  have hi : ∀ k, BIG + 10 ≤ k → impl_RatioTimes.f k a0 a1 a2 b0 b1 b2 n d = some (ratR a0 a1 a2 b0 b1 b2 n d) := fun k hk => rat_impl hk ..
  have hl := ratR_len a0 a1 a2 b0 b1 b2 n d
  generalize ratR a0 a1 a2 b0 b1 b2 n d = r at *
  generalize BIG = B at *
  obtain ⟨K, hK⟩ : ∃ K, K = B + 3000 := ⟨_, rfl⟩
  refine ⟨K + 1 + 1, ?_⟩
  unfold laws_FnExactRatioTimes.f
  simp only [toCandle_ok, Option.bind_some]
  rw [hs _ (by omega), Option.bind_some, hi _ (by omega), Option.bind_some, eqIntA2S_self (by omega) (by omega), Option.bind_some, if_pos rfl]
  simp only [laws_FnExactRatioTimes.j0, bne_self_eq_false, Bool.false_eq_true, if_false, toCandle_ok, Option.bind_some]
  rw [markIntA2S_ok (by omega) (by omega), Option.bind_some]
  simp only
  rw [heldIntA2S_ok (by omega) (by omega), Option.bind_some, if_neg (by omega), if_pos rfl, hi _ (by omega), Option.bind_some]
  rw [eqIntA2S_self (by omega) (by omega), Option.bind_some, if_pos rfl]
  simp only [laws_FnExactRatioTimes.j1, bne_self_eq_false, Bool.false_eq_true, if_false]
  rw [heldIntA2S_ok (by omega) (by omega), Option.bind_some, if_neg (by omega), if_pos rfl]
end Go.Proofs.Ytkefphfjeodgnaa.Pure
