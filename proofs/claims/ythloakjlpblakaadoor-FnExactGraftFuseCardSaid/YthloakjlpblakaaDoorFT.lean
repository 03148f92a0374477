/- Fuses as trees, with their ropes, times and bounds. Conditions: those each lemma names. -/
import Derived.Test.YthloakjlpblakaaDoorFrac
set_option linter.unusedVariables false
set_option linter.unusedSimpArgs false
namespace Go.Proofs.YthloakjlpblakaaDoor.Pure
open Go.RowKit Go.Proofs.YthloakjlpblakaaDoor.PA Go.Proofs.YthloakjlpblakaaDoor.PB Go.Proofs.YthloakjlpblakaaDoorW.PrintWords Go.Proofs.YthloakjlpblakaaDoorW.PrintLast Go.Proofs.YthloakjlpblakaaDoorW.PrintMore

/-- Half of the sum of two times and 1; none if they differ by 1 or more. -/
def half (x y : Int × Int) : Option (Int × Int) :=
  if x.1 * y.2 - y.1 * x.2 < x.2 * y.2 ∧ y.1 * x.2 - x.1 * y.2 < x.2 * y.2 then some (cut (x.1 * y.2 + y.1 * x.2 + x.2 * y.2) (2 * (x.2 * y.2))) else none

theorem half_bounds {x y z : Int × Int} {p q : Nat} (h : half x y = some z) (hx : 0 < x.2) (hy : 0 < y.2) (hx2 : x.2 ≤ 2 ^ p) (hy2 : y.2 ≤ 2 ^ q) (hx0 : 0 ≤ x.1) (hy0 : 0 ≤ y.1) (hx1 : x.1 ≤ p * x.2) (hy1 : y.1 ≤ q * y.2) :
    0 < z.2 ∧ z.2 ≤ 2 ^ (p + q + 1) ∧ 0 ≤ z.1 ∧ z.1 ≤ (p + q + 1 : Nat) * z.2 := by
  unfold half at h
  split at h
  · obtain rfl := Option.some.inj h
    have hxy : 0 < x.2 * y.2 := Int.mul_pos hx hy
    have hB : 0 < 2 * (x.2 * y.2) := by omega
    have h2 := cut_le (x.1 * y.2 + y.1 * x.2 + x.2 * y.2) (2 * (x.2 * y.2)) hB
    have h3 := cut_pos (a := x.1 * y.2 + y.1 * x.2 + x.2 * y.2) hB
    have h4 := cut_cross (x.1 * y.2 + y.1 * x.2 + x.2 * y.2) (2 * (x.2 * y.2)) hB
    generalize cut (x.1 * y.2 + y.1 * x.2 + x.2 * y.2) (2 * (x.2 * y.2)) = c at h2 h3 h4 ⊢
    have a1 : x.2 * y.2 ≤ 2 ^ p * 2 ^ q := Int.mul_le_mul hx2 hy2 (by omega) (Int.pow_nonneg (by decide))
    have a2 : (2 : Int) ^ (p + q + 1) = 2 * (2 ^ p * 2 ^ q) := by rw [Int.pow_succ, Int.pow_add]; omega
    have b1 : 0 ≤ x.1 * y.2 := Int.mul_nonneg hx0 (by omega)
    have b2 : 0 ≤ y.1 * x.2 := Int.mul_nonneg hy0 (by omega)
    have b3 : x.1 * y.2 ≤ p * (x.2 * y.2) := by
      have := Int.mul_le_mul_of_nonneg_right hx1 (show 0 ≤ y.2 by omega)
      rw [Int.mul_assoc] at this; exact this
    have b4 : y.1 * x.2 ≤ q * (x.2 * y.2) := by
      have := Int.mul_le_mul_of_nonneg_right hy1 (show 0 ≤ x.2 by omega)
      rw [Int.mul_assoc, Int.mul_comm y.2 x.2] at this; exact this
    generalize hD : x.2 * y.2 = D at *
    generalize hS : x.1 * y.2 + y.1 * x.2 + D = S at *
    have c1 : S ≤ (p + q + 1 : Nat) * D := by
      have : ((p + q + 1 : Nat) : Int) * D = p * D + q * D + D := by push_cast; rw [Int.add_mul, Int.add_mul, Int.one_mul]
      omega
    refine ⟨h3, by omega, ?_, ?_⟩
    · -- the numerator
      have : 0 ≤ c.1 * (2 * D) := by rw [h4]; exact Int.mul_nonneg (by omega) (by omega)
      exact Int.nonneg_of_mul_nonneg_left (a := c.1) (b := 2 * D) this hB
    · have k1 : c.1 * (2 * D) ≤ ((p + q + 1 : Nat) * c.2) * (2 * D) := by
        rw [h4]
        have k2 : S * c.2 ≤ ((p + q + 1 : Nat) * D) * c.2 := Int.mul_le_mul_of_nonneg_right c1 (by omega)
        have k3 : ((p + q + 1 : Nat) : Int) * c.2 * (2 * D) = 2 * (((p + q + 1 : Nat) * D) * c.2) := by grind
        have k4 : 0 ≤ S * c.2 := Int.mul_nonneg (by omega) (by omega)
        omega
      exact Int.le_of_mul_le_mul_right k1 hB
  · cases h

/-- Each rope burns as its two fuses say, and there are few. -/
def FOk : FT → Prop
  | .spark => True
  | .node n d a b => a.ropes + b.ropes < 8 ∧ half a.time b.time = some (n, d) ∧ FOk a ∧ FOk b
theorem FOk.bounds : ∀ {t : FT}, FOk t → 0 < t.time.2 ∧ t.time.2 ≤ 2 ^ t.ropes ∧ 0 ≤ t.time.1 ∧ t.time.1 ≤ t.ropes * t.time.2 ∧ t.ropes ≤ 8
  | .spark, _ => by simp [FT.time, FT.ropes]
  | .node n d a b, ⟨h1, h2, h3, h4⟩ => by
    obtain ⟨x1, x2, x3, x4, x5⟩ := FOk.bounds h3
    obtain ⟨y1, y2, y3, y4, y5⟩ := FOk.bounds h4
    obtain ⟨z1, z2, z3, z4⟩ := half_bounds h2 x1 y1 x2 y2 x3 y3 x4 y4
    exact ⟨z1, z2, z3, z4, h1⟩
/-- Small fractions. -/
def Small (x : Int × Int) : Prop := 0 < x.2 ∧ x.2 ≤ 256 ∧ 0 ≤ x.1 ∧ x.1 ≤ 2048
theorem FOk.small {t : FT} (h : FOk t) : Small t.time := by
  obtain ⟨z1, z2, z3, z4, z5⟩ := h.bounds
  have e1 : (2 : Int) ^ t.ropes ≤ 256 := by
    have : (2 : Nat) ^ t.ropes ≤ 2 ^ 8 := Nat.pow_le_pow_right (by decide) z5
    have h3 : ((2 ^ t.ropes : Nat) : Int) = (2 : Int) ^ t.ropes := by push_cast; rfl
    omega
  refine ⟨z1, by omega, z3, ?_⟩
  have : (t.ropes : Int) * t.time.2 ≤ 8 * 256 := Int.mul_le_mul (by omega) (by omega) (by omega) (by decide)
  omega
theorem FOk.ropes {t : FT} (h : FOk t) : t.ropes ≤ 8 := h.bounds.2.2.2.2
theorem prod_le {a b : Int} {p q : Int} (ha : 0 ≤ a) (hb : 0 ≤ b) (hp : a ≤ p) (hq : b ≤ q) : 0 ≤ a * b ∧ a * b ≤ p * q :=
  ⟨Int.mul_nonneg ha hb, Int.mul_le_mul hp hq hb (by omega)⟩
/-- The answer of both. -/
def halfA (x y : Int × Int) : Int × Int × Bool := match half x y with
  | some z => (z.1, z.2, true)
  | none => (0, 0, false)
theorem fused_ok {k : Nat} (hk : BIG ≤ k) {x y : Int × Int} (hx : Small x) (hy : Small y) : impl_fused.f k x.1 x.2 y.1 y.2 = some (halfA x y) := by
  obtain ⟨x0, x1⟩ := x
  obtain ⟨y0, y1⟩ := y
  obtain ⟨a1, a2, a3, a4⟩ := hx
  obtain ⟨b1, b2, b3, b4⟩ := hy
  simp only at a1 a2 a3 a4 b1 b2 b3 b4
  obtain ⟨p1, p2⟩ := prod_le a3 (Int.le_of_lt b1) a4 b2
  obtain ⟨q1, q2⟩ := prod_le b3 (Int.le_of_lt a1) b4 a2
  obtain ⟨d1, d2⟩ := prod_le (Int.le_of_lt a1) (Int.le_of_lt b1) a2 b2
  have d0 : 0 < x1 * y1 := Int.mul_pos a1 b1
  unfold impl_fused.f halfA half
  simp only
  generalize x0 * y1 = P at *
  generalize y0 * x1 = Q at *
  generalize x1 * y1 = D at *
  rw [w64 (n := P) (by omega) (by omega), w64 (n := Q) (by omega) (by omega), w64 (n := D) (by omega) (by omega), w64 (n := P - Q) (by omega) (by omega), w64 (n := Q - P) (by omega) (by omega), w64 (n := P + Q) (by omega) (by omega), w64 (n := P + Q + D) (by omega) (by omega), w64 (n := 2 * D) (by omega) (by omega)]
  by_cases h1 : P - Q ≥ D
  · rw [if_pos h1, if_neg (by omega)]
  · rw [if_neg h1]
    by_cases h2 : Q - P ≥ D
    · rw [if_pos h2, if_neg (by omega)]
    · rw [if_neg h2, if_pos (by omega), reduced_ok hk (by omega) (by omega) (by omega)]
      rfl
theorem l2Plus_ok {k : Nat} (hk : BIG ≤ k) {a b c d : Int} (h1 : 0 < b * d) (h2 : b * d ≤ 1000000000) (h3 : 0 ≤ a * d) (h4 : a * d ≤ 1000000000) (h5 : 0 ≤ c * b) (h6 : c * b ≤ 1000000000) :
    spec_l2Plus.f k a b c d = some (cut (a * d + c * b) (b * d)) := by
  unfold spec_l2Plus.f
  generalize a * d = P at *
  generalize c * b = Q at *
  generalize b * d = D at *
  rw [w64 (n := P) (by omega) (by omega), w64 (n := Q) (by omega) (by omega), w64 (n := D) (by omega) (by omega), w64 (n := P + Q) (by omega) (by omega), l2Cut_ok hk (by omega) (by omega) (by omega)]
  rfl
theorem plus1 {k : Nat} (hk : BIG ≤ k) {x : Int × Int} (h1 : 0 < x.2) (h2 : x.2 ≤ 100000000) (h3 : 0 ≤ x.1) (h4 : x.1 ≤ 100000000) : spec_l2Plus.f k x.1 x.2 1 1 = some (cut (x.1 + x.2) x.2) := by
  rw [l2Plus_ok hk (by omega) (by omega) (by omega) (by omega) (by omega) (by omega)]
  simp only [Int.mul_one, Int.one_mul]
theorem cut_small (a b : Int) (hb : 0 < b) (ha : 0 ≤ a) : 0 ≤ (cut a b).1 ∧ (cut a b).1 ≤ a := by
  have h1 := cut_abs a b hb
  have h2 := cut_cross a b hb
  have h3 := cut_pos (a := a) hb
  have : 0 ≤ (cut a b).1 * b := by rw [h2]; exact Int.mul_nonneg ha (by omega)
  have := Int.nonneg_of_mul_nonneg_left this hb
  omega
/-- The reference's test: less than another time and 1. -/
theorem less1 {k : Nat} (hk : BIG ≤ k) {x y : Int × Int} (hx : Small x) (hy : Small y) : ∃ c : Int × Int, spec_l2Plus.f k y.1 y.2 1 1 = some c ∧ spec_l2Less.f x.1 x.2 c.1 c.2 = some (decide (x.1 * y.2 - y.1 * x.2 < x.2 * y.2)) := by
  obtain ⟨a1, a2, a3, a4⟩ := hx
  obtain ⟨b1, b2, b3, b4⟩ := hy
  refine ⟨_, plus1 hk b1 (by omega) b3 (by omega), ?_⟩
  have h1 := cut_small (y.1 + y.2) y.2 b1 (by omega)
  have h2 := cut_cross (y.1 + y.2) y.2 b1
  have h3 := cut_pos (a := y.1 + y.2) b1
  have h4 := cut_le (y.1 + y.2) y.2 b1
  generalize cut (y.1 + y.2) y.2 = c at *
  obtain ⟨p1, p2⟩ := prod_le a3 (Int.le_of_lt h3) a4 (show c.2 ≤ 256 by omega)
  obtain ⟨q1, q2⟩ := prod_le h1.1 (Int.le_of_lt a1) (show c.1 ≤ 2304 by omega) a2
  unfold spec_l2Less.f
  rw [w64 (by omega) (by omega), w64 (by omega) (by omega)]
  congr 1
  rw [decide_eq_decide]
  have e1 : (x.1 * c.2) * y.2 = (x.1 * y.2) * c.2 := by grind
  have e2 : (c.1 * x.2) * y.2 = ((y.1 + y.2) * x.2) * c.2 := by
    have : (c.1 * x.2) * y.2 = (c.1 * y.2) * x.2 := by grind
    rw [this, h2]; grind
  have e3 : (y.1 + y.2) * x.2 = y.1 * x.2 + x.2 * y.2 := by grind
  constructor
  · intro h
    have := Int.mul_lt_mul_of_pos_right h b1
    rw [e1, e2] at this
    have := Int.lt_of_mul_lt_mul_right this (Int.le_of_lt h3)
    omega
  · intro h
    have h5 : x.1 * y.2 < (y.1 + y.2) * x.2 := by omega
    have := Int.mul_lt_mul_of_pos_right h5 h3
    rw [← e1, ← e2] at this
    exact Int.lt_of_mul_lt_mul_right this (Int.le_of_lt b1)
theorem l6Half_ok {k : Nat} (hk : BIG + 1 ≤ k) {x y : Int × Int} (hx : Small x) (hy : Small y) : spec_l6Half.f k x.1 x.2 y.1 y.2 = some (halfA x y) := by
  obtain ⟨c, e1, e2⟩ := less1 (show BIG ≤ k by omega) hx hy
  obtain ⟨c', e1', e2'⟩ := less1 (show BIG ≤ k by omega) hy hx
  have hc : y.2 * x.2 = x.2 * y.2 := Int.mul_comm _ _
  rw [hc] at e2'
  obtain ⟨k, rfl⟩ : ∃ j, k = j + 1 := ⟨k - 1, by omega⟩
  unfold spec_l6Half.f halfA half
  rw [e1, Option.bind_some, e2, Option.bind_some, e1', Option.bind_some, e2', Option.bind_some]
  by_cases h1 : x.1 * y.2 - y.1 * x.2 < x.2 * y.2
  · rw [decide_eq_true h1, if_pos rfl]
    by_cases h2 : y.1 * x.2 - x.1 * y.2 < x.2 * y.2
    · rw [decide_eq_true h2, if_pos ⟨h1, h2⟩]
      simp only [spec_l6Half.j0, Bool.not_true, Bool.false_eq_true, if_false]
      clear e1 e2 e1' e2' hc
      obtain ⟨a1, a2, a3, a4⟩ := hx
      obtain ⟨b1, b2, b3, b4⟩ := hy
      obtain ⟨p1, p2⟩ := prod_le a3 (Int.le_of_lt b1) a4 b2
      obtain ⟨q1, q2⟩ := prod_le b3 (Int.le_of_lt a1) b4 a2
      obtain ⟨d1, d2⟩ := prod_le (Int.le_of_lt a1) (Int.le_of_lt b1) a2 b2
      have d0 : 0 < x.2 * y.2 := Int.mul_pos a1 b1
      rw [l2Plus_ok (show BIG ≤ k by omega) d0 (by omega) p1 (by omega) q1 (by omega), Option.bind_some]
      have f1 := cut_small (x.1 * y.2 + y.1 * x.2) (x.2 * y.2) d0 (by omega)
      have f2 := cut_cross (x.1 * y.2 + y.1 * x.2) (x.2 * y.2) d0
      have f3 := cut_pos (a := x.1 * y.2 + y.1 * x.2) d0
      have f4 := cut_le (x.1 * y.2 + y.1 * x.2) (x.2 * y.2) d0
      generalize cut (x.1 * y.2 + y.1 * x.2) (x.2 * y.2) = u at *
      rw [plus1 (show BIG ≤ k by omega) f3 (by omega) f1.1 (by omega), Option.bind_some]
      have g1 := cut_small (u.1 + u.2) u.2 f3 (by omega)
      have g2 := cut_cross (u.1 + u.2) u.2 f3
      have g3 := cut_pos (a := u.1 + u.2) f3
      have g4 := cut_le (u.1 + u.2) u.2 f3
      generalize cut (u.1 + u.2) u.2 = v at *
      unfold spec_l2Times.f
      rw [w64 (n := v.1 * 1) (by omega) (by omega), w64 (n := v.2 * 2) (by omega) (by omega), l2Cut_ok (show BIG ≤ k by omega) (by omega) (by omega) (by omega), Option.bind_some, Option.bind_some]
      have key : cut (v.1 * 1) (v.2 * 2) = cut (x.1 * y.2 + y.1 * x.2 + x.2 * y.2) (2 * (x.2 * y.2)) := by
        refine cut_eq (by omega) (by omega) ?_
        generalize x.1 * y.2 + y.1 * x.2 = S at *
        generalize x.2 * y.2 = D at *
        have hh : (v.1 * 1 * (2 * D)) * u.2 = ((S + D) * (v.2 * 2)) * u.2 := by
          have t1 : (v.1 * 1 * (2 * D)) * u.2 = 2 * D * (v.1 * u.2) := by grind
          have t2 : (u.1 + u.2) * D = (S + D) * u.2 := by rw [Int.add_mul, Int.add_mul, f2, Int.mul_comm u.2 D]
          rw [t1, g2]
          have t3 : 2 * D * ((u.1 + u.2) * v.2) = 2 * v.2 * ((u.1 + u.2) * D) := by grind
          rw [t3, t2]; grind
        exact Int.eq_of_mul_eq_mul_right (by omega) hh
      rw [key]
    · rw [decide_eq_false h2, if_neg (fun h => h2 h.2)]
      simp only [spec_l6Half.j0, Bool.not_false, if_true]
  · rw [decide_eq_false h1, if_neg Bool.false_ne_true, if_neg (fun h => h1 h.1)]
    simp only [spec_l6Half.j0, if_true]
end Go.Proofs.YthloakjlpblakaaDoor.Pure
