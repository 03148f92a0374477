/- Fractions and the greatest common divisor, in plain numbers. Conditions: those each lemma names. -/
import Derived.Test.YtikpbopjhkohmaaVThingsPTx0
import Derived.Test.YtikpbopjhkohmaaVThingsPTx1
import Derived.Test.YtikpbopjhkohmaaVThingsPTx2
import Derived.Test.YtikpbopjhkohmaaVThingsPTx3
import Derived.Test.YtikpbopjhkohmaaVThingsPTx4
import Derived.Test.YtikpbopjhkohmaaVThingsPTx5
import Derived.Test.YtikpbopjhkohmaaVThingsPTx6
import Derived.Test.YtikpbopjhkohmaaVThingsPTx7
import Derived.Test.YtikpbopjhkohmaaVThingsPTx8
import Derived.Test.YtikpbopjhkohmaaVThingsPTx9
import Derived.Test.YtikpbopjhkohmaaVThingsPTx10
import Derived.Test.YtikpbopjhkohmaaVThingsPTx11
import Derived.Test.YtikpbopjhkohmaaVThingsPTx12
set_option linter.unusedVariables false
set_option linter.unusedSimpArgs false
namespace Go.Proofs.Ytikpbopjhkohmaa.Pure
open Go.RowKit Go.Proofs.Ytikpbopjhkohmaa.PT Go.Proofs.YtikpbopjhkohmaaW.PrintWords Go.Proofs.YtikpbopjhkohmaaW.PrintLast Go.Proofs.YtikpbopjhkohmaaW.PrintMore

/-- A fraction without common divisors. -/
def cut (a b : Int) : Int × Int := (a / (Int.gcd a b : Int), b / (Int.gcd a b : Int))

theorem gcd_pos {a b : Int} (hb : 0 < b) : 0 < (Int.gcd a b : Int) := by
  have := Int.gcd_pos_of_ne_zero_right a (b := b) (by omega)
  omega

theorem cut_spec (a b : Int) (hb : 0 < b) : ∃ n d g : Int, cut a b = (n, d) ∧ 0 < d ∧ 0 < g ∧ a = n * g ∧ b = d * g ∧ Int.gcd n d = 1 ∧ g = (Int.gcd a b : Int) := by
  have hg := gcd_pos (a := a) hb
  have ha : a / (Int.gcd a b : Int) * (Int.gcd a b : Int) = a := Int.ediv_mul_cancel (Int.gcd_dvd_left a b)
  have hb' : b / (Int.gcd a b : Int) * (Int.gcd a b : Int) = b := Int.ediv_mul_cancel (Int.gcd_dvd_right a b)
  refine ⟨_, _, (Int.gcd a b : Int), rfl, ?_, hg, ha.symm, hb'.symm, ?_, rfl⟩
  · rcases Int.lt_trichotomy 0 (b / (Int.gcd a b : Int)) with h | h | h
    · exact h
    · rw [← h] at hb'; omega
    · have := Int.mul_neg_of_neg_of_pos h hg
      omega
  · have h := Int.gcd_mul_right (a / (Int.gcd a b : Int)) (Int.gcd a b : Int) (b / (Int.gcd a b : Int))
    rw [ha, hb'] at h
    have h2 : (Int.gcd a b : Int).natAbs = Int.gcd a b := by omega
    rw [h2] at h
    have h3 : 0 < Int.gcd a b := by omega
    have h4 : Int.gcd (a / (Int.gcd a b : Int)) (b / (Int.gcd a b : Int)) * Int.gcd a b = 1 * Int.gcd a b := by omega
    exact Nat.eq_of_mul_eq_mul_right h3 h4

theorem cut_pos {a b : Int} (hb : 0 < b) : 0 < (cut a b).2 := by
  obtain ⟨n, m, g, e1, hm, _⟩ := cut_spec a b hb
  rw [e1]; exact hm
theorem cut_le (a b : Int) (hb : 0 < b) : (cut a b).2 ≤ b := by
  obtain ⟨n, m, g, e1, hm, hg, ha, hb1, hc, _⟩ := cut_spec a b hb
  rw [e1]
  show m ≤ b
  rw [hb1]
  have : m * 1 ≤ m * g := Int.mul_le_mul_of_nonneg_left (by omega) (by omega)
  omega
theorem abs_mul_le (n g : Int) (hg : 0 < g) : n.natAbs ≤ (n * g).natAbs := by
  rw [Int.natAbs_mul]
  have : 1 ≤ g.natAbs := by omega
  exact Nat.le_mul_of_pos_right _ this
theorem cut_abs (a b : Int) (hb : 0 < b) : (cut a b).1.natAbs ≤ a.natAbs := by
  obtain ⟨n, m, g, e1, hm, hg, ha, hb1, hc, _⟩ := cut_spec a b hb
  rw [e1]
  show n.natAbs ≤ a.natAbs
  rw [ha]
  exact abs_mul_le n g hg

/-- The greatest common divisor by remainders. -/
theorem gcd_step (a b : Int) (ha : 0 ≤ a) (hb : 0 < b) : Int.gcd b (Int.tmod a b) = Int.gcd a b := by
  rw [Int.tmod_eq_emod_of_nonneg ha]
  rw [Int.gcd_comm a b]
  have : Int.gcd b (a % b) = Int.gcd b a := by
    show Nat.gcd b.natAbs (a % b).natAbs = Nat.gcd b.natAbs a.natAbs
    rw [Int.natAbs_emod_of_nonneg ha, Nat.gcd_comm, ← Nat.gcd_rec]
  exact this

/-! ### The program's and the reference's fractions -/
/-- Rounds enough for all divisors. -/
def BIG : Nat := 18446744073709551616
theorem w64 {n : Int} (h1 : -9223372036854775808 ≤ n) (h2 : n ≤ 9223372036854775807) : wrap64 n = n := by unfold wrap64; omega

theorem impl_gcd_l0_ok (m : Nat) : ∀ (k : Nat) (a b : Int), 0 ≤ a → 0 ≤ b → b ≤ m → m < k → impl_gcd.l0 k a b = some (Int.gcd a b : Int) := by
  induction m with
  | zero =>
    intro k a b ha hb hm hk
    obtain ⟨k, rfl⟩ : ∃ j, k = j + 1 := ⟨k - 1, by omega⟩
    have hb0 : b = 0 := by omega
    simp only [impl_gcd.l0]
    rw [if_pos hb0, hb0, Int.gcd_zero]
    congr 1
    omega
  | succ m ih =>
    intro k a b ha hb hm hk
    obtain ⟨k, rfl⟩ : ∃ j, k = j + 1 := ⟨k - 1, by omega⟩
    simp only [impl_gcd.l0]
    by_cases hb0 : b = 0
    · rw [if_pos hb0, hb0, Int.gcd_zero]
      congr 1
      omega
    · rw [if_neg hb0]
      have h1 : Int.tmod a b = a % b := Int.tmod_eq_emod_of_nonneg ha
      have h2 := Int.emod_nonneg a hb0
      have h3 := Int.emod_lt_of_pos a (show 0 < b by omega)
      rw [ih k b (Int.tmod a b) hb (by rw [h1]; exact h2) (by rw [h1]; omega) (by omega), gcd_step a b ha (by omega)]
theorem spec_gcd_l0_ok (m : Nat) : ∀ (k : Nat) (a b : Int), 0 ≤ a → 0 ≤ b → b ≤ m → m < k → spec_l2Gcd.l0 k a b = some (Int.gcd a b : Int) := by
  induction m with
  | zero =>
    intro k a b ha hb hm hk
    obtain ⟨k, rfl⟩ : ∃ j, k = j + 1 := ⟨k - 1, by omega⟩
    have hb0 : b = 0 := by omega
    simp only [spec_l2Gcd.l0]
    rw [if_neg (by omega), hb0, Int.gcd_zero]
    congr 1
    omega
  | succ m ih =>
    intro k a b ha hb hm hk
    obtain ⟨k, rfl⟩ : ∃ j, k = j + 1 := ⟨k - 1, by omega⟩
    simp only [spec_l2Gcd.l0]
    by_cases hb0 : b = 0
    · rw [if_neg (by omega), hb0, Int.gcd_zero]
      congr 1
      omega
    · rw [if_pos (by omega), if_neg hb0]
      have h1 : Int.tmod a b = a % b := Int.tmod_eq_emod_of_nonneg ha
      have h2 := Int.emod_nonneg a hb0
      have h3 := Int.emod_lt_of_pos a (show 0 < b by omega)
      rw [ih k b (Int.tmod a b) hb (by rw [h1]; exact h2) (by rw [h1]; omega) (by omega), gcd_step a b ha (by omega)]
theorem impl_gcd_ok {k : Nat} (hk : BIG ≤ k) {a b : Int} (ha : 0 ≤ a) (hb : 0 ≤ b) (hb2 : b ≤ 9223372036854775807) : impl_gcd.f k a b = some (Int.gcd a b : Int) := by
  unfold BIG at hk
  exact impl_gcd_l0_ok 9223372036854775807 k a b ha hb hb2 (by omega)
theorem spec_gcd_ok {k : Nat} (hk : BIG ≤ k) {a b : Int} (ha : 0 ≤ a) (hb : 0 ≤ b) (hb2 : b ≤ 9223372036854775807) : spec_l2Gcd.f k a b = some (Int.gcd a b : Int) := by
  unfold BIG at hk
  exact spec_gcd_l0_ok 9223372036854775807 k a b ha hb hb2 (by omega)
theorem gcd_abs (a b : Int) : Int.gcd (a.natAbs : Int) b = Int.gcd a b := by
  show Nat.gcd (a.natAbs : Int).natAbs b.natAbs = Nat.gcd a.natAbs b.natAbs
  rw [Int.natAbs_natCast]
theorem cut_tdiv {a b : Int} (hb : 0 < b) (ha : a.natAbs ≤ 4611686018427387904) (hb2 : b ≤ 4611686018427387904) :
    wrap64 (Int.tdiv a (Int.gcd a b : Int)) = (cut a b).1 ∧ wrap64 (Int.tdiv b (Int.gcd a b : Int)) = (cut a b).2 := by
  rw [Int.tdiv_eq_ediv_of_dvd (Int.gcd_dvd_left a b), Int.tdiv_eq_ediv_of_dvd (Int.gcd_dvd_right a b)]
  have h1 := cut_abs a b hb
  have h2 := cut_le a b hb
  have h3 := cut_pos (a := a) hb
  have e1 : a / (Int.gcd a b : Int) = (cut a b).1 := rfl
  have e2 : b / (Int.gcd a b : Int) = (cut a b).2 := rfl
  rw [e1, e2]
  exact ⟨w64 (by omega) (by omega), w64 (by omega) (by omega)⟩
theorem mx_abs {a : Int} (ha : a.natAbs ≤ 4611686018427387904) : mx a (wrap64 (-a)) = (a.natAbs : Int) := by
  rw [w64 (by omega) (by omega)]
  unfold mx
  split <;> omega
theorem most_abs {a : Int} (ha : a.natAbs ≤ 4611686018427387904) : spec_l1Most.f a (wrap64 (-a)) = some (a.natAbs : Int) := by
  rw [w64 (by omega) (by omega)]
  unfold spec_l1Most.f
  split <;> (congr 1; omega)
theorem reduced_ok {k : Nat} (hk : BIG ≤ k) {a b : Int} (hb : 0 < b) (ha : a.natAbs ≤ 4611686018427387904) (hb2 : b ≤ 4611686018427387904) : impl_reduced.f k a b = some (cut a b) := by
  unfold impl_reduced.f
  rw [mx_abs ha, impl_gcd_ok hk (by omega) (by omega) (by omega), Option.bind_some, gcd_abs]
  have hg := gcd_pos (a := a) hb
  obtain ⟨h1, h2⟩ := cut_tdiv hb ha hb2
  rw [if_neg (by omega), h1, h2]
theorem l2Cut_ok {k : Nat} (hk : BIG ≤ k) {a b : Int} (hb : 0 < b) (ha : a.natAbs ≤ 4611686018427387904) (hb2 : b ≤ 4611686018427387904) : spec_l2Cut.f k a b = some (cut a b) := by
  unfold spec_l2Cut.f
  rw [most_abs ha, Option.bind_some, spec_gcd_ok hk (by omega) (by omega) (by omega), Option.bind_some, gcd_abs]
  have hg := gcd_pos (a := a) hb
  obtain ⟨h1, h2⟩ := cut_tdiv hb ha hb2
  rw [if_neg (by omega), h1, h2]
end Go.Proofs.Ytikpbopjhkohmaa.Pure
