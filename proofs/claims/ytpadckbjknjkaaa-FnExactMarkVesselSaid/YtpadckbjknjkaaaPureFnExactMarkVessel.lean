/- MarkVessel: the program's answer is the reference's. Conditions: none. -/
import Derived.Test.YtpadckbjknjkaaaFlowPure
import Derived.Test.YtpadckbjknjkaaaPAx5
set_option linter.unusedVariables false
set_option linter.unusedSimpArgs false
namespace Go.Proofs.Ytpadckbjknjkaaa.Pure
open Go.RowKit Go.Proofs.Ytpadckbjknjkaaa.PA Go.Proofs.Ytpadckbjknjkaaa.PL Go.Proofs.YtpadckbjknjkaaaW.PrintWords Go.Proofs.YtpadckbjknjkaaaW.PrintLast Go.Proofs.YtpadckbjknjkaaaW.PrintMore
/-- One vessel: a minute takes from it what it leaks, as long as it holds as much. -/
theorem one_minute {K : Nat} (hK : 4 < K) {a b c : Int} (hv : ves ⟨a, b, c⟩ = true) : ∃ m1 m2, impl_minute.f K [⟨a, b, c⟩] = some (m1, m2, [⟨a, b, if c < b then 0 else c - b⟩]) := by
  obtain ⟨h1, h2, h3⟩ := (ves_iff _).1 hv
  simp only at h1 h2 h3
  obtain ⟨K, rfl⟩ : ∃ j, K = j + 1 + 1 := ⟨K - 2, by omega⟩
  obtain ⟨z, hz⟩ : ∃ z, z = if c < b then 0 else c - b := ⟨_, rfl⟩
  have hz1 : 0 ≤ z ∧ z ≤ a := by subst hz; split <;> omega
  have hm : c + (0 - mn b c) = z := by rw [hz]; unfold mn; (repeat' split) <;> omega
  have hmb : 0 ≤ mn b c ∧ mn b c ≤ 20 := by unfold mn; (repeat' split) <;> omega
  rw [← hz]
  clear hz
  unfold impl_minute.f
  simp only [impl_minute.l0, List.length_singleton]
  have r0 : rd_T33 [(⟨a, b, c⟩ : S33)] 0 = ⟨a, b, c⟩ := rfl
  have r1 : rd_T33 [(⟨a, b, z⟩ : S33)] 0 = ⟨a, b, z⟩ := rfl
  have l1 : ((1 : Nat) : Int) = 1 := rfl
  rw [if_pos (by omega), if_pos (by omega), if_pos (by omega), r0]
  simp only
  rw [wr (n := 0 - mn b c) (by omega) (by omega), wr (n := c + (0 - mn b c)) (by omega) (by omega), hm, Option.bind_some]
  rw [show List.set [(⟨a, b, c⟩ : S33)] ((0 : Int)).toNat ⟨a, b, z⟩ = [⟨a, b, z⟩] from rfl, r1]
  simp only
  rw [wr (n := z - a) (by omega) (by omega), if_neg (by omega), wr (n := 0 + 1) (by omega) (by omega), if_neg (by omega)]
  exact ⟨_, _, rfl⟩
theorem water_one (a b c : Int) (h0 : 0 ≤ c) (h1 : c ≤ 1000) : water 0 [⟨a, b, c⟩] = c := by
  show wrap64 (0 + c) = c
  rw [wr (by omega) (by omega)]; omega
/-- It takes t minutes. -/
theorem mark_go (K : Nat) (hK : 4 < K) (a b m : Int) (hm : 0 ≤ m) : ∀ (t n k : Nat) (c : Int), ves ⟨a, b, c⟩ = true → c - t * b ≤ m → (t = 0 ∨ m < c - ((t : Int) - 1) * b) → n + t ≤ 200 → t < k → flowL K (fun r => decide (r ≤ m)) k [⟨a, b, c⟩] n = some ((n + t : Nat) : Int) := by
  intro t
  induction t with
  | zero =>
    intro n k c hv h1 h2 h3 h4
    obtain ⟨k, rfl⟩ : ∃ j, k = j + 1 := ⟨k - 1, by omega⟩
    obtain ⟨g1, g2, g3⟩ := (ves_iff _).1 hv
    simp only at g1 g2 g3
    have hc : c ≤ m := by simpa using h1
    rw [flow_step _ k _ (by simp) hK, water_one a b c (by omega) (by omega), if_pos (decide_eq_true hc)]
    rfl
  | succ t ih =>
    intro n k c hv h1 h2 h3 h4
    obtain ⟨k, rfl⟩ : ∃ j, k = j + 1 := ⟨k - 1, by omega⟩
    obtain ⟨g1, g2, g3⟩ := (ves_iff _).1 hv
    simp only at g1 g2 g3
    have e1 : ((t + 1 : Nat) : Int) * b = (t : Int) * b + b := by push_cast; rw [Int.add_mul, Int.one_mul]
    have e2 : (((t + 1 : Nat) : Int) - 1) * b = (t : Int) * b := by push_cast; congr 1; omega
    rw [e1] at h1
    rw [e2] at h2
    have hp : 0 ≤ (t : Int) * b := Int.mul_nonneg (by omega) (by omega)
    have e3 : ((t : Int) - 1) * b = (t : Int) * b - b := by rw [Int.sub_mul, Int.one_mul]
    have hz : t = 0 → (t : Int) * b = 0 := by intro h; rw [h]; simp
    have hq : t = 0 ∨ b ≤ (t : Int) * b := by
      by_cases ht : t = 0
      · exact Or.inl ht
      · right
        have : 1 * b ≤ (t : Int) * b := Int.mul_le_mul_of_nonneg_right (by omega) (by omega)
        omega
    have hgt : ¬ c ≤ m := by omega
    obtain ⟨m1, m2, em⟩ := one_minute hK hv
    have hlt : (n : Int) < 200 := by omega
    rw [flow_step _ k _ (by simp) hK, water_one a b c (by omega) (by omega), if_neg (by simpa using hgt), if_pos hlt, em, Option.bind_some, wrS n (by omega)]
    simp only
    rw [show n + (t + 1) = (n + 1) + t from by omega]
    refine ih (n + 1) k _ ((ves_iff _).2 ⟨g1, g2, ?_⟩) ?_ ?_ (by omega) (by omega)
    · simp only; split <;> omega
    · generalize (t : Int) * b = p at *
      split <;> omega
    · rw [e3]
      generalize (t : Int) * b = p at *
      split <;> omega
/-- It never comes to it. -/
theorem never_go (K : Nat) (hK : 4 < K) (a m c : Int) (hv : ves ⟨a, 0, c⟩ = true) (hc : ¬ c ≤ m) : ∀ (d n k : Nat), n + d = 200 → d < k → flowL K (fun r => decide (r ≤ m)) k [⟨a, 0, c⟩] n = some (-1) := by
  obtain ⟨g1, g2, g3⟩ := (ves_iff _).1 hv
  simp only at g1 g2 g3
  intro d
  induction d with
  | zero =>
    intro n k h1 h2
    obtain ⟨k, rfl⟩ : ∃ j, k = j + 1 := ⟨k - 1, by omega⟩
    rw [flow_step _ k _ (by simp) hK, water_one a 0 c (by omega) (by omega), if_neg (by simpa using hc), if_neg (by omega)]
  | succ d ih =>
    intro n k h1 h2
    obtain ⟨k, rfl⟩ : ∃ j, k = j + 1 := ⟨k - 1, by omega⟩
    obtain ⟨m1, m2, em⟩ := one_minute hK hv
    have hlt : (n : Int) < 200 := by omega
    rw [flow_step _ k _ (by simp) hK, water_one a 0 c (by omega) (by omega), if_neg (by simpa using hc), if_pos hlt, em, Option.bind_some, wrS n (by omega)]
    simp only
    rw [if_neg (by omega), Int.sub_zero]
    exact ih (n + 1) k (by omega) (by omega)
theorem good_one (a b c : Int) : good [⟨a, b, c⟩] = ves ⟨a, b, c⟩ := by
  unfold good; simp
theorem mark_ok {k : Nat} (hk : 300 ≤ k) (a b c m : Int) : ∃ r : Int × Bool, spec_MarkVessel.f k a b c m = some r ∧ impl_MarkVessel.f k a b c m = some r := by
  unfold spec_MarkVessel.f impl_MarkVessel.f markF
  rw [vessel_ok, implGood_ok (by simp) (by simp only [List.length_singleton]; omega), good_one, Option.bind_some, Option.bind_some]
  obtain ⟨k1, hk1⟩ : ∃ j, k = j + 1 := ⟨k - 1, by omega⟩
  by_cases hv : ves ⟨a, b, c⟩ = true
  · rw [hv, if_pos rfl, if_pos rfl, in_ok, within_ok, Option.bind_some, Option.bind_some]
    obtain ⟨g1, g2, g3⟩ := (ves_iff _).1 hv
    simp only at g1 g2 g3
    by_cases hm : 0 ≤ m ∧ m ≤ a
    · rw [decide_eq_true hm, if_pos rfl, clone_ok (by simp), Option.bind_some]
      have hs : ∀ x, spec_MarkVessel.j0 k m (!true) a b c = x ↔ (if c ≤ m then some (0, true) else if b = 0 then some (0, false) else some (wrap64 (Int.tdiv (wrap64 (wrap64 (wrap64 (c - m) + b) - 1)) b), true)) = x := by
        intro x
        rw [hk1, spec_MarkVessel.j0, if_neg (by decide)]
      by_cases h1 : c ≤ m
      · have e := mark_go k (by omega) a b m hm.1 0 0 k c hv (by simpa using h1) (Or.inl rfl) (by omega) (by omega)
        rw [show ((0 : Nat) : Int) = 0 from rfl] at e
        rw [e]
        refine ⟨(0, true), (hs _).2 (by rw [if_pos h1]), rfl⟩
      · by_cases h2 : b = 0
        · subst h2
          have e := never_go k (by omega) a m c hv h1 200 0 k (by omega) (by omega)
          rw [show ((0 : Nat) : Int) = 0 from rfl] at e
          rw [e]
          refine ⟨(0, false), (hs _).2 (by rw [if_neg h1, if_pos rfl]), rfl⟩
        · obtain ⟨q, hq⟩ : ∃ q, q = (c - m + b - 1) / b := ⟨_, rfl⟩
          have hb : 0 < b := by omega
          have hq0 : 0 ≤ q := by rw [hq]; exact Int.ediv_nonneg (by omega) (by omega)
          have d1 := Int.emod_add_mul_ediv (c - m + b - 1) b
          have d2 := Int.emod_nonneg (c - m + b - 1) h2
          have d3 := Int.emod_lt_of_pos (c - m + b - 1) hb
          have hqle : q ≤ c - m + b - 1 := by rw [hq]; exact Int.ediv_le_self _ (by omega)
          rw [← hq] at d1
          have ec : q * b = b * q := Int.mul_comm _ _
          have e1 : (q - 1) * b = b * q - b := by rw [Int.sub_mul, Int.one_mul, ec]
          have ht : ((q.toNat : Nat) : Int) = q := Int.toNat_of_nonneg hq0
          have e := mark_go k (by omega) a b m hm.1 q.toNat 0 k c hv (by rw [ht, ec]; omega) (Or.inr (by rw [ht, e1]; omega)) (by omega) (by omega)
          rw [show ((0 : Nat) : Int) = 0 from rfl, Nat.zero_add, ht] at e
          rw [e]
          have w1 : wrap64 (Int.tdiv (wrap64 (wrap64 (wrap64 (c - m) + b) - 1)) b) = q := by
            rw [wr (n := c - m) (by omega) (by omega), wr (n := c - m + b) (by omega) (by omega), wr (n := c - m + b - 1) (by omega) (by omega), Int.tdiv_eq_ediv_of_nonneg (by omega), ← hq, wr (by omega) (by omega)]
          refine ⟨(q, true), (hs _).2 (by rw [if_neg h1, if_neg h2, w1]), ?_⟩
          show some (if q < 0 then 0 else q, decide (0 ≤ q)) = _
          rw [if_neg (by omega), decide_eq_true hq0]
    · rw [decide_eq_false hm, if_neg Bool.false_ne_true]
      refine ⟨(0, false), ?_, rfl⟩
      rw [hk1, spec_MarkVessel.j0]; rfl
  · rw [Bool.eq_false_iff.mpr hv, if_neg Bool.false_ne_true, if_neg Bool.false_ne_true]
    refine ⟨(0, false), ?_, rfl⟩
    rw [hk1, spec_MarkVessel.j0]; rfl
theorem FnExactMarkVessel : laws_FnExactMarkVessel.Pure := by
  intro a b c m _ _ _ _
  refine ⟨300, ?_⟩
  unfold laws_FnExactMarkVessel.f laws_toVessel.f
  obtain ⟨r, p1, p2⟩ := mark_ok (k := 300) (by omega) a b c m
  simp only [Option.bind_some]
  rw [p1, Option.bind_some, p2, Option.bind_some, if_pos rfl]
  simp only [bne_self_eq_false, Bool.false_eq_true, if_false]
end Go.Proofs.Ytpadckbjknjkaaa.Pure
