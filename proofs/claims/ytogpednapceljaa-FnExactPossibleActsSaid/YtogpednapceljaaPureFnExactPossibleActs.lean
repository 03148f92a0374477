/- PossibleActs: the program's answer is the reference's, and it holds nothing of its argument. Conditions: none. -/
import Derived.Test.YtogpednapceljaaBase
import Derived.Test.YtogpednapceljaaListsB
import Derived.Test.YtogpednapceljaaListsI
import Derived.Test.YtogpednapceljaaPAx5
set_option linter.unusedVariables false
set_option linter.unusedSimpArgs false
namespace Go.Proofs.Ytogpednapceljaa.Pure
open Go.RowKit Go.Proofs.Ytogpednapceljaa.PA Go.Proofs.Ytogpednapceljaa.PL Go.Proofs.YtogpednapceljaaW.PrintWords Go.Proofs.YtogpednapceljaaW.PrintLast Go.Proofs.YtogpednapceljaaW.PrintMore
/-- An act is possible. -/
def can (x : S23) : Bool := decide (x.f0 = 1 ∨ (x.f0 = 2 ∧ 0 < x.f2 ∧ x.f3 < 2) ∨ (x.f0 = 3 ∧ 0 < x.f2))
theorem specCan_ok {x : S23} (h : Thg x) : spec_l8Can.f x.f0 x.f1 x.f2 x.f3 = some (can x) := by
  obtain ⟨_, _, _, h4⟩ := h
  unfold spec_l8Can.f can
  by_cases h2 : x.f0 = 2
  · rw [if_pos h2]
    by_cases h5 : x.f2 > 0
    · rw [if_pos h5]
      congr 1
      rw [decide_eq_decide]
      omega
    · rw [if_neg h5]
      congr 1
      symm
      exact decide_eq_false (by omega)
  · rw [if_neg h2]
    by_cases h3 : x.f0 = 3
    · rw [if_pos h3]
      congr 1
      rw [decide_eq_decide]
      omega
    · rw [if_neg h3]
      congr 1
      symm
      exact decide_eq_true (by omega)
theorem actF_can (x : S23) : ∃ a b c d, impl_Thing_act.f x.f0 x.f1 x.f2 x.f3 = some (can x, a, b, c, d) := by
  unfold impl_Thing_act.f actF can actW
  by_cases h1 : x.f0 = 1
  · rw [if_pos h1, decide_eq_true (Or.inl h1)]
    exact ⟨_, _, _, _, rfl⟩
  · rw [if_neg h1]
    by_cases h2 : x.f0 = 2 ∧ 0 < x.f2 ∧ x.f3 < 2
    · rw [if_pos h2, decide_eq_true (Or.inr (Or.inl h2))]
      exact ⟨_, _, _, _, rfl⟩
    · rw [if_neg h2]
      by_cases h3 : x.f0 = 3 ∧ 0 < x.f2
      · rw [if_pos h3, decide_eq_true (Or.inr (Or.inr h3))]
        exact ⟨_, _, _, _, rfl⟩
      · rw [if_neg h3, decide_eq_false (by rintro (h | h | h) <;> contradiction)]
        exact ⟨_, _, _, _, rfl⟩
theorem acts_go {xs : List S23} (hg : good xs = true) : ∀ (d k i : Nat) (m : List Int), xs.length = i + d → d < k → m.length ≤ i → ∃ r : List Int, r.length ≤ 4 ∧ spec_PossibleActs.l0 k xs m i = some (r, true) ∧ impl_PossibleActs.l0 k xs m (xs.length : Int) i = some (r, true) := by
  have hl := good_len hg
  intro d
  induction d with
  | zero =>
    intro k i m h1 hk hm
    obtain ⟨k, rfl⟩ : ∃ m, k = m + 1 := ⟨k - 1, by omega⟩
    simp only [spec_PossibleActs.l0, impl_PossibleActs.l0]
    rw [if_neg (by omega), if_neg (by omega)]
    exact ⟨m, by omega, rfl, rfl⟩
  | succ d ih =>
    intro k i m h1 hk hm
    obtain ⟨k, rfl⟩ : ∃ m, k = m + 1 := ⟨k - 1, by omega⟩
    obtain ⟨x, hxx⟩ := at_lt (xs := xs) (i := i) (by omega)
    have hi : (i : Int) < (xs.length : Int) := by omega
    have h0 : (0 : Int) ≤ (i : Int) := by omega
    have hL : m.length < 17592186044416 := by omega
    obtain ⟨a, b, c, e, hact⟩ := actF_can x
    simp only [spec_PossibleActs.l0, impl_PossibleActs.l0, hi, h0, if_true, rd_at hxx, specCan_ok (good_at hg hxx), hact, Option.bind_some, wrS i (by omega)]
    by_cases g1 : can x = true
    · simp only [g1, if_true, hL]
      exact ih k (i + 1) _ (by omega) (by omega) (by simp; omega)
    · simp only [g1, if_false, Bool.false_eq_true]
      exact ih k (i + 1) _ (by omega) (by omega) (by omega)
theorem possible_ok {k : Nat} (hk : 30 ≤ k) {xs : List S23} (hx : xs.length ≤ 1048576) (hk2 : xs.length < k) : ∃ r : List Int × Bool, r.1.length ≤ 4 ∧ spec_PossibleActs.f k xs = some r ∧ impl_PossibleActs.f k xs = some r := by
  unfold spec_PossibleActs.f impl_PossibleActs.f
  rw [specGood_ok (by omega), implGood_ok (by omega) hk2]
  simp only [Option.bind_some]
  by_cases h : good xs = true
  · simp only [h, if_true]
    obtain ⟨r, h1, h2, h3⟩ := acts_go h xs.length k 0 [] (by omega) hk2 (Nat.le_refl _)
    rw [show ((0 : Nat) : Int) = 0 from rfl] at h2 h3
    exact ⟨_, h1, h2, h3⟩
  · simp only [h, if_false, Bool.false_eq_true]
    exact ⟨([], false), Nat.zero_le _, rfl, rfl⟩
theorem FnExactPossibleActs : laws_FnExactPossibleActs.Pure := by
  intro xs _ hxs
  unfold laws_FnExactPossibleActs.f
  by_cases hx : xs.length ≤ 1048576
  · refine ⟨2097152, ?_⟩
    obtain ⟨n, hn⟩ := szThingS_ex xs
    rw [hn, Option.bind_some]
    split
    · rfl
    · have hm : (xs.map convThing).length ≤ 1048576 := by simpa using hx
      have ht : ∀ k, xs.length < k → laws_toThingS.f k xs = some (xs.map convThing) := fun k hk => toThingS_ok hx hk
      rw [ht _ (by omega), Option.bind_some]
      generalize xs.map convThing = ys at *
      obtain ⟨r, p3, p1, p2⟩ := possible_ok (k := 2097152) (by omega) hm (by omega)
      obtain ⟨r', q3, q1, q2⟩ := possible_ok (k := 2097150) (by omega) hm (by omega)
      have er : r' = r := by
        have m1 := at_rounds (impl_PossibleActs.mono ys) (by omega : 2097150 ≤ 2097152) q2
        rw [p2] at m1; exact (Option.some.inj m1).symm
      subst er
      clear q1 q3
      obtain ⟨r1, r2⟩ := r'
      simp only at p3
      rw [p1, Option.bind_some, Option.bind_some, p2, Option.bind_some]
      simp only
      rw [eqIntS_self (by omega) (by omega), Option.bind_some, if_pos rfl]
      simp only [laws_FnExactPossibleActs.j0, bne_self_eq_false, Bool.false_eq_true, if_false]
      rw [ht _ (by omega), Option.bind_some, eqThingS_self (by omega) (by omega), Option.bind_some, if_pos rfl, markThingS_ok (by omega) (by omega), Option.bind_some, if_neg (by simp only; omega),
        eqIntS_self (by omega) (by omega), Option.bind_some, if_pos rfl]
      simp only [laws_FnExactPossibleActs.j1, bne_self_eq_false, Bool.false_eq_true, if_false]
      rw [markIntS_ok (by omega) (by omega), Option.bind_some]
      simp only
      rw [heldIntS_ok (by omega) (by omega), Option.bind_some, if_neg (by omega), if_pos rfl, ht _ (by omega), Option.bind_some, q2, Option.bind_some]
      simp only
      rw [eqIntS_self (by omega) (by omega), Option.bind_some, if_pos rfl]
      simp only [laws_FnExactPossibleActs.j2, bne_self_eq_false, Bool.false_eq_true, if_false]
      rw [heldIntS_ok (by omega) (by omega), Option.bind_some, if_neg (by omega), if_pos rfl]
  · refine ⟨1, ?_⟩
    rw [szThingS_far (by omega) hxs]
    rfl
end Go.Proofs.Ytogpednapceljaa.Pure
