/- Things: what the smallest functions and the lists' tests answer. Conditions: those each lemma names. -/
import Derived.Test.YtikpbopjhkohmaaVThingsLists
import Derived.Test.YtikpbopjhkohmaaVThingsPTx0
import Derived.Test.YtikpbopjhkohmaaVThingsPTx1
import Derived.Test.YtikpbopjhkohmaaVThingsPTx2
import Derived.Test.YtikpbopjhkohmaaVThingsPTx3
import Derived.Test.YtikpbopjhkohmaaVThingsPTx4
import Derived.Test.YtikpbopjhkohmaaVThingsPTx5
import Derived.Test.YtikpbopjhkohmaaVThingsPTx6
import Derived.Test.YtikpbopjhkohmaaVThingsPTx7
import Derived.Test.YtikpbopjhkohmaaVThingsPTx8
import Derived.Test.YtikpbopjhkohmaaVThingsPTx9
import Derived.Test.YtikpbopjhkohmaaVThingsPTx10
import Derived.Test.YtikpbopjhkohmaaVThingsPTx11
import Derived.Test.YtikpbopjhkohmaaVThingsPTx12
set_option linter.unusedVariables false
set_option linter.unusedSimpArgs false
namespace Go.Proofs.Ytikpbopjhkohmaa.Pure
open Go.RowKit Go.Proofs.Ytikpbopjhkohmaa.PT Go.Proofs.Ytikpbopjhkohmaa.PL Go.Proofs.YtikpbopjhkohmaaW.PrintWords Go.Proofs.YtikpbopjhkohmaaW.PrintLast Go.Proofs.YtikpbopjhkohmaaW.PrintMore

theorem in_ok (a lo hi : Int) : spec_l1In.f a lo hi = some (decide (lo ≤ a ∧ a ≤ hi)) := by
  unfold spec_l1In.f
  by_cases h : a ≥ lo
  · rw [if_pos h]
    congr 1
    have : lo ≤ a := h
    simp [this]
  · rw [if_neg h]
    have : ¬ lo ≤ a := h
    simp [this]
theorem within_ok (a lo hi : Int) : impl_within.f a lo hi = some (decide (lo ≤ a ∧ a ≤ hi)) := in_ok a lo hi
/-- A thing is valid. -/
def Thg (x : S45) : Prop := (1 ≤ x.f1 ∧ x.f1 ≤ 60) ∧ (0 ≤ x.f2 ∧ x.f2 ≤ 4 * x.f1) ∧ (x.f3 = 0 ∨ ¬ x.f2 = 0) ∧ ((x.f0 = 1 ∧ x.f3 = 0) ∨ (x.f0 = 2 ∧ (0 ≤ x.f3 ∧ x.f3 ≤ 2)) ∨ (x.f0 = 3 ∧ (0 ≤ x.f3 ∧ x.f3 ≤ 1)))
instance (x : S45) : Decidable (Thg x) := by unfold Thg; infer_instance
def thgb (x : S45) : Bool := decide (Thg x)
theorem specThing_ok (k : Nat) (a b c d : Int) : spec_l8Thing.f (k + 1) a b c d = some (thgb ⟨a, b, c, d⟩) := by
  unfold spec_l8Thing.f thgb Thg
  rw [in_ok, Option.bind_some]
  by_cases h1 : 1 ≤ b ∧ b ≤ 60
  · rw [if_pos (decide_eq_true h1), wr (by omega) (by omega), in_ok, Option.bind_some]
    by_cases h2 : 0 ≤ c ∧ c ≤ 4 * b
    · rw [if_pos (decide_eq_true h2)]
      by_cases h3 : d = 0
      · subst h3
        rw [if_pos rfl]
        simp only [spec_l8Thing.j0, in_ok]
        by_cases a1 : a = 1
        · subst a1; simp [h1, h2]
        · by_cases a2 : a = 2
          · subst a2; simp [h1, h2]
          · by_cases a3 : a = 3
            · subst a3; simp [h1, h2]
            · simp [h1, h2, a1, a2, a3]
      · rw [if_neg h3]
        by_cases h4 : c = 0
        · subst h4
          simp [spec_l8Thing.j0, h3]
        · simp only [spec_l8Thing.j0, in_ok]
          by_cases a1 : a = 1
          · subst a1; simp [h1, h2, h3, h4]
          · by_cases a2 : a = 2
            · subst a2; simp [h1, h2, h3, h4]
            · by_cases a3 : a = 3
              · subst a3; simp [h1, h2, h3, h4]
              · simp [h1, h2, h3, h4, a1, a2, a3]
    · rw [if_neg (by simpa using h2)]
      simp [spec_l8Thing.j0, h2]
  · rw [if_neg (by simpa using h1)]
    simp [spec_l8Thing.j0, h1]
theorem implThing_ok (a b c d : Int) : impl_isThing.f a b c d = some (thgb ⟨a, b, c, d⟩) := by
  unfold impl_isThing.f thgb Thg
  simp only [within_ok, Option.bind_some, decide_eq_true_eq]
  by_cases h1 : 1 ≤ b ∧ b ≤ 60
  · rw [wr (by omega) (by omega)]
    by_cases h2 : 0 ≤ c ∧ c ≤ 4 * b
    · by_cases h4 : c = 0
      · subst h4
        have h5 : 0 ≤ 4 * b := by omega
        by_cases a1 : a = 1
        · subst a1; by_cases h3 : d = 0 <;> simp [h1, h5, h3] <;> omega
        · by_cases a2 : a = 2
          · subst a2; by_cases h3 : d = 0 <;> simp [h1, h5, h3] <;> omega
          · by_cases a3 : a = 3
            · subst a3; by_cases h3 : d = 0 <;> simp [h1, h5, h3] <;> omega
            · simp [h1, h2, a1, a2, a3]
      · have h5 : c > 0 := by omega
        by_cases a1 : a = 1
        · subst a1; by_cases h3 : 0 ≤ d ∧ d ≤ 0 <;> simp [h1, h2, h3, h4, h5] <;> omega
        · by_cases a2 : a = 2
          · subst a2; by_cases h3 : 0 ≤ d ∧ d ≤ 2 <;> simp [h1, h2, h3, h4, h5]
          · by_cases a3 : a = 3
            · subst a3; by_cases h3 : 0 ≤ d ∧ d ≤ 1 <;> simp [h1, h2, h3, h4, h5]
            · simp [h1, h2, a1, a2, a3]
    · by_cases a1 : a = 1
      · subst a1; simp [h1, h2]
      · by_cases a2 : a = 2
        · subst a2; simp [h1, h2]
        · by_cases a3 : a = 3
          · subst a3; simp [h1, h2]
          · simp [h1, h2, a1, a2, a3]
  · by_cases a1 : a = 1
    · subst a1; simp [h1]
    · by_cases a2 : a = 2
      · subst a2; simp [h1]
      · by_cases a3 : a = 3
        · subst a3; simp [h1]
        · simp [h1, a1, a2, a3]
/-- A list of things is valid. -/
def good (xs : List S45) : Bool := decide (1 ≤ (xs.length : Int) ∧ (xs.length : Int) ≤ 4) && xs.all thgb
theorem rd_at {xs : List S45} {i : Nat} {x : S45} (h : xs[i]? = some x) : rd_T45 xs i = x := by simp [rd_T45, h]
theorem good_len {xs : List S45} (h : good xs = true) : 1 ≤ xs.length ∧ xs.length ≤ 4 := by
  unfold good at h
  rw [Bool.and_eq_true, decide_eq_true_eq] at h
  omega
theorem good_at {xs : List S45} (h : good xs = true) {i : Nat} {x : S45} (hx : xs[i]? = some x) : Thg x := by
  unfold good at h
  rw [Bool.and_eq_true, List.all_eq_true] at h
  exact of_decide_eq_true (h.2 x (List.mem_of_getElem? hx))
theorem specGood_ok {k : Nat} (hk : 20 ≤ k) (xs : List S45) : spec_l8Things.f k xs = some (good xs) := by
  unfold spec_l8Things.f
  have h := scan_go_m spec_l8Things.l0 thgb 4 1 ?_ ?_ (by omega) xs 5 k 0 (by omega) (by omega) (by omega)
  · rw [show ((0 : Nat) : Int) = 0 from rfl] at h
    rw [h, List.drop_zero]; rfl
  · intro k xs i x hk hx hi
    have h1 := lt_of hx
    obtain ⟨k, rfl⟩ : ∃ m, k = m + 1 := ⟨k - 1, by omega⟩
    simp only [spec_l8Things.l0, spec_l8Things.j1]
    rw [if_pos (by omega), if_pos (by simp; omega), if_pos (by omega), if_pos (by omega), rd_at hx, specThing_ok, Option.bind_some]
  · intro k xs i hi
    simp only [spec_l8Things.l0, spec_l8Things.j1]
    by_cases h1 : (i : Int) < (xs.length : Int)
    · rw [if_pos h1, if_neg (by simp; omega), in_ok, Option.bind_some]; rfl
    · rw [if_neg h1, if_neg (by decide), in_ok, Option.bind_some]; rfl
theorem implGood_ok {k : Nat} {xs : List S45} (hx : xs.length ≤ 1099511627776) (hk : xs.length < k) : impl_AreThings.f k xs = some (good xs) := by
  unfold impl_AreThings.f impl_Thing_40_at_impl_AreThings_1.f impl_Thing_57_at_impl_AreThings_1.f good
  have hf := find_go (fun k xs i => impl_Thing_57_at_impl_AreThings_1.l0 k xs (xs.length : Int) i) thgb ?_ ?_ xs hx xs.length k 0 (by omega) hk
  · obtain ⟨r, h, hr⟩ := hf
    rw [show ((0 : Nat) : Int) = 0 from rfl] at h
    rw [h, within_ok, Option.bind_some, Option.bind_some, Option.bind_some, hr, List.drop_zero]
    by_cases h1 : 1 ≤ (xs.length : Int) ∧ (xs.length : Int) ≤ 4
    · rw [if_pos (by simpa using h1)]; simp [h1]
    · rw [if_neg (by simpa using h1)]; simp [h1]
  · intro k xs i x hx
    have h1 := lt_of hx
    simp only [impl_Thing_57_at_impl_AreThings_1.l0]
    rw [if_pos (by omega), if_pos (by omega), if_pos (by omega), rd_at hx]
    unfold impl_AreThings_1.f
    rw [implThing_ok, Option.bind_some, Option.bind_some]
    by_cases h2 : thgb x = true
    · rw [if_neg (by rw [show (⟨x.f0, x.f1, x.f2, x.f3⟩ : S45) = x from rfl]; simp [h2]), if_pos h2]
    · rw [if_pos (by rw [show (⟨x.f0, x.f1, x.f2, x.f3⟩ : S45) = x from rfl]; simp [h2]), if_neg h2]
  · intro k xs i hi
    simp only [impl_Thing_57_at_impl_AreThings_1.l0]
    rw [if_neg (by omega)]
end Go.Proofs.Ytikpbopjhkohmaa.Pure
