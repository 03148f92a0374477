/- Vessels: what the smallest functions and the lists' tests answer. Conditions: those each lemma names. -/
import Derived.Test.YtpadckbjknjkaaaListsA
set_option linter.unusedVariables false
set_option linter.unusedSimpArgs false
namespace Go.Proofs.Ytpadckbjknjkaaa.Pure
open Go.RowKit Go.Proofs.Ytpadckbjknjkaaa.PA Go.Proofs.Ytpadckbjknjkaaa.PL Go.Proofs.YtpadckbjknjkaaaW.PrintWords Go.Proofs.YtpadckbjknjkaaaW.PrintLast Go.Proofs.YtpadckbjknjkaaaW.PrintMore

theorem in_ok (a lo hi : Int) : spec_l1In.f a lo hi = some (decide (lo ≤ a ∧ a ≤ hi)) := by
  unfold spec_l1In.f
  by_cases h : a ≥ lo
  · rw [if_pos h]
    congr 1
    have : lo ≤ a := h
    simp [this]
  · rw [if_neg h]
    have : ¬ lo ≤ a := h
    simp [this]
theorem within_ok (a lo hi : Int) : impl_within.f a lo hi = some (decide (lo ≤ a ∧ a ≤ hi)) := in_ok a lo hi
/-- A vessel is valid. -/
def ves (x : S33) : Bool := decide ((1 ≤ x.f0 ∧ x.f0 ≤ 99) ∧ (0 ≤ x.f1 ∧ x.f1 ≤ 20) ∧ (0 ≤ x.f2 ∧ x.f2 ≤ x.f0))
theorem vessel_ok (a b c : Int) : spec_l9Vessel.f a b c = some (ves ⟨a, b, c⟩) := by
  unfold spec_l9Vessel.f ves
  simp only [in_ok, Option.bind_some, decide_eq_true_eq]
  by_cases h1 : 1 ≤ a ∧ a ≤ 99 <;> by_cases h2 : 0 ≤ b ∧ b ≤ 20 <;> by_cases h3 : 0 ≤ c ∧ c ≤ a <;> simp [h1, h2, h3]
theorem notVessel_ok (a b c : Int) : impl_AreVessels_1.f a b c = some (!ves ⟨a, b, c⟩) := by
  unfold impl_AreVessels_1.f ves
  simp only [within_ok, Option.bind_some, decide_eq_true_eq]
  by_cases h1 : 1 ≤ a ∧ a ≤ 99 <;> by_cases h2 : 0 ≤ b ∧ b ≤ 20 <;> by_cases h3 : 0 ≤ c ∧ c ≤ a <;> simp [h1, h2, h3]
/-- A list of vessels is valid. -/
def good (xs : List S33) : Bool := decide (1 ≤ (xs.length : Int) ∧ (xs.length : Int) ≤ 4) && xs.all ves
theorem rd_at {xs : List S33} {i : Nat} {x : S33} (h : xs[i]? = some x) : rd_T33 xs i = x := by simp [rd_T33, h]
theorem specGood_ok {k : Nat} (hk : 20 ≤ k) (xs : List S33) : spec_l9Good.f k xs = some (good xs) := by
  unfold spec_l9Good.f
  have h := scan_go spec_l9Good.l0 ves 4 ?_ ?_ (by omega) xs 5 k 0 (by omega) (by omega) (by omega)
  · rw [show ((0 : Nat) : Int) = 0 from rfl] at h
    rw [h, List.drop_zero]; rfl
  · intro k xs i x hx hi
    have h1 := lt_of hx
    simp only [spec_l9Good.l0, spec_l9Good.j1]
    rw [if_pos (by omega), if_pos (by simp; omega), if_pos (by omega), if_pos (by omega), rd_at hx, vessel_ok, Option.bind_some]
  · intro k xs i hi
    simp only [spec_l9Good.l0, spec_l9Good.j1]
    by_cases h1 : (i : Int) < (xs.length : Int)
    · rw [if_pos h1, if_neg (by simp; omega), in_ok, Option.bind_some]; rfl
    · rw [if_neg h1, if_neg (by decide), in_ok, Option.bind_some]; rfl
theorem implGood_ok {k : Nat} {xs : List S33} (hx : xs.length ≤ 1099511627776) (hk : xs.length < k) : impl_AreVessels.f k xs = some (good xs) := by
  unfold impl_AreVessels.f impl_Vessel_35_at_impl_AreVessels_1.f impl_Vessel_50_at_impl_AreVessels_1.f good
  have hf := find_go (fun k xs i => impl_Vessel_50_at_impl_AreVessels_1.l0 k xs (xs.length : Int) i) ves ?_ ?_ xs hx xs.length k 0 (by omega) hk
  · obtain ⟨r, h, hr⟩ := hf
    rw [show ((0 : Nat) : Int) = 0 from rfl] at h
    rw [h, within_ok, Option.bind_some, Option.bind_some, Option.bind_some, hr, List.drop_zero]
    by_cases h1 : 1 ≤ (xs.length : Int) ∧ (xs.length : Int) ≤ 4
    · rw [if_pos (by simpa using h1)]; simp [h1]
    · rw [if_neg (by simpa using h1)]; simp [h1]
  · intro k xs i x hx
    have h1 := lt_of hx
    simp only [impl_Vessel_50_at_impl_AreVessels_1.l0]
    rw [if_pos (by omega), if_pos (by omega), if_pos (by omega), rd_at hx, notVessel_ok, Option.bind_some]
    by_cases h2 : ves x = true
    · rw [if_neg (by simp [h2]), if_pos h2]
    · rw [if_pos (by simp [h2]), if_neg h2]
  · intro k xs i hi
    simp only [impl_Vessel_50_at_impl_AreVessels_1.l0]
    rw [if_neg (by omega)]
end Go.Proofs.Ytpadckbjknjkaaa.Pure
