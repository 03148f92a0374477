/- SwapVessels: the program's answer is the reference's, and it holds nothing of its argument. Conditions: none. -/
import Derived.Test.YtpadckbjknjkaaaBase
import Derived.Test.YtpadckbjknjkaaaListsB
set_option linter.unusedVariables false
set_option linter.unusedSimpArgs false
namespace Go.Proofs.Ytpadckbjknjkaaa.Pure
open Go.RowKit Go.Proofs.Ytpadckbjknjkaaa.PA Go.Proofs.Ytpadckbjknjkaaa.PL Go.Proofs.YtpadckbjknjkaaaW.PrintWords Go.Proofs.YtpadckbjknjkaaaW.PrintLast
/-- The list with two places exchanged. -/
def swapped (xs : List S33) (a b : Int) : List S33 × Bool :=
  if good xs = true ∧ (0 ≤ a ∧ a ≤ (xs.length : Int) - 1) ∧ (0 ≤ b ∧ b ≤ (xs.length : Int) - 1) then ((xs.set a.toNat (rd_T33 xs b)).set b.toNat (rd_T33 xs a), true) else ([], false)
theorem swapped_len (xs : List S33) (a b : Int) : (swapped xs a b).1.length ≤ xs.length := by
  unfold swapped
  split <;> simp
theorem specSwap_ok {k : Nat} (hk : 20 ≤ k) {xs : List S33} (hx : xs.length ≤ 1048576) (a b : Int) : spec_SwapVessels.f k xs a b = some (swapped xs a b) := by
  unfold spec_SwapVessels.f swapped spec_l9Own.f
  rw [specGood_ok hk, Option.bind_some, wr (by omega) (by omega), in_ok, in_ok, Option.bind_some, Option.bind_some]
  by_cases h1 : good xs = true
  · rw [if_pos h1]
    by_cases h2 : 0 ≤ a ∧ a ≤ (xs.length : Int) - 1
    · rw [if_pos (decide_eq_true h2)]
      by_cases h3 : 0 ≤ b ∧ b ≤ (xs.length : Int) - 1
      · have e1 : a < (xs.length : Int) := by omega
        have e2 : b < (xs.length : Int) := by omega
        rw [if_pos (decide_eq_true h3), if_pos ⟨h1, h2, h3⟩]
        simp only [Option.bind_some, List.length_nil, List.nil_append]
        rw [if_pos (by omega)]
        simp only [Option.bind_some, h2.1, h3.1, e1, e2, if_true]
      · rw [if_neg (by simpa using h3), if_neg (by intro h; exact h3 h.2.2)]
    · rw [if_neg (by simpa using h2), if_neg (by intro h; exact h2 h.2.1)]
  · rw [if_neg h1, if_neg (by intro h; exact h1 h.1)]
theorem implSwap_ok {k : Nat} {xs : List S33} (hx : xs.length ≤ 1048576) (hk : xs.length < k) (a b : Int) : impl_SwapVessels.f k xs a b = some (swapped xs a b) := by
  unfold impl_SwapVessels.f swapped impl_Vessel_45.f
  rw [implGood_ok (by omega) hk, Option.bind_some, wr (by omega) (by omega), within_ok, within_ok, Option.bind_some, Option.bind_some]
  by_cases h1 : good xs = true
  · rw [if_pos h1]
    by_cases h2 : 0 ≤ a ∧ a ≤ (xs.length : Int) - 1
    · rw [if_pos (decide_eq_true h2)]
      by_cases h3 : 0 ≤ b ∧ b ≤ (xs.length : Int) - 1
      · have e1 : a < (xs.length : Int) := by omega
        have e2 : b < (xs.length : Int) := by omega
        rw [if_pos (decide_eq_true h3), if_pos ⟨h1, h2, h3⟩]
        simp only [Option.bind_some, List.length_nil, List.nil_append]
        rw [if_pos (by omega)]
        simp only [Option.bind_some, h2.1, h3.1, e1, e2, if_true]
      · rw [if_neg (by simpa using h3), if_neg (by intro h; exact h3 h.2.2)]
    · rw [if_neg (by simpa using h2), if_neg (by intro h; exact h2 h.2.1)]
  · rw [if_neg h1, if_neg (by intro h; exact h1 h.1)]
theorem FnExactSwapVessels : laws_FnExactSwapVessels.Pure := by
  intro xs a b _ hxs _ _
  unfold laws_FnExactSwapVessels.f
  by_cases hx : xs.length ≤ 1048576
  · refine ⟨2097152, ?_⟩
    obtain ⟨n, hn⟩ := szVesselS_ex xs
    rw [hn, Option.bind_some]
    split
    · rfl
    · have hm : (xs.map convVessel).length ≤ 1048576 := by simpa using hx
      have hs := swapped_len (xs.map convVessel) a b
      have ht : ∀ k, xs.length < k → laws_toVesselS.f k xs = some (xs.map convVessel) := fun k hk => toVesselS_ok hx hk
      rw [ht _ (by omega), Option.bind_some]
      generalize xs.map convVessel = ys at *
      rw [specSwap_ok (by omega) hm, Option.bind_some, Option.bind_some, implSwap_ok hm (by omega), Option.bind_some]
      generalize he : swapped ys a b = r at *
      rw [eqVesselS_self (by omega) (by omega), Option.bind_some, if_pos rfl]
      simp only [laws_FnExactSwapVessels.j0, bne_self_eq_false, Bool.false_eq_true, if_false]
      rw [ht _ (by omega), Option.bind_some, eqVesselS_self (by omega) (by omega), Option.bind_some, if_pos rfl, markVesselS_ok (by omega) (by omega), Option.bind_some, if_neg (by simp only; omega),
        eqVesselS_self (by omega) (by omega), Option.bind_some, if_pos rfl]
      simp only [laws_FnExactSwapVessels.j1, Bool.false_eq_true, if_false]
      rw [markVesselS_ok (by omega) (by omega), Option.bind_some]
      simp only
      rw [heldVesselS_ok (by omega) (by omega), Option.bind_some, if_neg (by omega), if_pos rfl, ht _ (by omega), Option.bind_some, implSwap_ok hm (by omega), he, Option.bind_some]
      rw [eqVesselS_self (by omega) (by omega), Option.bind_some, if_pos rfl]
      simp only [laws_FnExactSwapVessels.j2, bne_self_eq_false, Bool.false_eq_true, if_false]
      rw [heldVesselS_ok (by omega) (by omega), Option.bind_some, if_neg (by omega), if_pos rfl]
  · refine ⟨1, ?_⟩
    rw [szVesselS_far (by omega) hxs]
    rfl
end Go.Proofs.Ytpadckbjknjkaaa.Pure
