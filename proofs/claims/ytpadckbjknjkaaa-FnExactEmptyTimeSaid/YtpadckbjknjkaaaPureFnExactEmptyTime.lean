/- EmptyTime: the program's answer is the reference's, and it holds nothing of its argument. Conditions: none. -/
import Derived.Test.YtpadckbjknjkaaaFlowPure
set_option linter.unusedVariables false
set_option linter.unusedSimpArgs false
namespace Go.Proofs.Ytpadckbjknjkaaa.Pure
open Go.RowKit Go.Proofs.Ytpadckbjknjkaaa.PA Go.Proofs.Ytpadckbjknjkaaa.PL Go.Proofs.YtpadckbjknjkaaaW.PrintWords Go.Proofs.YtpadckbjknjkaaaW.PrintLast Go.Proofs.YtpadckbjknjkaaaW.PrintMore
theorem spec_step (k : Nat) {ys : List S33} (n : Int) (hl : ys.length ≤ 4) (hk : 4 < k) : spec_EmptyTime.l0 (k + 1) ys n = if n ≤ 200 then if water 0 ys = 0 then some (n, true) else (spec_l9Pass.f k ys).bind fun m => spec_EmptyTime.l0 k m.1 (wrap64 (n + 1)) else some (0, false) := by
  rw [spec_EmptyTime.l0, (level_ok (by omega) (by omega)).2, Option.bind_some]
/-- Both rounds, minute by minute. -/
theorem empty_go (K : Nat) (hK : 4 < K) : ∀ (d n k k' : Nat) (ys : List S33), n + d = 200 → (∀ y ∈ ys, ves y = true) → ys.length ≤ 4 → d + 10 < k → d < k' →
    ∃ r : Int, flowL K (fun r => r == 0) k' ys n = some r ∧ spec_EmptyTime.l0 k ys n = some (if r < 0 then 0 else r, decide (0 ≤ r)) := by
  intro d
  induction d with
  | zero =>
    intro n k k' ys h1 h2 h3 h4 h5
    obtain ⟨k, rfl⟩ : ∃ j, k = j + 1 + 1 := ⟨k - 2, by omega⟩
    obtain ⟨k', rfl⟩ : ∃ j, k' = j + 1 := ⟨k' - 1, by omega⟩
    have hn1 : (n : Int) ≤ 200 := by omega
    have hn2 : ¬ (n : Int) < 200 := by omega
    have hn3 : ¬ (n : Int) < 0 := by omega
    have hn4 : (0 : Int) ≤ (n : Int) := by omega
    have hn5 : ¬ ((n + 1 : Nat) : Int) ≤ 200 := by omega
    by_cases h0 : water 0 ys = 0
    · refine ⟨n, ?_, ?_⟩
      · rw [flow_step _ k' _ h3 hK, h0]; rfl
      · rw [spec_step _ _ h3 (by omega), if_pos hn1, if_pos h0, if_neg hn3, decide_eq_true hn4]
    · have hb : ¬ (water 0 ys == 0) = true := by simpa using h0
      obtain ⟨r, e1, e2, e3, e4⟩ := minute_ok (k := k + 1) (k' := K) h2 h3 (by omega) hK
      refine ⟨-1, ?_, ?_⟩
      · rw [flow_step _ k' _ h3 hK, if_neg hb, if_neg hn2]
      · rw [spec_step _ _ h3 (by omega), if_pos hn1, if_neg h0, e1, Option.bind_some, wrS n (by omega), spec_step _ _ (by omega) (by omega), if_neg hn5]
        rfl
  | succ d ih =>
    intro n k k' ys h1 h2 h3 h4 h5
    obtain ⟨k, rfl⟩ : ∃ j, k = j + 1 := ⟨k - 1, by omega⟩
    obtain ⟨k', rfl⟩ : ∃ j, k' = j + 1 := ⟨k' - 1, by omega⟩
    have hn1 : (n : Int) ≤ 200 := by omega
    have hn2 : (n : Int) < 200 := by omega
    have hn3 : ¬ (n : Int) < 0 := by omega
    have hn4 : (0 : Int) ≤ (n : Int) := by omega
    by_cases h0 : water 0 ys = 0
    · refine ⟨n, ?_, ?_⟩
      · rw [flow_step _ k' _ h3 hK, h0]; rfl
      · rw [spec_step _ _ h3 (by omega), if_pos hn1, if_pos h0, if_neg hn3, decide_eq_true hn4]
    · have hb : ¬ (water 0 ys == 0) = true := by simpa using h0
      obtain ⟨r, e1, e2, e3, e4⟩ := minute_ok (k := k) (k' := K) h2 h3 (by omega) hK
      rw [flow_step _ k' _ h3 hK, if_neg hb, if_pos hn2, spec_step _ _ h3 (by omega), if_pos hn1, if_neg h0, e1, e2, Option.bind_some, Option.bind_some, wrS n (by omega)]
      exact ih (n + 1) k k' r.1 (by omega) e4 (by omega) (by omega) (by omega)
theorem empty_ok {k : Nat} (hk : 300 ≤ k) {xs : List S33} (hx : xs.length ≤ 1048576) (hk2 : xs.length < k) : ∃ r : Int × Bool, spec_EmptyTime.f k xs = some r ∧ impl_EmptyTime.f k xs = some r := by
  unfold spec_EmptyTime.f impl_EmptyTime.f emptyF
  rw [specGood_ok (by omega), implGood_ok (by omega) hk2, Option.bind_some, Option.bind_some]
  by_cases h : good xs = true
  · rw [if_pos h, if_pos h, clone_ok hx]
    obtain ⟨hl, hg⟩ := (good_iff xs).1 h
    unfold spec_l9Own.f
    simp only [Option.bind_some, List.length_nil, List.nil_append]
    rw [if_pos (by omega)]
    simp only [Option.bind_some]
    obtain ⟨r, e1, e2⟩ := empty_go k (by omega) 200 0 k k xs (by omega) hg hl.2 (by omega) (by omega)
    rw [show ((0 : Nat) : Int) = 0 from rfl] at e1 e2
    rw [e1, e2]
    exact ⟨_, rfl, rfl⟩
  · rw [if_neg h, if_neg h]
    exact ⟨_, rfl, rfl⟩
theorem FnExactEmptyTime : laws_FnExactEmptyTime.Pure := by
  intro xs _ hxs
  unfold laws_FnExactEmptyTime.f
  by_cases hx : xs.length ≤ 1048576
  · refine ⟨2097152, ?_⟩
    obtain ⟨n, hn⟩ := szVesselS_ex xs
    rw [hn, Option.bind_some]
    split
    · rfl
    · have hm : (xs.map convVessel).length ≤ 1048576 := by simpa using hx
      have ht : ∀ k, xs.length < k → laws_toVesselS.f k xs = some (xs.map convVessel) := fun k hk => toVesselS_ok hx hk
      rw [ht _ (by omega), Option.bind_some]
      generalize xs.map convVessel = ys at *
      obtain ⟨r, p1, p2⟩ := empty_ok (k := 2097152) (by omega) hm (by omega)
      rw [p1, Option.bind_some, Option.bind_some, p2, Option.bind_some, if_pos rfl]
      simp only [laws_FnExactEmptyTime.j0, bne_self_eq_false, Bool.false_eq_true, if_false]
      rw [ht _ (by omega), Option.bind_some, eqVesselS_self (by omega) (by omega), Option.bind_some, if_pos rfl]
  · refine ⟨1, ?_⟩
    rw [szVesselS_far (by omega) hxs]
    rfl
end Go.Proofs.Ytpadckbjknjkaaa.Pure
