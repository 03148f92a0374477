/- PassMinute: the program's answer is the reference's, and it holds nothing of its argument. Conditions: none. -/
import Derived.Test.YtpadckbjknjkaaaBase
import Derived.Test.YtpadckbjknjkaaaListsB
import Derived.Test.YtpadckbjknjkaaaPAx4
set_option linter.unusedVariables false
set_option linter.unusedSimpArgs false
namespace Go.Proofs.Ytpadckbjknjkaaa.Pure
open Go.RowKit Go.Proofs.Ytpadckbjknjkaaa.PA Go.Proofs.Ytpadckbjknjkaaa.PL Go.Proofs.YtpadckbjknjkaaaW.PrintWords Go.Proofs.YtpadckbjknjkaaaW.PrintLast Go.Proofs.YtpadckbjknjkaaaW.PrintMore

theorem ves_iff (x : S33) : ves x = true ↔ (1 ≤ x.f0 ∧ x.f0 ≤ 99) ∧ (0 ≤ x.f1 ∧ x.f1 ≤ 20) ∧ (0 ≤ x.f2 ∧ x.f2 ≤ x.f0) := by
  unfold ves; simp
theorem good_iff (xs : List S33) : good xs = true ↔ (1 ≤ xs.length ∧ xs.length ≤ 4) ∧ ∀ x ∈ xs, ves x = true := by
  unfold good
  simp only [Bool.and_eq_true, decide_eq_true_eq, List.all_eq_true]
  constructor
  · rintro ⟨h1, h2⟩; exact ⟨by omega, h2⟩
  · rintro ⟨h1, h2⟩; exact ⟨by omega, h2⟩
theorem least_ok (a b : Int) : spec_l1Least.f a b = some (if a < b then a else b) := by
  unfold spec_l1Least.f; split <;> rfl
theorem most_ok (a b : Int) : spec_l1Most.f a b = some (if b < a then a else b) := by
  unfold spec_l1Most.f
  by_cases h : a > b
  · rw [if_pos h, if_pos h]
  · rw [if_neg h, if_neg h]

/-- Both walks through the list, step by step: what is behind the place i is as it was. -/
theorem minute_go (xs : List S33) (hg : ∀ x ∈ xs, ves x = true) (hl : xs.length ≤ 4) : ∀ (d i : Nat) (ys : List S33) (s f : Int) (k k' : Nat), i + d = xs.length → ys.length = xs.length → (∀ j, i ≤ j → ys[j]? = xs[j]?) → 0 ≤ s → s ≤ 200 * i → 0 ≤ f → f ≤ 20 → d < k → d < k' →
    ∃ r, spec_l9Pass.l0 k xs ys s f i = some r ∧ impl_minute.l0 k' ys s f (xs.length : Int) i = some (r.2.1, r.2.2, r.1) ∧ r.1.length = xs.length := by
  intro d
  induction d with
  | zero =>
    intro i ys s f k k' h1 h2 h3 h4 h5 h6 h7 h8 h9
    obtain ⟨k, rfl⟩ : ∃ j, k = j + 1 := ⟨k - 1, by omega⟩
    obtain ⟨k', rfl⟩ : ∃ j, k' = j + 1 := ⟨k' - 1, by omega⟩
    refine ⟨(ys, s, f), ?_, ?_, h2⟩
    · simp only [spec_l9Pass.l0]; rw [if_neg (by omega)]
    · simp only [impl_minute.l0]; rw [if_neg (by omega)]
  | succ d ih =>
    intro i ys s f k k' h1 h2 h3 h4 h5 h6 h7 h8 h9
    obtain ⟨k, rfl⟩ : ∃ j, k = j + 1 := ⟨k - 1, by omega⟩
    obtain ⟨k', rfl⟩ : ∃ j, k' = j + 1 := ⟨k' - 1, by omega⟩
    obtain ⟨x, hx⟩ := at_lt (xs := xs) (i := i) (by omega)
    have b1 : (i : Int) < (xs.length : Int) := by omega
    have b2 : (0 : Int) ≤ (i : Int) := by omega
    have b3 : (i : Int) < (ys.length : Int) := by omega
    have hy : ys[i]? = some x := by rw [h3 i (Nat.le_refl _), hx]
    have rx : rd_T33 xs i = x := rd_at hx
    have ry : rd_T33 ys i = x := rd_at hy
    have hv := (ves_iff x).1 (hg x (List.mem_of_getElem? hx))
    obtain ⟨a, b, c⟩ := x
    simp only at hv
    -- what flows
    obtain ⟨m, hm⟩ : ∃ m, m = (if b < c then b else c) := ⟨_, rfl⟩
    have hm1 : 0 ≤ m ∧ m ≤ 20 ∧ m ≤ c := by subst hm; split <;> omega
    have hmn : mn b c = m := by rw [hm]; unfold mn; (repeat' split) <;> omega
    obtain ⟨lv, hlv⟩ : ∃ lv, lv = c - m + f := ⟨_, rfl⟩
    have b4 : i < ys.length := by omega
    have hg4 : (ys.set i (⟨a, b, lv⟩ : S33))[i]? = some ⟨a, b, lv⟩ := List.getElem?_set_self b4
    have hr : rd_T33 (ys.set i (⟨a, b, lv⟩ : S33)) (i : Int) = ⟨a, b, lv⟩ := rd_at hg4
    simp only [spec_l9Pass.l0, impl_minute.l0]
    rw [if_pos b1, if_pos b2, if_pos b1, if_pos b2, if_pos b3]
    simp only [rx, ry, least_ok, most_ok, Option.bind_some, hmn, ← hm]
    rw [if_pos b3, Int.toNat_natCast]
    have w1 : wrap64 (f - m) = f - m := wr (by omega) (by omega)
    have w2 : wrap64 (c + (f - m)) = lv := by rw [wr (by omega) (by omega)]; omega
    have w3 : wrap64 (c - m) = c - m := wr (by omega) (by omega)
    have w4 : wrap64 (c - m + f) = lv := by rw [wr (by omega) (by omega)]; omega
    have w5 : wrap64 (lv - a) = lv - a := wr (by omega) (by omega)
    have wi : wrap64 ((i : Int) + 1) = ((i + 1 : Nat) : Int) := wrS i (by omega)
    rw [w1, w2, w3, w4, w5, wi]
    clear w1 w2 w3 w4 wi
    simp only [hr]
    rw [w5]
    clear w5
    by_cases hov : lv - a > 0
    · rw [if_pos hov, if_neg (show ¬ (lv - a < 0) by omega), if_neg (show ¬ (lv < a) by omega), List.set_set]
      have w6 : wrap64 (s + (lv - a)) = s + (lv - a) := wr (by omega) (by omega)
      rw [w6]
      clear w6
      exact ih (i + 1) _ _ _ k k' (by omega) (by rw [List.length_set]; exact h2) (fun j hj => by rw [List.getElem?_set_ne (by omega)]; exact h3 j (by omega)) (by omega) (by push_cast; omega) hm1.1 hm1.2.1 (by omega) (by omega)
    · rw [if_neg hov]
      have e1 : (if lv - a < 0 then (0 : Int) else lv - a) = 0 := by split <;> omega
      have e2 : (if lv < a then lv else a) = lv := by split <;> omega
      rw [e1, e2, Int.add_zero]
      have w7 : wrap64 s = s := wr (by omega) (by omega)
      rw [w7]
      clear w7
      exact ih (i + 1) _ _ _ k k' (by omega) (by rw [List.length_set]; exact h2) (fun j hj => by rw [List.getElem?_set_ne (by omega)]; exact h3 j (by omega)) (by omega) (by push_cast; omega) hm1.1 hm1.2.1 (by omega) (by omega)

theorem pass_ok {k : Nat} (hk : 20 ≤ k) {xs : List S33} (hx : xs.length ≤ 1048576) (hk2 : xs.length < k) : ∃ r : List S33 × Int × Int × Bool, spec_PassMinute.f k xs = some r ∧ impl_PassMinute.f k xs = some r ∧ r.1.length ≤ xs.length := by
  unfold spec_PassMinute.f impl_PassMinute.f
  rw [specGood_ok hk, implGood_ok (by omega) hk2, Option.bind_some, Option.bind_some]
  by_cases h : good xs = true
  · rw [if_pos h, if_pos h]
    obtain ⟨hl, hg⟩ := (good_iff xs).1 h
    unfold spec_l9Pass.f spec_l9Own.f impl_Vessel_45.f impl_minute.f
    simp only [Option.bind_some, List.length_nil, List.nil_append]
    rw [if_pos (by omega)]
    simp only [Option.bind_some]
    obtain ⟨r, e1, e2, e3⟩ := minute_go xs hg hl.2 xs.length 0 xs 0 0 k k (by omega) rfl (fun _ _ => rfl) (by decide) (by decide) (by decide) (by decide) hk2 hk2
    rw [show ((0 : Nat) : Int) = 0 from rfl] at e1 e2
    rw [e1, e2]
    exact ⟨(r.1, r.2.1, r.2.2, true), rfl, rfl, by simp only; omega⟩
  · rw [if_neg h, if_neg h]
    exact ⟨_, rfl, rfl, Nat.zero_le _⟩

theorem FnExactPassMinute : laws_FnExactPassMinute.Pure := by
  intro xs _ hxs
  unfold laws_FnExactPassMinute.f
  by_cases hx : xs.length ≤ 1048576
  · refine ⟨2097152, ?_⟩
    obtain ⟨n, hn⟩ := szVesselS_ex xs
    rw [hn, Option.bind_some]
    split
    · rfl
    · have hm : (xs.map convVessel).length ≤ 1048576 := by simpa using hx
      have ht : ∀ k, xs.length < k → laws_toVesselS.f k xs = some (xs.map convVessel) := fun k hk => toVesselS_ok hx hk
      rw [ht _ (by omega), Option.bind_some]
      generalize xs.map convVessel = ys at *
      have H : ∀ k, 1048577 ≤ k → ∃ r : List S33 × Int × Int × Bool, spec_PassMinute.f k ys = some r ∧ impl_PassMinute.f k ys = some r ∧ r.1.length ≤ ys.length := fun k hk => pass_ok (by omega) hm (by omega)
      obtain ⟨r, p1, p2, p3⟩ := H 2097152 (by omega)
      obtain ⟨r', q1, q2, q3⟩ := H 2097150 (by omega)
      have er : r' = r := by
        have m1 := at_rounds (impl_PassMinute.mono ys) (by omega : 2097150 ≤ 2097152) q2
        rw [p2] at m1; exact (Option.some.inj m1).symm
      subst er
      obtain ⟨r1, r2, r3, r4⟩ := r'
      simp only at p3
      rw [p1, Option.bind_some, Option.bind_some, p2, Option.bind_some]
      simp only
      rw [eqVesselS_self (by omega) (by omega), Option.bind_some, if_pos rfl]
      simp only [if_true]
      simp only [laws_FnExactPassMinute.j0, bne_self_eq_false, Bool.false_eq_true, if_false]
      rw [ht _ (by omega), Option.bind_some, eqVesselS_self (by omega) (by omega), Option.bind_some, if_pos rfl, markVesselS_ok (by omega) (by omega), Option.bind_some, if_neg (by simp only; omega),
        eqVesselS_self (by omega) (by omega), Option.bind_some, if_pos rfl]
      simp only [if_true]
      simp only [laws_FnExactPassMinute.j1, bne_self_eq_false, Bool.false_eq_true, if_false]
      rw [markVesselS_ok (by omega) (by omega), Option.bind_some]
      simp only
      rw [heldVesselS_ok (by omega) (by omega), Option.bind_some, if_neg (by omega), if_pos rfl, ht _ (by omega), Option.bind_some, q2, Option.bind_some]
      simp only
      rw [eqVesselS_self (by omega) (by omega), Option.bind_some, if_pos rfl]
      simp only [if_true]
      simp only [laws_FnExactPassMinute.j2, bne_self_eq_false, Bool.false_eq_true, if_false]
      rw [heldVesselS_ok (by omega) (by omega), Option.bind_some, if_neg (by omega), if_pos rfl]
  · refine ⟨1, ?_⟩
    rw [szVesselS_far (by omega) hxs]
    rfl
end Go.Proofs.Ytpadckbjknjkaaa.Pure
