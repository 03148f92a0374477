/- Vessels that flow: what the program's rounds come to. Conditions: those each lemma names. -/
import Derived.Test.YtpadckbjknjkaaaBase
import Derived.Test.YtpadckbjknjkaaaPAx4
set_option linter.unusedVariables false
set_option linter.unusedSimpArgs false
namespace Go.Proofs.Ytpadckbjknjkaaa.Pure
open Go.RowKit Go.Proofs.Ytpadckbjknjkaaa.PA Go.Proofs.Ytpadckbjknjkaaa.PL Go.Proofs.YtpadckbjknjkaaaW.PrintWords Go.Proofs.YtpadckbjknjkaaaW.PrintLast Go.Proofs.YtpadckbjknjkaaaW.PrintMore

theorem ves_iff (x : S33) : ves x = true ↔ (1 ≤ x.f0 ∧ x.f0 ≤ 99) ∧ (0 ≤ x.f1 ∧ x.f1 ≤ 20) ∧ (0 ≤ x.f2 ∧ x.f2 ≤ x.f0) := by
  unfold ves; simp
theorem good_iff (xs : List S33) : good xs = true ↔ (1 ≤ xs.length ∧ xs.length ≤ 4) ∧ ∀ x ∈ xs, ves x = true := by
  unfold good
  simp only [Bool.and_eq_true, decide_eq_true_eq, List.all_eq_true]
  constructor
  · rintro ⟨h1, h2⟩; exact ⟨by omega, h2⟩
  · rintro ⟨h1, h2⟩; exact ⟨by omega, h2⟩
theorem least_ok (a b : Int) : spec_l1Least.f a b = some (if a < b then a else b) := by
  unfold spec_l1Least.f; split <;> rfl
theorem most_ok (a b : Int) : spec_l1Most.f a b = some (if b < a then a else b) := by
  unfold spec_l1Most.f
  by_cases h : a > b
  · rw [if_pos h, if_pos h]
  · rw [if_neg h, if_neg h]

/-- Both walks through the list, step by step: what is behind the place i is as it was. -/
theorem minute_go (xs : List S33) (hg : ∀ x ∈ xs, ves x = true) (hl : xs.length ≤ 4) : ∀ (d i : Nat) (ys : List S33) (s f : Int) (k k' : Nat), i + d = xs.length → ys.length = xs.length → (∀ j, i ≤ j → ys[j]? = xs[j]?) → (∀ y ∈ ys, ves y = true) → 0 ≤ s → s ≤ 200 * i → 0 ≤ f → f ≤ 20 → d < k → d < k' →
    ∃ r, spec_l9Pass.l0 k xs ys s f i = some r ∧ impl_minute.l0 k' ys s f (xs.length : Int) i = some (r.2.1, r.2.2, r.1) ∧ r.1.length = xs.length ∧ ∀ y ∈ r.1, ves y = true := by
  intro d
  induction d with
  | zero =>
    intro i ys s f k k' h1 h2 h3 hv0 h4 h5 h6 h7 h8 h9
    obtain ⟨k, rfl⟩ : ∃ j, k = j + 1 := ⟨k - 1, by omega⟩
    obtain ⟨k', rfl⟩ : ∃ j, k' = j + 1 := ⟨k' - 1, by omega⟩
    refine ⟨(ys, s, f), ?_, ?_, h2, hv0⟩
    · simp only [spec_l9Pass.l0]; rw [if_neg (by omega)]
    · simp only [impl_minute.l0]; rw [if_neg (by omega)]
  | succ d ih =>
    intro i ys s f k k' h1 h2 h3 hv0 h4 h5 h6 h7 h8 h9
    obtain ⟨k, rfl⟩ : ∃ j, k = j + 1 := ⟨k - 1, by omega⟩
    obtain ⟨k', rfl⟩ : ∃ j, k' = j + 1 := ⟨k' - 1, by omega⟩
    obtain ⟨x, hx⟩ := at_lt (xs := xs) (i := i) (by omega)
    have b1 : (i : Int) < (xs.length : Int) := by omega
    have b2 : (0 : Int) ≤ (i : Int) := by omega
    have b3 : (i : Int) < (ys.length : Int) := by omega
    have hy : ys[i]? = some x := by rw [h3 i (Nat.le_refl _), hx]
    have rx : rd_T33 xs i = x := rd_at hx
    have ry : rd_T33 ys i = x := rd_at hy
    have hv := (ves_iff x).1 (hg x (List.mem_of_getElem? hx))
    obtain ⟨a, b, c⟩ := x
    simp only at hv
    have hnew : ∀ z : Int, 0 ≤ z → z ≤ a → ∀ y ∈ ys.set i (⟨a, b, z⟩ : S33), ves y = true := by
      intro z z0 z1 y hy
      rcases List.mem_or_eq_of_mem_set hy with h | h
      · exact hv0 y h
      · rw [h]; exact (ves_iff _).2 ⟨hv.1, hv.2.1, z0, z1⟩
    -- what flows
    obtain ⟨m, hm⟩ : ∃ m, m = (if b < c then b else c) := ⟨_, rfl⟩
    have hm1 : 0 ≤ m ∧ m ≤ 20 ∧ m ≤ c := by subst hm; split <;> omega
    have hmn : mn b c = m := by rw [hm]; unfold mn; (repeat' split) <;> omega
    obtain ⟨lv, hlv⟩ : ∃ lv, lv = c - m + f := ⟨_, rfl⟩
    have b4 : i < ys.length := by omega
    have hg4 : (ys.set i (⟨a, b, lv⟩ : S33))[i]? = some ⟨a, b, lv⟩ := List.getElem?_set_self b4
    have hr : rd_T33 (ys.set i (⟨a, b, lv⟩ : S33)) (i : Int) = ⟨a, b, lv⟩ := rd_at hg4
    simp only [spec_l9Pass.l0, impl_minute.l0]
    rw [if_pos b1, if_pos b2, if_pos b1, if_pos b2, if_pos b3]
    simp only [rx, ry, least_ok, most_ok, Option.bind_some, hmn, ← hm]
    rw [if_pos b3, Int.toNat_natCast]
    have w1 : wrap64 (f - m) = f - m := wr (by omega) (by omega)
    have w2 : wrap64 (c + (f - m)) = lv := by rw [wr (by omega) (by omega)]; omega
    have w3 : wrap64 (c - m) = c - m := wr (by omega) (by omega)
    have w4 : wrap64 (c - m + f) = lv := by rw [wr (by omega) (by omega)]; omega
    have w5 : wrap64 (lv - a) = lv - a := wr (by omega) (by omega)
    have wi : wrap64 ((i : Int) + 1) = ((i + 1 : Nat) : Int) := wrS i (by omega)
    rw [w1, w2, w3, w4, w5, wi]
    clear w1 w2 w3 w4 wi
    simp only [hr]
    rw [w5]
    clear w5
    by_cases hov : lv - a > 0
    · rw [if_pos hov, if_neg (show ¬ (lv - a < 0) by omega), if_neg (show ¬ (lv < a) by omega), List.set_set]
      have w6 : wrap64 (s + (lv - a)) = s + (lv - a) := wr (by omega) (by omega)
      rw [w6]
      clear w6
      exact ih (i + 1) _ _ _ k k' (by omega) (by rw [List.length_set]; exact h2) (fun j hj => by rw [List.getElem?_set_ne (by omega)]; exact h3 j (by omega)) (hnew a (by omega) (Int.le_refl _)) (by omega) (by push_cast; omega) hm1.1 hm1.2.1 (by omega) (by omega)
    · rw [if_neg hov]
      have e1 : (if lv - a < 0 then (0 : Int) else lv - a) = 0 := by split <;> omega
      have e2 : (if lv < a then lv else a) = lv := by split <;> omega
      rw [e1, e2, Int.add_zero]
      have w7 : wrap64 s = s := wr (by omega) (by omega)
      rw [w7]
      clear w7
      exact ih (i + 1) _ _ _ k k' (by omega) (by rw [List.length_set]; exact h2) (fun j hj => by rw [List.getElem?_set_ne (by omega)]; exact h3 j (by omega)) (hnew lv (by omega) (by omega)) (by omega) (by push_cast; omega) hm1.1 hm1.2.1 (by omega) (by omega)

/-- What is in all vessels. -/
def water (s : Int) (l : List S33) : Int := l.foldl (fun s x => wrap64 (s + x.f2)) s
theorem level_go (ys : List S33) (hl : ys.length ≤ 1048576) : ∀ (d k i : Nat) (s : Int), i + d = ys.length → d < k → levelL k s ys i = some (water s (ys.drop i)) ∧ spec_l9Water.l0 k ys s i = some (water s (ys.drop i)) := by
  intro d
  induction d with
  | zero =>
    intro k i s h1 h2
    obtain ⟨k, rfl⟩ : ∃ j, k = j + 1 := ⟨k - 1, by omega⟩
    rw [levelL, spec_l9Water.l0, if_neg (by omega), if_neg (by omega), List.drop_of_length_le (by omega)]
    exact ⟨rfl, rfl⟩
  | succ d ih =>
    intro k i s h1 h2
    obtain ⟨k, rfl⟩ : ∃ j, k = j + 1 := ⟨k - 1, by omega⟩
    obtain ⟨x, hx⟩ := at_lt (xs := ys) (i := i) (by omega)
    have hd : ys.drop i = x :: ys.drop (i + 1) := by
      rw [List.drop_eq_getElem_cons (by omega)]
      congr 1
      have := List.getElem?_eq_getElem (l := ys) (i := i) (by omega)
      rw [hx] at this
      exact (Option.some.inj this).symm
    have h := ih k (i + 1) (wrap64 (s + x.f2)) (by omega) (by omega)
    rw [levelL, spec_l9Water.l0, if_pos (by omega), if_pos (by omega), if_pos (by omega), if_pos (by omega), rd_at hx, wrS i (by omega), hd]
    exact h
theorem level_ok {k : Nat} {ys : List S33} (hl : ys.length ≤ 1048576) (hk : ys.length < k) : levelL k 0 ys 0 = some (water 0 ys) ∧ spec_l9Water.f k ys = some (water 0 ys) := by
  have h := level_go ys hl ys.length k 0 0 (by omega) hk
  rw [show ((0 : Nat) : Int) = 0 from rfl, List.drop_zero] at h
  exact h
theorem minute_ok {k k' : Nat} {ys : List S33} (hg : ∀ y ∈ ys, ves y = true) (hl : ys.length ≤ 4) (hk : 4 < k) (hk' : 4 < k') : ∃ r : List S33 × Int × Int, spec_l9Pass.f k ys = some r ∧ impl_minute.f k' ys = some (r.2.1, r.2.2, r.1) ∧ r.1.length = ys.length ∧ ∀ y ∈ r.1, ves y = true := by
  obtain ⟨r, e1, e2, e3, e4⟩ := minute_go ys hg hl ys.length 0 ys 0 0 k k' (by omega) rfl (fun _ _ => rfl) hg (by decide) (by decide) (by decide) (by decide) (by omega) (by omega)
  rw [show ((0 : Nat) : Int) = 0 from rfl] at e1 e2
  unfold spec_l9Pass.f spec_l9Own.f impl_minute.f
  simp only [Option.bind_some, List.length_nil, List.nil_append]
  rw [if_pos (by omega)]
  simp only [Option.bind_some]
  exact ⟨r, e1, e2, e3, e4⟩
theorem flow_step {K : Nat} (isB : Int → Bool) (k : Nat) {ys : List S33} (n : Int) (hl : ys.length ≤ 4) (hK : 4 < K) : flowL K isB (k + 1) ys n = if isB (water 0 ys) = true then some n else if n < 200 then (impl_minute.f K ys).bind fun m => flowL K isB k m.2.2 (wrap64 (n + 1)) else some (-1) := by
  rw [flowL, (level_ok (by omega) (by omega)).1, Option.bind_some]
theorem clone_ok {l : List S33} (hl : l.length ≤ 1048576) : impl_Vessel_45.f l = some l := by
  unfold impl_Vessel_45.f
  simp only [Option.bind_some, List.length_nil, List.nil_append]
  rw [if_pos (by omega)]
end Go.Proofs.Ytpadckbjknjkaaa.Pure
