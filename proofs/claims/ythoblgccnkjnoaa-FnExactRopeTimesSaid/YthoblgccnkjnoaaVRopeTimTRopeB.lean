/- Steps of rope plans: what a lighting and its burning lead to; all events; all plans. Conditions: those each lemma names. -/
import Derived.Test.YthoblgccnkjnoaaVRopeTimTRopeA
set_option linter.unusedVariables false
set_option linter.unusedSimpArgs false
namespace Go.Proofs.Ythoblgccnkjnoaa.Pure
open Go.RowKit Go.Proofs.Ythoblgccnkjnoaa.PT Go.Proofs.Ythoblgccnkjnoaa.PL Go.Proofs.YthoblgccnkjnoaaW.PrintWords Go.Proofs.YthoblgccnkjnoaaW.PrintLast Go.Proofs.YthoblgccnkjnoaaW.PrintMore

theorem wr2 {n : Int} (h1 : -1000000 ≤ n) (h2 : n ≤ 1000000) : wrap64 n = n := wr (by omega) (by omega)
/-- The halves of one place. -/
def hq (l e : Int) : Int := if e = 1 then 2 * l else l
theorem hq_eq {l e : Int} (g : gP l e) (h : e ≠ 0) : wrap64 (Int.tdiv (wrap64 (2 * l)) e) = hq l e := by
  obtain ⟨g1, g2, g3, g4, g5⟩ := g
  rw [wr2 (n := 2 * l) (by omega) (by omega)]
  unfold hq
  have he : e = 1 ∨ e = 2 := by omega
  rcases he with rfl | rfl
  · rw [if_pos rfl, Int.tdiv_one, wr2 (by omega) (by omega)]
  · rw [if_neg (by decide), Int.mul_tdiv_cancel_left _ (by decide), wr2 (by omega) (by omega)]
theorem hq_bd {l e : Int} (g : gP l e) (h : e ≠ 0) : 0 < hq l e ∧ hq l e ≤ 7680 := by
  obtain ⟨g1, g2, g3, g4, g5⟩ := g
  have : l ≠ 0 := fun e0 => h (g5 e0)
  unfold hq
  split <;> omega
/-- What the least of the halves is. -/
def Least (s : Int) (P : Int → Int → Prop) : Prop := 0 ≤ s ∧ s ≤ 7680 ∧ (∀ l e, P l e → e ≠ 0 → 0 < s ∧ s ≤ hq l e) ∧ (s ≠ 0 → ∃ l e, P l e ∧ e ≠ 0 ∧ s = hq l e)
theorem least_upd {s l e : Int} {P : Int → Int → Prop} (g : gP l e) (h : Least s P) : Least (upd s l e) (fun a b => P a b ∨ (a = l ∧ b = e)) := by
  obtain ⟨h1, h2, h3, h4⟩ := h
  unfold upd
  by_cases he : e = 0
  · rw [if_pos he]
    refine ⟨h1, h2, fun a b hp hb => hp.elim (fun hp => h3 a b hp hb) (fun hp => absurd (hp.2.trans he) hb), fun hs => ?_⟩
    obtain ⟨a, b, p1, p2, p3⟩ := h4 hs
    exact ⟨a, b, .inl p1, p2, p3⟩
  · rw [if_neg he, hq_eq g he]
    have hb := hq_bd g he
    by_cases hc : s = 0 ∨ hq l e < s
    · rw [if_pos hc]
      refine ⟨by omega, by omega, fun a b hp hb' => hp.elim (fun hp => ?_) (fun hp => ?_), fun _ => ⟨l, e, .inr ⟨rfl, rfl⟩, he, rfl⟩⟩
      · have := h3 a b hp hb'; omega
      · obtain ⟨rfl, rfl⟩ := hp; omega
    · rw [if_neg hc]
      refine ⟨h1, h2, fun a b hp hb' => hp.elim (fun hp => h3 a b hp hb') (fun hp => ?_), fun hs => ?_⟩
      · obtain ⟨rfl, rfl⟩ := hp; omega
      · obtain ⟨a, b, p1, p2, p3⟩ := h4 hs
        exact ⟨a, b, .inl p1, p2, p3⟩
theorem least_all {r : Rp} (g : r.good) : Least (halvesA r) (fun a b => (((False ∨ (a = r.l0 ∧ b = r.e0)) ∨ (a = r.l1 ∧ b = r.e1)) ∨ (a = r.l2 ∧ b = r.e2))) :=
  least_upd g.2.2 (least_upd g.2.1 (least_upd g.1 ⟨Int.le_refl _, by decide, fun _ _ h => h.elim, fun h => absurd rfl h⟩))
theorem told_eq {r : Rp} (g : r.good) : (toldA r = 0 ∨ (0 < toldA r ∧ halvesA r = 2 * toldA r)) ∧ toldA r ≤ 3840 ∧ 0 ≤ toldA r := by
  obtain ⟨h1, h2, _, _⟩ := least_all g
  unfold toldA
  rw [Int.tmod_eq_emod_of_nonneg h1, Int.tdiv_eq_ediv_of_nonneg h1]
  split
  · rw [wr2 (by omega) (by omega)]; omega
  · omega
/-- How many ropes are left. -/
def one (l : Int) : Nat := if 0 < l then 1 else 0
def Rp.alive (r : Rp) : Nat := one r.l0 + one r.l1 + one r.l2
theorem place_burn {l e d s : Int} (g : gP l e) (hd : 0 < d) (hd2 : d ≤ 3840) (hs : s = 2 * d) (h : e ≠ 0 → s ≤ hq l e) : gP (leftA l e d) (endA l e d) ∧ leftA l e d ≤ l ∧ one (leftA l e d) ≤ one l := by
  obtain ⟨g1, g2, g3, g4, g5⟩ := g
  have he : e = 0 ∨ e = 1 ∨ e = 2 := by omega
  have e1 : leftA l e d = l - d * e ∧ 0 ≤ l - d * e ∧ l - d * e ≤ l := by
    unfold leftA
    rcases he with rfl | rfl | rfl
    · rw [Int.mul_zero, wr2 (n := 0) (by decide) (by decide), wr2 (by omega) (by omega)]; omega
    · have := h (by decide)
      unfold hq at this
      rw [if_pos rfl] at this
      rw [Int.mul_one, wr2 (n := d) (by omega) (by omega), wr2 (by omega) (by omega)]; omega
    · have := h (by decide)
      unfold hq at this
      rw [if_neg (by decide)] at this
      rw [wr2 (n := d * 2) (by omega) (by omega), wr2 (by omega) (by omega)]; omega
  obtain ⟨e1, e2, e3⟩ := e1
  unfold endA
  rw [e1]
  refine ⟨?_, e3, ?_⟩
  · by_cases hz : l - d * e = 0
    · rw [if_pos hz]; exact ⟨e2, by omega, by omega, by omega, fun _ => rfl⟩
    · rw [if_neg hz]; exact ⟨e2, by omega, g3, g4, fun h => absurd h hz⟩
  · unfold one; split <;> split <;> omega
theorem place_out {l e d : Int} (g : gP l e) (he : e ≠ 0) (hd : 0 < d) (hd2 : d ≤ 3840) (hs : 2 * d = hq l e) : one (leftA l e d) < one l := by
  obtain ⟨g1, g2, g3, g4, g5⟩ := g
  have hl : l ≠ 0 := fun h => he (g5 h)
  have he : e = 1 ∨ e = 2 := by omega
  have e1 : leftA l e d = 0 := by
    unfold leftA
    unfold hq at hs
    rcases he with rfl | rfl
    · rw [if_pos rfl] at hs
      rw [Int.mul_one, wr2 (n := d) (by omega) (by omega), wr2 (by omega) (by omega)]; omega
    · rw [if_neg (by decide)] at hs
      rw [wr2 (n := d * 2) (by omega) (by omega), wr2 (by omega) (by omega)]; omega
  rw [e1]
  unfold one
  rw [if_neg (by decide), if_pos (by omega)]
  decide
theorem burn_good {r : Rp} (g : r.good) (hd : 0 < toldA r) : (burnA r (toldA r)).good ∧ (burnA r (toldA r)).alive < r.alive := by
  obtain ⟨h1, h2, h3, h4⟩ := least_all g
  obtain ⟨ht, ht2, ht3⟩ := told_eq g
  have hs : halvesA r = 2 * toldA r := by omega
  obtain ⟨b01, b02, b03⟩ := place_burn g.1 hd ht2 hs (fun he => (h3 _ _ (.inl (.inl (.inr ⟨rfl, rfl⟩))) he).2)
  obtain ⟨b11, b12, b13⟩ := place_burn g.2.1 hd ht2 hs (fun he => (h3 _ _ (.inl (.inr ⟨rfl, rfl⟩)) he).2)
  obtain ⟨b21, b22, b23⟩ := place_burn g.2.2 hd ht2 hs (fun he => (h3 _ _ (.inr ⟨rfl, rfl⟩) he).2)
  refine ⟨⟨b01, b11, b21⟩, ?_⟩
  obtain ⟨a, b, p1, p2, p3⟩ := h4 (by omega)
  show one (leftA r.l0 r.e0 (toldA r)) + one (leftA r.l1 r.e1 (toldA r)) + one (leftA r.l2 r.e2 (toldA r)) < one r.l0 + one r.l1 + one r.l2
  rcases p1 with ((p1 | p1) | p1) | p1
  · exact p1.elim
  · obtain ⟨rfl, rfl⟩ := p1
    have := place_out g.1 p2 hd ht2 (by omega)
    omega
  · obtain ⟨rfl, rfl⟩ := p1
    have := place_out g.2.1 p2 hd ht2 (by omega)
    omega
  · obtain ⟨rfl, rfl⟩ := p1
    have := place_out g.2.2 p2 hd ht2 (by omega)
    omega
theorem place_light {l e n : Int} (g : gP l e) (h : badP l e n = false) : gP l (wrap64 (e + n)) := by
  obtain ⟨g1, g2, g3, g4, g5⟩ := g
  unfold badP at h
  simp only [Bool.or_eq_false_iff, Bool.not_eq_false', decide_eq_true_eq, decide_eq_false_iff_not, Bool.and_eq_false_iff] at h
  obtain ⟨h1, h2, h3⟩ := h
  rw [wr2 (n := e + n) (by omega) (by omega)] at h2 ⊢
  refine ⟨g1, g2, by omega, by omega, fun hl => ?_⟩
  have := g5 hl
  have : n = 0 := by
    rcases h3 with h3 | h3
    · exact absurd hl h3
    · omega
  omega
theorem light_good {r r' : Rp} {n : S22} (g : r.good) (h : lightA r n = some r') : r'.good ∧ r'.l0 = r.l0 ∧ r'.l1 = r.l1 ∧ r'.l2 = r.l2 := by
  unfold lightA at h
  split at h
  · cases h
  · rename_i hb
    obtain rfl := Option.some.inj h
    simp only [Bool.or_eq_true, not_or, Bool.not_eq_true] at hb
    exact ⟨⟨place_light g.1 hb.1, place_light g.2.1 hb.2.1, place_light g.2.2 hb.2.2⟩, rfl, rfl, rfl⟩
/-- A lighting and the burning behind it. -/
def stepA (r : Rp) (n : S22) : Option (Rp × Int) := match lightA r n with
  | none => none
  | some x => if toldA x > 0 then some (burnA x (toldA x), toldA x) else none
theorem step_good {r r' : Rp} {n : S22} {d : Int} (g : r.good) (h : stepA r n = some (r', d)) : r'.good ∧ r'.alive < r.alive ∧ 0 < d ∧ d ≤ 3840 := by
  unfold stepA at h
  cases hl : lightA r n with
  | none => rw [hl] at h; cases h
  | some x =>
    rw [hl] at h
    obtain ⟨gx, e0, e1, e2⟩ := light_good g hl
    simp only at h
    split at h
    · rename_i hd
      obtain ⟨rfl, rfl⟩ := Prod.mk.inj (Option.some.inj h)
      obtain ⟨b1, b2⟩ := burn_good gx hd
      have : x.alive = r.alive := by unfold Rp.alive; rw [e0, e1, e2]
      exact ⟨b1, by omega, hd, (told_eq gx).2.1⟩
    · cases h
/-- All lightings. -/
def LIT : List S22 := [⟨0, 0, 0⟩, ⟨0, 0, 1⟩, ⟨0, 0, 2⟩, ⟨0, 1, 0⟩, ⟨0, 1, 1⟩, ⟨0, 1, 2⟩, ⟨0, 2, 0⟩, ⟨0, 2, 1⟩, ⟨0, 2, 2⟩, ⟨1, 0, 0⟩, ⟨1, 0, 1⟩, ⟨1, 0, 2⟩, ⟨1, 1, 0⟩, ⟨1, 1, 1⟩, ⟨1, 1, 2⟩, ⟨1, 2, 0⟩, ⟨1, 2, 1⟩, ⟨1, 2, 2⟩, ⟨2, 0, 0⟩, ⟨2, 0, 1⟩, ⟨2, 0, 2⟩, ⟨2, 1, 0⟩, ⟨2, 1, 1⟩, ⟨2, 1, 2⟩, ⟨2, 2, 0⟩, ⟨2, 2, 1⟩, ⟨2, 2, 2⟩]
theorem LIT_len : LIT.length = 27 := rfl
theorem lit_le {α : Type} {f : Nat → Option α} (h : ∀ k, LeO (f k) (f (k + 1))) {k k' : Nat} (hk : k ≤ k') : LeO (f k) (f k') := by
  obtain ⟨d, rfl⟩ := Nat.exists_eq_add_of_le hk
  clear hk
  induction d with
  | zero => exact LeO.refl _
  | succ d ih => exact LeO.trans ih (h (k + d))
theorem lightings_eq {k : Nat} (hk : 40 ≤ k) : impl_lightings.f k = some LIT := lit_le (fun j => impl_lightings.mono j) hk _ (by kernel_rfl)
theorem l5Lit_eq {k : Nat} (hk : 40 ≤ k) : spec_l5Lit.f k = some LIT := lit_le (fun j => spec_l5Lit.mono j) hk _ (by kernel_rfl)
/-- What is told, in order. -/
def evsA : Nat → Rp → Int → List S22 → List Ev
  | 0, _, _, _ => []
  | n + 1, r, t, p => (t, p) :: LIT.flatMap fun lit => match stepA r lit with
    | none => []
    | some x => evsA n x.1 (t + x.2) (p ++ [lit])
/-- All rope plans of n lightings, and their last times. -/
def plansA : Nat → Rp → List (List S22 × Int)
  | 0, _ => [([], 0)]
  | n + 1, r => LIT.flatMap fun lit => match stepA r lit with
    | none => []
    | some x => (plansA n x.1).map fun y => (lit :: y.1, x.2 + y.2)
theorem evs_len {e : Ev} : ∀ {N : Nat} {r : Rp} {t : Int} {p : List S22}, r.good → e ∈ evsA N r t p → p.length ≤ e.2.length ∧ e.2.length ≤ p.length + r.alive
  | 0, _, _, _, _, h => by cases h
  | N + 1, r, t, p, g, h => by
    rw [evsA, List.mem_cons] at h
    rcases h with rfl | h
    · exact ⟨Nat.le_refl _, Nat.le_add_right _ _⟩
    · obtain ⟨lit, _, h⟩ := List.mem_flatMap.1 h
      cases hs : stepA r lit with
      | none => rw [hs] at h; cases h
      | some x =>
        obtain ⟨r', d⟩ := x
        rw [hs] at h
        obtain ⟨g', ha, _, _⟩ := step_good g hs
        have := evs_len g' h
        rw [List.length_append, List.length_cons, List.length_nil] at this
        omega
theorem alive_le (r : Rp) : r.alive ≤ 3 := by
  unfold Rp.alive one
  split <;> split <;> split <;> omega
/-- The events of so many lightings are the plans of so many. -/
theorem evs_filter : ∀ (N : Nat) (r : Rp) (t : Int) (p : List S22) (n : Nat), r.good → r.alive < N → (evsA N r t p).filter (fun e => e.2.length == p.length + n) = (plansA n r).map fun x => (t + x.2, p ++ x.1)
  | 0, _, _, _, _, _, h => absurd h (Nat.not_lt_zero _)
  | N + 1, r, t, p, n, g, h => by
    rw [evsA, List.filter_cons, List.filter_flatMap]
    cases n with
    | zero =>
      have e1 : ((t, p).2.length == p.length + 0) = true := by simp
      rw [if_pos e1, plansA]
      have e2 : (LIT.flatMap fun lit => (match stepA r lit with
          | none => []
          | some x => evsA N x.1 (t + x.2) (p ++ [lit]) : List Ev).filter (fun e : Ev => e.2.length == p.length + 0)) = [] := by
        rw [List.flatMap_eq_nil_iff]
        intro lit _
        cases hs : stepA r lit with
        | none => rfl
        | some x =>
          obtain ⟨r', d⟩ := x
          obtain ⟨g', ha, _, _⟩ := step_good g hs
          rw [List.filter_eq_nil_iff]
          intro e he
          have := evs_len g' he
          rw [List.length_append, List.length_cons, List.length_nil] at this
          simp only [beq_iff_eq]
          omega
      rw [e2]
      simp
    | succ m =>
      have e1 : ((t, p).2.length == p.length + (m + 1)) = false := by simp
      rw [if_neg (by rw [e1]; decide), plansA, List.map_flatMap]
      congr 1
      funext lit
      cases hs : stepA r lit with
      | none => rfl
      | some x =>
        obtain ⟨r', d⟩ := x
        obtain ⟨g', ha, _, _⟩ := step_good g hs
        have ih := evs_filter N r' (t + d) (p ++ [lit]) m g' (by omega)
        rw [List.length_append, List.length_cons, List.length_nil, Nat.add_assoc, Nat.add_comm (0 + 1) m] at ih
        simp only
        rw [show m + (0 + 1) = m + 1 from rfl] at ih
        rw [ih, List.map_map]
        refine List.map_congr_left (fun y _ => ?_)
        simp [Function.comp, Int.add_assoc]
theorem plans_len : ∀ (n : Nat) (r : Rp), (plansA n r).length ≤ 27 ^ n
  | 0, _ => Nat.le_refl _
  | n + 1, r => by
    rw [plansA, List.length_flatMap]
    have : ∀ (ls : List S22), (ls.map fun lit => (match stepA r lit with
        | none => []
        | some x => (plansA n x.1).map fun y => (lit :: y.1, x.2 + y.2) : List (List S22 × Int)).length).sum ≤ ls.length * 27 ^ n := by
      intro ls
      induction ls with
      | nil => simp
      | cons lit ls ih =>
        rw [List.map_cons, List.sum_cons, List.length_cons, Nat.succ_mul]
        have h1 : (match stepA r lit with
            | none => []
            | some x => (plansA n x.1).map fun y => (lit :: y.1, x.2 + y.2) : List (List S22 × Int)).length ≤ 27 ^ n := by
          cases stepA r lit with
          | none => simp
          | some x => simp only [List.length_map]; exact plans_len n x.1
        omega
    have h2 := this LIT
    rw [LIT_len] at h2
    rw [Nat.pow_succ, Nat.mul_comm]
    exact h2
theorem plans_time {y : List S22 × Int} : ∀ {n : Nat} {r : Rp}, r.good → y ∈ plansA n r → 0 ≤ y.2 ∧ y.2 ≤ 3840 * n ∧ y.1.length = n
  | 0, _, _, h => by
    rw [plansA, List.mem_singleton] at h
    subst h
    simp
  | n + 1, r, g, h => by
    rw [plansA] at h
    obtain ⟨lit, _, h⟩ := List.mem_flatMap.1 h
    cases hs : stepA r lit with
    | none => rw [hs] at h; cases h
    | some x =>
      obtain ⟨r', d⟩ := x
      rw [hs] at h
      obtain ⟨z, hz, rfl⟩ := List.mem_map.1 h
      obtain ⟨g', ha, hd, hd2⟩ := step_good g hs
      obtain ⟨i1, i2, i3⟩ := plans_time g' hz
      simp only [List.length_cons, i3]
      push_cast
      refine ⟨by omega, by omega, trivial⟩
end Go.Proofs.Ythoblgccnkjnoaa.Pure
