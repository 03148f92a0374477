/- What FnThings' functions answer, told. Conditions: those each lemma names. -/
import Derived.Test.YtikpbopjhkohmaaVThingsQDoAct
import Derived.Test.YtikpbopjhkohmaaVThingsQPoss
import Derived.Test.YtikpbopjhkohmaaVThingsQDoActs
import Derived.Test.YtikpbopjhkohmaaVThingsQPass
import Derived.Test.YtikpbopjhkohmaaVThingsQNext
import Derived.Test.YtikpbopjhkohmaaVThingsQLeft
import Derived.Test.YtikpbopjhkohmaaVThingsWalkA
set_option linter.unusedVariables false
set_option linter.unusedSimpArgs false
namespace Go.Proofs.Ytikpbopjhkohmaa.Pure
open Go.RowKit Go.Proofs.Ytikpbopjhkohmaa.PT Go.Proofs.Ytikpbopjhkohmaa.PL Go.Proofs.YtikpbopjhkohmaaW.PrintWords Go.Proofs.YtikpbopjhkohmaaW.PrintLast Go.Proofs.YtikpbopjhkohmaaW.PrintMore
theorem can_iff (x : S45) : can x = true ↔ Can x := by unfold can Can; simp
theorem poss_tell {xs : List S45} (hg : good xs = true) : ∀ (d k i : Nat) (m : List Int), xs.length = i + d → d < k → m.length ≤ i → ∃ r : List Int, r.length ≤ 4 ∧ spec_PossibleActs.l0 k xs m i = some (r, true) ∧ impl_PossibleActs.l0 k xs m (xs.length : Int) i = some (r, true) ∧ ∀ a, a ∈ r ↔ a ∈ m ∨ ∃ j : Nat, i ≤ j ∧ j < xs.length ∧ a = (j : Int) ∧ Can (rd_T45 xs j) := by
  have hl := good_len hg
  intro d
  induction d with
  | zero =>
    intro k i m h1 hk hm
    obtain ⟨k, rfl⟩ : ∃ m, k = m + 1 := ⟨k - 1, by omega⟩
    simp only [spec_PossibleActs.l0, impl_PossibleActs.l0]
    rw [if_neg (by omega), if_neg (by omega)]
    refine ⟨m, by omega, rfl, rfl, fun a => ⟨Or.inl, ?_⟩⟩
    rintro (h | ⟨j, j1, j2, _⟩)
    · exact h
    · omega
  | succ d ih =>
    intro k i m h1 hk hm
    obtain ⟨k, rfl⟩ : ∃ m, k = m + 1 := ⟨k - 1, by omega⟩
    obtain ⟨x, hxx⟩ := at_lt (xs := xs) (i := i) (by omega)
    have hi : (i : Int) < (xs.length : Int) := by omega
    have h0 : (0 : Int) ≤ (i : Int) := by omega
    have hL : m.length < 17592186044416 := by omega
    obtain ⟨a, b, c, e, hact⟩ := actF_can x
    simp only [spec_PossibleActs.l0, impl_PossibleActs.l0, hi, h0, if_true, rd_at hxx, specCan2_ok (good_at hg hxx), hact, Option.bind_some, wrS i (by omega)]
    by_cases g1 : can x = true
    · simp only [g1, if_true, hL]
      obtain ⟨r, r1, r2, r3, r4⟩ := ih k (i + 1) (m ++ [(i : Int)]) (by omega) (by omega) (by simp; omega)
      refine ⟨r, r1, r2, r3, fun z => ?_⟩
      rw [r4 z, List.mem_append, List.mem_singleton]
      constructor
      · rintro ((h | h) | ⟨j, j1, j2, j3, j4⟩)
        · exact Or.inl h
        · exact Or.inr ⟨i, Nat.le_refl _, by omega, h, by rw [rd_at hxx]; exact (can_iff x).1 g1⟩
        · exact Or.inr ⟨j, by omega, j2, j3, j4⟩
      · rintro (h | ⟨j, j1, j2, j3, j4⟩)
        · exact Or.inl (Or.inl h)
        · by_cases e : j = i
          · subst e; exact Or.inl (Or.inr j3)
          · exact Or.inr ⟨j, by omega, j2, j3, j4⟩
    · simp only [g1, if_false, Bool.false_eq_true]
      obtain ⟨r, r1, r2, r3, r4⟩ := ih k (i + 1) m (by omega) (by omega) (by omega)
      refine ⟨r, r1, r2, r3, fun z => ?_⟩
      rw [r4 z]
      constructor
      · rintro (h | ⟨j, j1, j2, j3, j4⟩)
        · exact Or.inl h
        · exact Or.inr ⟨j, by omega, j2, j3, j4⟩
      · rintro (h | ⟨j, j1, j2, j3, j4⟩)
        · exact Or.inl h
        · by_cases e : j = i
          · subst e
            rw [rd_at hxx] at j4
            exact absurd ((can_iff x).2 j4) g1
          · exact Or.inr ⟨j, by omega, j2, j3, j4⟩
/-- The possible acts, told: an act is in the list if it is done. -/
theorem possible_tell {k : Nat} (hk : 30 ≤ k) {xs : List S45} (hx : xs.length ≤ 1048576) (hk2 : xs.length < k) : ∃ r : List Int, r.length ≤ 4 ∧ spec_PossibleActs.f k xs = some (r, good xs) ∧ impl_PossibleActs.f k xs = some (r, good xs) ∧ (good xs = true → ∀ a, r.contains a = (doneAct xs a).2) ∧ (good xs = false → ∀ a, (doneAct xs a).2 = false) := by
  unfold spec_PossibleActs.f impl_PossibleActs.f
  rw [specGood_ok (by omega), implGood_ok (by omega) hk2]
  simp only [Option.bind_some]
  by_cases h : good xs = true
  · simp only [h, if_true]
    obtain ⟨r, h1, h2, h3, h4⟩ := poss_tell h xs.length k 0 [] (by omega) hk2 (Nat.le_refl _)
    rw [show ((0 : Nat) : Int) = 0 from rfl] at h2 h3
    refine ⟨r, h1, h2, h3, fun _ a => ?_, fun e => by cases e⟩
    have hd : (doneAct xs a).2 = decide (0 ≤ a ∧ a < (xs.length : Int) ∧ Can (rd_T45 xs a)) := by
      unfold doneAct acted
      rw [if_pos h]
      by_cases hc : 0 ≤ a ∧ a < (xs.length : Int) ∧ Can (rd_T45 xs a)
      · rw [if_pos hc, decide_eq_true hc]
      · rw [if_neg hc, decide_eq_false hc]
    rw [hd, Bool.eq_iff_iff, List.contains_iff_mem, decide_eq_true_eq, h4 a]
    constructor
    · rintro (h | ⟨j, _, j2, rfl, j4⟩)
      · cases h
      · exact ⟨by omega, by omega, j4⟩
    · rintro ⟨a0, a1, a2⟩
      obtain ⟨n, rfl⟩ := Int.eq_ofNat_of_zero_le a0
      exact Or.inr ⟨n, by omega, by omega, rfl, a2⟩
  · have hf : good xs = false := by simpa using h
    have hd : ∀ a, (doneAct xs a).2 = false := fun a => by
      unfold doneAct
      rw [if_neg h]
    rw [hf, if_neg (by simp)]
    exact ⟨[], Nat.zero_le _, rfl, rfl, fun e => absurd e (by simp), fun _ => hd⟩
/-- The acts, told one after another. -/
theorem acts_tell {l : List Int} (hl : l.length ≤ 8) : ∀ (d k k' i : Nat) (xs : List S45), good xs = true → l.length = i + d → d < k → d < k' →
    ∃ (r : List S45) (n : Nat) (ns : Nat → List S45), spec_l8Acts.l0 k l xs i = some (r, (n : Int)) ∧ impl_doActs.l0 k' xs l l (l.length : Int) i = some ((n : Int), r) ∧ i ≤ n ∧ n ≤ l.length ∧ ns i = xs ∧ ns n = r ∧ r.length = xs.length ∧ ∀ j, i ≤ j → j < n → doneAct (ns j) (rd l j) = (ns (j + 1), true) ∧ (ns j).length = xs.length := by
  intro d
  induction d with
  | zero =>
    intro k k' i xs h h1 h2 h3
    obtain ⟨k, rfl⟩ : ∃ m, k = m + 1 := ⟨k - 1, by omega⟩
    obtain ⟨k', rfl⟩ : ∃ m, k' = m + 1 := ⟨k' - 1, by omega⟩
    refine ⟨xs, i, fun _ => xs, ?_, ?_, Nat.le_refl _, by omega, rfl, rfl, rfl, fun j j1 j2 => by omega⟩
    · simp only [spec_l8Acts.l0]
      rw [if_neg (by omega), show l.length = i by omega]
    · rw [implActs_end (by omega), show l.length = i by omega]
  | succ d ih =>
    intro k k' i xs h h1 h2 h3
    obtain ⟨k, rfl⟩ : ∃ m, k = m + 1 := ⟨k - 1, by omega⟩
    obtain ⟨k', rfl⟩ : ∃ m, k' = m + 1 := ⟨k' - 1, by omega⟩
    obtain ⟨a, ha⟩ := at_lt (xs := l) (i := i) (by omega)
    rw [specActs_step h ha (by omega), implActs_step h ha (by omega)]
    cases e : acted xs a with
    | none => exact ⟨xs, i, fun _ => xs, rfl, rfl, Nat.le_refl _, by omega, rfl, rfl, rfl, fun j j1 j2 => by omega⟩
    | some ys =>
      obtain ⟨g1, g2⟩ := acted_good h e
      obtain ⟨r, n, ns, r1, r2, n1, n2, s1, s2, s3, s4⟩ := ih k k' (i + 1) ys g1 (by omega) (by omega) (by omega)
      refine ⟨r, n, fun j => if j = i then xs else ns j, r1, r2, by omega, n2, if_pos rfl, ?_, by omega, fun j j1 j2 => ?_⟩
      · show (if n = i then xs else ns n) = r
        rw [if_neg (by omega), s2]
      · show doneAct (if j = i then xs else ns j) _ = ((if j + 1 = i then xs else ns (j + 1)), true) ∧ (if j = i then xs else ns j).length = _
        rw [if_neg (show ¬ j + 1 = i by omega)]
        by_cases hj : j = i
        · subst hj
          rw [if_pos rfl, s1, rdI ha]
          refine ⟨?_, rfl⟩
          unfold doneAct
          rw [if_pos h, e]
        · rw [if_neg hj]
          obtain ⟨t1, t2⟩ := s4 j (by omega) j2
          exact ⟨t1, by omega⟩
theorem doActs_tell {k : Nat} (hk : 30 ≤ k) {xs : List S45} (hx : xs.length ≤ 1048576) (hk2 : xs.length + 1 < k) (l : List Int) : ∃ (r : List S45) (n : Nat) (b : Bool) (ns : Nat → List S45), spec_DoActs.f k xs l = some (r, (n : Int), b) ∧ impl_DoActs.f k xs l = some (r, (n : Int), b) ∧ r.length ≤ xs.length ∧ ns 0 = xs ∧ (b = true → n ≤ l.length ∧ ns n = r ∧ ∀ j, j < n → doneAct (ns j) (rd l j) = (ns (j + 1), true) ∧ (ns j).length = xs.length) := by
  unfold spec_DoActs.f impl_DoActs.f
  rw [specGood_ok (by omega), implGood_ok (by omega) (by omega), Option.bind_some, Option.bind_some]
  obtain ⟨k, rfl⟩ : ∃ m, k = m + 1 := ⟨k - 1, by omega⟩
  by_cases h : good xs = true
  · rw [if_pos h, if_pos h]
    by_cases h8 : (l.length : Int) > 8
    · rw [if_pos h8, decide_eq_true h8]
      simp only [impl_DoActs.j0, if_true]
      exact ⟨[], 0, false, fun _ => xs, rfl, rfl, Nat.zero_le _, rfl, fun e => by cases e⟩
    · rw [if_neg h8, decide_eq_false h8]
      simp only [impl_DoActs.j0, Bool.false_eq_true, if_false]
      unfold impl_Thing_33.f spec_l8Acts.f impl_doActs.f
      simp only [Option.bind_some, List.length_nil, List.nil_append]
      rw [if_pos (by omega), if_pos (by omega)]
      simp only [Option.bind_some]
      obtain ⟨r, n, ns, r2, r3, n1, n2, s1, s2, s3, s4⟩ := acts_tell (l := l) (by omega) l.length (k + 1) k 0 xs h (by omega) (by omega) (by omega)
      rw [show ((0 : Nat) : Int) = 0 from rfl] at r2 r3
      rw [r2, r3]
      exact ⟨r, n, true, ns, rfl, rfl, by omega, s1, fun _ => ⟨n2, s2, fun j hj => s4 j (Nat.zero_le _) hj⟩⟩
  · rw [if_neg h, if_neg h]
    simp only [impl_DoActs.j0, if_true]
    exact ⟨[], 0, false, fun _ => xs, rfl, rfl, Nat.zero_le _, rfl, fun e => by cases e⟩
theorem leftMinutes_tell {ys : List S45} (hm : ys.length ≤ 1048576) {k : Nat} (hk : BIG + ys.length + 1000000 < k) : ∃ r : List S51, (r = [] ∨ r = ys.map leftM ∧ good ys = true) ∧ spec_LeftMinutes.f k ys = some (r, good ys) ∧ impl_LeftMinutes.f k ys = some (r, good ys) := by
  have hb : 20 ≤ BIG := by decide
  unfold spec_LeftMinutes.f impl_LeftMinutes.f
  rw [specGood_ok (by omega), implGood_ok (by omega) (by omega)]
  by_cases hg : good ys = true
  · have := left_go hg ys.length k 0 [] (by omega) (by omega) rfl
    simp only [Option.bind_some, hg, if_true]
    exact ⟨ys.map leftM, Or.inr ⟨rfl, trivial⟩, this⟩
  · have hf : good ys = false := by simpa using hg
    rw [hf]
    exact ⟨[], Or.inl rfl, rfl, rfl⟩
theorem cut4 (a : Int) : (cut a 4).1 * 4 = a * (cut a 4).2 ∧ 1 ≤ (cut a 4).2 ∧ (cut a 4).2 ≤ 4 := by
  unfold cut
  dsimp only
  have h1 : ((Int.gcd a 4 : Nat) : Int) ∣ a := Int.gcd_dvd_left ..
  have h2 : ((Int.gcd a 4 : Nat) : Int) ∣ 4 := Int.gcd_dvd_right ..
  have hp : 0 < ((Int.gcd a 4 : Nat) : Int) := gcd_pos (by omega)
  generalize ((Int.gcd a 4 : Nat) : Int) = g at h1 h2 hp
  obtain ⟨u, rfl⟩ := h1
  obtain ⟨v, hv⟩ := h2
  have hv0 : 0 < v := by
    rcases Int.lt_or_le 0 v with h | h
    · exact h
    · have := Int.mul_nonpos_of_nonneg_of_nonpos (Int.le_of_lt hp) h
      omega
  have hv4 : v ≤ 4 := by
    have : v * 1 ≤ v * g := Int.mul_le_mul_of_nonneg_left (by omega) (by omega)
    rw [Int.mul_comm v g, ← hv] at this
    omega
  have hq : (4 : Int) / g = v := by
    rw [hv]
    exact Int.mul_ediv_cancel_left _ (by omega)
  rw [hq, Int.mul_ediv_cancel_left _ (by omega)]
  refine ⟨?_, by omega, hv4⟩
  rw [Int.mul_comm g u, Int.mul_assoc, ← hv]
theorem rate_eq (x : S45) : rateN x = rate x := rfl
theorem runs_rate {x : S45} (h : Thg x) : runs x = true ↔ ¬ rate x = 0 := by
  obtain ⟨h1, h2, h3, h4⟩ := h
  unfold runs rate mn
  rw [Bool.or_eq_true, Bool.and_eq_true, decide_eq_true_eq, decide_eq_true_eq, decide_eq_true_eq]
  by_cases h0 : x.f0 = 1
  · rw [if_pos h0]
    split <;> omega
  · rw [if_neg h0]
    omega
/-- The quarters until a thing that runs has run out. -/
theorem quarters_tell {x : S45} (h : Thg x) (hr : ¬ rate x = 0) : 1 ≤ quarters x ∧ quarters x ≤ 240 ∧ x.f2 ≤ quarters x * rate x ∧ (quarters x - 1) * rate x < x.f2 := by
  have hb := rate_bd h
  have hx := (runs_rate h).2 hr
  obtain ⟨h1, h2, h3, h4⟩ := h
  have hp : 0 < x.f2 := by
    unfold runs at hx
    rw [Bool.or_eq_true, Bool.and_eq_true, decide_eq_true_eq, decide_eq_true_eq, decide_eq_true_eq] at hx
    omega
  unfold quarters
  rw [rate_eq]
  rcases (show rate x = 1 ∨ rate x = 2 by omega) with e | e
  · rw [e, wr (n := x.f2 + 1) (by omega) (by omega), wr (n := x.f2 + 1 - 1) (by omega) (by omega), show x.f2 + 1 - 1 = x.f2 by omega, Int.tdiv_one, wr (by omega) (by omega)]
    omega
  · rw [e, wr (n := x.f2 + 2) (by omega) (by omega), wr (n := x.f2 + 2 - 1) (by omega) (by omega), Int.tdiv_eq_ediv_of_nonneg (by omega), wr (by omega) (by omega)]
    omega
/-- The least of the quarters so far (0: nothing runs). -/
def Least (xs : List S45) (i : Nat) (m : Int) : Prop :=
  (m = 0 ∧ ∀ (j : Nat) x, j < i → xs[j]? = some x → rate x = 0) ∨
  (1 ≤ m ∧ m ≤ 240 ∧ (∃ (j : Nat) (x : S45), j < i ∧ xs[j]? = some x ∧ ¬ rate x = 0 ∧ quarters x = m) ∧ ∀ (j : Nat) x, j < i → xs[j]? = some x → ¬ rate x = 0 → m ≤ quarters x)
theorem next_least {xs : List S45} (hg : good xs = true) : ∀ (d k i : Nat) (m : Int), xs.length = i + d → d < k → Least xs i m → ∃ r, spec_l8Next.l0 k xs m i = some r ∧ Least xs xs.length r := by
  have hl := good_len hg
  intro d
  induction d with
  | zero =>
    intro k i m h1 hk hm
    obtain ⟨k, rfl⟩ : ∃ m, k = m + 1 := ⟨k - 1, by omega⟩
    simp only [spec_l8Next.l0]
    rw [if_neg (by omega)]
    rw [show xs.length = i by omega]
    exact ⟨m, rfl, hm⟩
  | succ d ih =>
    intro k i m h1 hk hm
    obtain ⟨k, rfl⟩ : ∃ m, k = m + 1 := ⟨k - 1, by omega⟩
    obtain ⟨x, hxx⟩ := at_lt (xs := xs) (i := i) (by omega)
    have hT := good_at hg hxx
    have hq : wrap64 (Int.tdiv (wrap64 (wrap64 (x.f2 + rate x) - 1)) (rate x)) = quarters x := rfl
    have hsame : ∀ {P : Nat → S45 → Prop}, (∀ (j : Nat) y, j < i → xs[j]? = some y → P j y) → P i x → ∀ (j : Nat) y, j < i + 1 → xs[j]? = some y → P j y := by
      intro P h hx j y hj hy
      by_cases e : j = i
      · subst e
        rw [hxx] at hy
        cases hy
        exact hx
      · exact h j y (by omega) hy
    simp only [spec_l8Next.l0]
    rw [if_pos (by omega), if_pos (by omega), rd_at hxx, specRate_ok, Option.bind_some, wrS i (by omega), hq]
    by_cases hr : rate x = 0
    · rw [if_pos hr]
      refine ih k (i + 1) m (by omega) (by omega) ?_
      rcases hm with ⟨m0, m1⟩ | ⟨m0, m1, ⟨j, y, j1, j2, j3, j4⟩, m3⟩
      · exact Or.inl ⟨m0, hsame (P := fun _ y => rate y = 0) m1 hr⟩
      · exact Or.inr ⟨m0, m1, ⟨j, y, by omega, j2, j3, j4⟩, hsame (P := fun _ y => ¬ rate y = 0 → m ≤ quarters y) m3 (fun h => absurd hr h)⟩
    · rw [if_neg hr]
      obtain ⟨q0, q1, _, _⟩ := quarters_tell hT hr
      by_cases hz : m = 0
      · rw [if_pos hz]
        refine ih k (i + 1) _ (by omega) (by omega) (Or.inr ⟨q0, q1, ⟨i, x, by omega, hxx, hr, rfl⟩, ?_⟩)
        rcases hm with ⟨m0, m1⟩ | ⟨m0, _⟩
        · exact hsame (P := fun _ y => ¬ rate y = 0 → quarters x ≤ quarters y) (fun j y hj hy h => absurd (m1 j y hj hy) h) (fun _ => Int.le_refl _)
        · omega
      · rw [if_neg hz]
        rcases hm with ⟨m0, m1⟩ | ⟨m0, m1, ⟨j, y, j1, j2, j3, j4⟩, m3⟩
        · exact absurd m0 hz
        · by_cases hlt : quarters x < m
          · rw [if_pos hlt]
            refine ih k (i + 1) _ (by omega) (by omega) (Or.inr ⟨q0, q1, ⟨i, x, by omega, hxx, hr, rfl⟩, ?_⟩)
            exact hsame (P := fun _ y => ¬ rate y = 0 → quarters x ≤ quarters y) (fun j y hj hy h => by have := m3 j y hj hy h; omega) (fun _ => Int.le_refl _)
          · rw [if_neg hlt]
            refine ih k (i + 1) _ (by omega) (by omega) (Or.inr ⟨m0, m1, ⟨j, y, by omega, j2, j3, j4⟩, ?_⟩)
            exact hsame (P := fun _ y => ¬ rate y = 0 → m ≤ quarters y) m3 (fun _ => by omega)
theorem next_tell {k : Nat} (hk : 2000000 ≤ k) {ys : List S45} (hm : ys.length ≤ 1048576) : ∃ (n : Int) (b : Bool), spec_NextQuarter.f k ys = some (n, b) ∧ impl_NextQuarter.f k ys = some (n, b) ∧ (b = true → good ys = true ∧ 1 ≤ n ∧ n ≤ 240 ∧ (∃ (j : Nat) (x : S45), ys[j]? = some x ∧ ¬ rate x = 0 ∧ quarters x = n) ∧ ∀ (j : Nat) x, ys[j]? = some x → ¬ rate x = 0 → n ≤ quarters x) := by
  obtain ⟨r, e1, e2⟩ := nextQuarter_ok hk hm
  refine ⟨r.1, r.2, e1, e2, fun hb => ?_⟩
  unfold spec_NextQuarter.f at e1
  rw [specGood_ok (by omega)] at e1
  by_cases hg : good ys = true
  · rw [hg, Option.bind_some, if_pos rfl] at e1
    unfold spec_l8Next.f at e1
    obtain ⟨n, en, hn⟩ := next_least hg ys.length k 0 0 (by omega) (by have := good_len hg; omega) (Or.inl ⟨rfl, fun j x hj => by omega⟩)
    rw [show ((0 : Nat) : Int) = 0 from rfl] at en
    rw [en, Option.bind_some, Option.bind_some] at e1
    by_cases hz : n = 0
    · rw [if_pos hz] at e1
      cases e1
      cases hb
    · rw [if_neg hz] at e1
      cases e1
      rcases hn with ⟨m0, _⟩ | ⟨m0, m1, ⟨j, x, _, j2, j3, j4⟩, m3⟩
      · exact absurd m0 hz
      · exact ⟨hg, m0, m1, ⟨j, x, j2, j3, j4⟩, fun j x hx hr => m3 j x (lt_of hx) hx hr⟩
  · have hf : good ys = false := by simpa using hg
    rw [hf, Option.bind_some, if_neg (by simp)] at e1
    cases e1
    cases hb
end Go.Proofs.Ytikpbopjhkohmaa.Pure
