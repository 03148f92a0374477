/- RunMixed: acts, what passes, the next moment. Conditions: those each lemma names. -/
import Derived.Test.YtnajkfdgkghgbaaVRunMixedActs
import Derived.Test.YtnajkfdgkghgbaaVRunMixedListsI
set_option linter.unusedVariables false
set_option linter.unusedSimpArgs false
namespace Go.Proofs.Ytnajkfdgkghgbaa.Pure
open Go.RowKit Go.Proofs.Ytnajkfdgkghgbaa.PA Go.Proofs.Ytnajkfdgkghgbaa.PL Go.Proofs.YtnajkfdgkghgbaaW.PrintWords Go.Proofs.YtnajkfdgkghgbaaW.PrintLast Go.Proofs.YtnajkfdgkghgbaaW.PrintMore
theorem specActs_step {xs : List S57} (h : good xs = true) {l : List Int} {k i : Nat} {a : Int} (ha : l[i]? = some a) (hi : i ≤ 4611686018427387904) :
    spec_l8Acts.l0 (k + 1) l xs (i : Int) = match acted xs a with | some ys => spec_l8Acts.l0 k l ys ((i + 1 : Nat) : Int) | none => some (xs, (i : Int)) := by
  have hi1 := lt_of ha
  simp only [spec_l8Acts.l0]
  rw [if_pos (by omega), if_pos (by omega), rdI ha, specActed_ok h, Option.bind_some, wrS i hi]
  cases acted xs a <;> simp
theorem acts_go {l : List Int} (hl : l.length ≤ 8) : ∀ (d k k' i : Nat) (xs : List S57), good xs = true → l.length = i + d → d < k → d < k' →
    ∃ r : List S57 × Int, r.1.length = xs.length ∧ good r.1 = true ∧ spec_l8Acts.l0 k l xs i = some r ∧ impl_doActs.l0 k' xs l l (l.length : Int) i = some (r.2, r.1) := by
  intro d
  induction d with
  | zero =>
    intro k k' i xs h h1 h2 h3
    obtain ⟨k, rfl⟩ : ∃ m, k = m + 1 := ⟨k - 1, by omega⟩
    obtain ⟨k', rfl⟩ : ∃ m, k' = m + 1 := ⟨k' - 1, by omega⟩
    refine ⟨(xs, (l.length : Int)), rfl, h, ?_, implActs_end (by omega)⟩
    simp only [spec_l8Acts.l0]
    rw [if_neg (by omega)]
  | succ d ih =>
    intro k k' i xs h h1 h2 h3
    obtain ⟨k, rfl⟩ : ∃ m, k = m + 1 := ⟨k - 1, by omega⟩
    obtain ⟨k', rfl⟩ : ∃ m, k' = m + 1 := ⟨k' - 1, by omega⟩
    obtain ⟨a, ha⟩ := at_lt (xs := l) (i := i) (by omega)
    rw [specActs_step h ha (by omega), implActs_step h ha (by omega)]
    cases e : acted xs a with
    | none => exact ⟨(xs, (i : Int)), rfl, h, rfl, rfl⟩
    | some ys =>
      obtain ⟨g1, g2⟩ := acted_good h e
      obtain ⟨r, r1, r0, r2, r3⟩ := ih k k' (i + 1) ys g1 (by omega) (by omega) (by omega)
      exact ⟨r, by rw [r1, g2], r0, r2, r3⟩
theorem toIntS_ok {k : Nat} {l : List Int} (hx : l.length ≤ 1048576) (hk : l.length < k) : laws_toIntS.f k l = some l := by
  unfold laws_toIntS.f
  rw [if_pos (by omega), if_pos (by simp; omega)]
  have h := conv_go laws_toIntS.l0 (fun x => x) ?_ ?_ l (by omega) l.length k 0 (List.replicate ((l.length : Int) : Int).toNat 0) (by omega) (by simp) hk (by intro j hj; omega)
  · simpa using h
  · intro k xs ys i x hx hi
    have h1 := lt_of hx
    simp only [laws_toIntS.l0]
    rw [if_pos (by omega), if_pos (by omega), if_pos (by omega), rdI hx]
    simp
  · intro k xs ys i hi
    simp only [laws_toIntS.l0]
    rw [if_neg (by omega)]
/-- A thing's rate. -/
def rate (x : S57) : Int := if x.f0 = 1 then mn x.f2 1 else x.f3
theorem specRate_ok (x : S57) : spec_l8Rate.f x.f0 x.f1 x.f2 x.f3 = some (rate x) := by
  unfold spec_l8Rate.f rate spec_l1Least.f mn
  split
  · split <;> split <;> first | rfl | (rw [Option.bind_some]; done) | (rw [Option.bind_some]; congr 1; done) | (rw [Option.bind_some]; congr 1; omega) | omega
  · rfl
theorem implRate_ok (x : S57) : impl_Thing_rate.f x.f0 x.f1 x.f2 x.f3 = some (rate x) := by
  unfold impl_Thing_rate.f rate
  split <;> rfl
theorem rate_bd {x : S57} (h : Thg x) : 0 ≤ rate x ∧ rate x ≤ 2 := by
  obtain ⟨h1, h2, h3, h4⟩ := h
  unfold rate mn
  split
  · split <;> omega
  · omega
/-- A thing when quarters have passed. -/
def left (d : Int) (x : S57) : Int := if x.f2 - d * rate x < 0 then 0 else x.f2 - d * rate x
def passed (d : Int) (x : S57) : S57 := if left d x = 0 then ⟨x.f0, x.f1, 0, 0⟩ else ⟨x.f0, x.f1, left d x, x.f3⟩
theorem left_w {d : Int} (h0 : 0 ≤ d) (h1 : d ≤ 240) {x : S57} (h : Thg x) : wrap64 (x.f2 - wrap64 (d * rate x)) = x.f2 - d * rate x := by
  obtain ⟨r1, r2⟩ := rate_bd h
  obtain ⟨g1, g2, _, _⟩ := h
  have m1 : 0 ≤ d * rate x := Int.mul_nonneg h0 r1
  have m2 : d * rate x ≤ 240 * 2 := Int.mul_le_mul h1 r2 r1 (by decide)
  generalize d * rate x = p at *
  rw [wr (n := p) (by omega) (by omega), wr (by omega) (by omega)]
theorem left_mx {d : Int} (x : S57) : mx (x.f2 - d * rate x) 0 = left d x := by
  unfold left mx
  (repeat' split) <;> omega
theorem left_most {d : Int} (x : S57) : spec_l1Most.f (x.f2 - d * rate x) 0 = some (left d x) := by
  unfold left spec_l1Most.f
  (repeat' split) <;> first | rfl | omega | (congr 1; omega)
theorem rd_mid (A : List S57) (x : S57) (R : List S57) : rd_T57 (A ++ x :: R) (A.length : Int) = x := by
  refine rd_at ?_
  rw [List.getElem?_append_right (Nat.le_refl _), Nat.sub_self]; rfl
theorem set_mid (A : List S57) (x y : S57) (R : List S57) : (A ++ x :: R).set A.length y = A ++ y :: R := by
  rw [List.set_append_right _ _ (Nat.le_refl _), Nat.sub_self]; rfl
theorem pass_go {d : Int} (h0 : 0 ≤ d) (h1 : d ≤ 240) : ∀ (R A A0 : List S57) (k : Nat), A0.length = A.length → A.length + R.length ≤ 4 → (∀ x ∈ R, Thg x) → R.length < k →
    spec_l8Pass.l0 k (A0 ++ R) d A (A.length : Int) = some (A ++ R.map (passed d)) ∧ impl_passQuarters.l0 k (A ++ R) d ((A.length + R.length : Nat) : Int) (A.length : Int) = some (A ++ R.map (passed d)) := by
  intro R
  induction R with
  | nil =>
    intro A A0 k ha hl hR hk
    obtain ⟨k, rfl⟩ : ∃ m, k = m + 1 := ⟨k - 1, by omega⟩
    simp only [spec_l8Pass.l0, impl_passQuarters.l0, List.append_nil, List.length_nil, Nat.add_zero, List.map_nil]
    rw [if_neg (by omega), if_neg (by omega)]
    exact ⟨rfl, rfl⟩
  | cons x R ih =>
    intro A A0 k ha hl hR hk
    obtain ⟨k, rfl⟩ : ∃ m, k = m + 1 := ⟨k - 1, by omega⟩
    have hx : Thg x := hR x (List.mem_cons_self)
    simp only [List.length_cons] at hl hk
    have b1 : (A.length : Int) < ((A0 ++ x :: R).length : Int) := by rw [List.length_append, List.length_cons]; omega
    have b2 : (0 : Int) ≤ (A.length : Int) := by omega
    have b3 : (A.length : Int) < ((A ++ x :: R).length : Int) := by rw [List.length_append, List.length_cons]; omega
    have b4 : (A.length : Int) < ((A.length + (x :: R).length : Nat) : Int) := by rw [List.length_cons]; omega
    have b5 : A.length < 4398046511104 := by omega
    have r0 : rd_T57 (A0 ++ x :: R) (A.length : Int) = x := by rw [← ha]; exact rd_mid A0 x R
    have r1 : rd_T57 (A ++ x :: R) (A.length : Int) = x := rd_mid A x R
    have q : ∀ y, rd_T57 (A ++ y :: R) (A.length : Int) = y := fun y => rd_mid A y R
    have e1 : ∀ y, A ++ y :: R = (A ++ [y]) ++ R := fun y => by simp
    have e2 : A0 ++ x :: R = (A0 ++ [x]) ++ R := by simp
    have el : ∀ y : S57, (A ++ [y]).length = A.length + 1 := fun y => by simp
    have hi := ih (A ++ [passed d x]) (A0 ++ [x]) k (by simp [ha]) (by rw [el]; omega) (fun y hy => hR y (List.mem_cons_of_mem _ hy)) (by omega)
    rw [el] at hi
    have en : A.length + 1 + R.length = A.length + (x :: R).length := by rw [List.length_cons]; omega
    rw [en, ← e2, ← e1] at hi
    have ep : A ++ [passed d x] ++ R.map (passed d) = A ++ (x :: R).map (passed d) := by simp
    rw [ep] at hi
    constructor
    · simp only [spec_l8Pass.l0]
      rw [if_pos b1, if_pos b2, r0, specRate_ok, Option.bind_some, left_w h0 h1 hx, left_most, Option.bind_some, wrS A.length (by omega), if_pos b5]
      have hp : passed d x = if left d x = 0 then ⟨x.f0, x.f1, 0, 0⟩ else ⟨x.f0, x.f1, left d x, x.f3⟩ := rfl
      by_cases hz : left d x = 0
      · rw [if_pos hz, hz]
        rw [if_pos hz] at hp
        rw [hp] at hi
        exact hi.1
      · rw [if_neg hz, if_pos b5]
        rw [if_neg hz] at hp
        rw [hp] at hi
        exact hi.1
    · simp only [impl_passQuarters.l0]
      rw [if_pos b4, if_pos b2, if_pos b3, r1, implRate_ok, Option.bind_some, left_w h0 h1 hx, left_mx, Int.toNat_natCast, set_mid]
      simp only [Option.bind_some, q, set_mid]
      rw [wrS A.length (by omega)]
      have hp : passed d x = if left d x = 0 then ⟨x.f0, x.f1, 0, 0⟩ else ⟨x.f0, x.f1, left d x, x.f3⟩ := rfl
      by_cases hz : left d x = 0
      · rw [if_pos hz, hz]
        rw [if_pos hz] at hp
        rw [hp] at hi
        exact hi.2
      · rw [if_neg hz]
        rw [if_neg hz] at hp
        rw [hp] at hi
        exact hi.2

/-- The quarters until a thing has burnt. -/
def quarters (x : S57) : Int := wrap64 (Int.tdiv (wrap64 (wrap64 (x.f2 + rate x) - 1)) (rate x))
theorem quarters_nonneg {x : S57} (h : Thg x) (hr : ¬ rate x = 0) : 0 ≤ quarters x := by
  have hb := rate_bd h
  obtain ⟨h1, h2, _, _⟩ := h
  unfold quarters
  rw [wr (n := x.f2 + rate x) (by omega) (by omega), wr (n := x.f2 + rate x - 1) (by omega) (by omega), Int.tdiv_eq_ediv_of_nonneg (by omega)]
  have e1 : 0 ≤ (x.f2 + rate x - 1) / rate x := Int.ediv_nonneg (by omega) (by omega)
  have e2 : (x.f2 + rate x - 1) / rate x ≤ x.f2 + rate x - 1 := Int.ediv_le_self _ (by omega)
  rw [wr (by omega) (by omega)]
  exact e1
theorem quarters_le {x : S57} (h : Thg x) (hr : ¬ rate x = 0) : quarters x ≤ 240 := by
  have hb := rate_bd h
  obtain ⟨h1, h2, h3, h4⟩ := h
  have hz : ¬ x.f2 = 0 := by
    intro e
    apply hr
    unfold rate mn
    rw [e]
    split
    · rfl
    · omega
  unfold quarters
  rw [wr (n := x.f2 + rate x) (by omega) (by omega), wr (n := x.f2 + rate x - 1) (by omega) (by omega), Int.tdiv_eq_ediv_of_nonneg (by omega)]
  have : rate x = 1 ∨ rate x = 2 := by omega
  rcases this with e | e
  · rw [e, wr (by omega) (by omega)]; omega
  · rw [e, wr (by omega) (by omega)]; omega
theorem next_go {xs : List S57} (hg : good xs = true) : ∀ (d k i : Nat) (m : Int), xs.length = i + d → d < k → 0 ≤ m ∧ m ≤ 240 → ∃ r : Int, (0 ≤ r ∧ r ≤ 240) ∧ spec_l8Next.l0 k xs m i = some r ∧ impl_nextQuarter.l0 k m xs (xs.length : Int) i = some r := by
  have hl := good_len hg
  intro d
  induction d with
  | zero =>
    intro k i m h1 hk hm
    obtain ⟨k, rfl⟩ : ∃ m, k = m + 1 := ⟨k - 1, by omega⟩
    simp only [spec_l8Next.l0, impl_nextQuarter.l0]
    rw [if_neg (by omega), if_neg (by omega)]
    exact ⟨_, hm, rfl, rfl⟩
  | succ d ih =>
    intro k i m h1 hk hm
    obtain ⟨k, rfl⟩ : ∃ m, k = m + 1 := ⟨k - 1, by omega⟩
    obtain ⟨x, hxx⟩ := at_lt (xs := xs) (i := i) (by omega)
    have hi : (i : Int) < (xs.length : Int) := by omega
    have h0 : (0 : Int) ≤ (i : Int) := by omega
    have hq : wrap64 (Int.tdiv (wrap64 (wrap64 (x.f2 + rate x) - 1)) (rate x)) = quarters x := rfl
    simp only [spec_l8Next.l0, impl_nextQuarter.l0, hi, h0, if_true, rd_at hxx, specRate_ok, implRate_ok, Option.bind_some, wrS i (by omega), hq]
    by_cases g1 : rate x = 0
    · simp only [g1, if_true]
      exact ih k (i + 1) _ (by omega) (by omega) hm
    · have hn := And.intro (quarters_nonneg (good_at hg hxx) g1) (quarters_le (good_at hg hxx) g1)
      simp only [g1, if_false]
      by_cases g2 : m = 0
      · simp only [g2, if_true]
        exact ih k (i + 1) _ (by omega) (by omega) hn
      · simp only [g2, if_false]
        by_cases g3 : quarters x < m
        · simp only [g3, if_true]
          exact ih k (i + 1) _ (by omega) (by omega) hn
        · simp only [g3, if_false]
          exact ih k (i + 1) _ (by omega) (by omega) hm
end Go.Proofs.Ytnajkfdgkghgbaa.Pure
