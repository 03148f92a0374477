/- PassQuarters: the program's answer is the reference's, and it holds nothing of its argument. Conditions: none. -/
import Derived.Test.YtikpbopjhkohmaaVThingsBase
import Derived.Test.YtikpbopjhkohmaaVThingsLists
import Derived.Test.YtikpbopjhkohmaaVThingsPTx0
import Derived.Test.YtikpbopjhkohmaaVThingsPTx1
import Derived.Test.YtikpbopjhkohmaaVThingsPTx2
import Derived.Test.YtikpbopjhkohmaaVThingsPTx3
import Derived.Test.YtikpbopjhkohmaaVThingsPTx4
import Derived.Test.YtikpbopjhkohmaaVThingsPTx5
import Derived.Test.YtikpbopjhkohmaaVThingsPTx6
import Derived.Test.YtikpbopjhkohmaaVThingsPTx7
import Derived.Test.YtikpbopjhkohmaaVThingsPTx8
import Derived.Test.YtikpbopjhkohmaaVThingsPTx9
import Derived.Test.YtikpbopjhkohmaaVThingsPTx10
import Derived.Test.YtikpbopjhkohmaaVThingsPTx11
import Derived.Test.YtikpbopjhkohmaaVThingsPTx12
set_option linter.unusedVariables false
set_option linter.unusedSimpArgs false
namespace Go.Proofs.Ytikpbopjhkohmaa.Pure
open Go.RowKit Go.Proofs.Ytikpbopjhkohmaa.PT Go.Proofs.Ytikpbopjhkohmaa.PL Go.Proofs.YtikpbopjhkohmaaW.PrintWords Go.Proofs.YtikpbopjhkohmaaW.PrintLast Go.Proofs.YtikpbopjhkohmaaW.PrintMore
/-- A thing's rate. -/
def rate (x : S45) : Int := if x.f0 = 1 then mn x.f2 1 else x.f3
theorem specRate_ok (x : S45) : spec_l8Rate.f x.f0 x.f1 x.f2 x.f3 = some (rate x) := by
  unfold spec_l8Rate.f rate spec_l1Least.f mn
  split
  · split <;> split <;> first | rfl | (rw [Option.bind_some]; done) | (rw [Option.bind_some]; congr 1; done) | (rw [Option.bind_some]; congr 1; omega) | omega
  · rfl
theorem implRate_ok (x : S45) : impl_Thing_rate.f x.f0 x.f1 x.f2 x.f3 = some (rate x) := by
  unfold impl_Thing_rate.f rate
  split <;> rfl
theorem rate_bd {x : S45} (h : Thg x) : 0 ≤ rate x ∧ rate x ≤ 2 := by
  obtain ⟨h1, h2, h3, h4⟩ := h
  unfold rate mn
  split
  · split <;> omega
  · omega
/-- A thing when quarters have passed. -/
def left (d : Int) (x : S45) : Int := if x.f2 - d * rate x < 0 then 0 else x.f2 - d * rate x
def passed (d : Int) (x : S45) : S45 := if left d x = 0 then ⟨x.f0, x.f1, 0, 0⟩ else ⟨x.f0, x.f1, left d x, x.f3⟩
theorem left_w {d : Int} (h0 : 0 ≤ d) (h1 : d ≤ 240) {x : S45} (h : Thg x) : wrap64 (x.f2 - wrap64 (d * rate x)) = x.f2 - d * rate x := by
  obtain ⟨r1, r2⟩ := rate_bd h
  obtain ⟨g1, g2, _, _⟩ := h
  have m1 : 0 ≤ d * rate x := Int.mul_nonneg h0 r1
  have m2 : d * rate x ≤ 240 * 2 := Int.mul_le_mul h1 r2 r1 (by decide)
  generalize d * rate x = p at *
  rw [wr (n := p) (by omega) (by omega), wr (by omega) (by omega)]
theorem left_mx {d : Int} (x : S45) : mx (x.f2 - d * rate x) 0 = left d x := by
  unfold left mx
  (repeat' split) <;> omega
theorem left_most {d : Int} (x : S45) : spec_l1Most.f (x.f2 - d * rate x) 0 = some (left d x) := by
  unfold left spec_l1Most.f
  (repeat' split) <;> first | rfl | omega | (congr 1; omega)
theorem rd_mid (A : List S45) (x : S45) (R : List S45) : rd_T45 (A ++ x :: R) (A.length : Int) = x := by
  refine rd_at ?_
  rw [List.getElem?_append_right (Nat.le_refl _), Nat.sub_self]; rfl
theorem set_mid (A : List S45) (x y : S45) (R : List S45) : (A ++ x :: R).set A.length y = A ++ y :: R := by
  rw [List.set_append_right _ _ (Nat.le_refl _), Nat.sub_self]; rfl
theorem pass_go {d : Int} (h0 : 0 ≤ d) (h1 : d ≤ 240) : ∀ (R A A0 : List S45) (k : Nat), A0.length = A.length → A.length + R.length ≤ 4 → (∀ x ∈ R, Thg x) → R.length < k →
    spec_l8Pass.l0 k (A0 ++ R) d A (A.length : Int) = some (A ++ R.map (passed d)) ∧ impl_passQuarters.l0 k (A ++ R) d ((A.length + R.length : Nat) : Int) (A.length : Int) = some (A ++ R.map (passed d)) := by
  intro R
  induction R with
  | nil =>
    intro A A0 k ha hl hR hk
    obtain ⟨k, rfl⟩ : ∃ m, k = m + 1 := ⟨k - 1, by omega⟩
    simp only [spec_l8Pass.l0, impl_passQuarters.l0, List.append_nil, List.length_nil, Nat.add_zero, List.map_nil]
    rw [if_neg (by omega), if_neg (by omega)]
    exact ⟨rfl, rfl⟩
  | cons x R ih =>
    intro A A0 k ha hl hR hk
    obtain ⟨k, rfl⟩ : ∃ m, k = m + 1 := ⟨k - 1, by omega⟩
    have hx : Thg x := hR x (List.mem_cons_self)
    simp only [List.length_cons] at hl hk
    have b1 : (A.length : Int) < ((A0 ++ x :: R).length : Int) := by rw [List.length_append, List.length_cons]; omega
    have b2 : (0 : Int) ≤ (A.length : Int) := by omega
    have b3 : (A.length : Int) < ((A ++ x :: R).length : Int) := by rw [List.length_append, List.length_cons]; omega
    have b4 : (A.length : Int) < ((A.length + (x :: R).length : Nat) : Int) := by rw [List.length_cons]; omega
    have b5 : A.length < 4398046511104 := by omega
    have r0 : rd_T45 (A0 ++ x :: R) (A.length : Int) = x := by rw [← ha]; exact rd_mid A0 x R
    have r1 : rd_T45 (A ++ x :: R) (A.length : Int) = x := rd_mid A x R
    have q : ∀ y, rd_T45 (A ++ y :: R) (A.length : Int) = y := fun y => rd_mid A y R
    have e1 : ∀ y, A ++ y :: R = (A ++ [y]) ++ R := fun y => by simp
    have e2 : A0 ++ x :: R = (A0 ++ [x]) ++ R := by simp
    have el : ∀ y : S45, (A ++ [y]).length = A.length + 1 := fun y => by simp
    have hi := ih (A ++ [passed d x]) (A0 ++ [x]) k (by simp [ha]) (by rw [el]; omega) (fun y hy => hR y (List.mem_cons_of_mem _ hy)) (by omega)
    rw [el] at hi
    have en : A.length + 1 + R.length = A.length + (x :: R).length := by rw [List.length_cons]; omega
    rw [en, ← e2, ← e1] at hi
    have ep : A ++ [passed d x] ++ R.map (passed d) = A ++ (x :: R).map (passed d) := by simp
    rw [ep] at hi
    constructor
    · simp only [spec_l8Pass.l0]
      rw [if_pos b1, if_pos b2, r0, specRate_ok, Option.bind_some, left_w h0 h1 hx, left_most, Option.bind_some, wrS A.length (by omega), if_pos b5]
      have hp : passed d x = if left d x = 0 then ⟨x.f0, x.f1, 0, 0⟩ else ⟨x.f0, x.f1, left d x, x.f3⟩ := rfl
      by_cases hz : left d x = 0
      · rw [if_pos hz, hz]
        rw [if_pos hz] at hp
        rw [hp] at hi
        exact hi.1
      · rw [if_neg hz, if_pos b5]
        rw [if_neg hz] at hp
        rw [hp] at hi
        exact hi.1
    · simp only [impl_passQuarters.l0]
      rw [if_pos b4, if_pos b2, if_pos b3, r1, implRate_ok, Option.bind_some, left_w h0 h1 hx, left_mx, Int.toNat_natCast, set_mid]
      simp only [Option.bind_some, q, set_mid]
      rw [wrS A.length (by omega)]
      have hp : passed d x = if left d x = 0 then ⟨x.f0, x.f1, 0, 0⟩ else ⟨x.f0, x.f1, left d x, x.f3⟩ := rfl
      by_cases hz : left d x = 0
      · rw [if_pos hz, hz]
        rw [if_pos hz] at hp
        rw [hp] at hi
        exact hi.2
      · rw [if_neg hz]
        rw [if_neg hz] at hp
        rw [hp] at hi
        exact hi.2

/-- What both answer. -/
def passedAll (xs : List S45) (d : Int) : List S45 × Bool := if good xs = true ∧ ¬ d < 0 then (xs.map (passed (if d < 240 then d else 240)), true) else ([], false)
theorem passedAll_len (xs : List S45) (d : Int) : (passedAll xs d).1.length ≤ xs.length := by
  unfold passedAll; split <;> simp
theorem both_ok {k : Nat} (hk : 30 ≤ k) {xs : List S45} (hx : xs.length ≤ 1048576) (hk2 : xs.length + 1 < k) (d : Int) : spec_PassQuarters.f k xs d = some (passedAll xs d) ∧ impl_PassQuarters.f k xs d = some (passedAll xs d) := by
  unfold spec_PassQuarters.f impl_PassQuarters.f passedAll
  rw [specGood_ok (by omega), implGood_ok (by omega) (by omega), Option.bind_some, Option.bind_some]
  obtain ⟨k, rfl⟩ : ∃ m, k = m + 1 := ⟨k - 1, by omega⟩
  by_cases h : good xs = true
  · rw [if_pos h, if_pos h]
    by_cases hd : d < 0
    · rw [decide_eq_true hd, if_neg (fun hh => hh.2 hd)]
      simp only [spec_PassQuarters.j0, impl_PassQuarters.j0, if_true]
      exact ⟨trivial, trivial⟩
    · rw [decide_eq_false hd, if_pos ⟨h, hd⟩]
      have hl := good_len h
      simp only [spec_PassQuarters.j0, impl_PassQuarters.j0, Bool.false_eq_true, if_false]
      unfold impl_Thing_33.f spec_l8Pass.f impl_passQuarters.f
      have ht : ∀ x ∈ xs, Thg x := by
        intro x hm
        obtain ⟨i, hi⟩ := List.getElem?_of_mem hm
        exact good_at h hi
      have hm1 : mn d 240 = if d < 240 then d else 240 := by unfold mn; (repeat' split) <;> omega
      have hm2 : spec_l1Least.f d 240 = some (if d < 240 then d else 240) := by unfold spec_l1Least.f; split <;> rfl
      have hb : 0 ≤ (if d < 240 then d else 240) ∧ (if d < 240 then d else 240) ≤ 240 := by split <;> omega
      rw [hm2, hm1]
      generalize (if d < 240 then d else 240) = D at *
      obtain ⟨p1, p2⟩ := pass_go hb.1 hb.2 xs [] [] k rfl (by simp only [List.length_nil]; omega) ht (by omega)
      simp only [List.nil_append, List.length_nil, Nat.zero_add, Int.natCast_zero] at p1 p2
      simp only [Option.bind_some, List.length_nil, List.nil_append]
      rw [if_pos (by omega)]
      simp only [Option.bind_some]
      rw [p1, p2]
      exact ⟨rfl, rfl⟩
  · rw [if_neg h, if_neg h, if_neg (fun hh => h hh.1)]
    simp only [spec_PassQuarters.j0, impl_PassQuarters.j0, if_true]
    exact ⟨trivial, trivial⟩
end Go.Proofs.Ytikpbopjhkohmaa.Pure
