/- Loops that copy, compare, search and mark a list: what they answer. Conditions: the loop's own equations, named in each lemma. -/
import Derived.Test.YtikpbopjhkohmaaVThingsWWords
set_option linter.unusedVariables false
set_option linter.unusedSimpArgs false
namespace Go.Proofs.Ytikpbopjhkohmaa.PL
open Go.RowKit

theorem wr {n : Int} (h1 : -9223372036854775808 ≤ n) (h2 : n ≤ 9223372036854775807) : wrap64 n = n := by unfold wrap64; omega
theorem wrS (i : Nat) (h : i ≤ 4611686018427387904) : wrap64 ((i : Int) + 1) = ((i + 1 : Nat) : Int) := by
  rw [wr (by omega) (by omega)]; rfl
theorem at_lt {A : Type} {xs : List A} {i : Nat} (h : i < xs.length) : ∃ x, xs[i]? = some x := ⟨xs[i], by simp [h]⟩
theorem lt_of {A : Type} {xs : List A} {i : Nat} {x : A} (h : xs[i]? = some x) : i < xs.length := by
  rcases Nat.lt_or_ge i xs.length with h1 | h1
  · exact h1
  · rw [List.getElem?_eq_none h1] at h; cases h
variable {A B : Type}

/-- A list compared with itself. -/
theorem self_go (F : Nat → List A → Int → Option Bool)
    (hs : ∀ k xs (i : Nat) x, xs[i]? = some x → F (k + 1) xs i = F k xs (wrap64 ((i : Int) + 1)))
    (he : ∀ k xs (i : Nat), xs.length ≤ i → F (k + 1) xs i = some true) (xs : List A) (hx : xs.length ≤ 1099511627776) :
    ∀ (d k i : Nat), xs.length = i + d → d < k → F k xs i = some true := by
  intro d
  induction d with
  | zero =>
    intro k i h1 hk
    obtain ⟨k, rfl⟩ : ∃ m, k = m + 1 := ⟨k - 1, by omega⟩
    exact he k xs i (by omega)
  | succ d ih =>
    intro k i h1 hk
    obtain ⟨k, rfl⟩ : ∃ m, k = m + 1 := ⟨k - 1, by omega⟩
    obtain ⟨x, hxx⟩ := at_lt (xs := xs) (i := i) (by omega)
    rw [hs k xs i x hxx, wrS i (by omega)]
    exact ih k (i + 1) (by omega) (by omega)

/-- A search that answers the first place at which a test fails. -/
theorem find_go (F : Nat → List A → Int → Option Int) (p : A → Bool)
    (hs : ∀ k xs (i : Nat) x, xs[i]? = some x → F (k + 1) xs i = if p x = true then F k xs (wrap64 ((i : Int) + 1)) else some (i : Int))
    (he : ∀ k xs (i : Nat), xs.length ≤ i → F (k + 1) xs i = some (-1)) (xs : List A) (hx : xs.length ≤ 1099511627776) :
    ∀ (d k i : Nat), xs.length = i + d → d < k → ∃ r, F k xs i = some r ∧ (decide (r ≥ 0) = !(xs.drop i).all p) := by
  intro d
  induction d with
  | zero =>
    intro k i h1 hk
    obtain ⟨k, rfl⟩ : ∃ m, k = m + 1 := ⟨k - 1, by omega⟩
    refine ⟨-1, he k xs i (by omega), ?_⟩
    rw [List.drop_eq_nil_of_le (by omega)]; rfl
  | succ d ih =>
    intro k i h1 hk
    obtain ⟨k, rfl⟩ : ∃ m, k = m + 1 := ⟨k - 1, by omega⟩
    obtain ⟨x, hxx⟩ := at_lt (xs := xs) (i := i) (by omega)
    have hd : xs.drop i = x :: xs.drop (i + 1) := by
      rw [List.drop_eq_getElem_cons (by omega)]
      rw [List.getElem?_eq_getElem (by omega)] at hxx
      cases hxx; rfl
    rw [hs k xs i x hxx, hd, List.all_cons]
    by_cases hp : p x = true
    · rw [if_pos hp, wrS i (by omega), hp, Bool.true_and]
      exact ih k (i + 1) (by omega) (by omega)
    · rw [if_neg hp]
      refine ⟨_, rfl, ?_⟩
      simp [hp]

/-- The same, where the test takes some rounds of its own. -/
theorem scan_go_m (F : Nat → List A → Int → Option Bool) (p : A → Bool) (lim m : Nat)
    (hs : ∀ k xs (i : Nat) x, m ≤ k → xs[i]? = some x → i ≤ lim → F (k + 2) xs i = if p x = true then F k xs (wrap64 ((i : Int) + 1)) else some false)
    (he : ∀ k xs (i : Nat), xs.length ≤ i ∨ lim < i → F (k + 2) xs i = some (decide (1 ≤ (xs.length : Int) ∧ (xs.length : Int) ≤ lim))) (hl : lim ≤ 1000) (xs : List A) :
    ∀ (d k i : Nat), i ≤ xs.length → lim + 1 = i + d → 2 * d + 2 + m ≤ k → F k xs i = some (decide (1 ≤ (xs.length : Int) ∧ (xs.length : Int) ≤ lim) && (xs.drop i).all p) := by
  intro d
  induction d with
  | zero =>
    intro k i h0 h1 hk
    obtain ⟨k, rfl⟩ : ∃ m, k = m + 2 := ⟨k - 2, by omega⟩
    rw [he k xs i (by omega)]
    have : ¬ (1 ≤ (xs.length : Int) ∧ (xs.length : Int) ≤ lim) := by omega
    simp only [this, decide_false, Bool.false_and]
  | succ d ih =>
    intro k i h0 h1 hk
    obtain ⟨k, rfl⟩ : ∃ m, k = m + 2 := ⟨k - 2, by omega⟩
    by_cases hi : xs.length ≤ i
    · rw [he k xs i (by omega), List.drop_eq_nil_of_le (by omega), List.all_nil, Bool.and_true]
    · obtain ⟨x, hxx⟩ := at_lt (xs := xs) (i := i) (by omega)
      have hd : xs.drop i = x :: xs.drop (i + 1) := by
        rw [List.drop_eq_getElem_cons (by omega)]
        rw [List.getElem?_eq_getElem (by omega)] at hxx
        cases hxx; rfl
      rw [hs k xs i x (by omega) hxx (by omega), hd, List.all_cons]
      by_cases hp : p x = true
      · rw [if_pos hp, wrS i (by omega), hp, Bool.true_and]
        exact ih k (i + 1) (by omega) (by omega) (by omega)
      · rw [if_neg hp]
        have : p x = false := by simpa using hp
        rw [this, Bool.false_and, Bool.and_false]

end Go.Proofs.Ytikpbopjhkohmaa.PL
