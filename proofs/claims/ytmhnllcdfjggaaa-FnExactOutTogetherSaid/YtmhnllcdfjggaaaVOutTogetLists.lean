/- Loops that copy, compare, search and mark a list: what they answer. Conditions: the loop's own equations, named in each lemma. -/
import Derived.Test.YtmhnllcdfjggaaaVOutTogetWWords
set_option linter.unusedVariables false
set_option linter.unusedSimpArgs false
namespace Go.Proofs.Ytmhnllcdfjggaaa.PL
open Go.RowKit

theorem wr {n : Int} (h1 : -9223372036854775808 ≤ n) (h2 : n ≤ 9223372036854775807) : wrap64 n = n := by unfold wrap64; omega
theorem wrS (i : Nat) (h : i ≤ 4611686018427387904) : wrap64 ((i : Int) + 1) = ((i + 1 : Nat) : Int) := by
  rw [wr (by omega) (by omega)]; rfl
theorem at_lt {A : Type} {xs : List A} {i : Nat} (h : i < xs.length) : ∃ x, xs[i]? = some x := ⟨xs[i], by simp [h]⟩
theorem lt_of {A : Type} {xs : List A} {i : Nat} {x : A} (h : xs[i]? = some x) : i < xs.length := by
  rcases Nat.lt_or_ge i xs.length with h1 | h1
  · exact h1
  · rw [List.getElem?_eq_none h1] at h; cases h
variable {A B : Type}

/-- A list compared with itself. -/
theorem self_go (F : Nat → List A → Int → Option Bool)
    (hs : ∀ k xs (i : Nat) x, xs[i]? = some x → F (k + 1) xs i = F k xs (wrap64 ((i : Int) + 1)))
    (he : ∀ k xs (i : Nat), xs.length ≤ i → F (k + 1) xs i = some true) (xs : List A) (hx : xs.length ≤ 1099511627776) :
    ∀ (d k i : Nat), xs.length = i + d → d < k → F k xs i = some true := by
  intro d
  induction d with
  | zero =>
    intro k i h1 hk
    obtain ⟨k, rfl⟩ : ∃ m, k = m + 1 := ⟨k - 1, by omega⟩
    exact he k xs i (by omega)
  | succ d ih =>
    intro k i h1 hk
    obtain ⟨k, rfl⟩ : ∃ m, k = m + 1 := ⟨k - 1, by omega⟩
    obtain ⟨x, hxx⟩ := at_lt (xs := xs) (i := i) (by omega)
    rw [hs k xs i x hxx, wrS i (by omega)]
    exact ih k (i + 1) (by omega) (by omega)

/-- A list whose places count on. -/
def marked (mk : Int → A) (f n : Nat) : List A := (List.range n).map fun j => mk ((1 + f * j : Nat) : Int)
theorem marked_len (mk : Int → A) (f n : Nat) : (marked mk f n).length = n := by simp [marked]
theorem marked_at (mk : Int → A) (f n j : Nat) (h : j < n) : (marked mk f n)[j]? = some (mk ((1 + f * j : Nat) : Int)) := by
  simp [marked, h]
theorem mark_go (M : Nat → List A → Int → Int → Option (Int × List A)) (mk : Int → A) (nx : Int → Int) (f : Nat) (hf : f ≤ 100)
    (hn : ∀ c : Int, 0 ≤ c → c ≤ 4611686018427387904 → nx c = c + f)
    (hs : ∀ k xs c (i : Nat), i < xs.length → M (k + 1) xs c i = M k (xs.set i (mk c)) (nx c) (wrap64 ((i : Int) + 1)))
    (he : ∀ k xs c (i : Nat), xs.length ≤ i → M (k + 1) xs c i = some (c, xs)) (n : Nat) (hx : n ≤ 1099511627776) :
    ∀ (d k i : Nat) (xs : List A), xs.length = n → n = i + d → d < k → (∀ j, j < i → xs[j]? = (marked mk f n)[j]?) →
      M k xs ((1 + f * i : Nat) : Int) i = some (((1 + f * n : Nat) : Int), marked mk f n) := by
  intro d
  induction d with
  | zero =>
    intro k i xs h0 h1 hk h
    obtain ⟨k, rfl⟩ : ∃ m, k = m + 1 := ⟨k - 1, by omega⟩
    have : i = n := by omega
    subst this
    rw [he k xs _ i (by omega)]
    congr 2
    apply List.ext_getElem?
    intro j
    by_cases hj : j < i
    · exact h j hj
    · rw [List.getElem?_eq_none (by omega), List.getElem?_eq_none (by rw [marked_len]; omega)]
  | succ d ih =>
    intro k i xs h0 h1 hk h
    obtain ⟨k, rfl⟩ : ∃ m, k = m + 1 := ⟨k - 1, by omega⟩
    have hb : f * i ≤ 100 * 1099511627776 := Nat.mul_le_mul hf (by omega)
    rw [hs k xs _ i (by omega), wrS i (by omega), hn _ (by omega) (by omega)]
    have e : (((1 + f * i : Nat) : Int) + (f : Int)) = ((1 + f * (i + 1) : Nat) : Int) := by
      rw [Nat.mul_succ]; omega
    rw [e]
    refine ih k (i + 1) _ (by simp; omega) (by omega) (by omega) ?_
    intro j hj
    by_cases hji : j = i
    · subst hji
      rw [List.getElem?_set_self (by omega), marked_at _ _ _ _ (by omega)]
    · rw [List.getElem?_set_ne (by omega)]
      exact h j (by omega)
theorem held_go (H : Nat → List A → Int → Int → Option Int) (mk : Int → A) (nx : Int → Int) (f : Nat) (hf : f ≤ 100)
    (hn : ∀ c : Int, 0 ≤ c → c ≤ 4611686018427387904 → nx c = c + f)
    (hs : ∀ k xs c (i : Nat), xs[i]? = some (mk c) → H (k + 1) xs c i = H k xs (nx c) (wrap64 ((i : Int) + 1)))
    (he : ∀ k xs c (i : Nat), xs.length ≤ i → H (k + 1) xs c i = some c) (n : Nat) (hx : n ≤ 1099511627776) :
    ∀ (d k i : Nat), n = i + d → d < k → H k (marked mk f n) ((1 + f * i : Nat) : Int) i = some ((1 + f * n : Nat) : Int) := by
  intro d
  induction d with
  | zero =>
    intro k i h1 hk
    obtain ⟨k, rfl⟩ : ∃ m, k = m + 1 := ⟨k - 1, by omega⟩
    have : i = n := by omega
    subst this
    rw [he k _ _ i (by rw [marked_len]; omega)]
  | succ d ih =>
    intro k i h1 hk
    obtain ⟨k, rfl⟩ : ∃ m, k = m + 1 := ⟨k - 1, by omega⟩
    have hb : f * i ≤ 100 * 1099511627776 := Nat.mul_le_mul hf (by omega)
    rw [hs k _ _ i (marked_at _ _ _ _ (by omega)), wrS i (by omega), hn _ (by omega) (by omega)]
    have e : (((1 + f * i : Nat) : Int) + (f : Int)) = ((1 + f * (i + 1) : Nat) : Int) := by
      rw [Nat.mul_succ]; omega
    rw [e]
    exact ih k (i + 1) (by omega) (by omega)
end Go.Proofs.Ytmhnllcdfjggaaa.PL
