/- The insertion sort of an array, as insertions into a list from its end. Conditions: none. -/
import Derived.Sort.Defs
set_option linter.unusedVariables false
set_option linter.unusedSimpArgs false
set_option linter.unusedSectionVars false
namespace Go.Proofs.Ytpoglodghpkjiaa.PL
open Go.Sort (insInner insOuter insertionSort swp)
variable {α : Type} [Inhabited α]

/-- x put behind the last one that it is not less than. -/
def insR (lt : α → α → Bool) (x : α) : List α → List α
  | [] => [x]
  | y :: r => if lt x y = true then y :: insR lt x r else x :: y :: r
/-- .. into a list, from its end. -/
def insE (lt : α → α → Bool) (l : List α) (x : α) : List α := (insR lt x l.reverse).reverse
theorem insE_snoc (lt : α → α → Bool) (l : List α) (y x : α) : insE lt (l ++ [y]) x = if lt x y = true then insE lt l x ++ [y] else l ++ [y] ++ [x] := by
  unfold insE
  rw [List.reverse_append, List.reverse_singleton, List.singleton_append]
  show (if lt x y = true then y :: insR lt x l.reverse else x :: y :: l.reverse).reverse = if lt x y = true then (insR lt x l.reverse).reverse ++ [y] else l ++ [y] ++ [x]
  by_cases hl : lt x y = true
  · rw [if_pos hl, if_pos hl]; simp
  · rw [if_neg hl, if_neg hl]; simp
theorem insE_nil (lt : α → α → Bool) (x : α) : insE lt [] x = [x] := rfl
theorem insR_length (lt : α → α → Bool) (x : α) : ∀ l : List α, (insR lt x l).length = l.length + 1
  | [] => rfl
  | y :: r => by unfold insR; split <;> simp [insR_length lt x r]
theorem insE_length (lt : α → α → Bool) (l : List α) (x : α) : (insE lt l x).length = l.length + 1 := by unfold insE; simp [insR_length]
theorem get_mid {d : Array α} {P S : List α} {x : α} (h : d.toList = P ++ x :: S) : d[P.length]! = x := by
  have : d.toList[P.length]? = some x := by rw [h]; simp
  rw [Array.getElem?_toList] at this
  obtain ⟨h1, h2⟩ := Array.getElem?_eq_some_iff.1 this
  rw [getElem!_pos d _ h1]
  exact h2
theorem swp_mid {d : Array α} {P S : List α} {y x : α} (h : d.toList = P ++ y :: x :: S) : (swp d (P.length + 1) P.length).toList = P ++ x :: y :: S := by
  have h1 : d[P.length]! = y := get_mid h
  have h2 : d[P.length + 1]! = x := by
    have := get_mid (P := P ++ [y]) (S := S) (x := x) (d := d) (by rw [h]; simp)
    simpa using this
  unfold swp
  rw [h1, h2, Array.toList_setIfInBounds, Array.toList_setIfInBounds, h]
  simp
theorem insInner_eq (lt : α → α → Bool) : ∀ (j : Nat) (d : Array α) (P S : List α) (x : α), d.toList = P ++ x :: S → P.length = j → (insInner lt 0 j d).toList = insE lt P x ++ S
  | 0, d, P, S, x, h, hj => by
    obtain rfl := List.length_eq_zero_iff.1 hj
    show d.toList = _
    rw [h]; rfl
  | j + 1, d, P, S, x, h, hj => by
    obtain ⟨Q, y, rfl⟩ : ∃ Q y, P = Q ++ [y] := ⟨P.dropLast, P.getLast (by intro e; rw [e] at hj; simp at hj), (List.dropLast_concat_getLast _).symm⟩
    have hq : Q.length = j := by simpa using hj
    have e : d.toList = Q ++ y :: x :: S := by rw [h]; simp
    have h1 : d[j]! = y := by rw [← hq]; exact get_mid e
    have h2 : d[j + 1]! = x := by rw [← hj]; exact get_mid h
    unfold insInner
    rw [h1, h2, insE_snoc]
    by_cases hl : lt x y = true
    · rw [if_pos (by simp [hl]), if_pos hl]
      have hs := swp_mid e
      rw [hq] at hs
      rw [insInner_eq lt j _ Q (y :: S) x hs hq]
      simp
    · rw [if_neg (by simp [hl]), if_neg hl, h]
      simp
theorem insOuter_eq (lt : α → α → Bool) : ∀ (m i b : Nat) (d : Array α) (P R : List α), d.toList = P ++ R → P.length = i → i + m = b → R.length = m → (insOuter lt 0 b i d).toList = R.foldl (insE lt) P
  | 0, i, b, d, P, R, h, hi, hb, hm => by
    obtain rfl := List.length_eq_zero_iff.1 hm
    unfold insOuter
    rw [if_neg (by omega), h]
    simp
  | m + 1, i, b, d, P, R, h, hi, hb, hm => by
    cases R with
    | nil => simp at hm
    | cons x S =>
      unfold insOuter
      rw [if_pos (by omega), List.foldl_cons]
      refine insOuter_eq lt m (i + 1) b _ _ S (insInner_eq lt i d P S x h hi) (by rw [insE_length]; omega) (by omega) (by simpa using hm)
theorem insertionSort_eq (lt : α → α → Bool) (d : Array α) : (insertionSort lt d 0 d.size).toList = d.toList.foldl (insE lt) [] := by
  unfold insertionSort
  cases hd : d.toList with
  | nil =>
    have hz : d.size = 0 := by rw [← Array.length_toList, hd]; rfl
    unfold insOuter
    rw [if_neg (by omega), hd]
    rfl
  | cons x S =>
    have hz : d.size = S.length + 1 := by rw [← Array.length_toList, hd]; rfl
    rw [List.foldl_cons, insE_nil]
    exact insOuter_eq lt S.length 1 d.size d [x] S hd rfl (by omega) rfl
end Go.Proofs.Ytpoglodghpkjiaa.PL
