/- The insertion sort of an array, as insertions into a list from its end. Conditions: none. -/
import Derived.Sort.Defs
set_option linter.unusedVariables false
set_option linter.unusedSimpArgs false
set_option linter.unusedSectionVars false
namespace Go.Proofs.Ythoblgccnkjnoaa.PL
open Go.Sort (insInner insOuter insertionSort swp)
variable {α : Type} [Inhabited α]

/-- x put behind the last one that it is not less than. -/
def insR (lt : α → α → Bool) (x : α) : List α → List α
  | [] => [x]
  | y :: r => if lt x y = true then y :: insR lt x r else x :: y :: r
/-- .. into a list, from its end. -/
def insE (lt : α → α → Bool) (l : List α) (x : α) : List α := (insR lt x l.reverse).reverse
theorem insE_snoc (lt : α → α → Bool) (l : List α) (y x : α) : insE lt (l ++ [y]) x = if lt x y = true then insE lt l x ++ [y] else l ++ [y] ++ [x] := by
  unfold insE
  rw [List.reverse_append, List.reverse_singleton, List.singleton_append]
  show (if lt x y = true then y :: insR lt x l.reverse else x :: y :: l.reverse).reverse = if lt x y = true then (insR lt x l.reverse).reverse ++ [y] else l ++ [y] ++ [x]
  by_cases hl : lt x y = true
  · rw [if_pos hl, if_pos hl]; simp
  · rw [if_neg hl, if_neg hl]; simp
theorem insE_nil (lt : α → α → Bool) (x : α) : insE lt [] x = [x] := rfl
theorem insR_length (lt : α → α → Bool) (x : α) : ∀ l : List α, (insR lt x l).length = l.length + 1
  | [] => rfl
  | y :: r => by unfold insR; split <;> simp [insR_length lt x r]
theorem insE_length (lt : α → α → Bool) (l : List α) (x : α) : (insE lt l x).length = l.length + 1 := by unfold insE; simp [insR_length]
end Go.Proofs.Ythoblgccnkjnoaa.PL
