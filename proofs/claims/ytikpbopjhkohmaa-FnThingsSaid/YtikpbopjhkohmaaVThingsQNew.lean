/- NewThing and the list tests of FnThings: what they answer. Conditions: those each lemma names. -/
import Derived.Test.YtikpbopjhkohmaaVThingsBase
set_option linter.unusedVariables false
set_option linter.unusedSimpArgs false
namespace Go.Proofs.Ytikpbopjhkohmaa.Pure
open Go.RowKit Go.Proofs.Ytikpbopjhkohmaa.PT Go.Proofs.Ytikpbopjhkohmaa.PL Go.Proofs.YtikpbopjhkohmaaW.PrintWords Go.Proofs.YtikpbopjhkohmaaW.PrintLast Go.Proofs.YtikpbopjhkohmaaW.PrintMore
theorem new_j0 (k : Nat) (n : Int) (z : Bool) (a b c d : Int) : ∃ r, spec_NewThing.j0 (k + 2) n z a b c d = some r ∧ impl_NewThing.j0 (k + 2) n z a b c d = some r := by
  simp only [spec_NewThing.j0, impl_NewThing.j0, specThing_ok, implThing_ok, Option.bind_some]
  cases z
  · simp only [Bool.false_eq_true, if_false]
    split <;> exact ⟨_, rfl, rfl⟩
  · simp only [if_true]
    split <;> exact ⟨_, rfl, rfl⟩
theorem new_ok (k : Nat) (a n : Int) : ∃ r, spec_NewThing.f (k + 2) a n = some r ∧ impl_NewThing.f (k + 2) a n = some r := by
  unfold spec_NewThing.f impl_NewThing.f
  rw [in_ok, within_ok, Option.bind_some, Option.bind_some]
  by_cases h1 : a = 1
  · rw [if_pos h1, if_pos h1]
    exact new_j0 k _ _ _ _ _ _
  · rw [if_neg h1, if_neg h1]
    exact new_j0 k _ _ _ _ _ _
theorem rThings_self {k : Nat} {xs : List S45} (hx : xs.length ≤ 1099511627776) (hk : xs.length < k) : laws_rThings.f k xs xs = some true := by
  unfold laws_rThings.f
  rw [if_pos rfl]
  refine self_go (fun k xs i => laws_rThings.l0 k xs xs i) ?_ ?_ xs hx xs.length k 0 (by omega) hk
  · intro k xs i x hx
    have h1 := lt_of hx
    simp only [laws_rThings.l0]
    rw [if_pos (by omega), if_pos (by omega), if_pos (by omega), if_neg (by simp)]
  · intro k xs i hi
    simp only [laws_rThings.l0]
    rw [if_neg (by omega)]
theorem rInts_self {k : Nat} {xs : List Int} (hx : xs.length ≤ 1099511627776) (hk : xs.length < k) : laws_rInts.f k xs xs = some true := by
  unfold laws_rInts.f
  rw [if_pos rfl]
  refine self_go (fun k xs i => laws_rInts.l0 k xs xs i) ?_ ?_ xs hx xs.length k 0 (by omega) hk
  · intro k xs i x hx
    have h1 := lt_of hx
    simp only [laws_rInts.l0, if_true]
    rw [if_pos (by omega), if_pos (by omega), if_pos (by omega)]
  · intro k xs i hi
    simp only [laws_rInts.l0]
    rw [if_neg (by omega)]
theorem rHas_go (a : Int) : ∀ (d k i : Nat) (xs : List Int), xs.length ≤ 1048576 → xs.length = i + d → d < k → laws_rHas.l0 k xs a (i : Int) = some ((xs.drop i).contains a) := by
  intro d
  induction d with
  | zero =>
    intro k i xs hl h hk
    obtain ⟨k, rfl⟩ : ∃ m, k = m + 1 := ⟨k - 1, by omega⟩
    simp only [laws_rHas.l0]
    rw [if_neg (by omega), List.drop_of_length_le (by omega)]
    rfl
  | succ d ih =>
    intro k i xs hl h hk
    obtain ⟨k, rfl⟩ : ∃ m, k = m + 1 := ⟨k - 1, by omega⟩
    obtain ⟨x, hx⟩ := at_lt (show i < xs.length by omega)
    have hr : rd xs (i : Int) = x := by simp [rd, hx]
    simp only [laws_rHas.l0]
    rw [if_pos (by omega), if_pos (by omega), hr, List.drop_eq_getElem_cons (by omega), List.contains_cons]
    have hg : xs[i] = x := by
      have := List.getElem?_eq_getElem (show i < xs.length by omega)
      rw [hx] at this
      exact (Option.some.inj this).symm
    rw [hg]
    by_cases he : x = a
    · rw [if_pos he]
      simp [he]
    · rw [if_neg he, wrS i (by omega), ih k (i + 1) xs hl (by omega) (by omega)]
      have : (a == x) = false := by simpa using fun e => he e.symm
      rw [this, Bool.false_or]
theorem rHas_ok {k : Nat} {xs : List Int} (a : Int) (hl : xs.length ≤ 1048576) (hk : xs.length < k) : laws_rHas.f k xs a = some (xs.contains a) := by
  have := rHas_go a xs.length k 0 xs hl (by omega) hk
  rw [List.drop_zero] at this
  exact this
end Go.Proofs.Ytikpbopjhkohmaa.Pure
