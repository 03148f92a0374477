/- KitThings: the program's list is the reference's, and it holds nothing of its arguments. Conditions: none. -/
import Derived.Test.YtogpednapceljaaListsK
set_option linter.unusedVariables false
set_option linter.unusedSimpArgs false
namespace Go.Proofs.Ytogpednapceljaa.Pure
open Go.RowKit Go.Proofs.Ytogpednapceljaa.PK Go.Proofs.Ytogpednapceljaa.PL Go.Proofs.YtogpednapceljaaW.PrintWords Go.Proofs.YtogpednapceljaaW.PrintLast Go.Proofs.YtogpednapceljaaW.PrintMore
theorem in_ok (a lo hi : Int) : spec_l1In.f a lo hi = some (decide (lo ≤ a ∧ a ≤ hi)) := by
  unfold spec_l1In.f
  by_cases h : a ≥ lo
  · rw [if_pos h]
    congr 1
    have : lo ≤ a := h
    simp [this]
  · rw [if_neg h]
    have : ¬ lo ≤ a := h
    simp [this]
theorem within_ok (a lo hi : Int) : impl_within.f a lo hi = some (decide (lo ≤ a ∧ a ≤ hi)) := in_ok a lo hi
/-- A kit is valid, as the printed functions tell it. -/
def kit (a b c d : Int) : Bool := (decide (0 ≤ a ∧ a ≤ 30) && (decide (0 ≤ b ∧ b ≤ 30) && (decide (0 ≤ c ∧ c ≤ 30) && decide (0 ≤ d ∧ d ≤ 30)))) && (((decide (a > 0) || decide (b > 0)) || decide (c > 0)) || decide (d > 0))
theorem specKit_ok (k : Nat) (a b c d : Int) : spec_l2Kit.f (k + 3) a b c d = some (kit a b c d) := by
  simp only [spec_l2Kit.f, spec_l2Kit.j0, spec_l2Kit.j1, spec_l2Kit.j2, in_ok, Option.bind_some, kit]
  cases decide (0 ≤ a ∧ a ≤ 30) <;> cases decide (0 ≤ b ∧ b ≤ 30) <;> cases decide (0 ≤ c ∧ c ≤ 30) <;> cases decide (0 ≤ d ∧ d ≤ 30) <;> by_cases h : a > 0 <;> by_cases h2 : b > 0 <;> by_cases h3 : c > 0 <;> by_cases h4 : d > 0 <;> simp [h, h2, h3, h4]
theorem implKit_ok (k : Nat) (a b c d : Int) : impl_IsKit.f (k + 3) a b c d = some (kit a b c d) := by
  simp only [impl_IsKit.f, impl_IsKit.j0, impl_IsKit.j1, impl_IsKit.j2, within_ok, Option.bind_some, kit]
  cases decide (0 ≤ a ∧ a ≤ 30) <;> cases decide (0 ≤ b ∧ b ≤ 30) <;> cases decide (0 ≤ c ∧ c ≤ 30) <;> cases decide (0 ≤ d ∧ d ≤ 30) <;> by_cases h : a > 0 <;> by_cases h2 : b > 0 <;> by_cases h3 : c > 0 <;> by_cases h4 : d > 0 <;> simp [h, h2, h3, h4]
def sand (a b c d e f g h : Int) : Bool := (decide (0 ≤ e ∧ e ≤ a) && (decide (0 ≤ f ∧ f ≤ b) && (decide (0 ≤ g ∧ g ≤ c) && decide (0 ≤ h ∧ h ≤ d)))) && kit a b c d
theorem specSand_ok (k : Nat) (a b c d e f g h : Int) : spec_l2Sand.f (k + 3) a b c d e f g h = some (sand a b c d e f g h) := by
  simp only [spec_l2Sand.f, in_ok, Option.bind_some, sand, specKit_ok]
  cases decide (0 ≤ e ∧ e ≤ a) <;> cases decide (0 ≤ f ∧ f ≤ b) <;> cases decide (0 ≤ g ∧ g ≤ c) <;> cases decide (0 ≤ h ∧ h ≤ d) <;> simp
theorem implSand_ok (k : Nat) (a b c d e f g h : Int) : impl_areSand.f (k + 3) a b c d e f g h = some (sand a b c d e f g h) := by
  simp only [impl_areSand.f, impl_Kit_isSand.f, within_ok, Option.bind_some, sand, implKit_ok]
  cases decide (0 ≤ e ∧ e ≤ a) <;> cases decide (0 ≤ f ∧ f ≤ b) <;> cases decide (0 ≤ g ∧ g ≤ c) <;> cases decide (0 ≤ h ∧ h ≤ d) <;> cases kit a b c d <;> simp
/-- A glass is added, if it isn't empty. -/
def add (p q : Int) (l : List S23) : List S23 := if p > 0 then l ++ [(⟨1, p, wrap64 (4 * q), 0⟩ : S23)] else l
theorem add_len (p q : Int) (l : List S23) : (add p q l).length ≤ l.length + 1 := by
  unfold add
  split <;> simp
def things (a b c d e f g h : Int) : List S23 × Bool := if sand a b c d e f g h = true then (add d h (add c g (add b f (add a e []))), true) else ([], false)
theorem things_len (a b c d e f g h : Int) : (things a b c d e f g h).1.length ≤ 4 := by
  unfold things
  split
  · have h1 := add_len a e []
    have h2 := add_len b f (add a e [])
    have h3 := add_len c g (add b f (add a e []))
    have h4 := add_len d h (add c g (add b f (add a e [])))
    simp only [List.length_nil] at h1
    simp only
    omega
  · simp
theorem specThings_ok (k : Nat) (a b c d e f g h : Int) : spec_KitThings.f (k + 4) a b c d e f g h = some (things a b c d e f g h) := by
  unfold spec_KitThings.f things
  rw [Option.bind_some, specSand_ok, Option.bind_some]
  cases sand a b c d e f g h
  · simp
  · simp only [if_true, spec_KitThings.j0, spec_KitThings.j1, spec_KitThings.j2, spec_KitThings.j3, add]
    by_cases h1 : a > 0 <;> by_cases h2 : b > 0 <;> by_cases h3 : c > 0 <;> by_cases h4 : d > 0 <;> simp [h1, h2, h3, h4]
theorem implThings_ok (k : Nat) (a b c d e f g h : Int) : impl_KitThings.f (k + 4) a b c d e f g h = some (things a b c d e f g h) := by
  unfold impl_KitThings.f things
  rw [implSand_ok, Option.bind_some]
  cases sand a b c d e f g h
  · simp
  · simp only [if_true, Option.bind_some, impl_KitThings.j0, impl_KitThings.j1, impl_KitThings.j2, impl_KitThings.j3, add]
    by_cases h1 : a > 0 <;> by_cases h2 : b > 0 <;> by_cases h3 : c > 0 <;> by_cases h4 : d > 0 <;> simp [h1, h2, h3, h4]
theorem FnExactKitThings : laws_FnExactKitThings.Pure := by
  intro a b c d e f g h _ _ _ _ _ _ _ _
  refine ⟨100 + 4 + 1 + 1, ?_⟩
  have hl := things_len a b c d e f g h
  unfold laws_FnExactKitThings.f
  simp only [laws_toKit.f, laws_toIntA4.f, Option.bind_some]
  rw [show 100 + 4 + 1 + 1 = 102 + 4 from rfl, specThings_ok, Option.bind_some, implThings_ok, Option.bind_some]
  generalize hr : things a b c d e f g h = r at *
  rw [eqThingS_self (by omega) (by omega), Option.bind_some, if_pos rfl]
  rw [show 102 + 4 = 105 + 1 from rfl]
  simp only [laws_FnExactKitThings.j0, bne_self_eq_false, Bool.false_eq_true, if_false]
  rw [markThingS_ok (by omega) (by omega), Option.bind_some]
  simp only
  rw [heldThingS_ok (by omega) (by omega), Option.bind_some, if_neg (by omega), if_pos rfl]
  simp only [laws_toKit.f, laws_toIntA4.f, Option.bind_some]
  rw [show 105 = 101 + 4 from rfl, implThings_ok, Option.bind_some, hr, eqThingS_self (by omega) (by omega), Option.bind_some, if_pos rfl]
  rw [show 101 + 4 = 104 + 1 from rfl]
  simp only [laws_FnExactKitThings.j1, bne_self_eq_false, Bool.false_eq_true, if_false]
  rw [heldThingS_ok (by omega) (by omega), Option.bind_some, if_neg (by omega), if_pos rfl]
end Go.Proofs.Ytogpednapceljaa.Pure
