/- DoAct: the program's answer is the reference's, and it holds nothing of its argument. Conditions: none. -/
import Derived.Test.YtogpednapceljaaActs
import Derived.Test.YtogpednapceljaaListsB
set_option linter.unusedVariables false
set_option linter.unusedSimpArgs false
namespace Go.Proofs.Ytogpednapceljaa.Pure
open Go.RowKit Go.Proofs.Ytogpednapceljaa.PA Go.Proofs.Ytogpednapceljaa.PL Go.Proofs.YtogpednapceljaaW.PrintWords Go.Proofs.YtogpednapceljaaW.PrintLast Go.Proofs.YtogpednapceljaaW.PrintMore
/-- What both answer. -/
def doneAct (xs : List S23) (a : Int) : List S23 × Bool := if good xs = true then (match acted xs a with | some ys => (ys, true) | none => ([], false)) else ([], false)
theorem doneAct_len (xs : List S23) (a : Int) : (doneAct xs a).1.length ≤ xs.length := by
  unfold doneAct
  split
  · rename_i h
    cases e : acted xs a with
    | none => simp
    | some ys => simp only; rw [(acted_good h e).2]; exact Nat.le_refl _
  · simp
theorem specDoAct_ok {k : Nat} (hk : 30 ≤ k) (xs : List S23) (a : Int) : spec_DoAct.f k xs a = some (doneAct xs a) := by
  unfold spec_DoAct.f doneAct
  rw [specGood_ok (by omega), Option.bind_some]
  by_cases h : good xs = true
  · rw [if_pos h, if_pos h, specActed_ok h, Option.bind_some]
    cases acted xs a <;> rfl
  · rw [if_neg h, if_neg h]
theorem implDoAct_ok {k : Nat} (hk : 30 ≤ k) {xs : List S23} (hx : xs.length ≤ 1048576) (hk2 : xs.length < k) (a : Int) : impl_DoAct.f k xs a = some (doneAct xs a) := by
  unfold impl_DoAct.f doneAct impl_Thing_92.f
  simp only [Option.bind_some, List.length_nil, List.nil_append]
  rw [if_pos (by omega), Option.bind_some, implGood_ok (by omega) hk2, Option.bind_some]
  by_cases h : good xs = true
  · rw [if_pos h, if_pos h]
    unfold impl_doActs.f
    obtain ⟨k, rfl⟩ : ∃ j, k = j + 1 + 1 := ⟨k - 2, by omega⟩
    have e1 := implActs_step h (l := [a]) (k := k + 1) (i := 0) (a := a) rfl (by omega)
    rw [show ((0 : Nat) : Int) = 0 from rfl] at e1
    rw [e1]
    cases ha : acted xs a with
    | none => rfl
    | some ys =>
      simp only
      rw [implActs_end (by simp), Option.bind_some]
      rfl
  · rw [if_neg h, if_neg h]
theorem FnExactDoAct : laws_FnExactDoAct.Pure := by
  intro xs d _ hxs _
  unfold laws_FnExactDoAct.f
  by_cases hx : xs.length ≤ 1048576
  · refine ⟨2097152, ?_⟩
    obtain ⟨n, hn⟩ := szThingS_ex xs
    rw [hn, Option.bind_some]
    split
    · rfl
    · have hm : (xs.map convThing).length ≤ 1048576 := by simpa using hx
      have ht : ∀ k, xs.length < k → laws_toThingS.f k xs = some (xs.map convThing) := fun k hk => toThingS_ok hx hk
      rw [ht _ (by omega), Option.bind_some]
      generalize xs.map convThing = ys at *
      have H1 : ∀ k, 1048580 ≤ k → spec_DoAct.f k ys d = some (doneAct ys d) := fun k hk => specDoAct_ok (by omega) ys d
      have H2 : ∀ k, 1048580 ≤ k → impl_DoAct.f k ys d = some (doneAct ys d) := fun k hk => implDoAct_ok (by omega) hm (by omega) d
      have p3 := doneAct_len ys d
      generalize doneAct ys d = r at *
      obtain ⟨r1, r2⟩ := r
      simp only at p3
      rw [H1 _ (by omega), Option.bind_some, Option.bind_some, H2 _ (by omega), Option.bind_some]
      simp only
      rw [eqThingS_self (by omega) (by omega), Option.bind_some, if_pos rfl]
      simp only [laws_FnExactDoAct.j0, bne_self_eq_false, Bool.false_eq_true, if_false]
      rw [ht _ (by omega), Option.bind_some, eqThingS_self (by omega) (by omega), Option.bind_some, if_pos rfl, markThingS_ok (by omega) (by omega), Option.bind_some, if_neg (by simp only; omega),
        eqThingS_self (by omega) (by omega), Option.bind_some, if_pos rfl]
      simp only [laws_FnExactDoAct.j1, bne_self_eq_false, Bool.false_eq_true, if_false]
      rw [markThingS_ok (by omega) (by omega), Option.bind_some]
      simp only
      rw [heldThingS_ok (by omega) (by omega), Option.bind_some, if_neg (by omega), if_pos rfl, ht _ (by omega), Option.bind_some, H2 _ (by omega), Option.bind_some]
      simp only
      rw [eqThingS_self (by omega) (by omega), Option.bind_some, if_pos rfl]
      simp only [laws_FnExactDoAct.j2, bne_self_eq_false, Bool.false_eq_true, if_false]
      rw [heldThingS_ok (by omega) (by omega), Option.bind_some, if_neg (by omega), if_pos rfl]
  · refine ⟨1, ?_⟩
    rw [szThingS_far (by omega) hxs]
    rfl
end Go.Proofs.Ytogpednapceljaa.Pure
