/- FuseLights: the program's list of times is the reference's, for all texts. Conditions: none. -/
import Derived.Test.YthloakjlpblakaaPartsG
import Derived.Test.YthloakjlpblakaaListsJ
set_option linter.unusedVariables false
set_option linter.unusedSimpArgs false
namespace Go.Proofs.Ythloakjlpblakaa.Pure
open Go.RowKit Go.Proofs.Ythloakjlpblakaa.PG Go.Proofs.Ythloakjlpblakaa.PB Go.Proofs.Ythloakjlpblakaa.PL Go.Proofs.YthloakjlpblakaaW.PrintWords Go.Proofs.YthloakjlpblakaaW.PrintLast Go.Proofs.YthloakjlpblakaaW.PrintMore
theorem lights_both (s : ByteArray) : ∃ r : List S27 × Bool, r.1.length ≤ 8 ∧ Ev (fun k => spec_FuseLights.f k s) r ∧ Ev (fun k => impl_FuseLights.f k s) r := by
  obtain ⟨B, hB⟩ : ∃ B, B = BIG := ⟨_, rfl⟩
  have H := fun k (hk : B + 1000 ≤ k) => parse_all (k := k) hB s hk
  rcases H (B + 1000) (Nat.le_refl _) with ⟨a, e1, e2, e3, e4⟩ | ⟨e1, q1, q2, q3, q4, e4⟩
  · have up : ∀ k, B + 1000 ≤ k → parseF k s = some (some a) := fun k hk => parse_up hk e1
    refine ⟨(lts a, true), by rw [lts_len]; exact e2.ropes, ?_, B + 1000, fun k hk => ?_⟩
    · obtain ⟨k0, h0⟩ := li_all hB e2
      refine ⟨k0 + B + 1000, fun k hk => ?_⟩
      show spec_FuseLights.f k s = _
      unfold spec_FuseLights.f spec_IsFuse.f
      rcases H k (by omega) with ⟨a', f1, f2, f3, f4⟩ | ⟨f1, _⟩
      · rw [up k (by omega)] at f1
        obtain rfl := Option.some.inj (Option.some.inj f1)
        rw [Option.bind_some, f4]
        simp only [Option.bind_some, if_true]
        rw [e3]
        exact h0 k (by omega)
      · rw [up k (by omega)] at f1; cases f1
    · show impl_FuseLights.f k s = _
      unfold impl_FuseLights.f lightsF
      rw [up k hk, Option.bind_some]
      simp [lts, sT]
  · have up : ∀ k, B + 1000 ≤ k → parseF k s = some none := fun k hk => parse_up hk e1
    refine ⟨([], false), by simp, ⟨B + 1000, fun k hk => ?_⟩, B + 1000, fun k hk => ?_⟩
    · show spec_FuseLights.f k s = _
      unfold spec_FuseLights.f spec_IsFuse.f
      rcases H k hk with ⟨a', f1, _⟩ | ⟨f1, q1, q2, q3, q4, f4⟩
      · rw [up k hk] at f1; cases f1
      · rw [Option.bind_some, f4]
        simp
    · show impl_FuseLights.f k s = _
      unfold impl_FuseLights.f lightsF
      rw [up k hk, Option.bind_some]
      rfl
theorem FnExactFuseLights : laws_FnExactFuseLights.Pure := by
  intro s _
  obtain ⟨r, hl, ⟨k1, hs⟩, k2, hi⟩ := lights_both s
  simp only at hs hi
  refine ⟨k1 + k2 + 100 + 1 + 1, ?_⟩
  unfold laws_FnExactFuseLights.f
  split
  · rfl
  rw [hs _ (by omega), Option.bind_some, hi _ (by omega), Option.bind_some, eqIntA2S_self (by omega) (by omega), Option.bind_some, if_pos rfl]
  simp only [laws_FnExactFuseLights.j0, bne_self_eq_false, Bool.false_eq_true, if_false]
  rw [markIntA2S_ok (by omega) (by omega), Option.bind_some]
  simp only
  rw [heldIntA2S_ok (by omega) (by omega), Option.bind_some, if_neg (by omega), if_pos rfl, hi _ (by omega), Option.bind_some]
  rw [eqIntA2S_self (by omega) (by omega), Option.bind_some, if_pos rfl]
  simp only [laws_FnExactFuseLights.j1, bne_self_eq_false, Bool.false_eq_true, if_false]
  rw [heldIntA2S_ok (by omega) (by omega), Option.bind_some, if_neg (by omega), if_pos rfl]
end Go.Proofs.Ythloakjlpblakaa.Pure
