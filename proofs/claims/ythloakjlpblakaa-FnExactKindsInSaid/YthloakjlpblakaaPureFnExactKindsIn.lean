/- KindsIn: the program's number is the reference's, for all texts. Conditions: none. -/
import Derived.Test.YthloakjlpblakaaPartsG
set_option linter.unusedVariables false
set_option linter.unusedSimpArgs false
namespace Go.Proofs.Ythloakjlpblakaa.Pure
open Go.RowKit Go.Proofs.Ythloakjlpblakaa.PG Go.Proofs.Ythloakjlpblakaa.PB Go.Proofs.YthloakjlpblakaaW.PrintWords Go.Proofs.YthloakjlpblakaaW.PrintLast Go.Proofs.YthloakjlpblakaaW.PrintMore
theorem kinds_both (s : ByteArray) : ∃ r : Int × Bool, Ev (fun k => spec_KindsIn.f k s) r ∧ Ev (fun k => impl_KindsIn.f k s) r := by
  obtain ⟨B, hB⟩ : ∃ B, B = BIG := ⟨_, rfl⟩
  have H := fun k (hk : B + 1000 ≤ k) => parse_all (k := k) hB s hk
  rcases H (B + 1000) (Nat.le_refl _) with ⟨a, e1, e2, e3, e4⟩ | ⟨e1, q1, q2, q3, q4, e4⟩
  · have up : ∀ k, B + 1000 ≤ k → parseF k s = some (some a) := fun k hk => parse_up hk e1
    refine ⟨((kindsN (nodes a) : Int), true), ?_, B + 1000, fun k hk => ?_⟩
    · obtain ⟨k0, h0⟩ := ki_all hB e2
      refine ⟨k0 + B + 1000, fun k hk => ?_⟩
      show spec_KindsIn.f k s = _
      unfold spec_KindsIn.f spec_IsFuse.f
      rcases H k (by omega) with ⟨a', f1, f2, f3, f4⟩ | ⟨f1, _⟩
      · rw [up k (by omega)] at f1
        obtain rfl := Option.some.inj (Option.some.inj f1)
        rw [f4]
        simp only [Option.bind_some, if_true]
        rw [e3]
        exact h0 k (by omega)
      · rw [up k (by omega)] at f1; cases f1
    · show impl_KindsIn.f k s = _
      unfold impl_KindsIn.f kindsF
      rw [up k hk]
      rfl
  · have up : ∀ k, B + 1000 ≤ k → parseF k s = some none := fun k hk => parse_up hk e1
    refine ⟨(0, false), ⟨B + 1000, fun k hk => ?_⟩, B + 1000, fun k hk => ?_⟩
    · show spec_KindsIn.f k s = _
      unfold spec_KindsIn.f spec_IsFuse.f
      rcases H k hk with ⟨a', f1, _⟩ | ⟨f1, q1, q2, q3, q4, f4⟩
      · rw [up k hk] at f1; cases f1
      · rw [f4]
        simp
    · show impl_KindsIn.f k s = _
      unfold impl_KindsIn.f kindsF
      rw [up k hk]
      rfl
theorem FnExactKindsIn : laws_FnExactKindsIn.Pure := by
  intro s _
  obtain ⟨r, ⟨k1, hs⟩, k2, hi⟩ := kinds_both s
  simp only at hs hi
  refine ⟨k1 + k2, ?_⟩
  unfold laws_FnExactKindsIn.f
  split
  · rfl
  rw [hs _ (by omega), Option.bind_some, hi _ (by omega), Option.bind_some, if_pos rfl, bne_self_eq_false, if_neg (by decide)]
end Go.Proofs.Ythloakjlpblakaa.Pure
