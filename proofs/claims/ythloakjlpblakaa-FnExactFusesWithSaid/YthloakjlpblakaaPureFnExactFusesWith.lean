/- FusesWith: the program's answer is the reference's. Conditions: none. -/
import Derived.Test.YthloakjlpblakaaPAx6
import Derived.Test.YthloakjlpblakaaMir
set_option linter.unusedVariables false
set_option linter.unusedSimpArgs false
namespace Go.Proofs.Ythloakjlpblakaa.Pure
open Go.RowKit Go.Proofs.Ythloakjlpblakaa.PA Go.Proofs.YthloakjlpblakaaW.PrintWords Go.Proofs.YthloakjlpblakaaW.PrintLast
def mFuses (k : Nat) (a0 : Int) : Option (Int × Bool) := (mTab.f k a0).bind fun t => (if 0 ≤ a0 then (if a0 < (t.length : Int) then (spec_FusesWith.l0 k (rd_L4 t a0) 0 0) else (none)) else (none))
theorem specF (a c : Int) (h0 : 0 ≤ a) (h8 : a ≤ 8) (h : mFuses 4000 a = some (c, true)) : spec_FusesWith.f 4000 a = some (c, true) := by
  unfold spec_FusesWith.f spec_l6Ropes.f spec_l1In.f
  rw [if_pos h0]
  simp only [decide_eq_true h8, Option.bind_some, if_true, mTabF_eq]
  exact h
theorem lawF (a c : Int) (h0 : 0 ≤ a) (h8 : a ≤ 8) (h : mFuses 4000 a = some (c, true)) (h2 : PB.fusesF a = some (c, true)) : laws_FnExactFusesWith.f 4000 a = some true := by
  unfold laws_FnExactFusesWith.f impl_FusesWith.f
  rw [specF a c h0 h8 h, h2]
  simp
set_option maxRecDepth 100000
theorem m0 : mFuses 4000 0 = some (1, true) := by kernel_rfl
theorem m1 : mFuses 4000 1 = some (1, true) := by kernel_rfl
theorem m2 : mFuses 4000 2 = some (2, true) := by kernel_rfl
theorem m3 : mFuses 4000 3 = some (5, true) := by kernel_rfl
theorem m4 : mFuses 4000 4 = some (12, true) := by kernel_rfl
theorem m5 : mFuses 4000 5 = some (30, true) := by kernel_rfl
theorem m6 : mFuses 4000 6 = some (76, true) := by kernel_rfl
theorem m7 : mFuses 4000 7 = some (197, true) := by kernel_rfl
theorem m8 : mFuses 4000 8 = some (520, true) := by kernel_rfl
theorem i0 : PB.fusesF 0 = some (1, true) := by kernel_rfl
theorem i1 : PB.fusesF 1 = some (1, true) := by kernel_rfl
theorem i2 : PB.fusesF 2 = some (2, true) := by kernel_rfl
theorem i3 : PB.fusesF 3 = some (5, true) := by kernel_rfl
theorem i4 : PB.fusesF 4 = some (12, true) := by kernel_rfl
theorem i5 : PB.fusesF 5 = some (30, true) := by kernel_rfl
theorem i6 : PB.fusesF 6 = some (76, true) := by kernel_rfl
theorem i7 : PB.fusesF 7 = some (197, true) := by kernel_rfl
theorem i8 : PB.fusesF 8 = some (520, true) := by kernel_rfl
theorem FnExactFusesWith : laws_FnExactFusesWith.Pure := by
  intro a _
  by_cases h : 0 ≤ a ∧ a ≤ 8
  · refine ⟨4000, ?_⟩
    have hc : a = 0 ∨ a = 1 ∨ a = 2 ∨ a = 3 ∨ a = 4 ∨ a = 5 ∨ a = 6 ∨ a = 7 ∨ a = 8 := by omega
    rcases hc with rfl | rfl | rfl | rfl | rfl | rfl | rfl | rfl | rfl
    · exact lawF 0 1 (by decide) (by decide) m0 i0
    · exact lawF 1 1 (by decide) (by decide) m1 i1
    · exact lawF 2 2 (by decide) (by decide) m2 i2
    · exact lawF 3 5 (by decide) (by decide) m3 i3
    · exact lawF 4 12 (by decide) (by decide) m4 i4
    · exact lawF 5 30 (by decide) (by decide) m5 i5
    · exact lawF 6 76 (by decide) (by decide) m6 i6
    · exact lawF 7 197 (by decide) (by decide) m7 i7
    · exact lawF 8 520 (by decide) (by decide) m8 i8
  · refine ⟨0, ?_⟩
    have hs : spec_l6Ropes.f a = some false := by
      unfold spec_l6Ropes.f spec_l1In.f
      by_cases h0 : a ≥ 0
      · rw [if_pos h0, decide_eq_false (by omega)]; rfl
      · rw [if_neg h0]; rfl
    unfold laws_FnExactFusesWith.f spec_FusesWith.f impl_FusesWith.f PB.fusesF
    rw [hs, if_neg h]
    simp
end Go.Proofs.Ythloakjlpblakaa.Pure
