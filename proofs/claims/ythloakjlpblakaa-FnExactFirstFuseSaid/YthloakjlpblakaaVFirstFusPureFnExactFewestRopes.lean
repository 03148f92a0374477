/- FewestRopes and FirstFuse: the program's answers are the reference's. Conditions: none. -/
import Derived.Test.YthloakjlpblakaaVFirstFusMirF
import Derived.Test.YthloakjlpblakaaVFirstFusFracF
import Derived.Test.YthloakjlpblakaaVFirstFusFirstA
import Derived.Test.YthloakjlpblakaaVFirstFusFirstB
set_option linter.unusedVariables false
set_option linter.unusedSimpArgs false
namespace Go.Proofs.Ythloakjlpblakaa.Pure
open Go.RowKit Go.Proofs.Ythloakjlpblakaa.PF Go.Proofs.YthloakjlpblakaaW.PrintWords Go.Proofs.YthloakjlpblakaaW.PrintLast
theorem up {α : Type} {f : Nat → Option α} (h : ∀ k, LeO (f k) (f (k + 1))) (k : Nat) : ∀ d, LeO (f k) (f (k + d))
  | 0 => LeO.refl _
  | d + 1 => fun r hr => h (k + d) r (up h k d r hr)
/-- Fractions: both sides tell the same. -/
theorem fracs {k : Nat} (hk : BIG ≤ k) (a b : Int) : ∃ q, spec_l6Fraction.f k a b = some q ∧ PB.impl_isFraction.f k a b = some q := by
  unfold spec_l6Fraction.f PB.impl_isFraction.f spec_l1In.f PB.impl_within.f
  by_cases h1 : -1000000 ≤ a ∧ a ≤ 1000000
  · by_cases h2 : 1 ≤ b ∧ b ≤ 1000000
    · rw [if_pos h2.1, decide_eq_true h2.2, if_pos h1.1, decide_eq_true h1.2]
      simp only [Option.bind_some, if_true]
      rw [l2Cut_ok hk (by omega) (by omega) (by omega), mx_abs (by omega), impl_gcd_ok hk (by omega) (by omega) (by omega), gcd_abs]
      refine ⟨_, rfl, ?_⟩
      simp only [Option.bind_some]
      congr 1
      by_cases hg : Int.gcd a b = 1
      · have := cut_cop (show 0 < b by omega) hg
        rw [this, hg]; simp
      · have hc : ¬ (cut a b = (a, b)) := fun e => hg ((cut_self_iff (by omega)).1 e)
        have h3 : ((Int.gcd a b : Int) == 1) = false := by rw [Bool.eq_false_iff]; intro e; rw [beq_iff_eq] at e; exact hg (by omega)
        rw [h3]
        symm
        rw [Bool.eq_false_iff]
        intro e
        rw [Bool.and_eq_true, beq_iff_eq, beq_iff_eq] at e
        exact hc (Prod.ext e.1 e.2)
    · refine ⟨false, ?_, ?_⟩
      · by_cases h3 : b ≥ 1
        · rw [if_pos h3, decide_eq_false (by omega)]; rfl
        · rw [if_neg h3]; rfl
      · rw [if_pos h1.1, decide_eq_true h1.2]
        simp only [Option.bind_some, if_true]
        by_cases h3 : b ≥ 1
        · rw [if_pos h3, decide_eq_false (by omega)]; rfl
        · rw [if_neg h3]; rfl
  · refine ⟨false, ?_, ?_⟩
    · by_cases h2 : 1 ≤ b ∧ b ≤ 1000000
      · rw [if_pos h2.1, decide_eq_true h2.2]
        simp only [Option.bind_some, if_true]
        by_cases h3 : a ≥ -1000000
        · rw [if_pos h3, decide_eq_false (by omega)]; rfl
        · rw [if_neg h3]; rfl
      · by_cases h3 : b ≥ 1
        · rw [if_pos h3, decide_eq_false (by omega)]; rfl
        · rw [if_neg h3]; rfl
    · by_cases h3 : a ≥ -1000000
      · rw [if_pos h3, decide_eq_false (by omega)]; rfl
      · rw [if_neg h3]; rfl
theorem tab_ok : (mTab.f 4000 8).map (fun T => T.length == 9 && T.all (fun l => decide (l.length ≤ 100) && l.all (fun x => PB.TS.any (fun t => x.f0.f0 == t.1 && (x.f0.f1 == t.2))))) = some true := by
  set_option maxRecDepth 100000 in kernel_rfl
theorem find_not (a b : Int) (hn : ∀ t ∈ PB.TS, ¬ (t.1 = a ∧ t.2 = b)) (k : Nat) (hk : 5000 ≤ k) : spec_l6Find.f k a b = some (-1, ⟨#[]⟩) := by
  obtain ⟨T, hT, hq⟩ := Option.map_eq_some_iff.mp tab_ok
  rw [Bool.and_eq_true, beq_iff_eq] at hq
  have h1 : spec_l6Table.f 4000 8 = some T := by rw [mTabF_eq]; exact hT
  have h2 : spec_l6Table.f k 8 = some T := by
    have := up (f := fun k => spec_l6Table.f k 8) (spec_l6Table.mono 8) 4000 (k - 4000) T h1
    rwa [show 4000 + (k - 4000) = k by omega] at this
  have hs : ∀ l ∈ T, l.length ≤ 100 ∧ noT a b l := by
    intro l hl
    have h3 := List.all_eq_true.1 hq.2 l hl
    rw [Bool.and_eq_true, decide_eq_true_eq] at h3
    refine ⟨h3.1, fun x hx => ?_⟩
    obtain ⟨t, ht, he⟩ := List.any_eq_true.1 (List.all_eq_true.1 h3.2 x hx)
    rw [Bool.and_eq_true, beq_iff_eq, beq_iff_eq] at he
    rw [Bool.eq_false_iff]
    intro hc
    rw [Bool.and_eq_true, beq_iff_eq, beq_iff_eq] at hc
    exact hn t ht ⟨he.1.symm.trans hc.1, he.2.symm.trans hc.2⟩
  unfold spec_l6Find.f
  rw [h2, Option.bind_some]
  have := find_none T a b hq.1 hs 9 0 (k - 102 * 9 - 1) rfl
  rw [show k - 102 * 9 - 1 + 102 * 9 + 1 = k by omega] at this
  exact this
theorem first_not (a b : Int) (hn : ∀ t ∈ PB.TS, ¬ (t.1 = a ∧ t.2 = b)) (k : Nat) (hk : BIG ≤ k) : ∃ q, spec_l6Fraction.f k a b = some q ∧ PB.firstF k a b = some none := by
  obtain ⟨q, h1, h2⟩ := fracs hk a b
  refine ⟨q, h1, ?_⟩
  unfold PB.firstF
  rw [h2, Option.bind_some]
  cases q with
  | false => rfl
  | true =>
    obtain ⟨o, ho, _⟩ := Option.map_eq_some_iff.mp PB.all8_times
    rw [if_pos rfl, ho, Option.map_some, PB.first_none o ho a b hn]
def mFind (k : Nat) (a b : Int) : Option (Int × ByteArray) := (mTab.f k 8).bind fun T => spec_l6Find.l0 k T 0 a b
theorem mFind_eq (k : Nat) (a b : Int) : spec_l6Find.f k a b = mFind k a b := by
  unfold spec_l6Find.f mFind; rw [mTabF_eq]
def mFirst (k : Nat) (a b : Int) : Option (ByteArray × Bool) := (spec_l6Fraction.f k a b).bind fun t => (if t = true then ((mFind k a b).bind fun bt => (some (bt.2, decide (bt.1 ≥ 0)))) else (some ((⟨#[]⟩ : ByteArray), false)))
theorem mFirst_eq (k : Nat) (a b : Int) : spec_FirstFuse.f k a b = mFirst k a b := by
  unfold spec_FirstFuse.f mFirst; rw [mFind_eq]
def okFirst (t : Int × Int) : Bool := match mFirst 4000 t.1 t.2, PB.firstTF 4000 t.1 t.2 with
  | some (x, y), some (x2, y2) => decide (x2.data.toList = x.data.toList) && (y2 == y)
  | _, _ => false
end Go.Proofs.Ythloakjlpblakaa.Pure
