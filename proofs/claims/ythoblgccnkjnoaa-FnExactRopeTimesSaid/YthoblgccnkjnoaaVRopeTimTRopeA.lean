/- Ropes in plain numbers: lit, told, burnt; program and reference. Conditions: those each lemma names. -/
import Derived.Test.YthoblgccnkjnoaaVRopeTimPTx0
import Derived.Test.YthoblgccnkjnoaaVRopeTimPTx1
import Derived.Test.YthoblgccnkjnoaaVRopeTimPTx2
import Derived.Test.YthoblgccnkjnoaaVRopeTimPTx3
import Derived.Test.YthoblgccnkjnoaaVRopeTimPTx4
import Derived.Test.YthoblgccnkjnoaaVRopeTimPTx5
import Derived.Test.YthoblgccnkjnoaaVRopeTimPTx6
import Derived.Test.YthoblgccnkjnoaaVRopeTimPTx7
import Derived.Test.YthoblgccnkjnoaaVRopeTimPTx8
import Derived.Test.YthoblgccnkjnoaaVRopeTimPTx9
import Derived.Test.YthoblgccnkjnoaaVRopeTimPTx10
import Derived.Test.YthoblgccnkjnoaaVRopeTimPTx11
import Derived.Test.YthoblgccnkjnoaaVRopeTimPTx12
import Derived.Test.YthoblgccnkjnoaaVRopeTimPTx13
import Derived.Test.YthoblgccnkjnoaaVRopeTimPTx14
import Derived.Test.YthoblgccnkjnoaaVRopeTimPTx15
import Derived.Test.YthoblgccnkjnoaaVRopeTimPTx16
import Derived.Test.YthoblgccnkjnoaaVRopeTimPTx17
import Derived.Test.YthoblgccnkjnoaaVRopeTimLists
set_option linter.unusedVariables false
set_option linter.unusedSimpArgs false
namespace Go.Proofs.Ythoblgccnkjnoaa.Pure
open Go.RowKit Go.Proofs.Ythoblgccnkjnoaa.PT Go.Proofs.Ythoblgccnkjnoaa.PL Go.Proofs.YthoblgccnkjnoaaW.PrintWords Go.Proofs.YthoblgccnkjnoaaW.PrintLast Go.Proofs.YthoblgccnkjnoaaW.PrintMore

structure Rp where
  l0 : Int
  l1 : Int
  l2 : Int
  e0 : Int
  e1 : Int
  e2 : Int
/-- One place that is valid. -/
def gP (l e : Int) : Prop := 0 ≤ l ∧ l ≤ 3840 ∧ 0 ≤ e ∧ e ≤ 2 ∧ (l = 0 → e = 0)
instance (l e : Int) : Decidable (gP l e) := by unfold gP; infer_instance
def Rp.good (r : Rp) : Prop := gP r.l0 r.e0 ∧ gP r.l1 r.e1 ∧ gP r.l2 r.e2
theorem within_eq (a b c : Int) : impl_within.f a b c = some (decide (b ≤ a ∧ a ≤ c)) := by
  unfold impl_within.f
  by_cases h : a ≥ b
  · rw [if_pos h]; congr 1; rw [decide_eq_decide]; omega
  · rw [if_neg h]; congr 1; symm; rw [decide_eq_false_iff_not]; omega
theorem in_eq (a b c : Int) : spec_l1In.f a b c = some (decide (b ≤ a ∧ a ≤ c)) := by
  unfold spec_l1In.f
  by_cases h : a ≥ b
  · rw [if_pos h]; congr 1; rw [decide_eq_decide]; omega
  · rw [if_neg h]; congr 1; symm; rw [decide_eq_false_iff_not]; omega
theorem place_i {α : Type} (l e : Int) (F : Bool → Option α) : ((impl_within.f l 0 3840).bind fun t => if t = true then ((impl_within.f e 0 2).bind fun t => if t = true then (if l = 0 then F (e != 0) else F false) else F true) else F true) = F (!decide (gP l e)) := by
  rw [within_eq, Option.bind_some]
  by_cases h1 : 0 ≤ l ∧ l ≤ 3840
  · rw [if_pos (decide_eq_true h1), within_eq, Option.bind_some]
    by_cases h2 : 0 ≤ e ∧ e ≤ 2
    · rw [if_pos (decide_eq_true h2)]
      by_cases h3 : l = 0
      · rw [if_pos h3]
        by_cases h4 : e = 0
        · have g : gP l e := ⟨h1.1, h1.2, h2.1, h2.2, fun _ => h4⟩
          rw [decide_eq_true g, h4]; rfl
        · have g : ¬ gP l e := fun g => h4 (g.2.2.2.2 h3)
          rw [decide_eq_false g]
          have : (e != 0) = true := by simpa using h4
          rw [this]; rfl
      · rw [if_neg h3]
        have g : gP l e := ⟨h1.1, h1.2, h2.1, h2.2, fun h => absurd h h3⟩
        rw [decide_eq_true g]; rfl
    · have g : ¬ gP l e := fun g => h2 ⟨g.2.2.1, g.2.2.2.1⟩
      rw [if_neg (by simpa using h2), decide_eq_false g]; rfl
  · have g : ¬ gP l e := fun g => h1 ⟨g.1, g.2.1⟩
    rw [if_neg (by simpa using h1), decide_eq_false g]; rfl
theorem place_s {α : Type} (l e : Int) (F : Bool → Option α) : ((spec_l1In.f l 0 3840).bind fun t => if t = true then ((spec_l1In.f e 0 2).bind fun t => if t = true then (if l = 0 then F (decide (e > 0)) else F false) else F true) else F true) = F (!decide (gP l e)) := by
  rw [in_eq, Option.bind_some]
  by_cases h1 : 0 ≤ l ∧ l ≤ 3840
  · rw [if_pos (decide_eq_true h1), in_eq, Option.bind_some]
    by_cases h2 : 0 ≤ e ∧ e ≤ 2
    · rw [if_pos (decide_eq_true h2)]
      by_cases h3 : l = 0
      · rw [if_pos h3]
        by_cases h4 : e = 0
        · have g : gP l e := ⟨h1.1, h1.2, h2.1, h2.2, fun _ => h4⟩
          rw [decide_eq_true g, h4]; rfl
        · have g : ¬ gP l e := fun g => h4 (g.2.2.2.2 h3)
          rw [decide_eq_false g, decide_eq_true (show e > 0 by omega)]; rfl
      · rw [if_neg h3]
        have g : gP l e := ⟨h1.1, h1.2, h2.1, h2.2, fun h => absurd h h3⟩
        rw [decide_eq_true g]; rfl
    · have g : ¬ gP l e := fun g => h2 ⟨g.2.2.1, g.2.2.2.1⟩
      rw [if_neg (by simpa using h2), decide_eq_false g]; rfl
  · have g : ¬ gP l e := fun g => h1 ⟨g.1, g.2.1⟩
    rw [if_neg (by simpa using h1), decide_eq_false g]; rfl
/-- Whether ropes are valid. -/
def goodB (r : Rp) : Bool := decide (gP r.l0 r.e0) && (decide (gP r.l1 r.e1) && decide (gP r.l2 r.e2))
theorem goodB_iff (r : Rp) : goodB r = true ↔ r.good := by simp [goodB, Rp.good]
theorem isRopes_eq (k : Nat) (r : Rp) : impl_IsRopes.f (k + 3) r.l0 r.l1 r.l2 r.e0 r.e1 r.e2 = some (goodB r) := by
  refine (place_i r.l0 r.e0 (fun x => impl_IsRopes.j0 (k + 3) x r.l0 r.l1 r.l2 r.e0 r.e1 r.e2)).trans ?_
  unfold goodB
  cases decide (gP r.l0 r.e0)
  · rfl
  · show impl_IsRopes.j0 (k + 2 + 1) false r.l0 r.l1 r.l2 r.e0 r.e1 r.e2 = _
    rw [impl_IsRopes.j0, if_neg Bool.false_ne_true]
    refine (place_i r.l1 r.e1 (fun x => impl_IsRopes.j1 (k + 2) x r.l0 r.l1 r.l2 r.e0 r.e1 r.e2)).trans ?_
    cases decide (gP r.l1 r.e1)
    · rfl
    · show impl_IsRopes.j1 (k + 1 + 1) false r.l0 r.l1 r.l2 r.e0 r.e1 r.e2 = _
      rw [impl_IsRopes.j1, if_neg Bool.false_ne_true]
      refine (place_i r.l2 r.e2 (fun x => impl_IsRopes.j2 (k + 1) x)).trans ?_
      cases decide (gP r.l2 r.e2) <;> rfl
theorem l5Good_eq (k : Nat) (r : Rp) : spec_l5Good.f (k + 3) r.l0 r.l1 r.l2 r.e0 r.e1 r.e2 = some (goodB r) := by
  refine (place_s r.l0 r.e0 (fun x => spec_l5Good.j0 (k + 3) x r.l0 r.l1 r.l2 r.e0 r.e1 r.e2)).trans ?_
  unfold goodB
  cases decide (gP r.l0 r.e0)
  · rfl
  · show spec_l5Good.j0 (k + 2 + 1) false r.l0 r.l1 r.l2 r.e0 r.e1 r.e2 = _
    rw [spec_l5Good.j0, if_neg Bool.false_ne_true]
    refine (place_s r.l1 r.e1 (fun x => spec_l5Good.j1 (k + 2) x r.l0 r.l1 r.l2 r.e0 r.e1 r.e2)).trans ?_
    cases decide (gP r.l1 r.e1)
    · rfl
    · show spec_l5Good.j1 (k + 1 + 1) false r.l0 r.l1 r.l2 r.e0 r.e1 r.e2 = _
      rw [spec_l5Good.j1, if_neg Bool.false_ne_true]
      refine (place_s r.l2 r.e2 (fun x => spec_l5Good.j2 (k + 1) x)).trans ?_
      cases decide (gP r.l2 r.e2) <;> rfl
/-- A place at which so many ends can't be lit. -/
def badP (l e n : Int) : Bool := !decide (0 ≤ n ∧ n ≤ 2) || (decide (wrap64 (e + n) > 2) || (decide (l = 0) && decide (n ≠ 0)))
theorem lightP_i {α : Type} (l e n : Int) (F : Bool → Option α) : ((impl_within.f n 0 2).bind fun t => if t = true then (if wrap64 (e + n) > 2 then F true else (if l = 0 then F (n != 0) else F false)) else F true) = F (badP l e n) := by
  rw [within_eq, Option.bind_some]
  unfold badP
  by_cases h1 : 0 ≤ n ∧ n ≤ 2
  · rw [if_pos (decide_eq_true h1), decide_eq_true h1]
    by_cases h2 : wrap64 (e + n) > 2
    · rw [if_pos h2, decide_eq_true h2]; rfl
    · rw [if_neg h2, decide_eq_false h2]
      by_cases h3 : l = 0
      · rw [if_pos h3, decide_eq_true h3]
        by_cases h4 : n = 0
        · have e1 : (n != 0) = false := by simpa using h4
          rw [e1, decide_eq_false (not_not_intro h4)]; rfl
        · have e1 : (n != 0) = true := by simpa using h4
          rw [e1, decide_eq_true h4]; rfl
      · rw [if_neg h3, decide_eq_false h3]; rfl
  · rw [if_neg (by simpa using h1), decide_eq_false h1]; rfl
theorem lightP_s {α : Type} (l e n : Int) (F : Bool → Option α) : ((spec_l1In.f n 0 2).bind fun t => if t = true then (if l = 0 then (if n > 0 then F true else F (decide (wrap64 (e + n) > 2))) else F (decide (wrap64 (e + n) > 2))) else F true) = F (badP l e n) := by
  rw [in_eq, Option.bind_some]
  unfold badP
  by_cases h1 : 0 ≤ n ∧ n ≤ 2
  · rw [if_pos (decide_eq_true h1), decide_eq_true h1]
    by_cases h3 : l = 0
    · rw [if_pos h3, decide_eq_true h3]
      by_cases h4 : n = 0
      · rw [if_neg (by omega), decide_eq_false (not_not_intro h4)]
        cases decide (wrap64 (e + n) > 2) <;> rfl
      · rw [if_pos (by omega), decide_eq_true h4]
        cases decide (wrap64 (e + n) > 2) <;> rfl
    · rw [if_neg h3, decide_eq_false h3]
      cases decide (wrap64 (e + n) > 2) <;> rfl
  · rw [if_neg (by simpa using h1), decide_eq_false h1]; rfl
/-- The ropes behind a lighting, if it can be made. -/
def lightA (r : Rp) (n : S22) : Option Rp := if (badP r.l0 r.e0 n.f0 || (badP r.l1 r.e1 n.f1 || badP r.l2 r.e2 n.f2)) = true then none else some ⟨r.l0, r.l1, r.l2, wrap64 (r.e0 + n.f0), wrap64 (r.e1 + n.f1), wrap64 (r.e2 + n.f2)⟩
def out7 : Option Rp → Int × Int × Int × Int × Int × Int × Bool
  | none => (0, 0, 0, 0, 0, 0, false)
  | some r => (r.l0, r.l1, r.l2, r.e0, r.e1, r.e2, true)
theorem light_i (k : Nat) (r : Rp) (n : S22) : impl_Ropes_light.f (k + 3) r.l0 r.l1 r.l2 r.e0 r.e1 r.e2 n.f0 n.f1 n.f2 = some (out7 (lightA r n)) := by
  refine (lightP_i r.l0 r.e0 n.f0 (fun x => impl_Ropes_light.j0 (k + 3) n.f0 x r.l0 r.l1 r.l2 r.e0 r.e1 r.e2 n.f0 n.f1 n.f2)).trans ?_
  unfold lightA
  cases badP r.l0 r.e0 n.f0
  · show impl_Ropes_light.j0 (k + 2 + 1) n.f0 false r.l0 r.l1 r.l2 r.e0 r.e1 r.e2 n.f0 n.f1 n.f2 = _
    rw [impl_Ropes_light.j0, if_neg Bool.false_ne_true]
    refine (lightP_i r.l1 r.e1 n.f1 (fun x => impl_Ropes_light.j1 (k + 2) n.f1 x r.l0 r.l1 r.l2 (wrap64 (r.e0 + n.f0)) r.e1 r.e2 n.f0 n.f1 n.f2)).trans ?_
    cases badP r.l1 r.e1 n.f1
    · show impl_Ropes_light.j1 (k + 1 + 1) n.f1 false r.l0 r.l1 r.l2 (wrap64 (r.e0 + n.f0)) r.e1 r.e2 n.f0 n.f1 n.f2 = _
      rw [impl_Ropes_light.j1, if_neg Bool.false_ne_true]
      refine (lightP_i r.l2 r.e2 n.f2 (fun x => impl_Ropes_light.j2 (k + 1) n.f2 x r.l0 r.l1 r.l2 (wrap64 (r.e0 + n.f0)) (wrap64 (r.e1 + n.f1)) r.e2)).trans ?_
      cases badP r.l2 r.e2 n.f2 <;> rfl
    · rfl
  · rfl
theorem light_s (k : Nat) (r : Rp) (n : S22) : spec_l5Light.f (k + 3) r.l0 r.l1 r.l2 r.e0 r.e1 r.e2 n.f0 n.f1 n.f2 = some (out7 (lightA r n)) := by
  refine (lightP_s r.l0 r.e0 n.f0 (fun x => spec_l5Light.j0 (k + 3) x r.l0 r.l1 r.l2 r.e0 r.e1 r.e2 n.f0 n.f1 n.f2)).trans ?_
  unfold lightA
  cases badP r.l0 r.e0 n.f0
  · show spec_l5Light.j0 (k + 2 + 1) false r.l0 r.l1 r.l2 r.e0 r.e1 r.e2 n.f0 n.f1 n.f2 = _
    rw [spec_l5Light.j0, if_neg Bool.false_ne_true]
    refine (lightP_s r.l1 r.e1 n.f1 (fun x => spec_l5Light.j1 (k + 2) x r.l0 r.l1 r.l2 (wrap64 (r.e0 + n.f0)) r.e1 r.e2 n.f0 n.f1 n.f2)).trans ?_
    cases badP r.l1 r.e1 n.f1
    · show spec_l5Light.j1 (k + 1 + 1) false r.l0 r.l1 r.l2 (wrap64 (r.e0 + n.f0)) r.e1 r.e2 n.f0 n.f1 n.f2 = _
      rw [spec_l5Light.j1, if_neg Bool.false_ne_true]
      refine (lightP_s r.l2 r.e2 n.f2 (fun x => spec_l5Light.j2 (k + 1) x r.l0 r.l1 r.l2 (wrap64 (r.e0 + n.f0)) (wrap64 (r.e1 + n.f1)) r.e2 n.f0 n.f1 n.f2)).trans ?_
      cases badP r.l2 r.e2 n.f2 <;> rfl
    · rfl
  · rfl
/-- The halves until the next burning out: place by place. -/
def upd (s l e : Int) : Int := if e = 0 then s else if s = 0 ∨ wrap64 (Int.tdiv (wrap64 (2 * l)) e) < s then wrap64 (Int.tdiv (wrap64 (2 * l)) e) else s
def halvesA (r : Rp) : Int := upd (upd (upd 0 r.l0 r.e0) r.l1 r.e1) r.l2 r.e2
def toldA (r : Rp) : Int := if Int.tmod (halvesA r) 2 = 0 then wrap64 (Int.tdiv (halvesA r) 2) else 0
theorem halves_j2 (k : Nat) (s l0 l1 l2 e0 e1 e2 : Int) : impl_Ropes_halves.j2 (k + 3) s l0 l1 l2 e0 e1 e2 = some (upd s l2 e2) := by
  rw [impl_Ropes_halves.j2]
  unfold upd
  by_cases h : e2 = 0
  · rw [if_pos h, if_pos h]; rfl
  · rw [if_neg h, if_neg h]
    by_cases h2 : s = 0
    · rw [if_pos h2, if_pos (.inl h2)]; rfl
    · rw [if_neg h2]
      by_cases h3 : wrap64 (Int.tdiv (wrap64 (2 * l2)) e2) < s
      · rw [decide_eq_true h3, if_pos (.inr h3)]; rfl
      · rw [decide_eq_false h3, if_neg (fun h => h.elim h2 h3)]; rfl
theorem halves_j0 (k : Nat) (s l0 l1 l2 e0 e1 e2 : Int) : impl_Ropes_halves.j0 (k + 5) s l0 l1 l2 e0 e1 e2 = some (upd (upd s l1 e1) l2 e2) := by
  rw [impl_Ropes_halves.j0]
  conv => rhs; arg 1; arg 1; unfold upd
  by_cases h : e1 = 0
  · rw [if_pos h, if_pos h]; exact halves_j2 (k + 1) _ _ _ _ _ _ _
  · rw [if_neg h, if_neg h]
    by_cases h2 : s = 0
    · rw [if_pos h2, if_pos (.inl h2), impl_Ropes_halves.j1, if_pos rfl]; exact halves_j2 k _ _ _ _ _ _ _
    · rw [if_neg h2]
      by_cases h3 : wrap64 (Int.tdiv (wrap64 (2 * l1)) e1) < s
      · rw [decide_eq_true h3, if_pos (.inr h3), impl_Ropes_halves.j1, if_pos rfl]; exact halves_j2 k _ _ _ _ _ _ _
      · rw [decide_eq_false h3, if_neg (fun h => h.elim h2 h3), impl_Ropes_halves.j1, if_neg Bool.false_ne_true]; exact halves_j2 k _ _ _ _ _ _ _
theorem told_i (k : Nat) (r : Rp) : impl_Ropes_told.f (k + 5) r.l0 r.l1 r.l2 r.e0 r.e1 r.e2 = some (toldA r) := by
  have h : impl_Ropes_halves.f (k + 5) r.l0 r.l1 r.l2 r.e0 r.e1 r.e2 = some (halvesA r) := by
    unfold impl_Ropes_halves.f halvesA
    conv => rhs; arg 1; arg 1; arg 1; unfold upd
    by_cases h : r.e0 = 0
    · rw [if_pos h, if_pos h]; exact halves_j0 k _ _ _ _ _ _ _
    · rw [if_neg h, if_neg h, if_pos (.inl rfl)]; exact halves_j0 k _ _ _ _ _ _ _
  unfold impl_Ropes_told.f toldA
  rw [h, Option.bind_some]
  split <;> rfl
theorem next_j4 (k : Nat) (s : Int) (hs : 0 ≤ s) : spec_l5Next.j4 (k + 1) s = some (if Int.tmod s 2 = 0 then wrap64 (Int.tdiv s 2) else 0) := by
  rw [spec_l5Next.j4]
  by_cases h : Int.tmod s 2 = 1
  · rw [if_pos h, if_neg (by omega)]
  · rw [if_neg h, if_pos (by rw [Int.tmod_eq_emod_of_nonneg hs] at h ⊢; omega)]
theorem next_j2 (k : Nat) (s l0 l1 l2 e0 e1 e2 : Int) (he : 0 ≤ e2) (hs : 0 ≤ upd s l2 e2) : spec_l5Next.j2 (k + 3) s l0 l1 l2 e0 e1 e2 = some (if Int.tmod (upd s l2 e2) 2 = 0 then wrap64 (Int.tdiv (upd s l2 e2) 2) else 0) := by
  rw [spec_l5Next.j2]
  revert hs
  unfold upd
  by_cases h : e2 = 0
  · rw [if_neg (show ¬ e2 > 0 by omega), if_pos h]
    exact fun hs => next_j4 (k + 1) s hs
  · rw [if_pos (show e2 > 0 by omega), if_neg h, if_neg h]
    by_cases h2 : s = 0
    · rw [if_pos h2, if_pos (.inl h2), spec_l5Next.j3, if_pos rfl]
      exact fun hs => next_j4 k _ hs
    · rw [if_neg h2]
      by_cases h3 : wrap64 (Int.tdiv (wrap64 (2 * l2)) e2) < s
      · rw [decide_eq_true h3, if_pos (.inr h3), spec_l5Next.j3, if_pos rfl]
        exact fun hs => next_j4 k _ hs
      · rw [decide_eq_false h3, if_neg (fun h => h.elim h2 h3), spec_l5Next.j3, if_neg Bool.false_ne_true]
        exact fun hs => next_j4 k _ hs
theorem next_j0 (k : Nat) (s l0 l1 l2 e0 e1 e2 : Int) (h1 : 0 ≤ e1) (h2 : 0 ≤ e2) (hs : 0 ≤ upd (upd s l1 e1) l2 e2) : spec_l5Next.j0 (k + 5) s l0 l1 l2 e0 e1 e2 = some (if Int.tmod (upd (upd s l1 e1) l2 e2) 2 = 0 then wrap64 (Int.tdiv (upd (upd s l1 e1) l2 e2) 2) else 0) := by
  rw [spec_l5Next.j0]
  generalize hu : upd s l1 e1 = u at hs ⊢
  unfold upd at hu
  by_cases h : e1 = 0
  · rw [if_pos h] at hu
    subst hu
    rw [if_neg (show ¬ e1 > 0 by omega)]
    exact next_j2 (k + 1) _ _ _ _ _ _ _ h2 hs
  · rw [if_neg h] at hu
    rw [if_pos (show e1 > 0 by omega), if_neg h]
    by_cases h4 : s = 0
    · rw [if_pos (.inl h4)] at hu
      subst hu
      rw [if_pos h4, spec_l5Next.j1, if_pos rfl]
      exact next_j2 k _ _ _ _ _ _ _ h2 hs
    · rw [if_neg h4]
      by_cases h3 : wrap64 (Int.tdiv (wrap64 (2 * l1)) e1) < s
      · rw [if_pos (.inr h3)] at hu
        subst hu
        rw [decide_eq_true h3, spec_l5Next.j1, if_pos rfl]
        exact next_j2 k _ _ _ _ _ _ _ h2 hs
      · rw [if_neg (fun h => h.elim h4 h3)] at hu
        subst hu
        rw [decide_eq_false h3, spec_l5Next.j1, if_neg Bool.false_ne_true]
        exact next_j2 k _ _ _ _ _ _ _ h2 hs
theorem next_s (k : Nat) (r : Rp) (h0 : 0 ≤ r.e0) (h1 : 0 ≤ r.e1) (h2 : 0 ≤ r.e2) (hs : 0 ≤ halvesA r) : spec_l5Next.f (k + 5) r.l0 r.l1 r.l2 r.e0 r.e1 r.e2 = some (toldA r) := by
  unfold spec_l5Next.f toldA halvesA
  unfold halvesA at hs
  generalize hu : upd 0 r.l0 r.e0 = u at hs ⊢
  unfold upd at hu
  by_cases h : r.e0 = 0
  · rw [if_pos h] at hu
    subst hu
    rw [if_neg (show ¬ r.e0 > 0 by omega)]
    exact next_j0 k _ _ _ _ _ _ _ h1 h2 hs
  · rw [if_neg h, if_pos (.inl rfl)] at hu
    subst hu
    rw [if_pos (show r.e0 > 0 by omega), if_neg h]
    exact next_j0 k _ _ _ _ _ _ _ h1 h2 hs
/-- The ropes when so many ticks have passed. -/
def leftA (l e d : Int) : Int := wrap64 (l - wrap64 (d * e))
def endA (l e d : Int) : Int := if leftA l e d = 0 then 0 else e
def burnA (r : Rp) (d : Int) : Rp := ⟨leftA r.l0 r.e0 d, leftA r.l1 r.e1 d, leftA r.l2 r.e2 d, endA r.l0 r.e0 d, endA r.l1 r.e1 d, endA r.l2 r.e2 d⟩
def out6 (r : Rp) : Int × Int × Int × Int × Int × Int := (r.l0, r.l1, r.l2, r.e0, r.e1, r.e2)
theorem burn_i (k : Nat) (r : Rp) (d : Int) : impl_Ropes_burn.f (k + 3) r.l0 r.l1 r.l2 r.e0 r.e1 r.e2 d = some (out6 (burnA r d)) := by
  unfold impl_Ropes_burn.f out6 burnA endA leftA
  by_cases h0 : wrap64 (r.l0 - wrap64 (d * r.e0)) = 0 <;> by_cases h1 : wrap64 (r.l1 - wrap64 (d * r.e1)) = 0 <;> by_cases h2 : wrap64 (r.l2 - wrap64 (d * r.e2)) = 0 <;>
    simp [impl_Ropes_burn.j0, impl_Ropes_burn.j1, impl_Ropes_burn.j2, h0, h1, h2]
theorem burn_s (k : Nat) (r : Rp) (d : Int) : spec_l5Burn.f (k + 3) r.l0 r.l1 r.l2 r.e0 r.e1 r.e2 d = some (out6 (burnA r d)) := by
  unfold spec_l5Burn.f out6 burnA endA leftA
  by_cases h0 : wrap64 (r.l0 - wrap64 (d * r.e0)) = 0 <;> by_cases h1 : wrap64 (r.l1 - wrap64 (d * r.e1)) = 0 <;> by_cases h2 : wrap64 (r.l2 - wrap64 (d * r.e2)) = 0 <;>
    simp [spec_l5Burn.j0, spec_l5Burn.j1, spec_l5Burn.j2, h0, h1, h2]
end Go.Proofs.Ythoblgccnkjnoaa.Pure
