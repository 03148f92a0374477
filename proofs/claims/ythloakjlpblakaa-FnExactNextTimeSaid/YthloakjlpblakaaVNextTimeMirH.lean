/- spec.l6Add and spec.l6Table, in a form that the kernel evaluates. Conditions: none. -/
import Derived.Test.YthloakjlpblakaaVNextTimePHx6
set_option linter.unusedVariables false
set_option linter.unusedSimpArgs false
namespace Go.Proofs.Ythloakjlpblakaa.Pure
open Go.RowKit Go.Proofs.Ythloakjlpblakaa.PH Go.Proofs.YthloakjlpblakaaW.PrintWords Go.Proofs.YthloakjlpblakaaW.PrintLast
theorem toList_eq (b : ByteArray) : b.toList = b.data.toList := by
  cases b with
  | mk d => cases d with
    | mk l => exact ByteArray.toList_mk l
mutual
def mAdd.j1 : Nat → List (S54) → Int → Int → Int → Int → ByteArray → Option ((List (S54)))
  | 0, _, _, _, _, _, _ => none
  | k + 1, x0, x5, x143000, x143001, x143002, x143003 => if x5 < (x0.length : Int) then (if 0 ≤ x5 then (mAdd.j2 k x0 x5 (((rd_T54 x0 x5).f0.f0) == x143000 && (((rd_T54 x0 x5).f0.f1) == x143001)) x143000 x143001 x143002 x143003) else (none)) else (mAdd.j2 k x0 x5 false x143000 x143001 x143002 x143003)
def mAdd.j2 : Nat → List (S54) → Int → Bool → Int → Int → Int → ByteArray → Option ((List (S54)))
  | 0, _, _, _, _, _, _, _ => none
  | k + 1, x0, x5, x35, x143000, x143001, x143002, x143003 => if x35 = true then (if 0 ≤ x5 then (if x5 < (x0.length : Int) then ((some (x0.set (x5 : Int).toNat (⟨(⟨(rd_T54 x0 x5).f0.f0, (rd_T54 x0 x5).f0.f1⟩ : S27), wrap64 (((rd_T54 x0 x5).f1) + x143002), (rd_T54 x0 x5).f2⟩ : S54) : List (S54))).bind fun y147 => (if (Op.bytesLess x143003.toList (((rd_T54 y147 x5).f2).data.toList)) = true then (some (y147.set (x5 : Int).toNat (⟨(⟨(rd_T54 y147 x5).f0.f0, (rd_T54 y147 x5).f0.f1⟩ : S27), (rd_T54 y147 x5).f1, x143003⟩ : S54))) else (some y147))) else (none)) else (none)) else ((some (([] : List (S54)) : List (S54))).bind fun y150 => (if 0 ≤ x5 then (if x5 ≤ (x0.length : Int) then ((some (x0.take (x5 : Int).toNat : List (S54))).bind fun y153 => (if y150.length + y153.length < 3518437208883 then ((some (y150 ++ y153 : List (S54))).bind fun y157 => ((some (([(⟨(⟨x143000, x143001⟩ : S27), x143002, x143003⟩ : S54)] : List (S54)) : List (S54))).bind fun y160 => (if y157.length + y160.length < 3518437208883 then ((some (y157 ++ y160 : List (S54))).bind fun y163 => ((some (x0.drop (x5 : Int).toNat : List (S54))).bind fun y166 => (if y163.length + y166.length < 3518437208883 then (some (y163 ++ y166)) else (none)))) else (none)))) else (none))) else (none)) else (none)))
def mAdd.l0 : Nat → List (S54) → Int → Int → Int → Int → ByteArray → Option ((List (S54)))
  | 0, _, _, _, _, _, _ => none
  | k + 1, x0, x5, x143000, x143001, x143002, x143003 => if x5 < (x0.length : Int) then (if 0 ≤ x5 then ((spec_l2Less.f ((rd_T54 x0 x5).f0.f0) ((rd_T54 x0 x5).f0.f1) x143000 x143001).bind fun t144 => (if t144 = true then (mAdd.l0 k x0 (wrap64 (x5 + 1)) x143000 x143001 x143002 x143003) else (mAdd.j1 k x0 x5 x143000 x143001 x143002 x143003))) else (none)) else (mAdd.j1 k x0 x5 x143000 x143001 x143002 x143003)
end
def mAdd.f (k : Nat) (l0 : List (S54)) (a1_0 : Int) (a1_1 : Int) (a1_2 : Int) (a1_3 : ByteArray) : Option ((List (S54))) := mAdd.l0 k l0 0 a1_0 a1_1 a1_2 a1_3

theorem mAdd_eq : ∀ k, (∀ y0 y1 y2 y3 y4 y5, spec_l6Add.j1 k y0 y1 y2 y3 y4 y5 = mAdd.j1 k y0 y1 y2 y3 y4 y5) ∧ (∀ y0 y1 y2 y3 y4 y5 y6, spec_l6Add.j2 k y0 y1 y2 y3 y4 y5 y6 = mAdd.j2 k y0 y1 y2 y3 y4 y5 y6) ∧ (∀ y0 y1 y2 y3 y4 y5, spec_l6Add.l0 k y0 y1 y2 y3 y4 y5 = mAdd.l0 k y0 y1 y2 y3 y4 y5)
  | 0 => by refine ⟨?_, ?_, ?_⟩ <;> intros <;> rfl
  | k + 1 => by
    obtain ⟨h0, h1, h2⟩ := mAdd_eq k
    refine ⟨?_, ?_, ?_⟩
    · intros; rw [spec_l6Add.j1, mAdd.j1]; simp only [h0, h1, h2, toList_eq]
    · intros; rw [spec_l6Add.j2, mAdd.j2]; simp only [h0, h1, h2, toList_eq]
    · intros; rw [spec_l6Add.l0, mAdd.l0]; simp only [h0, h1, h2, toList_eq]
theorem mAddF_eq (k : Nat) (l : List S54) (a b c : Int) (s : ByteArray) : spec_l6Add.f k l a b c s = mAdd.f k l a b c s := (mAdd_eq k).2.2 _ _ _ _ _ _
mutual
def mTab.l0 : Nat → Int → List (List (S54)) → Int → Option ((List (List (S54))))
  | 0, _, _, _ => none
  | k + 1, x0, x3, x4 => if x4 ≤ x0 then (mTab.l1 k x0 x3 x4 (([] : List (S54))) 0) else (some x3)
def mTab.l1 : Nat → Int → List (List (S54)) → Int → List (S54) → Int → Option ((List (List (S54))))
  | 0, _, _, _, _, _ => none
  | k + 1, x0, x3, x4, x5, x6 => if x6 < x4 then (mTab.l2 k x0 x3 x4 x5 x6 0) else (if x3.length < 5864062014805 then (mTab.l0 k x0 (x3 ++ [x5]) (wrap64 (x4 + 1))) else (none))
def mTab.l2 : Nat → Int → List (List (S54)) → Int → List (S54) → Int → Int → Option ((List (List (S54))))
  | 0, _, _, _, _, _, _ => none
  | k + 1, x0, x3, x4, x5, x6, x7 => if 0 ≤ x6 then (if x6 < (x3.length : Int) then (if x7 < ((rd_L4 x3 x6).length : Int) then (mTab.l3 k x0 x3 x4 x5 x6 x7 0) else (mTab.l1 k x0 x3 x4 x5 (wrap64 (x6 + 1)))) else (none)) else (none)
def mTab.l3 : Nat → Int → List (List (S54)) → Int → List (S54) → Int → Int → Int → Option ((List (List (S54))))
  | 0, _, _, _, _, _, _, _ => none
  | k + 1, x0, x3, x4, x5, x6, x7, x8 => if 0 ≤ (wrap64 ((wrap64 (x4 - 1)) - x6)) then (if (wrap64 ((wrap64 (x4 - 1)) - x6)) < (x3.length : Int) then (if x8 < ((rd_L4 x3 (wrap64 ((wrap64 (x4 - 1)) - x6))).length : Int) then (if 0 ≤ x6 then (if x6 < (x3.length : Int) then (if 0 ≤ x7 then (if x7 < ((rd_L4 x3 x6).length : Int) then (if 0 ≤ x8 then ((spec_l6Half.f k ((rd_T54 (rd_L4 x3 x6) x7).f0.f0) ((rd_T54 (rd_L4 x3 x6) x7).f0.f1) ((rd_T54 (rd_L4 x3 (wrap64 ((wrap64 (x4 - 1)) - x6))) x8).f0.f0) ((rd_T54 (rd_L4 x3 (wrap64 ((wrap64 (x4 - 1)) - x6))) x8).f0.f1)).bind fun bt193 => (if bt193.2.2 = true then (if 1 + ((rd_T54 (rd_L4 x3 x6) x7).f2).size ≤ 9223372036854775807 then (if ((⟨#[40]⟩ : ByteArray) ++ ((rd_T54 (rd_L4 x3 x6) x7).f2)).size + ((rd_T54 (rd_L4 x3 (wrap64 ((wrap64 (x4 - 1)) - x6))) x8).f2).size ≤ 9223372036854775807 then (if (((⟨#[40]⟩ : ByteArray) ++ ((rd_T54 (rd_L4 x3 x6) x7).f2)) ++ ((rd_T54 (rd_L4 x3 (wrap64 ((wrap64 (x4 - 1)) - x6))) x8).f2)).size + 1 ≤ 9223372036854775807 then ((mAdd.f k x5 bt193.1 bt193.2.1 (wrap64 (((rd_T54 (rd_L4 x3 x6) x7).f1) * ((rd_T54 (rd_L4 x3 (wrap64 ((wrap64 (x4 - 1)) - x6))) x8).f1))) ((((⟨#[40]⟩ : ByteArray) ++ ((rd_T54 (rd_L4 x3 x6) x7).f2)) ++ ((rd_T54 (rd_L4 x3 (wrap64 ((wrap64 (x4 - 1)) - x6))) x8).f2)) ++ (⟨#[41]⟩ : ByteArray))).bind fun t197 => (mTab.l3 k x0 x3 x4 t197 x6 x7 (wrap64 (x8 + 1)))) else (none)) else (none)) else (none)) else (mTab.l3 k x0 x3 x4 x5 x6 x7 (wrap64 (x8 + 1))))) else (none)) else (none)) else (none)) else (none)) else (none)) else (mTab.l2 k x0 x3 x4 x5 x6 (wrap64 (x7 + 1)))) else (none)) else (none)
end
def mTab.f (k : Nat) (a0 : Int) : Option ((List (List (S54)))) := mTab.l0 k a0 (([(([(⟨(⟨0, 1⟩ : S27), 1, (⟨#[46]⟩ : ByteArray)⟩ : S54)] : List (S54)))] : List (List (S54)))) 1

theorem mTab_eq : ∀ k, (∀ y0 y1 y2, spec_l6Table.l0 k y0 y1 y2 = mTab.l0 k y0 y1 y2) ∧ (∀ y0 y1 y2 y3 y4, spec_l6Table.l1 k y0 y1 y2 y3 y4 = mTab.l1 k y0 y1 y2 y3 y4) ∧ (∀ y0 y1 y2 y3 y4 y5, spec_l6Table.l2 k y0 y1 y2 y3 y4 y5 = mTab.l2 k y0 y1 y2 y3 y4 y5) ∧ (∀ y0 y1 y2 y3 y4 y5 y6, spec_l6Table.l3 k y0 y1 y2 y3 y4 y5 y6 = mTab.l3 k y0 y1 y2 y3 y4 y5 y6)
  | 0 => by refine ⟨?_, ?_, ?_, ?_⟩ <;> intros <;> rfl
  | k + 1 => by
    obtain ⟨h0, h1, h2, h3⟩ := mTab_eq k
    refine ⟨?_, ?_, ?_, ?_⟩
    · intros; rw [spec_l6Table.l0, mTab.l0]; simp only [h0, h1, h2, h3, mAddF_eq]
    · intros; rw [spec_l6Table.l1, mTab.l1]; simp only [h0, h1, h2, h3, mAddF_eq]
    · intros; rw [spec_l6Table.l2, mTab.l2]; simp only [h0, h1, h2, h3, mAddF_eq]
    · intros; rw [spec_l6Table.l3, mTab.l3]; simp only [h0, h1, h2, h3, mAddF_eq]
theorem mTabF_eq (k : Nat) (a : Int) : spec_l6Table.f k a = mTab.f k a := by
  unfold spec_l6Table.f mTab.f
  exact (mTab_eq k).1 _ _ _
end Go.Proofs.Ythloakjlpblakaa.Pure
