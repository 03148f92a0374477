/- Each instance of one byte replaced by a text: the plain law. Conditions: none. -/
import Derived.Lib.Replace
namespace Go.Proofs.YthloakjlpblakaaDoor.RepL
open Go.Lib
theorem replaceK_cons_ne (b c : UInt8) (l new : List UInt8) (k : Nat) (h : b ≠ c) : replaceK [c] new k (b :: l) = b :: replaceK [c] new k l := by
  cases k with
  | zero => rfl
  | succ k =>
    have hp : ([c] : List UInt8).isPrefixOf (b :: l) = false := by simp [List.isPrefixOf, Ne.symm h]
    have hix : index (b :: l) [c] = if index l [c] == -1 then -1 else index l [c] + 1 := by rw [index, hp]; simp
    by_cases hm : index l [c] = -1
    · rw [replaceK, if_pos (by rw [hix, if_pos (beq_iff_eq.2 hm)]; rfl), replaceK, if_pos (beq_iff_eq.2 hm)]
    · have hge := index_ge l [c]
      obtain ⟨j, hj⟩ : ∃ j : Nat, index l [c] = j := ⟨(index l [c]).toNat, by omega⟩
      have hix' : index (b :: l) [c] = ((j + 1 : Nat) : Int) := by rw [hix, if_neg (fun e => hm (beq_iff_eq.1 e)), hj]; omega
      rw [replaceK_hit [c] new k (b :: l) (j + 1) hix', replaceK_hit [c] new k l j hj]
      simp
theorem replaceK_cons_eq (c : UInt8) (l new : List UInt8) (k : Nat) : replaceK [c] new (k + 1) (c :: l) = new ++ replaceK [c] new k l := by
  have hix : index (c :: l) [c] = ((0 : Nat) : Int) := by rw [index]; simp [List.isPrefixOf]
  rw [replaceK_hit [c] new k (c :: l) 0 hix]
  simp
/-- A text in which each c is another text. -/
def flat (c : UInt8) (new s : List UInt8) : List UInt8 := s.flatMap fun b => if b = c then new else [b]
theorem replaceK_flat (c : UInt8) (new : List UInt8) : ∀ s : List UInt8, replaceK [c] new (s.count c) s = flat c new s
  | [] => rfl
  | b :: l => by
    by_cases h : b = c
    · subst h
      rw [List.count_cons_self, replaceK_cons_eq, replaceK_flat b new l]
      simp [flat]
    · rw [List.count_cons_of_ne (by simpa using h), replaceK_cons_ne b c l new _ h, replaceK_flat c new l]
      simp [flat, h]
theorem flat_self (c : UInt8) : ∀ s : List UInt8, flat c [c] s = s
  | [] => rfl
  | b :: l => by
    have ih := flat_self c l
    unfold flat at ih ⊢
    rw [List.flatMap_cons, ih]
    by_cases h : b = c
    · subst h; rw [if_pos rfl]; rfl
    · rw [if_neg h]; rfl
theorem replaceAll_one (c : UInt8) (new s : List UInt8) : replaceAll s [c] new = flat c new s := by
  unfold replaceAll replace
  by_cases h : ([c] == new) = true
  · rw [if_pos h, ← beq_iff_eq.1 h, flat_self]
  · rw [if_neg h]
    unfold replaceNum
    rw [if_pos (Or.inl (by decide)), count_one, replaceK_flat]
end Go.Proofs.YthloakjlpblakaaDoor.RepL
