/- A text that is a fuse, and the fuse that it tells. Conditions: those each lemma names. -/
import Derived.Test.YthloakjlpblakaaDoorFR
set_option linter.unusedVariables false
set_option linter.unusedSimpArgs false
namespace Go.Proofs.YthloakjlpblakaaDoor.Pure
open Go.RowKit Go.Proofs.YthloakjlpblakaaDoor.PA Go.Proofs.YthloakjlpblakaaDoor.PB Go.Proofs.YthloakjlpblakaaDoorW.PrintWords Go.Proofs.YthloakjlpblakaaDoorW.PrintLast Go.Proofs.YthloakjlpblakaaDoorW.PrintMore

/-- The readers meet, at enough rounds. -/
theorem read_both {B : Nat} (hB : B = BIG) (N : Nat) (l : List UInt8) (hl : l.length ≤ N) (h2 : l.length ≤ 1000000) (n k k' : Nat) (hn : N < n) (hk : B ≤ k) (hk' : B + 3 * N + 4 ≤ k') :
    (∃ a rest, readF k n (BL l) = some (some a, BL rest) ∧ FOk a ∧ l = txt a ++ rest ∧ spec_l6Read.f k' (BL l) = some (a.time.1, a.time.2, (a.ropes : Int), ((txt a).length : Int), true)) ∨
    (∃ rest q1 q2 q3 q4, readF k n (BL l) = some (none, rest) ∧ spec_l6Read.f k' (BL l) = some (q1, q2, q3, q4, false)) :=
  read_go B (fun h => join_ok (hB ▸ h)) (fun h => l6Half_ok (hB ▸ h)) N l hl h2 n k k' hn hk hk'
theorem parse_all {B k : Nat} (hB : B = BIG) (s : ByteArray) (hk : B + 1000 ≤ k) : (∃ a, parseF k s = some (some a) ∧ FOk a ∧ s = BL (txt a) ∧ spec_l6All.f k s = some (a.time.1, a.time.2, (a.ropes : Int), ((txt a).length : Int), true)) ∨
    (parseF k s = some none ∧ ∃ q1 q2 q3 q4, spec_l6All.f k s = some (q1, q2, q3, q4, false)) := by
  obtain ⟨l, rfl⟩ := BL_of s
  unfold parseF spec_l6All.f
  by_cases h33 : ((BL l).size : Int) > 33
  · rw [if_pos h33, if_pos (by omega)]
    exact Or.inr ⟨rfl, _, _, _, _, rfl⟩
  · rw [if_neg h33]
    have hl : l.length ≤ 33 := by rw [BL_size] at h33; omega
    rcases read_both hB 33 l hl (by omega) k k k (by omega) (by omega) (by omega) with ⟨a, rest, e1, e2, e3, e4⟩ | ⟨rest, q1, q2, q3, q4, e1, e4⟩
    · have la := txt_len a
      have ra := e2.ropes
      have ll : l.length = (txt a).length + rest.length := by rw [e3, List.length_append]
      by_cases hr : rest = []
      · subst hr
        simp only [List.length_nil] at ll
        have hz : ¬ ((BL l).size : Int) > 25 := by rw [BL_size]; omega
        refine Or.inl ⟨a, ?_, e2, ?_, ?_⟩
        · rw [e1, Option.bind_some, if_pos (BL_toList [])]
        · rw [e3, List.append_nil]
        · rw [if_neg hz, e4, Option.bind_some, if_pos rfl]
          have : (((txt a).length : Int) == ((BL l).size : Int)) = true := by rw [BL_size]; simp; omega
          simp only [this]
      · have hn : ¬ (BL rest).toList = [] := by rw [BL_toList]; exact hr
        refine Or.inr ⟨?_, ?_⟩
        · rw [e1, Option.bind_some, if_neg hn]
        · split
          · exact ⟨_, _, _, _, rfl⟩
          · have h0 : rest.length ≠ 0 := fun h => hr (List.length_eq_zero_iff.1 h)
            have : (((txt a).length : Int) == ((BL l).size : Int)) = false := by rw [BL_size]; simp; omega
            rw [e4, Option.bind_some, if_pos rfl]
            simp only [this]
            exact ⟨_, _, _, _, rfl⟩
    · refine Or.inr ⟨?_, ?_⟩
      · rw [e1, Option.bind_some]
        simp only [ite_self]
      · split
        · exact ⟨_, _, _, _, rfl⟩
        · rw [e4, Option.bind_some, if_neg Bool.false_ne_true]
          exact ⟨_, _, _, _, rfl⟩

/-- A fuse's own text is read as that fuse. -/
theorem read_text {k : Nat} (hk : BIG ≤ k) : ∀ (a : FT), FOk a → ∀ (rest : List UInt8) (n : Nat), a.ropes < n → readF k n (BL (txt a ++ rest)) = some (some a, BL rest)
  | .spark, _, rest, n, hn => by
    obtain ⟨n, rfl⟩ : ∃ j, n = j + 1 := ⟨n - 1, by omega⟩
    show readF k (n + 1) (BL (46 :: rest)) = _
    rw [readF, fpre_head, if_pos (beq_self_eq_true _), cut_tail]
  | .node p q a b, ⟨h1, h2, h3, h4⟩, rest, n, hn => by
    obtain ⟨n, rfl⟩ : ∃ j, n = j + 1 := ⟨n - 1, by omega⟩
    simp only [FT.ropes] at hn
    have e : txt (.node p q a b) ++ rest = 40 :: (txt a ++ (txt b ++ (41 :: rest))) := by simp [txt]
    rw [e, readF, fpre_head, if_neg (by decide), fpre_head, if_pos (beq_self_eq_true _), cut_tail, read_text hk a h3 _ n (by omega), Option.bind_some]
    simp only
    rw [read_text hk b h4 _ n (by omega), Option.bind_some, join_ok hk h3 h4, if_pos h1, h2, Option.bind_some]
    simp only
    rw [fpre_head, if_pos (beq_self_eq_true _), cut_tail]
theorem spec_text {B k : Nat} (hB : B = BIG) {a : FT} (ha : FOk a) (rest : List UInt8) (hl : (txt a ++ rest).length ≤ 1000) (hk : B + 3004 ≤ k) :
    spec_l6Read.f k (BL (txt a ++ rest)) = some (a.time.1, a.time.2, (a.ropes : Int), ((txt a).length : Int), true) := by
  have ra := ha.ropes
  have h0 := read_text (k := B) (Nat.le_of_eq hB.symm) a ha rest 1001 (by omega)
  rcases read_both hB 1000 _ hl (by omega) 1001 B k (by omega) (Nat.le_refl _) (by omega) with ⟨a', rest', e1, e2, e3, e4⟩ | ⟨rest', q1, q2, q3, q4, e1, e4⟩
  · rw [h0] at e1
    obtain ⟨h5, h6⟩ := Prod.mk.inj (Option.some.inj e1)
    obtain rfl := Option.some.inj h5
    exact e4
  · rw [h0] at e1
    cases (Prod.mk.inj (Option.some.inj e1)).1
end Go.Proofs.YthloakjlpblakaaDoor.Pure
