/- What both readers of fuses answer. Conditions: those each lemma names. -/
import Derived.Test.YthloakjlpblakaaDoorFT
set_option linter.unusedVariables false
set_option linter.unusedSimpArgs false
namespace Go.Proofs.YthloakjlpblakaaDoor.Pure
open Go.RowKit Go.Proofs.YthloakjlpblakaaDoor.PA Go.Proofs.YthloakjlpblakaaDoor.PB Go.Proofs.YthloakjlpblakaaDoorW.PrintWords Go.Proofs.YthloakjlpblakaaDoorW.PrintLast Go.Proofs.YthloakjlpblakaaDoorW.PrintMore

/-- A fuse's text, as a list. -/
def txt : FT → List UInt8
  | .spark => [46]
  | .node _ _ a b => 40 :: (txt a ++ (txt b ++ [41]))
theorem text_BL : ∀ t : FT, t.text = BL (txt t)
  | .spark => rfl
  | .node _ _ a b => by
    show ((BL [40] ++ a.text) ++ b.text) ++ BL [41] = _
    rw [text_BL a, text_BL b, BL_app, BL_app, BL_app]
    congr 1
    simp [txt]
theorem txt_len (t : FT) : (txt t).length = 3 * t.ropes + 1 := by
  have := t.text_size
  rw [text_BL, BL_size] at this
  exact this
theorem join_ok {k : Nat} (hk : BIG ≤ k) {a b : FT} (ha : FOk a) (hb : FOk b) : FT.join k (some a) (some b) = some (if a.ropes + b.ropes < 8 then (match half a.time b.time with
    | some z => some (.node z.1 z.2 a b)
    | none => none) else none) := by
  unfold FT.join
  by_cases h : a.ropes + b.ropes < 8
  · simp only [if_pos h]
    rw [fused_ok hk ha.small hb.small, Option.bind_some]
    unfold halfA
    cases half a.time b.time <;> rfl
  · simp only [if_neg h]
theorem bt_head (c : UInt8) (m : List UInt8) : bt (BL (c :: m)) 0 = (c.toNat : Int) := BL_bt (c :: m) 0 c rfl
theorem cut_tail (c : UInt8) (m : List UInt8) : (BL (c :: m)).extract 1 (BL (c :: m)).size = BL m := by rw [BL_cut]; rfl
theorem toNat_ne {c d : UInt8} (h : c ≠ d) : ¬ (c.toNat : Int) = (d.toNat : Int) := by
  intro e
  exact h (UInt8.toNat_inj.1 (by omega))
theorem fpre_head (c d : UInt8) (m : List UInt8) : fpre (BL (c :: m)) d = (c == d) := by
  rw [fpre_BL]; simp
theorem fpre_nil (d : UInt8) : fpre (BL []) d = false := by rw [fpre_BL]; rfl

theorem wadd (a b : Nat) (h : a + b ≤ 9000000000) : wrap64 ((a : Int) + (b : Int)) = ((a + b : Nat) : Int) := by rw [w64 (by omega) (by omega)]; push_cast; rfl
theorem wadd1 (b : Nat) (h : b ≤ 8000000000) : wrap64 (1 + (b : Int)) = ((1 + b : Nat) : Int) := by rw [w64 (by omega) (by omega)]; push_cast; rfl
theorem wadd2 (a : Nat) (h : a ≤ 8000000000) : wrap64 ((a : Int) + 1) = ((a + 1 : Nat) : Int) := by rw [w64 (by omega) (by omega)]; push_cast; rfl
theorem read_nil (n k k' : Nat) (hk : 2 ≤ k') : ∃ rest q1 q2 q3 q4, readF k (n + 1) (BL []) = some (none, rest) ∧ spec_l6Read.f k' (BL []) = some (q1, q2, q3, q4, false) := by
  obtain ⟨j, rfl⟩ : ∃ j, k' = j + 1 + 1 := ⟨k' - 2, by omega⟩
  refine ⟨⟨#[]⟩, 0, 0, 0, 0, ?_, ?_⟩
  · rw [readF, fpre_nil, if_neg Bool.false_ne_true, fpre_nil, if_neg Bool.false_ne_true]
  · rw [spec_l6Read.f, if_pos (BL_toList []), spec_l6Read.j0, if_pos rfl]
/-- Both readers: a fuse at the beginning, or none. -/
theorem read_go (B : Nat) (hJ : ∀ {k : Nat} {a b : FT}, B ≤ k → FOk a → FOk b → FT.join k (some a) (some b) = some (if a.ropes + b.ropes < 8 then (match half a.time b.time with
    | some z => some (.node z.1 z.2 a b)
    | none => none) else none)) (hH : ∀ {k : Nat} {x y : Int × Int}, B + 1 ≤ k → Small x → Small y → spec_l6Half.f k x.1 x.2 y.1 y.2 = some (halfA x y)) : ∀ (N : Nat) (l : List UInt8), l.length ≤ N → l.length ≤ 1000000 → ∀ n k k' : Nat, N < n → B ≤ k → B + 3 * N + 4 ≤ k' →
    (∃ a rest, readF k n (BL l) = some (some a, BL rest) ∧ FOk a ∧ l = txt a ++ rest ∧ spec_l6Read.f k' (BL l) = some (a.time.1, a.time.2, (a.ropes : Int), ((txt a).length : Int), true)) ∨
    (∃ rest q1 q2 q3 q4, readF k n (BL l) = some (none, rest) ∧ spec_l6Read.f k' (BL l) = some (q1, q2, q3, q4, false)) := by
  intro N
  induction N with
  | zero =>
    intro l hl _ n k k' hn hk hk'
    obtain rfl : l = [] := List.length_eq_zero_iff.1 (by omega)
    obtain ⟨n, rfl⟩ : ∃ j, n = j + 1 := ⟨n - 1, by omega⟩
    exact Or.inr (read_nil n k k' (by omega))
  | succ N ih =>
    intro l hl hl2 n k k' hn hk hk'
    obtain ⟨n, rfl⟩ : ∃ j, n = j + 1 := ⟨n - 1, by omega⟩
    cases l with
    | nil => exact Or.inr (read_nil n k k' (by omega))
    | cons c m =>
      obtain ⟨k3, rfl⟩ : ∃ j, k' = j + 1 + 1 + 1 := ⟨k' - 3, by omega⟩
      have hk3 : B + 3 * N + 4 ≤ k3 := by omega
      have hm : m.length ≤ N := by simpa using hl
      have hm2 : m.length ≤ 1000000 := by simp only [List.length_cons] at hl2; omega
      have z1 : (0 : Int) < ((BL (c :: m)).size : Int) := by rw [BL_size]; simp only [List.length_cons]; omega
      have z2 : (1 : Int) ≤ ((BL (c :: m)).size : Int) := by omega
      have zl : ¬ (BL (c :: m)).toList = ([] : List UInt8) := by rw [BL_toList]; simp
      have e6 : ((46 : UInt8).toNat : Int) = 46 := rfl
      have e0 : ((40 : UInt8).toNat : Int) = 40 := rfl
      by_cases h46 : c = 46
      · subst h46
        refine Or.inl ⟨.spark, m, ?_, trivial, rfl, ?_⟩
        · rw [readF, fpre_head, if_pos (beq_self_eq_true _), cut_tail]
        · rw [spec_l6Read.f, if_neg zl, if_pos z1, bt_head, if_pos e6, spec_l6Read.j0, if_neg Bool.false_ne_true, if_pos z1, bt_head, if_pos e6]
          rfl
      · have n46 : ¬ (c.toNat : Int) = 46 := toNat_ne h46
        by_cases h40 : c = 40
        · subst h40
          have r0 : readF k (n + 1) (BL (40 :: m)) = (readF k n (BL m)).bind fun x =>
              match x.1 with
              | none => some (none, ⟨#[]⟩)
              | some a => (readF k n x.2).bind fun y => (FT.join k (some a) y.1).bind fun z =>
                match z with
                | some f => if fpre y.2 41 = true then some (some f, y.2.extract 1 y.2.size) else some (none, ⟨#[]⟩)
                | none => some (none, ⟨#[]⟩) := by
            rw [readF, fpre_head, if_neg (by decide), fpre_head, if_pos (beq_self_eq_true _), cut_tail]
            rfl
          have s0 : spec_l6Read.f (k3 + 1 + 1 + 1) (BL (40 :: m)) = (spec_l6Read.f (k3 + 1) (BL m)).bind fun bt133 => (if bt133.2.2.2.2 = true then (spec_l6Read.j1 (k3 + 1) (BL (40 :: m)) (decide (bt133.2.2.1 ≥ 8)) bt133.1 bt133.2.1 bt133.2.2.1 bt133.2.2.2.1) else (spec_l6Read.j1 (k3 + 1) (BL (40 :: m)) true bt133.1 bt133.2.1 bt133.2.2.1 bt133.2.2.2.1)) := by
            rw [spec_l6Read.f, if_neg zl, if_pos z1, bt_head, if_neg n46, spec_l6Read.j0, if_neg (by decide), if_pos z1, bt_head, if_neg n46, if_pos z2, cut_tail]
          rw [r0, s0]
          have jt : ∀ q1 q2 q3 q4, spec_l6Read.j1 (k3 + 1) (BL (40 :: m)) true q1 q2 q3 q4 = some (0, 0, 0, 0, false) := fun _ _ _ _ => by rw [spec_l6Read.j1, if_pos rfl]
          rcases ih m hm hm2 n k (k3 + 1) (by omega) hk (by omega) with ⟨a, r1, i1, i2, i3, i4⟩ | ⟨r1, q1, q2, q3, q4, i1, i4⟩
          · rw [i1, i4, Option.bind_some, Option.bind_some]
            simp only [if_true]
            have ra := i2.ropes
            have la := txt_len a
            have lm : m.length = (txt a).length + r1.length := by rw [i3, List.length_append]
            by_cases h8 : (a.ropes : Int) ≥ 8
            · rw [decide_eq_true h8, jt]
              rcases ih r1 (by omega) (by omega) n k k3 (by omega) hk hk3 with ⟨b, r2, j1, j2, j3, j4⟩ | ⟨r2, p1, p2, p3, p4, j1, j4⟩
              · rw [j1, Option.bind_some, hJ hk i2 j2, if_neg (by omega), Option.bind_some]
                exact Or.inr ⟨_, _, _, _, _, rfl, rfl⟩
              · rw [j1, Option.bind_some]
                exact Or.inr ⟨_, _, _, _, _, rfl, rfl⟩
            · have y1 : (0 : Int) ≤ ((1 + (txt a).length : Nat) : Int) := by omega
              have y2 : ((1 + (txt a).length : Nat) : Int) ≤ ((BL (40 :: m)).size : Int) := by rw [BL_size, List.length_cons]; omega
              have y3 : (BL (40 :: m)).extract (((1 + (txt a).length : Nat) : Int)).toNat (BL (40 :: m)).size = BL r1 := by
                rw [BL_cut, Int.toNat_natCast]
                congr 1
                rw [i3, Nat.add_comm, List.drop_succ_cons, List.drop_append_of_le_length (Nat.le_refl _), List.drop_length, List.nil_append]
              rw [decide_eq_false h8, spec_l6Read.j1, if_neg Bool.false_ne_true, wadd1 _ (by omega), if_pos y1, if_pos y2, y3]
              clear y1 y2 y3 jt
              rcases ih r1 (by omega) (by omega) n k k3 (by omega) hk hk3 with ⟨b, r2, j1, j2, j3, j4⟩ | ⟨r2, p1, p2, p3, p4, j1, j4⟩
              · rw [j1, j4, Option.bind_some, Option.bind_some, hJ hk i2 j2, Option.bind_some]
                simp only [if_true]
                have rb := j2.ropes
                have lb := txt_len b
                have lr : r1.length = (txt b).length + r2.length := by rw [j3, List.length_append]
                rw [wadd _ _ (by omega), wadd _ _ (by omega)]
                by_cases h9 : a.ropes + b.ropes < 8
                · rw [if_pos h9, if_neg (by omega)]
                  cases r2 with
                  | nil =>
                    rw [if_pos (by rw [BL_size, List.length_cons]; simp only [List.length_nil] at lr; omega), fpre_nil]
                    refine Or.inr ?_
                    cases half a.time b.time with
                    | none => exact ⟨_, _, _, _, _, rfl, rfl⟩
                    | some z => exact ⟨_, _, _, _, _, rfl, rfl⟩
                  | cons d r3 =>
                    simp only [List.length_cons] at lr
                    have hg : (40 :: m)[1 + (txt a).length + (txt b).length]? = some d := by
                      rw [i3, j3, show 1 + (txt a).length + (txt b).length = ((txt a).length + (txt b).length) + 1 from by omega, List.getElem?_cons_succ, List.getElem?_append_right (by omega), List.getElem?_append_right (by omega)]
                      rw [show (txt a).length + (txt b).length - (txt a).length - (txt b).length = 0 from by omega]
                      rfl
                    have y6 : ((1 + (txt a).length + (txt b).length : Nat) : Int) < ((BL (40 :: m)).size : Int) := by rw [BL_size, List.length_cons]; omega
                    rw [if_neg (by omega), if_pos (by omega), if_pos y6, BL_bt _ _ d hg, fpre_head]
                    by_cases h41 : d = 41
                    · subst h41
                      have e1 : ((41 : UInt8).toNat : Int) = 41 := rfl
                      rw [if_pos e1, hH (by omega) i2.small j2.small, Option.bind_some]
                      unfold halfA
                      cases hz : half a.time b.time with
                      | none => exact Or.inr ⟨_, _, _, _, _, rfl, rfl⟩
                      | some z =>
                        refine Or.inl ⟨.node z.1 z.2 a b, r3, ?_, ⟨h9, hz, i2, j2⟩, ?_, ?_⟩
                        · simp only [beq_self_eq_true, if_true, cut_tail]
                        · rw [i3, j3]; simp [txt]
                        · have w5 : (1 + (txt a).length + (txt b).length) + 1 = (txt (.node z.1 z.2 a b)).length := by
                            simp only [txt, List.length_cons, List.length_append, List.length_nil]; omega
                          rw [wadd2 _ (by omega), wadd2 _ (by omega), w5]
                          rfl
                    · have n41 : ¬ (d.toNat : Int) = 41 := toNat_ne h41
                      rw [if_neg n41]
                      have nd : (d == 41) = false := by simpa using h41
                      refine Or.inr ?_
                      rw [nd]
                      cases half a.time b.time with
                      | none => exact ⟨_, _, _, _, _, rfl, rfl⟩
                      | some z => exact ⟨_, _, _, _, _, rfl, rfl⟩
                · rw [if_neg h9, if_pos (by omega)]
                  exact Or.inr ⟨_, _, _, _, _, rfl, rfl⟩
              · rw [j1, j4, Option.bind_some, Option.bind_some]
                exact Or.inr ⟨_, _, _, _, _, rfl, rfl⟩
          · rw [i1, i4, Option.bind_some, Option.bind_some]
            simp only [Bool.false_eq_true, if_false, jt]
            exact Or.inr ⟨_, _, _, _, _, rfl, rfl⟩
        · have n40 : ¬ (c.toNat : Int) = 40 := toNat_ne h40
          refine Or.inr ⟨⟨#[]⟩, 0, 0, 0, 0, ?_, ?_⟩
          · rw [readF, fpre_head, if_neg (by simpa using h46), fpre_head, if_neg (by simpa using h40)]
          · rw [spec_l6Read.f, if_neg zl, if_pos z1, bt_head, if_neg n46, show ((c.toNat : Int) != 40) = true from by simpa using n40, spec_l6Read.j0, if_pos rfl]
end Go.Proofs.YthloakjlpblakaaDoor.Pure
