/- Fractions in order: lists of them, without repetition. Conditions: those each lemma names. -/
import Derived.Test.YtkefphfjeodgnaaVMeetingsRatio
import Derived.Test.YtkefphfjeodgnaaVMeetingsBurning
import Derived.Test.YtkefphfjeodgnaaVMeetingsListsJ
set_option linter.unusedVariables false
set_option linter.unusedSimpArgs false
namespace Go.Proofs.Ytkefphfjeodgnaa.Pure
open Go.RowKit Go.Proofs.Ytkefphfjeodgnaa.PA Go.Proofs.Ytkefphfjeodgnaa.PL Go.Proofs.YtkefphfjeodgnaaW.PrintWords Go.Proofs.YtkefphfjeodgnaaW.PrintLast Go.Proofs.YtkefphfjeodgnaaW.PrintMore

/-- What a line of a candle comes to, in whole numbers. -/
theorem burnsAt_iff2 {a b c t u : Int} (h : Cand a b c) (hu : 0 < u) (ht : c * u ≤ t) : burnsAt ⟨a, b, c⟩ t u = decide (t * b < (c * b + a) * u) := by
  unfold Cand at h
  unfold burnsAt
  simp only
  have h1 : ¬ t * 1 < c * u := by omega
  rw [decide_eq_false h1, Bool.not_false, Bool.true_and, decide_eq_decide]
  exact cut_lt (by omega)
theorem big_pos2 : 1000 ≤ BIG := by decide
theorem overN_ok2 {k : Nat} (hk : BIG ≤ k) {a b : Int} (hb : b ≠ 0) (ha : a.natAbs ≤ 4611686018427387904) (hb2 : b.natAbs ≤ 4611686018427387904) : impl_over.f k a b = some (if b < 0 then cut (-a) (-b) else cut a b) := by
  by_cases h : b < 0
  · unfold impl_over.f
    rw [if_pos h, if_pos h, w64 (by omega) (by omega), w64 (by omega) (by omega), reduced_ok hk (by omega) (by omega) (by omega)]
    rfl
  · rw [if_neg h]
    exact over_ok hk (by omega) ha (by omega)
theorem S28.ext2 {x y : S28} (h0 : x.f0 = y.f0) (h1 : x.f1 = y.f1) : x = y := by
  cases x; cases y; simp only at h0 h1; rw [h0, h1]
/-- A pair without a common divisor, its lower number positive. -/
def Fr (x : S28) : Prop := 0 < x.f1 ∧ Int.gcd x.f0 x.f1 = 1
def lt (x y : S28) : Prop := x.f0 * y.f1 < y.f0 * x.f1
instance (x y : S28) : Decidable (lt x y) := by unfold lt; infer_instance
theorem lt_irrefl (x : S28) : ¬ lt x x := by unfold lt; omega
theorem lt_asymm {x y : S28} (h : lt x y) : ¬ lt y x := by unfold lt at *; omega
theorem le_trans_ {x y z : S28} (hx : 0 < x.f1) (hy : 0 < y.f1) (hz : 0 < z.f1) (h1 : x.f0 * y.f1 ≤ y.f0 * x.f1) (h2 : y.f0 * z.f1 ≤ z.f0 * y.f1) : x.f0 * z.f1 ≤ z.f0 * x.f1 := by
  have a := Int.mul_le_mul_of_nonneg_right h1 (Int.le_of_lt hz)
  have b := Int.mul_le_mul_of_nonneg_right h2 (Int.le_of_lt hx)
  have c : (x.f0 * z.f1) * y.f1 ≤ (z.f0 * x.f1) * y.f1 := by
    have e1 : (x.f0 * z.f1) * y.f1 = x.f0 * y.f1 * z.f1 := by grind
    have e2 : (z.f0 * x.f1) * y.f1 = z.f0 * y.f1 * x.f1 := by grind
    have e3 : y.f0 * x.f1 * z.f1 = y.f0 * z.f1 * x.f1 := by grind
    omega
  exact Int.le_of_mul_le_mul_right c hy
theorem fr_eq {x y : S28} (hx : Fr x) (hy : Fr y) (h : x.f0 * y.f1 = y.f0 * x.f1) : x = y := by
  obtain ⟨h1, h2⟩ := cop_unique hx.1 hy.1 hx.2 hy.2 h
  exact S28.ext2 h1 h2
theorem lt_trans_ {x y z : S28} (hx : Fr x) (hy : Fr y) (hz : Fr z) (h1 : lt x y) (h2 : lt y z) : lt x z := by
  unfold lt at *
  have h := le_trans_ hx.1 hy.1 hz.1 (Int.le_of_lt h1) (Int.le_of_lt h2)
  rcases Int.lt_or_le (x.f0 * z.f1) (z.f0 * x.f1) with h3 | h3
  · exact h3
  · have e := fr_eq hx hz (by omega)
    subst e
    omega
def Srt (l : List S28) : Prop := List.Pairwise lt l
theorem srt_ext : ∀ {l m : List S28}, Srt l → Srt m → (∀ x, x ∈ l ↔ x ∈ m) → l = m
  | [], [], _, _, _ => rfl
  | [], y :: m, _, _, h => absurd ((h y).2 (List.mem_cons_self ..)) (by simp)
  | x :: l, [], _, _, h => absurd ((h x).1 (List.mem_cons_self ..)) (by simp)
  | x :: l, y :: m, h1, h2, h => by
    obtain ⟨a1, a2⟩ := List.pairwise_cons.1 h1
    obtain ⟨b1, b2⟩ := List.pairwise_cons.1 h2
    have e : x = y := by
      rcases List.mem_cons.1 ((h x).1 (List.mem_cons_self ..)) with e | e
      · exact e
      · rcases List.mem_cons.1 ((h y).2 (List.mem_cons_self ..)) with f | f
        · exact f.symm
        · exact absurd (a1 y f) (lt_asymm (b1 x e))
    subst e
    have : l = m := by
      refine srt_ext a2 b2 (fun z => ⟨fun hz => ?_, fun hz => ?_⟩)
      · rcases List.mem_cons.1 ((h z).1 (List.mem_cons_of_mem _ hz)) with e | e
        · subst e; exact absurd (a1 z hz) (lt_irrefl z)
        · exact e
      · rcases List.mem_cons.1 ((h z).2 (List.mem_cons_of_mem _ hz)) with e | e
        · subst e; exact absurd (b1 z hz) (lt_irrefl z)
        · exact e
    rw [this]
/-- A time put to its place among others. -/
def ins : List S28 → S28 → List S28
  | [], t => [t]
  | x :: l, t => if lt x t then x :: ins l t else if (x.f0 == t.f0 && x.f1 == t.f1) = true then x :: l else t :: x :: l
theorem ins_lt {x t : S28} {l : List S28} (h : lt x t) : ins (x :: l) t = x :: ins l t := by
  conv => lhs; unfold ins
  rw [if_pos h]
theorem ins_nlt {x t : S28} {l : List S28} (h : ¬ lt x t) : ins (x :: l) t = if (x.f0 == t.f0 && x.f1 == t.f1) = true then x :: l else t :: x :: l := by
  conv => lhs; unfold ins
  rw [if_neg h]
theorem same_iff (x t : S28) : (x.f0 == t.f0 && x.f1 == t.f1) = true ↔ x = t := by
  constructor
  · intro h
    simp only [Bool.and_eq_true, beq_iff_eq] at h
    exact S28.ext2 h.1 h.2
  · rintro rfl; simp
theorem ins_mem {l : List S28} {t x : S28} : x ∈ ins l t ↔ x = t ∨ x ∈ l := by
  induction l with
  | nil => simp [ins]
  | cons y l ih =>
    unfold ins
    by_cases h1 : lt y t
    · rw [if_pos h1, List.mem_cons, ih, List.mem_cons]
      constructor
      · rintro (h | h | h)
        · exact Or.inr (Or.inl h)
        · exact Or.inl h
        · exact Or.inr (Or.inr h)
      · rintro (h | h | h)
        · exact Or.inr (Or.inl h)
        · exact Or.inl h
        · exact Or.inr (Or.inr h)
    · rw [if_neg h1]
      by_cases h2 : (y.f0 == t.f0 && y.f1 == t.f1) = true
      · rw [if_pos h2]
        have := (same_iff y t).1 h2
        subst this
        simp
      · rw [if_neg h2]
        simp
theorem ins_srt {l : List S28} {t : S28} (hl : Srt l) (hf : ∀ x, x ∈ l → Fr x) (ht : Fr t) : Srt (ins l t) := by
  induction l with
  | nil => exact List.pairwise_singleton _ _
  | cons y l ih =>
    obtain ⟨a1, a2⟩ := List.pairwise_cons.1 hl
    have hy := hf y (List.mem_cons_self ..)
    have hl2 : ∀ x, x ∈ l → Fr x := fun x hx => hf x (List.mem_cons_of_mem _ hx)
    unfold ins
    by_cases h1 : lt y t
    · rw [if_pos h1]
      refine List.pairwise_cons.2 ⟨fun z hz => ?_, ih a2 hl2⟩
      rcases ins_mem.1 hz with rfl | hz
      · exact h1
      · exact a1 z hz
    · rw [if_neg h1]
      by_cases h2 : (y.f0 == t.f0 && y.f1 == t.f1) = true
      · rw [if_pos h2]; exact hl
      · rw [if_neg h2]
        have h3 : lt t y := by
          unfold lt at *
          rcases Int.lt_or_le (t.f0 * y.f1) (y.f0 * t.f1) with h | h
          · exact h
          · exact absurd ((same_iff y t).2 (fr_eq hy ht (by omega))) h2
        refine List.pairwise_cons.2 ⟨fun z hz => ?_, hl⟩
        rcases List.mem_cons.1 hz with rfl | hz
        · exact h3
        · exact lt_trans_ ht hy (hl2 z hz) h3 (a1 z hz)
theorem ins_fr {l : List S28} {t : S28} (hf : ∀ x, x ∈ l → Fr x) (ht : Fr t) : ∀ x, x ∈ ins l t → Fr x := by
  intro x hx
  rcases ins_mem.1 hx with rfl | hx
  · exact ht
  · exact hf x hx
theorem ins_len (l : List S28) (t : S28) : (ins l t).length ≤ l.length + 1 := by
  induction l with
  | nil => simp [ins]
  | cons y l ih =>
    unfold ins
    split
    · simp; omega
    · split <;> simp
theorem fr_cut {a b : Int} (hb : 0 < b) : Fr ⟨(cut a b).1, (cut a b).2⟩ := ⟨cut_pos hb, cut_gcd a b hb⟩
theorem fr_cut_eq {x : S28} (hx : Fr x) {a b : Int} (hb : 0 < b) (h : x.f0 * b = a * x.f1) : x = ⟨(cut a b).1, (cut a b).2⟩ := by
  have e := cut_eq hx.1 hb h
  rw [cut_cop hx.1 hx.2] at e
  exact S28.ext2 (congrArg Prod.fst e) (congrArg Prod.snd e)
theorem fr_whole (n : Int) : Fr ⟨n, 1⟩ := ⟨by show (0 : Int) < 1; omega, Int.gcd_one_right _⟩
/-! ### The reference's list of times -/
def Bd (x : S28) : Prop := x.f0.natAbs ≤ 100000 ∧ 1 ≤ x.f1 ∧ x.f1 ≤ 100000
theorem bd_less {x y : S28} (hx : Bd x) (hy : Bd y) : spec_l2Less.f x.f0 x.f1 y.f0 y.f1 = some (decide (lt x y)) ∧ impl_less.f x.f0 x.f1 y.f0 y.f1 = some (decide (lt x y)) := by
  unfold Bd at hx hy
  have a1 : Sm x.f0 100000 := hx.1
  have a2 : Sm x.f1 100000 := sm (by omega) (by omega)
  have b1 : Sm y.f0 100000 := hy.1
  have b2 : Sm y.f1 100000 := sm (by omega) (by omega)
  exact ⟨specLess_ok (a1.mul b2) (b1.mul a2) (by omega) (by omega), implLess_ok (a1.mul b2) (b1.mul a2) (by omega) (by omega)⟩
theorem rd28 {l : List S28} {i : Nat} {x : S28} (h : l[i]? = some x) : rd_T28 l (i : Int) = x := by
  unfold rd_T28
  rw [Int.toNat_natCast, List.getD_eq_getElem?_getD, h]; rfl
theorem times_j2 {k : Nat} {l : List S28} {t : S28} {i : Nat} (hl : l.length ≤ 1000) (hi : i ≤ l.length) (c : Bool) : spec_l7Times.j2 (k + 1) l (i : Int) c t.f0 t.f1 = some (if c = true then l else l.take i ++ t :: l.drop i) := by
  have htl : (l.take i).length = i := by rw [List.length_take]; omega
  have hdl : (l.drop i).length = l.length - i := by rw [List.length_drop]
  simp only [spec_l7Times.j2, Option.bind_some, Int.toNat_natCast, List.nil_append, List.length_append, List.length_nil, List.length_singleton, htl, hdl]
  cases c with
  | true => rfl
  | false =>
    rw [if_neg (by decide), if_pos (by omega), if_pos (by omega), if_pos (by omega), if_pos (by omega), if_pos (by omega), List.append_assoc]
    rfl
theorem times_go {l : List S28} {t : S28} (hl : l.length ≤ 1000) (hb : ∀ x, x ∈ l → Bd x) (ht : Bd t) : ∀ (d k i : Nat), l.length = i + d → 2 * d + 3 ≤ k → spec_l7Times.l0 k l i t.f0 t.f1 = some (l.take i ++ ins (l.drop i) t) := by
  intro d
  induction d with
  | zero =>
    intro k i h1 hk
    obtain ⟨k, rfl⟩ : ∃ m, k = m + 3 := ⟨k - 3, by omega⟩
    have e2 : l.drop i = [] := List.drop_eq_nil_of_le (by omega)
    simp only [spec_l7Times.l0, spec_l7Times.j1]
    rw [if_neg (by omega), if_neg (by decide), if_neg (by omega), times_j2 hl (by omega), e2]
    rfl
  | succ d ih =>
    intro k i h1 hk
    obtain ⟨k, rfl⟩ : ∃ m, k = m + 2 := ⟨k - 2, by omega⟩
    obtain ⟨x, hxx⟩ := at_lt (xs := l) (i := i) (by omega)
    have hd : l.drop i = x :: l.drop (i + 1) := by
      rw [List.drop_eq_getElem_cons (by omega)]
      rw [List.getElem?_eq_getElem (by omega)] at hxx
      cases hxx; rfl
    have hx := hb x (List.mem_of_getElem? hxx)
    have ih' := ih k (i + 1) (by omega) (by omega)
    simp only [spec_l7Times.l0, spec_l7Times.j1, rd28 hxx]
    have g1 : (i : Int) < (l.length : Int) := by omega
    have g0 : (0 : Int) ≤ (i : Int) := by omega
    simp only [g1, g0, if_true]
    rw [(bd_less hx ht).1, Option.bind_some, wrS i (by omega), ih']
    by_cases h2 : lt x t
    · rw [if_pos (decide_eq_true h2), hd, ins_lt h2, List.take_succ_eq_append_getElem (by omega)]
      have : l[i] = x := by rw [List.getElem?_eq_getElem (by omega)] at hxx; exact Option.some.inj hxx
      rw [this, List.append_assoc]; rfl
    · obtain ⟨k, rfl⟩ : ∃ m, k = m + 1 := ⟨k - 1, by omega⟩
      rw [if_neg (by simp [h2]), times_j2 hl (by omega)]
      conv => rhs; rw [hd, ins_nlt h2]
      by_cases h3 : (x.f0 == t.f0 && x.f1 == t.f1) = true
      · rw [if_pos h3, if_pos h3, ← hd, List.take_append_drop]
      · rw [if_neg h3, if_neg h3, hd]
theorem times_ins {k : Nat} {l : List S28} {t : S28} (hl : l.length ≤ 1000) (hb : ∀ x, x ∈ l → Bd x) (ht : Bd t) (hk : 2 * l.length + 3 ≤ k) : spec_l7Times.f k l t.f0 t.f1 = some (ins l t) := by
  unfold spec_l7Times.f
  have := times_go hl hb ht l.length k 0 (by omega) hk
  simpa using this
/-! ### The program's list of times -/
def has (l : List S28) (t : S28) : Bool := l.any fun x => t.f0 == x.f0 && t.f1 == x.f1
theorem has_iff (l : List S28) (t : S28) : has l t = true ↔ t ∈ l := by
  unfold has
  rw [List.any_eq_true]
  constructor
  · rintro ⟨x, hx, h⟩
    rw [(same_iff t x).1 h]; exact hx
  · intro h
    exact ⟨t, h, (same_iff t t).2 rfl⟩
theorem contains_ok {k : Nat} {l : List S28} {t : S28} (hl : l.length ≤ 1000) (hk : l.length < k) : slices_Contains_2_int_2_int.f k l t.f0 t.f1 = some (has l t) := by
  unfold slices_Contains_2_int_2_int.f slices_Index_2_int_2_int.f
  obtain ⟨r, hr, h2⟩ := find_go (fun k xs i => slices_Index_2_int_2_int.l0 k xs (xs.length : Int) i t.f0 t.f1) (fun x => !(t.f0 == x.f0 && t.f1 == x.f1))
    (by
      intro k xs i x hx
      have h1 := lt_of hx
      simp only [slices_Index_2_int_2_int.l0, rd28 hx]
      rw [if_pos (by omega), if_pos (by omega), if_pos (by omega)]
      cases (t.f0 == x.f0 && t.f1 == x.f1) <;> simp)
    (by
      intro k xs i hi
      simp only [slices_Index_2_int_2_int.l0]
      rw [if_neg (by omega)]) l (by omega) l.length k 0 (by omega) hk
  have hr2 : slices_Index_2_int_2_int.l0 k l (l.length : Int) 0 t.f0 t.f1 = some r := hr
  rw [hr2, Option.bind_some, h2, List.drop_zero]
  congr 1
  unfold has
  clear hr hr2 h2 hl hk
  induction l with
  | nil => rfl
  | cons x l ih =>
    rw [List.all_cons, List.any_cons, ← ih]
    cases (t.f0 == x.f0 && t.f1 == x.f1) <;> simp
end Go.Proofs.Ytkefphfjeodgnaa.Pure
