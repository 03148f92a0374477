/- DarkSpans: fractions in order, the sort by starts, and the spans without light, in plain lists. Conditions: those each lemma names. -/
import Derived.Test.YtpoglodghpkjiaaVDarkSpanCandListD
import Derived.Test.YtpoglodghpkjiaaVDarkSpanBase2D
import Derived.Test.YtpoglodghpkjiaaVDarkSpanInsE
set_option linter.unusedVariables false
set_option linter.unusedSimpArgs false
namespace Go.Proofs.Ytpoglodghpkjiaa.Pure
open Go.RowKit Go.Proofs.Ytpoglodghpkjiaa.PD Go.Proofs.Ytpoglodghpkjiaa.PL Go.Proofs.YtpoglodghpkjiaaW.PrintWords Go.Proofs.YtpoglodghpkjiaaW.PrintLast Go.Proofs.YtpoglodghpkjiaaW.PrintMore

theorem S23.ext2 {x y : S23} (h0 : x.f0 = y.f0) (h1 : x.f1 = y.f1) : x = y := by
  cases x; cases y; simp only at h0 h1; rw [h0, h1]
/-- A pair without a common divisor, its lower number positive. -/
def Fr (x : S23) : Prop := 0 < x.f1 ∧ Int.gcd x.f0 x.f1 = 1
def lt (x y : S23) : Prop := x.f0 * y.f1 < y.f0 * x.f1
instance (x y : S23) : Decidable (lt x y) := by unfold lt; infer_instance
theorem lt_irrefl (x : S23) : ¬ lt x x := by unfold lt; omega
theorem lt_asymm {x y : S23} (h : lt x y) : ¬ lt y x := by unfold lt at *; omega
theorem le_trans_ {x y z : S23} (hx : 0 < x.f1) (hy : 0 < y.f1) (hz : 0 < z.f1) (h1 : x.f0 * y.f1 ≤ y.f0 * x.f1) (h2 : y.f0 * z.f1 ≤ z.f0 * y.f1) : x.f0 * z.f1 ≤ z.f0 * x.f1 := by
  have a := Int.mul_le_mul_of_nonneg_right h1 (Int.le_of_lt hz)
  have b := Int.mul_le_mul_of_nonneg_right h2 (Int.le_of_lt hx)
  have c : (x.f0 * z.f1) * y.f1 ≤ (z.f0 * x.f1) * y.f1 := by
    have e1 : (x.f0 * z.f1) * y.f1 = x.f0 * y.f1 * z.f1 := by grind
    have e2 : (z.f0 * x.f1) * y.f1 = z.f0 * y.f1 * x.f1 := by grind
    have e3 : y.f0 * x.f1 * z.f1 = y.f0 * z.f1 * x.f1 := by grind
    omega
  exact Int.le_of_mul_le_mul_right c hy
theorem fr_eq {x y : S23} (hx : Fr x) (hy : Fr y) (h : x.f0 * y.f1 = y.f0 * x.f1) : x = y := by
  obtain ⟨h1, h2⟩ := cop_unique hx.1 hy.1 hx.2 hy.2 h
  exact S23.ext2 h1 h2
theorem le_tr {x y z : S23} (hx : 0 < x.f1) (hy : 0 < y.f1) (hz : 0 < z.f1) (h1 : ¬ lt y x) (h2 : ¬ lt z y) : ¬ lt z x := by
  unfold lt at *
  have := le_trans_ hx hy hz (by omega) (by omega)
  omega
theorem lt_le {x y z : S23} (hx : 0 < x.f1) (hy : 0 < y.f1) (hz : 0 < z.f1) (h1 : lt x y) (h2 : ¬ lt z y) : lt x z := Classical.byContradiction fun h => le_tr hy hz hx h2 h h1
theorem le_lt {x y z : S23} (hx : 0 < x.f1) (hy : 0 < y.f1) (hz : 0 < z.f1) (h1 : ¬ lt y x) (h2 : lt y z) : lt x z := Classical.byContradiction fun h => le_tr hz hx hy h h1 h2
theorem lt_tr {x y z : S23} (hx : 0 < x.f1) (hy : 0 < y.f1) (hz : 0 < z.f1) (h1 : lt x y) (h2 : lt y z) : lt x z := lt_le hx hy hz h1 (lt_asymm h2)
theorem le_anti {x y : S23} (hx : Fr x) (hy : Fr y) (h1 : ¬ lt x y) (h2 : ¬ lt y x) : x = y := fr_eq hx hy (by unfold lt at *; omega)
/-- Lists in order of a key. -/
theorem ord_ext {α : Type} {r : α → α → Prop} (ir : ∀ x, ¬ r x x) (asy : ∀ x y, r x y → ¬ r y x) : ∀ {l m : List α}, List.Pairwise r l → List.Pairwise r m → (∀ x, x ∈ l ↔ x ∈ m) → l = m
  | [], [], _, _, _ => rfl
  | [], y :: m, _, _, h => absurd ((h y).2 (List.mem_cons_self ..)) (by simp)
  | x :: l, [], _, _, h => absurd ((h x).1 (List.mem_cons_self ..)) (by simp)
  | x :: l, y :: m, h1, h2, h => by
    obtain ⟨a1, a2⟩ := List.pairwise_cons.1 h1
    obtain ⟨b1, b2⟩ := List.pairwise_cons.1 h2
    have e : x = y := by
      rcases List.mem_cons.1 ((h x).1 (List.mem_cons_self ..)) with e | e
      · exact e
      · rcases List.mem_cons.1 ((h y).2 (List.mem_cons_self ..)) with f | f
        · exact f.symm
        · exact absurd (a1 y f) (asy _ _ (b1 x e))
    subst e
    have : l = m := by
      refine ord_ext ir asy a2 b2 (fun z => ⟨fun hz => ?_, fun hz => ?_⟩)
      · rcases List.mem_cons.1 ((h z).1 (List.mem_cons_of_mem _ hz)) with e | e
        · subst e; exact absurd (a1 z hz) (ir z)
        · exact e
      · rcases List.mem_cons.1 ((h z).2 (List.mem_cons_of_mem _ hz)) with e | e
        · subst e; exact absurd (b1 z hz) (ir z)
        · exact e
    rw [this]
/-! ### Times put to their places -/
def Srt (l : List S23) : Prop := List.Pairwise lt l
def ins : List S23 → S23 → List S23
  | [], t => [t]
  | x :: l, t => if lt x t then x :: ins l t else if (x.f0 == t.f0 && x.f1 == t.f1) = true then x :: l else t :: x :: l
theorem ins_lt {x t : S23} {l : List S23} (h : lt x t) : ins (x :: l) t = x :: ins l t := by
  conv => lhs; unfold ins
  rw [if_pos h]
theorem ins_nlt {x t : S23} {l : List S23} (h : ¬ lt x t) : ins (x :: l) t = if (x.f0 == t.f0 && x.f1 == t.f1) = true then x :: l else t :: x :: l := by
  conv => lhs; unfold ins
  rw [if_neg h]
theorem same_iff (x t : S23) : (x.f0 == t.f0 && x.f1 == t.f1) = true ↔ x = t := by
  constructor
  · intro h
    simp only [Bool.and_eq_true, beq_iff_eq] at h
    exact S23.ext2 h.1 h.2
  · rintro rfl; simp
theorem ins_mem {l : List S23} {t x : S23} : x ∈ ins l t ↔ x = t ∨ x ∈ l := by
  induction l with
  | nil => simp [ins]
  | cons y l ih =>
    unfold ins
    by_cases h1 : lt y t
    · rw [if_pos h1, List.mem_cons, ih, List.mem_cons]
      constructor
      · rintro (h | h | h)
        · exact Or.inr (Or.inl h)
        · exact Or.inl h
        · exact Or.inr (Or.inr h)
      · rintro (h | h | h)
        · exact Or.inr (Or.inl h)
        · exact Or.inl h
        · exact Or.inr (Or.inr h)
    · rw [if_neg h1]
      by_cases h2 : (y.f0 == t.f0 && y.f1 == t.f1) = true
      · rw [if_pos h2]
        have := (same_iff y t).1 h2
        subst this
        simp
      · rw [if_neg h2]
        simp
theorem ins_srt {l : List S23} {t : S23} (hl : Srt l) (hf : ∀ x, x ∈ l → Fr x) (ht : Fr t) : Srt (ins l t) := by
  induction l with
  | nil => exact List.pairwise_singleton _ _
  | cons y l ih =>
    obtain ⟨a1, a2⟩ := List.pairwise_cons.1 hl
    have hy := hf y (List.mem_cons_self ..)
    have hl2 : ∀ x, x ∈ l → Fr x := fun x hx => hf x (List.mem_cons_of_mem _ hx)
    unfold ins
    by_cases h1 : lt y t
    · rw [if_pos h1]
      refine List.pairwise_cons.2 ⟨fun z hz => ?_, ih a2 hl2⟩
      rcases ins_mem.1 hz with rfl | hz
      · exact h1
      · exact a1 z hz
    · rw [if_neg h1]
      by_cases h2 : (y.f0 == t.f0 && y.f1 == t.f1) = true
      · rw [if_pos h2]; exact hl
      · rw [if_neg h2]
        have h3 : lt t y := by
          unfold lt at *
          rcases Int.lt_or_le (t.f0 * y.f1) (y.f0 * t.f1) with h | h
          · exact h
          · exact absurd ((same_iff y t).2 (fr_eq hy ht (by omega))) h2
        refine List.pairwise_cons.2 ⟨fun z hz => ?_, hl⟩
        rcases List.mem_cons.1 hz with rfl | hz
        · exact h3
        · exact lt_tr ht.1 hy.1 (hl2 z hz).1 h3 (a1 z hz)
theorem ins_len (l : List S23) (t : S23) : (ins l t).length ≤ l.length + 1 := by
  induction l with
  | nil => simp [ins]
  | cons y l ih =>
    unfold ins
    split
    · simp; omega
    · split <;> simp
def Bd (x : S23) : Prop := x.f0.natAbs ≤ 100000 ∧ 1 ≤ x.f1 ∧ x.f1 ≤ 100000
theorem bd_less {x y : S23} (hx : Bd x) (hy : Bd y) : spec_l2Less.f x.f0 x.f1 y.f0 y.f1 = some (decide (lt x y)) ∧ impl_less.f x.f0 x.f1 y.f0 y.f1 = some (decide (lt x y)) := by
  unfold Bd at hx hy
  have a1 : Sm x.f0 100000 := hx.1
  have a2 : Sm x.f1 100000 := sm (by omega) (by omega)
  have b1 : Sm y.f0 100000 := hy.1
  have b2 : Sm y.f1 100000 := sm (by omega) (by omega)
  exact ⟨specLess_ok (a1.mul b2) (b1.mul a2) (by omega) (by omega), implLess_ok (a1.mul b2) (b1.mul a2) (by omega) (by omega)⟩
theorem rd23 {l : List S23} {i : Nat} {x : S23} (h : l[i]? = some x) : rd_T23 l (i : Int) = x := by
  unfold rd_T23
  rw [Int.toNat_natCast, List.getD_eq_getElem?_getD, h]; rfl
theorem times_go {l : List S23} {t : S23} (hl : l.length ≤ 1000) (hb : ∀ x, x ∈ l → Bd x) (ht : Bd t) : ∀ (d k i : Nat), l.length = i + d → d + 1 ≤ k → spec_l7Times.l0 k l i t.f0 t.f1 = some (l.take i ++ ins (l.drop i) t) := by
  intro d
  induction d with
  | zero =>
    intro k i h1 hk
    obtain ⟨k, rfl⟩ : ∃ m, k = m + 1 := ⟨k - 1, by omega⟩
    have e2 : l.drop i = [] := List.drop_eq_nil_of_le (by omega)
    have htl : (l.take i).length = i := by rw [List.length_take]; omega
    simp only [spec_l7Times.l0, Option.bind_some, Int.toNat_natCast, e2, List.length_append, List.length_nil, List.length_singleton, htl]
    rw [if_neg (by omega), if_pos (by omega), if_pos (by omega), if_pos (by omega), if_pos (by omega), if_pos (by omega)]
    simp [ins]
  | succ d ih =>
    intro k i h1 hk
    obtain ⟨k, rfl⟩ : ∃ m, k = m + 1 := ⟨k - 1, by omega⟩
    obtain ⟨x, hxx⟩ := at_lt (xs := l) (i := i) (by omega)
    have hd : l.drop i = x :: l.drop (i + 1) := by
      rw [List.drop_eq_getElem_cons (by omega)]
      rw [List.getElem?_eq_getElem (by omega)] at hxx
      cases hxx; rfl
    have hx := hb x (List.mem_of_getElem? hxx)
    have ih' := ih k (i + 1) (by omega) (by omega)
    have htl : (l.take i).length = i := by rw [List.length_take]; omega
    have hdl : (l.drop i).length = l.length - i := by rw [List.length_drop]
    simp only [spec_l7Times.l0, rd23 hxx]
    have g1 : (i : Int) < (l.length : Int) := by omega
    have g0 : (0 : Int) ≤ (i : Int) := by omega
    have g2 : (i : Int) ≤ (l.length : Int) := by omega
    simp only [g1, g0, if_true]
    rw [(bd_less hx ht).1, Option.bind_some, wrS i (by omega), ih']
    by_cases h2 : lt x t
    · rw [if_pos (decide_eq_true h2), hd, ins_lt h2, List.take_succ_eq_append_getElem (by omega)]
      have : l[i] = x := by rw [List.getElem?_eq_getElem (by omega)] at hxx; exact Option.some.inj hxx
      rw [this, List.append_assoc]; rfl
    · rw [if_neg (by simp [h2])]
      conv => rhs; rw [hd, ins_nlt h2]
      by_cases h3 : (x.f0 == t.f0 && x.f1 == t.f1) = true
      · rw [if_pos h3, if_pos h3, ← hd, List.take_append_drop]
      · rw [if_neg h3, if_neg h3, ← hd]
        simp only [Option.bind_some, Int.toNat_natCast, List.length_append, List.length_nil, List.length_singleton, htl, hdl, g2, if_true]
        rw [if_pos (by omega), if_pos (by omega), if_pos (by omega)]
        simp
theorem times_ins {k : Nat} {l : List S23} {t : S23} (hl : l.length ≤ 1000) (hb : ∀ x, x ∈ l → Bd x) (ht : Bd t) (hk : l.length + 1 ≤ k) : spec_l7Times.f k l t.f0 t.f1 = some (ins l t) := by
  unfold spec_l7Times.f
  have := times_go hl hb ht l.length k 0 (by omega) hk
  simpa using this
/-! ### Starts and ends -/
def st (x : S47) : S23 := ⟨x.f2, 1⟩
def en (x : S47) : S23 := ⟨(cut (x.f2 * x.f1 + x.f0) x.f1).1, (cut (x.f2 * x.f1 + x.f0) x.f1).2⟩
def Cd (x : S47) : Prop := Cand x.f0 x.f1 x.f2
theorem en_ok {x : S47} (h : Cd x) : Bd (en x) ∧ Fr (en x) := by
  have ho := out_bd h
  have h' := h
  unfold Cd Cand at h'
  refine ⟨⟨?_, ?_, ?_⟩, cut_pos (by omega), cut_gcd _ _ (by omega)⟩
  · show (cut (x.f2 * x.f1 + x.f0) x.f1).1.natAbs ≤ 100000; omega
  · show 1 ≤ (cut (x.f2 * x.f1 + x.f0) x.f1).2; omega
  · show (cut (x.f2 * x.f1 + x.f0) x.f1).2 ≤ 100000; omega
theorem st_ok {x : S47} (h : Cd x) : Bd (st x) ∧ 0 < (st x).f1 := by
  unfold Cd Cand at h
  exact ⟨⟨by show x.f2.natAbs ≤ 100000; omega, by show (1 : Int) ≤ 1; omega, by show (1 : Int) ≤ 100000; omega⟩, by show (0 : Int) < 1; omega⟩
theorem st_en {x : S47} (h : Cd x) : lt (st x) (en x) := by
  have h' := h
  unfold Cd Cand at h'
  have c := cut_cross (x.f2 * x.f1 + x.f0) x.f1 (by omega)
  have p := cut_pos (a := x.f2 * x.f1 + x.f0) (b := x.f1) (by omega)
  unfold lt st en
  simp only
  generalize cut (x.f2 * x.f1 + x.f0) x.f1 = y at c p ⊢
  -- y.1 * b = (c * b + a) * y.2, a > 0
  have q : 0 < x.f0 * y.2 := Int.mul_pos (by omega) p
  have e : y.1 * x.f1 = (x.f2 * y.2) * x.f1 + x.f0 * y.2 := by rw [c]; grind
  have : (x.f2 * y.2) * x.f1 < (y.1 * 1) * x.f1 := by rw [Int.mul_one, e]; omega
  exact Int.lt_of_mul_lt_mul_right this (by omega)
def burnsAt (x : S47) (t : S23) : Bool := !decide (lt t (st x)) && decide (lt t (en x))
theorem burns_ok {k : Nat} (hk : BIG ≤ k) {x : S47} (h : Cd x) {t : S23} (ht : Bd t) : spec_l7Burns.f k x.f0 x.f1 x.f2 t.f0 t.f1 = some (burnsAt x t) := by
  unfold spec_l7Burns.f burnsAt
  have h1 : spec_l2Less.f t.f0 t.f1 x.f2 1 = some (decide (lt t (st x))) := (bd_less ht (st_ok h).1).1
  have h2 : spec_l2Less.f t.f0 t.f1 (cut (x.f2 * x.f1 + x.f0) x.f1).1 (cut (x.f2 * x.f1 + x.f0) x.f1).2 = some (decide (lt t (en x))) := (bd_less ht (en_ok h).1).1
  have h3 := specOut_ok hk h
  simp only [h1, h2, h3, Option.bind_some]
  by_cases g : lt t (st x)
  · simp [g]
  · simp [g]
def many (xs : List S47) (t : S23) : Nat := (xs.filter fun x => burnsAt x t).length
theorem good_cd {xs : List S47} (hg : good xs = true) : ∀ x ∈ xs, Cd x := by
  intro x hx
  obtain ⟨j, hj⟩ := List.getElem?_of_mem hx
  exact good_at hg hj
theorem many_go {xs : List S47} (hg : good xs = true) {t : S23} (ht : Bd t) : ∀ (d k i n : Nat), xs.length = i + d → BIG + d < k → n ≤ i →
    spec_l7Many.l0 k xs n i t.f0 t.f1 = some ((n + many (xs.drop i) t : Nat) : Int) := by
  have hl := good_len hg
  intro d
  induction d with
  | zero =>
    intro k i n h1 hk hn
    obtain ⟨k, rfl⟩ : ∃ m, k = m + 1 := ⟨k - 1, by omega⟩
    simp only [spec_l7Many.l0]
    rw [if_neg (by omega), List.drop_eq_nil_of_le (by omega)]
    rfl
  | succ d ih =>
    intro k i n h1 hk hn
    obtain ⟨k, rfl⟩ : ∃ m, k = m + 1 := ⟨k - 1, by omega⟩
    obtain ⟨x, hxx⟩ := at_lt (xs := xs) (i := i) (by omega)
    have hd : xs.drop i = x :: xs.drop (i + 1) := by
      rw [List.drop_eq_getElem_cons (by omega)]
      rw [List.getElem?_eq_getElem (by omega)] at hxx
      cases hxx; rfl
    have hi : (i : Int) < (xs.length : Int) := by omega
    have h0 : (0 : Int) ≤ (i : Int) := by omega
    have c1 := burns_ok (k := k) (by omega) (good_at hg hxx) ht
    simp only [spec_l7Many.l0, hi, h0, if_true, rd_at hxx, c1, Option.bind_some, wrS i (by omega), wrS n (by omega)]
    by_cases hb : burnsAt x t = true
    · have e : n + many (xs.drop i) t = n + 1 + many (xs.drop (i + 1)) t := by
        rw [hd]; unfold many; rw [List.filter_cons, if_pos hb, List.length_cons]; omega
      rw [if_pos hb, e]
      exact ih k (i + 1) (n + 1) (by omega) (by omega) (by omega)
    · have e : n + many (xs.drop i) t = n + many (xs.drop (i + 1)) t := by
        rw [hd]; unfold many; rw [List.filter_cons, if_neg hb]
      rw [if_neg hb, e]
      exact ih k (i + 1) n (by omega) (by omega) (by omega)
theorem many_ok {k : Nat} (hk : BIG + 100 ≤ k) {xs : List S47} (hg : good xs = true) {t : S23} (ht : Bd t) : spec_l7Many.f k xs t.f0 t.f1 = some (many xs t : Int) := by
  have hl := good_len hg
  have h := many_go hg ht xs.length k 0 0 (by omega) (by omega) (by omega)
  rw [List.drop_zero, Nat.zero_add] at h
  exact h
theorem many_zero {xs : List S47} {t : S23} : many xs t = 0 ↔ ∀ y ∈ xs, burnsAt y t = false := by
  unfold many
  rw [List.length_eq_zero_iff, List.filter_eq_nil_iff]
  constructor
  · intro h y hy
    have := h y hy
    simpa using this
  · intro h y hy
    rw [h y hy]; simp
/-! ### The next start behind a time -/
def nx (t : S23) : Int → List S47 → Int
  | a, [] => a
  | a, y :: r => nx t (if lt t (st y) then (if a < 0 then y.f2 else if y.f2 < a then y.f2 else a) else a) r
theorem nx_ok (t : S23) : ∀ (r : List S47) (a : Int), (∀ y ∈ r, 0 ≤ y.f2) →
    (0 ≤ nx t a r → (nx t a r = a ∨ ∃ y ∈ r, lt t (st y) ∧ nx t a r = y.f2) ∧ (0 ≤ a → nx t a r ≤ a) ∧ ∀ y ∈ r, lt t (st y) → nx t a r ≤ y.f2) ∧ (nx t a r < 0 → a < 0 ∧ ∀ y ∈ r, ¬ lt t (st y))
  | [], a, h => ⟨fun h => ⟨Or.inl rfl, fun _ => Int.le_refl _, fun y hy => by simp at hy⟩, fun h => ⟨h, fun y hy => by simp at hy⟩⟩
  | y :: r, a, h => by
    have hy := h y List.mem_cons_self
    have hr := fun z hz => h z (List.mem_cons_of_mem y hz)
    have ih := nx_ok t r (if lt t (st y) then (if a < 0 then y.f2 else if y.f2 < a then y.f2 else a) else a) hr
    show (0 ≤ nx t (if lt t (st y) then (if a < 0 then y.f2 else if y.f2 < a then y.f2 else a) else a) r → _) ∧ _
    rw [show nx t a (y :: r) = nx t (if lt t (st y) then (if a < 0 then y.f2 else if y.f2 < a then y.f2 else a) else a) r from rfl]
    by_cases hq : lt t (st y)
    · rw [if_pos hq] at ih ⊢
      have hb : 0 ≤ (if a < 0 then y.f2 else if y.f2 < a then y.f2 else a) ∧ ((if a < 0 then y.f2 else if y.f2 < a then y.f2 else a) = a ∨ (if a < 0 then y.f2 else if y.f2 < a then y.f2 else a) = y.f2) ∧ (0 ≤ a → (if a < 0 then y.f2 else if y.f2 < a then y.f2 else a) ≤ a) ∧ (if a < 0 then y.f2 else if y.f2 < a then y.f2 else a) ≤ y.f2 := by
        split
        · omega
        · split <;> omega
      generalize (if a < 0 then y.f2 else if y.f2 < a then y.f2 else a) = b at ih hb ⊢
      obtain ⟨b0, b1, b2, b3⟩ := hb
      refine ⟨fun h0 => ?_, fun h0 => ?_⟩
      · obtain ⟨i1, i2, i3⟩ := ih.1 h0
        refine ⟨?_, fun ha => ?_, fun z hz hzq => ?_⟩
        · rcases i1 with i1 | ⟨z, hz, hzq, e⟩
          · rcases b1 with b1 | b1
            · exact Or.inl (i1.trans b1)
            · exact Or.inr ⟨y, List.mem_cons_self, hq, i1.trans b1⟩
          · exact Or.inr ⟨z, List.mem_cons_of_mem _ hz, hzq, e⟩
        · have := i2 b0; have := b2 ha; omega
        · rcases List.mem_cons.1 hz with rfl | hz
          · have := i2 b0; omega
          · exact i3 z hz hzq
      · have := (ih.2 h0).1; omega
    · rw [if_neg hq] at ih ⊢
      refine ⟨fun h0 => ?_, fun h0 => ?_⟩
      · obtain ⟨i1, i2, i3⟩ := ih.1 h0
        refine ⟨?_, i2, fun z hz hzq => ?_⟩
        · rcases i1 with i1 | ⟨z, hz, hzq, e⟩
          · exact Or.inl i1
          · exact Or.inr ⟨z, List.mem_cons_of_mem _ hz, hzq, e⟩
        · rcases List.mem_cons.1 hz with rfl | hz
          · exact absurd hzq hq
          · exact i3 z hz hzq
      · obtain ⟨i1, i2⟩ := ih.2 h0
        refine ⟨i1, fun z hz => ?_⟩
        rcases List.mem_cons.1 hz with rfl | hz
        · exact hq
        · exact i2 z hz
/-- The least start behind a time. -/
def isNext (xs : List S47) (t : S23) (n : Int) : Prop := (∃ y ∈ xs, lt t (st y) ∧ n = y.f2) ∧ ∀ y ∈ xs, lt t (st y) → n ≤ y.f2
theorem nx_next {xs : List S47} (h : ∀ y ∈ xs, 0 ≤ y.f2) (t : S23) (n : Int) : (nx t (-1) xs = n ∧ 0 ≤ n) ↔ isNext xs t n := by
  have hk := nx_ok t xs (-1) h
  constructor
  · rintro ⟨rfl, h0⟩
    obtain ⟨i1, _, i3⟩ := hk.1 h0
    rcases i1 with i1 | i1
    · omega
    · exact ⟨i1, i3⟩
  · rintro ⟨⟨y, hy, hq, e⟩, h2⟩
    have hy0 := h y hy
    rcases Int.lt_or_le (nx t (-1) xs) 0 with h0 | h0
    · exact absurd hq ((hk.2 h0).2 y hy)
    · obtain ⟨i1, _, i3⟩ := hk.1 h0
      rcases i1 with i1 | ⟨z, hz, hzq, e2⟩
      · omega
      · have a := h2 z hz hzq
        have b := i3 y hy hq
        exact ⟨by omega, by omega⟩
/-! ### The two lists of spans -/
def spans (xs : List S47) (ends : List S23) : List S59 := ends.filterMap fun t => if 0 ≤ nx t (-1) xs then some ⟨t, ⟨nx t (-1) xs, 1⟩⟩ else none
def walk (M : S23) : List S47 → List S59
  | [] => []
  | c :: cs => (if lt M (st c) then [(⟨M, st c⟩ : S59)] else []) ++ walk (if lt M (en c) then en c else M) cs
def key (x y : S59) : Prop := lt x.f0 y.f0
/-- What a span is. -/
def Dk (xs : List S47) (t : S23) (n : Int) : Prop := (∃ x ∈ xs, t = en x) ∧ (∀ y ∈ xs, ¬ (¬ lt t (st y) ∧ lt t (en y))) ∧ isNext xs t n
theorem walk_mem {xs : List S47} (hc : ∀ x ∈ xs, Cd x) : ∀ (R P : List S47) (M : S23), (∀ x, x ∈ xs ↔ x ∈ P ∨ x ∈ R) → List.Pairwise (fun a b : S47 => a.f2 ≤ b.f2) R → (∀ p ∈ P, ∀ r ∈ R, p.f2 ≤ r.f2) → (∃ p ∈ P, M = en p) → (∀ p ∈ P, ¬ lt M (en p)) →
    ∀ x : S59, x ∈ walk M R ↔ (∃ n : Int, x = ⟨x.f0, ⟨n, 1⟩⟩ ∧ Dk xs x.f0 n ∧ ¬ lt x.f0 M) := by
  intro R
  induction R with
  | nil =>
    intro P M hx hs hp hM hm x
    constructor
    · intro h; simp [walk] at h
    · rintro ⟨n, _, ⟨⟨x0, hx0, e0⟩, _, ⟨y, hy, hq, _⟩, _⟩, hle⟩
      obtain ⟨p, hp0, rfl⟩ := hM
      have cp := hc p ((hx p).2 (Or.inl hp0))
      have cy := hc y hy
      have hyP : y ∈ P := by
        rcases (hx y).1 hy with h | h
        · exact h
        · simp at h
      have hx0' := hc x0 hx0
      have f0 : Fr x.f0 := by rw [e0]; exact (en_ok hx0').2
      have h1 := hm y hyP
      -- st y < en y ≤ en p ≤ x.f0 < st y
      have a1 : lt x.f0 (en y) := lt_tr f0.1 (st_ok cy).2 (en_ok cy).2.1 hq (st_en cy)
      exact absurd (le_lt (en_ok cp).2.1 f0.1 (en_ok cy).2.1 hle a1) h1
  | cons c cs ih =>
    intro P M hx hs hp hM hm x
    obtain ⟨s1, s2⟩ := List.pairwise_cons.1 hs
    obtain ⟨p, hp0, rfl⟩ := hM
    have cp := hc p ((hx p).2 (Or.inl hp0))
    have ccx : c ∈ xs := (hx c).2 (Or.inr List.mem_cons_self)
    have cc := hc c ccx
    have fM := (en_ok cp).2
    have fc := (en_ok cc).2
    have hsc : ∀ y ∈ xs, y.f2 < c.f2 → y ∈ P := by
      intro y hy hlt
      rcases (hx y).1 hy with h | h
      · exact h
      · rcases List.mem_cons.1 h with rfl | h
        · omega
        · have := s1 y h; omega
    have stle : ∀ {t : S23} {y : S47}, 0 < t.f1 → c.f2 ≤ y.f2 → lt t (st c) → lt t (st y) := by
      intro t y h0 h1 h2
      unfold lt st at *
      simp only at *
      have := Int.mul_le_mul_of_nonneg_right h1 (Int.le_of_lt h0)
      omega
    -- the set of P ++ [c]
    have ih' := ih (P ++ [c]) (if lt (en p) (en c) then en c else en p) (fun y => by
        rw [hx y, List.mem_append, List.mem_singleton, List.mem_cons]
        constructor
        · rintro (h | h | h)
          · exact Or.inl (Or.inl h)
          · exact Or.inl (Or.inr h)
          · exact Or.inr h
        · rintro ((h | h) | h)
          · exact Or.inl h
          · exact Or.inr (Or.inl h)
          · exact Or.inr (Or.inr h)) s2 (fun q hq r hr => by
        rcases List.mem_append.1 hq with hq | hq
        · exact hp q hq r (List.mem_cons_of_mem _ hr)
        · rw [List.mem_singleton.1 hq]; exact s1 r hr) (by
        split
        · exact ⟨c, by simp, rfl⟩
        · exact ⟨p, by simp [hp0], rfl⟩) (fun q hq => by
        have cq : Cd q := by
          rcases List.mem_append.1 hq with h | h
          · exact hc q ((hx q).2 (Or.inl h))
          · rw [List.mem_singleton.1 h]; exact cc
        rcases List.mem_append.1 hq with h | h
        · split
          · rename_i g
            exact le_tr (en_ok cq).2.1 fM.1 fc.1 (hm q h) (lt_asymm g)
          · exact hm q h
        · rw [List.mem_singleton.1 h]
          split
          · exact lt_irrefl _
          · rename_i g; exact g) x
    have first : lt (en p) (st c) → Dk xs (en p) c.f2 := by
      intro g
      refine ⟨⟨p, (hx p).2 (Or.inl hp0), rfl⟩, fun y hy hb => ?_, ⟨c, ccx, g, rfl⟩, fun y hy hq => ?_⟩
      · rcases (hx y).1 hy with h | h
        · exact hm y h hb.2
        · refine hb.1 (stle fM.1 ?_ g)
          rcases List.mem_cons.1 h with rfl | h
          · omega
          · exact s1 y h
      · rcases Int.lt_or_le y.f2 c.f2 with h | h
        · have hyP := hsc y hy h
          have cy := hc y hy
          exact absurd (lt_tr fM.1 (st_ok cy).2 (en_ok cy).2.1 hq (st_en cy)) (hm y hyP)
        · exact h
    rw [show walk (en p) (c :: cs) = (if lt (en p) (st c) then [(⟨en p, st c⟩ : S59)] else []) ++ walk (if lt (en p) (en c) then en c else en p) cs from rfl, List.mem_append, ih']
    constructor
    · rintro (h | ⟨n, e, hd, hle⟩)
      · by_cases g : lt (en p) (st c)
        · rw [if_pos g, List.mem_singleton] at h
          subst h
          exact ⟨c.f2, rfl, first g, lt_irrefl _⟩
        · rw [if_neg g] at h; simp at h
      · refine ⟨n, e, hd, ?_⟩
        obtain ⟨⟨x0, hx0, e0⟩, _⟩ := hd
        have f0 : Fr x.f0 := by rw [e0]; exact (en_ok (hc x0 hx0)).2
        by_cases g : lt (en p) (en c)
        · rw [if_pos g] at hle
          exact le_tr fM.1 fc.1 f0.1 (lt_asymm g) hle
        · rw [if_neg g] at hle; exact hle
    · rintro ⟨n, e, hd, hle⟩
      have hd' := hd
      obtain ⟨⟨x0, hx0, e0⟩, hb, ⟨y, hy, hq, en_⟩, hmin⟩ := hd'
      have f0 : Fr x.f0 := by rw [e0]; exact (en_ok (hc x0 hx0)).2
      by_cases g : lt x.f0 (en c)
      · have g2 : lt x.f0 (st c) := Classical.byContradiction fun h => hb c ccx ⟨h, g⟩
        -- its end is of P
        have hx0P : x0 ∈ P := by
          refine hsc x0 hx0 ?_
          rcases Int.lt_or_le x0.f2 c.f2 with h | h
          · exact h
          · have c0 := hc x0 hx0
            have a1 := stle f0.1 h g2
            rw [e0] at a1
            exact absurd (st_en c0) (lt_asymm a1)
        have et : x.f0 = en p := by
          rw [e0]
          rw [e0] at hle
          exact le_anti (en_ok (hc x0 hx0)).2 fM hle (hm x0 hx0P)
        have g3 : lt (en p) (st c) := by rw [← et]; exact g2
        refine Or.inl ?_
        rw [if_pos g3, List.mem_singleton, e, et]
        have hn1 := hmin c ccx g2
        have hn2 := (first g3).2.2.2 y hy (by rw [← et]; exact hq)
        have : n = c.f2 := by omega
        rw [this]; rfl
      · refine Or.inr ⟨n, e, hd, ?_⟩
        split
        · exact g
        · exact hle
theorem walk_ord : ∀ (R : List S47) (M : S23), 0 < M.f1 → (∀ x ∈ R, Cd x) → List.Pairwise key (walk M R) ∧ ∀ x ∈ walk M R, ¬ lt x.f0 M ∧ 0 < x.f0.f1
  | [], M, _, _ => ⟨List.Pairwise.nil, fun x hx => by simp [walk] at hx⟩
  | c :: cs, M, hM, hc => by
    have cc := hc c List.mem_cons_self
    have fc := (en_ok cc).2
    have hM' : 0 < (if lt M (en c) then en c else M).f1 := by split; exact fc.1; exact hM
    obtain ⟨i1, i2⟩ := walk_ord cs (if lt M (en c) then en c else M) hM' (fun x hx => hc x (List.mem_cons_of_mem _ hx))
    rw [show walk M (c :: cs) = (if lt M (st c) then [(⟨M, st c⟩ : S59)] else []) ++ walk (if lt M (en c) then en c else M) cs from rfl]
    have low : ∀ x ∈ walk (if lt M (en c) then en c else M) cs, ¬ lt x.f0 M ∧ 0 < x.f0.f1 := by
      intro x hx
      obtain ⟨h1, h2⟩ := i2 x hx
      refine ⟨?_, h2⟩
      by_cases g : lt M (en c)
      · rw [if_pos g] at h1; exact le_tr hM fc.1 h2 (lt_asymm g) h1
      · rw [if_neg g] at h1; exact h1
    refine ⟨?_, ?_⟩
    · refine List.pairwise_append.2 ⟨?_, i1, ?_⟩
      · split
        · exact List.pairwise_singleton _ _
        · exact List.Pairwise.nil
      · intro a ha b hb
        by_cases g : lt M (st c)
        · rw [if_pos g, List.mem_singleton] at ha
          subst ha
          have g2 : lt M (en c) := lt_tr hM (st_ok cc).2 fc.1 g (st_en cc)
          obtain ⟨h1, h2⟩ := i2 b hb
          rw [if_pos g2] at h1
          exact lt_le hM fc.1 h2 g2 h1
        · rw [if_neg g] at ha; simp at ha
    · intro x hx
      rcases List.mem_append.1 hx with hx | hx
      · by_cases g : lt M (st c)
        · rw [if_pos g, List.mem_singleton] at hx
          subst hx
          exact ⟨lt_irrefl _, hM⟩
        · rw [if_neg g] at hx; simp at hx
      · exact low x hx
theorem spans_mem (xs : List S47) (ends : List S23) (x : S59) : x ∈ spans xs ends ↔ x.f0 ∈ ends ∧ 0 ≤ nx x.f0 (-1) xs ∧ x = ⟨x.f0, ⟨nx x.f0 (-1) xs, 1⟩⟩ := by
  unfold spans
  rw [List.mem_filterMap]
  constructor
  · rintro ⟨t, ht, h⟩
    split at h
    · rename_i g
      cases h
      exact ⟨ht, g, rfl⟩
    · cases h
  · rintro ⟨h1, h2, h3⟩
    refine ⟨x.f0, h1, ?_⟩
    rw [if_pos h2, ← h3]
theorem spans_ord (xs : List S47) : ∀ ends : List S23, Srt ends → List.Pairwise key (spans xs ends)
  | [], _ => List.Pairwise.nil
  | t :: r, h => by
    obtain ⟨h1, h2⟩ := List.pairwise_cons.1 h
    have ih := spans_ord xs r h2
    unfold spans at ih ⊢
    rw [List.filterMap_cons]
    by_cases g : 0 ≤ nx t (-1) xs
    · rw [if_pos g]
      refine List.pairwise_cons.2 ⟨fun y hy => ?_, ih⟩
      have := (spans_mem xs r y).1 hy
      exact h1 _ this.1
    · rw [if_neg g]
      exact ih
/-- The reference's ends. -/
def ends (xs : List S47) (l : List S47) (o : List S23) : List S23 := l.foldl (fun o x => if many xs (en x) = 0 then ins o (en x) else o) o
theorem ends_ok (xs : List S47) : ∀ (l : List S47) (o : List S23), (∀ x ∈ l, Cd x) → Srt o → (∀ t ∈ o, Fr t) → Srt (ends xs l o) ∧ (∀ t ∈ ends xs l o, Fr t) ∧ ∀ t, t ∈ ends xs l o ↔ t ∈ o ∨ ∃ x ∈ l, t = en x ∧ many xs t = 0
  | [], o, _, h1, h2 => ⟨h1, h2, fun t => by simp [ends]⟩
  | x :: l, o, hc, h1, h2 => by
    have cx := hc x List.mem_cons_self
    have step := ends_ok xs l (if many xs (en x) = 0 then ins o (en x) else o) (fun y hy => hc y (List.mem_cons_of_mem _ hy)) (by
      split
      · exact ins_srt h1 h2 (en_ok cx).2
      · exact h1) (fun t ht => by
      split at ht
      · rcases ins_mem.1 ht with rfl | ht
        · exact (en_ok cx).2
        · exact h2 t ht
      · exact h2 t ht)
    rw [show ends xs (x :: l) o = ends xs l (if many xs (en x) = 0 then ins o (en x) else o) from rfl]
    refine ⟨step.1, step.2.1, fun t => ?_⟩
    rw [step.2.2 t]
    by_cases g : many xs (en x) = 0
    · rw [if_pos g, ins_mem]
      constructor
      · rintro ((rfl | h) | ⟨y, hy, h⟩)
        · exact Or.inr ⟨x, List.mem_cons_self, rfl, g⟩
        · exact Or.inl h
        · exact Or.inr ⟨y, List.mem_cons_of_mem _ hy, h⟩
      · rintro (h | ⟨y, hy, h, h3⟩)
        · exact Or.inl (Or.inr h)
        · rcases List.mem_cons.1 hy with rfl | hy
          · exact Or.inl (Or.inl h)
          · exact Or.inr ⟨y, hy, h, h3⟩
    · rw [if_neg g]
      constructor
      · rintro (h | ⟨y, hy, h⟩)
        · exact Or.inl h
        · exact Or.inr ⟨y, List.mem_cons_of_mem _ hy, h⟩
      · rintro (h | ⟨y, hy, h, h3⟩)
        · exact Or.inl h
        · rcases List.mem_cons.1 hy with rfl | hy
          · rw [h] at h3; exact absurd h3 g
          · exact Or.inr ⟨y, hy, h, h3⟩
theorem dark_eq {xs ys : List S47} (hc : ∀ x ∈ xs, Cd x) (hm : ∀ x, x ∈ xs ↔ x ∈ ys) (hs : List.Pairwise (fun a b : S47 => a.f2 ≤ b.f2) ys) {c0 : S47} {cs : List S47} (hy : ys = c0 :: cs) : walk (en c0) ys = spans xs (ends xs xs []) := by
  have hcy : ∀ x ∈ ys, Cd x := fun x hx => hc x ((hm x).2 hx)
  have c0y : c0 ∈ ys := by rw [hy]; exact List.mem_cons_self
  have cc0 := hcy c0 c0y
  have e := ends_ok xs xs [] hc List.Pairwise.nil (fun t ht => by simp at ht)
  have h0 : ∀ y ∈ xs, 0 ≤ y.f2 := fun y hy => by have := hc y hy; unfold Cd Cand at this; omega
  have stc : ∀ y ∈ ys, c0.f2 ≤ y.f2 := by
    intro y hyy
    rw [hy] at hyy hs
    rcases List.mem_cons.1 hyy with rfl | h
    · omega
    · exact (List.pairwise_cons.1 hs).1 y h
  refine ord_ext (r := key) (fun x => lt_irrefl _) (fun x y h => lt_asymm h) (walk_ord ys (en c0) (en_ok cc0).2.1 hcy).1 (spans_ord xs _ e.1) (fun x => ?_)
  rw [walk_mem (xs := xs) hc ys [c0] (en c0) (fun y => by
      rw [hm y, List.mem_singleton]
      constructor
      · exact Or.inr
      · rintro (rfl | h)
        · exact c0y
        · exact h) hs (fun p hp r hr => by rw [List.mem_singleton.1 hp]; exact stc r hr) ⟨c0, by simp, rfl⟩ (fun p hp => by rw [List.mem_singleton.1 hp]; exact lt_irrefl _) x, spans_mem, e.2.2]
  constructor
  · rintro ⟨n, hx, ⟨⟨x0, hx0, e0⟩, hb, hn⟩, _⟩
    have hn' := (nx_next h0 x.f0 n).2 hn
    refine ⟨Or.inr ⟨x0, hx0, e0, many_zero.2 fun y hy => ?_⟩, by omega, by rw [hn'.1]; exact hx⟩
    have := hb y hy
    unfold burnsAt
    by_cases g1 : lt x.f0 (st y)
    · simp [g1]
    · by_cases g2 : lt x.f0 (en y)
      · exact absurd ⟨g1, g2⟩ this
      · simp [g2]
  · rintro ⟨h1, h2, h3⟩
    rcases h1 with h1 | ⟨x0, hx0, e0, hz⟩
    · simp at h1
    · have hb : ∀ y ∈ xs, ¬ (¬ lt x.f0 (st y) ∧ lt x.f0 (en y)) := by
        intro y hy hbb
        have := many_zero.1 hz y hy
        unfold burnsAt at this
        simp [hbb.1, hbb.2] at this
      refine ⟨_, h3, ⟨⟨x0, hx0, e0⟩, hb, (nx_next h0 x.f0 _).1 ⟨rfl, h2⟩⟩, ?_⟩
      -- it is not ahead of the first one's end
      intro hl
      have c0x := (hm c0).2 c0y
      have c00 := hc x0 hx0
      have fx : Fr x.f0 := by rw [e0]; exact (en_ok c00).2
      have g : lt x.f0 (st c0) := Classical.byContradiction fun h => hb c0 c0x ⟨h, hl⟩
      have s0 := stc x0 ((hm x0).1 hx0)
      have a1 : lt x.f0 (st x0) := by
        unfold lt st at *
        simp only at *
        have := Int.mul_le_mul_of_nonneg_right s0 (Int.le_of_lt fx.1)
        omega
      rw [e0] at a1
      exact absurd (st_en c00) (lt_asymm a1)
end Go.Proofs.Ytpoglodghpkjiaa.Pure
