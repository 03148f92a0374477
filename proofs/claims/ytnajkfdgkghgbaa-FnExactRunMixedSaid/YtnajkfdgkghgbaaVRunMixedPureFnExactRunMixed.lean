/- RunMixed: the program's answer is the reference's, and it holds nothing of its arguments. Conditions: none. -/
import Derived.Test.YtnajkfdgkghgbaaVRunMixedRunM
set_option linter.unusedVariables false
set_option linter.unusedSimpArgs false
namespace Go.Proofs.Ytnajkfdgkghgbaa.Pure
open Go.RowKit Go.Proofs.Ytnajkfdgkghgbaa.PA Go.Proofs.Ytnajkfdgkghgbaa.PL Go.Proofs.YtnajkfdgkghgbaaW.PrintWords Go.Proofs.YtnajkfdgkghgbaaW.PrintLast Go.Proofs.YtnajkfdgkghgbaaW.PrintMore
/-! ### One round -/
theorem passed_thg {d : Int} (h0 : 0 ≤ d) {x : S57} (h : Thg x) : Thg (passed d x) := by
  have hr := rate_bd h
  have m1 : 0 ≤ d * rate x := Int.mul_nonneg h0 hr.1
  obtain ⟨h1, h2, h3, h4⟩ := h
  have hl : 0 ≤ left d x ∧ left d x ≤ x.f2 := by
    unfold left
    generalize d * rate x = p at m1
    split <;> omega
  unfold passed
  split
  · refine ⟨h1, ⟨Int.le_refl 0, by show (0 : Int) ≤ 4 * x.f1; omega⟩, Or.inl rfl, ?_⟩
    rcases h4 with ⟨a, _⟩ | ⟨a, _⟩ | ⟨a, _⟩
    · exact Or.inl ⟨a, rfl⟩
    · exact Or.inr (Or.inl ⟨a, Int.le_refl 0, by show (0 : Int) ≤ 2; omega⟩)
    · exact Or.inr (Or.inr ⟨a, Int.le_refl 0, by show (0 : Int) ≤ 1; omega⟩)
  · rename_i hz
    exact ⟨h1, by simp only; omega, Or.inr hz, h4⟩
theorem good_pass {d : Int} (h0 : 0 ≤ d) {xs : List S57} (h : good xs = true) : good (xs.map (passed d)) = true := by
  unfold good at h ⊢
  rw [Bool.and_eq_true, List.all_eq_true] at h ⊢
  refine ⟨by rw [List.length_map]; exact h.1, fun y hy => ?_⟩
  obtain ⟨x, hx, rfl⟩ := List.mem_map.1 hy
  have := h.2 x hx
  exact decide_eq_true (passed_thg h0 (of_decide_eq_true this))
theorem rdL {l : List (List Int)} {i : Nat} {x : List Int} (h : l[i]? = some x) : rd_L2 l (i : Int) = x := by
  unfold rd_L2
  rw [Int.toNat_natCast, List.getD_eq_getElem?_getD, h]; rfl
theorem run_go {plan : List (List Int)} (hp : ∀ row ∈ plan, row.length ≤ 8) (hl : plan.length ≤ 8) : ∀ (d k i : Nat) (ts : List Int) (xs : List S57), good xs = true → plan.length = i + d → ts.length = i + 1 → 100 + d ≤ k →
    ∃ r : List Int × List S57 × Bool, r.1.length ≤ 9 ∧ r.2.1.length ≤ 4 ∧ spec_RunMixed.l0 k plan ts xs (i : Int) = some r ∧ impl_RunMixed.l0 k ts xs plan (plan.length : Int) (i : Int) = some r := by
  intro d
  induction d with
  | zero =>
    intro k i ts xs hg h1 h2 hk
    obtain ⟨k, rfl⟩ : ∃ m, k = m + 1 := ⟨k - 1, by omega⟩
    refine ⟨(ts, xs, true), by simp only; omega, (good_len hg).2, ?_, ?_⟩
    · simp only [spec_RunMixed.l0]
      rw [if_neg (by omega)]
    · simp only [impl_RunMixed.l0]
      rw [if_neg (by omega)]
  | succ d ih =>
    intro k i ts xs hg h1 h2 hk
    obtain ⟨k, rfl⟩ : ∃ m, k = m + 1 := ⟨k - 1, by omega⟩
    obtain ⟨row, hrow⟩ := at_lt (xs := plan) (i := i) (by omega)
    have hr8 := hp row (List.mem_of_getElem? hrow)
    have hxl := good_len hg
    obtain ⟨r, a1, a2, a3, a4⟩ := acts_go (l := row) hr8 row.length k k 0 xs hg (by omega) (by omega) (by omega)
    obtain ⟨q, ⟨q0, q1⟩, q2, q3⟩ := next_go (xs := r.1) a2 r.1.length k 0 0 (by omega) (by omega) (by omega)
    have hyl := good_len a2
    have e1 : spec_l8Acts.f k xs row = some r := by
      unfold spec_l8Acts.f
      simp only [Option.bind_some, List.length_nil, List.nil_append]
      rw [if_pos (by omega)]
      exact a3
    have e2 : impl_doActs.f k xs row = some (r.2, r.1) := a4
    have e3 : spec_l8Next.f k r.1 = some q := q2
    have e4 : impl_nextQuarter.f k r.1 = some q := q3
    have ht : ∀ x ∈ r.1, Thg x := by
      intro x hm
      obtain ⟨j, hj⟩ := List.getElem?_of_mem hm
      exact good_at a2 hj
    obtain ⟨p1, p2⟩ := pass_go q0 q1 r.1 [] [] k rfl (by simp only [List.length_nil]; omega) ht (by omega)
    simp only [List.nil_append, List.length_nil, Nat.zero_add, Int.natCast_zero] at p1 p2
    have e5 : spec_l8Pass.f k r.1 q = some (r.1.map (passed q)) := p1
    have e6 : impl_passQuarters.f k r.1 q = some (r.1.map (passed q)) := by
      unfold impl_passQuarters.f
      have hm : mn q 240 = q := by unfold mn; (repeat' split) <;> omega
      rw [hm]
      exact p2
    simp only [spec_RunMixed.l0, impl_RunMixed.l0, rdL hrow, e1, e2, e3, Option.bind_some, wrS i (by omega)]
    have c1 : (i : Int) < (plan.length : Int) := by omega
    have c0 : (0 : Int) ≤ (i : Int) := by omega
    have c2 : (i : Int) < (ts.length : Int) := by omega
    have c3 : ts.length < 17592186044416 := by omega
    simp only [c1, c0, if_true]
    by_cases g1 : r.2 < (row.length : Int)
    · simp only [g1, if_true]
      exact ⟨([], [], false), by simp, by simp, rfl, rfl⟩
    · simp only [g1, if_false, e4, Option.bind_some]
      by_cases g2 : q = 0
      · simp only [g2, if_true]
        exact ⟨([], [], false), by simp, by simp, rfl, rfl⟩
      · simp only [g2, if_false, e5, e6, Option.bind_some, c2, c3, if_true]
        exact ih k (i + 1) _ _ (good_pass q0 a2) (by omega) (by simp; omega) (by omega)
/-! ### The plan's test -/
def okPlan (l : List (List Int)) : Bool := decide ((l.length : Int) ≤ 8) && l.all fun row => decide (row.length ≤ 8)
theorem specPlan_go (l : List (List Int)) : ∀ (d k i : Nat), i ≤ l.length → 9 = i + d → 2 * d + 2 ≤ k → spec_l8Plan.l0 k l (i : Int) = some (decide ((l.length : Int) ≤ 8) && (l.drop i).all fun row => decide (row.length ≤ 8)) := by
  intro d
  induction d with
  | zero =>
    intro k i h0 h1 hk
    obtain ⟨k, rfl⟩ : ∃ m, k = m + 2 := ⟨k - 2, by omega⟩
    have hn : ¬ (l.length : Int) ≤ 8 := by omega
    simp only [spec_l8Plan.l0, spec_l8Plan.j1]
    by_cases hi : (i : Int) < (l.length : Int)
    · rw [if_pos hi, if_neg (by simp; omega)]; simp [hn]
    · rw [if_neg hi, if_neg (by decide)]; simp [hn]
  | succ d ih =>
    intro k i h0 h1 hk
    obtain ⟨k, rfl⟩ : ∃ m, k = m + 2 := ⟨k - 2, by omega⟩
    simp only [spec_l8Plan.l0, spec_l8Plan.j1]
    by_cases hi : (i : Int) < (l.length : Int)
    · obtain ⟨x, hxx⟩ := at_lt (xs := l) (i := i) (by omega)
      have hd : l.drop i = x :: l.drop (i + 1) := by
        rw [List.drop_eq_getElem_cons (by omega)]
        rw [List.getElem?_eq_getElem (by omega)] at hxx
        cases hxx; rfl
      rw [if_pos hi, if_pos (by simp; omega), if_pos (by omega), if_pos hi, rdL hxx, hd, List.all_cons]
      by_cases hp : (x.length : Int) > 8
      · rw [if_pos hp]
        have : ¬ x.length ≤ 8 := by omega
        simp [this]
      · rw [if_neg hp, wrS i (by omega), ih k (i + 1) (by omega) (by omega) (by omega)]
        have : x.length ≤ 8 := by omega
        simp [this]
    · rw [if_neg hi, if_neg (by decide), List.drop_eq_nil_of_le (by omega)]
      simp
theorem specPlan_ok {k : Nat} (hk : 30 ≤ k) (l : List (List Int)) : spec_l8Plan.f k l = some (okPlan l) := by
  have := specPlan_go l 9 k 0 (by omega) (by omega) (by omega)
  rw [List.drop_zero] at this
  exact this
theorem implPlan_ok {k : Nat} {l : List (List Int)} (hx : l.length ≤ 1099511627776) (hk : l.length < k) : impl_isMixedPlan.f k l = some (okPlan l) := by
  unfold impl_isMixedPlan.f slices_ContainsFunc_int_int_at_impl_isMixedPlan_1.f slices_IndexFunc_int_int_at_impl_isMixedPlan_1.f okPlan
  have hf := find_go (fun k xs i => slices_IndexFunc_int_int_at_impl_isMixedPlan_1.l0 k xs (xs.length : Int) i) (fun row : List Int => decide (row.length ≤ 8)) ?_ ?_ l hx l.length k 0 (by omega) hk
  · obtain ⟨r, h, hr⟩ := hf
    rw [show ((0 : Nat) : Int) = 0 from rfl] at h
    rw [h, Option.bind_some, Option.bind_some, hr, List.drop_zero]
    by_cases h1 : (l.length : Int) ≤ 8
    · rw [if_pos h1]; simp [h1]
    · rw [if_neg h1]; simp [h1]
  · intro k xs i x hx
    have h1 := lt_of hx
    simp only [slices_IndexFunc_int_int_at_impl_isMixedPlan_1.l0]
    rw [if_pos (by omega), if_pos (by omega), if_pos (by omega), rdL hx]
    unfold impl_isMixedPlan_1.f
    rw [Option.bind_some]
    by_cases h2 : x.length ≤ 8
    · rw [if_neg (by simp; omega), if_pos (by simp [h2])]
    · rw [if_pos (by simp; omega), if_neg (by simp [h2])]
  · intro k xs i hi
    simp only [slices_IndexFunc_int_int_at_impl_isMixedPlan_1.l0]
    rw [if_neg (by omega)]
theorem both_ok {k : Nat} (hk : 300 ≤ k) {xs : List S57} (hx : xs.length ≤ 1048576) (hk2 : xs.length + 1 < k) {l : List (List Int)} (hl : l.length ≤ 1048576) (hk3 : l.length + 1 < k) :
    ∃ r : List Int × List S57 × Bool, r.1.length ≤ 9 ∧ r.2.1.length ≤ 4 ∧ spec_RunMixed.f k xs l = some r ∧ impl_RunMixed.f k xs l = some r := by
  unfold spec_RunMixed.f impl_RunMixed.f
  rw [specGood_ok (by omega), implGood_ok (by omega) (by omega), Option.bind_some, Option.bind_some]
  obtain ⟨k, rfl⟩ : ∃ m, k = m + 1 := ⟨k - 1, by omega⟩
  have no1 : spec_RunMixed.j0 (k + 1) xs l true = some ([], [], false) := by simp only [spec_RunMixed.j0, if_true]
  have no2 : impl_RunMixed.j0 (k + 1) xs l true = some ([], [], false) := by simp only [impl_RunMixed.j0, if_true]
  by_cases h : good xs = true
  · rw [if_pos h, if_pos h, specPlan_ok (by omega), implPlan_ok (by omega) (by omega), Option.bind_some, Option.bind_some]
    by_cases hp : okPlan l = true
    · have hp' := hp
      unfold okPlan at hp'
      rw [Bool.and_eq_true, List.all_eq_true, decide_eq_true_eq] at hp'
      rw [hp]
      simp only [spec_RunMixed.j0, impl_RunMixed.j0, Bool.not_true, Bool.false_eq_true, if_false]
      have hxl := good_len h
      unfold impl_Thing_53.f
      simp only [Option.bind_some, List.length_nil, List.nil_append]
      rw [if_pos (by omega), if_pos (by omega)]
      simp only [Option.bind_some]
      have := run_go (plan := l) (fun row hr => of_decide_eq_true (hp'.2 row hr)) (by omega) l.length k 0 [0] xs h (by omega) rfl (by omega)
      exact this
    · have : okPlan l = false := by simpa using hp
      rw [this]
      exact ⟨([], [], false), by simp, by simp, no1, no2⟩
  · rw [if_neg h, if_neg h]
    exact ⟨([], [], false), by simp, by simp, no1, no2⟩
/-! ### Rows of rows, copied, compared, marked -/
theorem sz_go {l : List (List Int)} (hr : ∀ row ∈ l, row.length ≤ 9223372036854775807) (hl : l.length ≤ 1048576) : ∀ (d k i : Nat) (a : Int), l.length = i + d → d < k → 0 ≤ a → a ≤ 1048576 → ∃ t, laws_szIntSS.l0 k l a (i : Int) = some t ∧ (0 ≤ t → ∀ row ∈ l.drop i, row.length ≤ 1048576) := by
  intro d
  induction d with
  | zero =>
    intro k i a h1 hk h2 h3
    obtain ⟨k, rfl⟩ : ∃ m, k = m + 1 := ⟨k - 1, by omega⟩
    simp only [laws_szIntSS.l0]
    rw [if_neg (by omega), List.drop_eq_nil_of_le (by omega)]
    exact ⟨_, rfl, fun _ row h => by simp at h⟩
  | succ d ih =>
    intro k i a h1 hk h2 h3
    obtain ⟨k, rfl⟩ : ∃ m, k = m + 1 := ⟨k - 1, by omega⟩
    obtain ⟨x, hxx⟩ := at_lt (xs := l) (i := i) (by omega)
    have hd : l.drop i = x :: l.drop (i + 1) := by
      rw [List.drop_eq_getElem_cons (by omega)]
      rw [List.getElem?_eq_getElem (by omega)] at hxx
      cases hxx; rfl
    have hx := hr x (List.mem_of_getElem? hxx)
    simp only [laws_szIntSS.l0, laws_szIntS.f, rdL hxx]
    rw [if_pos (by omega), if_pos (by omega), wr (n := a - (x.length : Int)) (by omega) (by omega), wrS i (by omega)]
    by_cases g : a - (x.length : Int) < 0
    · rw [if_pos g]
      simp only [Option.bind_some]
      rw [if_pos (by decide)]
      exact ⟨_, rfl, fun h => by omega⟩
    · rw [if_neg g, Option.bind_some, if_neg g, hd]
      obtain ⟨t, ht, hh⟩ := ih k (i + 1) (a - (x.length : Int)) (by omega) (by omega) (by omega) (by omega)
      refine ⟨t, ht, fun h0 row hm => ?_⟩
      rcases List.mem_cons.1 hm with rfl | hm
      · omega
      · exact hh h0 row hm
theorem sz_ok {k : Nat} {l : List (List Int)} (hr : ∀ row ∈ l, row.length ≤ 9223372036854775807) (hl : l.length ≤ 9223372036854775807) {a : Int} (h0 : 0 ≤ a) (h1 : a ≤ 1048576) (hk : 1048577 ≤ k) :
    ∃ t, laws_szIntSS.f k l a = some t ∧ (0 ≤ t → l.length ≤ 1048576 ∧ ∀ row ∈ l, row.length ≤ 1048576) := by
  unfold laws_szIntSS.f
  rw [wr (n := a - (l.length : Int)) (by omega) (by omega)]
  by_cases g : a - (l.length : Int) < 0
  · rw [if_pos g]
    exact ⟨_, rfl, fun h => by omega⟩
  · rw [if_neg g]
    obtain ⟨t, ht, hh⟩ := sz_go hr (by omega) l.length k 0 (a - (l.length : Int)) (by omega) (by omega) (by omega) (by omega)
    rw [List.drop_zero] at hh
    exact ⟨t, ht, fun h => ⟨by omega, hh h⟩⟩
theorem to_go {l : List (List Int)} (hr : ∀ row ∈ l, row.length ≤ 1048576) (hl : l.length ≤ 1048576) : ∀ (d k i : Nat) (ys : List (List Int)), l.length = i + d → 1048578 + d ≤ k → ys.length = l.length → (∀ j, j < i → ys[j]? = l[j]?) → laws_toIntSS.l0 k l ys (i : Int) = some l := by
  intro d
  induction d with
  | zero =>
    intro k i ys h1 hk h2 h3
    obtain ⟨k, rfl⟩ : ∃ m, k = m + 1 := ⟨k - 1, by omega⟩
    simp only [laws_toIntSS.l0]
    rw [if_neg (by omega)]
    congr 1
    apply List.ext_getElem?
    intro j
    by_cases hj : j < i
    · exact h3 j hj
    · rw [List.getElem?_eq_none (by omega), List.getElem?_eq_none (by omega)]
  | succ d ih =>
    intro k i ys h1 hk h2 h3
    obtain ⟨k, rfl⟩ : ∃ m, k = m + 1 := ⟨k - 1, by omega⟩
    obtain ⟨x, hxx⟩ := at_lt (xs := l) (i := i) (by omega)
    have hx := hr x (List.mem_of_getElem? hxx)
    simp only [laws_toIntSS.l0, rdL hxx]
    rw [if_pos (by omega), if_pos (by omega), toIntS_ok hx (by omega), Option.bind_some, if_pos (by omega), wrS i (by omega), Int.toNat_natCast]
    refine ih k (i + 1) _ (by omega) (by omega) (by rw [List.length_set]; exact h2) (fun j hj => ?_)
    by_cases hji : i = j
    · subst hji
      rw [List.getElem?_set_self (by omega), hxx]
    · rw [List.getElem?_set_ne hji]
      exact h3 j (by omega)
theorem to_ok {k : Nat} {l : List (List Int)} (hr : ∀ row ∈ l, row.length ≤ 1048576) (hl : l.length ≤ 1048576) (hk : 2097160 ≤ k) : laws_toIntSS.f k l = some l := by
  unfold laws_toIntSS.f
  rw [if_pos (by omega), if_pos (by simp; omega)]
  exact to_go hr hl l.length k 0 _ (by omega) (by omega) (by simp) (fun j hj => by omega)
theorem eq_go {l : List (List Int)} (hr : ∀ row ∈ l, row.length ≤ 1048576) (hl : l.length ≤ 1048576) : ∀ (d k i : Nat), l.length = i + d → 1048578 + d ≤ k → laws_eqIntSS.l0 k l l (i : Int) = some true := by
  intro d
  induction d with
  | zero =>
    intro k i h1 hk
    obtain ⟨k, rfl⟩ : ∃ m, k = m + 1 := ⟨k - 1, by omega⟩
    simp only [laws_eqIntSS.l0]
    rw [if_neg (by omega)]
  | succ d ih =>
    intro k i h1 hk
    obtain ⟨k, rfl⟩ : ∃ m, k = m + 1 := ⟨k - 1, by omega⟩
    obtain ⟨x, hxx⟩ := at_lt (xs := l) (i := i) (by omega)
    have hx := hr x (List.mem_of_getElem? hxx)
    simp only [laws_eqIntSS.l0, rdL hxx]
    rw [if_pos (by omega), if_pos (by omega), if_pos (by omega), eqIntS_self (by omega) (by omega), Option.bind_some, if_pos rfl, wrS i (by omega)]
    exact ih k (i + 1) (by omega) (by omega)
theorem eq_ok {k : Nat} {l : List (List Int)} (hr : ∀ row ∈ l, row.length ≤ 1048576) (hl : l.length ≤ 1048576) (hk : 2097160 ≤ k) : laws_eqIntSS.f k l l = some true := by
  unfold laws_eqIntSS.f
  rw [if_pos rfl]
  exact eq_go hr hl l.length k 0 (by omega) (by omega)
theorem markI_go (n : Nat) : ∀ (d k i : Nat) (l : List Int) (c : Int), l.length = n → n ≤ 2097152 → i + d = n → d < k → 0 ≤ c → c ≤ 4398046511104 + i → ∃ ys : List Int, laws_markIntS.l0 k l c i = some (c + d, ys) := by
  intro d
  induction d with
  | zero =>
    intro k i l c h1 h2 h3 h4 h5 h6
    obtain ⟨k, rfl⟩ : ∃ m, k = m + 1 := ⟨k - 1, by omega⟩
    simp only [laws_markIntS.l0]
    rw [if_neg (by omega)]
    exact ⟨l, by simp⟩
  | succ d ih =>
    intro k i l c h1 h2 h3 h4 h5 h6
    obtain ⟨k, rfl⟩ : ∃ m, k = m + 1 := ⟨k - 1, by omega⟩
    simp only [laws_markIntS.l0]
    rw [if_pos (by omega), if_pos (by omega), wrS i (by omega), wr (n := c + 1) (by omega) (by omega)]
    obtain ⟨ys, h⟩ := ih k (i + 1) (l.set (i : Int).toNat c) (c + 1) (by rw [List.length_set]; exact h1) h2 (by omega) (by omega) (by omega) (by push_cast; omega)
    refine ⟨ys, ?_⟩
    rw [h]
    congr 2
    push_cast
    omega
theorem markSS_go (n : Nat) (hn : n ≤ 1048576) : ∀ (d k i : Nat) (ys : List (List Int)) (c : Int), ys.length = n → n = i + d → 1048578 + d ≤ k → (∀ j row, i ≤ j → ys[j]? = some row → row.length ≤ 1048576) → 0 ≤ c → c ≤ 8388608 + 1048576 * (i : Int) → ∃ r : Int × List (List Int), laws_markIntSS.l0 k ys c (i : Int) = some r ∧ 0 ≤ r.1 := by
  intro d
  induction d with
  | zero =>
    intro k i ys c h1 h2 hk h3 h4 h5
    obtain ⟨k, rfl⟩ : ∃ m, k = m + 1 := ⟨k - 1, by omega⟩
    simp only [laws_markIntSS.l0]
    rw [if_neg (by omega)]
    exact ⟨_, rfl, h4⟩
  | succ d ih =>
    intro k i ys c h1 h2 hk h3 h4 h5
    obtain ⟨k, rfl⟩ : ∃ m, k = m + 1 := ⟨k - 1, by omega⟩
    obtain ⟨x, hxx⟩ := at_lt (xs := ys) (i := i) (by omega)
    have hx := h3 i x (Nat.le_refl _) hxx
    obtain ⟨zs, hz⟩ := markI_go x.length x.length k 0 x c rfl (by omega) (by omega) (by omega) h4 (by omega)
    have hz' : laws_markIntS.f k (ys.getD (i : Int).toNat []) c = some (c + (x.length : Int), zs) := by
      rw [Int.toNat_natCast, List.getD_eq_getElem?_getD, hxx]
      exact hz
    simp only [laws_markIntSS.l0, hz', Option.bind_some, wrS i (by omega)]
    rw [if_pos (by omega), if_pos (by omega)]
    refine ih k (i + 1) _ _ (by rw [List.length_set]; exact h1) (by omega) (by omega) (fun j row hj hrow => ?_) (by omega) (by push_cast; omega)
    rw [Int.toNat_natCast, List.getElem?_set_ne (by omega)] at hrow
    exact h3 j row (by omega) hrow
theorem markSS_ok {k : Nat} {l : List (List Int)} (hr : ∀ row ∈ l, row.length ≤ 1048576) (hl : l.length ≤ 1048576) (hk : 2097160 ≤ k) {c : Int} (h0 : 0 ≤ c) (h1 : c ≤ 8388608) : ∃ t, laws_markIntSS.f k l c = some t ∧ 0 ≤ t := by
  obtain ⟨r, e, h⟩ := markSS_go l.length hl l.length k 0 l c rfl (by omega) (by omega) (fun j row _ hj => hr row (List.mem_of_getElem? hj)) h0 (by omega)
  refine ⟨r.1, ?_, h⟩
  unfold laws_markIntSS.f
  rw [show ((0 : Nat) : Int) = 0 from rfl] at e
  rw [e]; rfl
/-! ### Things marked from a number on -/
theorem markT_from {k : Nat} {xs : List S57} (hx : xs.length ≤ 1048576) (hk : xs.length < k) {d : Int} (h0 : 0 ≤ d) (h1 : d ≤ 1048576) :
    laws_markThingS.f k xs (1 + d) = some (((1 + 4 * xs.length : Nat) : Int) + d, marked (fun c => mkThing (c + d)) 4 xs.length) := by
  have h := mark_go (fun k xs c i => (laws_markThingS.l0 k xs (c + d) i).map fun r => (r.1 - d, r.2)) (fun c => mkThing (c + d)) (fun c => nxThing (c + d) - d) 4 (by omega)
    (fun c hc0 hc1 => by unfold nxThing wrap64; omega) ?_ ?_ xs.length (by omega) xs.length k 0 xs rfl (by omega) hk (by intro j hj; omega)
  · obtain ⟨r, hr, e⟩ := Option.map_eq_some_iff.mp h
    have e1 : r.1 = ((1 + 4 * xs.length : Nat) : Int) + d := by
      have := congrArg Prod.fst e
      simp only at this
      omega
    have e2 : r.2 = marked (fun c => mkThing (c + d)) 4 xs.length := congrArg Prod.snd e
    unfold laws_markThingS.f
    have hr' : laws_markThingS.l0 k xs (1 + d) 0 = some r := hr
    rw [hr', ← e1, ← e2]
  · intro k xs c i hi
    obtain ⟨x, hx⟩ := at_lt hi
    simp only [laws_markThingS.l0]
    rw [if_pos (by omega), if_pos (by omega)]
    simp [rd_T57, hx, hi, mkThing, nxThing]
  · intro k xs c i hi
    simp only [laws_markThingS.l0]
    rw [if_neg (by omega)]
    simp
theorem heldT_from {k n : Nat} (hx : n ≤ 1048576) (hk : n < k) {d : Int} (h0 : 0 ≤ d) (h1 : d ≤ 1048576) : laws_heldThingS.f k (marked (fun c => mkThing (c + d)) 4 n) (1 + d) = some (((1 + 4 * n : Nat) : Int) + d) := by
  have h := held_go (fun k xs c i => (laws_heldThingS.l0 k xs (c + d) i).map fun r => r - d) (fun c => mkThing (c + d)) (fun c => nxThing (c + d) - d) 4 (by omega)
    (fun c hc0 hc1 => by unfold nxThing wrap64; omega) ?_ ?_ n (by omega) n k 0 (by omega) hk
  · obtain ⟨r, hr, e⟩ := Option.map_eq_some_iff.mp h
    unfold laws_heldThingS.f
    have hr' : laws_heldThingS.l0 k (marked (fun c => mkThing (c + d)) 4 n) (1 + d) 0 = some r := hr
    rw [hr']
    congr 1
    omega
  · intro k xs c i hi
    have h1 := lt_of hi
    simp only [laws_heldThingS.l0]
    rw [if_pos (by omega), if_pos (by omega)]
    simp [rd_T57, hi, mkThing, nxThing]
  · intro k xs c i hi
    simp only [laws_heldThingS.l0]
    rw [if_neg (by omega)]
    simp
/-! ### The law -/
theorem szT_ok {xs : List S69} (hx : xs.length ≤ 9223372036854775807) : ∃ t, laws_szThingS.f xs 1048576 = some t ∧ (0 ≤ t → t ≤ 1048576 ∧ xs.length ≤ 1048576) := by
  unfold laws_szThingS.f
  rw [wr (n := 1048576 - (xs.length : Int)) (by omega) (by omega)]
  by_cases g : 1048576 - (xs.length : Int) < 0
  · rw [if_pos g]
    exact ⟨_, rfl, fun h => by omega⟩
  · rw [if_neg g]
    exact ⟨_, rfl, fun h => ⟨by omega, by omega⟩⟩
theorem FnExactRunMixed : laws_FnExactRunMixed.Pure := by
  intro xs l _ hxs _ hls hin
  obtain ⟨K, hK⟩ : ∃ K, K = 4194304 := ⟨_, rfl⟩
  refine ⟨K + 1 + 1 + 1, ?_⟩
  unfold laws_FnExactRunMixed.f
  obtain ⟨t, ht, ht2⟩ := szT_ok hxs
  rw [ht, Option.bind_some]
  by_cases g1 : t < 0
  · rw [if_pos g1]
  · rw [if_neg g1]
    obtain ⟨t1, hx⟩ := ht2 (by omega)
    obtain ⟨u, hu, hu2⟩ := sz_ok (k := K + 1 + 1 + 1) hin hls (a := t) (by omega) t1 (by omega)
    rw [hu, Option.bind_some]
    by_cases g2 : u < 0
    · rw [if_pos g2]
    · rw [if_neg g2]
      obtain ⟨hl, hr⟩ := hu2 (by omega)
      have hm : (xs.map convThing).length ≤ 1048576 := by simpa using hx
      have hto : ∀ k, xs.length < k → laws_toThingS.f k xs = some (xs.map convThing) := fun k hk => toThingS_ok hx hk
      have hti : ∀ k, 2097160 ≤ k → laws_toIntSS.f k l = some l := fun k hk => to_ok hr hl hk
      rw [hto _ (by omega), Option.bind_some, hti _ (by omega), Option.bind_some]
      generalize xs.map convThing = ys at *
      obtain ⟨r, r1, r2, s1, s2⟩ := both_ok (k := 2097160) (by omega) hm (by omega) hl (by omega)
      have S1 : ∀ k, 2097160 ≤ k → spec_RunMixed.f k ys l = some r := fun k hk => at_rounds (spec_RunMixed.mono ys l) hk s1
      have S2 : ∀ k, 2097160 ≤ k → impl_RunMixed.f k ys l = some r := fun k hk => at_rounds (impl_RunMixed.mono ys l) hk s2
      clear s1 s2
      obtain ⟨ts, zs, ok⟩ := r
      simp only at r1 r2
      rw [S1 _ (by omega), Option.bind_some, Option.bind_some, Option.bind_some, S2 _ (by omega), Option.bind_some]
      simp only
      rw [eqIntS_self (by omega) (by omega), Option.bind_some, if_pos rfl, eqThingS_self (by omega) (by omega), Option.bind_some, if_pos rfl]
      simp only [laws_FnExactRunMixed.j0, bne_self_eq_false, Bool.false_eq_true, if_false]
      rw [hto _ (by omega), Option.bind_some, eqThingS_self (by omega) (by omega), Option.bind_some, if_pos rfl, hti _ (by omega), Option.bind_some, eq_ok hr hl (by omega), Option.bind_some, if_pos rfl, markThingS_ok (by omega) (by omega), Option.bind_some]
      simp only
      obtain ⟨v, hv, hv0⟩ := markSS_ok (k := K + 1 + 1) hr hl (by omega) (c := ((1 + 4 * ys.length : Nat) : Int)) (by omega) (by omega)
      rw [hv, Option.bind_some, if_neg (by omega), eqIntS_self (by omega) (by omega), Option.bind_some, if_pos rfl, eqThingS_self (by omega) (by omega), Option.bind_some, if_pos rfl]
      simp only [laws_FnExactRunMixed.j1, bne_self_eq_false, Bool.false_eq_true, if_false]
      rw [markIntS_ok (by omega) (by omega), Option.bind_some]
      simp only
      have em : ((1 + 1 * ts.length : Nat) : Int) = 1 + (ts.length : Int) := by omega
      rw [em, markT_from (by omega) (by omega) (by omega) (by omega), Option.bind_some]
      simp only
      rw [heldIntS_ok (by omega) (by omega), Option.bind_some, if_neg (by omega), em, heldT_from (by omega) (by omega) (by omega) (by omega), Option.bind_some, if_neg (by omega), if_pos rfl, hto _ (by omega), Option.bind_some, hti _ (by omega), Option.bind_some, S2 _ (by omega), Option.bind_some]
      simp only
      rw [eqIntS_self (by omega) (by omega), Option.bind_some, if_pos rfl, eqThingS_self (by omega) (by omega), Option.bind_some, if_pos rfl]
      simp only [laws_FnExactRunMixed.j2, bne_self_eq_false, Bool.false_eq_true, if_false]
      rw [heldIntS_ok (by omega) (by omega), Option.bind_some, if_neg (by omega), em, heldT_from (by omega) (by omega) (by omega) (by omega), Option.bind_some, if_neg (by omega), if_pos rfl]
end Go.Proofs.Ytnajkfdgkghgbaa.Pure
