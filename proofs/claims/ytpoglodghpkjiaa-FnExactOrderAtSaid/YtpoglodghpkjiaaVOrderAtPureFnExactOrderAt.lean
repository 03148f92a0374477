/- OrderAt: the program's sorted order is the reference's insertion. Conditions: none. -/
import Derived.Test.YtpoglodghpkjiaaVOrderAtCandList
import Derived.Test.YtpoglodghpkjiaaVOrderAtBase3
import Derived.Test.YtpoglodghpkjiaaVOrderAtListsI
set_option linter.unusedVariables false
set_option linter.unusedSimpArgs false
namespace Go.Proofs.Ytpoglodghpkjiaa.Pure
open Go.RowKit Go.Proofs.Ytpoglodghpkjiaa.PA Go.Proofs.Ytpoglodghpkjiaa.PL Go.Proofs.YtpoglodghpkjiaaW.PrintWords Go.Proofs.YtpoglodghpkjiaaW.PrintLast Go.Proofs.YtpoglodghpkjiaaW.PrintMore
theorem bigs {k : Nat} (hk : BIG + 2000000 ≤ k) : BIG ≤ k ∧ BIG + 100 ≤ k ∧ 20 ≤ k ∧ 1048576 < k ∧ BIG + 1000 ≤ k := by
  have := BIG_le
  generalize BIG = B at *
  omega
/-! ### Lengths -/
def LB (x : Int × Int) : Prop := x.1.natAbs ≤ 130000000 ∧ 1 ≤ x.2 ∧ x.2 ≤ 100000
theorem len_bd {a b c t u : Int} (h : Cand a b c) (ht : Mom t u) : LB (len a b c t u) := by
  obtain ⟨⟨a1, a2⟩, ⟨b1, b2⟩, c1, c2⟩ := h
  obtain ⟨⟨t1, t2⟩, ⟨u1, u2⟩, _⟩ := ht
  have m1 := mul_bd (a := b) (b := c) (A := 12) (B := 99) (by omega) (by omega) (by omega) (by omega)
  have m2 := mul_bd (a := a + b * c) (b := u) (A := 1287) (B := 100000) (by omega) (by omega) (by omega) (by omega)
  have m3 := mul_bd (a := b) (b := t) (A := 12) (B := 100000) (by omega) (by omega) (by omega) (by omega)
  unfold len LB
  split
  · split
    · have p1 := cut_pos (a := (a + b * c) * u - b * t) (b := u) (by omega)
      have p2 := cut_le ((a + b * c) * u - b * t) u (by omega)
      have p3 := cut_abs ((a + b * c) * u - b * t) u (by omega)
      omega
    · decide
  · simp only
    omega
def lenO (t u : Int) (x : S47) : Int × Int := len x.f0 x.f1 x.f2 t u
theorem lenL_ok {k : Nat} (hk : BIG ≤ k) {t u : Int} (ht : Mom t u) : ∀ xs : List S47, (∀ x ∈ xs, Cand x.f0 x.f1 x.f2) → lenL k t u xs = some (xs.map (lenO t u))
  | [], _ => rfl
  | x :: xs, h => by
    have h1 := lenL_ok hk ht xs (fun y hy => h y (List.mem_cons_of_mem _ hy))
    unfold lenL
    rw [implLen_ok hk (h x List.mem_cons_self) ht, Option.bind_some, h1]
    rfl
theorem LB_mul {x y : Int × Int} (hx : LB x) (hy : LB y) : (x.1 * y.2).natAbs ≤ 13000000000000 := by
  obtain ⟨h1, _, _⟩ := hx
  obtain ⟨_, h2, h3⟩ := hy
  rw [Int.natAbs_mul]
  have : y.2.natAbs ≤ 100000 := by omega
  exact Nat.mul_le_mul h1 this
theorem cmp_ok {x y : Int × Int} (hx : LB x) (hy : LB y) : decide (cmpV x y < 0) = decide (x.1 * y.2 < y.1 * x.2) := by
  have h1 := LB_mul hx hy
  have h2 := LB_mul hy hx
  unfold cmpV
  rw [w64 (n := x.1 * y.2) (by omega) (by omega), w64 (n := y.1 * x.2) (by omega) (by omega), w64 (by omega) (by omega)]
  congr 1
  apply propext
  omega
theorem less_ok {x y : Int × Int} (hx : LB x) (hy : LB y) : spec_l2Less.f x.1 x.2 y.1 y.2 = some (decide (cmpV x y < 0)) := by
  have h1 := LB_mul hx hy
  have h2 := LB_mul hy hx
  rw [cmp_ok hx hy]
  unfold spec_l2Less.f
  rw [w64 (n := x.1 * y.2) (by omega) (by omega), w64 (n := y.1 * x.2) (by omega) (by omega)]
/-! ### The reference's loops -/
theorem own_ok {l : List Int} (h : l.length < 17592186044416) : spec_l1Own.f l = some l := by
  unfold spec_l1Own.f
  rw [Option.bind_some, if_pos (by simpa using h)]
  rfl
theorem insR_mem {α : Type} (lt : α → α → Bool) (x p : α) : ∀ l : List α, p ∈ insR lt x l → p = x ∨ p ∈ l
  | [], h => by
    have : p ∈ [x] := h
    exact Or.inl (by simpa using this)
  | y :: r, h => by
    unfold insR at h
    split at h
    · rcases List.mem_cons.1 h with h | h
      · exact Or.inr (by simp [h])
      · rcases insR_mem lt x p r h with h | h
        · exact Or.inl h
        · exact Or.inr (List.mem_cons_of_mem _ h)
    · exact List.mem_cons.1 h
theorem insE_mem {α : Type} [Inhabited α] {lt : α → α → Bool} {x p : α} {l : List α} (h : p ∈ insE lt l x) : p = x ∨ p ∈ l := by
  unfold insE at h
  rcases insR_mem lt x p l.reverse (List.mem_reverse.1 h) with h | h
  · exact Or.inl h
  · exact Or.inr (List.mem_reverse.1 h)
theorem len_at {xs : List S47} (hg : good xs = true) {t u : Int} (ht : Mom t u) {i : Nat} (hi : i < xs.length) :
    ∃ x, LB x ∧ (xs.map (lenO t u)).getD i (0, 0) = x ∧ ∀ k, BIG ≤ k → spec_l7Length.f k (rd_T47 xs (nI i)).f0 (rd_T47 xs (nI i)).f1 (rd_T47 xs (nI i)).f2 t u = some x := by
  obtain ⟨c, hc⟩ := at_lt hi
  have h := good_at hg hc
  refine ⟨lenO t u c, len_bd h ht, ?_, fun k hk => ?_⟩
  · rw [List.getD_eq_getElem?_getD, List.getElem?_map, hc]; rfl
  · show spec_l7Length.f k (rd_T47 xs (i : Int)).f0 (rd_T47 xs (i : Int)).f1 (rd_T47 xs (i : Int)).f2 t u = _
    rw [rd_at hc]; exact specLen_ok hk h ht
theorem put_ok {R : Type} (F : List Int → Option R) (P S : List Nat) (i : Nat) (hl : P.length + S.length ≤ 100) :
    (if 0 ≤ (P.length : Int) then (if (P.length : Int) ≤ (((P ++ S).map nI).length : Int) then ((spec_l1Own.f (((P ++ S).map nI).take (P.length : Int).toNat)).bind fun t189 => ((some (([(i : Int)] : List Int) : List Int)).bind fun y192 => (if t189.length + y192.length < 17592186044416 then ((some (t189 ++ y192 : List Int)).bind fun y195 => ((some (((P ++ S).map nI).drop (P.length : Int).toNat : List Int)).bind fun y198 => (if y195.length + y198.length < 17592186044416 then (F (y195 ++ y198)) else (none)))) else (none)))) else (none)) else (none)) = F ((P ++ [i] ++ S).map nI) := by
  have e1 : ((P ++ S).map nI).take (P.length : Int).toNat = P.map nI := by
    rw [Int.toNat_natCast, List.map_append]; exact List.take_left' (by simp)
  have e2 : ((P ++ S).map nI).drop (P.length : Int).toNat = S.map nI := by
    rw [Int.toNat_natCast, List.map_append]; exact List.drop_left' (by simp)
  rw [e1, e2, own_ok (by rw [List.length_map]; omega)]
  simp only [Option.bind_some]
  rw [if_pos (by omega), if_pos (by simp only [List.length_map, List.length_append]; omega), if_pos (by simp; omega), if_pos (by simp; omega)]
  congr 1
  simp [nI]
theorem l1_ok {xs : List S47} (hg : good xs = true) {t u : Int} (ht : Mom t u) {i : Nat} (hi : i < xs.length) {K0 : Nat} (hK : BIG ≤ K0) : ∀ (n : Nat) (P S : List Nat), P.length = n → (∀ p ∈ P, p < xs.length) → P.length + S.length ≤ 50 → ∀ r, (∀ K, K0 ≤ K → spec_OrderAt.l0 K xs ((insE (ltN (xs.map (lenO t u))) P i ++ S).map nI) ((i + 1 : Nat) : Int) t u = some r) → ∀ k, K0 + n + 1 ≤ k → spec_OrderAt.l1 k xs ((P ++ S).map nI) (i : Int) (n : Int) t u = some r := by
  have hl6 := (good_len hg).2
  have hsc : wrap64 ((i : Int) + 1) = ((i + 1 : Nat) : Int) := wrS i (by omega)
  obtain ⟨xi, hbi, hxi, hsi⟩ := len_at hg ht hi
  intro n
  induction n with
  | zero =>
    intro P S hn hP hl r hr k hk
    obtain ⟨k, rfl⟩ : ∃ m, k = m + 1 := ⟨k - 1, by omega⟩
    obtain rfl := List.length_eq_zero_iff.1 hn
    unfold spec_OrderAt.l1
    rw [if_neg (by decide)]
    have := put_ok (fun l => spec_OrderAt.l0 k xs l (wrap64 ((i : Int) + 1)) t u) [] S i (by omega)
    refine this.trans ?_
    rw [hsc]
    exact hr k (by omega)
  | succ n ih =>
    intro P S hn hP hl r hr k hk
    obtain ⟨k, rfl⟩ : ∃ m, k = m + 1 := ⟨k - 1, by omega⟩
    obtain ⟨Q, y, rfl⟩ : ∃ Q y, P = Q ++ [y] := ⟨P.dropLast, P.getLast (by intro e; rw [e] at hn; simp at hn), (List.dropLast_concat_getLast _).symm⟩
    have hq : Q.length = n := by simpa using hn
    have hy : y < xs.length := hP y (by simp)
    obtain ⟨xy, hby, hxy, hsy⟩ := len_at hg ht hy
    have hw : wrap64 (((n + 1 : Nat) : Int) - 1) = (n : Int) := by
      rw [wr (by omega) (by omega)]; omega
    have hrd : rd ((Q ++ [y] ++ S).map nI) (n : Int) = nI y := by
      have : ((Q ++ [y] ++ S).map nI)[n]? = some (nI y) := by rw [← hq]; simp
      exact rdI_at this
    have hl' : Q.length + 1 + S.length ≤ 50 := by simpa using hl
    have hxl : (((Q ++ [y] ++ S).map nI).length : Int) = (Q.length + 1 + S.length : Nat) := by simp only [List.length_map, List.length_append, List.length_singleton]
    have hlt : decide (cmpV xi xy < 0) = ltN (xs.map (lenO t u)) i y := by unfold ltN; rw [hxi, hxy]
    unfold spec_OrderAt.l1
    rw [if_pos (by omega), if_pos (by omega), if_pos (by omega), hw, hrd]
    rw [show spec_l7Length.f k (rd_T47 xs (i : Int)).f0 (rd_T47 xs (i : Int)).f1 (rd_T47 xs (i : Int)).f2 t u = some xi from hsi k (by omega), Option.bind_some]
    rw [if_pos (by omega), if_pos (by omega), if_pos (by unfold nI; omega), if_pos (by unfold nI; omega), hsy k (by omega), Option.bind_some, less_ok hbi hby, Option.bind_some, hlt]
    rw [insE_snoc] at hr
    by_cases hb : ltN (xs.map (lenO t u)) i y = true
    · rw [if_pos hb]
      rw [if_pos hb] at hr
      have := ih Q ([y] ++ S) hq (fun p hp => hP p (by simp [hp])) (by simp; omega) r (by rw [← List.append_assoc]; exact hr) k (by omega)
      rw [← List.append_assoc] at this
      exact this
    · rw [if_neg hb]
      rw [if_neg hb] at hr
      have := put_ok (fun l => spec_OrderAt.l0 k xs l (wrap64 ((i : Int) + 1)) t u) (Q ++ [y]) S i (by simp; omega)
      rw [show (((Q ++ [y]).length : Nat) : Int) = ((n + 1 : Nat) : Int) by rw [hn]] at this
      refine this.trans ?_
      rw [hsc]
      exact hr k (by omega)
theorem l0_ok {xs : List S47} (hg : good xs = true) {t u : Int} (ht : Mom t u) : ∀ (d i : Nat) (P : List Nat), xs.length = i + d → P.length = i → (∀ p ∈ P, p < xs.length) → ∀ k, BIG + d * 10 + 1 ≤ k → spec_OrderAt.l0 k xs (P.map nI) (i : Int) t u = some (((List.range' i d).foldl (insE (ltN (xs.map (lenO t u)))) P).map nI, true) := by
  have hl6 := (good_len hg).2
  intro d
  induction d with
  | zero =>
    intro i P h1 h2 hP k hk
    obtain ⟨k, rfl⟩ : ∃ m, k = m + 1 := ⟨k - 1, by omega⟩
    simp only [spec_OrderAt.l0]
    rw [if_neg (by omega)]
    rfl
  | succ d ih =>
    intro i P h1 h2 hP k hk
    obtain ⟨k, rfl⟩ : ∃ m, k = m + 1 := ⟨k - 1, by omega⟩
    simp only [spec_OrderAt.l0]
    rw [if_pos (by omega), List.range'_succ, List.foldl_cons]
    have h := l1_ok hg ht (i := i) (by omega) (K0 := BIG + d * 10 + 1) (by omega) P.length P [] rfl hP (by simp; omega) _ (fun K hK => by
      rw [List.append_nil]
      exact ih (i + 1) (insE (ltN (xs.map (lenO t u))) P i) (by omega) (by rw [insE_length]; omega) (fun p hp => by
        rcases insE_mem hp with h | h
        · omega
        · exact hP p h) K hK) k (by omega)
    rw [List.append_nil] at h
    rw [List.length_map]
    exact h
/-! ### The two functions -/
def ordAns (xs : List S47) (t u : Int) : List Int × Bool := if good xs = true ∧ Mom t u then (orderL (xs.map (lenO t u)), true) else ([], false)
theorem spec_ok {k : Nat} (hk : BIG + 2000000 ≤ k) (xs : List S47) (t u : Int) : spec_OrderAt.f k xs t u = some (ordAns xs t u) := by
  have hb := bigs hk
  unfold spec_OrderAt.f ordAns
  obtain ⟨k, rfl⟩ : ∃ m, k = m + 1 := ⟨k - 1, by omega⟩
  rw [Option.bind_some, specList_ok hb.2.2.1, specTime_ok hb.1]
  simp only [Option.bind_some]
  have no : spec_OrderAt.j0 (k + 1) xs [] true t u = some ([], false) := by simp only [spec_OrderAt.j0, if_true]
  by_cases hg : good xs = true
  · by_cases ht : Mom t u
    · rw [if_pos hg, if_pos ⟨hg, ht⟩, decide_eq_true ht]
      simp only [spec_OrderAt.j0, Bool.not_true, Bool.false_eq_true, if_false]
      have h6 := (good_len hg).2
      have := l0_ok hg ht xs.length 0 [] (by omega) rfl (by simp) k (by omega)
      refine Eq.trans this ?_
      unfold orderL
      rw [List.length_map, List.range_eq_range']
    · rw [if_pos hg, if_neg (fun h => ht h.2), decide_eq_false ht]
      exact no
  · rw [if_neg hg, if_neg (fun h => hg h.1)]
    exact no
theorem impl_ok {k : Nat} (hk : BIG + 2000000 ≤ k) {xs : List S47} (hm : xs.length ≤ 1048576) (t u : Int) : impl_OrderAt.f k xs t u = some (ordAns xs t u) := by
  have hb := bigs hk
  unfold impl_OrderAt.f orderF ordAns
  rw [implList_ok (by omega) (Nat.lt_of_le_of_lt hm hb.2.2.2.1), Option.bind_some]
  by_cases hg : good xs = true
  · rw [if_pos hg, implTime_ok hb.1, Option.bind_some]
    by_cases ht : Mom t u
    · have h6 := good_len hg
      rw [decide_eq_true ht, if_pos rfl, if_pos ⟨hg, ht⟩, lenL_ok hb.1 ht xs (fun x hx => ?_), Option.bind_some, if_pos (by omega)]
      obtain ⟨j, hj⟩ := List.getElem?_of_mem hx
      exact good_at hg hj
    · rw [decide_eq_false ht, if_neg (by decide), if_neg (fun h => ht h.2)]
  · rw [if_neg hg, if_neg (fun h => hg h.1)]
theorem foldl_len {α : Type} [Inhabited α] (lt : α → α → Bool) : ∀ (l acc : List α), (l.foldl (insE lt) acc).length = acc.length + l.length
  | [], acc => rfl
  | x :: l, acc => by rw [List.foldl_cons, foldl_len lt l, insE_length, List.length_cons]; omega
theorem ordAns_len (xs : List S47) (t u : Int) : (ordAns xs t u).1.length ≤ 6 := by
  unfold ordAns
  split
  · rename_i h
    have := (good_len h.1).2
    unfold orderL
    rw [List.length_map, foldl_len, List.length_range, List.length_map]
    simpa using this
  · simp
theorem FnExactOrderAt : laws_FnExactOrderAt.Pure := by
  intro xs t u _ hxs _ _
  unfold laws_FnExactOrderAt.f
  by_cases hx : xs.length ≤ 1048576
  · have hs : ∀ k, BIG + 2000000 ≤ k → ∀ ys, spec_OrderAt.f k ys t u = some (ordAns ys t u) := fun k hk ys => spec_ok hk ys t u
    have hi : ∀ k, BIG + 2000000 ≤ k → ∀ ys : List S47, ys.length ≤ 1048576 → impl_OrderAt.f k ys t u = some (ordAns ys t u) := fun k hk ys hm => impl_ok hk hm t u
    generalize BIG = B at *
    obtain ⟨k, hk⟩ : ∃ k, k = B + 2097152 := ⟨_, rfl⟩
    refine ⟨k + 1 + 1 + 1, ?_⟩
    obtain ⟨n, hn⟩ := szCandleS_ex xs
    rw [hn, Option.bind_some]
    split
    · rfl
    · have hm : (xs.map convCandle).length ≤ 1048576 := by simpa using hx
      have ht : ∀ k, xs.length < k → laws_toCandleS.f k xs = some (xs.map convCandle) := fun k hk => toCandleS_ok hx hk
      rw [ht _ (by omega), Option.bind_some, toA2_ok, Option.bind_some]
      generalize xs.map convCandle = ys at *
      have hl := ordAns_len ys t u
      have hs1 := fun k hk => hs k hk ys
      have hi1 := fun k hk => hi k hk ys hm
      generalize ordAns ys t u = r at *
      obtain ⟨r1, r2⟩ := r
      simp only at hl
      simp only [Option.bind_some]
      rw [hs1 _ (by omega), Option.bind_some, hi1 _ (by omega), Option.bind_some]
      simp only
      rw [eqIntS_self (by omega) (by omega), Option.bind_some, if_pos rfl]
      simp only [laws_FnExactOrderAt.j0, bne_self_eq_false, Bool.false_eq_true, if_false]
      rw [ht _ (by omega), Option.bind_some, eqCandleS_self (by omega) (by omega), Option.bind_some, if_pos rfl]
      rw [markCandleS_ok (by omega) (by omega), Option.bind_some]
      simp only
      rw [if_neg (by omega), eqIntS_self (by omega) (by omega), Option.bind_some, if_pos rfl]
      simp only [laws_FnExactOrderAt.j1, bne_self_eq_false, Bool.false_eq_true, if_false]
      rw [markIntS_ok (by omega) (by omega), Option.bind_some]
      simp only
      rw [heldIntS_ok (by omega) (by omega), Option.bind_some, if_neg (by omega), if_pos rfl, ht _ (by omega), Option.bind_some, toA2_ok, Option.bind_some]
      simp only
      rw [hi1 _ (by omega), Option.bind_some]
      simp only
      rw [eqIntS_self (by omega) (by omega), Option.bind_some, if_pos rfl]
      simp only [laws_FnExactOrderAt.j2, bne_self_eq_false, Bool.false_eq_true, if_false]
      rw [heldIntS_ok (by omega) (by omega), Option.bind_some, if_neg (by omega), if_pos rfl]
  · refine ⟨1, ?_⟩
    rw [szCandleS_far (by omega) hxs]
    rfl
end Go.Proofs.Ytpoglodghpkjiaa.Pure
