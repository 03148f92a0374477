/- The times of ropes: the program's and the reference's. Conditions: those each lemma names. -/
import Derived.Test.YthoblgccnkjnoaaVRopeTimTRopeC
set_option linter.unusedVariables false
set_option linter.unusedSimpArgs false
namespace Go.Proofs.Ythoblgccnkjnoaa.Pure
open Go.RowKit Go.Proofs.Ythoblgccnkjnoaa.PT Go.Proofs.Ythoblgccnkjnoaa.PL Go.Proofs.YthoblgccnkjnoaaW.PrintWords Go.Proofs.YthoblgccnkjnoaaW.PrintLast Go.Proofs.YthoblgccnkjnoaaW.PrintMore

/-- A number put into a list in order. -/
def put5 : List Int → Int → List Int
  | [], x => [x]
  | y :: l, x => if y < x then y :: put5 l x else if y = x then y :: l else x :: y :: l
theorem put5_mem {y x : Int} : ∀ {l : List Int}, y ∈ put5 l x ↔ y = x ∨ y ∈ l
  | [] => by simp [put5]
  | z :: l => by
    unfold put5
    split
    · rw [List.mem_cons, put5_mem, List.mem_cons]
      constructor
      · rintro (h | h | h)
        · exact .inr (.inl h)
        · exact .inl h
        · exact .inr (.inr h)
      · rintro (h | h | h)
        · exact .inr (.inl h)
        · exact .inl h
        · exact .inr (.inr h)
    · split
      · rename_i h
        subst h
        rw [List.mem_cons]
        constructor
        · exact fun h => .inr h
        · rintro (h | h)
          · exact .inl h
          · exact h
      · simp only [List.mem_cons]
theorem put5_sorted {x : Int} : ∀ {l : List Int}, l.Pairwise (· < ·) → (put5 l x).Pairwise (· < ·)
  | [], _ => by simp [put5]
  | y :: l, h => by
    rw [List.pairwise_cons] at h
    unfold put5
    split
    · rename_i hy
      rw [List.pairwise_cons]
      refine ⟨fun z hz => ?_, put5_sorted h.2⟩
      rcases put5_mem.1 hz with rfl | hz
      · exact hy
      · exact h.1 z hz
    · split
      · exact List.pairwise_cons.2 h
      · rw [List.pairwise_cons]
        refine ⟨fun z hz => ?_, List.pairwise_cons.2 h⟩
        rcases List.mem_cons.1 hz with rfl | hz
        · omega
        · have := h.1 z hz; omega
theorem put5_len {x : Int} : ∀ (l : List Int), (put5 l x).length ≤ l.length + 1
  | [] => Nat.le_refl _
  | y :: l => by
    unfold put5
    split
    · rw [List.length_cons, List.length_cons]; have := put5_len (x := x) l; omega
    · split <;> simp
theorem rd_app (p : List Int) (y : Int) (l : List Int) : rd (p ++ y :: l) (p.length : Int) = y := rdI _ _ _ (by rw [List.getElem?_append_right (Nat.le_refl _), Nat.sub_self]; rfl)
theorem l1Put_go (x : Int) : ∀ (l p : List Int) (k : Nat), p.length + l.length ≤ 1000000 → l.length + 2 ≤ k → spec_l1Put.l0 k (p ++ l) x (p.length : Int) = some (p ++ put5 l x)
  | [], p, k, hl, hk => by
    obtain ⟨k, rfl⟩ : ∃ j, k = j + 1 := ⟨k - 1, by omega⟩
    rw [List.append_nil]
    simp only [List.length_nil] at hl
    have e1 : ((p.length : Int)).toNat = p.length := Int.toNat_natCast _
    rw [spec_l1Put.l0, if_neg (by omega)]
    simp only [Option.bind_some, e1, List.take_length, List.drop_length, List.nil_append, List.append_nil, List.length_append, List.length_cons, List.length_nil, Int.le_refl, if_true]
    rw [if_pos (by omega), if_pos (by omega), if_pos (by omega), if_pos (by omega)]
    rfl
  | y :: l, p, k, hl, hk => by
    obtain ⟨k, rfl⟩ : ∃ j, k = j + 1 := ⟨k - 1, by omega⟩
    simp only [List.length_cons] at hl hk
    rw [spec_l1Put.l0, if_pos (by rw [List.length_append, List.length_cons]; omega), if_pos (by omega), rd_app]
    unfold put5
    by_cases h1 : y < x
    · rw [if_pos h1, if_pos h1, wrS _ (by omega)]
      have ih := l1Put_go x l (p ++ [y]) k (by rw [List.length_append, List.length_cons, List.length_nil]; omega) (by omega)
      rw [List.length_append, List.length_cons, List.length_nil, List.append_assoc] at ih
      refine Eq.trans ?_ (ih.trans ?_)
      · rfl
      · simp
    · rw [if_neg h1, if_neg h1]
      by_cases h2 : y = x
      · rw [if_pos h2, if_pos h2]
      · rw [if_neg h2, if_neg h2]
        have e1 : ((p.length : Int)).toNat = p.length := Int.toNat_natCast _
        simp only [Option.bind_some, e1, List.take_left', List.drop_left', List.nil_append, List.length_append, List.length_cons, List.length_nil]
        rw [if_pos (by omega), if_pos (by omega), if_pos (by omega), if_pos (by omega)]
        simp
theorem l1Put_eq (x : Int) (l : List Int) (k : Nat) (hl : l.length ≤ 1000000) (hk : l.length + 2 ≤ k) : spec_l1Put.f k l x = some (put5 l x) := by
  have := l1Put_go x l [] k (by simpa using hl) hk
  exact this
def timesA (r : Rp) (n : Nat) : List Int := (plansA n r).map (·.2)
theorem timesA_len (r : Rp) (n : Nat) (hn : n ≤ 3) : (timesA r n).length ≤ 19683 := by
  unfold timesA
  rw [List.length_map]
  have h1 := plans_len n r
  have : n = 0 ∨ n = 1 ∨ n = 2 ∨ n = 3 := by omega
  rcases this with rfl | rfl | rfl | rfl <;> simp at h1 ⊢ <;> omega
theorem fold_len (m : List Int) : ∀ (l : List Int), (m.foldl put5 l).length ≤ l.length + m.length := by
  induction m with
  | nil => intro l; exact Nat.le_refl _
  | cons x m ih =>
    intro l
    rw [List.foldl_cons, List.length_cons]
    have h1 := ih (put5 l x)
    have h2 := put5_len (x := x) l
    omega
theorem times_step (r : Rp) (g : r.good) (n K : Nat) (hn : n ≤ 3) (l : List Int) (hl : l.length ≤ 500000) (Z : Option (List Int)) (hZ : ∀ k, K ≤ k → spec_l5Times.l0 k ((timesA r n).foldl put5 l) ((n + 1 : Nat) : Int) r.l0 r.l1 r.l2 r.e0 r.e1 r.e2 = Z) (k : Nat) (hk : K + 700000 ≤ k) :
    spec_l5Times.l0 k l (n : Int) r.l0 r.l1 r.l2 r.e0 r.e1 r.e2 = Z := by
  obtain ⟨k, rfl⟩ : ∃ j, k = j + 1 := ⟨k - 1, by omega⟩
  have hf : fuel n ≤ 21154 := by
    have : n = 0 ∨ n = 1 ∨ n = 2 ∨ n = 3 := by omega
    rcases this with rfl | rfl | rfl | rfl <;> decide
  have hT := timesA_len r n hn
  rw [spec_l5Times.l0, if_pos (by omega), plans_eq n r k g hn (by omega), Option.bind_some]
  show spec_l5Times.l1 k l (n : Int) (timesA r n) 0 r.l0 r.l1 r.l2 r.e0 r.e1 r.e2 = Z
  generalize timesA r n = L at hT hZ ⊢
  have loop : ∀ (m : List Int) (j k : Nat) (l : List Int), L.drop j = m → l.length + m.length ≤ 600000 → (∀ k, K ≤ k → spec_l5Times.l0 k (m.foldl put5 l) ((n + 1 : Nat) : Int) r.l0 r.l1 r.l2 r.e0 r.e1 r.e2 = Z) → K + 600010 + m.length ≤ k →
      spec_l5Times.l1 k l (n : Int) L (j : Int) r.l0 r.l1 r.l2 r.e0 r.e1 r.e2 = Z := by
    intro m
    induction m with
    | nil =>
      intro j k l hd hl hZ hk
      obtain ⟨k, rfl⟩ : ∃ j, k = j + 1 := ⟨k - 1, by omega⟩
      have := drop_nil hd
      rw [spec_l5Times.l1, if_neg (by omega), wrS n (by omega)]
      exact hZ k (by omega)
    | cons y m ih =>
      intro j k l hd hl hZ hk
      rw [List.length_cons] at hl hk
      obtain ⟨k, rfl⟩ : ∃ j, k = j + 1 := ⟨k - 1, by omega⟩
      obtain ⟨hy, hd', hj⟩ := drop_cons hd
      rw [spec_l5Times.l1, if_pos (by omega), if_pos (by omega), rdI _ _ _ hy, l1Put_eq y l k (by omega) (by omega), Option.bind_some, wrS j (by omega)]
      have := put5_len (x := y) l
      exact ih (j + 1) k (put5 l y) hd' (by omega) hZ (by omega)
  exact loop L 0 k l rfl (by omega) hZ (by omega)
/-- All times, in order. -/
def allT (r : Rp) : List Int := (timesA r 3).foldl put5 ((timesA r 2).foldl put5 ((timesA r 1).foldl put5 []))
theorem l5Times_eq (r : Rp) (g : r.good) (k : Nat) (hk : 3000000 ≤ k) : spec_l5Times.f k r.l0 r.l1 r.l2 r.e0 r.e1 r.e2 = some (allT r) := by
  unfold spec_l5Times.f
  have b1 := timesA_len r 1 (by decide)
  have b2 := timesA_len r 2 (by decide)
  have f1 := fold_len (timesA r 1) []
  have f2 := fold_len (timesA r 2) ((timesA r 1).foldl put5 [])
  rw [List.length_nil] at f1
  have z4 : ∀ k, 10 ≤ k → spec_l5Times.l0 k (allT r) ((3 + 1 : Nat) : Int) r.l0 r.l1 r.l2 r.e0 r.e1 r.e2 = some (allT r) := fun k hk => by
    obtain ⟨k, rfl⟩ : ∃ j, k = j + 1 := ⟨k - 1, by omega⟩
    rw [spec_l5Times.l0, if_neg (by decide)]
  have z3 := fun k hk => times_step r g 3 10 (by decide) ((timesA r 2).foldl put5 ((timesA r 1).foldl put5 [])) (by omega) _ z4 k hk
  have z2 := fun k hk => times_step r g 2 _ (by decide) ((timesA r 1).foldl put5 []) (by omega) _ z3 k hk
  exact times_step r g 1 _ (by decide) [] (by simp) _ z2 k (by omega)
theorem fold_mem {y : Int} (m : List Int) : ∀ (l : List Int), y ∈ m.foldl put5 l ↔ y ∈ m ∨ y ∈ l := by
  induction m with
  | nil => intro l; simp
  | cons x m ih =>
    intro l
    rw [List.foldl_cons, ih, put5_mem, List.mem_cons]
    constructor
    · rintro (h | h | h)
      · exact .inl (.inr h)
      · exact .inl (.inl h)
      · exact .inr h
    · rintro ((h | h) | h)
      · exact .inr (.inl h)
      · exact .inl h
      · exact .inr (.inr h)
theorem fold_sorted (m : List Int) : ∀ (l : List Int), l.Pairwise (· < ·) → (m.foldl put5 l).Pairwise (· < ·) := by
  induction m with
  | nil => exact fun l h => h
  | cons x m ih => exact fun l h => ih _ (put5_sorted h)
theorem allT_sorted (r : Rp) : (allT r).Pairwise (· < ·) := fold_sorted _ _ (fold_sorted _ _ (fold_sorted _ _ List.Pairwise.nil))
theorem allT_mem {r : Rp} {y : Int} : y ∈ allT r ↔ y ∈ timesA r 1 ∨ y ∈ timesA r 2 ∨ y ∈ timesA r 3 := by
  unfold allT
  rw [fold_mem, fold_mem, fold_mem]
  constructor
  · rintro (h | h | h | h)
    · exact .inr (.inr h)
    · exact .inr (.inl h)
    · exact .inl h
    · cases h
  · rintro (h | h | h)
    · exact .inr (.inr (.inl h))
    · exact .inr (.inl h)
    · exact .inl h
theorem allT_len (r : Rp) : (allT r).length ≤ 60000 := by
  have b1 := timesA_len r 1 (by decide)
  have b2 := timesA_len r 2 (by decide)
  have b3 := timesA_len r 3 (by decide)
  have f1 := fold_len (timesA r 1) []
  have f2 := fold_len (timesA r 2) ((timesA r 1).foldl put5 [])
  have f3 := fold_len (timesA r 3) ((timesA r 2).foldl put5 ((timesA r 1).foldl put5 []))
  rw [List.length_nil] at f1
  unfold allT
  omega
/-- Two lists in order with the same numbers are the same. -/
theorem sorted_ext : ∀ {a b : List Int}, a.Pairwise (· < ·) → b.Pairwise (· < ·) → (∀ x, x ∈ a ↔ x ∈ b) → a = b
  | [], [], _, _, _ => rfl
  | [], y :: b, _, _, h => absurd ((h y).2 List.mem_cons_self) (by simp)
  | x :: a, [], _, _, h => absurd ((h x).1 List.mem_cons_self) (by simp)
  | x :: a, y :: b, ha, hb, h => by
    rw [List.pairwise_cons] at ha hb
    have hxy : x = y := by
      rcases List.mem_cons.1 ((h x).1 List.mem_cons_self) with h1 | h1
      · exact h1
      · rcases List.mem_cons.1 ((h y).2 List.mem_cons_self) with h2 | h2
        · exact h2.symm
        · have := hb.1 x h1
          have := ha.1 y h2
          omega
    subst hxy
    congr 1
    refine sorted_ext ha.2 hb.2 (fun z => ⟨fun hz => ?_, fun hz => ?_⟩)
    · rcases List.mem_cons.1 ((h z).1 (List.mem_cons_of_mem _ hz)) with h1 | h1
      · have := ha.1 z hz; omega
      · exact h1
    · rcases List.mem_cons.1 ((h z).2 (List.mem_cons_of_mem _ hz)) with h1 | h1
      · have := hb.1 z hz; omega
      · exact h1
theorem get_arr (zs : List Int) (i : Nat) (h : i < zs.length) : zs.toArray[i]! = zs[i] := by simp [h]
theorem compact_sorted {zs : List Int} (h : zs.Pairwise (· ≤ ·)) : (Lib.compact zs).Pairwise (· < ·) := by
  unfold Lib.compact Lib.compactUpTo
  rw [List.pairwise_map]
  refine List.Pairwise.imp_of_mem ?_ (List.Pairwise.filter _ List.pairwise_lt_range)
  intro i j hi hj hij
  obtain ⟨hj1, hj2⟩ := List.mem_filter.1 hj
  have hjl := List.mem_range.1 hj1
  have hk : zs.toArray[j]! ≠ zs.toArray[j - 1]! := by
    simp only [Lib.keeps, decide_eq_true_eq] at hj2
    rcases hj2 with h0 | h0
    · omega
    · exact h0
  rw [get_arr zs j hjl, get_arr zs (j - 1) (by omega)] at hk
  rw [get_arr zs i (by omega), get_arr zs j hjl]
  have h1 : zs[j - 1] ≤ zs[j] := List.pairwise_iff_getElem.1 h (j - 1) j (by omega) hjl (by omega)
  have h2 : zs[i] ≤ zs[j - 1] := by
    rcases Nat.lt_or_ge i (j - 1) with h3 | h3
    · exact List.pairwise_iff_getElem.1 h i (j - 1) (by omega) (by omega) h3
    · have : i = j - 1 := by omega
      subst this
      exact Int.le_refl _
  omega
theorem compact_mem {zs : List Int} {y : Int} : y ∈ Lib.compact zs ↔ y ∈ zs := by
  unfold Lib.compact Lib.compactUpTo
  constructor
  · intro h
    obtain ⟨i, hi, rfl⟩ := List.mem_map.1 h
    have hl := List.mem_range.1 (List.mem_filter.1 hi).1
    rw [get_arr zs i hl]
    exact List.getElem_mem hl
  · intro h
    -- the least place of y
    have key : ∀ (n : Nat), (∃ i, i < n ∧ i < zs.length ∧ zs[i]? = some y) → ∃ i, i < zs.length ∧ zs[i]? = some y ∧ ∀ j, j < i → zs[j]? ≠ some y := by
      intro n
      induction n with
      | zero => rintro ⟨i, h, _⟩; omega
      | succ n ih =>
        rintro ⟨i, h1, h2, h3⟩
        by_cases hex : ∃ j, j < n ∧ j < zs.length ∧ zs[j]? = some y
        · exact ih hex
        · exact ⟨i, h2, h3, fun j hj hjy => hex ⟨j, by omega, by omega, hjy⟩⟩
    obtain ⟨i, hi, hiy⟩ := List.mem_iff_getElem.1 h
    obtain ⟨i, hi, hiy, hleast⟩ := key zs.length ⟨i, hi, hi, by rw [List.getElem?_eq_getElem hi, hiy]⟩
    have hv : zs[i] = y := by rw [List.getElem?_eq_getElem hi] at hiy; exact Option.some.inj hiy
    refine List.mem_map.2 ⟨i, List.mem_filter.2 ⟨List.mem_range.2 hi, ?_⟩, by rw [get_arr zs i hi, hv]⟩
    simp only [Lib.keeps, decide_eq_true_eq]
    rcases Nat.eq_zero_or_pos i with h0 | h0
    · exact .inl h0
    · refine .inr (fun e => hleast (i - 1) (by omega) ?_)
      rw [get_arr zs i hi, get_arr zs (i - 1) (by omega)] at e
      rw [List.getElem?_eq_getElem (show i - 1 < zs.length by omega), ← e, hv]
theorem sort5_sorted (l : List Int) : (sort5 l).Pairwise (· ≤ ·) := by
  have h := List.pairwise_mergeSort (le := fun x y : Int => decide (x ≤ y)) (fun a b c h1 h2 => by simp at *; omega) (fun a b => by simp; omega) l
  unfold sort5
  exact h.imp (fun hab => by simpa using hab)
theorem sort5_mem {l : List Int} {y : Int} : y ∈ sort5 l ↔ y ∈ l := by
  unfold sort5
  exact (List.mergeSort_perm l _).mem_iff
theorem plans_pos {y : List S22 × Int} {n : Nat} {r : Rp} (g : r.good) (h : y ∈ plansA (n + 1) r) : 0 < y.2 := by
  rw [plansA] at h
  obtain ⟨lit, _, h⟩ := List.mem_flatMap.1 h
  cases hs : stepA r lit with
  | none => rw [hs] at h; cases h
  | some x =>
    obtain ⟨r', d⟩ := x
    rw [hs] at h
    obtain ⟨z, hz, rfl⟩ := List.mem_map.1 h
    obtain ⟨g', ha, hd, hd2⟩ := step_good g hs
    have := (plans_time g' hz).1
    show 0 < d + z.2
    omega
theorem pos5_mem {r : Rp} (g : r.good) {y : Int} : y ∈ pos5 (evsA 4 r 0 []) ↔ y ∈ allT r := by
  have ha := alive_le r
  have hf : ∀ n, (evsA 4 r 0 []).filter (fun e => e.2.length == n) = (plansA n r).map fun x => (x.2, x.1) := fun n => by
    have := evs_filter 4 r 0 [] n g (by omega)
    simpa using this
  rw [allT_mem]
  unfold pos5
  constructor
  · intro h
    obtain ⟨e, he, rfl⟩ := List.mem_map.1 h
    obtain ⟨he1, he2⟩ := List.mem_filter.1 he
    have hpos : e.1 > 0 := of_decide_eq_true he2
    have hl := (evs_len g he1).2
    rw [List.length_nil] at hl
    have hm : e ∈ (plansA e.2.length r).map fun x => (x.2, x.1) := by
      rw [← hf]; exact List.mem_filter.2 ⟨he1, by simp⟩
    obtain ⟨x, hx, hxe⟩ := List.mem_map.1 hm
    have hx1 : x.2 = e.1 := by rw [← hxe]
    have hn : e.2.length = 0 ∨ e.2.length = 1 ∨ e.2.length = 2 ∨ e.2.length = 3 := by omega
    have hin : e.1 ∈ timesA r e.2.length := List.mem_map.2 ⟨x, hx, hx1⟩
    rcases hn with h0 | h0 | h0 | h0
    · rw [h0, plansA, List.mem_singleton] at hx
      rw [← hx1, hx] at hpos
      exact absurd hpos (by decide)
    · rw [h0] at hin; exact .inl hin
    · rw [h0] at hin; exact .inr (.inl hin)
    · rw [h0] at hin; exact .inr (.inr hin)
  · intro h
    have go : ∀ n, y ∈ timesA r (n + 1) → y ∈ ((evsA 4 r 0 []).filter (fun e => decide (e.1 > 0))).map (·.1) := by
      intro n hn
      obtain ⟨x, hx, rfl⟩ := List.mem_map.1 hn
      have h1 : (x.2, x.1) ∈ (evsA 4 r 0 []).filter (fun e => e.2.length == (n + 1)) := by
        rw [hf]; exact List.mem_map.2 ⟨x, hx, rfl⟩
      have h2 := (List.mem_filter.1 h1).1
      exact List.mem_map.2 ⟨(x.2, x.1), List.mem_filter.2 ⟨h2, decide_eq_true (plans_pos g hx)⟩, rfl⟩
    rcases h with h | h | h
    · exact go 0 h
    · exact go 1 h
    · exact go 2 h
theorem evs_count : ∀ (N : Nat) (r : Rp) (t : Int) (p : List S22), (evsA N r t p).length ≤ 28 ^ N
  | 0, _, _, _ => Nat.zero_le _
  | N + 1, r, t, p => by
    rw [evsA, List.length_cons, List.length_flatMap]
    have : ∀ (ls : List S22), (ls.map fun lit => (match stepA r lit with
        | none => []
        | some x => evsA N x.1 (t + x.2) (p ++ [lit]) : List Ev).length).sum ≤ ls.length * 28 ^ N := by
      intro ls
      induction ls with
      | nil => simp
      | cons lit ls ih =>
        rw [List.map_cons, List.sum_cons, List.length_cons, Nat.succ_mul]
        have h1 : (match stepA r lit with
            | none => []
            | some x => evsA N x.1 (t + x.2) (p ++ [lit]) : List Ev).length ≤ 28 ^ N := by
          cases stepA r lit with
          | none => simp
          | some x => exact evs_count N x.1 _ _
        omega
    have h2 := this LIT
    rw [LIT_len] at h2
    have h3 : 1 ≤ 28 ^ N := Nat.pos_of_ne_zero (by simp)
    rw [Nat.pow_succ]
    exact Nat.le_trans (Nat.succ_le_succ h2) (by omega)
theorem timesF_eq (r : Rp) (k : Nat) (hk : 1000 ≤ k) : timesF k r.l0 r.l1 r.l2 r.e0 r.e1 r.e2 = some (if goodB r = true then (allT r, true) else ([], false)) := by
  unfold timesF
  have h0 := isRopes_eq (k - 3) r
  rw [show k - 3 + 3 = k by omega] at h0
  rw [h0, Option.bind_some]
  by_cases hg : goodB r = true
  · have g := (goodB_iff r).1 hg
    have ha := alive_le r
    have h1 := each_eq 4 r 0 [] k g (by omega) (Int.le_refl _) (by decide) (by decide) (by omega)
    have hc := evs_count 4 r 0 []
    have hc2 : (28 : Nat) ^ 4 ≤ 1000000 := by decide
    have he : Lib.compact (sort5 (pos5 (evsA 4 r 0 []))) = allT r :=
      sorted_ext (compact_sorted (sort5_sorted _)) (allT_sorted r) (fun x => by rw [compact_mem, sort5_mem, pos5_mem g])
    rw [if_pos hg, if_pos hg, h1, Option.bind_some, if_pos (by omega), he]
  · rw [if_neg hg, if_neg hg]
end Go.Proofs.Ythoblgccnkjnoaa.Pure
