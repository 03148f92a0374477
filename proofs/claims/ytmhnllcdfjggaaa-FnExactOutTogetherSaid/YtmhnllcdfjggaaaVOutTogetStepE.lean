import Derived.Test.YtmhnllcdfjggaaaVOutTogetStepD
import Derived.Test.YtmhnllcdfjggaaaVOutTogetPAx12
namespace Go.Proofs.Ytmhnllcdfjggaaa.TT
open Go.RowKit Go.Proofs.YtmhnllcdfjggaaaW.PrintWords Go.Proofs.YtmhnllcdfjggaaaW.PrintLast Go.Proofs.Ytmhnllcdfjggaaa.PA Go.Proofs.Ytmhnllcdfjggaaa.Mp Go.Proofs.Ytmhnllcdfjggaaa.Lv
set_option linter.unusedVariables false
set_option linter.unusedSimpArgs false
def put5 : List Int → Int → List Int
  | [], x => [x]
  | y :: l, x => if y < x then y :: put5 l x else if y = x then y :: l else x :: y :: l
theorem put5_mem {y x : Int} : ∀ {l : List Int}, y ∈ put5 l x ↔ y = x ∨ y ∈ l
 | [] => by simp [put5]
 | z :: l => by
  unfold put5
  split
  ·rw [List.mem_cons, put5_mem, List.mem_cons]
   constructor
   ·rintro (h | h | h)
    ·exact .inr (.inl h)
    ·exact .inl h
    ·exact .inr (.inr h)
   ·rintro (h | h | h)
    ·exact .inr (.inl h)
    ·exact .inl h
    ·exact .inr (.inr h)
  ·split
   ·rename_i h
    subst h
    rw [List.mem_cons]
    constructor
    ·exact fun h => .inr h
    ·rintro (h | h)
     ·exact .inl h
     ·exact h
   ·simp only [List.mem_cons]
theorem put5_sorted {x : Int} : ∀ {l : List Int}, l.Pairwise (· < ·) → (put5 l x).Pairwise (· < ·)
 | [], _ => by simp [put5]
 | y :: l, h => by
  rw [List.pairwise_cons] at h
  unfold put5
  split
  ·rename_i hy
   rw [List.pairwise_cons]
   refine ⟨fun z hz => ?_, put5_sorted h.2⟩
   rcases put5_mem.1 hz with rfl | hz
   ·exact hy
   ·exact h.1 z hz
  ·split
   ·exact List.pairwise_cons.2 h
   ·rw [List.pairwise_cons]
    refine ⟨fun z hz => ?_, List.pairwise_cons.2 h⟩
    rcases List.mem_cons.1 hz with rfl | hz
    ·omega
    ·have := h.1 z hz; omega
theorem put5_len {x : Int} : ∀ (l : List Int), (put5 l x).length ≤ l.length + 1
 | [] => Nat.le_refl _
 | y :: l => by
  unfold put5
  split
  ·rw [List.length_cons, List.length_cons]; have := put5_len (x := x) l; omega
  ·split <;> simp
theorem fold_len (m : List Int) : ∀ (l : List Int), (m.foldl put5 l).length ≤ l.length + m.length := by
 induction m with
 | nil => intro l; exact Nat.le_refl _
 | cons x m ih =>
  intro l
  rw [List.foldl_cons, List.length_cons]
  have h1 := ih (put5 l x)
  have h2 := put5_len (x := x) l
  omega
theorem fold_mem {y : Int} (m : List Int) : ∀ (l : List Int), y ∈ m.foldl put5 l ↔ y ∈ m ∨ y ∈ l := by
 induction m with
 | nil => intro l; simp
 | cons x m ih =>
  intro l
  rw [List.foldl_cons, ih, put5_mem, List.mem_cons]
  constructor
  ·rintro (h | h | h)
   ·exact .inl (.inr h)
   ·exact .inl (.inl h)
   ·exact .inr h
  ·rintro ((h | h) | h)
   ·exact .inr (.inl h)
   ·exact .inl h
   ·exact .inr (.inr h)
theorem fold_sorted (m : List Int) : ∀ (l : List Int), l.Pairwise (· < ·) → (m.foldl put5 l).Pairwise (· < ·) := by
 induction m with
 | nil => exact fun l h => h
 | cons x m ih => exact fun l h => ih _ (put5_sorted h)
theorem sorted_ext : ∀ {a b : List Int}, a.Pairwise (· < ·) → b.Pairwise (· < ·) → (∀ x, x ∈ a ↔ x ∈ b) → a = b
 | [], [], _, _, _ => rfl
 | [], y :: b, _, _, h => absurd ((h y).2 List.mem_cons_self) (by simp)
 | x :: a, [], _, _, h => absurd ((h x).1 List.mem_cons_self) (by simp)
 | x :: a, y :: b, ha, hb, h => by
  rw [List.pairwise_cons] at ha hb
  have hxy : x = y := by
   rcases List.mem_cons.1 ((h x).1 List.mem_cons_self) with h1 | h1
   ·exact h1
   ·rcases List.mem_cons.1 ((h y).2 List.mem_cons_self) with h2 | h2
    ·exact h2.symm
    ·have := hb.1 x h1
     have := ha.1 y h2
     omega
  subst hxy
  congr 1
  refine sorted_ext ha.2 hb.2 (fun z => ⟨fun hz => ?_, fun hz => ?_⟩)
  ·rcases List.mem_cons.1 ((h z).1 (List.mem_cons_of_mem _ hz)) with h1 | h1
   ·have := ha.1 z hz; omega
   ·exact h1
  ·rcases List.mem_cons.1 ((h z).2 (List.mem_cons_of_mem _ hz)) with h1 | h1
   ·have := hb.1 z hz; omega
   ·exact h1
theorem rd_app5 (p : List Int) (y : Int) (l : List Int) : rd (p ++ y :: l) (p.length : Int) = y := by simp [rd]
theorem l1Put_go (x : Int) : ∀ (l p : List Int) (k : Nat), p.length + l.length ≤ 1000000 → 2 * l.length + 4 ≤ k → spec_l1Put.l0 k (p ++ l) x (p.length : Int) = some (p ++ put5 l x)
 | [], p, k, hl, hk => by
  obtain ⟨k, rfl⟩ : ∃ j, k = j + 3 := ⟨k - 3, by omega⟩
  rw [List.append_nil]
  simp only [List.length_nil] at hl
  have e1 : ((p.length : Int)).toNat = p.length := Int.toNat_natCast _
  rw [spec_l1Put.l0, if_neg (by omega), spec_l1Put.j1, if_neg (by decide), if_neg (by omega), spec_l1Put.j2, if_neg (by decide)]
  simp only [Option.bind_some, e1, List.take_length, List.drop_length, List.nil_append, List.append_nil, List.length_append, List.length_cons, List.length_nil, Int.le_refl, if_true]
  rw [if_pos (by omega), if_pos (by omega), if_pos (by omega), if_pos (by omega)]
  rfl
 | y :: l, p, k, hl, hk => by
  obtain ⟨k, rfl⟩ : ∃ j, k = j + 3 := ⟨k - 3, by omega⟩
  simp only [List.length_cons] at hl hk
  rw [spec_l1Put.l0, if_pos (by rw [List.length_append, List.length_cons]; omega), if_pos (by omega), rd_app5, spec_l1Put.j1]
  unfold put5
  by_cases h1 : y < x
  ·have w : Aside0 (wrap64 ((p.length : Int) + 1) = ((p.length + 1 : Nat) : Int)) := ⟨by rw [wr _ (by omega) (by omega)]; omega⟩
   rw [if_pos (decide_eq_true h1), if_pos h1, w.out]
   have ih := l1Put_go x l (p ++ [y]) (k + 1) (by rw [List.length_append, List.length_cons, List.length_nil]; omega) (by omega)
   rw [List.length_append, List.length_cons, List.length_nil, List.append_assoc] at ih
   refine Eq.trans ?_ (ih.trans ?_)
   ·rfl
   ·simp
  ·rw [if_neg (by simpa using h1), if_neg h1, if_pos (by rw [List.length_append, List.length_cons]; omega), if_pos (by omega), spec_l1Put.j2, rd_app5]
   by_cases h2 : y = x
   ·rw [if_pos (by simpa using h2), if_pos h2]
   ·rw [if_neg (by simpa using h2), if_neg h2]
    have e1 : ((p.length : Int)).toNat = p.length := Int.toNat_natCast _
    simp only [Option.bind_some, e1, List.take_left', List.drop_left', List.nil_append, List.length_append, List.length_cons, List.length_nil]
    rw [if_pos (by omega), if_pos (by omega), if_pos (by omega), if_pos (by omega), if_pos (by omega)]
    simp
theorem l1Put_eq (x : Int) (l : List Int) (k : Nat) (hl : l.length ≤ 1000000) (hk : 2 * l.length + 4 ≤ k) : spec_l1Put.f k l x = some (put5 l x) := by
 have := l1Put_go x l [] k (by simpa using hl) hk
 exact this
/-! ### the times -/
def want (o : Bool) (x : Sp) : Bool := !o || (nextP x.a x.b x.c x.d == 0)
def timesOf (o : Bool) (l : List S45) : List Int := ((l.map spotOf).filter (want o)).map (·.t)
theorem timesOf_len (o : Bool) (l : List S45) : (timesOf o l).length ≤ l.length := by
 unfold timesOf
 rw [List.length_map]
 exact Nat.le_trans (List.length_filter_le _ _) (by rw [List.length_map]; exact Nat.le_refl _)
theorem times_lev (o : Bool) (L : List (List S45)) (hL : L.length ≤ 100) (i : Nat) (l : List S45) (hl : L[i]? = some l) (hs : l.length ≤ 41000) (F : Nat) (hF : ∀ m, m ≤ 600000 → 2 * m + 30 ≤ F) :
 ∀ (r j : Nat), j + r = l.length → ∀ (acc : List Int), acc.length + r ≤ 600000 → ∀ k, F + 2 * r + 20 ≤ k →
  ∃ k', k ≤ k' + 2 * r + 1 ∧ spec_l3Times.l1 k o acc L (i : Int) (j : Int) = spec_l3Times.l0 k' o ((timesOf o (l.drop j)).foldl put5 acc) L ((i + 1 : Nat) : Int)
 | 0, j, hr, acc, ha, k, hk => by
  obtain ⟨k, rfl⟩ : ∃ q, k = q + 1 := ⟨k - 1, by omega⟩
  have hi := (List.getElem?_eq_some_iff.1 hl).1
  have wi : Aside0 (wrap64 ((i : Int) + 1) = ((i + 1 : Nat) : Int)) := ⟨by rw [wr _ (by omega) (by omega)]; omega⟩
  have hrd : rd_L3 L (i : Int) = l := rdL hl
  rw [spec_l3Times.l1, if_pos (by omega), if_pos (by omega), hrd, if_neg (by omega), wi.out, List.drop_of_length_le (by omega)]
  exact ⟨k, by omega, rfl⟩
 | r + 1, j, hr, acc, ha, k, hk => by
  obtain ⟨k, rfl⟩ : ∃ q, k = q + 2 := ⟨k - 2, by omega⟩
  obtain ⟨q, hq⟩ : ∃ q, k + 1 = q + 8 := ⟨k + 1 - 8, by omega⟩
  have hi := (List.getElem?_eq_some_iff.1 hl).1
  obtain ⟨e, he⟩ : ∃ e, l[j]? = some e := ⟨_, List.getElem?_eq_getElem (by omega)⟩
  have wj : Aside0 (wrap64 ((j : Int) + 1) = ((j + 1 : Nat) : Int)) := ⟨by rw [wr _ (by omega) (by omega)]; omega⟩
  have hrd : rd_L3 L (i : Int) = l := rdL hl
  have hdrop : l.drop j = e :: l.drop (j + 1) := by
   obtain ⟨hi, he'⟩ := List.getElem?_eq_some_iff.1 he
   rw [List.drop_eq_getElem_cons hi, he']
  have hput : spec_l1Put.f k acc e.f0 = some (put5 acc e.f0) := l1Put_eq e.f0 acc k (by omega) (by have := hF acc.length (by omega); omega)
  have hpl := put5_len (x := e.f0) acc
  have hj2 : ∀ b : Bool, b = want o (spotOf e) → ∃ k', k + 2 ≤ k' + 2 * (r + 1) + 1 ∧ spec_l3Times.j2 (k + 1) o acc L (i : Int) (j : Int) b e.f0 e.f1.f0 e.f1.f1 e.f1.f2 e.f1.f3 e.f2 = spec_l3Times.l0 k' o ((timesOf o (l.drop j)).foldl put5 acc) L ((i + 1 : Nat) : Int) := by
   intro b hb
   subst hb
   rw [hdrop]
   by_cases hw : want o (spotOf e) = true
   ·obtain ⟨k', h1, h2⟩ := times_lev o L hL i l hl hs F hF r (j + 1) (by omega) (put5 acc e.f0) (by omega) k (by omega)
    refine ⟨k', by omega, ?_⟩
    rw [spec_l3Times.j2, if_pos hw, hput, Option.bind_some, wj.out, h2]
    have : timesOf o (e :: l.drop (j + 1)) = e.f0 :: timesOf o (l.drop (j + 1)) := by
     unfold timesOf
     rw [List.map_cons, List.filter_cons_of_pos hw, List.map_cons]
     rfl
    rw [this, List.foldl_cons]
   ·obtain ⟨k', h1, h2⟩ := times_lev o L hL i l hl hs F hF r (j + 1) (by omega) acc (by omega) k (by omega)
    refine ⟨k', by omega, ?_⟩
    rw [spec_l3Times.j2, if_neg hw, wj.out, h2]
    have : timesOf o (e :: l.drop (j + 1)) = timesOf o (l.drop (j + 1)) := by
     unfold timesOf
     rw [List.map_cons, List.filter_cons_of_neg hw]
    rw [this]
  rw [spec_l3Times.l1, if_pos (by omega), if_pos (by omega), hrd, if_pos (by omega), if_pos (by omega), rd45 he]
  cases o with
  | true =>
   have hn : spec_l2Next.f (k + 1) e.f1.f0 e.f1.f1 e.f1.f2 e.f1.f3 = some (nextP e.f1.f0 e.f1.f1 e.f1.f2 e.f1.f3) := by rw [hq]; exact s_next_go q _ _ _ _
   rw [if_pos rfl, hn, Option.bind_some]
   exact hj2 _ rfl
  | false =>
   rw [if_neg (by decide)]
   exact hj2 _ rfl
theorem times_all (o : Bool) (L : List (List S45)) (hL : L.length = 13) (hs : ∀ l ∈ L, l.length ≤ 41000) (F : Nat) (hF : ∀ m, m ≤ 600000 → 2 * m + 30 ≤ F) (B : Nat) (hB : ∀ m, m ≤ 41000 → 2 * m + 30 ≤ B) :
 ∀ (r i : Nat), i + r = 13 → ∀ (acc : List Int), acc.length + 41000 * r ≤ 600000 → ∀ k, F + B * r + 100 ≤ k →
  spec_l3Times.l0 k o acc L (i : Int) = some (((L.drop i).flatMap (timesOf o)).foldl put5 acc)
 | 0, i, hr, acc, ha, k, hk => by
  obtain ⟨k, rfl⟩ : ∃ q, k = q + 1 := ⟨k - 1, by omega⟩
  rw [spec_l3Times.l0, if_neg (by omega), List.drop_of_length_le (by omega)]
  rfl
 | r + 1, i, hr, acc, ha, k, hk => by
  obtain ⟨k, rfl⟩ : ∃ q, k = q + 1 := ⟨k - 1, by omega⟩
  obtain ⟨l, hl⟩ : ∃ l, L[i]? = some l := ⟨_, List.getElem?_eq_getElem (by omega)⟩
  have hBr : B * (r + 1) = B * r + B := Nat.mul_succ B r
  have hsl := hs l (List.mem_of_getElem? hl)
  have hBl := hB _ hsl
  have hdrop : L.drop i = l :: L.drop (i + 1) := by
   obtain ⟨hi, he'⟩ := List.getElem?_eq_some_iff.1 hl
   rw [List.drop_eq_getElem_cons hi, he']
  obtain ⟨k', h1, h2⟩ := times_lev o L (by omega) i l hl hsl F hF l.length 0 (by omega) acc (by omega) k (by omega)
  have hfl := fold_len (timesOf o l) acc
  have htl := timesOf_len o l
  rw [spec_l3Times.l0, if_pos (by omega)]
  refine h2.trans ?_
  rw [List.drop_zero, times_all o L hL hs F hF B hB r (i + 1) (by omega) _ (by omega) k' (by omega), hdrop, List.flatMap_cons, List.foldl_append]
/-- The reference's times. -/
def allT (o : Bool) (L : List (List S45)) : List Int := ((L.drop 1).flatMap (timesOf o)).foldl put5 []
theorem allT_sorted (o : Bool) (L : List (List S45)) : (allT o L).Pairwise (· < ·) := fold_sorted _ _ List.Pairwise.nil
theorem allT_mem {o : Bool} {L : List (List S45)} {y : Int} : y ∈ allT o L ↔ ∃ (j : Nat) (l : List S45), 1 ≤ j ∧ L[j]? = some l ∧ ∃ x ∈ l.map spotOf, want o x = true ∧ x.t = y := by
 unfold allT
 rw [fold_mem]
 simp only [List.not_mem_nil, or_false, List.mem_flatMap]
 constructor
 ·rintro ⟨l, hl, hy⟩
  obtain ⟨j, hj⟩ := List.mem_iff_getElem?.1 hl
  rw [List.getElem?_drop] at hj
  unfold timesOf at hy
  obtain ⟨x, hx, rfl⟩ := List.mem_map.1 hy
  obtain ⟨h1, h2⟩ := List.mem_filter.1 hx
  exact ⟨1 + j, l, by omega, hj, x, h1, h2, rfl⟩
 ·rintro ⟨j, l, h1, h2, x, h3, h4, rfl⟩
  refine ⟨l, List.mem_iff_getElem?.2 ⟨j - 1, ?_⟩, ?_⟩
  ·rw [List.getElem?_drop, show 1 + (j - 1) = j by omega]
   exact h2
  ·exact List.mem_map.2 ⟨x, List.mem_filter.2 ⟨h3, h4⟩, rfl⟩
theorem told_sorted (stp : Sp → Int → Int × Int × Int × Int × Int) (most : Int) (L : List Int) (s : Sp) (dz : Sp → Bool) : (toldL stp most L s dz).Pairwise (· < ·) := by
 unfold toldL
 rw [List.pairwise_map]
 refine List.Pairwise.imp ?_ (List.Pairwise.filter _ List.pairwise_lt_range)
 intro a b h
 omega
theorem next_zero {a b c d : Int} (h1 : 0 ≤ a) (h2 : 0 ≤ b) (h3 : 0 ≤ c) (h4 : 0 ≤ d) : (nextP a b c d == 0) = (a == 0 && (b == 0 && (c == 0 && (d == 0)))) := by
 have key : nextP a b c d = 0 ↔ a = 0 ∧ b = 0 ∧ c = 0 ∧ d = 0 := by
  have one : ∀ m n : Int, 0 ≤ m → 0 ≤ n → (least0 m n = 0 ↔ m = 0 ∧ n = 0) ∧ 0 ≤ least0 m n := by
   intro m n hm hn
   unfold least0
   split <;> omega
  unfold nextP
  have i1 := one 0 a (by omega) h1
  have i2 := one _ b i1.2 h2
  have i3 := one _ c i2.2 h3
  have i4 := one _ d i3.2 h4
  rw [i4.1, i3.1, i2.1, i1.1]
  constructor
  ·rintro ⟨⟨⟨⟨_, h5⟩, h6⟩, h7⟩, h8⟩
   exact ⟨h5, h6, h7, h8⟩
  ·rintro ⟨h5, h6, h7, h8⟩
   exact ⟨⟨⟨⟨rfl, h5⟩, h6⟩, h7⟩, h8⟩
 rw [Bool.eq_iff_iff, beq_iff_eq, key]
 simp
theorem told_eq (K : Kit4) (most : Int) (s : Sp) (st : s.t = 0) (L : List (List S45)) (seen : List Bool) (h : LInv K most s 13 L seen) (o : Bool) (dz : Sp → Bool) (hdz : ∀ x, Fits K x → want o x = dz x)
 (hgl : ∀ i x, x ∈ lvP K most s i → Good K most x) (hpos : ∀ i x, x ∈ lvP K most s (i + 1) → 1 ≤ x.t) :
 toldL (stepP K.a K.b K.c K.d) most (setsP K.a K.b K.c K.d) s dz = allT o L := by
 refine sorted_ext (told_sorted _ _ _ _ _) (allT_sorted o L) (fun y => ?_)
 rw [allT_mem]
 unfold toldL
 rw [List.mem_map]
 constructor
 ·rintro ⟨t, ht, rfl⟩
  obtain ⟨h1, h2⟩ := List.mem_filter.1 ht
  simp only [Bool.and_eq_true, decide_eq_true_eq, List.any_eq_true, List.mem_range, beq_iff_eq] at h2
  obtain ⟨h3, j, hj, x, hx, h4, h5⟩ := h2
  obtain ⟨j', l, h6, h7, h8⟩ := h.whole j hj x hx
  refine ⟨j', l, ?_, h7, x, h8, by rw [hdz x (hgl j x hx).1]; exact h5, h4⟩
  rcases Nat.eq_zero_or_pos j' with rfl | h9
  ·have := h.sound 0 l h7 x h8
   rw [lvP, lv, List.mem_singleton] at this
   subst this
   omega
  ·exact h9
 ·rintro ⟨j, l, h1, h2, x, h3, h4, rfl⟩
  have hx := h.sound j l h2 x h3
  obtain ⟨j0, rfl⟩ : ∃ j0, j = j0 + 1 := ⟨j - 1, by omega⟩
  have hg := hgl _ x hx
  have hp := hpos j0 x hx
  have hjl := (List.getElem?_eq_some_iff.1 h2).1
  have := h.len
  refine ⟨x.t.toNat, List.mem_filter.2 ⟨List.mem_range.2 (by have := hg.2.2; omega), ?_⟩, by omega⟩
  simp only [Bool.and_eq_true, decide_eq_true_eq, List.any_eq_true, List.mem_range, beq_iff_eq]
  exact ⟨by omega, j0 + 1, by omega, x, hx, by omega, by rw [← hdz x hg.1]; exact h4⟩
theorem suc_good {K : Kit4} (hK : K.ok) {most : Int} {p x : Sp} (hp : Good K most p) (h : Suc K most p x) : Good K most x ∧ p.t < x.t := by
 obtain ⟨n, _, _, _, hn⟩ := suc_iff.1 h
 obtain ⟨r1, r2, r3, r4, d, es, hd0, hd1, hfit⟩ := stepP_in K hK p hp.1 (n : Int)
 by_cases hc : d = 0 ∨ most < p.t + d
 ·rw [nxt_none es hc] at hn
  cases hn
 ·rw [nxt_some es hc] at hn
  cases hn
  have h0 := hp.2.1
  exact ⟨⟨hfit _, by show 0 ≤ p.t + d; omega, by show p.t + d ≤ most; omega⟩, by show p.t < p.t + d; omega⟩
theorem lv_all {K : Kit4} (hK : K.ok) {most : Int} {s : Sp} (hs : Good K most s) : ∀ i x, x ∈ lvP K most s i → Good K most x
 | 0, x, h => by
  rw [lvP, lv, List.mem_singleton] at h
  subst h
  exact hs
 | i + 1, x, h => by
  obtain ⟨p, hp, h1⟩ := lv_succ.1 h
  exact (suc_good hK (lv_all hK hs i p hp) h1).1
theorem lv_pos {K : Kit4} (hK : K.ok) {most : Int} {s : Sp} (hs : Good K most s) (i : Nat) (x : Sp) (h : x ∈ lvP K most s (i + 1)) : 1 ≤ x.t := by
 obtain ⟨p, hp, h1⟩ := lv_succ.1 h
 have h2 := lv_all hK hs i p hp
 have := (suc_good hK h2 h1).2
 have := h2.2.1
 omega
theorem times_go (K : Kit4) (hK : K.ok) (hM : manyP K ≤ 1000) (most : Int) (m0 : 0 ≤ most) (m1 : most ≤ 40) (s : Sp) (hs : Fits K s) (st : s.t = 0) (o : Bool) (dz : Sp → Bool) (hdz : ∀ x, Fits K x → want o x = dz x)
 (C B F : Nat) (hC : ∀ m, m ≤ 41000 → 60 * m + 80 ≤ C) (hB : ∀ m, m ≤ 41000 → 2 * m + 30 ≤ B) (hF : ∀ m, m ≤ 600000 → 2 * m + 30 ≤ F) (k : Nat) (hk : C + B * 12 + 100 ≤ k) (hk2 : F + B * 12 + 100 ≤ k) :
 spec_l3Times.f k K.a K.b K.c K.d s.a s.b s.c s.d most o = some (toldL (stepP K.a K.b K.c K.d) most (setsP K.a K.b K.c K.d) s dz) := by
 have hg : Good K most s := ⟨hs, by omega, by omega⟩
 obtain ⟨L, seen, e1, h1⟩ := levels_go K hK hM most m0 m1 s hs st C B hC hB k hk
 rw [told_eq K most s st L seen h1 o dz hdz (lv_all hK hg) (lv_pos hK hg)]
 unfold spec_l3Times.f
 rw [e1, Option.bind_some]
 exact times_all o L h1.len h1.small F hF B hB 12 1 rfl [] (by decide) k hk2
/-! ### the guards -/
theorem in_go (a b c : Int) : spec_l1In.f a b c = some (decide (b ≤ a ∧ a ≤ c)) := by
 unfold spec_l1In.f
 by_cases h : b ≤ a
 ·rw [if_pos h]
  simp [h]
 ·rw [if_neg h]
  simp [h]
theorem within_go (a b c : Int) : PA.impl_within.f a b c = some (decide (b ≤ a ∧ a ≤ c)) := in_go a b c
theorem kit_go (K : Kit4) : ∃ b : Bool, (∀ k, spec_l2Kit.f (k + 4) K.a K.b K.c K.d = some b) ∧ (∀ k, impl_IsKit.f (k + 4) K.a K.b K.c K.d = some b) ∧ (b = true → K.ok) := by
 by_cases h1 : 0 ≤ K.a ∧ K.a ≤ 30
 ·by_cases h2 : 0 ≤ K.b ∧ K.b ≤ 30
  ·by_cases h3 : 0 ≤ K.c ∧ K.c ≤ 30
   ·by_cases h4 : 0 ≤ K.d ∧ K.d ≤ 30
    ·refine ⟨decide (K.a > 0) || decide (K.b > 0) || decide (K.c > 0) || decide (K.d > 0), fun k => ?_, fun k => ?_, fun _ => ⟨h1, h2, h3, h4⟩⟩
     ·unfold spec_l2Kit.f
      simp only [in_go, Option.bind_some, decide_eq_true h1, decide_eq_true h2, decide_eq_true h3, decide_eq_true h4, if_true, spec_l2Kit.j0, spec_l2Kit.j1, spec_l2Kit.j2]
      by_cases g1 : K.a > 0 <;> by_cases g2 : K.b > 0 <;> by_cases g3 : K.c > 0 <;> by_cases g4 : K.d > 0 <;> simp [g1, g2, g3, g4]
     ·unfold impl_IsKit.f
      simp only [within_go, Option.bind_some, decide_eq_true h1, decide_eq_true h2, decide_eq_true h3, decide_eq_true h4, if_true, impl_IsKit.j0, impl_IsKit.j1, impl_IsKit.j2]
      by_cases g1 : K.a > 0 <;> by_cases g2 : K.b > 0 <;> by_cases g3 : K.c > 0 <;> by_cases g4 : K.d > 0 <;> simp [g1, g2, g3, g4]
    ·refine ⟨false, fun k => ?_, fun k => ?_, fun h => by cases h⟩
     ·unfold spec_l2Kit.f
      simp only [in_go, Option.bind_some, decide_eq_true h1, decide_eq_true h2, decide_eq_true h3, decide_eq_false h4, if_true, spec_l2Kit.j0, spec_l2Kit.j1, Bool.false_eq_true, if_false]
      (repeat' split) <;> rfl
     ·unfold impl_IsKit.f
      simp only [within_go, Option.bind_some, decide_eq_true h1, decide_eq_true h2, decide_eq_true h3, decide_eq_false h4, if_true, impl_IsKit.j0, impl_IsKit.j1, Bool.false_eq_true, if_false]
      (repeat' split) <;> rfl
   ·refine ⟨false, fun k => ?_, fun k => ?_, fun h => by cases h⟩
    ·unfold spec_l2Kit.f
     simp only [in_go, Option.bind_some, decide_eq_true h1, decide_eq_true h2, decide_eq_false h3, if_true, spec_l2Kit.j0, Bool.false_eq_true, if_false]
     split <;> rfl
    ·unfold impl_IsKit.f
     simp only [within_go, Option.bind_some, decide_eq_true h1, decide_eq_true h2, decide_eq_false h3, if_true, impl_IsKit.j0, Bool.false_eq_true, if_false]
     split <;> rfl
  ·refine ⟨false, fun k => ?_, fun k => ?_, fun h => by cases h⟩
   ·unfold spec_l2Kit.f
    simp only [in_go, Option.bind_some, decide_eq_true h1, decide_eq_false h2, if_true, Bool.false_eq_true, if_false]
   ·unfold impl_IsKit.f
    simp only [within_go, Option.bind_some, decide_eq_true h1, decide_eq_false h2, if_true, Bool.false_eq_true, if_false]
 ·refine ⟨false, fun k => ?_, fun k => ?_, fun h => by cases h⟩
  ·unfold spec_l2Kit.f
   simp only [in_go, Option.bind_some, decide_eq_false h1, Bool.false_eq_true, if_false]
  ·unfold impl_IsKit.f
   simp only [within_go, Option.bind_some, decide_eq_false h1, Bool.false_eq_true, if_false]
theorem guard_go (K : Kit4) (s : Sp) (most : Int) : ∃ g : Bool, (∀ k, spec_l3Good.f (k + 4) K.a K.b K.c K.d s.a s.b s.c s.d most = some g) ∧ (∀ k, impl_isSearched.f (k + 4) K.a K.b K.c K.d s.a s.b s.c s.d most = some g) ∧ (g = true → K.ok ∧ Fits K s ∧ manyP K ≤ 1000 ∧ 0 ≤ most ∧ most ≤ 40) := by
 obtain ⟨b, hb1, hb2, hb3⟩ := kit_go K
 have hprod : impl_Kit_product.f K.a K.b K.c K.d = spec_l3Many.f K.a K.b K.c K.d := rfl
 have hsand : ∀ k, spec_l2Sand.f (k + 4) K.a K.b K.c K.d s.a s.b s.c s.d = some (decide (0 ≤ s.a ∧ s.a ≤ K.a) && decide (0 ≤ s.b ∧ s.b ≤ K.b) && decide (0 ≤ s.c ∧ s.c ≤ K.c) && decide (0 ≤ s.d ∧ s.d ≤ K.d) && b) := fun k => by
  unfold spec_l2Sand.f
  simp only [in_go, Option.bind_some, hb1]
  cases decide (0 ≤ s.a ∧ s.a ≤ K.a) <;> cases decide (0 ≤ s.b ∧ s.b ≤ K.b) <;> cases decide (0 ≤ s.c ∧ s.c ≤ K.c) <;> cases decide (0 ≤ s.d ∧ s.d ≤ K.d) <;> rfl
 have hsand2 : ∀ k, impl_areSand.f (k + 4) K.a K.b K.c K.d s.a s.b s.c s.d = some (decide (0 ≤ s.a ∧ s.a ≤ K.a) && decide (0 ≤ s.b ∧ s.b ≤ K.b) && decide (0 ≤ s.c ∧ s.c ≤ K.c) && decide (0 ≤ s.d ∧ s.d ≤ K.d) && b) := fun k => by
  unfold impl_areSand.f impl_Kit_isSand.f
  simp only [within_go, Option.bind_some, hb2]
  cases b <;> cases decide (0 ≤ s.a ∧ s.a ≤ K.a) <;> cases decide (0 ≤ s.b ∧ s.b ≤ K.b) <;> cases decide (0 ≤ s.c ∧ s.c ≤ K.c) <;> cases decide (0 ≤ s.d ∧ s.d ≤ K.d) <;> rfl
 by_cases hc : (decide (0 ≤ s.a ∧ s.a ≤ K.a) && decide (0 ≤ s.b ∧ s.b ≤ K.b) && decide (0 ≤ s.c ∧ s.c ≤ K.c) && decide (0 ≤ s.d ∧ s.d ≤ K.d) && b) = true
 ·have hc' := hc
  simp only [Bool.and_eq_true, decide_eq_true_eq] at hc'
  obtain ⟨⟨⟨⟨h1, h2⟩, h3⟩, h4⟩, h5⟩ := hc'
  have hK := hb3 h5
  have hmany := s_many_go K hK
  by_cases hm : manyP K ≤ 1000
  ·refine ⟨decide (0 ≤ most ∧ most ≤ 40), fun k => ?_, fun k => ?_, fun h => ?_⟩
   ·unfold spec_l3Good.f
    rw [hsand, hc, Option.bind_some, if_pos rfl, hmany, Option.bind_some, if_pos hm, in_go, Option.bind_some]
   ·unfold impl_isSearched.f
    rw [hsand2, hc, Option.bind_some, if_pos rfl, hprod, hmany, Option.bind_some, if_pos hm, within_go, Option.bind_some]
   ·have := of_decide_eq_true h
    exact ⟨hK, ⟨h1, h2, h3, h4⟩, hm, this.1, this.2⟩
  ·refine ⟨false, fun k => ?_, fun k => ?_, fun h => by cases h⟩
   ·unfold spec_l3Good.f
    rw [hsand, hc, Option.bind_some, if_pos rfl, hmany, Option.bind_some, if_neg hm]
   ·unfold impl_isSearched.f
    rw [hsand2, hc, Option.bind_some, if_pos rfl, hprod, hmany, Option.bind_some, if_neg hm]
 ·refine ⟨false, fun k => ?_, fun k => ?_, fun h => by cases h⟩
  ·unfold spec_l3Good.f
   rw [hsand, Option.bind_some, if_neg hc]
  ·unfold impl_isSearched.f
   rw [hsand2, Option.bind_some, if_neg hc]
theorem toldF_eq (K : Kit4) (hK : K.ok) (s0 s1 s2 s3 : Int) (hs : Fits K ⟨s0, s1, s2, s3, 0⟩) (most : Int) (m0 : 0 ≤ most) (m1 : most ≤ 40) (dz : Sp → Bool) : toldF K.a K.b K.c K.d s0 s1 s2 s3 most dz = some (toldL (stepP K.a K.b K.c K.d) most (setsP K.a K.b K.c K.d) ⟨s0, s1, s2, s3, 0⟩ dz) := by
 unfold toldF
 rw [if_pos (lvOk K hK _ hs rfl most m0 m1)]
theorem toldL_len (stp : Sp → Int → Int × Int × Int × Int × Int) (most : Int) (m1 : most ≤ 40) (L : List Int) (s : Sp) (dz : Sp → Bool) : (toldL stp most L s dz).length ≤ 41 := by
 unfold toldL
 rw [List.length_map]
 refine Nat.le_trans (List.length_filter_le _ _) ?_
 rw [List.length_range]
 omega
end Go.Proofs.Ytmhnllcdfjggaaa.TT
