/- DarkSpans: the program's spans are the reference's. Conditions: none. -/
import Derived.Test.YtpoglodghpkjiaaVDarkSpanDarkB
import Derived.Test.YtpoglodghpkjiaaVDarkSpanListsD
set_option linter.unusedVariables false
set_option linter.unusedSimpArgs false
namespace Go.Proofs.Ytpoglodghpkjiaa.Pure
open Go.RowKit Go.Proofs.Ytpoglodghpkjiaa.PD Go.Proofs.Ytpoglodghpkjiaa.PL Go.Proofs.YtpoglodghpkjiaaW.PrintWords Go.Proofs.YtpoglodghpkjiaaW.PrintLast Go.Proofs.YtpoglodghpkjiaaW.PrintMore
theorem bigs {k : Nat} (hk : BIG + 2000000 ≤ k) : BIG ≤ k ∧ BIG + 100 ≤ k ∧ 20 ≤ k ∧ 1048576 < k ∧ BIG + 1000 ≤ k := by
  have := BIG_le
  generalize BIG = B at *
  omega
theorem bigs2 {k n : Nat} (hk : BIG + 2000000 ≤ k) (hn : n ≤ 6) : BIG + 100 + n ≤ k := by
  generalize BIG = B at *
  omega
theorem bigs3 {k d : Nat} (hk : BIG + 100 + d ≤ k) : BIG ≤ k ∧ BIG + 100 ≤ k ∧ 1000 ≤ k := by
  have : 1000 ≤ BIG := by decide
  generalize BIG = B at *
  omega
theorem bigs4 {k d : Nat} (hk : BIG + 100 + (d + 1) ≤ k + 1) : BIG + 100 + d ≤ k := by
  generalize BIG = B at *
  omega
/-! ### The sort by starts -/
def ltC (x y : S47) : Bool := decide (x.f2 < y.f2)
instance : Inhabited S47 := ⟨⟨0, 0, 0⟩⟩
theorem insR_mem {α : Type} (lt : α → α → Bool) (x p : α) : ∀ l : List α, p ∈ insR lt x l ↔ p = x ∨ p ∈ l
  | [] => by
    show p ∈ [x] ↔ _
    simp
  | y :: r => by
    unfold insR
    split
    · rw [List.mem_cons, insR_mem lt x p r, List.mem_cons]
      constructor
      · rintro (h | h | h)
        · exact Or.inr (Or.inl h)
        · exact Or.inl h
        · exact Or.inr (Or.inr h)
      · rintro (h | h | h)
        · exact Or.inr (Or.inl h)
        · exact Or.inl h
        · exact Or.inr (Or.inr h)
    · rw [List.mem_cons]
theorem insE_mem {lt : S47 → S47 → Bool} {x p : S47} {l : List S47} : p ∈ insE lt l x ↔ p = x ∨ p ∈ l := by
  unfold insE
  rw [List.mem_reverse, insR_mem, List.mem_reverse]
def SrtC (l : List S47) : Prop := List.Pairwise (fun a b : S47 => a.f2 ≤ b.f2) l
theorem insE_srt (x : S47) : ∀ (n : Nat) (l : List S47), l.length = n → SrtC l → SrtC (insE ltC l x) := by
  intro n
  induction n with
  | zero =>
    intro l hn h
    obtain rfl := List.length_eq_zero_iff.1 hn
    exact List.pairwise_singleton _ _
  | succ n ih =>
    intro l hn h
    obtain ⟨Q, y, rfl⟩ : ∃ Q y, l = Q ++ [y] := ⟨l.dropLast, l.getLast (by intro e; rw [e] at hn; simp at hn), (List.dropLast_concat_getLast _).symm⟩
    obtain ⟨h1, _, h3⟩ := List.pairwise_append.1 h
    rw [insE_snoc]
    by_cases hb : ltC x y = true
    · rw [if_pos hb]
      have hb' : x.f2 < y.f2 := of_decide_eq_true hb
      refine List.pairwise_append.2 ⟨ih Q (by simpa using hn) h1, List.pairwise_singleton _ _, fun a ha b hbm => ?_⟩
      rw [List.mem_singleton.1 hbm]
      rcases insE_mem.1 ha with rfl | ha
      · omega
      · exact h3 a ha y (by simp)
    · rw [if_neg hb]
      have hb' : ¬ x.f2 < y.f2 := fun g => hb (decide_eq_true g)
      refine List.pairwise_append.2 ⟨h, List.pairwise_singleton _ _, fun a ha b hbm => ?_⟩
      rw [List.mem_singleton.1 hbm]
      rcases List.mem_append.1 ha with ha | ha
      · have := h3 a ha y (by simp); omega
      · rw [List.mem_singleton.1 ha]; omega
theorem fold_ok : ∀ (R P : List S47), SrtC P → SrtC (R.foldl (insE ltC) P) ∧ (∀ x, x ∈ R.foldl (insE ltC) P ↔ x ∈ P ∨ x ∈ R) ∧ (R.foldl (insE ltC) P).length = P.length + R.length
  | [], P, h => ⟨h, fun x => by simp, rfl⟩
  | y :: R, P, h => by
    obtain ⟨i1, i2, i3⟩ := fold_ok R (insE ltC P y) (insE_srt y _ P rfl h)
    rw [List.foldl_cons]
    refine ⟨i1, fun x => ?_, by rw [i3, insE_length, List.length_cons]; omega⟩
    rw [i2, insE_mem, List.mem_cons]
    constructor
    · rintro ((h | h) | h)
      · exact Or.inr (Or.inl h)
      · exact Or.inl h
      · exact Or.inr (Or.inr h)
    · rintro (h | h | h)
      · exact Or.inl (Or.inr h)
      · exact Or.inl (Or.inl h)
      · exact Or.inr h
theorem cmp_ok {x y : S47} (hx : Cd x) (hy : Cd y) : ∃ t, impl_DarkSpans_1.f x.f0 x.f1 x.f2 y.f0 y.f1 y.f2 = some t ∧ (t < 0 ↔ ltC x y = true) := by
  unfold Cd Cand at hx hy
  refine ⟨x.f2 - y.f2, ?_, ?_⟩
  · unfold impl_DarkSpans_1.f
    rw [w64 (by omega) (by omega)]
  · unfold ltC
    rw [decide_eq_true_iff]
    omega
theorem rd47 {l : List S47} {i : Nat} {x : S47} (h : l[i]? = some x) : rd_T47 l (i : Int) = x := rd_at h
theorem sort_l1 {x : S47} (hx : Cd x) {i K0 b : Nat} (hi : i ≤ 100) : ∀ (n : Nat) (P S : List S47), P.length = n → (∀ p ∈ P, Cd p) → n ≤ 100 → ∀ r, (∀ K, K0 ≤ K → impl_Candle_66_at_impl_DarkSpans_1.l0 K (insE ltC P x ++ S) 0 (b : Int) ((i + 1 : Nat) : Int) = some r) → ∀ k, K0 + n + 1 ≤ k → impl_Candle_66_at_impl_DarkSpans_1.l1 k (P ++ x :: S) 0 (b : Int) (i : Int) (n : Int) = some r := by
  have hsc : wrap64 ((i : Int) + 1) = ((i + 1 : Nat) : Int) := wrS i (by omega)
  intro n
  induction n with
  | zero =>
    intro P S hn hP hl r hr k hk
    obtain ⟨k, rfl⟩ : ∃ m, k = m + 1 := ⟨k - 1, by omega⟩
    obtain rfl := List.length_eq_zero_iff.1 hn
    unfold impl_Candle_66_at_impl_DarkSpans_1.l1
    rw [if_neg (by decide), hsc]
    exact hr k (by omega)
  | succ n ih =>
    intro P S hn hP hl r hr k hk
    obtain ⟨k, rfl⟩ : ∃ m, k = m + 1 := ⟨k - 1, by omega⟩
    obtain ⟨Q, y, rfl⟩ : ∃ Q y, P = Q ++ [y] := ⟨P.dropLast, P.getLast (by intro e; rw [e] at hn; simp at hn), (List.dropLast_concat_getLast _).symm⟩
    have hq : Q.length = n := by simpa using hn
    have hy : Cd y := hP y (by simp)
    have hw : wrap64 (((n + 1 : Nat) : Int) - 1) = (n : Int) := by
      rw [wr (by omega) (by omega)]; omega
    have e : Q ++ [y] ++ x :: S = Q ++ y :: x :: S := by simp
    have r1 : rd_T47 (Q ++ y :: x :: S) (n : Int) = y := rd47 (by rw [← hq]; simp)
    have r2 : rd_T47 (Q ++ y :: x :: S) ((n + 1 : Nat) : Int) = x := rd47 (by rw [← hq]; simp)
    have hlen : ((Q ++ y :: x :: S).length : Int) = (n + 2 + S.length : Nat) := by
      rw [List.length_append, List.length_cons, List.length_cons, hq]; congr 1; omega
    have hset : ((Q ++ y :: x :: S).set (n + 1) y).set n x = Q ++ [x] ++ y :: S := by
      rw [← hq]; simp
    obtain ⟨t, ht, htl⟩ := cmp_ok hx hy
    rw [e]
    unfold impl_Candle_66_at_impl_DarkSpans_1.l1
    rw [if_pos (by omega), if_pos (by omega), if_pos (by omega), hw, if_pos (by omega), if_pos (by omega), r1, r2, ht, Option.bind_some]
    rw [insE_snoc] at hr
    by_cases hb : ltC x y = true
    · rw [if_pos (htl.2 hb)]
      rw [if_pos hb] at hr
      have := ih Q (y :: S) hq (fun p hp => hP p (by simp [hp])) (by omega) r (by intro K hK; have := hr K hK; rw [List.append_assoc] at this; exact this) k (by omega)
      rw [Int.toNat_natCast, Int.toNat_natCast]
      have h2 : ((Q ++ y :: x :: S).set (n + 1) (⟨y.f0, y.f1, y.f2⟩ : S47)).set n (⟨x.f0, x.f1, x.f2⟩ : S47) = Q ++ x :: y :: S := by
        have : ((Q ++ y :: x :: S).set (n + 1) y).set n x = Q ++ x :: y :: S := by rw [← hq]; simp
        exact this
      rw [h2]
      exact this
    · rw [if_neg (fun g => hb (htl.1 g)), hsc]
      rw [if_neg hb] at hr
      have := hr k (by omega)
      rw [List.append_assoc, List.append_assoc] at this
      exact this
theorem sort_l0 : ∀ (R P : List S47) (k b : Nat), b = P.length + R.length → b ≤ 50 → (∀ x ∈ P, Cd x) → (∀ x ∈ R, Cd x) → R.length * 100 + 1 ≤ k → impl_Candle_66_at_impl_DarkSpans_1.l0 k (P ++ R) 0 (b : Int) (P.length : Int) = some (R.foldl (insE ltC) P)
  | [], P, k, b, h1, h2, hP, hR, hk => by
    obtain ⟨k, rfl⟩ : ∃ m, k = m + 1 := ⟨k - 1, by omega⟩
    simp only [List.length_nil] at h1
    unfold impl_Candle_66_at_impl_DarkSpans_1.l0
    rw [if_neg (by omega), List.append_nil]
    rfl
  | x :: R, P, k, b, h1, h2, hP, hR, hk => by
    simp only [List.length_cons] at h1 hk
    obtain ⟨k, rfl⟩ : ∃ m, k = m + 1 := ⟨k - 1, by omega⟩
    unfold impl_Candle_66_at_impl_DarkSpans_1.l0
    rw [if_pos (by omega), List.foldl_cons]
    have cx := hR x List.mem_cons_self
    refine sort_l1 cx (i := P.length) (K0 := R.length * 100 + 1) (b := b) (by omega) P.length P R rfl hP (by omega) _ (fun K hK => ?_) k (by omega)
    have := sort_l0 R (insE ltC P x) K b (by rw [insE_length]; omega) h2 (fun p hp => by
      rcases insE_mem.1 hp with rfl | hp
      · exact cx
      · exact hP p hp) (fun y hy => hR y (List.mem_cons_of_mem _ hy)) hK
    rw [insE_length] at this
    exact this
theorem sort_ok {k : Nat} (hk : 1000 ≤ k) {xs : List S47} (hg : good xs = true) : ∃ ys, impl_Candle_37_at_impl_DarkSpans_1.f k xs = some ys ∧ ys.length = xs.length ∧ SrtC ys ∧ ∀ x, x ∈ xs ↔ x ∈ ys := by
  have hl := good_len hg
  have hc := good_cd hg
  cases xs with
  | nil => simp at hl
  | cons c r =>
    simp only [List.length_cons] at hl
    obtain ⟨f1, f2, f3⟩ := fold_ok r [c] (List.pairwise_singleton _ _)
    refine ⟨r.foldl (insE ltC) [c], ?_, by rw [f3]; simp; omega, f1, fun x => by rw [f2]; simp⟩
    have hs := sort_l0 r [c] k (r.length + 1) (by simp; omega) (by omega) (fun x hx => hc x (by rw [List.mem_singleton.1 hx]; exact List.mem_cons_self)) (fun x hx => hc x (List.mem_cons_of_mem _ hx)) (by omega)
    unfold impl_Candle_37_at_impl_DarkSpans_1.f impl_Candle_56_at_impl_DarkSpans_1.f impl_Candle_66_at_impl_DarkSpans_1.f
    have hu : ∃ t, bits_Len.f (IntKind.u64.wrap (((c :: r).length : Nat) : Int)) = some t := by
      have : ∀ n, n ≤ 6 → ∃ t, bits_Len.f (IntKind.u64.wrap ((n : Nat) : Int)) = some t := by
        intro n hn
        have : IntKind.u64.wrap ((n : Nat) : Int) = n := by
          rcases n with _ | _ | _ | _ | _ | _ | _ | n
          all_goals first | rfl | omega
        rw [this]
        unfold bits_Len.f
        rw [if_pos (by omega)]
        exact ⟨_, rfl⟩
      exact this _ (by simpa using hl.2)
    obtain ⟨t, ht⟩ := hu
    rw [ht, Option.bind_some, if_pos (by rw [wr (by simp only [List.length_cons]; omega) (by simp only [List.length_cons]; omega)]; simp only [List.length_cons]; omega)]
    have h1 : wrap64 ((0 : Int) + 1) = ((([c] : List S47).length : Nat) : Int) := by show wrap64 ((0 : Int) + 1) = ((1 : Nat) : Int); exact wrS 0 (by omega)
    rw [h1, show c :: r = [c] ++ r from rfl, show ((([c] ++ r).length : Nat) : Int) = ((r.length + 1 : Nat) : Int) by simp, hs]
    rfl
/-! ### The program -/
theorem walk_go {ys : List S47} (hc : ∀ x ∈ ys, Cd x) (hl : ys.length ≤ 6) : ∀ (d k i : Nat) (o : List S59) (M : S23), ys.length = i + d → BIG + 2 * d + 1 ≤ k → o.length ≤ i → Bd M → impl_DarkSpans.l0 k o ys (ys.length : Int) (i : Int) M.f0 M.f1 = some (o ++ walk M (ys.drop i), true) := by
  intro d
  induction d with
  | zero =>
    intro k i o M h1 hk ho hM
    obtain ⟨k, rfl⟩ : ∃ m, k = m + 1 := ⟨k - 1, by omega⟩
    simp only [impl_DarkSpans.l0]
    rw [if_neg (by omega), List.drop_eq_nil_of_le (by omega)]
    simp [walk]
  | succ d ih =>
    intro k i o M h1 hk ho hM
    obtain ⟨k, rfl⟩ : ∃ m, k = m + 2 := ⟨k - 2, by omega⟩
    obtain ⟨c, hcc⟩ := at_lt (xs := ys) (i := i) (by omega)
    have hd : ys.drop i = c :: ys.drop (i + 1) := by
      rw [List.drop_eq_getElem_cons (by omega)]
      rw [List.getElem?_eq_getElem (by omega)] at hcc
      cases hcc; rfl
    have cc := hc c (List.mem_of_getElem? hcc)
    have ho1 := implOut_ok (k := k) (by omega) cc
    have l1 : impl_less.f M.f0 M.f1 c.f2 1 = some (decide (lt M (st c))) := (bd_less hM (st_ok cc).1).2
    have l2 : impl_less.f M.f0 M.f1 (cut (c.f2 * c.f1 + c.f0) c.f1).1 (cut (c.f2 * c.f1 + c.f0) c.f1).2 = some (decide (lt M (en c))) := (bd_less hM (en_ok cc).1).2
    have step : ∀ o' : List S59, o'.length ≤ i + 1 → impl_DarkSpans.j1 (k + 1) o' ys (ys.length : Int) (i : Int) M.f0 M.f1 c.f0 c.f1 c.f2 = some (o' ++ walk (if lt M (en c) then en c else M) (ys.drop (i + 1)), true) := by
      intro o' ho'
      simp only [impl_DarkSpans.j1, ho1, Option.bind_some, l2, wrS i (by omega)]
      by_cases g : lt M (en c)
      · rw [decide_eq_true g, if_pos rfl, if_pos g]
        exact ih k (i + 1) o' (en c) (by omega) (by omega) ho' (en_ok cc).1
      · rw [decide_eq_false g, if_neg (by decide), if_neg g]
        exact ih k (i + 1) o' M (by omega) (by omega) ho' hM
    unfold impl_DarkSpans.l0
    rw [if_pos (by omega), if_pos (by omega), if_pos (by omega), rd47 hcc]
    simp only [impl_whole.f, Option.bind_some, l1]
    rw [hd, show walk M (c :: ys.drop (i + 1)) = (if lt M (st c) then [(⟨M, st c⟩ : S59)] else []) ++ walk (if lt M (en c) then en c else M) (ys.drop (i + 1)) from rfl]
    by_cases g : lt M (st c)
    · rw [decide_eq_true g, if_pos rfl, if_pos g, if_pos (by omega), step _ (by simp; omega), List.append_assoc]
      rfl
    · rw [decide_eq_false g, if_neg (by decide), if_neg g, step _ (by omega)]
      rfl
def darkAns (xs : List S47) : List S59 × Bool := if good xs = true then (spans xs (ends xs xs []), true) else ([], false)
theorem impl_ok {k : Nat} (hk : BIG + 2000000 ≤ k) {xs : List S47} (hm : xs.length ≤ 1048576) : impl_DarkSpans.f k xs = some (darkAns xs) := by
  have hb := bigs hk
  unfold impl_DarkSpans.f darkAns
  rw [implList_ok (by omega) (Nat.lt_of_le_of_lt hm hb.2.2.2.1), Option.bind_some]
  by_cases hg : good xs = true
  · have hl := good_len hg
    have hc := good_cd hg
    rw [if_pos hg, if_pos hg]
    have h36 : impl_Candle_36.f xs = some xs := by
      unfold impl_Candle_36.f
      rw [Option.bind_some, if_pos (by simp; omega)]
      rfl
    obtain ⟨ys, hy1, hy2, hy3, hy4⟩ := sort_ok (k := k) (by have := BIG_le; omega) hg
    rw [h36, Option.bind_some, hy1, Option.bind_some, if_pos (by omega)]
    have hcy : ∀ x ∈ ys, Cd x := fun x hx => hc x ((hy4 x).2 hx)
    cases hys : ys with
    | nil => rw [hys] at hy2; simp at hy2; omega
    | cons c0 cs =>
      have c0y : c0 ∈ ys := by rw [hys]; exact List.mem_cons_self
      have r0 : rd_T47 (c0 :: cs) 0 = c0 := rfl
      have cc0 := hcy c0 c0y
      rw [r0, implOut_ok hb.1 cc0, Option.bind_some]
      have := walk_go hcy (by omega) ys.length k 0 [] (en c0) (by omega) (by omega) (by simp) (en_ok cc0).1
      rw [hy2, hys] at this
      refine Eq.trans this ?_
      rw [← dark_eq hc hy4 hy3 hys, hys]
      rfl
  · rw [if_neg hg, if_neg hg]
/-! ### The reference -/
theorem next_go {xs : List S47} (hc : ∀ x ∈ xs, Cd x) (hl : xs.length ≤ 6) {es : List S23} (hE : ∀ t ∈ es, Bd t) {j : Nat} {t : S23} (hj : es[j]? = some t) (hjl : j ≤ 100) {o : List S59} (ho : o.length ≤ 100) {K0 : Nat} {r : List S59 × Bool}
    (hr : ∀ v : Int, ∀ K, K0 ≤ K → v = nx t (-1) xs → spec_DarkSpans.l1 K xs (if 0 ≤ v then o ++ [(⟨t, ⟨v, 1⟩⟩ : S59)] else o) es ((j + 1 : Nat) : Int) = some r) :
    ∀ (d k i : Nat) (v : Int), xs.length = i + d → K0 + d + 1 ≤ k → nx t v (xs.drop i) = nx t (-1) xs → spec_DarkSpans.l2 k xs o es (j : Int) v (i : Int) = some r := by
  have hjlt := lt_of hj
  have ht := hE t (List.mem_of_getElem? hj)
  intro d
  induction d with
  | zero =>
    intro k i v h1 hk hv
    obtain ⟨k, rfl⟩ : ∃ m, k = m + 1 := ⟨k - 1, by omega⟩
    rw [List.drop_eq_nil_of_le (by omega)] at hv
    have hv' : v = nx t (-1) xs := hv
    have h2 := hr v k (by omega) hv'
    simp only [spec_DarkSpans.l2, rd23 hj, wrS j (by omega)]
    rw [if_neg (by omega)]
    by_cases g : v ≥ 0
    · rw [if_pos g, if_pos (by omega), if_pos (by omega), if_pos (by omega)]
      rw [if_pos g] at h2
      exact h2
    · rw [if_neg g]
      rw [if_neg g] at h2
      exact h2
  | succ d ih =>
    intro k i v h1 hk hv
    obtain ⟨k, rfl⟩ : ∃ m, k = m + 1 := ⟨k - 1, by omega⟩
    obtain ⟨c, hcc⟩ := at_lt (xs := xs) (i := i) (by omega)
    have hd : xs.drop i = c :: xs.drop (i + 1) := by
      rw [List.drop_eq_getElem_cons (by omega)]
      rw [List.getElem?_eq_getElem (by omega)] at hcc
      cases hcc; rfl
    have cc := hc c (List.mem_of_getElem? hcc)
    have l1 : spec_l2Less.f t.f0 t.f1 c.f2 1 = some (decide (lt t (st c))) := (bd_less ht (st_ok cc).1).1
    rw [hd] at hv
    have hv' : nx t (if lt t (st c) then (if v < 0 then c.f2 else if c.f2 < v then c.f2 else v) else v) (xs.drop (i + 1)) = nx t (-1) xs := hv
    simp only [spec_DarkSpans.l2, rd23 hj, rd47 hcc, l1, Option.bind_some, wrS i (by omega)]
    rw [if_pos (by omega), if_pos (by omega), if_pos (by omega), if_pos (by omega)]
    have go := fun v' => ih k (i + 1) v' (by omega) (by omega)
    by_cases g : lt t (st c)
    · rw [if_pos g] at hv'
      rw [decide_eq_true g, if_pos rfl]
      by_cases g1 : v < 0
      · rw [if_pos g1] at hv' ⊢; exact go _ hv'
      · rw [if_neg g1] at hv' ⊢
        by_cases g2 : c.f2 < v
        · rw [if_pos g2] at hv' ⊢; exact go _ hv'
        · rw [if_neg g2] at hv' ⊢; exact go _ hv'
    · rw [if_neg g] at hv'
      rw [decide_eq_false g, if_neg (by decide)]
      exact go _ hv'
theorem spans_go {xs : List S47} (hc : ∀ x ∈ xs, Cd x) (hl : xs.length ≤ 6) {es : List S23} (hE : ∀ t ∈ es, Bd t) (hel : es.length ≤ 6) : ∀ (d k j : Nat) (o : List S59), es.length = j + d → d * 100 + 10 ≤ k → o.length ≤ j → spec_DarkSpans.l1 k xs o es (j : Int) = some (o ++ spans xs (es.drop j), true) := by
  intro d
  induction d with
  | zero =>
    intro k j o h1 hk ho
    obtain ⟨k, rfl⟩ : ∃ m, k = m + 1 := ⟨k - 1, by omega⟩
    simp only [spec_DarkSpans.l1]
    rw [if_neg (by omega), List.drop_eq_nil_of_le (by omega)]
    simp [spans]
  | succ d ih =>
    intro k j o h1 hk ho
    obtain ⟨k, rfl⟩ : ∃ m, k = m + 1 := ⟨k - 1, by omega⟩
    obtain ⟨t, htt⟩ := at_lt (xs := es) (i := j) (by omega)
    have hd : es.drop j = t :: es.drop (j + 1) := by
      rw [List.drop_eq_getElem_cons (by omega)]
      rw [List.getElem?_eq_getElem (by omega)] at htt
      cases htt; rfl
    simp only [spec_DarkSpans.l1]
    rw [if_pos (by omega)]
    refine next_go hc hl hE htt (by omega) (o := o) (by omega) (K0 := d * 100 + 10) (fun v K hK hv => ?_) xs.length k 0 (-1) (by omega) (by omega) (by rw [List.drop_zero])
    have e : spans xs (es.drop j) = (if 0 ≤ v then [(⟨t, ⟨v, 1⟩⟩ : S59)] else []) ++ spans xs (es.drop (j + 1)) := by
      rw [hd, hv]
      unfold spans
      rw [List.filterMap_cons]
      by_cases g : 0 ≤ nx t (-1) xs
      · rw [if_pos g, if_pos g]; rfl
      · rw [if_neg g, if_neg g]; rfl
    rw [e]
    by_cases g : 0 ≤ v
    · rw [if_pos g, if_pos g, ih K (j + 1) _ (by omega) hK (by simp; omega), List.append_assoc]
    · rw [if_neg g, if_neg g, ih K (j + 1) _ (by omega) hK (by omega)]
      rfl
theorem ends_bd (xs : List S47) : ∀ (l : List S47) (o : List S23), (∀ x ∈ l, Cd x) → (∀ t ∈ o, Bd t) → (∀ t ∈ ends xs l o, Bd t) ∧ (ends xs l o).length ≤ o.length + l.length
  | [], o, _, h => ⟨h, Nat.le_refl _⟩
  | x :: l, o, hc, h => by
    have cx := hc x List.mem_cons_self
    rw [show ends xs (x :: l) o = ends xs l (if many xs (en x) = 0 then ins o (en x) else o) from rfl]
    have step := ends_bd xs l (if many xs (en x) = 0 then ins o (en x) else o) (fun y hy => hc y (List.mem_cons_of_mem _ hy)) (fun t ht => by
      split at ht
      · rcases ins_mem.1 ht with rfl | ht
        · exact (en_ok cx).1
        · exact h t ht
      · exact h t ht)
    refine ⟨step.1, ?_⟩
    have hl : (if many xs (en x) = 0 then ins o (en x) else o).length ≤ o.length + 1 := by
      split
      · exact ins_len _ _
      · omega
    have := step.2
    rw [List.length_cons]
    omega
theorem ends_go {xs : List S47} (hg : good xs = true) : ∀ (d k i : Nat) (o : List S23), xs.length = i + d → BIG + 100 + d ≤ k → o.length ≤ i → (∀ t ∈ o, Bd t) → spec_DarkSpans.l0 k xs [] o (i : Int) = some (spans xs (ends xs (xs.drop i) o), true) := by
  have hl := good_len hg
  have hc := good_cd hg
  intro d
  induction d with
  | zero =>
    intro k i o h1 hk ho hb
    have hk' := (bigs3 hk).2.2
    clear hk
    obtain ⟨k, rfl⟩ : ∃ m, k = m + 1 := ⟨k - 1, by omega⟩
    simp only [spec_DarkSpans.l0]
    rw [if_neg (by omega), List.drop_eq_nil_of_le (by omega)]
    have := spans_go hc hl.2 hb (by omega) o.length k 0 [] (by omega) (by omega) (by simp)
    rw [List.drop_zero] at this
    exact this
  | succ d ih =>
    intro k i o h1 hk ho hb
    obtain ⟨k, rfl⟩ : ∃ m, k = m + 1 := ⟨k - 1, by have := (bigs3 hk).2.2; clear hk; omega⟩
    have hk2 := bigs4 hk
    have hk3 := bigs3 hk2
    have hk4 := hk3.2.2
    clear hk
    obtain ⟨x, hxx⟩ := at_lt (xs := xs) (i := i) (by omega)
    have hd : xs.drop i = x :: xs.drop (i + 1) := by
      rw [List.drop_eq_getElem_cons (by omega)]
      rw [List.getElem?_eq_getElem (by omega)] at hxx
      cases hxx; rfl
    have cx := hc x (List.mem_of_getElem? hxx)
    have e1 := specOut_ok (k := k) hk3.1 cx
    have e2 : spec_l7Many.f k xs (cut (x.f2 * x.f1 + x.f0) x.f1).1 (cut (x.f2 * x.f1 + x.f0) x.f1).2 = some (many xs (en x) : Int) := many_ok (t := en x) hk3.2.1 hg (en_ok cx).1
    have e3 : spec_l7Times.f k o (cut (x.f2 * x.f1 + x.f0) x.f1).1 (cut (x.f2 * x.f1 + x.f0) x.f1).2 = some (ins o (en x)) := times_ins (t := en x) (by omega) hb (en_ok cx).1 (by omega)
    simp only [spec_DarkSpans.l0, rd47 hxx, e1, e2, e3, Option.bind_some, wrS i (by omega)]
    rw [if_pos (by omega), if_pos (by omega), hd, show ends xs (x :: xs.drop (i + 1)) o = ends xs (xs.drop (i + 1)) (if many xs (en x) = 0 then ins o (en x) else o) from rfl]
    by_cases g : many xs (en x) = 0
    · rw [if_pos (by omega), if_pos g]
      refine ih k (i + 1) _ (by omega) hk2 ?_ ?_
      · have := ins_len o (en x); omega
      · intro t ht
        rcases ins_mem.1 ht with rfl | ht
        · exact (en_ok cx).1
        · exact hb t ht
    · rw [if_neg (by omega), if_neg g]
      exact ih k (i + 1) o (by omega) hk2 (by omega) hb
theorem spec_ok {k : Nat} (hk : BIG + 2000000 ≤ k) (xs : List S47) : spec_DarkSpans.f k xs = some (darkAns xs) := by
  have hb := bigs hk
  unfold spec_DarkSpans.f darkAns
  rw [Option.bind_some, specList_ok hb.2.2.1, Option.bind_some]
  by_cases hg : good xs = true
  · have hl := good_len hg
    rw [if_pos hg, if_pos hg]
    have := ends_go hg xs.length k 0 [] (by omega) (bigs2 hk hl.2) (by simp) (fun t ht => by simp at ht)
    rw [List.drop_zero] at this
    exact this
  · rw [if_neg hg, if_neg hg]
theorem spans_len (xs : List S47) (es : List S23) : (spans xs es).length ≤ es.length := List.length_filterMap_le _ _
theorem darkAns_len (xs : List S47) : (darkAns xs).1.length ≤ 6 := by
  unfold darkAns
  split
  · rename_i h
    have h1 := (good_len h).2
    have h2 := spans_len xs (ends xs xs [])
    have h3 := (ends_bd xs xs [] (good_cd h) (fun t ht => by simp at ht)).2
    simp only [List.length_nil] at h3
    show (spans xs (ends xs xs [])).length ≤ 6
    omega
  · simp
/-! ### The law -/
theorem eqS_self {k : Nat} {xs : List S59} (hx : xs.length ≤ 1099511627776) (hk : xs.length < k) : laws_eqIntA2A2S.f k xs xs = some true := by
  unfold laws_eqIntA2A2S.f
  rw [if_pos rfl]
  refine self_go (fun k xs i => laws_eqIntA2A2S.l0 k xs xs i) ?_ ?_ xs hx xs.length k 0 (by omega) hk
  · intro k xs i x hx
    have h1 := lt_of hx
    simp only [laws_eqIntA2A2S.l0]
    rw [if_pos (by omega), if_pos (by omega), if_pos (by omega)]
    simp [laws_eqIntA2A2.f, laws_eqIntA2.f]
  · intro k xs i hi
    simp only [laws_eqIntA2A2S.l0]
    rw [if_neg (by omega)]
theorem mark_go (xs : List S59) (hl : xs.length ≤ 1000) (a : Int) : ∀ (d k i : Nat), xs.length = i + d → d < k → laws_markIntA2A2S.l0 k xs a (i : Int) = some a ∧ laws_heldIntA2A2S.l0 k xs a (i : Int) = some a := by
  intro d
  induction d with
  | zero =>
    intro k i h1 hk
    obtain ⟨k, rfl⟩ : ∃ m, k = m + 1 := ⟨k - 1, by omega⟩
    simp only [laws_markIntA2A2S.l0, laws_heldIntA2A2S.l0]
    rw [if_neg (by omega), if_neg (by omega)]
    exact ⟨rfl, rfl⟩
  | succ d ih =>
    intro k i h1 hk
    obtain ⟨k, rfl⟩ : ∃ m, k = m + 1 := ⟨k - 1, by omega⟩
    simp only [laws_markIntA2A2S.l0, laws_heldIntA2A2S.l0, wrS i (by omega)]
    rw [if_pos (by omega), if_pos (by omega)]
    exact ih k (i + 1) (by omega) (by omega)
theorem mark_ok {k : Nat} {xs : List S59} (hl : xs.length ≤ 1000) (hk : xs.length < k) (a : Int) : laws_markIntA2A2S.f k xs a = some a := (mark_go xs hl a xs.length k 0 (by omega) hk).1
theorem held_ok {k : Nat} {xs : List S59} (hl : xs.length ≤ 1000) (hk : xs.length < k) (a : Int) : laws_heldIntA2A2S.f k xs a = some a := (mark_go xs hl a xs.length k 0 (by omega) hk).2
theorem FnExactDarkSpans : laws_FnExactDarkSpans.Pure := by
  intro xs _ hxs
  unfold laws_FnExactDarkSpans.f
  by_cases hx : xs.length ≤ 1048576
  · have hs : ∀ k, BIG + 2000000 ≤ k → ∀ ys, spec_DarkSpans.f k ys = some (darkAns ys) := fun k hk ys => spec_ok hk ys
    have hi : ∀ k, BIG + 2000000 ≤ k → ∀ ys : List S47, ys.length ≤ 1048576 → impl_DarkSpans.f k ys = some (darkAns ys) := fun k hk ys hm => impl_ok hk hm
    generalize BIG = B at *
    obtain ⟨k, hk⟩ : ∃ k, k = B + 2097152 := ⟨_, rfl⟩
    refine ⟨k + 1 + 1 + 1, ?_⟩
    obtain ⟨n, hn⟩ := szCandleS_ex xs
    rw [hn, Option.bind_some]
    split
    · rfl
    · have hm : (xs.map convCandle).length ≤ 1048576 := by simpa using hx
      have ht : ∀ k, xs.length < k → laws_toCandleS.f k xs = some (xs.map convCandle) := fun k hk => toCandleS_ok hx hk
      rw [ht _ (by omega), Option.bind_some]
      generalize xs.map convCandle = ys at *
      have hl := darkAns_len ys
      have hs1 := fun k hk => hs k hk ys
      have hi1 := fun k hk => hi k hk ys hm
      generalize darkAns ys = r at *
      obtain ⟨r1, r2⟩ := r
      simp only at hl
      simp only [Option.bind_some]
      rw [hs1 _ (by omega), Option.bind_some, hi1 _ (by omega), Option.bind_some]
      simp only
      rw [eqS_self (by omega) (by omega), Option.bind_some, if_pos rfl]
      simp only [laws_FnExactDarkSpans.j0, bne_self_eq_false, Bool.false_eq_true, if_false]
      rw [ht _ (by omega), Option.bind_some, eqCandleS_self (by omega) (by omega), Option.bind_some, if_pos rfl]
      rw [markCandleS_ok (by omega) (by omega), Option.bind_some]
      simp only
      rw [if_neg (by omega), eqS_self (by omega) (by omega), Option.bind_some, if_pos rfl]
      simp only [laws_FnExactDarkSpans.j1, bne_self_eq_false, Bool.false_eq_true, if_false]
      rw [mark_ok (by omega) (by omega), Option.bind_some, held_ok (by omega) (by omega), Option.bind_some, if_neg (by omega), if_pos rfl, ht _ (by omega), Option.bind_some]
      rw [hi1 _ (by omega), Option.bind_some]
      simp only
      rw [eqS_self (by omega) (by omega), Option.bind_some, if_pos rfl]
      simp only [laws_FnExactDarkSpans.j2, bne_self_eq_false, Bool.false_eq_true, if_false]
      rw [held_ok (by omega) (by omega), Option.bind_some, if_neg (by omega), if_pos rfl]
  · refine ⟨1, ?_⟩
    rw [szCandleS_far (by omega) hxs]
    rfl
end Go.Proofs.Ytpoglodghpkjiaa.Pure
