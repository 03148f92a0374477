/- SortRopes: the program's sort of three pairs is the reference's. Conditions: none. -/
import Derived.Test.YthoblgccnkjnoaaVSortRopePBx0
import Derived.Test.YthoblgccnkjnoaaVSortRopePBx1
import Derived.Test.YthoblgccnkjnoaaVSortRopePBx2
import Derived.Test.YthoblgccnkjnoaaVSortRopePBx3
import Derived.Test.YthoblgccnkjnoaaVSortRopePBx4
import Derived.Test.YthoblgccnkjnoaaVSortRopePBx5
import Derived.Test.YthoblgccnkjnoaaVSortRopePBx6
import Derived.Test.YthoblgccnkjnoaaVSortRopePBx7
import Derived.Test.YthoblgccnkjnoaaVSortRopePBx8
import Derived.Test.YthoblgccnkjnoaaVSortRopeInsE
import Derived.Test.YthoblgccnkjnoaaVSortRopeLists
set_option linter.unusedVariables false
set_option linter.unusedSimpArgs false
namespace Go.Proofs.Ythoblgccnkjnoaa.Pure
open Go.RowKit Go.Proofs.Ythoblgccnkjnoaa.PB Go.Proofs.Ythoblgccnkjnoaa.PL Go.Proofs.YthoblgccnkjnoaaW.PrintWords Go.Proofs.YthoblgccnkjnoaaW.PrintLast Go.Proofs.YthoblgccnkjnoaaW.PrintMore
/-! ### The order -/
def gtP (x y : S53) : Prop := x.f0 > y.f0 ∨ (x.f0 = y.f0 ∧ x.f1 > y.f1)
instance (x y : S53) : Decidable (gtP x y) := by unfold gtP; infer_instance
instance : Inhabited S53 := ⟨⟨0, 0⟩⟩
def ltB (x y : S53) : Bool := decide (gtP y x)
theorem gt_asymm {x y : S53} (h : gtP x y) : ¬ gtP y x := by unfold gtP at *; omega
theorem gt_trans {x y z : S53} (h1 : gtP x y) (h2 : gtP y z) : gtP x z := by unfold gtP at *; omega
theorem gt_ntrans {x y z : S53} (h1 : ¬ gtP x y) (h2 : ¬ gtP y z) : ¬ gtP x z := by unfold gtP at *; omega
theorem nest {α : Type} {A B C : Prop} [Decidable A] [Decidable B] [Decidable C] (X Y : α) : (if A then X else (if B then (if C then X else Y) else Y)) = if A ∨ (B ∧ C) then X else Y := by
  by_cases a : A <;> by_cases b : B <;> by_cases c : C <;> simp [a, b, c]
/-! ### The reference -/
def L (k : Nat) (x : Int) (p q r : S53) : Option (Int × Int × Int × Int × Int × Int × Bool) := spec_SortRopes.l0 k x p.f0 q.f0 r.f0 p.f1 q.f1 r.f1
theorem L_step (k : Nat) (x : Int) (hx : x < 3) (p q r : S53) : L (k + 1) x p q r = if gtP p q then (if gtP p r then L k (wrap64 (x + 1)) q r p else L k (wrap64 (x + 1)) q p r) else (if gtP q r then L k (wrap64 (x + 1)) p r q else L k (wrap64 (x + 1)) p q r) := by
  unfold L
  conv => lhs; unfold spec_SortRopes.l0
  rw [if_pos hx]
  unfold gtP
  simp only [nest]
theorem L_end (k : Nat) (x : Int) (hx : ¬ x < 3) (p q r : S53) : L (k + 1) x p q r = some (p.f0, q.f0, r.f0, p.f1, q.f1, r.f1, true) := by
  unfold L
  conv => lhs; unfold spec_SortRopes.l0
  rw [if_neg hx]
/-! ### The program's sort -/
theorem cmpI (a b : Int) : cmp_Compare_int.f a b = some (if a < b then -1 else if a > b then 1 else 0) := by
  unfold cmp_Compare_int.f cmp_isNaN_int.f
  simp only [Option.bind_some, bne_self_eq_false, Bool.false_eq_true, if_false]
  split
  · rfl
  · split <;> rfl
theorem cmp_ok {k : Nat} (hk : 10 ≤ k) (x y : S53) : ∃ t, impl_SortRopes_1.f k x.f0 x.f1 y.f0 y.f1 = some t ∧ (t < 0 ↔ ltB x y = true) := by
  obtain ⟨k, rfl⟩ : ∃ m, k = m + 3 := ⟨k - 3, by omega⟩
  unfold impl_SortRopes_1.f slices_Compare_int_int.f
  have w1 : wrap64 ((0 : Int) + 1) = 1 := wrS 0 (by omega)
  have w2 : wrap64 ((1 : Int) + 1) = 2 := wrS 1 (by omega)
  have e0 : ∀ a b : Int, rd [a, b] 0 = a := fun a b => rfl
  have e1 : ∀ a b : Int, rd [a, b] 1 = b := fun a b => rfl
  simp only [slices_Compare_int_int.l0, List.length_cons, List.length_nil, cmpI, Option.bind_some, w1, w2, e0, e1]
  have l2 : (((0 : Nat) + 1 + 1 : Nat) : Int) = 2 := rfl
  simp only [l2]
  have c1 : ((0 : Int) < 2) = True := eq_true (by decide)
  have c2 : ((0 : Int) ≤ 0) = True := eq_true (by decide)
  have c3 : ((0 : Int) ≥ 2) = False := eq_false (by decide)
  have c4 : ((1 : Int) < 2) = True := eq_true (by decide)
  have c5 : ((0 : Int) ≤ 1) = True := eq_true (by decide)
  have c6 : ((1 : Int) ≥ 2) = False := eq_false (by decide)
  have c7 : ((2 : Int) < 2) = False := eq_false (by decide)
  simp only [c1, c2, c3, c4, c5, c6, c7, if_true, if_false]
  have yes : gtP y x → ((-1 : Int) < 0 ↔ ltB x y = true) := fun h => ⟨fun _ => decide_eq_true h, fun _ => by decide⟩
  have no : ∀ t : Int, ¬ t < 0 → ¬ gtP y x → (t < 0 ↔ ltB x y = true) := fun t ht h => ⟨fun g => absurd g ht, fun g => absurd (of_decide_eq_true g) h⟩
  by_cases h1 : x.f0 < y.f0
  · exact ⟨-1, by simp [h1], yes (Or.inl h1)⟩
  · by_cases h2 : x.f0 > y.f0
    · exact ⟨1, by simp [h1, h2], no 1 (by decide) (by unfold gtP; omega)⟩
    · by_cases h4 : x.f1 < y.f1
      · exact ⟨-1, by simp [h1, h2, h4], yes (Or.inr ⟨by omega, h4⟩)⟩
      · by_cases h5 : x.f1 > y.f1
        · exact ⟨1, by simp [h1, h2, h4, h5], no 1 (by decide) (by unfold gtP; omega)⟩
        · exact ⟨0, by simp [h1, h2, h4, h5], no 0 (by decide) (by unfold gtP; omega)⟩
theorem rd53 {l : List S53} {i : Nat} {x : S53} (h : l[i]? = some x) : rd_T53 l (i : Int) = x := by simp [rd_T53, h]
theorem sort_l1 {x : S53} {i K0 b : Nat} (hi : i ≤ 100) (hK : 20 ≤ K0) : ∀ (n : Nat) (P S : List S53), P.length = n → n ≤ 100 → ∀ r, (∀ K, K0 ≤ K → slices_insertionSortCmpFunc_2_int_at_impl_SortRopes_1.l0 K (insE ltB P x ++ S) 0 (b : Int) ((i + 1 : Nat) : Int) = some r) → ∀ k, K0 + 2 * n + 2 ≤ k → slices_insertionSortCmpFunc_2_int_at_impl_SortRopes_1.l1 k (P ++ x :: S) 0 (b : Int) (i : Int) (n : Int) = some r := by
  have hsc : wrap64 ((i : Int) + 1) = ((i + 1 : Nat) : Int) := wrS i (by omega)
  intro n
  induction n with
  | zero =>
    intro P S hn hl r hr k hk
    obtain ⟨k, rfl⟩ : ∃ m, k = m + 2 := ⟨k - 2, by omega⟩
    obtain rfl := List.length_eq_zero_iff.1 hn
    unfold slices_insertionSortCmpFunc_2_int_at_impl_SortRopes_1.l1
    rw [if_neg (by decide)]
    unfold slices_insertionSortCmpFunc_2_int_at_impl_SortRopes_1.j2
    rw [if_neg (by decide), hsc]
    exact hr k (by omega)
  | succ n ih =>
    intro P S hn hl r hr k hk
    obtain ⟨k, rfl⟩ : ∃ m, k = m + 2 := ⟨k - 2, by omega⟩
    obtain ⟨Q, y, rfl⟩ : ∃ Q y, P = Q ++ [y] := ⟨P.dropLast, P.getLast (by intro e; rw [e] at hn; simp at hn), (List.dropLast_concat_getLast _).symm⟩
    have hq : Q.length = n := by simpa using hn
    have hw : wrap64 (((n + 1 : Nat) : Int) - 1) = (n : Int) := by
      rw [wr (by omega) (by omega)]; omega
    have e : Q ++ [y] ++ x :: S = Q ++ y :: x :: S := by simp
    have r1 : rd_T53 (Q ++ y :: x :: S) (n : Int) = y := rd53 (by rw [← hq]; simp)
    have r2 : rd_T53 (Q ++ y :: x :: S) ((n + 1 : Nat) : Int) = x := rd53 (by rw [← hq]; simp)
    have hlen : ((Q ++ y :: x :: S).length : Int) = (n + 2 + S.length : Nat) := by
      rw [List.length_append, List.length_cons, List.length_cons, hq]; congr 1; omega
    obtain ⟨t, ht, htl⟩ := cmp_ok (k := k + 1) (by omega) x y
    rw [e]
    unfold slices_insertionSortCmpFunc_2_int_at_impl_SortRopes_1.l1
    rw [if_pos (by omega), if_pos (by omega), if_pos (by omega), hw, if_pos (by omega), if_pos (by omega), r1, r2, ht, Option.bind_some]
    rw [insE_snoc] at hr
    unfold slices_insertionSortCmpFunc_2_int_at_impl_SortRopes_1.j2
    by_cases hb : ltB x y = true
    · rw [if_pos (decide_eq_true (htl.2 hb)), hw, if_pos (by omega), if_pos (by omega), if_pos (by omega), if_pos (by omega), r1, r2]
      rw [if_pos hb] at hr
      have := ih Q (y :: S) hq (by omega) r (by intro K hK; have := hr K hK; rw [List.append_assoc] at this; exact this) k (by omega)
      rw [Int.toNat_natCast, Int.toNat_natCast]
      have h2 : ((Q ++ y :: x :: S).set (n + 1) (⟨y.f0, y.f1⟩ : S53)).set n (⟨x.f0, x.f1⟩ : S53) = Q ++ x :: y :: S := by
        have : ((Q ++ y :: x :: S).set (n + 1) y).set n x = Q ++ x :: y :: S := by rw [← hq]; simp
        exact this
      rw [h2]
      exact this
    · rw [if_neg (by simpa using fun g => hb (htl.1 g)), hsc]
      rw [if_neg hb] at hr
      have := hr k (by omega)
      rw [List.append_assoc, List.append_assoc] at this
      exact this
theorem sort_l0 : ∀ (R P : List S53) (k b : Nat), b = P.length + R.length → b ≤ 50 → R.length * 200 + 30 ≤ k → slices_insertionSortCmpFunc_2_int_at_impl_SortRopes_1.l0 k (P ++ R) 0 (b : Int) (P.length : Int) = some (R.foldl (insE ltB) P)
  | [], P, k, b, h1, h2, hk => by
    obtain ⟨k, rfl⟩ : ∃ m, k = m + 1 := ⟨k - 1, by omega⟩
    simp only [List.length_nil] at h1
    unfold slices_insertionSortCmpFunc_2_int_at_impl_SortRopes_1.l0
    rw [if_neg (by omega), List.append_nil]
    rfl
  | x :: R, P, k, b, h1, h2, hk => by
    simp only [List.length_cons] at h1 hk
    obtain ⟨k, rfl⟩ : ∃ m, k = m + 1 := ⟨k - 1, by omega⟩
    unfold slices_insertionSortCmpFunc_2_int_at_impl_SortRopes_1.l0
    rw [if_pos (by omega), List.foldl_cons]
    refine sort_l1 (i := P.length) (K0 := R.length * 200 + 30) (b := b) (by omega) (by omega) P.length P R rfl (by omega) _ (fun K hK => ?_) k (by omega)
    have := sort_l0 R (insE ltB P x) K b (by rw [insE_length]; omega) h2 hK
    rw [insE_length] at this
    exact this
theorem sort_ok {k : Nat} (hk : 1000 ≤ k) (p q r : S53) : slices_SortFunc_2_int_2_int_at_impl_SortRopes_1.f k [p, q, r] = some ([q, r].foldl (insE ltB) [p]) := by
  have hs := sort_l0 [q, r] [p] k 3 rfl (by omega) (by simp; omega)
  unfold slices_SortFunc_2_int_2_int_at_impl_SortRopes_1.f slices_pdqsortCmpFunc_2_int_at_impl_SortRopes_1.f slices_insertionSortCmpFunc_2_int_at_impl_SortRopes_1.f
  have hu : ∃ t, bits_Len.f (IntKind.u64.wrap ((([p, q, r] : List S53).length : Nat) : Int)) = some t := by
    have : IntKind.u64.wrap ((([p, q, r] : List S53).length : Nat) : Int) = 3 := rfl
    rw [this]
    unfold bits_Len.f
    rw [if_pos (by omega)]
    exact ⟨_, rfl⟩
  obtain ⟨t, ht⟩ := hu
  have h1 : wrap64 ((0 : Int) + 1) = ((1 : Nat) : Int) := wrS 0 (by omega)
  have h3 : ((([p, q, r] : List S53).length : Nat) : Int) = ((3 : Nat) : Int) := rfl
  have h4 : wrap64 ((([p, q, r] : List S53).length : Nat) - (0 : Int)) = 3 := by rw [h3]; exact wr (by omega) (by omega)
  rw [ht, Option.bind_some, if_pos (by rw [h4]; decide), h1, h3]
  have hs' : slices_insertionSortCmpFunc_2_int_at_impl_SortRopes_1.l0 k [p, q, r] 0 ((3 : Nat) : Int) ((1 : Nat) : Int) = some ([q, r].foldl (insE ltB) [p]) := hs
  rw [hs']
  rfl
/-- Three in order. -/
def srt3 (p q r : S53) : S53 × S53 × S53 :=
  if gtP p q then (if gtP p r then (if gtP q r then (r, q, p) else (q, r, p)) else (q, p, r)) else (if gtP q r then (if gtP p r then (r, p, q) else (p, r, q)) else (p, q, r))
theorem fold3 (p q r : S53) : [q, r].foldl (insE ltB) [p] = [(srt3 p q r).1, (srt3 p q r).2.1, (srt3 p q r).2.2] := by
  have s1 : insE ltB [p] q = if gtP p q then [q, p] else [p, q] := by
    have := insE_snoc ltB [] p q
    rw [List.nil_append] at this
    rw [this, insE_nil]
    unfold ltB
    by_cases h : gtP p q <;> simp [h]
  have s2 : ∀ a b : S53, insE ltB [a, b] r = if gtP b r then (if gtP a r then [r, a, b] else [a, r, b]) else [a, b, r] := by
    intro a b
    have h1 := insE_snoc ltB [a] b r
    have h2 := insE_snoc ltB [] a r
    rw [List.nil_append] at h2
    rw [show ([a] : List S53) ++ [b] = [a, b] from rfl] at h1
    rw [h1, h2, insE_nil]
    unfold ltB
    by_cases g1 : gtP b r <;> by_cases g2 : gtP a r <;> simp [g1, g2]
  rw [List.foldl_cons, List.foldl_cons, List.foldl_nil, s1]
  unfold srt3
  by_cases g1 : gtP p q
  · rw [if_pos g1, s2, if_pos g1]
    by_cases g2 : gtP p r <;> by_cases g3 : gtP q r <;> simp [g2, g3]
  · rw [if_neg g1, s2, if_neg g1]
    by_cases g2 : gtP p r <;> by_cases g3 : gtP q r <;> simp [g2, g3]
theorem spec3 (k : Nat) (p q r : S53) : L (k + 4) 0 p q r = some ((srt3 p q r).1.f0, (srt3 p q r).2.1.f0, (srt3 p q r).2.2.f0, (srt3 p q r).1.f1, (srt3 p q r).2.1.f1, (srt3 p q r).2.2.f1, true) := by
  have w1 : wrap64 ((0 : Int) + 1) = 1 := wrS 0 (by omega)
  have w2 : wrap64 ((1 : Int) + 1) = 2 := wrS 1 (by omega)
  have w3 : wrap64 ((2 : Int) + 1) = 3 := wrS 2 (by omega)
  have st0 := fun a b c => L_step (k + 3) 0 (by decide) a b c
  have st1 := fun a b c => L_step (k + 2) 1 (by decide) a b c
  have st2 := fun a b c => L_step (k + 1) 2 (by decide) a b c
  have st3 := fun a b c => L_end k 3 (by decide) a b c
  rw [w1] at st0
  rw [w2] at st1
  rw [w3] at st2
  unfold srt3
  by_cases g1 : gtP p q <;> by_cases g2 : gtP p r <;> by_cases g3 : gtP q r
  · have n1 := gt_asymm g1; have n2 := gt_asymm g2; have n3 := gt_asymm g3
    simp only [st0, st1, st2, st3, g1, g2, g3, n1, n2, n3, if_true, if_false]
  · have n1 := gt_asymm g1; have n2 := gt_asymm g2
    simp only [st0, st1, st2, st3, g1, g2, g3, n1, n2, if_true, if_false]
  · exact absurd (gt_trans g1 g3) g2
  · have n1 := gt_asymm g1
    simp only [st0, st1, st2, st3, g1, g2, g3, n1, if_true, if_false]
  · have n2 := gt_asymm g2; have n3 := gt_asymm g3
    simp only [st0, st1, st2, st3, g1, g2, g3, n2, n3, if_true, if_false]
  · exact absurd g2 (gt_ntrans g1 g3)
  · have n3 := gt_asymm g3
    simp only [st0, st1, st2, st3, g1, g2, g3, n3, if_true, if_false]
  · simp only [st0, st1, st2, st3, g1, g2, g3, if_true, if_false]
/-! ### Validity -/
def okR (a b : Int) : Prop := (0 ≤ a ∧ a ≤ 3840) ∧ (0 ≤ b ∧ b ≤ 2) ∧ (a = 0 → b = 0)
instance (a b : Int) : Decidable (okR a b) := by unfold okR; infer_instance
def okRs (a b c d e f : Int) : Bool := decide (okR a d) && decide (okR b e) && decide (okR c f)
theorem in_ok (a lo hi : Int) : spec_l1In.f a lo hi = some (decide (lo ≤ a ∧ a ≤ hi)) := by
  unfold spec_l1In.f
  by_cases h : a ≥ lo
  · rw [if_pos h]
    congr 1
    have : lo ≤ a := h
    simp [this]
  · rw [if_neg h]
    have : ¬ lo ≤ a := h
    simp [this]
theorem within_ok (a lo hi : Int) : impl_within.f a lo hi = some (decide (lo ≤ a ∧ a ≤ hi)) := in_ok a lo hi
theorem one_spec (a b : Int) (X : Option Bool) : ((spec_l1In.f a 0 3840).bind fun t => (if t = true then ((spec_l1In.f b 0 2).bind fun t2 => (if t2 = true then (if a = 0 then (if b > 0 then (some false) else X) else X) else (some false))) else (some false))) = if okR a b then X else some false := by
  rw [in_ok, in_ok, Option.bind_some, Option.bind_some]
  by_cases h1 : 0 ≤ a ∧ a ≤ 3840
  · by_cases h2 : 0 ≤ b ∧ b ≤ 2
    · rw [decide_eq_true h1, decide_eq_true h2, if_pos rfl, if_pos rfl]
      by_cases h3 : a = 0
      · rw [if_pos h3]
        by_cases h4 : b > 0
        · rw [if_pos h4, if_neg (show ¬ okR a b from fun h => by have := h.2.2 h3; omega)]
        · rw [if_neg h4, if_pos (show okR a b from ⟨h1, h2, fun _ => by omega⟩)]
      · rw [if_neg h3, if_pos (show okR a b from ⟨h1, h2, fun h => absurd h h3⟩)]
    · rw [decide_eq_true h1, decide_eq_false h2, if_pos rfl, if_neg (by decide), if_neg (show ¬ okR a b from fun h => h2 h.2.1)]
  · rw [decide_eq_false h1, if_neg (by decide), if_neg (show ¬ okR a b from fun h => h1 h.1)]
theorem one_impl (a b : Int) (X : Option Bool) : ((impl_within.f a 0 3840).bind fun t => (if t = true then ((impl_within.f b 0 2).bind fun t2 => (if t2 = true then (if a = 0 then (if b = 0 then X else (some false)) else X) else (some false))) else (some false))) = if okR a b then X else some false := by
  rw [within_ok, within_ok, Option.bind_some, Option.bind_some]
  by_cases h1 : 0 ≤ a ∧ a ≤ 3840
  · by_cases h2 : 0 ≤ b ∧ b ≤ 2
    · rw [decide_eq_true h1, decide_eq_true h2, if_pos rfl, if_pos rfl]
      by_cases h3 : a = 0
      · rw [if_pos h3]
        by_cases h4 : b = 0
        · rw [if_pos h4, if_pos (show okR a b from ⟨h1, h2, fun _ => h4⟩)]
        · rw [if_neg h4, if_neg (show ¬ okR a b from fun h => h4 (h.2.2 h3))]
      · rw [if_neg h3, if_pos (show okR a b from ⟨h1, h2, fun h => absurd h h3⟩)]
    · rw [decide_eq_true h1, decide_eq_false h2, if_pos rfl, if_neg (by decide), if_neg (show ¬ okR a b from fun h => h2 h.2.1)]
  · rw [decide_eq_false h1, if_neg (by decide), if_neg (show ¬ okR a b from fun h => h1 h.1)]
theorem three (a b c d e f : Int) : (if okR a d then (if okR b e then (if okR c f then some true else some false) else some false) else some false) = some (okRs a b c d e f) := by
  unfold okRs
  by_cases h1 : okR a d <;> by_cases h2 : okR b e <;> by_cases h3 : okR c f <;> simp [h1, h2, h3]
theorem specGood_ok (a b c d e f : Int) : spec_l5Good.f a b c d e f = some (okRs a b c d e f) := by
  unfold spec_l5Good.f
  simp only [one_spec]
  exact three a b c d e f
theorem implGood_ok (a b c d e f : Int) : impl_IsRopes.f a b c d e f = some (okRs a b c d e f) := by
  unfold impl_IsRopes.f
  simp only [one_impl]
  exact three a b c d e f
/-! ### The law -/
def sortAns (a b c d e f : Int) : Int × Int × Int × Int × Int × Int × Bool := if okRs a b c d e f = true then ((srt3 ⟨a, d⟩ ⟨b, e⟩ ⟨c, f⟩).1.f0, (srt3 ⟨a, d⟩ ⟨b, e⟩ ⟨c, f⟩).2.1.f0, (srt3 ⟨a, d⟩ ⟨b, e⟩ ⟨c, f⟩).2.2.f0, (srt3 ⟨a, d⟩ ⟨b, e⟩ ⟨c, f⟩).1.f1, (srt3 ⟨a, d⟩ ⟨b, e⟩ ⟨c, f⟩).2.1.f1, (srt3 ⟨a, d⟩ ⟨b, e⟩ ⟨c, f⟩).2.2.f1, true) else (0, 0, 0, 0, 0, 0, false)
theorem spec_ok {k : Nat} (hk : 10 ≤ k) (a b c d e f : Int) : spec_SortRopes.f k a b c d e f = some (sortAns a b c d e f) := by
  unfold spec_SortRopes.f sortAns
  rw [specGood_ok, Option.bind_some]
  obtain ⟨k, rfl⟩ : ∃ m, k = m + 4 := ⟨k - 4, by omega⟩
  by_cases h : okRs a b c d e f = true
  · rw [if_pos h, if_pos h]
    exact spec3 k ⟨a, d⟩ ⟨b, e⟩ ⟨c, f⟩
  · rw [if_neg h, if_neg h]
theorem impl_ok {k : Nat} (hk : 1000 ≤ k) (a b c d e f : Int) : impl_SortRopes.f k a b c d e f = some (sortAns a b c d e f) := by
  unfold impl_SortRopes.f sortAns
  rw [implGood_ok, Option.bind_some]
  by_cases h : okRs a b c d e f = true
  · rw [if_pos h, if_pos h]
    simp only [Option.bind_some, List.nil_append, List.cons_append]
    rw [if_pos (by simp), if_pos (by simp), if_pos (by simp), sort_ok hk, fold3]
    simp only [Option.bind_some]
    generalize srt3 ⟨a, d⟩ ⟨b, e⟩ ⟨c, f⟩ = s
    obtain ⟨s0, s1, s2⟩ := s
    rw [if_pos (by simp), if_pos (by simp), if_pos (by simp), if_neg (by simp)]
    rfl
  · rw [if_neg h, if_neg h]
theorem FnExactSortRopes : laws_FnExactSortRopes.Pure := by
  intro a b c d e f _ _ _ _ _ _
  refine ⟨1001, ?_⟩
  unfold laws_FnExactSortRopes.f laws_toRopes.f laws_toIntA3.f
  simp only [Option.bind_some]
  rw [spec_ok (by omega), impl_ok (by omega)]
  generalize sortAns a b c d e f = s
  obtain ⟨s0, s1, s2, s3, s4, s5, s6⟩ := s
  simp only [Option.bind_some, laws_eqRopes.f, laws_eqIntA3.f, if_true, laws_FnExactSortRopes.j0, bne_self_eq_false, Bool.false_eq_true, if_false]
end Go.Proofs.Ythoblgccnkjnoaa.Pure
