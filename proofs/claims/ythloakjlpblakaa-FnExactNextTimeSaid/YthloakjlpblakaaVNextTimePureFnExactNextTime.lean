/- NextTime: the program's answer is the reference's, for all fractions and numbers. Conditions: none. -/
import Derived.Test.YthloakjlpblakaaVNextTimePureFnExactTimesWith
import Derived.Test.YthloakjlpblakaaVNextTimeFracH
set_option linter.unusedVariables false
set_option linter.unusedSimpArgs false
namespace Go.Proofs.Ythloakjlpblakaa.Pure
open Go.RowKit Go.Proofs.Ythloakjlpblakaa.PH Go.Proofs.YthloakjlpblakaaW.PrintWords Go.Proofs.YthloakjlpblakaaW.PrintLast
/-- Fractions: both sides tell the same. -/
theorem fracs {k : Nat} (hk : BIG ≤ k) (a b : Int) : ∃ q, spec_l6Fraction.f k a b = some q ∧ PB.impl_isFraction.f k a b = some q := by
  unfold spec_l6Fraction.f PB.impl_isFraction.f spec_l1In.f PB.impl_within.f
  by_cases h1 : -1000000 ≤ a ∧ a ≤ 1000000
  · by_cases h2 : 1 ≤ b ∧ b ≤ 1000000
    · rw [if_pos h2.1, decide_eq_true h2.2, if_pos h1.1, decide_eq_true h1.2]
      simp only [Option.bind_some, if_true]
      rw [l2Cut_ok hk (by omega) (by omega) (by omega), mx_abs (by omega), impl_gcd_ok hk (by omega) (by omega) (by omega), gcd_abs]
      refine ⟨_, rfl, ?_⟩
      simp only [Option.bind_some]
      congr 1
      by_cases hg : Int.gcd a b = 1
      · have := cut_cop (show 0 < b by omega) hg
        rw [this, hg]; simp
      · have hc : ¬ (cut a b = (a, b)) := fun e => hg ((cut_self_iff (by omega)).1 e)
        have h3 : ((Int.gcd a b : Int) == 1) = false := by rw [Bool.eq_false_iff]; intro e; rw [beq_iff_eq] at e; exact hg (by omega)
        rw [h3]
        symm
        rw [Bool.eq_false_iff]
        intro e
        rw [Bool.and_eq_true, beq_iff_eq, beq_iff_eq] at e
        exact hc (Prod.ext e.1 e.2)
    · refine ⟨false, ?_, ?_⟩
      · by_cases h3 : b ≥ 1
        · rw [if_pos h3, decide_eq_false (by omega)]; rfl
        · rw [if_neg h3]; rfl
      · rw [if_pos h1.1, decide_eq_true h1.2]
        simp only [Option.bind_some, if_true]
        by_cases h3 : b ≥ 1
        · rw [if_pos h3, decide_eq_false (by omega)]; rfl
        · rw [if_neg h3]; rfl
  · refine ⟨false, ?_, ?_⟩
    · by_cases h2 : 1 ≤ b ∧ b ≤ 1000000
      · rw [if_pos h2.1, decide_eq_true h2.2]
        simp only [Option.bind_some, if_true]
        by_cases h3 : a ≥ -1000000
        · rw [if_pos h3, decide_eq_false (by omega)]; rfl
        · rw [if_neg h3]; rfl
      · by_cases h3 : b ≥ 1
        · rw [if_pos h3, decide_eq_false (by omega)]; rfl
        · rw [if_neg h3]; rfl
    · by_cases h3 : a ≥ -1000000
      · rw [if_pos h3, decide_eq_false (by omega)]; rfl
      · rw [if_neg h3]; rfl
theorem frac_bd {k : Nat} {a b : Int} (h : PB.impl_isFraction.f k a b = some true) : -1000000 ≤ a ∧ a ≤ 1000000 ∧ 1 ≤ b ∧ b ≤ 1000000 := by
  unfold PB.impl_isFraction.f PB.impl_within.f at h
  by_cases h1 : a ≥ -1000000
  · rw [if_pos h1, Option.bind_some] at h
    by_cases h2 : a ≤ 1000000
    · rw [decide_eq_true h2, if_pos rfl] at h
      by_cases h3 : b ≥ 1
      · rw [if_pos h3, Option.bind_some] at h
        by_cases h4 : b ≤ 1000000
        · exact ⟨h1, h2, h3, h4⟩
        · rw [decide_eq_false h4, if_neg (by decide)] at h; cases h
      · rw [if_neg h3, Option.bind_some, if_neg (by decide)] at h; cases h
    · rw [decide_eq_false h2, if_neg (by decide)] at h; cases h
  · rw [if_neg h1, Option.bind_some, if_neg (by decide)] at h; cases h
theorem mulb {a b A B : Int} (h1 : -A ≤ a) (h2 : a ≤ A) (h3 : 0 ≤ b) (h4 : b ≤ B) (hA : 0 ≤ A) : -(A * B) ≤ a * b ∧ a * b ≤ A * B := by
  have e1 : a * b ≤ A * b := Int.mul_le_mul_of_nonneg_right h2 h3
  have e2 : A * b ≤ A * B := Int.mul_le_mul_of_nonneg_left h4 hA
  have e3 : -A * b ≤ a * b := Int.mul_le_mul_of_nonneg_right h1 h3
  have e4 : -A * b = -(A * b) := Int.neg_mul _ _
  omega
theorem w64n {n : Int} (h1 : -9223372036854775808 ≤ n) (h2 : n ≤ 9223372036854775807) : wrap64 n = n := by unfold wrap64; omega
theorem sm_w {t1 t2 : Int} (ht : -1000000 ≤ t1 ∧ t1 ≤ 1000000 ∧ 1 ≤ t2 ∧ t2 ≤ 1000000) {x : Int × Int} (hx : PB.SmF x) : wrap64 (t1 * x.2) = t1 * x.2 ∧ wrap64 (x.1 * t2) = x.1 * t2 ∧ wrap64 (x.1 * t2 - t1 * x.2) = x.1 * t2 - t1 * x.2 := by
  obtain ⟨a1, a2⟩ := mulb (a := t1) (b := x.2) (A := 1000000) (B := 256) ht.1 ht.2.1 (Int.le_of_lt hx.1.1) hx.1.2 (by decide)
  obtain ⟨b1, b2⟩ := mulb (a := x.1) (b := t2) (A := 4096) (B := 1000000) (by have := hx.2.1; omega) hx.2.2 (by omega) ht.2.2.2 (by decide)
  exact ⟨w64n (by omega) (by omega), w64n (by omega) (by omega), w64n (by omega) (by omega)⟩
theorem less_t {t1 t2 : Int} (ht : -1000000 ≤ t1 ∧ t1 ≤ 1000000 ∧ 1 ≤ t2 ∧ t2 ≤ 1000000) {x : Int × Int} (hx : PB.SmF x) : spec_l2Less.f t1 t2 x.1 x.2 = some (decide (PB.ltP (t1, t2) x)) := by
  obtain ⟨w1, w2, _⟩ := sm_w ht hx
  unfold spec_l2Less.f
  rw [w1, w2]
  rfl
theorem gt_t {t1 t2 : Int} (ht : -1000000 ≤ t1 ∧ t1 ≤ 1000000 ∧ 1 ≤ t2 ∧ t2 ≤ 1000000) {x : Int × Int} (hx : PB.SmF x) : PB.gtT t1 t2 x = decide (PB.ltP (t1, t2) x) := by
  obtain ⟨w1, w2, w3⟩ := sm_w ht hx
  unfold PB.gtT
  rw [w1, w2, w3]
  exact decide_eq_decide.2 ⟨fun h => (show t1 * x.2 < x.1 * t2 by omega), fun h => by have h2 : t1 * x.2 < x.1 * t2 := h; omega⟩
theorem less_s {x y : Int × Int} (hx : PB.SmF x) (hy : PB.SmF y) : spec_l2Less.f x.1 x.2 y.1 y.2 = some (decide (PB.ltP x y)) :=
  less_t (t1 := x.1) (t2 := x.2) ⟨by have := hx.2.1; omega, by have := hx.2.2; omega, by have := hx.1.1; omega, by have := hx.1.2; omega⟩ hy
/-! ### The least one behind a fraction -/
def stepN (t : Int × Int) (st : Bool × (Int × Int)) (x : Int × Int) : Bool × (Int × Int) := if PB.ltP t x then (if st.1 = true then (if PB.ltP x st.2 then (true, x) else st) else (true, x)) else st
def ROk (t : Int × Int) (xs : List (Int × Int)) (st : Bool × (Int × Int)) : Prop := (st.1 = false → st.2 = (0, 0) ∧ ∀ x ∈ xs, ¬ PB.ltP t x) ∧ (st.1 = true → st.2 ∈ xs ∧ PB.ltP t st.2 ∧ ∀ x ∈ xs, PB.ltP t x → ¬ PB.ltP x st.2)
theorem fold_ok (t : Int × Int) : ∀ (xs : List (Int × Int)), (∀ x ∈ xs, PB.SmF x) → ROk t xs (xs.foldl (stepN t) (false, (0, 0))) := by
  intro xs
  refine PB.snoc_ind (P := fun xs => (∀ x ∈ xs, PB.SmF x) → ROk t xs (xs.foldl (stepN t) (false, (0, 0)))) (fun _ => ⟨fun _ => ⟨rfl, fun x hx => by cases hx⟩, fun h => by cases h⟩) (fun l x ih hs => ?_) xs
  have ih := ih (fun y hy => hs y (List.mem_append_left _ hy))
  have hsx : PB.SmF x := hs x (List.mem_append_right _ List.mem_cons_self)
  rw [List.foldl_append]
  show ROk t _ (stepN t _ x)
  generalize l.foldl (stepN t) (false, (0, 0)) = st at ih ⊢
  obtain ⟨i1, i2⟩ := ih
  unfold stepN
  by_cases h1 : PB.ltP t x
  · rw [if_pos h1]
    by_cases h2 : st.1 = true
    · rw [if_pos h2]
      obtain ⟨j1, j2, j3⟩ := i2 h2
      by_cases h3 : PB.ltP x st.2
      · rw [if_pos h3]
        refine ⟨fun h => (Bool.noConfusion h), fun _ => ⟨List.mem_append_right _ List.mem_cons_self, h1, fun y hy hty hyx => ?_⟩⟩
        rcases List.mem_append.1 hy with hy | hy
        · have hsy := hs y (List.mem_append_left _ hy)
          have hss := hs st.2 (List.mem_append_left _ j1)
          exact j3 y hy hty (PB.cf_trans hsy.1.1 hsx.1.1 hss.1.1 hyx h3)
        · rw [List.mem_singleton.1 hy] at hyx
          exact PB.ltP_irrefl x hyx
      · rw [if_neg h3]
        refine ⟨fun h => (by rw [h2] at h; cases h), fun _ => ⟨List.mem_append_left _ j1, j2, fun y hy hty hyx => ?_⟩⟩
        rcases List.mem_append.1 hy with hy | hy
        · exact j3 y hy hty hyx
        · rw [List.mem_singleton.1 hy] at hyx
          exact h3 hyx
    · rw [if_neg h2]
      have hf := i1 (Bool.eq_false_iff.2 h2)
      refine ⟨fun h => (Bool.noConfusion h), fun _ => ⟨List.mem_append_right _ List.mem_cons_self, h1, fun y hy hty hyx => ?_⟩⟩
      rcases List.mem_append.1 hy with hy | hy
      · exact hf.2 y hy hty
      · rw [List.mem_singleton.1 hy] at hyx
        exact PB.ltP_irrefl x hyx
  · rw [if_neg h1]
    refine ⟨fun h => ⟨(i1 h).1, fun y hy => ?_⟩, fun h => ?_⟩
    · rcases List.mem_append.1 hy with hy | hy
      · exact (i1 h).2 y hy
      · rw [List.mem_singleton.1 hy]; exact h1
    · obtain ⟨j1, j2, j3⟩ := i2 h
      refine ⟨List.mem_append_left _ j1, j2, fun y hy hty => ?_⟩
      rcases List.mem_append.1 hy with hy | hy
      · exact j3 y hy hty
      · rw [List.mem_singleton.1 hy] at hty; exact absurd hty h1
theorem idx_ok {t1 t2 : Int} (ht : -1000000 ≤ t1 ∧ t1 ≤ 1000000 ∧ 1 ≤ t2 ∧ t2 ≤ 1000000) (st : Bool × (Int × Int)) : ∀ (U : List (Int × Int)), (∀ x ∈ U, PB.SmF x) → U.Pairwise PB.ltP → ROk (t1, t2) U st → ∀ i : Nat,
    (st.1 = false → PB.idxL t1 t2 U i = -1) ∧ (st.1 = true → ∃ j : Nat, PB.idxL t1 t2 U i = ((i + j : Nat) : Int) ∧ U[j]? = some st.2)
  | [], _, _, h, i => ⟨fun _ => rfl, fun h1 => by have := (h.2 h1).1; cases this⟩
  | x :: U, hs, hp, h, i => by
    rw [List.pairwise_cons] at hp
    have hsx := hs x List.mem_cons_self
    unfold PB.idxL
    rw [gt_t ht hsx]
    by_cases hg : PB.ltP (t1, t2) x
    · rw [if_pos (decide_eq_true hg)]
      refine ⟨fun h1 => absurd hg ((h.1 h1).2 x List.mem_cons_self), fun h1 => ⟨0, rfl, ?_⟩⟩
      obtain ⟨j1, j2, j3⟩ := h.2 h1
      rcases List.mem_cons.1 j1 with e | e
      · rw [e]; rfl
      · exact absurd (hp.1 _ e) (j3 x List.mem_cons_self hg)
    · rw [if_neg (by simpa using hg)]
      have h' : ROk (t1, t2) U st := ⟨fun h1 => ⟨(h.1 h1).1, fun y hy => (h.1 h1).2 y (List.mem_cons_of_mem _ hy)⟩, fun h1 => by
        obtain ⟨j1, j2, j3⟩ := h.2 h1
        rcases List.mem_cons.1 j1 with e | e
        · rw [e] at j2; exact absurd j2 hg
        · exact ⟨e, j2, fun y hy => j3 y (List.mem_cons_of_mem _ hy)⟩⟩
      obtain ⟨k1, k2⟩ := idx_ok ht st U (fun y hy => hs y (List.mem_cons_of_mem _ hy)) hp.2 h' (i + 1)
      refine ⟨k1, fun h1 => ?_⟩
      obtain ⟨j, e1, e2⟩ := k2 h1
      exact ⟨j + 1, by rw [e1]; congr 1; omega, by simpa using e2⟩
/-! ### The reference's loops -/
def Ev {α : Type} (f : Nat → Option α) (r : α) : Prop := ∃ k0, ∀ k, k0 ≤ k → f k = some r
theorem Ev.step {α : Type} {f g : Nat → Option α} {r : α} (h : Ev g r) (hs : ∀ k, f (k + 1) = g k) : Ev f r := by
  obtain ⟨k0, h0⟩ := h
  refine ⟨k0 + 1, fun k hk => ?_⟩
  obtain ⟨k, rfl⟩ : ∃ j, k = j + 1 := ⟨k - 1, by omega⟩
  rw [hs k, h0 k (by omega)]
section
variable {t1 t2 : Int} (ht : -1000000 ≤ t1 ∧ t1 ≤ 1000000 ∧ 1 ≤ t2 ∧ t2 ≤ 1000000) {n : Nat} {T : List (List S54)} (hT : T.length = n + 1) (hn : n ≤ 8) (hl : ∀ l ∈ T, l.length ≤ 1000) (hsm : ∀ x ∈ tms T.flatten, PB.SmF x)
include ht hT hn hl hsm in
theorem nt_row {r} {m : Nat} {row : List S54} (hm : T[m]? = some row) : ∀ (d i : Nat) (st : Bool × (Int × Int)), i + d = row.length → (st.1 = true → PB.SmF st.2) →
    Ev (fun k => spec_NextTime.l0 k (n : Int) ((tms (row.drop i)).foldl (stepN (t1, t2)) st).1 T ((m + 1 : Nat) : Int) t1 t2 ((tms (row.drop i)).foldl (stepN (t1, t2)) st).2.1 ((tms (row.drop i)).foldl (stepN (t1, t2)) st).2.2) r →
    Ev (fun k => spec_NextTime.l1 k (n : Int) st.1 T (m : Int) (i : Int) t1 t2 st.2.1 st.2.2) r
  | 0, i, st, h, hst, e => by
    have hml := (List.getElem?_eq_some_iff.1 hm).1
    have hrd : rd_L4 T (m : Int) = row := by simp [rd_L4, hm]
    rw [List.drop_eq_nil_of_le (by omega)] at e
    refine e.step fun k => ?_
    simp only [spec_NextTime.l1]
    rw [if_pos (by omega), if_pos (by omega), hrd, if_neg (by omega), Go.Proofs.Ythloakjlpblakaa.PL.wrS m (by omega)]
    rfl
  | d + 1, i, st, h, hst, e => by
    have hml := (List.getElem?_eq_some_iff.1 hm).1
    have hrl := hl row (List.mem_of_getElem? hm)
    have hrd : rd_L4 T (m : Int) = row := by simp [rd_L4, hm]
    obtain ⟨x, hx⟩ : ∃ x, row[i]? = some x := ⟨row[i]'(by omega), List.getElem?_eq_getElem _⟩
    have hd : row.drop i = x :: row.drop (i + 1) := by
      rw [List.drop_eq_getElem_cons (by omega)]
      rw [List.getElem?_eq_getElem (by omega)] at hx
      rw [Option.some.inj hx]
    have hrx : rd_T54 row (i : Int) = x := by simp [rd_T54, hx]
    have hsx : PB.SmF (tmS x) := hsm _ (List.mem_map.2 ⟨x, List.mem_flatten.2 ⟨row, List.mem_of_getElem? hm, List.mem_of_getElem? hx⟩, rfl⟩)
    have hf : (tms (row.drop i)).foldl (stepN (t1, t2)) st = (tms (row.drop (i + 1))).foldl (stepN (t1, t2)) (stepN (t1, t2) st (tmS x)) := by rw [hd]; rfl
    rw [hf] at e
    have hst2 : (stepN (t1, t2) st (tmS x)).1 = true → PB.SmF (stepN (t1, t2) st (tmS x)).2 := by
      intro h1
      unfold stepN at h1 ⊢
      split
      · split
        · split
          · exact hsx
          · exact hst (by assumption)
        · exact hsx
      · rename_i hh
        rw [if_neg hh] at h1
        exact hst h1
    have e2 := nt_row hm d (i + 1) _ (by omega) hst2 e
    refine e2.step fun k => ?_
    simp only [spec_NextTime.l1]
    have hlt := less_t ht hsx
    have e3 : x.f0.f0 = (tmS x).1 := rfl
    have e4 : x.f0.f1 = (tmS x).2 := rfl
    rw [if_pos (by omega), if_pos (by omega), hrd, if_pos (by omega), if_pos (by omega), hrx, e3, e4, hlt, Option.bind_some, Go.Proofs.Ythloakjlpblakaa.PL.wrS i (by omega)]
    unfold stepN
    by_cases h1 : PB.ltP (t1, t2) (tmS x)
    · rw [if_pos (decide_eq_true h1), if_pos h1]
      by_cases h2 : st.1 = true
      · rw [if_pos h2, if_pos h2, less_s hsx (hst h2), Option.bind_some]
        by_cases h3 : PB.ltP (tmS x) st.2
        · rw [if_pos (decide_eq_true h3), if_pos h3]
        · rw [if_neg (by simpa using h3), if_neg h3]
      · rw [if_neg h2, if_neg h2]
    · rw [if_neg (by simpa using h1), if_neg h1]
include ht hT hn hl hsm in
theorem nt_all : ∀ (d m : Nat) (st : Bool × (Int × Int)), m + d = n + 1 → (st.1 = true → PB.SmF st.2) →
    Ev (fun k => spec_NextTime.l0 k (n : Int) st.1 T (m : Int) t1 t2 st.2.1 st.2.2) (((tms (T.drop m).flatten).foldl (stepN (t1, t2)) st).2.1, ((tms (T.drop m).flatten).foldl (stepN (t1, t2)) st).2.2, ((tms (T.drop m).flatten).foldl (stepN (t1, t2)) st).1)
  | 0, m, st, h, hst => by
    refine ⟨1, fun k hk => ?_⟩
    obtain ⟨k, rfl⟩ : ∃ j, k = j + 1 := ⟨k - 1, by omega⟩
    simp only [spec_NextTime.l0]
    rw [if_neg (by omega), List.drop_eq_nil_of_le (by omega)]
    rfl
  | d + 1, m, st, h, hst => by
    obtain ⟨row, hm⟩ : ∃ row, T[m]? = some row := ⟨T[m]'(by omega), List.getElem?_eq_getElem _⟩
    have hd : T.drop m = row :: T.drop (m + 1) := by
      rw [List.drop_eq_getElem_cons (by omega)]
      rw [List.getElem?_eq_getElem (by omega)] at hm
      rw [Option.some.inj hm]
    have hf : (tms (T.drop m).flatten).foldl (stepN (t1, t2)) st = (tms (T.drop (m + 1)).flatten).foldl (stepN (t1, t2)) ((tms row).foldl (stepN (t1, t2)) st) := by
      rw [hd, List.flatten_cons]
      unfold tms
      rw [List.map_append, List.foldl_append]
    rw [hf]
    have hst2 : ∀ (l : List (Int × Int)) (s : Bool × (Int × Int)), (∀ x ∈ l, PB.SmF x) → (s.1 = true → PB.SmF s.2) → ((l.foldl (stepN (t1, t2)) s).1 = true → PB.SmF (l.foldl (stepN (t1, t2)) s).2) := by
      intro l
      induction l with
      | nil => intro s _ hs; exact hs
      | cons y l ih =>
        intro s hy hs
        refine ih (stepN (t1, t2) s y) (fun z hz => hy z (List.mem_cons_of_mem _ hz)) ?_
        intro h1
        have hsy := hy y List.mem_cons_self
        unfold stepN at h1 ⊢
        split
        · split
          · split
            · exact hsy
            · exact hs (by assumption)
          · exact hsy
        · rename_i hh
          rw [if_neg hh] at h1
          exact hs h1
    have hrow : ∀ x ∈ tms row, PB.SmF x := fun x hx => by
      obtain ⟨y, hy, rfl⟩ := List.mem_map.1 hx
      exact hsm _ (List.mem_map.2 ⟨y, List.mem_flatten.2 ⟨row, List.mem_of_getElem? hm, hy⟩, rfl⟩)
    have e := nt_all d (m + 1) _ (by omega) (hst2 (tms row) st hrow hst)
    have e2 := nt_row ht hT hn hl hsm hm row.length 0 st (by omega) hst e
    refine e2.step fun k => ?_
    simp only [spec_NextTime.l0]
    rw [if_pos (by omega)]
    rfl
end
theorem next_both (t1 t2 a : Int) : ∃ r : Int × Int × Bool, Ev (fun k => spec_NextTime.f k t1 t2 a) r ∧ Ev (fun k => impl_NextTime.f k t1 t2 a) r := by
  obtain ⟨q, q1, q2⟩ := fracs (Nat.le_refl BIG) t1 t2
  have hs : ∀ k, BIG ≤ k → spec_l6Fraction.f k t1 t2 = some q := fun k hk => up_le (f := fun k => spec_l6Fraction.f k t1 t2) (spec_l6Fraction.mono t1 t2) hk q1
  have hi : ∀ k, BIG ≤ k → PB.impl_isFraction.f k t1 t2 = some q := fun k hk => up_le (f := fun k => PB.impl_isFraction.f k t1 t2) (PB.impl_isFraction.mono t1 t2) hk q2
  generalize BIG = B at *
  have hno : (q = false ∨ ¬ (0 ≤ a ∧ a ≤ 8)) → ∃ r : Int × Int × Bool, Ev (fun k => spec_NextTime.f k t1 t2 a) r ∧ Ev (fun k => impl_NextTime.f k t1 t2 a) r := by
    intro hc
    refine ⟨(0, 0, false), ⟨B + 1, fun k hk => ?_⟩, ⟨B, fun k hk => ?_⟩⟩
    · show spec_NextTime.f k t1 t2 a = _
      unfold spec_NextTime.f
      rw [hs k (by omega), Option.bind_some]
      obtain ⟨k, rfl⟩ : ∃ j, k = j + 1 := ⟨k - 1, by omega⟩
      rcases hc with rfl | hc
      · rw [if_neg (by decide)]
        simp only [spec_NextTime.j0, if_true]
      · rw [ropes_no hc, Option.bind_some]
        simp only [spec_NextTime.j0, Bool.not_false, if_true, ite_self]
    · show impl_NextTime.f k t1 t2 a = _
      unfold impl_NextTime.f PB.nextF
      rw [hi k hk, Option.bind_some]
      rcases hc with rfl | hc
      · rw [if_neg (by decide)]
      · rw [if_neg hc, ite_self]
  cases q with
  | false => exact hno (Or.inl rfl)
  | true =>
    by_cases ha : 0 ≤ a ∧ a ≤ 8
    · have ht := frac_bd q2
      obtain ⟨n, rfl⟩ : ∃ n : Nat, a = (n : Int) := ⟨a.toNat, by omega⟩
      obtain ⟨o, T, h1, h2, h3⟩ := chk_get n (by omega)
      obtain ⟨_, hT, hU, hUs, hmem, hl, hsm, hol⟩ := chkL_get h3
      have hF := fold_ok (t1, t2) (tms T.flatten) hsm
      obtain ⟨k0, hE⟩ := nt_all ht hT (by omega) hl hsm (n + 1) 0 (false, (0, 0)) (by omega) (fun h => by cases h)
      rw [List.drop_zero] at hE
      generalize (tms T.flatten).foldl (stepN (t1, t2)) (false, (0, 0)) = st at hF hE
      have hFU : ROk (t1, t2) (unionU T) st := ⟨fun h => ⟨(hF.1 h).1, fun x hx => (hF.1 h).2 x ((hmem x).2 hx)⟩, fun h => ⟨(hmem _).1 (hF.2 h).1, (hF.2 h).2.1, fun x hx => (hF.2 h).2.2 x ((hmem x).2 hx)⟩⟩
      obtain ⟨i1, i2⟩ := idx_ok ht st (unionU T) (fun x hx => hsm x ((hmem x).2 hx)) hUs hFU 0
      refine ⟨(st.2.1, st.2.2, st.1), ⟨k0 + B + 5000, fun k hk => ?_⟩, ⟨B, fun k hk => ?_⟩⟩
      · show spec_NextTime.f k t1 t2 _ = _
        unfold spec_NextTime.f
        obtain ⟨k, rfl⟩ : ∃ j, k = j + 1 := ⟨k - 1, by omega⟩
        rw [hs _ (by omega), Option.bind_some, if_pos rfl, ropes_yes (by omega), Option.bind_some]
        simp only [spec_NextTime.j0, Bool.not_true, Bool.false_eq_true, if_false]
        rw [table_up h2 (by omega), Option.bind_some]
        exact hE k (by omega)
      · show impl_NextTime.f k t1 t2 _ = _
        unfold impl_NextTime.f PB.nextF
        rw [hi k hk, Option.bind_some, if_pos rfl, if_pos ha, Int.toNat_natCast, h1, Option.bind_some, hU, Option.bind_some, if_pos hol]
        cases hb : st.1 with
        | false =>
          rw [i1 hb, if_pos (by decide), (hFU.1 hb).1]
        | true =>
          obtain ⟨j, e1, e2⟩ := i2 hb
          rw [e1, if_neg (by omega), Nat.zero_add, Int.toNat_natCast, e2]
          rfl
    · exact hno (Or.inr ha)
theorem FnExactNextTime : laws_FnExactNextTime.Pure := by
  intro t1 t2 a _ _ _
  obtain ⟨r, ⟨k1, hs⟩, k2, hi⟩ := next_both t1 t2 a
  simp only at hs hi
  refine ⟨k1 + k2, ?_⟩
  unfold laws_FnExactNextTime.f laws_toIntA2.f
  simp only [Option.bind_some]
  rw [hs _ (by omega), Option.bind_some, hi _ (by omega), Option.bind_some]
  unfold laws_eqIntA2.f
  rw [if_pos rfl, if_pos rfl, Option.bind_some, if_pos rfl, bne_self_eq_false, if_neg (by decide)]
end Go.Proofs.Ythloakjlpblakaa.Pure
