/- The first rope plan: the program's and the reference's. Conditions: those each lemma names. -/
import Derived.Test.YthoblgccnkjnoaaVFirstRopRopeC
set_option linter.unusedVariables false
set_option linter.unusedSimpArgs false
namespace Go.Proofs.Ythoblgccnkjnoaa.Pure
open Go.RowKit Go.Proofs.Ythoblgccnkjnoaa.PA Go.Proofs.Ythoblgccnkjnoaa.PL Go.Proofs.YthoblgccnkjnoaaW.PrintWords Go.Proofs.YthoblgccnkjnoaaW.PrintLast Go.Proofs.YthoblgccnkjnoaaW.PrintMore

def atA (T : Int) (L : List Ev) (n : Nat) : Option (List S22) := (L.find? (fun e => e.1 == T && e.2.length == n)).map (·.2)
def bestA (T : Int) (L : List Ev) : Option (List S22) := (atA T L 0).or ((atA T L 1).or ((atA T L 2).or (atA T L 3)))
def outB : Option (List S22) → Bool × List S22
  | none => (false, [])
  | some p => (true, p)
theorem at_len {T : Int} {L : List Ev} {n : Nat} {p : List S22} (h : atA T L n = some p) : p.length = n := by
  unfold atA at h
  obtain ⟨e, h1, rfl⟩ := Option.map_eq_some_iff.1 h
  have := List.find?_some h1
  simp only [Bool.and_eq_true, beq_iff_eq] at this
  exact this.2
theorem at_snoc (T : Int) (L : List Ev) (e : Ev) (n : Nat) : atA T (L ++ [e]) n = (atA T L n).or (if e.1 = T ∧ e.2.length = n then some e.2 else none) := by
  unfold atA
  rw [List.find?_append]
  by_cases h : e.1 = T ∧ e.2.length = n
  · have h1 : List.find? (fun e : Ev => e.1 == T && e.2.length == n) [e] = some e := by simp [List.find?, h.1, h.2]
    rw [h1, if_pos h]
    cases List.find? (fun e : Ev => e.1 == T && e.2.length == n) L <;> rfl
  · have h1 : List.find? (fun e : Ev => e.1 == T && e.2.length == n) [e] = none := by
      simp only [List.find?_cons, List.find?_nil]
      split
      · rename_i h2
        simp only [Bool.and_eq_true, beq_iff_eq] at h2
        exact absurd h2 h
      · rfl
    rw [h1, if_neg h]
    cases List.find? (fun e : Ev => e.1 == T && e.2.length == n) L <;> rfl
theorem pick_step (T : Int) (L : List Ev) (e : Ev) (he : e.2.length ≤ 3) : pick5 T (outB (bestA T L)) e = outB (bestA T (L ++ [e])) := by
  unfold bestA
  rw [at_snoc, at_snoc, at_snoc, at_snoc]
  by_cases ht : e.1 = T
  · have hl : e.2.length = 0 ∨ e.2.length = 1 ∨ e.2.length = 2 ∨ e.2.length = 3 := by omega
    have c : ∀ n p, atA T L n = some p → p.length = n := fun n p h => at_len h
    unfold pick5
    cases h0 : atA T L 0 <;> cases h1 : atA T L 1 <;> cases h2 : atA T L 2 <;> cases h3 : atA T L 3 <;>
      (have d0 := c 0; have d1 := c 1; have d2 := c 2; have d3 := c 3; rw [h0] at d0; rw [h1] at d1; rw [h2] at d2; rw [h3] at d3;
       rcases hl with hl | hl | hl | hl <;> simp_all [outB, Option.or])
  · unfold pick5
    rw [if_neg (fun h => ht h.1), if_neg (fun h => ht h.1), if_neg (fun h => ht h.1), if_neg (fun h => ht h.1), if_neg (fun h => ht h.1)]
    simp only [Option.or_none]
theorem pick_all (T : Int) : ∀ (L2 L : List Ev), (∀ e ∈ L2, e.2.length ≤ 3) → L2.foldl (pick5 T) (outB (bestA T L)) = outB (bestA T (L ++ L2))
  | [], L, _ => by rw [List.append_nil]; rfl
  | e :: L2, L, h => by
    rw [List.foldl_cons, pick_step T L e (h e List.mem_cons_self), pick_all T L2 (L ++ [e]) (fun x hx => h x (List.mem_cons_of_mem _ hx)), List.append_assoc]
    rfl
/-- The first plan of n lightings with the time. -/
def planAt (T : Int) (r : Rp) (n : Nat) : Option (List S22) := ((plansA n r).find? (fun y => y.2 == T)).map (·.1)
def planA (T : Int) (r : Rp) : Option (List S22) := (planAt T r 0).or ((planAt T r 1).or ((planAt T r 2).or (planAt T r 3)))
theorem at_plan (T : Int) (r : Rp) (g : r.good) (n : Nat) : atA T (evsA 4 r 0 []) n = planAt T r n := by
  have hf := evs_filter 4 r 0 [] n g (by have := alive_le r; omega)
  simp only [List.length_nil, Nat.zero_add, Int.zero_add, List.nil_append] at hf
  unfold atA planAt
  have h1 : (evsA 4 r 0 []).find? (fun e => e.1 == T && e.2.length == n) = ((evsA 4 r 0 []).filter (fun e => e.2.length == n)).find? (fun e => e.1 == T) := by
    rw [List.find?_filter]
    congr 1
    funext e
    cases (e.1 == T) <;> cases (e.2.length == n) <;> rfl
  rw [h1, hf, List.find?_map, Option.map_map]
  rfl
theorem firstRopeF_eq (r : Rp) (T : Int) (k : Nat) (hk : 1000 ≤ k) : firstRopeF k r.l0 r.l1 r.l2 r.e0 r.e1 r.e2 T = some (if goodB r = true then ((outB (planA T r)).2, (outB (planA T r)).1) else ([], false)) := by
  unfold firstRopeF
  have h0 := isRopes_eq (k - 3) r
  rw [show k - 3 + 3 = k by omega] at h0
  rw [h0, Option.bind_some]
  by_cases hg : goodB r = true
  · have g := (goodB_iff r).1 hg
    have ha := alive_le r
    have h1 := each_eq 4 r 0 [] k g (by omega) (Int.le_refl _) (by decide) (by decide) (by omega)
    have h2 := pick_all T (evsA 4 r 0 []) [] (fun e he => by have := (evs_len g he).2; rw [List.length_nil] at this; omega)
    have h3 : bestA T ([] ++ evsA 4 r 0 []) = planA T r := by
      unfold bestA planA
      rw [List.nil_append, at_plan T r g, at_plan T r g, at_plan T r g, at_plan T r g]
    have h4 : (evsA 4 r 0 []).foldl (pick5 T) (false, []) = outB (planA T r) := by rw [← h3, ← h2]; rfl
    rw [if_pos hg, if_pos hg, h1, Option.bind_some, h4]
  · rw [if_neg hg, if_neg hg]
theorem l0_4 (k : Nat) (r : Rp) (T : Int) : spec_FirstRopePlan.l0 (k + 2) T 4 r.l0 r.l1 r.l2 r.e0 r.e1 r.e2 = some ([], false) := by
  rw [spec_FirstRopePlan.l0, if_neg (by decide), spec_FirstRopePlan.j1, if_neg Bool.false_ne_true]
theorem l0_step (r : Rp) (g : goodB r = true) (T : Int) (n K : Nat) (hn : n ≤ 3) (Z : Option (List S22 × Bool)) (hZ : ∀ k, K ≤ k → spec_FirstRopePlan.l0 k T ((n + 1 : Nat) : Int) r.l0 r.l1 r.l2 r.e0 r.e1 r.e2 = Z) (k : Nat) (hk : K + 30000 ≤ k) :
    spec_FirstRopePlan.l0 k T (n : Int) r.l0 r.l1 r.l2 r.e0 r.e1 r.e2 = (match planAt T r n with
      | some p => some (p, true)
      | none => Z) := by
  obtain ⟨k, rfl⟩ : ∃ j, k = j + 1 + 1 := ⟨k - 2, by omega⟩
  have hG := l5Good_eq (k - 2) r
  rw [show k - 2 + 3 = k + 1 by omega] at hG
  have hlen : (plansA n r).length ≤ 19683 := by
    have h1 := plans_len n r
    have : n = 0 ∨ n = 1 ∨ n = 2 ∨ n = 3 := by omega
    rcases this with rfl | rfl | rfl | rfl <;> simp at h1 ⊢ <;> omega
  have hf : fuel n ≤ 21154 := by
    have : n = 0 ∨ n = 1 ∨ n = 2 ∨ n = 3 := by omega
    rcases this with rfl | rfl | rfl | rfl <;> decide
  rw [spec_FirstRopePlan.l0, if_pos (by omega), hG, Option.bind_some, g, spec_FirstRopePlan.j1, if_pos rfl, plans_eq n r k ((goodB_iff r).1 g) hn (by omega), Option.bind_some]
  dsimp only
  unfold planAt
  generalize plansA n r = L at hlen ⊢
  have loop : ∀ (m : List (List S22 × Int)) (j k : Nat), L.drop j = m → K + m.length + 1 ≤ k →
      spec_FirstRopePlan.l1 k T (n : Int) (L.map (·.1)) (L.map (·.2)) (j : Int) r.l0 r.l1 r.l2 r.e0 r.e1 r.e2 = (match (m.find? (fun y => y.2 == T)).map (·.1) with
        | some p => some (p, true)
        | none => Z) := by
    intro m
    induction m with
    | nil =>
      intro j k hd hk
      obtain ⟨k, rfl⟩ : ∃ j, k = j + 1 := ⟨k - 1, by omega⟩
      have := drop_nil hd
      rw [spec_FirstRopePlan.l1, if_neg (by rw [List.length_map]; omega), wrS n (by omega)]
      exact hZ k (by rw [List.length_nil] at hk; omega)
    | cons y m ih =>
      intro j k hd hk
      rw [List.length_cons] at hk
      obtain ⟨k, rfl⟩ : ∃ j, k = j + 1 := ⟨k - 1, by omega⟩
      obtain ⟨hy, hd', hj⟩ := drop_cons hd
      have r1 : (L.map (·.1))[j]? = some y.1 := by rw [List.getElem?_map, hy]; rfl
      have r2 : (L.map (·.2))[j]? = some y.2 := by rw [List.getElem?_map, hy]; rfl
      rw [spec_FirstRopePlan.l1, if_pos (by rw [List.length_map]; omega), if_pos (by omega), if_pos (by rw [List.length_map]; omega), rdL _ _ _ r1, rdI _ _ _ r2, List.find?_cons]
      by_cases ht : y.2 = T
      · rw [if_pos ht, beq_iff_eq.2 ht]
        rfl
      · rw [if_neg ht, beq_eq_false_iff_ne.2 ht, wrS j (by omega)]
        exact ih (j + 1) k hd' (by omega)
  exact loop L 0 k rfl (by omega)
theorem firstRope_s (r : Rp) (T : Int) (k : Nat) (hk : 200000 ≤ k) : spec_FirstRopePlan.f k r.l0 r.l1 r.l2 r.e0 r.e1 r.e2 T = some (if goodB r = true then ((outB (planA T r)).2, (outB (planA T r)).1) else ([], false)) := by
  unfold spec_FirstRopePlan.f
  by_cases hg : goodB r = true
  · have z4 : ∀ k, 10 ≤ k → spec_FirstRopePlan.l0 k T ((3 + 1 : Nat) : Int) r.l0 r.l1 r.l2 r.e0 r.e1 r.e2 = some ([], false) := fun k hk => by
      obtain ⟨k, rfl⟩ : ∃ j, k = j + 2 := ⟨k - 2, by omega⟩
      exact l0_4 k r T
    have z3 := fun k hk => l0_step r hg T 3 10 (by decide) _ z4 k hk
    have z2 := fun k hk => l0_step r hg T 2 _ (by decide) _ z3 k hk
    have z1 := fun k hk => l0_step r hg T 1 _ (by decide) _ z2 k hk
    have z0 := l0_step r hg T 0 _ (by decide) _ z1 k (by omega)
    refine Eq.trans z0 ?_
    rw [if_pos hg]
    unfold planA
    cases planAt T r 0 with
    | some p => rfl
    | none =>
      cases planAt T r 1 with
      | some p => rfl
      | none =>
        cases planAt T r 2 with
        | some p => rfl
        | none =>
          cases planAt T r 3 with
          | some p => rfl
          | none => rfl
  · obtain ⟨k, rfl⟩ : ∃ j, k = j + 1 + 1 := ⟨k - 2, by omega⟩
    have hG := l5Good_eq (k - 2) r
    rw [show k - 2 + 3 = k + 1 by omega] at hG
    have hgf : goodB r = false := by simpa using hg
    rw [spec_FirstRopePlan.l0, if_pos (by decide), hG, Option.bind_some, hgf, spec_FirstRopePlan.j1, if_neg Bool.false_ne_true, if_neg Bool.false_ne_true]
theorem planA_len {T : Int} {r : Rp} (g : r.good) : (outB (planA T r)).2.length ≤ 3 := by
  have c : ∀ n p, planAt T r n = some p → p.length = n := fun n p h => by
    unfold planAt at h
    obtain ⟨y, h1, rfl⟩ := Option.map_eq_some_iff.1 h
    exact (plans_time g (List.mem_of_find?_eq_some h1)).2.2
  unfold planA
  cases h0 : planAt T r 0 with
  | some p => have := c 0 p h0; show p.length ≤ 3; omega
  | none =>
    cases h1 : planAt T r 1 with
    | some p => have := c 1 p h1; show p.length ≤ 3; omega
    | none =>
      cases h2 : planAt T r 2 with
      | some p => have := c 2 p h2; show p.length ≤ 3; omega
      | none =>
        cases h3 : planAt T r 3 with
        | some p => have := c 3 p h3; show p.length ≤ 3; omega
        | none => show (0 : Nat) ≤ 3; omega
end Go.Proofs.Ythoblgccnkjnoaa.Pure
