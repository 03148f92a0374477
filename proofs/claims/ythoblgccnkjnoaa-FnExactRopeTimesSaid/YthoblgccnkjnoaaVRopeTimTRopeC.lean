/- What the program tells, and what the reference plans. Conditions: those each lemma names. -/
import Derived.Test.YthoblgccnkjnoaaVRopeTimTRopeB
set_option linter.unusedVariables false
set_option linter.unusedSimpArgs false
namespace Go.Proofs.Ythoblgccnkjnoaa.Pure
open Go.RowKit Go.Proofs.Ythoblgccnkjnoaa.PT Go.Proofs.Ythoblgccnkjnoaa.PL Go.Proofs.YthoblgccnkjnoaaW.PrintWords Go.Proofs.YthoblgccnkjnoaaW.PrintLast Go.Proofs.YthoblgccnkjnoaaW.PrintMore

theorem rd_LIT {i : Nat} {x : S22} (h : LIT[i]? = some x) : rd_T22 LIT (i : Int) = x := by
  unfold rd_T22
  rw [Int.toNat_natCast, List.getD_eq_getElem?_getD, h]; rfl
theorem drop_cons {α : Type} {l ls : List α} {i : Nat} {x : α} (h : l.drop i = x :: ls) : l[i]? = some x ∧ l.drop (i + 1) = ls ∧ i < l.length := by
  have h1 : (l.drop i)[0]? = some x := by rw [h]; rfl
  rw [List.getElem?_drop, Nat.add_zero] at h1
  refine ⟨h1, ?_, lt_of h1⟩
  rw [← List.drop_drop, h]; rfl
theorem drop_nil {α : Type} {l : List α} {i : Nat} (h : l.drop i = []) : l.length ≤ i := by
  have := congrArg List.length h
  rw [List.length_drop, List.length_nil] at this; omega
theorem clone_eq (p : List S22) (h : p.length ≤ 1000) : slices_Clone_3_int_3_int.f p = some p := by
  unfold slices_Clone_3_int_3_int.f
  rw [Option.bind_some, if_pos (by rw [List.length_nil]; omega), List.nil_append]
/-- The program tells all events. -/
theorem each_eq : ∀ (N : Nat) (r : Rp) (t : Int) (p : List S22) (k : Nat), r.good → r.alive < N → 0 ≤ t → t + 3840 * N ≤ 1000000 → p.length + N ≤ 100 → 100 * N ≤ k →
    each_f k r.l0 r.l1 r.l2 r.e0 r.e1 r.e2 t p = some (evsA N r t p)
  | 0, _, _, _, _, _, h, _, _, _, _ => absurd h (Nat.not_lt_zero _)
  | N + 1, r, t, p, k, g, ha, ht, ht2, hp, hk => by
    obtain ⟨k, rfl⟩ : ∃ j, k = j + 1 := ⟨k - 1, by omega⟩
    rw [each_f, lightings_eq (by omega), Option.bind_some]
    have loop : ∀ (ls : List S22) (i : Nat) (k : Nat), LIT.drop i = ls → 2 * ls.length + 100 * N + 10 ≤ k →
        each_l0 k t p LIT (LIT.length : Int) (i : Int) r.l0 r.l1 r.l2 r.e0 r.e1 r.e2 = some (ls.flatMap fun lit => match stepA r lit with
          | none => []
          | some x => evsA N x.1 (t + x.2) (p ++ [lit])) := by
      intro ls
      induction ls with
      | nil =>
        intro i k hd hk
        obtain ⟨k, rfl⟩ : ∃ j, k = j + 1 := ⟨k - 1, by omega⟩
        have := drop_nil hd
        rw [each_l0, if_neg (by omega)]; rfl
      | cons lit ls ih =>
        intro i k hd hk
        rw [List.length_cons] at hk
        obtain ⟨k, rfl⟩ : ∃ j, k = j + 1 + 1 := ⟨k - 2, by omega⟩
        obtain ⟨hx, hd', hi⟩ := drop_cons hd
        have hi27 : i < 27 := hi
        have hL := light_i (k - 2) r lit
        rw [show k - 2 + 3 = k + 1 by omega] at hL
        have ihn := ih (i + 1) k hd' (by omega)
        have hw : wrap64 ((i : Int) + 1) = ((i + 1 : Nat) : Int) := wrS i (by omega)
        have jf : ∀ (d : Int) (x : Rp), each_j1 (k + 1) t p d LIT (LIT.length : Int) (i : Int) false r.l0 r.l1 r.l2 r.e0 r.e1 r.e2 lit.f0 lit.f1 lit.f2 x.l0 x.l1 x.l2 x.e0 x.e1 x.e2 = some (ls.flatMap fun lit => match stepA r lit with
            | none => []
            | some x => evsA N x.1 (t + x.2) (p ++ [lit])) := by
          intro d x
          rw [each_j1, if_neg Bool.false_ne_true, hw]
          exact ihn
        rw [each_l0, if_pos (by omega), if_pos (by omega), if_pos (by omega), rd_LIT hx, List.flatMap_cons]
        clear hw
        have hT : ∀ x : Rp, impl_Ropes_told.f (k + 1) x.l0 x.l1 x.l2 x.e0 x.e1 x.e2 = some (toldA x) := fun x => by
          have := told_i (k - 4) x
          rw [show k - 4 + 5 = k + 1 by omega] at this
          exact this
        cases hl : lightA r lit with
        | none =>
          have hz : impl_Ropes_told.f (k + 1) 0 0 0 0 0 0 = _ := hT ⟨0, 0, 0, 0, 0, 0⟩
          have hL' : impl_Ropes_light.f (k + 1) r.l0 r.l1 r.l2 r.e0 r.e1 r.e2 lit.f0 lit.f1 lit.f2 = some (0, 0, 0, 0, 0, 0, false) := by rw [hL, hl]; rfl
          have hs : stepA r lit = none := by unfold stepA; rw [hl]
          rw [hL', Option.bind_some, hs]
          dsimp only
          rw [hz, Option.bind_some, if_neg Bool.false_ne_true, List.nil_append]
          exact jf _ ⟨0, 0, 0, 0, 0, 0⟩
        | some x =>
          have hL' : impl_Ropes_light.f (k + 1) r.l0 r.l1 r.l2 r.e0 r.e1 r.e2 lit.f0 lit.f1 lit.f2 = some (x.l0, x.l1, x.l2, x.e0, x.e1, x.e2, true) := by rw [hL, hl]; rfl
          rw [hL', Option.bind_some]
          dsimp only
          rw [hT x, Option.bind_some, if_pos rfl]
          by_cases hd0 : toldA x > 0
          · obtain ⟨g', ha', hd1, hd2⟩ := step_good (r' := burnA x (toldA x)) (d := toldA x) (n := lit) g (by unfold stepA; rw [hl]; exact if_pos hd0)
            have hs : stepA r lit = some (burnA x (toldA x), toldA x) := by unfold stepA; rw [hl]; exact if_pos hd0
            rw [decide_eq_true hd0, each_j1, if_pos rfl]
            have hB := burn_i (k - 3) x (toldA x)
            rw [show k - 3 + 3 = k by omega] at hB
            rw [hB, Option.bind_some, clone_eq p (by omega), Option.bind_some, Option.bind_some, if_pos (by rw [List.length_cons, List.length_nil]; omega), hs]
            have hw2 : wrap64 (t + toldA x) = t + toldA x := wr (by omega) (by omega)
            have e := each_eq N (burnA x (toldA x)) (t + toldA x) (p ++ [lit]) k g' (by omega) (by omega) (by push_cast at ht2; omega) (by rw [List.length_append, List.length_cons, List.length_nil]; omega) (by omega)
            dsimp only [out6]
            rw [hw2, e, Option.bind_some, wrS i (by omega), ihn, Option.bind_some]
          · have hs : stepA r lit = none := by unfold stepA; rw [hl]; exact if_neg hd0
            rw [decide_eq_false hd0, hs, List.nil_append]
            exact jf _ x
    have h0 : each_l0 k t p LIT (LIT.length : Int) 0 r.l0 r.l1 r.l2 r.e0 r.e1 r.e2 = _ := loop LIT 0 k rfl (by rw [LIT_len]; omega)
    rw [h0, Option.bind_some]
    rfl
/-- The reference plans them. -/
def fuel : Nat → Nat
  | 0 => 10
  | n + 1 => fuel n + 27 * (27 ^ n + 5) + 100
theorem rdL (x : List (List S22)) (j : Nat) (y : List S22) (h : x[j]? = some y) : rd_L2 x (j : Int) = y := by
  unfold rd_L2
  rw [Int.toNat_natCast, List.getD_eq_getElem?_getD, h]; rfl
theorem rdI (x : List Int) (j : Nat) (y : Int) (h : x[j]? = some y) : rd x (j : Int) = y := by
  unfold rd
  rw [Int.toNat_natCast, List.getD_eq_getElem?_getD, h]; rfl
theorem plans_eq : ∀ (n : Nat) (r : Rp) (k : Nat), r.good → n ≤ 3 → fuel n ≤ k →
    spec_l5Plans.f k r.l0 r.l1 r.l2 r.e0 r.e1 r.e2 (n : Int) = some ((plansA n r).map (·.1), (plansA n r).map (·.2))
  | 0, r, k, g, hn, hk => by
    obtain ⟨k, rfl⟩ : ∃ j, k = j + 1 := ⟨k - 1, by unfold fuel at hk; omega⟩
    rw [spec_l5Plans.f]
    rfl
  | n + 1, r, k, g, hn, hk => by
    rw [fuel] at hk
    have h27 : 27 ^ n ≤ 729 := by
      have : n = 0 ∨ n = 1 ∨ n = 2 := by omega
      rcases this with rfl | rfl | rfl <;> decide
    have h1n : 1 ≤ 27 ^ n := by
      have : n = 0 ∨ n = 1 ∨ n = 2 := by omega
      rcases this with rfl | rfl | rfl <;> decide
    obtain ⟨k, rfl⟩ : ∃ j, k = j + 1 := ⟨k - 1, by omega⟩
    rw [spec_l5Plans.f, Option.bind_some, Option.bind_some, if_neg (by push_cast; omega), l5Lit_eq (by omega), Option.bind_some]
    have loop : ∀ (ls : List S22) (i : Nat) (k : Nat) (x6 : List (List S22)) (x7 : List Int), LIT.drop i = ls → ls.length * (27 ^ n + 5) + fuel n + 10 ≤ k → x7.length = x6.length → x6.length + ls.length * 27 ^ n ≤ 100000 →
        spec_l5Plans.l0 k ((n + 1 : Nat) : Int) x6 x7 LIT (i : Int) r.l0 r.l1 r.l2 r.e0 r.e1 r.e2 = some (x6 ++ (ls.flatMap fun lit => match stepA r lit with
          | none => []
          | some x => (plansA n x.1).map fun y => (lit :: y.1, x.2 + y.2)).map (·.1), x7 ++ (ls.flatMap fun lit => match stepA r lit with
          | none => []
          | some x => (plansA n x.1).map fun y => (lit :: y.1, x.2 + y.2)).map (·.2)) := by
      intro ls
      induction ls with
      | nil =>
        intro i k x6 x7 hd hk _ _
        obtain ⟨k, rfl⟩ : ∃ j, k = j + 1 := ⟨k - 1, by omega⟩
        have := drop_nil hd
        rw [spec_l5Plans.l0, if_neg (by omega)]
        simp
      | cons lit ls ih =>
        intro i k x6 x7 hd hk h67 hlim
        rw [List.length_cons, Nat.succ_mul] at hk hlim
        obtain ⟨k, rfl⟩ : ∃ j, k = j + 1 + 1 := ⟨k - 2, by omega⟩
        obtain ⟨hx, hd', hi⟩ := drop_cons hd
        have hi27 : i < 27 := hi
        have hL := light_s (k - 2) r lit
        rw [show k - 2 + 3 = k + 1 by omega] at hL
        have jt : ∀ (x : Rp), spec_l5Plans.j1 (k + 1) ((n + 1 : Nat) : Int) x6 x7 LIT (i : Int) true r.l0 r.l1 r.l2 r.e0 r.e1 r.e2 x.l0 x.l1 x.l2 x.e0 x.e1 x.e2 = some (x6 ++ (ls.flatMap fun lit => match stepA r lit with
            | none => []
            | some x => (plansA n x.1).map fun y => (lit :: y.1, x.2 + y.2)).map (·.1), x7 ++ (ls.flatMap fun lit => match stepA r lit with
            | none => []
            | some x => (plansA n x.1).map fun y => (lit :: y.1, x.2 + y.2)).map (·.2)) := by
          intro x
          rw [spec_l5Plans.j1, if_pos rfl, wrS i (by omega)]
          exact ih (i + 1) k x6 x7 hd' (by omega) h67 (by omega)
        rw [spec_l5Plans.l0, if_pos (by rw [LIT_len]; omega), if_pos (by omega), rd_LIT hx, List.flatMap_cons]
        cases hl : lightA r lit with
        | none =>
          have hs : stepA r lit = none := by unfold stepA; rw [hl]
          have hL' : spec_l5Light.f (k + 1) r.l0 r.l1 r.l2 r.e0 r.e1 r.e2 lit.f0 lit.f1 lit.f2 = some (0, 0, 0, 0, 0, 0, false) := by rw [hL, hl]; rfl
          rw [hL', Option.bind_some, hs]
          dsimp only
          rw [if_neg Bool.false_ne_true, List.nil_append]
          exact jt ⟨0, 0, 0, 0, 0, 0⟩
        | some x =>
          obtain ⟨gx, _, _, _⟩ := light_good g hl
          have hT : ∀ k', 5 ≤ k' → spec_l5Next.f k' x.l0 x.l1 x.l2 x.e0 x.e1 x.e2 = some (toldA x) := fun k' hk' => by
            have := next_s (k' - 5) x gx.1.2.2.1 gx.2.1.2.2.1 gx.2.2.2.2.1 (least_all gx).1
            rw [show k' - 5 + 5 = k' by omega] at this
            exact this
          have ht := told_eq gx
          have hL' : spec_l5Light.f (k + 1) r.l0 r.l1 r.l2 r.e0 r.e1 r.e2 lit.f0 lit.f1 lit.f2 = some (x.l0, x.l1, x.l2, x.e0, x.e1, x.e2, true) := by rw [hL, hl]; rfl
          rw [hL', Option.bind_some]
          dsimp only
          rw [if_pos rfl, hT (k + 1) (by omega), Option.bind_some]
          by_cases hd0 : toldA x > 0
          · have hs : stepA r lit = some (burnA x (toldA x), toldA x) := by unfold stepA; rw [hl]; exact if_pos hd0
            obtain ⟨g', ha', hd1, hd2⟩ := step_good g hs
            have e0 : (toldA x == 0) = false := by simp; omega
            have hB := burn_s (k - 3) x (toldA x)
            rw [show k - 3 + 3 = k by omega] at hB
            have hn1 : wrap64 (((n + 1 : Nat) : Int) - 1) = (n : Int) := by rw [wr (by push_cast; omega) (by push_cast; omega)]; push_cast; omega
            rw [e0, spec_l5Plans.j1, if_neg Bool.false_ne_true, hT k (by omega), Option.bind_some, hB, Option.bind_some, hn1]
            dsimp only [out6]
            rw [plans_eq n (burnA x (toldA x)) k g' (by omega) (by omega), Option.bind_some, hs]
            clear hn1 hB e0 jt
            dsimp only
            -- the inner loop
            have hPlen := plans_len n (burnA x (toldA x))
            have hPt : ∀ y ∈ plansA n (burnA x (toldA x)), 0 ≤ y.2 ∧ y.2 ≤ 3840 * n ∧ y.1.length = n := fun y hy => plans_time g' hy
            generalize plansA n (burnA x (toldA x)) = L at hPlen hPt ⊢
            generalize toldA x = d at hd0 hd1 hd2 ⊢
            have inner : ∀ (m : List (List S22 × Int)) (j : Nat) (k' : Nat) (z6 : List (List S22)) (z7 : List Int), L.drop j = m → m.length + 1 + ls.length * (27 ^ n + 5) + fuel n + 10 ≤ k' → z7.length = z6.length → z6.length + m.length + ls.length * 27 ^ n ≤ 100000 →
                spec_l5Plans.l1 k' ((n + 1 : Nat) : Int) z6 z7 LIT (i : Int) d (L.map (·.1)) (L.map (·.2)) (j : Int) r.l0 r.l1 r.l2 r.e0 r.e1 r.e2 = some (z6 ++ (m.map (fun y => (lit :: y.1, d + y.2)) ++ ls.flatMap fun lit => match stepA r lit with
                  | none => []
                  | some x => (plansA n x.1).map fun y => (lit :: y.1, x.2 + y.2)).map (·.1), z7 ++ (m.map (fun y => (lit :: y.1, d + y.2)) ++ ls.flatMap fun lit => match stepA r lit with
                  | none => []
                  | some x => (plansA n x.1).map fun y => (lit :: y.1, x.2 + y.2)).map (·.2)) := by
              intro m
              induction m with
              | nil =>
                intro j k' z6 z7 hdj hk' hz hlim'
                obtain ⟨k', rfl⟩ : ∃ j, k' = j + 1 := ⟨k' - 1, by omega⟩
                have := drop_nil hdj
                rw [spec_l5Plans.l1, if_neg (by rw [List.length_map]; omega), wrS i (by omega), List.map_nil, List.nil_append]
                exact ih (i + 1) k' z6 z7 hd' (by rw [List.length_nil] at hk'; omega) hz (by rw [List.length_nil] at hlim'; omega)
              | cons y m ihm =>
                intro j k' z6 z7 hdj hk' hz hlim'
                rw [List.length_cons] at hk' hlim'
                obtain ⟨k', rfl⟩ : ∃ j, k' = j + 1 := ⟨k' - 1, by omega⟩
                obtain ⟨hy, hdj', hj⟩ := drop_cons hdj
                have hym : y ∈ L := List.mem_of_getElem? hy
                obtain ⟨t1, t2, t3⟩ := hPt y hym
                have r1 : (L.map (·.1))[j]? = some y.1 := by rw [List.getElem?_map, hy]; rfl
                have r2 : (L.map (·.2))[j]? = some y.2 := by rw [List.getElem?_map, hy]; rfl
                have hw1 : wrap64 (d + y.2) = d + y.2 := wr (by omega) (by omega)
                rw [spec_l5Plans.l1, if_pos (by rw [List.length_map]; omega), if_pos (by omega), if_pos (by rw [LIT_len]; omega), rd_LIT hx, Option.bind_some, if_pos (by omega), rdL _ _ _ r1, rdI _ _ _ r2, if_pos (by rw [List.length_cons, List.length_nil]; omega), if_pos (by omega), if_pos (by rw [List.length_map]; omega), if_pos (by omega), hw1]
                clear hw1
                rw [wrS j (by omega)]
                have e := ihm (j + 1) k' (z6 ++ [lit :: y.1]) (z7 ++ [d + y.2]) hdj' (by omega) (by simp [hz]) (by rw [List.length_append, List.length_cons, List.length_nil]; omega)
                refine Eq.trans ?_ (e.trans ?_)
                · rfl
                · simp
            exact inner L 0 k x6 x7 rfl (by omega) h67 (by omega)
          · have hs : stepA r lit = none := by unfold stepA; rw [hl]; exact if_neg hd0
            have e0 : (toldA x == 0) = true := by simp; omega
            rw [e0, hs, List.nil_append]
            exact jt x
    exact loop LIT 0 k [] [] rfl (by rw [LIT_len]; omega) rfl (by rw [LIT_len, List.length_nil]; omega)
end Go.Proofs.Ythoblgccnkjnoaa.Pure
