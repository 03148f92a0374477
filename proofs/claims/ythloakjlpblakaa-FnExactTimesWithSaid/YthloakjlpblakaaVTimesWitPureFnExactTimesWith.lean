/- TimesWith: the program's list of times is the reference's, for all numbers. Conditions: none. -/
import Derived.Test.YthloakjlpblakaaVTimesWitChkH
import Derived.Test.YthloakjlpblakaaVTimesWitListsH
set_option linter.unusedVariables false
set_option linter.unusedSimpArgs false
namespace Go.Proofs.Ythloakjlpblakaa.Pure
open Go.RowKit Go.Proofs.Ythloakjlpblakaa.PH Go.Proofs.Ythloakjlpblakaa.PL Go.Proofs.YthloakjlpblakaaW.PrintWords Go.Proofs.YthloakjlpblakaaW.PrintLast Go.Proofs.YthloakjlpblakaaW.PrintMore
def s27 (x : S54) : S27 := ⟨x.f0.f0, x.f0.f1⟩
theorem up_le {α : Type} {f : Nat → Option α} (hm : ∀ k, LeO (f k) (f (k + 1))) {j k : Nat} (h : j ≤ k) {r : α} (e : f j = some r) : f k = some r := by
  induction h with
  | refl => exact e
  | step _ ih => exact hm _ _ ih
theorem table_up {n : Nat} {T : List (List S54)} (e : spec_l6Table.f 4000 n = some T) {k : Nat} (h : 4000 ≤ k) : spec_l6Table.f k n = some T := up_le (f := fun k => spec_l6Table.f k n) (spec_l6Table.mono n) h e
theorem ropes_yes {n : Nat} (h : n ≤ 8) : spec_l6Ropes.f n = some true := by
  unfold spec_l6Ropes.f spec_l1In.f
  rw [if_pos (by omega), decide_eq_true (by omega)]
  rfl
theorem ropes_no {a : Int} (h : ¬ (0 ≤ a ∧ a ≤ 8)) : spec_l6Ropes.f a = some false := by
  unfold spec_l6Ropes.f spec_l1In.f
  by_cases h0 : a ≥ 0
  · rw [if_pos h0, decide_eq_false (by omega)]; rfl
  · rw [if_neg h0]; rfl
theorem chkL_get {n : Nat} {o : List (List PB.FT)} {T : List (List S54)} (h : chkL n o T = true) : (∃ l ts, o[n]? = some l ∧ T[n]? = some ts ∧ PB.timesL l = some (tms ts)) ∧ T.length = n + 1 ∧ PB.timesL o.flatten = some (unionU T) ∧ (unionU T).Pairwise PB.ltP ∧ (∀ x, x ∈ tms T.flatten ↔ x ∈ unionU T) ∧ (∀ l ∈ T, l.length ≤ 1000) ∧ (∀ x ∈ tms T.flatten, PB.SmF x) ∧ o.flatten.length ≤ 1000000 := by
  unfold chkL at h
  rw [Bool.and_eq_true, Bool.and_eq_true, Bool.and_eq_true, Bool.and_eq_true, Bool.and_eq_true, Bool.and_eq_true, beq_iff_eq] at h
  obtain ⟨h1, h2, h3, h4, h5, h6, h7⟩ := h
  refine ⟨?_, h2, PB.okL_ok h3, PB.strictB_ok h4, PB.sameB_ok h5, fun l hl => of_decide_eq_true (List.all_eq_true.1 h6 l hl), fun x hx => PB.smB_ok (List.all_eq_true.1 h7 x hx), ?_⟩
  · split at h1
    · rename_i l ts e1 e2
      exact ⟨l, ts, e1, e2, PB.okL_ok h1⟩
    · cases h1
  · unfold PB.okL at h3
    simp only [Bool.and_eq_true, decide_eq_true_eq] at h3
    exact h3.1.2
theorem tw_loop {l : List S54} (hl : l.length ≤ 1000) : ∀ (d k i : Nat) (out : List S27), i + d = l.length → out.length ≤ i → d < k → spec_TimesWith.l0 k out l (i : Int) = some (out ++ (l.drop i).map s27, true)
  | 0, k, i, out, h, ho, hk => by
    obtain ⟨k, rfl⟩ : ∃ j, k = j + 1 := ⟨k - 1, by omega⟩
    simp only [spec_TimesWith.l0]
    rw [if_neg (by omega), List.drop_eq_nil_of_le (by omega)]
    simp
  | d + 1, k, i, out, h, ho, hk => by
    obtain ⟨k, rfl⟩ : ∃ j, k = j + 1 := ⟨k - 1, by omega⟩
    obtain ⟨x, hx⟩ := at_lt (xs := l) (i := i) (by omega)
    have hd : l.drop i = x :: l.drop (i + 1) := by
      rw [List.drop_eq_getElem_cons (by omega)]
      rw [List.getElem?_eq_getElem (by omega)] at hx
      rw [Option.some.inj hx]
    have hrd : rd_T54 l (i : Int) = x := by simp [rd_T54, hx]
    simp only [spec_TimesWith.l0]
    rw [if_pos (by omega), if_pos (by omega), if_pos (by omega), wrS i (by omega), hrd, tw_loop hl d k (i + 1) _ (by omega) (by simp; omega) (by omega), hd]
    simp [s27]
theorem times_both (a : Int) : ∃ r : List S27 × Bool, r.1.length ≤ 1000 ∧ ∀ k, 6000 ≤ k → spec_TimesWith.f k a = some r ∧ impl_TimesWith.f k a = some r := by
  by_cases ha : 0 ≤ a ∧ a ≤ 8
  · obtain ⟨n, rfl⟩ : ∃ n : Nat, a = (n : Int) := ⟨a.toNat, by omega⟩
    obtain ⟨o, T, h1, h2, h3⟩ := chk_get n (by omega)
    obtain ⟨⟨l, ts, e1, e2, e3⟩, hT, _, _, _, h6, _⟩ := chkL_get h3
    have htl := h6 ts (List.mem_of_getElem? e2)
    refine ⟨(ts.map s27, true), by simpa using htl, fun k hk => ⟨?_, ?_⟩⟩
    · have hrd : rd_L4 T (n : Int) = ts := by simp [rd_L4, e2]
      unfold spec_TimesWith.f
      rw [Option.bind_some, ropes_yes (by omega), Option.bind_some, if_pos rfl, table_up h2 (by omega), Option.bind_some, if_pos (by omega), if_pos (by omega), hrd]
      have := tw_loop htl ts.length k 0 [] (by omega) (by simp) (by omega)
      simpa using this
    · unfold impl_TimesWith.f PB.timesF
      rw [if_pos ha, Int.toNat_natCast, h1, Option.bind_some, e1, Option.bind_some, e3]
      simp [tms, tmS, s27]
  · refine ⟨([], false), by simp, fun k hk => ⟨?_, ?_⟩⟩
    · unfold spec_TimesWith.f
      rw [Option.bind_some, ropes_no ha, Option.bind_some, if_neg (by decide)]
    · unfold impl_TimesWith.f PB.timesF
      rw [if_neg ha]
      rfl
theorem FnExactTimesWith : laws_FnExactTimesWith.Pure := by
  intro a _
  obtain ⟨r, hl, hb⟩ := times_both a
  have hs := fun k hk => (hb k hk).1
  have hi := fun k hk => (hb k hk).2
  refine ⟨6000 + 2000 + 1 + 1, ?_⟩
  unfold laws_FnExactTimesWith.f
  rw [hs _ (by omega), Option.bind_some, hi _ (by omega), Option.bind_some, eqIntA2S_self (by omega) (by omega), Option.bind_some, if_pos rfl]
  simp only [laws_FnExactTimesWith.j0, bne_self_eq_false, Bool.false_eq_true, if_false]
  rw [markIntA2S_ok (by omega) (by omega), Option.bind_some]
  simp only
  rw [heldIntA2S_ok (by omega) (by omega), Option.bind_some, if_neg (by omega), if_pos rfl, hi _ (by omega), Option.bind_some]
  rw [eqIntA2S_self (by omega) (by omega), Option.bind_some, if_pos rfl]
  simp only [laws_FnExactTimesWith.j1, bne_self_eq_false, Bool.false_eq_true, if_false]
  rw [heldIntA2S_ok (by omega) (by omega), Option.bind_some, if_neg (by omega), if_pos rfl]
end Go.Proofs.Ythloakjlpblakaa.Pure
