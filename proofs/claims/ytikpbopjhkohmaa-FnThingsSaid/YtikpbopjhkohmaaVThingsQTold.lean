/- All that laws.FnThings computes is told, for every code that isn't long. Conditions: the code's length and its bytes. -/
import Derived.Test.YtikpbopjhkohmaaVThingsQTell
import Derived.Test.YtikpbopjhkohmaaVThingsQBurn
import Derived.Test.YtikpbopjhkohmaaVThingsQNew
import Derived.Test.YtikpbopjhkohmaaVThingsQDraw
import Derived.Test.YtikpbopjhkohmaaVThingsWalkA
set_option linter.unusedVariables false
set_option linter.unusedSimpArgs false
namespace Go.Proofs.Ytikpbopjhkohmaa.Pure
open Go.RowKit Go.Proofs.Ytikpbopjhkohmaa.PT Go.Proofs.Ytikpbopjhkohmaa.PL Go.Proofs.YtikpbopjhkohmaaW.PrintWords Go.Proofs.YtikpbopjhkohmaaW.PrintLast Go.Proofs.YtikpbopjhkohmaaW.PrintMore
theorem passed_grow {d : Int} (h0 : 0 ≤ d) {x : S45} (h : Thg x) : (passed d x).f2 ≤ x.f2 ∧ (passed d x).f3 ≤ x.f3 := by
  have hr := rate_bd h
  obtain ⟨h1, h2, h3, h4⟩ := h
  have hm : 0 ≤ d * rate x := Int.mul_nonneg h0 hr.1
  unfold passed left
  generalize d * rate x = z at hm
  by_cases hz : x.f2 - z < 0
  · rw [if_pos hz, if_pos rfl]
    exact ⟨by dsimp only; omega, by dsimp only; omega⟩
  · rw [if_neg hz]
    split
    · exact ⟨by dsimp only; omega, by dsimp only; omega⟩
    · exact ⟨by dsimp only; omega, by dsimp only; omega⟩
theorem passed_zero {d : Int} {x : S45} (h : x.f2 ≤ d * rate x) : (passed d x).f2 = 0 := by
  have hl : left d x = 0 := by
    unfold left
    generalize d * rate x = z at h
    split <;> omega
  unfold passed
  rw [if_pos hl]
theorem passed_not {d : Int} {x : S45} (h : d * rate x < x.f2) : (passed d x).f2 ≠ 0 := by
  have hl : left d x ≠ 0 := by
    unfold left
    generalize d * rate x = z at h
    split <;> omega
  unfold passed
  rw [if_neg hl]
  exact hl
theorem rd_map {f : S45 → S45} {xs : List S45} {i : Nat} {x : S45} (h : xs[i]? = some x) : rd_T45 (xs.map f) i = f x := by
  refine rd_at ?_
  rw [List.getElem?_map, h]
  rfl
def outsF (sm ats : List S45) : Nat → Bool
  | 0 => false
  | i + 1 => outsF sm ats i || (runs (rd_T45 sm i) && decide ((rd_T45 ats i).f2 = 0))
theorem outsF_up (sm ats : List S45) {i : Nat} : ∀ n, outsF sm ats i = true → outsF sm ats (i + n) = true
  | 0, h => h
  | n + 1, h => by
    show (outsF sm ats (i + n) || _) = true
    rw [outsF_up sm ats n h, Bool.true_or]
theorem passedAll_good {xs : List S45} (hg : good xs = true) {d : Int} (h0 : 0 ≤ d) (h1 : d ≤ 240) : passedAll xs d = (xs.map (passed d), true) := by
  unfold passedAll
  rw [if_pos ⟨hg, by omega⟩]
  by_cases h : d < 240
  · rw [if_pos h]
  · rw [if_neg h, show d = 240 by omega]
theorem told_ok {l0 : List Int} (h : Cod l0) : ∃ (k : Nat) (V : Go.Proofs.Ytikpbopjhkohmaa.PT.Vals), Go.Proofs.Ytikpbopjhkohmaa.PT.Told k l0 V := by
  obtain ⟨K, hK⟩ : ∃ K, K = BIG + 3000000 := ⟨_, rfl⟩
  have hB : BIG + 5 + 1000000 < K := by omega
  have hK2 : 2000000 ≤ K := by omega
  clear hK
  obtain ⟨K', rfl⟩ : ∃ m, K = m + 2 := ⟨K - 2, by omega⟩
  obtain ⟨list, act, d1, b1⟩ := draw1_ok h (k := K' + 2) (by omega)
  obtain ⟨poss, p1, p2, p3, p4, p5⟩ := possible_tell (k := K' + 2) (by omega) (xs := list) (by omega) (by omega)
  obtain ⟨other, acts, d2, b2, b3⟩ := draw2_ok h (k := K' + 2) (by omega)
  obtain ⟨behind, n, two, ns, a1, a2, a3, a4, a5⟩ := doActs_tell (k := K' + 2) (by omega) (xs := other) (by omega) (by omega) acts
  obtain ⟨sm, d, d3, b4⟩ := draw3_ok h (k := K' + 2) (by omega)
  obtain ⟨q1, q2⟩ := both_ok (k := K' + 2) (by omega) (xs := sm) (by omega) (by omega) d
  obtain ⟨nx, four, n1, n2, n3⟩ := next_tell (k := K' + 2) (by omega) (ys := sm) (by omega)
  obtain ⟨kind, minutes, d4⟩ := draw4_ok h
  obtain ⟨⟨f1, f2, f3, f4, five⟩, w1, w2⟩ := new_ok K' kind minutes
  obtain ⟨lf, l1, l2, l3⟩ := leftMinutes_tell (ys := list) (by omega) (k := K' + 2) (by omega)
  obtain ⟨v, v1, v2⟩ := burnAll_ok (k := K' + 2) (by omega) (ys := list) (by omega)
  have hdl := doneAct_len list act
  have hpl := passedAll_len sm d
  have hll : lf.length ≤ list.length := by
    rcases l1 with rfl | ⟨rfl, _⟩
    · exact Nat.zero_le _
    · rw [List.length_map]
      exact Nat.le_refl _
  refine ⟨K' + 2, ⟨list, (doneAct list act).1, other, behind, sm, (passedAll sm d).1, (passedAll sm nx).1, (passedAll sm (nx - 1)).1, acts, poss, act, (n : Int), d, nx, kind, minutes, f1, f2, f3, f4, v, lf, (doneAct list act).2, good list, two, (passedAll sm d).2, four, five, ns, outsF sm (passedAll sm nx).1⟩, ?_⟩
  have hfour : four = true → passedAll sm nx = (sm.map (passed nx), true) ∧ passedAll sm (nx - 1) = (sm.map (passed (nx - 1)), true) ∧ wrap64 (nx - 1) = nx - 1 := fun e => by
    obtain ⟨g, m0, m1, _⟩ := n3 e
    exact ⟨passedAll_good g (by omega) m1, passedAll_good g (by omega) (by omega), wr (by omega) (by omega)⟩
  exact {
    big := by
      unfold laws_rBig.f
      rw [decide_eq_false (by have := h.1; omega)]
    draw := d1
    do1 := implDoAct_ok (xs := list) (by omega) (by omega) (by omega) act
    do2 := specDoAct_ok (by omega) list act
    eq1 := rThings_self (by dsimp only; omega) (by dsimp only; omega)
    ps1 := p3
    ps2 := p2
    are := implGood_ok (by dsimp only; omega) (by dsimp only; omega)
    ints := rInts_self (by dsimp only; omega) (by dsimp only; omega)
    has := fun e => by
      rw [← p4 e act]
      exact rHas_ok act (by dsimp only; omega) (by dsimp only; omega)
    hasnt := fun e => p5 e act
    draw2 := d2
    acts1 := a2
    acts2 := a1
    eq2 := rThings_self (by dsimp only; omega) (by dsimp only; omega)
    draw3 := d3
    pass1 := q2
    pass2 := q1
    eq3 := rThings_self (by dsimp only; omega) (by dsimp only; omega)
    next1 := n2
    next2 := n1
    draw4 := d4
    new1 := w2
    new2 := w1
    left1 := l3
    left2 := l2
    leftl := fun i h0 h1 => by
      dsimp only at h1 ⊢
      refine ⟨by omega, ?_⟩
      rcases l1 with rfl | ⟨rfl, _⟩
      · simp at h1; omega
      · obtain ⟨j, rfl⟩ := Int.eq_ofNat_of_zero_le h0
        rw [List.length_map] at h1
        obtain ⟨x, hx⟩ := at_lt (show j < list.length by omega)
        have hr : rd_T51 (list.map leftM) (j : Int) = leftM x := by
          have : (list.map leftM)[j]? = some (leftM x) := by
            rw [List.getElem?_map, hx]
            rfl
          simp [rd_T51, this]
        rw [hr, rd_at hx]
        unfold leftM
        dsimp only
        rw [(cut4 x.f2).1]
    leftn := by dsimp only; omega
    all1 := v2
    all2 := v1
    many0 := fun e => by
      obtain ⟨e1, _⟩ := a5 e
      dsimp only
      omega
    now0 := a4
    nows := fun e i hi => by
      obtain ⟨e1, e2, e3⟩ := a5 e
      dsimp only at hi ⊢
      obtain ⟨t1, t2⟩ := e3 i (by omega)
      rw [← t1]
      exact implDoAct_ok (by omega) (by omega) (by omega) _
    eq4 := fun e => by
      obtain ⟨e1, e2, e3⟩ := a5 e
      dsimp only
      rw [Int.toNat_natCast, e2]
      exact rThings_self (by omega) (by omega)
    grow := fun e => by
      dsimp only at e ⊢
      unfold passedAll at e ⊢
      by_cases hc : good sm = true ∧ ¬ d < 0
      · rw [if_pos hc]
        dsimp only
        rw [List.length_map]
        refine ⟨Nat.le_refl _, fun i h0 h1 => ?_⟩
        obtain ⟨j, rfl⟩ := Int.eq_ofNat_of_zero_le h0
        obtain ⟨x, hx⟩ := at_lt (show j < sm.length by omega)
        rw [rd_map hx, rd_at hx]
        exact passed_grow (by split <;> omega) (good_at hc.1 hx)
      · rw [if_neg hc] at e
        cases e
    sml := by dsimp only; omega
    nx1 := fun e => by
      obtain ⟨z1, z2, z3⟩ := hfour e
      dsimp only
      rw [(both_ok (k := K' + 2) (by omega) (xs := sm) (by omega) (by omega) nx).2, z1]
    nx2 := fun e => by
      obtain ⟨z1, z2, z3⟩ := hfour e
      dsimp only
      rw [z3, (both_ok (k := K' + 2) (by omega) (xs := sm) (by omega) (by omega) (nx - 1)).2, z2]
    nxl := fun e => by
      obtain ⟨z1, z2, z3⟩ := hfour e
      dsimp only
      rw [z1, z2, List.length_map, List.length_map]
      exact ⟨rfl, rfl⟩
    out0 := rfl
    outn := fun e => by
      obtain ⟨z1, z2, z3⟩ := hfour e
      obtain ⟨g, m0, m1, ⟨j, x, j2, j3, j4⟩, m3⟩ := n3 e
      dsimp only
      have hT := good_at g j2
      have hj := lt_of j2
      have hs : outsF sm (passedAll sm nx).1 (j + 1) = true := by
        show (outsF sm _ j || _) = true
        rw [z1, rd_at j2, rd_map j2, (runs_rate hT).2 j3, passed_zero (by rw [← j4]; exact (quarters_tell hT j3).2.2.1)]
        simp
      have := outsF_up sm _ (sm.length - (j + 1)) hs
      rw [show j + 1 + (sm.length - (j + 1)) = sm.length by omega] at this
      exact this
    outs_ := fun e i hi => by
      obtain ⟨z1, z2, z3⟩ := hfour e
      obtain ⟨g, m0, m1, _, m3⟩ := n3 e
      dsimp only at hi ⊢
      refine ⟨rfl, fun hr => ?_⟩
      obtain ⟨x, hx⟩ := at_lt (show i < sm.length by omega)
      have hT := good_at g hx
      rw [rd_at hx] at hr
      have hr' := (runs_rate hT).1 hr
      have hq := m3 i x hx hr'
      rw [z2, rd_map hx]
      refine passed_not (Int.lt_of_le_of_lt ?_ (quarters_tell hT hr').2.2.2)
      exact Int.mul_le_mul_of_nonneg_right (by omega) (rate_bd hT).1 }
end Go.Proofs.Ytikpbopjhkohmaa.Pure
