/- ChainCandles: the program's list is the reference's, and it holds nothing of its argument. Conditions: none. -/
import Derived.Test.YtkefphfjeodgnaaVChainCanCandList
import Derived.Test.YtkefphfjeodgnaaVChainCanListsB
set_option linter.unusedVariables false
set_option linter.unusedSimpArgs false
namespace Go.Proofs.Ytkefphfjeodgnaa.Pure
open Go.RowKit Go.Proofs.Ytkefphfjeodgnaa.PA Go.Proofs.Ytkefphfjeodgnaa.PL Go.Proofs.YtkefphfjeodgnaaW.PrintWords Go.Proofs.YtkefphfjeodgnaaW.PrintLast Go.Proofs.YtkefphfjeodgnaaW.PrintMore
theorem out_bd' {a b c : Int} (h : Cand a b c) : 0 ≤ (cut (c * b + a) b).1 ∧ (cut (c * b + a) b).1 ≤ 1287 ∧ 0 < (cut (c * b + a) b).2 ∧ (cut (c * b + a) b).2 ≤ 12 := by
  obtain ⟨⟨a1, a2⟩, ⟨b1, b2⟩, c1, c2⟩ := h
  have h1 := mul_bd (a := c) (b := b) (A := 99) (B := 12) (by omega) (by omega) (by omega) (by omega)
  have p1 := cut_pos (a := c * b + a) (b := b) (by omega)
  have p2 := cut_le (c * b + a) b (by omega)
  have p3 := cut_nonneg (a := c * b + a) (b := b) (by omega) (by omega)
  have p4 := cut_le1 (a := c * b + a) (b := b) (by omega) (by omega)
  omega
/-- The whole hour at or after a time. -/
def hour (p : Int × Int) : Int := wrap64 (Int.tdiv (wrap64 ((wrap64 (p.1 + p.2)) - 1)) p.2)
theorem hour_nonneg {p : Int × Int} (h0 : 0 ≤ p.1) (h1 : p.1 ≤ 1287) (h2 : 0 < p.2) (h3 : p.2 ≤ 12) : 0 ≤ hour p := by
  unfold hour
  rw [wr (n := p.1 + p.2) (by omega) (by omega), wr (n := p.1 + p.2 - 1) (by omega) (by omega), Int.tdiv_eq_ediv_of_nonneg (by omega)]
  have e1 : 0 ≤ (p.1 + p.2 - 1) / p.2 := Int.ediv_nonneg (by omega) (by omega)
  have e2 : (p.1 + p.2 - 1) / p.2 ≤ p.1 + p.2 - 1 := Int.ediv_le_self _ (by omega)
  rw [wr (by omega) (by omega)]
  exact e1
theorem chain_go {xs : List S25} (hg : good xs = true) : ∀ (d i : Nat) (acc : List S25), xs.length = i + 1 + d → acc.length = i + 1 → (∀ x ∈ acc, Cand x.f0 x.f1 x.f2) →
    ∃ r, r.1.length ≤ xs.length ∧ ∀ k1 k2, BIG + d + 2 < k1 → BIG + d + 2 < k2 → spec_ChainCandles.l0 k1 xs acc ((i + 1 : Nat) : Int) = some r ∧ impl_ChainCandles.l0 k2 (acc ++ xs.drop (i + 1)) ((i + 1 : Nat) : Int) = some r := by
  have hl := good_len hg
  intro d
  induction d with
  | zero =>
    intro i acc h1 h2 hc
    refine ⟨(acc, true), by simp only; omega, ?_⟩
    intro k1 k2 hk1 hk2
    obtain ⟨k1, rfl⟩ : ∃ m, k1 = m + 1 := ⟨k1 - 1, by omega⟩
    obtain ⟨k2, rfl⟩ : ∃ m, k2 = m + 1 := ⟨k2 - 1, by omega⟩
    rw [List.drop_eq_nil_of_le (by omega), List.append_nil]
    simp only [spec_ChainCandles.l0, impl_ChainCandles.l0]
    rw [if_neg (by omega), if_neg (by omega)]
    exact ⟨rfl, rfl⟩
  | succ d ih =>
    intro i acc h1 h2 hc
    obtain ⟨x, hxx⟩ := at_lt (xs := xs) (i := i + 1) (by omega)
    obtain ⟨p, hp⟩ := at_lt (xs := acc) (i := i) (by omega)
    have hd : xs.drop (i + 1) = x :: xs.drop (i + 1 + 1) := by
      rw [List.drop_eq_getElem_cons (by omega)]
      rw [List.getElem?_eq_getElem (by omega)] at hxx
      cases hxx; rfl
    have hx := good_at hg hxx
    have hpc := hc p (List.mem_of_getElem? hp)
    have hb := out_bd' hpc
    have hh := hour_nonneg hb.1 hb.2.1 hb.2.2.1 hb.2.2.2
    have hd2 : ¬ (cut (p.f2 * p.f1 + p.f0) p.f1).2 = 0 := by omega
    have e1 : wrap64 (((i + 1 : Nat) : Int) - 1) = (i : Int) := by rw [wr (by omega) (by omega)]; omega
    have ys_len : (acc ++ xs.drop (i + 1)).length = xs.length := by simp; omega
    have rp : rd_T25 acc i = p := rd_at hp
    have rp' : rd_T25 (acc ++ xs.drop (i + 1)) i = p := rd_at (by rw [List.getElem?_append_left (by omega)]; exact hp)
    have rx : rd_T25 xs ((i + 1 : Nat) : Int) = x := rd_at hxx
    have rx' : rd_T25 (acc ++ xs.drop (i + 1)) ((i + 1 : Nat) : Int) = x := rd_at (by rw [List.getElem?_append_right (by omega), h2, Nat.sub_self, hd]; rfl)
    have hset : ∀ v : S25, (acc ++ xs.drop (i + 1)).set ((i + 1 : Nat) : Int).toNat v = (acc ++ [v]) ++ xs.drop (i + 1 + 1) := by
      intro v
      rw [show ((i + 1 : Nat) : Int).toNat = i + 1 from by omega, hd, List.set_append_right _ _ (by omega), h2, Nat.sub_self, List.set_cons_zero, List.append_assoc]
      rfl
    have rv : ∀ v : S25, rd_T25 ((acc ++ [v]) ++ xs.drop (i + 1 + 1)) ((i + 1 : Nat) : Int) = v := by
      intro v
      refine rd_at ?_
      rw [List.getElem?_append_left (by simp; omega), List.getElem?_append_right (by omega), h2, Nat.sub_self]
      rfl
    by_cases h99 : hour (cut (p.f2 * p.f1 + p.f0) p.f1) ≤ 99
    · have hcand : Cand x.f0 x.f1 (hour (cut (p.f2 * p.f1 + p.f0) p.f1)) := ⟨hx.1, hx.2.1, hh, h99⟩
      obtain ⟨r, hr, hf⟩ := ih (i + 1) (acc ++ [(⟨x.f0, x.f1, hour (cut (p.f2 * p.f1 + p.f0) p.f1)⟩ : S25)]) (by omega) (by simp; omega) (by
        intro y hy
        rcases List.mem_append.1 hy with h | h
        · exact hc y h
        · rw [List.mem_singleton] at h; subst h; exact hcand)
      refine ⟨r, hr, ?_⟩
      intro k1 k2 hk1 hk2
      obtain ⟨k1, rfl⟩ : ∃ m, k1 = m + 1 := ⟨k1 - 1, by omega⟩
      obtain ⟨k2, rfl⟩ : ∃ m, k2 = m + 1 := ⟨k2 - 1, by omega⟩
      obtain ⟨f1, f2⟩ := hf k1 k2 (by omega) (by omega)
      constructor
      · simp only [spec_ChainCandles.l0]
        rw [if_pos (by omega), if_pos (by omega), if_pos (by omega), e1, if_pos (by omega), if_pos (by omega), rp, specOut_ok (by omega) hpc, Option.bind_some, if_neg hd2, rx]
        rw [show wrap64 (Int.tdiv (wrap64 (wrap64 ((cut (p.f2 * p.f1 + p.f0) p.f1).1 + (cut (p.f2 * p.f1 + p.f0) p.f1).2) - 1)) (cut (p.f2 * p.f1 + p.f0) p.f1).2) = hour (cut (p.f2 * p.f1 + p.f0) p.f1) from rfl]
        rw [cand_ok, Option.bind_some, if_pos (decide_eq_true hcand), if_pos (by omega), wrS (i + 1) (by omega)]
        exact f1
      · simp only [impl_ChainCandles.l0]
        rw [if_pos (by omega), e1, if_pos (by omega), if_pos (by omega), rp', implOut_ok (by omega) hpc, Option.bind_some, if_neg hd2, if_pos (by omega), rx', hset, Option.bind_some, rv]
        rw [show wrap64 (Int.tdiv (wrap64 (wrap64 ((cut (p.f2 * p.f1 + p.f0) p.f1).1 + (cut (p.f2 * p.f1 + p.f0) p.f1).2) - 1)) (cut (p.f2 * p.f1 + p.f0) p.f1).2) = hour (cut (p.f2 * p.f1 + p.f0) p.f1) from rfl]
        rw [if_neg (by simp only; omega), wrS (i + 1) (by omega)]
        exact f2
    · refine ⟨([], false), by simp, ?_⟩
      intro k1 k2 hk1 hk2
      obtain ⟨k1, rfl⟩ : ∃ m, k1 = m + 1 := ⟨k1 - 1, by omega⟩
      obtain ⟨k2, rfl⟩ : ∃ m, k2 = m + 1 := ⟨k2 - 1, by omega⟩
      constructor
      · simp only [spec_ChainCandles.l0]
        rw [if_pos (by omega), if_pos (by omega), if_pos (by omega), e1, if_pos (by omega), if_pos (by omega), rp, specOut_ok (by omega) hpc, Option.bind_some, if_neg hd2, rx]
        rw [show wrap64 (Int.tdiv (wrap64 (wrap64 ((cut (p.f2 * p.f1 + p.f0) p.f1).1 + (cut (p.f2 * p.f1 + p.f0) p.f1).2) - 1)) (cut (p.f2 * p.f1 + p.f0) p.f1).2) = hour (cut (p.f2 * p.f1 + p.f0) p.f1) from rfl]
        rw [cand_ok, Option.bind_some, if_neg (by rw [decide_eq_true_eq]; intro h; exact h99 h.2.2.2)]
      · simp only [impl_ChainCandles.l0]
        rw [if_pos (by omega), e1, if_pos (by omega), if_pos (by omega), rp', implOut_ok (by omega) hpc, Option.bind_some, if_neg hd2, if_pos (by omega), rx', hset, Option.bind_some, rv]
        rw [show wrap64 (Int.tdiv (wrap64 (wrap64 ((cut (p.f2 * p.f1 + p.f0) p.f1).1 + (cut (p.f2 * p.f1 + p.f0) p.f1).2) - 1)) (cut (p.f2 * p.f1 + p.f0) p.f1).2) = hour (cut (p.f2 * p.f1 + p.f0) p.f1) from rfl]
        rw [if_pos (by simp only; omega)]
theorem chain_ok {ys : List S25} (hm : ys.length ≤ 1048576) : ∃ r : List S25 × Bool, r.1.length ≤ ys.length ∧ ∀ k, BIG + ys.length + 1000000 < k → spec_ChainCandles.f k ys = some r ∧ impl_ChainCandles.f k ys = some r := by
  by_cases hg : good ys = true
  · have hl := good_len hg
    obtain ⟨x, hxx⟩ := at_lt (xs := ys) (i := 0) (by omega)
    have hx := good_at hg hxx
    have hd : ys = x :: ys.drop 1 := by
      rw [List.getElem?_eq_getElem (by omega)] at hxx
      cases hxx
      exact (List.drop_zero (l := ys)).symm.trans (List.drop_eq_getElem_cons (by omega))
    obtain ⟨r, hr, hf⟩ := chain_go hg (ys.length - 1) 0 [x] (by omega) (by simp) (by intro y hy; rw [List.mem_singleton] at hy; subst hy; exact hx)
    refine ⟨r, hr, ?_⟩
    intro k hk
    unfold spec_ChainCandles.f impl_ChainCandles.f impl_Candle_115.f
    rw [specList_ok (by have := BIG_le; omega), implList_ok (by omega) (by omega)]
    simp only [Option.bind_some, hg, if_true, List.length_nil, List.nil_append]
    rw [if_pos (by omega), Option.bind_some]
    obtain ⟨k, rfl⟩ : ∃ m, k = m + 1 := ⟨k - 1, by omega⟩
    obtain ⟨f1, f2⟩ := hf k (k + 1) (by omega) (by omega)
    constructor
    · simp only [spec_ChainCandles.l0]
      have rx : rd_T25 ys 0 = x := rd_at (i := 0) hxx
      rw [if_pos (by omega), if_pos (by omega), if_neg (by omega), rx, cand_ok, Option.bind_some, if_pos (decide_eq_true hx), if_pos (by simp), show wrap64 (0 + 1) = ((0 + 1 : Nat) : Int) from wr (by omega) (by omega)]
      exact f1
    · have : [x] ++ ys.drop (0 + 1) = ys := hd.symm
      rw [this] at f2
      exact f2
  · refine ⟨([], false), by simp, ?_⟩
    intro k hk
    unfold spec_ChainCandles.f impl_ChainCandles.f
    rw [specList_ok (by have := BIG_le; omega), implList_ok (by omega) (by omega)]
    simp only [Option.bind_some, hg, if_false]
    exact ⟨rfl, rfl⟩
theorem FnExactChainCandles : laws_FnExactChainCandles.Pure := by
  intro xs _ hxs
  unfold laws_FnExactChainCandles.f
  by_cases hx : xs.length ≤ 1048576
  · obtain ⟨n, hn⟩ := szCandleS_ex xs
    have hm : (xs.map convCandle).length ≤ 1048576 := by simpa using hx
    have ht : ∀ k, xs.length < k → laws_toCandleS.f k xs = some (xs.map convCandle) := fun k hk => toCandleS_ok hx hk
    have hll : (xs.map convCandle).length = xs.length := by simp
    generalize xs.map convCandle = ys at *
    obtain ⟨r, hr, hf⟩ := chain_ok hm
    have hs : ∀ k, BIG + ys.length + 1000000 < k → spec_ChainCandles.f k ys = some r := fun k hk => (hf k hk).1
    have hi : ∀ k, BIG + ys.length + 1000000 < k → impl_ChainCandles.f k ys = some r := fun k hk => (hf k hk).2
    generalize BIG = B at *
    obtain ⟨K, hK⟩ : ∃ K, K = B + ys.length + 3000000 := ⟨_, rfl⟩
    refine ⟨K + 1 + 1 + 1, ?_⟩
    rw [hn, Option.bind_some]
    split
    · rfl
    · rw [ht _ (by omega), Option.bind_some, hs _ (by omega), Option.bind_some, Option.bind_some, hi _ (by omega), Option.bind_some, eqCandleS_self (by omega) (by omega), Option.bind_some, if_pos rfl]
      simp only [laws_FnExactChainCandles.j0, bne_self_eq_false, Bool.false_eq_true, if_false]
      rw [ht _ (by omega), Option.bind_some, eqCandleS_self (by omega) (by omega), Option.bind_some, if_pos rfl, markCandleS_ok (by omega) (by omega), Option.bind_some, if_neg (by simp only; omega),
        eqCandleS_self (by omega) (by omega), Option.bind_some, if_pos rfl]
      simp only [laws_FnExactChainCandles.j1, Bool.false_eq_true, if_false]
      rw [markCandleS_ok (by omega) (by omega), Option.bind_some]
      simp only
      rw [heldCandleS_ok (by omega) (by omega), Option.bind_some, if_neg (by omega), if_pos rfl, ht _ (by omega), Option.bind_some, hi _ (by omega), Option.bind_some]
      rw [eqCandleS_self (by omega) (by omega), Option.bind_some, if_pos rfl]
      simp only [laws_FnExactChainCandles.j2, bne_self_eq_false, Bool.false_eq_true, if_false]
      rw [heldCandleS_ok (by omega) (by omega), Option.bind_some, if_neg (by omega), if_pos rfl]
  · refine ⟨1, ?_⟩
    rw [szCandleS_far (by omega) hxs]
    rfl
end Go.Proofs.Ytkefphfjeodgnaa.Pure
