import Derived.Test.YtmhnllcdfjggaaaVOutTogetStepB
namespace Go.Proofs.Ytmhnllcdfjggaaa.TT
open Go.RowKit Go.Proofs.YtmhnllcdfjggaaaW.PrintWords Go.Proofs.YtmhnllcdfjggaaaW.PrintLast Go.Proofs.Ytmhnllcdfjggaaa.PA Go.Proofs.Ytmhnllcdfjggaaa.Mp Go.Proofs.Ytmhnllcdfjggaaa.Lv
set_option linter.unusedVariables false
set_option linter.unusedSimpArgs false
def spotOf (e : S45) : Sp := ⟨e.f1.f0, e.f1.f1, e.f1.f2, e.f1.f3, e.f0⟩
theorem rd45 {l : List S45} {i : Nat} {e : S45} (h : l[i]? = some e) : rd_T45 l (i : Int) = e := by simp [rd_T45, h]
theorem rdI' {l : List Int} {i : Nat} {e : Int} (h : l[i]? = some e) : rd l (i : Int) = e := by simp [rd, h]
theorem count_put {l : List Int} {i : Nat} {v : Int} (h : l[i]? = some 0) (hv : v ≠ 0) : (l.set i v).count 0 + 1 = l.count 0 := by
 obtain ⟨hi, h0⟩ := List.getElem?_eq_some_iff.1 h
 have hm : 0 < l.count 0 := List.count_pos_iff.2 (List.mem_of_getElem? h)
 rw [List.count_set hi]
 have e1 : (l[i] == (0 : Int)) = true := by rw [h0]; rfl
 have e2 : (v == (0 : Int)) = false := by simpa using hv
 rw [e1, e2]
 simp
 omega
/-- Numbers of states up to a time. -/
def NN (K : Kit4) (most : Int) : Nat := ((most + 1) * manyP K).toNat
def Good (K : Kit4) (most : Int) (x : Sp) : Prop := Fits K x ∧ 0 ≤ x.t ∧ x.t ≤ most
structure NInv (K : Kit4) (most : Int) (D : Sp → Prop) (out : List S45) (pl : List Int) : Prop where
  len : pl.length = NN K most
  mem : ∀ x, x ∈ out.map spotOf ↔ D x
  good : ∀ x, D x → Good K most x
  at_ : ∀ i, i < NN K most → pl[i]? = some 0 ∨ ∃ (j : Nat) (e : S45), pl[i]? = some ((j : Int) + 1) ∧ out[j]? = some e ∧ idP K (spotOf e) = (i : Int)
  few : out.length + pl.count 0 = NN K most
theorem NInv.imp {K : Kit4} {most : Int} {D D' : Sp → Prop} {out : List S45} {pl : List Int} (h : NInv K most D out pl) (e : ∀ x, D x ↔ D' x) : NInv K most D' out pl :=
 ⟨h.len, fun x => (h.mem x).trans (e x), fun x hx => h.good x ((e x).mpr hx), h.at_, h.few⟩
theorem NInv.small {K : Kit4} {most : Int} {D : Sp → Prop} {out : List S45} {pl : List Int} (h : NInv K most D out pl) : out.length ≤ NN K most := by
 have := h.few
 omega
/-- A new state. -/
theorem NInv.add {K : Kit4} {most : Int} {D : Sp → Prop} {out : List S45} {pl : List Int} (h : NInv K most D out pl) (e : S45) (hg : Good K most (spotOf e)) (i : Nat) (hi : idP K (spotOf e) = (i : Int)) (hiN : i < NN K most) (h0 : pl[i]? = some 0) :
 NInv K most (fun x => D x ∨ x = spotOf e) (out ++ [e]) (pl.set i ((out ++ [e]).length : Int)) := by
 refine ⟨by rw [List.length_set]; exact h.len, ?_, ?_, ?_, ?_⟩
 ·intro x
  rw [List.map_append, List.mem_append, h.mem x]
  simp
 ·rintro x (hx | rfl)
  ·exact h.good x hx
  ·exact hg
 ·intro n hn
  rw [List.getElem?_set]
  by_cases hin : i = n
  ·subst hin
   rw [if_pos rfl, if_pos (by rw [h.len]; exact hn)]
   right
   refine ⟨out.length, e, by simp, by simp, hi⟩
  ·rw [if_neg hin]
   rcases h.at_ n hn with h1 | ⟨j, e', h1, h2, h3⟩
   ·exact Or.inl h1
   ·refine Or.inr ⟨j, e', h1, ?_, h3⟩
    rw [List.getElem?_append_left (List.getElem?_eq_some_iff.1 h2).1]
    exact h2
 ·have hl : (out ++ [e]).length = out.length + 1 := by simp
  have := count_put (v := ((out ++ [e]).length : Int)) h0 (by omega)
  have := h.few
  omega
/-- A state that is there: its count alone turns. -/
theorem NInv.again {K : Kit4} {most : Int} {D : Sp → Prop} {out : List S45} {pl : List Int} (h : NInv K most D out pl) (j : Nat) (e e' : S45) (he : out[j]? = some e) (hs : spotOf e' = spotOf e) : NInv K most D (out.set j e') pl := by
 have hm : (out.set j e').map spotOf = out.map spotOf := by
  rw [List.map_set]
  apply List.ext_getElem?
  intro n
  rw [List.getElem?_set]
  split
  ·rename_i hn
   subst hn
   obtain ⟨hj, _⟩ := List.getElem?_eq_some_iff.1 he
   rw [if_pos (by rw [List.length_map]; exact hj), List.getElem?_map, he, hs]
   rfl
  ·rfl
 refine ⟨h.len, fun x => by rw [hm]; exact h.mem x, h.good, ?_, by rw [List.length_set]; exact h.few⟩
 intro n hn
 rcases h.at_ n hn with h1 | ⟨j', e2, h1, h2, h3⟩
 ·exact Or.inl h1
 ·by_cases hj : j = j'
  ·subst hj
   rw [he] at h2
   cases h2
   refine Or.inr ⟨j, e', h1, ?_, by rw [hs]; exact h3⟩
   rw [List.getElem?_set, if_pos rfl, if_pos (List.getElem?_eq_some_iff.1 he).1]
  ·refine Or.inr ⟨j', e2, h1, ?_, h3⟩
   rw [List.getElem?_set, if_neg hj]
   exact h2
theorem nn_le (K : Kit4) (hM : manyP K ≤ 1000) (h1 : 1 ≤ manyP K) (most : Int) (m0 : 0 ≤ most) (m1 : most ≤ 40) : NN K most ≤ 41000 ∧ ((NN K most : Nat) : Int) = (most + 1) * manyP K := by
 have b := mulb (a := most + 1) (b := manyP K) (A := 41) (B := 1000) (by omega) (by omega) (by omega) hM
 unfold NN
 omega
theorem nxt_none {stp : Sp → Int → Int × Int × Int × Int × Int} {most : Int} {p : Sp} {set r1 r2 r3 r4 d : Int} (e : stp p set = (r1, r2, r3, r4, d)) (h : d = 0 ∨ most < p.t + d) : nxt stp most p set = none := by
 unfold nxt
 rw [e]
 dsimp only
 rw [if_pos h]
theorem nxt_some {stp : Sp → Int → Int × Int × Int × Int × Int} {most : Int} {p : Sp} {set r1 r2 r3 r4 d : Int} (e : stp p set = (r1, r2, r3, r4, d)) (h : ¬ (d = 0 ∨ most < p.t + d)) : nxt stp most p set = some ⟨r1, r2, r3, r4, p.t + d⟩ := by
 unfold nxt
 rw [e]
 dsimp only
 rw [if_neg h]
theorem next_step (K : Kit4) (hK : K.ok) (hM : manyP K ≤ 1000) (most : Int) (m0 : 0 ≤ most) (m1 : most ≤ 40) (all : List S45) (hall : all.length ≤ 41000) (i : Nat) (e : S45) (he : all[i]? = some e) (hg : Good K most (spotOf e))
 (m : Nat) (hm : m < 16) (D : Sp → Prop) (out : List S45) (pl : List Int) (h : NInv K most D out pl) (k : Nat) (hk : 12 ≤ k) :
 ∃ out' pl' k', k ≤ k' + 3 ∧ spec_l3Next.l1 k all most true out pl (i : Int) (m : Int) K.a K.b K.c K.d = spec_l3Next.l1 k' all most true out' pl' (i : Int) ((m + 1 : Nat) : Int) K.a K.b K.c K.d ∧
  NInv K most (fun x => D x ∨ (setOk K.a K.b K.c K.d (m : Int) = true ∧ nxt (stepP K.a K.b K.c K.d) most (spotOf e) (m : Int) = some x)) out' pl' := by
 obtain ⟨q, rfl⟩ : ∃ q, k = q + 12 := ⟨k - 12, by omega⟩
 have hM1 := (many_in K hK).1
 obtain ⟨hN, hN2⟩ := nn_le K hM hM1 most m0 m1
 have hi := (List.getElem?_eq_some_iff.1 he).1
 have hs : ((m : Nat) : Int) ∈ all16 := mem16 (by omega) (by omega)
 have wm : wrap64 ((m : Int) + 1) = ((m + 1 : Nat) : Int) := by rw [wr _ (by omega) (by omega)]; omega
 obtain ⟨hf, ht0, ht1⟩ := hg
 have hst := s_step_go (q + 3) K hK (spotOf e) hf _ (and_in _ hs (decide (0 < K.a)) (decide (0 < K.b)) (decide (0 < K.c)) (decide (0 < K.d)))
 have hst' : spec_l2Step.f (q + 11) K.a K.b K.c K.d e.f1.f0 e.f1.f1 e.f1.f2 e.f1.f3 (Go.bits .and .i64 (m : Int) (maskP (decide (0 < K.a)) (decide (0 < K.b)) (decide (0 < K.c)) (decide (0 < K.d)))) = some (stepP K.a K.b K.c K.d (spotOf e) (Go.bits .and .i64 (m : Int) (maskP (decide (0 < K.a)) (decide (0 < K.b)) (decide (0 < K.c)) (decide (0 < K.d))))) := hst
 rw [spec_l3Next.l1, if_pos (by omega), if_pos (by omega), if_pos (by omega), rd45 he, s_all_go (q + 7), Option.bind_some, hst', Option.bind_some, s_isSet_go (q + 7) K _ hs, Option.bind_some]
 by_cases hset : setOk K.a K.b K.c K.d (m : Int) = true
 ·have hand : Go.bits .and .i64 (m : Int) (maskP (decide (0 < K.a)) (decide (0 < K.b)) (decide (0 < K.c)) (decide (0 < K.d))) = (m : Int) := and_ok _ hs _ _ _ _ hset
  rw [if_pos hset, hand]
  obtain ⟨r1, r2, r3, r4, d, es, hd0, hd1, hfit⟩ := stepP_in K hK (spotOf e) hf (m : Int)
  rw [es]
  dsimp only
  have hte : (spotOf e).t = e.f0 := rfl
  rw [hte] at ht0 ht1
  rw [wr (e.f0 + d) (by omega) (by omega)]
  by_cases hd : d = 0
  ·rw [if_pos hd, spec_l3Next.j2, if_pos rfl, wm]
   have hnx := nxt_none (most := most) es (Or.inl hd)
   exact ⟨out, pl, q + 10, by omega, rfl, h.imp (fun x => by rw [hnx]; simp)⟩
  ·rw [if_neg hd]
   by_cases hmo : e.f0 + d > most
   ·rw [decide_eq_true hmo, spec_l3Next.j2, if_pos rfl, wm]
    have hnx := nxt_none (most := most) es (Or.inr (by rw [hte]; exact hmo))
    exact ⟨out, pl, q + 10, by omega, rfl, h.imp (fun x => by rw [hnx]; simp)⟩
   ·rw [decide_eq_false hmo, spec_l3Next.j2, if_neg (by decide), if_pos rfl]
    obtain ⟨bv, hbv⟩ := s_bits_go (q + 4) (m : Int)
    have hnx := nxt_some (most := most) es (by rw [hte]; omega)
    rw [hte] at hnx
    have hgx : Good K most ⟨r1, r2, r3, r4, e.f0 + d⟩ := ⟨hfit _, by show 0 ≤ e.f0 + d; omega, by show e.f0 + d ≤ most; omega⟩
    have hid := s_id_go K hK ⟨r1, r2, r3, r4, e.f0 + d⟩ hgx.1 hgx.2.1 (by show e.f0 + d ≤ 40; omega)
    obtain ⟨hid0, hid1⟩ := id_in hK hgx.1 hgx.2.1 hgx.2.2
    obtain ⟨n, hn⟩ : ∃ n : Nat, idP K ⟨r1, r2, r3, r4, e.f0 + d⟩ = (n : Int) := ⟨_, (Int.toNat_of_nonneg hid0).symm⟩
    have hnN : n < NN K most := by omega
    rw [hbv, Option.bind_some, spec_l3Next.j3]
    dsimp only at hid
    rw [hid, Option.bind_some, hn, if_pos (by omega), if_pos (by rw [h.len]; omega)]
    rcases h.at_ n hnN with h1 | ⟨j, e2, h1, h2, h3⟩
    ·rw [rdI' h1, if_pos rfl, if_pos (by have := h.small; omega), Option.bind_some, wm, Int.toNat_natCast]
     refine ⟨_, _, q + 9, by omega, rfl, ?_⟩
     refine (h.add ⟨e.f0 + d, ⟨r1, r2, r3, r4⟩, _⟩ hgx n hn hnN h1).imp (fun x => ?_)
     rw [hnx]
     constructor
     ·rintro (hx | rfl)
      ·exact Or.inl hx
      ·exact Or.inr ⟨hset, rfl⟩
     ·rintro (hx | ⟨_, hx⟩)
      ·exact Or.inl hx
      ·cases hx
       exact Or.inr rfl
    ·have hjl := (List.getElem?_eq_some_iff.1 h2).1
     have hsm := h.small
     have hx2 : spotOf e2 = ⟨r1, r2, r3, r4, e.f0 + d⟩ := by
      have hD : D (spotOf e2) := (h.mem _).mp (List.mem_map.2 ⟨e2, List.mem_of_getElem? h2, rfl⟩)
      exact id_inj (h.good _ hD).1 hgx.1 (by rw [h3, hn])
     have w2 : wrap64 ((j : Int) + 1 - 1) = (j : Int) := by rw [wr _ (by omega) (by omega)]; omega
     rw [rdI' h1, if_neg (by omega), if_pos rfl, w2, if_pos (by omega), if_pos (by omega), rd45 h2, wm, Int.toNat_natCast]
     obtain ⟨lv_, hlv⟩ : ∃ v, spec_l1Least.f e2.f2 (wrap64 (e.f2 + bv)) = some v := by
      unfold spec_l1Least.f
      split <;> exact ⟨_, rfl⟩
     rw [hlv, Option.bind_some]
     refine ⟨_, _, q + 9, by omega, rfl, (h.again j e2 _ h2 ?_).imp (fun x => ?_)⟩
     ·rfl
     ·rw [hnx]
      constructor
      ·exact Or.inl
      ·rintro (hx | ⟨_, hx⟩)
       ·exact hx
       ·cases hx
        exact (h.mem _).mp (List.mem_map.2 ⟨e2, List.mem_of_getElem? h2, hx2⟩)
 ·rw [if_neg hset, spec_l3Next.j2, if_pos rfl, wm]
  exact ⟨out, pl, q + 10, by omega, rfl, h.imp (fun x => by simp [hset])⟩
theorem next_sets (K : Kit4) (hK : K.ok) (hM : manyP K ≤ 1000) (most : Int) (m0 : 0 ≤ most) (m1 : most ≤ 40) (all : List S45) (hall : all.length ≤ 41000) (i : Nat) (e : S45) (he : all[i]? = some e) (hg : Good K most (spotOf e)) :
 ∀ (r m : Nat), m + r = 16 → ∀ (D : Sp → Prop) (out : List S45) (pl : List Int), NInv K most D out pl → ∀ k, 3 * r + 20 ≤ k →
  ∃ out' pl' k', k ≤ k' + 3 * r + 1 ∧ spec_l3Next.l1 k all most true out pl (i : Int) (m : Int) K.a K.b K.c K.d = spec_l3Next.l0 k' all most true out' pl' ((i + 1 : Nat) : Int) K.a K.b K.c K.d ∧
   NInv K most (fun x => D x ∨ ∃ n : Nat, m ≤ n ∧ n < 16 ∧ setOk K.a K.b K.c K.d (n : Int) = true ∧ nxt (stepP K.a K.b K.c K.d) most (spotOf e) (n : Int) = some x) out' pl'
 | 0, m, hr, D, out, pl, h, k, hk => by
  obtain ⟨k, rfl⟩ : ∃ q, k = q + 1 := ⟨k - 1, by omega⟩
  have hi := (List.getElem?_eq_some_iff.1 he).1
  have wi : wrap64 ((i : Int) + 1) = ((i + 1 : Nat) : Int) := by rw [wr _ (by omega) (by omega)]; omega
  rw [spec_l3Next.l1, if_neg (by omega), wi]
  refine ⟨out, pl, k, by omega, rfl, h.imp (fun x => ⟨Or.inl, ?_⟩)⟩
  rintro (hx | ⟨n, h1, h2, _⟩)
  ·exact hx
  ·omega
 | r + 1, m, hr, D, out, pl, h, k, hk => by
  obtain ⟨out1, pl1, k1, hk1, e1, h1⟩ := next_step K hK hM most m0 m1 all hall i e he hg m (by omega) D out pl h k (by omega)
  obtain ⟨out2, pl2, k2, hk2, e2, h2⟩ := next_sets K hK hM most m0 m1 all hall i e he hg r (m + 1) (by omega) _ out1 pl1 h1 k1 (by omega)
  refine ⟨out2, pl2, k2, by omega, e1.trans e2, h2.imp (fun x => ?_)⟩
  constructor
  ·rintro ((hx | ⟨h3, h4⟩) | ⟨n, h3, h4, h5⟩)
   ·exact Or.inl hx
   ·exact Or.inr ⟨m, Nat.le_refl _, by omega, h3, h4⟩
   ·exact Or.inr ⟨n, by omega, h4, h5⟩
  ·rintro (hx | ⟨n, h3, h4, h5⟩)
   ·exact Or.inl (Or.inl hx)
   ·by_cases hn : n = m
    ·subst hn
     exact Or.inl (Or.inr h5)
    ·exact Or.inr ⟨n, by omega, h4, h5⟩
/-- The spots behind one more set. -/
def Suc (K : Kit4) (most : Int) (p x : Sp) : Prop := x ∈ (setsP K.a K.b K.c K.d).filterMap (nxt (stepP K.a K.b K.c K.d) most p)
theorem suc_iff {K : Kit4} {most : Int} {p x : Sp} : Suc K most p x ↔ ∃ n : Nat, 0 ≤ n ∧ n < 16 ∧ setOk K.a K.b K.c K.d (n : Int) = true ∧ nxt (stepP K.a K.b K.c K.d) most p (n : Int) = some x := by
 unfold Suc
 rw [List.mem_filterMap]
 constructor
 ·rintro ⟨set, h1, h2⟩
  obtain ⟨h3, h4⟩ := sets_mem.1 h1
  obtain ⟨h5, h6⟩ := of_mem16 h3
  obtain ⟨n, rfl⟩ : ∃ n : Nat, set = (n : Int) := ⟨_, (Int.toNat_of_nonneg h5).symm⟩
  exact ⟨n, Nat.zero_le _, by omega, h4, h2⟩
 ·rintro ⟨n, _, h1, h2, h3⟩
  exact ⟨_, sets_mem.2 ⟨mem16 (by omega) (by omega), h2⟩, h3⟩
theorem next_all (K : Kit4) (hK : K.ok) (hM : manyP K ≤ 1000) (most : Int) (m0 : 0 ≤ most) (m1 : most ≤ 40) (all : List S45) (hall : all.length ≤ 41000) (hg : ∀ e ∈ all, Good K most (spotOf e)) :
 ∀ (r i : Nat), i + r = all.length → ∀ (D : Sp → Prop) (out : List S45) (pl : List Int), NInv K most D out pl → ∀ k, 60 * r + 80 ≤ k →
  ∃ out' pl', spec_l3Next.l0 k all most true out pl (i : Int) K.a K.b K.c K.d = some out' ∧
   NInv K most (fun x => D x ∨ ∃ e ∈ all.drop i, Suc K most (spotOf e) x) out' pl'
 | 0, i, hr, D, out, pl, h, k, hk => by
  obtain ⟨k, rfl⟩ : ∃ q, k = q + 1 := ⟨k - 1, by omega⟩
  rw [spec_l3Next.l0, if_neg (by omega)]
  refine ⟨out, pl, rfl, h.imp (fun x => ⟨Or.inl, ?_⟩)⟩
  rintro (hx | ⟨e, h1, _⟩)
  ·exact hx
  ·rw [List.drop_of_length_le (by omega)] at h1
   cases h1
 | r + 1, i, hr, D, out, pl, h, k, hk => by
  obtain ⟨k, rfl⟩ : ∃ q, k = q + 1 := ⟨k - 1, by omega⟩
  obtain ⟨e, he⟩ : ∃ e, all[i]? = some e := ⟨_, List.getElem?_eq_getElem (by omega)⟩
  obtain ⟨out1, pl1, k1, hk1, e1, h1⟩ := next_sets K hK hM most m0 m1 all hall i e he (hg e (List.mem_of_getElem? he)) 16 0 rfl D out pl h k (by omega)
  obtain ⟨out2, pl2, e2, h2⟩ := next_all K hK hM most m0 m1 all hall hg r (i + 1) (by omega) _ out1 pl1 h1 k1 (by omega)
  have hdrop : all.drop i = e :: all.drop (i + 1) := by
   obtain ⟨hi, he'⟩ := List.getElem?_eq_some_iff.1 he
   rw [List.drop_eq_getElem_cons hi, he']
  rw [spec_l3Next.l0, if_pos (by omega)]
  refine ⟨out2, pl2, e1.trans e2, h2.imp (fun x => ?_)⟩
  rw [hdrop]
  simp only [List.mem_cons]
  constructor
  ·rintro ((hx | h3) | ⟨e', h3, h4⟩)
   ·exact Or.inl hx
   ·exact Or.inr ⟨e, Or.inl rfl, suc_iff.2 h3⟩
   ·exact Or.inr ⟨e', Or.inr h3, h4⟩
  ·rintro (hx | ⟨e', (rfl | h3), h4⟩)
   ·exact Or.inl (Or.inl hx)
   ·exact Or.inl (Or.inr (suc_iff.1 h4))
   ·exact Or.inr ⟨e', h3, h4⟩
/-- One more set, of all states: each state behind it, once or more. -/
theorem next_go3 (K : Kit4) (hK : K.ok) (hM : manyP K ≤ 1000) (most : Int) (m0 : 0 ≤ most) (m1 : most ≤ 40) (all : List S45) (hall : all.length ≤ 41000) (hg : ∀ e ∈ all, Good K most (spotOf e)) (k : Nat) (hk : 60 * all.length + 80 ≤ k) :
 ∃ out, spec_l3Next.f k K.a K.b K.c K.d all most true = some out ∧ out.length ≤ 41000 ∧ (∀ e ∈ out, Good K most (spotOf e)) ∧ ∀ x, x ∈ out.map spotOf ↔ ∃ e ∈ all, Suc K most (spotOf e) x := by
 have hM1 := (many_in K hK).1
 obtain ⟨hN, hN2⟩ := nn_le K hM hM1 most m0 m1
 have h0 : NInv K most (fun _ => False) [] (List.replicate (NN K most) 0) := by
  refine ⟨by simp, fun x => by simp, fun x hx => hx.elim, fun i hi => Or.inl ?_, by simp⟩
  rw [List.getElem?_replicate, if_pos hi]
 obtain ⟨out, pl, e1, h1⟩ := next_all K hK hM most m0 m1 all hall hg all.length 0 (by omega) _ [] _ h0 k (by omega)
 refine ⟨out, ?_, by have := h1.small; omega, fun e he => h1.good _ ((h1.mem _).mp (List.mem_map.2 ⟨e, he, rfl⟩)), fun x => ?_⟩
 ·unfold spec_l3Next.f
  rw [s_many_go K hK, Option.bind_some, wr (most + 1) (by omega) (by omega), wr ((most + 1) * manyP K) (by omega) (by omega), if_pos (by omega), if_pos (by show NN K most ≤ _; omega)]
  exact e1
 ·rw [h1.mem x]
  simp
end Go.Proofs.Ytmhnllcdfjggaaa.TT
