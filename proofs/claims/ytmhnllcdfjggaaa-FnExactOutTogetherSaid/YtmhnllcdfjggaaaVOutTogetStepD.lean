import Derived.Test.YtmhnllcdfjggaaaVOutTogetStepC
namespace Go.Proofs.Ytmhnllcdfjggaaa.TT
open Go.RowKit Go.Proofs.YtmhnllcdfjggaaaW.PrintWords Go.Proofs.YtmhnllcdfjggaaaW.PrintLast Go.Proofs.Ytmhnllcdfjggaaa.PA Go.Proofs.Ytmhnllcdfjggaaa.Mp Go.Proofs.Ytmhnllcdfjggaaa.Lv
set_option linter.unusedVariables false
set_option linter.unusedSimpArgs false
/-- The states that have been seen. -/
structure SInv (K : Kit4) (most : Int) (S : Sp → Prop) (seen : List Bool) : Prop where
  len : seen.length = NN K most
  iff : ∀ x, Good K most x → ∀ n : Nat, idP K x = (n : Int) → (seen[n]? = some true ↔ S x)
theorem SInv.imp {K : Kit4} {most : Int} {S S' : Sp → Prop} {seen : List Bool} (h : SInv K most S seen) (e : ∀ x, Good K most x → (S x ↔ S' x)) : SInv K most S' seen :=
 ⟨h.len, fun x hx n hn => (h.iff x hx n hn).trans (e x hx)⟩
theorem SInv.put {K : Kit4} {most : Int} {S : Sp → Prop} {seen : List Bool} (h : SInv K most S seen) (x0 : Sp) (hx0 : Good K most x0) (n0 : Nat) (hn0 : idP K x0 = (n0 : Int)) (hN : n0 < NN K most) : SInv K most (fun x => S x ∨ x = x0) (seen.set n0 true) := by
 refine ⟨by rw [List.length_set]; exact h.len, fun x hx n hn => ?_⟩
 rw [List.getElem?_set]
 by_cases hnn : n0 = n
 ·subst hnn
  rw [if_pos rfl, if_pos (by rw [h.len]; exact hN)]
  have : x = x0 := id_inj hx.1 hx0.1 (by rw [hn, hn0])
  simp [this]
 ·rw [if_neg hnn, h.iff x hx n hn]
  constructor
  ·exact Or.inl
  ·rintro (h1 | rfl)
   ·exact h1
   ·exact absurd (by omega) hnn
theorem rdB {l : List Bool} {i : Nat} {b : Bool} (h : l[i]? = some b) : rdOf false l (i : Int) = b := by simp [rdOf, h]
theorem lev_loop (K : Kit4) (hK : K.ok) (hM : manyP K ≤ 1000) (most : Int) (m0 : 0 ≤ most) (m1 : most ≤ 40) (nx : List S45) (hnl : nx.length ≤ 41000) (hng : ∀ e ∈ nx, Good K most (spotOf e)) (L : List (List S45)) (hL : L.length ≤ 100) (a : Nat) (ha : a ≤ 100) :
 ∀ (r j : Nat), j + r = nx.length → ∀ (S : Sp → Prop) (seen : List Bool) (lev : List S45), SInv K most S seen → lev.length + r ≤ 41000 → ∀ k, 2 * r + 20 ≤ k →
  ∃ seen' lev' k', k ≤ k' + 2 * r + 1 ∧ spec_l3Levels.l1 k most true seen L (a : Int) lev nx (j : Int) K.a K.b K.c K.d = spec_l3Levels.l0 k' most true seen' (L ++ [lev']) ((a + 1 : Nat) : Int) K.a K.b K.c K.d ∧
   SInv K most (fun x => S x ∨ x ∈ (nx.drop j).map spotOf) seen' ∧ (∀ x, x ∈ lev'.map spotOf ↔ x ∈ lev.map spotOf ∨ (x ∈ (nx.drop j).map spotOf ∧ ¬ S x)) ∧ lev'.length ≤ 41000
 | 0, j, hr, S, seen, lev, h, hl, k, hk => by
  obtain ⟨k, rfl⟩ : ∃ q, k = q + 1 := ⟨k - 1, by omega⟩
  have wa : Aside0 (wrap64 ((a : Int) + 1) = ((a + 1 : Nat) : Int)) := ⟨by rw [wr _ (by omega) (by omega)]; omega⟩
  have hd : nx.drop j = [] := List.drop_of_length_le (by omega)
  rw [spec_l3Levels.l1, if_neg (by omega), if_pos (by omega), wa.out, hd]
  exact ⟨seen, lev, k, by omega, rfl, h.imp (fun x _ => by simp), fun x => by simp, by omega⟩
 | r + 1, j, hr, S, seen, lev, h, hl, k, hk => by
  obtain ⟨k, rfl⟩ : ∃ q, k = q + 2 := ⟨k - 2, by omega⟩
  obtain ⟨e, he⟩ : ∃ e, nx[j]? = some e := ⟨_, List.getElem?_eq_getElem (by omega)⟩
  have hM1 := (many_in K hK).1
  obtain ⟨hN, hN2⟩ := nn_le K hM hM1 most m0 m1
  have hge := hng e (List.mem_of_getElem? he)
  have hid := s_id_go K hK (spotOf e) hge.1 hge.2.1 (by have := hge.2.2; omega)
  have hid' : spec_l3Id.f K.a K.b K.c K.d e.f0 e.f1.f0 e.f1.f1 e.f1.f2 e.f1.f3 = some (idP K (spotOf e)) := hid
  obtain ⟨hid0, hid1⟩ := id_in hK hge.1 hge.2.1 hge.2.2
  obtain ⟨n, hn⟩ : ∃ n : Nat, idP K (spotOf e) = (n : Int) := ⟨_, (Int.toNat_of_nonneg hid0).symm⟩
  have hnN : n < NN K most := by omega
  have wj : Aside0 (wrap64 ((j : Int) + 1) = ((j + 1 : Nat) : Int)) := ⟨by rw [wr _ (by omega) (by omega)]; omega⟩
  have hdrop : nx.drop j = e :: nx.drop (j + 1) := by
   obtain ⟨hi, he'⟩ := List.getElem?_eq_some_iff.1 he
   rw [List.drop_eq_getElem_cons hi, he']
  obtain ⟨b, hb⟩ : ∃ b, seen[n]? = some b := ⟨_, List.getElem?_eq_getElem (by rw [h.len]; exact hnN)⟩
  have hput := h.put (spotOf e) hge n hn hnN
  rw [spec_l3Levels.l1, if_pos (by omega), if_pos (by omega), rd45 he, hid', Option.bind_some, hn, if_pos rfl, if_pos (by omega), if_pos (by rw [h.len]; omega), rdB hb]
  cases b with
  | false =>
   have hnS : ¬ S (spotOf e) := fun hs => by
    have := (h.iff _ hge n hn).mpr hs
    rw [hb] at this
    cases this
   rw [show (!false) = true from rfl, spec_l3Levels.j2, if_pos rfl, if_pos (by omega), if_pos (by omega), if_pos (by omega), if_pos (by omega), if_pos (by rw [h.len]; omega), rd45 he, wj.out, Int.toNat_natCast]
   obtain ⟨seen', lev', k', h1, h2, h3, h4, h5⟩ := lev_loop K hK hM most m0 m1 nx hnl hng L hL a ha r (j + 1) (by omega) _ _ (lev ++ [(⟨e.f0, ⟨e.f1.f0, e.f1.f1, e.f1.f2, e.f1.f3⟩, e.f2⟩ : S45)]) hput (by rw [List.length_append, List.length_singleton]; omega) k (by omega)
   refine ⟨seen', lev', k', by omega, h2, h3.imp (fun x _ => ?_), fun x => ?_, h5⟩
   ·rw [hdrop, List.map_cons, List.mem_cons, or_assoc]
   ·rw [h4 x, hdrop, List.map_append, List.mem_append]
    have : x ∈ [(⟨e.f0, ⟨e.f1.f0, e.f1.f1, e.f1.f2, e.f1.f3⟩, e.f2⟩ : S45)].map spotOf ↔ x = spotOf e := by
     rw [List.map_singleton, List.mem_singleton]
    rw [this, List.map_cons, List.mem_cons]
    constructor
    ·rintro ((hx | rfl) | ⟨h6, h7⟩)
     ·exact Or.inl hx
     ·exact Or.inr ⟨Or.inl rfl, hnS⟩
     ·exact Or.inr ⟨Or.inr h6, fun hs => h7 (Or.inl hs)⟩
    ·rintro (hx | ⟨(rfl | h6), h7⟩)
     ·exact Or.inl (Or.inl hx)
     ·exact Or.inl (Or.inr rfl)
     ·by_cases hxe : x = spotOf e
      ·exact Or.inl (Or.inr hxe)
      ·exact Or.inr ⟨h6, fun hs => hs.elim h7 hxe⟩
  | true =>
   have hS : S (spotOf e) := (h.iff _ hge n hn).mp hb
   rw [show (!true) = false from rfl, spec_l3Levels.j2, if_neg (by decide), if_pos (by omega), if_pos (by rw [h.len]; omega), wj.out, Int.toNat_natCast]
   obtain ⟨seen', lev', k', h1, h2, h3, h4, h5⟩ := lev_loop K hK hM most m0 m1 nx hnl hng L hL a ha r (j + 1) (by omega) _ _ lev hput (by omega) k (by omega)
   refine ⟨seen', lev', k', by omega, h2, h3.imp (fun x _ => ?_), fun x => ?_, h5⟩
   ·rw [hdrop, List.map_cons, List.mem_cons, or_assoc]
   ·rw [h4 x, hdrop, List.map_cons, List.mem_cons]
    constructor
    ·rintro (hx | ⟨h6, h7⟩)
     ·exact Or.inl hx
     ·exact Or.inr ⟨Or.inr h6, fun hs => h7 (Or.inl hs)⟩
    ·rintro (hx | ⟨(rfl | h6), h7⟩)
     ·exact Or.inl hx
     ·exact absurd hS h7
     ·refine Or.inr ⟨h6, fun hs => hs.elim h7 ?_⟩
      rintro rfl
      exact h7 hS
abbrev lvP (K : Kit4) (most : Int) (s : Sp) : Nat → List Sp := lv (stepP K.a K.b K.c K.d) most (setsP K.a K.b K.c K.d) s
theorem lv_succ {K : Kit4} {most : Int} {s x : Sp} {n : Nat} : x ∈ lvP K most s (n + 1) ↔ ∃ p ∈ lvP K most s n, Suc K most p x := by
 unfold lvP
 rw [lv, List.mem_flatMap]
 rfl
structure LInv (K : Kit4) (most : Int) (s : Sp) (n : Nat) (L : List (List S45)) (seen : List Bool) : Prop where
  len : L.length = n
  small : ∀ l ∈ L, l.length ≤ 41000
  good : ∀ l ∈ L, ∀ e ∈ l, Good K most (spotOf e)
  seen_ : SInv K most (fun x => ∃ (j : Nat) (l : List S45), L[j]? = some l ∧ x ∈ l.map spotOf) seen
  sound : ∀ (j : Nat) (l : List S45), L[j]? = some l → ∀ x ∈ l.map spotOf, x ∈ lvP K most s j
  whole : ∀ m, m < n → ∀ x ∈ lvP K most s m, ∃ (j : Nat) (l : List S45), j ≤ m ∧ L[j]? = some l ∧ x ∈ l.map spotOf
theorem LInv.next {K : Kit4} {most : Int} {s : Sp} {n : Nat} {L : List (List S45)} {seen seen' : List Bool} (h : LInv K most s (n + 1) L seen) (last : List S45) (hlast : L[n]? = some last) (nx lev : List S45)
 (hnx : ∀ x, x ∈ nx.map spotOf ↔ ∃ e ∈ last, Suc K most (spotOf e) x) (hng : ∀ e ∈ nx, Good K most (spotOf e))
 (hs : SInv K most (fun x => (∃ (j : Nat) (l : List S45), L[j]? = some l ∧ x ∈ l.map spotOf) ∨ x ∈ nx.map spotOf) seen')
 (hlev : ∀ x, x ∈ lev.map spotOf ↔ x ∈ nx.map spotOf ∧ ¬ ∃ (j : Nat) (l : List S45), L[j]? = some l ∧ x ∈ l.map spotOf) (hll : lev.length ≤ 41000) : LInv K most s (n + 2) (L ++ [lev]) seen' := by
 have hget : ∀ (j : Nat) (l : List S45), (L ++ [lev])[j]? = some l ↔ L[j]? = some l ∨ (j = n + 1 ∧ l = lev) := by
  intro j l
  by_cases hj : j < L.length
  ·rw [List.getElem?_append_left hj]
   constructor
   ·exact Or.inl
   ·rintro (h1 | ⟨h1, _⟩)
    ·exact h1
    ·have := h.len
     omega
  ·rw [List.getElem?_append_right (by omega)]
   constructor
   ·intro h1
    have := (List.getElem?_eq_some_iff.1 h1).1
    simp at this
    have e0 : j - L.length = 0 := by omega
    rw [e0] at h1
    simp at h1
    exact Or.inr ⟨by have := h.len; omega, h1.symm⟩
   ·rintro (h1 | ⟨rfl, rfl⟩)
    ·exact absurd (List.getElem?_eq_some_iff.1 h1).1 hj
    ·rw [h.len]
     simp
 refine ⟨by rw [List.length_append, h.len]; rfl, ?_, ?_, ?_, ?_, ?_⟩
 ·intro l hl
  rcases List.mem_append.1 hl with h1 | h1
  ·exact h.small l h1
  ·rw [List.mem_singleton.1 h1]
   exact hll
 ·intro l hl e he
  rcases List.mem_append.1 hl with h1 | h1
  ·exact h.good l h1 e he
  ·rw [List.mem_singleton.1 h1] at he
   have := ((hlev (spotOf e)).mp (List.mem_map.2 ⟨e, he, rfl⟩)).1
   obtain ⟨e', he', h2⟩ := List.mem_map.1 this
   rw [← h2]
   exact hng e' he'
 ·refine hs.imp (fun x _ => ?_)
  constructor
  ·rintro (⟨j, l, h1, h2⟩ | h1)
   ·exact ⟨j, l, (hget j l).mpr (Or.inl h1), h2⟩
   ·by_cases hx : ∃ (j : Nat) (l : List S45), L[j]? = some l ∧ x ∈ l.map spotOf
    ·obtain ⟨j, l, h2, h3⟩ := hx
     exact ⟨j, l, (hget j l).mpr (Or.inl h2), h3⟩
    ·exact ⟨n + 1, lev, (hget _ _).mpr (Or.inr ⟨rfl, rfl⟩), (hlev x).mpr ⟨h1, hx⟩⟩
  ·rintro ⟨j, l, h1, h2⟩
   rcases (hget j l).mp h1 with h3 | ⟨rfl, rfl⟩
   ·exact Or.inl ⟨j, l, h3, h2⟩
   ·exact Or.inr ((hlev x).mp h2).1
 ·intro j l hj x hx
  rcases (hget j l).mp hj with h3 | ⟨rfl, rfl⟩
  ·exact h.sound j l h3 x hx
  ·obtain ⟨e, he, h4⟩ := (hnx x).mp ((hlev x).mp hx).1
   exact lv_succ.2 ⟨spotOf e, h.sound n last hlast _ (List.mem_map.2 ⟨e, he, rfl⟩), h4⟩
 ·intro m hm x hx
  by_cases hmn : m < n + 1
  ·obtain ⟨j, l, h1, h2, h3⟩ := h.whole m hmn x hx
   exact ⟨j, l, h1, (hget j l).mpr (Or.inl h2), h3⟩
  ·have : m = n + 1 := by omega
   subst this
   obtain ⟨p, hp, hpx⟩ := lv_succ.1 hx
   obtain ⟨j, l, h1, h2, h3⟩ := h.whole n (by omega) p hp
   by_cases hj : j = n
   ·subst hj
    rw [hlast] at h2
    cases h2
    obtain ⟨e, he, rfl⟩ := List.mem_map.1 h3
    have hin := (hnx x).mpr ⟨e, he, hpx⟩
    by_cases hxs : ∃ (j : Nat) (l : List S45), L[j]? = some l ∧ x ∈ l.map spotOf
    ·obtain ⟨j', l', h4, h5⟩ := hxs
     have := (List.getElem?_eq_some_iff.1 h4).1
     exact ⟨j', l', by have := h.len; omega, (hget j' l').mpr (Or.inl h4), h5⟩
    ·exact ⟨j + 1, lev, Nat.le_refl _, (hget _ _).mpr (Or.inr ⟨rfl, rfl⟩), (hlev x).mpr ⟨hin, hxs⟩⟩
   ·have hxj : x ∈ lvP K most s (j + 1) := lv_succ.2 ⟨p, h.sound j l h2 p h3, hpx⟩
    obtain ⟨j', l', h4, h5, h6⟩ := h.whole (j + 1) (by omega) x hxj
    exact ⟨j', l', by omega, (hget j' l').mpr (Or.inl h5), h6⟩
theorem rdL {L : List (List S45)} {i : Nat} {l : List S45} (h : L[i]? = some l) : rd_L3 L (i : Int) = l := by simp [rd_L3, h]
theorem levs_loop (K : Kit4) (hK : K.ok) (hM : manyP K ≤ 1000) (most : Int) (m0 : 0 ≤ most) (m1 : most ≤ 40) (s : Sp) (C B : Nat) (hC : ∀ m, m ≤ 41000 → 60 * m + 80 ≤ C) (hB : ∀ m, m ≤ 41000 → 2 * m + 30 ≤ B) :
 ∀ (r n : Nat), n + r = 12 → ∀ (L : List (List S45)) (seen : List Bool), LInv K most s (n + 1) L seen → ∀ k, C + B * r + 100 ≤ k →
  ∃ L' seen', spec_l3Levels.l0 k most true seen L ((n + 1 : Nat) : Int) K.a K.b K.c K.d = some L' ∧ LInv K most s 13 L' seen'
 | 0, n, hr, L, seen, h, k, hk => by
  obtain ⟨k, rfl⟩ : ∃ q, k = q + 1 := ⟨k - 1, by omega⟩
  rw [spec_l3Levels.l0, if_neg (by omega)]
  have : n + 1 = 13 := by omega
  rw [this] at h
  exact ⟨L, seen, rfl, h⟩
 | r + 1, n, hr, L, seen, h, k, hk => by
  obtain ⟨k, rfl⟩ : ∃ q, k = q + 1 := ⟨k - 1, by omega⟩
  have hLl := h.len
  have hBr : B * (r + 1) = B * r + B := Nat.mul_succ B r
  obtain ⟨last, hlast⟩ : ∃ l, L[n]? = some l := ⟨_, List.getElem?_eq_getElem (by omega)⟩
  have hmem := List.mem_of_getElem? hlast
  obtain ⟨nx, e1, h1, h2, h3⟩ := next_go3 K hK hM most m0 m1 last (h.small _ hmem) (h.good _ hmem) k (by have := hC _ (h.small _ hmem); omega)
  have hBn := hB _ h1
  have w1 : Aside0 (wrap64 (((n + 1 : Nat) : Int) - 1) = (n : Int)) := ⟨by rw [wr _ (by omega) (by omega)]; omega⟩
  obtain ⟨seen', lev', k', h4, h5, h6, h7, h8⟩ := lev_loop K hK hM most m0 m1 nx h1 h2 L (by omega) (n + 1) (by omega) nx.length 0 (by omega) _ seen [] h.seen_ (by simpa using h1) k (by omega)
  rw [List.drop_zero] at h6 h7
  have hI : LInv K most s (n + 2) (L ++ [lev']) seen' := h.next last hlast nx lev' h3 h2 h6 (fun x => by rw [h7 x]; simp) h8
  obtain ⟨L', seen'', h9, h10⟩ := levs_loop K hK hM most m0 m1 s C B hC hB r (n + 1) (by omega) _ _ hI k' (by omega)
  refine ⟨L', seen'', ?_, h10⟩
  rw [spec_l3Levels.l0, if_pos (by omega), w1.out, if_pos (by omega), if_pos (by omega), rdL hlast, e1, Option.bind_some]
  exact h5.trans h9
theorem levels_go (K : Kit4) (hK : K.ok) (hM : manyP K ≤ 1000) (most : Int) (m0 : 0 ≤ most) (m1 : most ≤ 40) (s : Sp) (hs : Fits K s) (st : s.t = 0) (C B : Nat) (hC : ∀ m, m ≤ 41000 → 60 * m + 80 ≤ C) (hB : ∀ m, m ≤ 41000 → 2 * m + 30 ≤ B) (k : Nat) (hk : C + B * 12 + 100 ≤ k) :
 ∃ L seen, spec_l3Levels.f k K.a K.b K.c K.d s.a s.b s.c s.d most true = some L ∧ LInv K most s 13 L seen := by
 have hM1 := (many_in K hK).1
 obtain ⟨hN, hN2⟩ := nn_le K hM hM1 most m0 m1
 have hg : Good K most s := ⟨hs, by omega, by omega⟩
 have hid := s_id_go K hK s hs (by omega) (by omega)
 rw [st] at hid
 obtain ⟨hid0, hid1⟩ := id_in hK hs hg.2.1 hg.2.2
 obtain ⟨n, hn⟩ : ∃ n : Nat, idP K s = (n : Int) := ⟨_, (Int.toNat_of_nonneg hid0).symm⟩
 have hnN : n < NN K most := by omega
 have h0 : SInv K most (fun _ => False) (List.replicate (NN K most) false) := by
  refine ⟨by simp, fun x _ n _ => ?_⟩
  rw [List.getElem?_replicate]
  split <;> simp
 have hsp : spotOf ⟨0, ⟨s.a, s.b, s.c, s.d⟩, 0⟩ = s := by
  cases s
  simp only at st
  subst st
  rfl
 have h1 : LInv K most s 1 [[(⟨0, ⟨s.a, s.b, s.c, s.d⟩, 0⟩ : S45)]] ((List.replicate (NN K most) false).set n true) := by
  have hone : ∀ (j : Nat) (l : List S45), [[(⟨0, ⟨s.a, s.b, s.c, s.d⟩, 0⟩ : S45)]][j]? = some l ↔ j = 0 ∧ l = [(⟨0, ⟨s.a, s.b, s.c, s.d⟩, 0⟩ : S45)] := by
   intro j l
   cases j with
   | zero => simp [eq_comm]
   | succ j => simp
  refine ⟨rfl, by simp, ?_, ?_, ?_, ?_⟩
  ·intro l hl e he
   rw [List.mem_singleton.1 hl, List.mem_singleton] at he
   rw [he, hsp]
   exact hg
  ·refine (h0.put s hg n hn hnN).imp (fun x _ => ?_)
   constructor
   ·rintro (h | rfl)
    ·exact h.elim
    ·exact ⟨0, _, rfl, by rw [List.map_singleton, hsp]; simp⟩
   ·rintro ⟨j, l, h2, h3⟩
    obtain ⟨_, rfl⟩ := (hone j l).mp h2
    rw [List.map_singleton, hsp, List.mem_singleton] at h3
    exact Or.inr h3
  ·intro j l hj x hx
   obtain ⟨rfl, rfl⟩ := (hone j l).mp hj
   rw [List.map_singleton, hsp] at hx
   exact hx
  ·intro m hm x hx
   have : m = 0 := by omega
   subst this
   refine ⟨0, _, Nat.le_refl _, rfl, ?_⟩
   rw [List.map_singleton, hsp]
   exact hx
 obtain ⟨L, seen, e1, h2⟩ := levs_loop K hK hM most m0 m1 s C B hC hB 12 0 rfl _ _ h1 k hk
 refine ⟨L, seen, ?_, h2⟩
 unfold spec_l3Levels.f
 have hlen : ((List.replicate (NN K most) false).length : Int) = ((NN K most : Nat) : Int) := by rw [List.length_replicate]
 rw [s_many_go K hK, Option.bind_some, wr (most + 1) (by omega) (by omega), wr ((most + 1) * manyP K) (by omega) (by omega), if_pos (by omega), if_pos (by show NN K most ≤ _; omega), Option.bind_some, hid, Option.bind_some, hn, if_pos (by omega), if_pos (by show (n : Int) < ((List.replicate (NN K most) false).length : Int); rw [hlen]; omega), Int.toNat_natCast]
 exact e1
end Go.Proofs.Ytmhnllcdfjggaaa.TT
