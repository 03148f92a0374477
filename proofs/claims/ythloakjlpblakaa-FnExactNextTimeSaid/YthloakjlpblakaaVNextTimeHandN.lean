/- TimesWith and NextTime: the walks. Conditions: those each lemma names. -/
import Derived.Test.YthloakjlpblakaaVNextTimeHandM
set_option linter.unusedVariables false
set_option linter.unusedSimpArgs false
namespace Go.Proofs.Ythloakjlpblakaa.PB
open Go.RowKit Go.Proofs.YthloakjlpblakaaW.PrintWords Go.Proofs.YthloakjlpblakaaW.PrintLast Go.Proofs.YthloakjlpblakaaW.PrintMore Go.Proofs.YthloakjlpblakaaX

theorem within_yes {n : Nat} (h : n ≤ 8) : impl_within.f (n : Int) 0 8 = some true := by unfold impl_within.f; rw [if_pos (by omega)]; simp only [decide_eq_true (show (n : Int) ≤ 8 by omega)]
theorem within_no {a : Int} (h : ¬ (0 ≤ a ∧ a ≤ 8)) : impl_within.f a 0 8 = some false := by
  unfold impl_within.f
  by_cases h0 : a ≥ 0
  · rw [if_pos h0, decide_eq_false (by omega)]
  · rw [if_neg h0]
theorem cmpL_pos {zs : List (Int × Int)} (h : 0 < zs.length) : 0 < (cmpL zs).length := by
  obtain ⟨ys, x, rfl⟩ : ∃ ys x, zs = ys ++ [x] := ⟨zs.dropLast, zs.getLast (by intro e; rw [e] at h; simp at h), (List.dropLast_concat_getLast _).symm⟩
  have := cmpL_last ys x
  cases hc : cmpL (ys ++ [x]) with
  | nil => rw [hc] at this; simp at this
  | cons a l => simp
/-! ### The next time -/
def gtT (t1 t2 : Int) (x : Int × Int) : Bool := decide (0 < wrap64 (wrap64 (x.1 * t2) - wrap64 (t1 * x.2)))
/-- The place of the first one behind a fraction. -/
def idxL (t1 t2 : Int) : List (Int × Int) → Nat → Int
  | [], _ => -1
  | x :: xs, i => if gtT t1 t2 x = true then (i : Int) else idxL t1 t2 xs (i + 1)
set_option maxHeartbeats 8000000 in
set_option maxRecDepth 100000 in
theorem gt_calls (w : World) (G : Nat) (t1 t2 x1 x2 : Int) (hG : w.heap[G]? = some (.cells #[.int .i64 t1, .int .i64 t2] 27 (0, 0))) :
    Calls Try.prog 66 #[.agg #[.int .i64 x1, .int .i64 x2], .pointer (some ⟨G, 0, none⟩)] w fun e w' => e = .returned (.bool (gtT t1 t2 (x1, x2))) ∧ Below w.heap.size w w' := by
  have HC := fun W => Aside0.mk (impl_compareFractions.calls x1 x2 t1 t2 _ W rfl)
  have HGe : Aside0 (gtT t1 t2 (x1, x2) = decide (0 < wrap64 (wrap64 (x1 * t2) - wrap64 (t1 * x2)))) := ⟨rfl⟩
  have h1 : Below w.heap.size w (w.alloc (.cells #[.int .i64 x1, .int .i64 x2] 27 (0, 0))) := below_alloc (Below.refl _ _) _
  have hG2 := blk_below hG h1
  have hX := blk_new w (.cells #[.int .i64 x1, .int .i64 x2] 27 (0, 0))
  generalize gtT t1 t2 (x1, x2) = q at HGe ⊢
  generalize wrap64 (wrap64 (x1 * t2) - wrap64 (t1 * x2)) = z at HC HGe
  go_enter Try.func66, Try.ntmps66
  go_upto_region 1 with fail
  have HB := Aside0.mk h1
  clear h1 hG
  generalize w.alloc (.cells #[.int .i64 x1, .int .i64 x2] 27 (0, 0)) = W at hG2 hX HB ⊢
  generalize w.heap.size = X at hX ⊢
  have c0 := (blk_cell hG2 0).trans rfl
  have c1 := (blk_cell hG2 1).trans rfl
  have d0 := (blk_cell hX 0).trans rfl
  have d1 := (blk_cell hX 1).trans rfl
  clear hG2 hX
  go_wp2_with (go_at_call 67; (with_reducible refine (HC _).out.mono ?_); rintro e w2 ⟨rfl, hb⟩; have HB2 := Aside0.mk (below_step HB.out hb); clear hb c0 c1 d0 d1)
  have hq := HGe.out
  subst hq
  go_ret
  exact ⟨rfl, HB2.out⟩
theorem idxL_eq (t1 t2 : Int) : ∀ (xs : List (Int × Int)) (i : Nat), idxL t1 t2 xs i = -1 ∨ ∃ j x, idxL t1 t2 xs i = ((i + j : Nat) : Int) ∧ xs[j]? = some x
  | [], i => Or.inl rfl
  | x :: xs, i => by
    unfold idxL
    split
    · exact Or.inr ⟨0, x, rfl, rfl⟩
    · rcases idxL_eq t1 t2 xs (i + 1) with h | ⟨j, y, h1, h2⟩
      · exact Or.inl h
      · exact Or.inr ⟨j + 1, y, by rw [h1]; congr 1; omega, by simpa using h2⟩
set_option maxHeartbeats 8000000 in
set_option maxRecDepth 100000 in
theorem index_calls (w : World) (g cap G : Nat) (t1 t2 : Int) (xs : List (Int × Int)) (hR : RowP w g cap xs) (hcap : xs.length ≤ cap) (hc : cap ≤ 9223372036854775807) (hG : w.heap[G]? = some (.cells #[.int .i64 t1, .int .i64 t2] 27 (0, 0))) :
    Calls Try.prog 65 #[.slice (some ⟨g, 0, none⟩) xs.length cap, .func (.func 66) #[] #[.pointer (some ⟨G, 0, none⟩)]] w fun e w' => e = .returned (.int .i64 (idxL t1 t2 xs 0)) ∧ Below w.heap.size w w' := by
  have HR := Aside0.mk hR
  have HG := Aside0.mk hG
  have hzl : xs.length ≤ 9223372036854775807 := Nat.le_trans hcap hc
  clear hR hG
  go_enter Try.func65, Try.ntmps65
  go_wp2
  go_loopg [8] (xs.length + 1) (fun kq v8 w' => ∃ i : Nat, v8 = .int .i64 (i : Int) ∧ Aside0 (kq + i = xs.length + 1 ∧ 1 ≤ kq) ∧ Aside0 (idxL t1 t2 xs 0 = idxL t1 t2 (xs.drop i) i) ∧ Aside0 (Below w.heap.size w w'))
  case atStart => exact ⟨0, rfl, ⟨by omega⟩, ⟨rfl⟩, ⟨Below.refl _ _⟩⟩
  case round =>
    obtain ⟨i, rfl, HK, HE, HB⟩ := hrel
    by_cases hi : i < xs.length
    · have hd : decide (i < xs.length) = true := decide_eq_true hi
      obtain ⟨e, he⟩ : ∃ e, gk = e + 1 := ⟨gk - 1, by have := HK.out; omega⟩
      subst he
      obtain ⟨x, hx⟩ : ∃ x, xs[i]? = some x := ⟨xs[i], List.getElem?_eq_getElem hi⟩
      have hdr : xs.drop i = x :: xs.drop (i + 1) := by
        rw [List.drop_eq_getElem_cons hi]
        rw [List.getElem?_eq_getElem hi] at hx
        rw [Option.some.inj hx]
      obtain ⟨cx1, cx2⟩ := HR.out.cells hx
      have cx1 : wr.cell? ⟨g, i * 2, none⟩ = some (.int .i64 x.1) := (HB.out.cell HR.out.lt).trans cx1
      have cx2 : wr.cell? ⟨g, i * 2 + 1, none⟩ = some (.int .i64 x.2) := (HB.out.cell HR.out.lt).trans cx2
      have HG2 := Aside0.mk (blk_below HG.out HB.out)
      have HI := Aside0.mk hi
      have HD := Aside0.mk hdr
      clear hx hdr
      cases hq : gtT t1 t2 x with
      | true =>
        have HQ := Aside0.mk hq
        clear hq
        go_wp2_with (go_at_call 66; (with_reducible refine (gt_calls _ G t1 t2 x.1 x.2 HG2.out).mono ?_); rintro e w2 ⟨rfl, hb⟩; have HB2 := Aside0.mk (below_step HB.out hb); clear hb; have hq := HQ.out)
        go_ret
        refine ⟨?_, HB2.out⟩
        rw [HE.out, HD.out]
        unfold idxL
        rw [if_pos HQ.out]
        rfl
      | false =>
        have HQ := Aside0.mk hq
        clear hq
        go_wp2_with (go_at_call 66; (with_reducible refine (gt_calls _ G t1 t2 x.1 x.2 HG2.out).mono ?_); rintro e w2 ⟨rfl, hb⟩; have HB2 := Aside0.mk (below_step HB.out hb); clear hb; have hq := HQ.out)
        go_roundg e
        case measure => omega
        case rel => exact ⟨i + 1, (by go_num), ⟨by have := HK.out; have := HI.out; omega⟩, ⟨by
          rw [HE.out, HD.out]
          show (if gtT t1 t2 x = true then (i : Int) else idxL t1 t2 (xs.drop (i + 1)) (i + 1)) = _
          rw [if_neg (by rw [HQ.out]; decide)]⟩, HB2⟩
    · have hd : decide (i < xs.length) = false := decide_eq_false hi
      have HE2 := HE.out
      rw [List.drop_eq_nil_of_le (by omega)] at HE2
      have HE3 := Aside0.mk HE2
      clear HE2 hi
      go_wp2
      go_ret
      exact ⟨by rw [HE3.out]; rfl, HB.out⟩
def nextF (k : Nat) (t1 t2 n : Int) : Option (Int × Int × Bool) := (impl_isFraction.f k t1 t2).bind fun b => if b = true then (if 0 ≤ n ∧ n ≤ 8 then (allF 64 n.toNat).bind fun o => (timesL o.flatten).bind fun ts => if o.flatten.length ≤ 1000000 then (if idxL t1 t2 ts 0 < 0 then some (0, 0, false) else (ts[(idxL t1 t2 ts 0).toNat]?).map fun x => (x.1, x.2, true)) else none else some (0, 0, false)) else some (0, 0, false)
def NPost (w : World) (r1 r2 : Int) (r3 : Bool) (e : Ending) (w' : World) : Prop := e = .returned (.tuple #[.agg #[.int .i64 r1, .int .i64 r2], .bool r3]) ∧ Below w.heap.size w w'
/-- The boxes of a call. -/
def NInv (w W : World) (t1 t2 : Int) : Prop := W.heap[w.heap.size]? = some (.cells #[.int .i64 t1, .int .i64 t2] 27 (0, 0)) ∧ W.heap[w.heap.size + 1]? = some (.cells #[.int .i64 0, .int .i64 0] 27 (0, 0)) ∧ Below w.heap.size w W
theorem NInv.init (w : World) (t1 t2 : Int) : NInv w ((w.alloc (.cells #[.int .i64 t1, .int .i64 t2] 27 (0, 0))).alloc (.cells #[.int .i64 0, .int .i64 0] 27 (0, 0))) t1 t2 :=
  ⟨blk_alloc (blk_new _ _) _, (by
    have h_ := blk_new (w.alloc (.cells #[.int .i64 t1, .int .i64 t2] 27 (0, 0))) (.cells #[.int .i64 0, .int .i64 0] 27 (0, 0))
    simpa using h_), below_alloc (below_alloc (Below.refl _ _) _) _⟩
theorem NInv.below {w W W2 : World} {t1 t2 : Int} (h : NInv w W t1 t2) (hb : Below W.heap.size W W2) : NInv w W2 t1 t2 := ⟨blk_below h.1 hb, blk_below h.2.1 hb, below_step h.2.2 hb⟩
set_option maxHeartbeats 8000000 in
set_option maxRecDepth 100000 in
theorem next_no1 (k : Nat) (t1 t2 n : Int) (w : World) (h : impl_isFraction.f k t1 t2 = some false) : Calls Try.prog 41 #[.agg #[.int .i64 t1, .int .i64 t2], .int .i64 n] w (NPost w 0 0 false) := by
  have HF := Aside0.mk h
  have HI := Aside0.mk (NInv.init w t1 t2)
  clear h
  go_enter Try.func41, Try.ntmps41
  go_wp2_with (go_at_call 63; (with_reducible refine (impl_isFraction.calls k t1 t2 false _ HF.out).mono ?_); rintro e w9 ⟨rfl, hb⟩; have HI2 := Aside0.mk (NInv.below HI.out hb); clear hb HI; have s0 := (blk_cell HI2.out.2.1 0).trans rfl; have s1 := (blk_cell HI2.out.2.1 1).trans rfl; have f0 := blk_frozen HI2.out.2.1 0; have f1 := blk_frozen HI2.out.2.1 1)
  exact bodyPost_ret (v := .tuple #[.agg #[.int .i64 0, .int .i64 0], .bool false]) (by simp [results, Try.results41, go_sem, s0, s1]) rfl ⟨rfl, below_set (below_set HI2.out.2.2 (Nat.le_succ _)) (Nat.le_succ _)⟩
set_option maxHeartbeats 8000000 in
set_option maxRecDepth 100000 in
theorem next_no2 (k : Nat) (t1 t2 n : Int) (w : World) (h : impl_isFraction.f k t1 t2 = some true) (hn : ¬ (0 ≤ n ∧ n ≤ 8)) : Calls Try.prog 41 #[.agg #[.int .i64 t1, .int .i64 t2], .int .i64 n] w (NPost w 0 0 false) := by
  have HF := Aside0.mk h
  have HW := Aside0.mk (within_no hn)
  have HI := Aside0.mk (NInv.init w t1 t2)
  clear h hn
  go_enter Try.func41, Try.ntmps41
  go_wp2_with (first
    | (go_at_call 63; (with_reducible refine (impl_isFraction.calls k t1 t2 true _ HF.out).mono ?_); rintro e w9 ⟨rfl, hb⟩; have HI2 := Aside0.mk (NInv.below HI.out hb); clear hb HI)
    | (go_at_call 49; (with_reducible refine (impl_within.calls n 0 8 false _ HW.out).mono ?_); rintro e w1 ⟨rfl, ⟨nd, rfl⟩⟩; have HI3 := Aside0.mk (NInv.below HI2.out (pw_below_drewN (Below.refl _ _) nd)); have s0 := (blk_cell HI3.out.2.1 0).trans rfl; have s1 := (blk_cell HI3.out.2.1 1).trans rfl; have f0 := blk_frozen HI3.out.2.1 0; have f1 := blk_frozen HI3.out.2.1 1))
  exact bodyPost_ret (v := .tuple #[.agg #[.int .i64 0, .int .i64 0], .bool false]) (by simp [results, Try.results41, go_sem, s0, s1]) rfl ⟨rfl, below_set (below_set HI3.out.2.2 (Nat.le_succ _)) (Nat.le_succ _)⟩
theorem parse_tot : ∀ (gss : List (List (Option Nat))) (n : Nat), gss.flatten.length ≤ n → tot gss ≤ n := fun gss n h => by rw [← flat_len]; exact h
set_option maxHeartbeats 8000000 in
set_option maxRecDepth 100000 in
theorem next_main (k : Nat) (t1 t2 : Int) (n : Nat) (w : World) (h : impl_isFraction.f k t1 t2 = some true) (hn : n ≤ 8) (o : List (List FT)) (ho : allF 64 n = some o) (ts : List (Int × Int)) (ht : timesL o.flatten = some ts) (hl : o.flatten.length ≤ 1000000) (r1 r2 : Int) (r3 : Bool)
    (hr : (if idxL t1 t2 ts 0 < 0 then some (0, 0, false) else (ts[(idxL t1 t2 ts 0).toNat]?).map fun x => (x.1, x.2, true)) = some (r1, r2, r3)) : Calls Try.prog 41 #[.agg #[.int .i64 t1, .int .i64 t2], .int .i64 (n : Int)] w (NPost w r1 r2 r3) := by
  have HF := Aside0.mk h
  have HW := Aside0.mk (within_yes hn)
  have HN := Aside0.mk hn
  have HO := Aside0.mk ho
  have HT := Aside0.mk ht
  have HLN := Aside0.mk hl
  have HRR := Aside0.mk hr
  have HI := Aside0.mk (NInv.init w t1 t2)
  have hts : 0 < ts.length := by
    obtain ⟨s, hs, h2⟩ := Option.bind_eq_some_iff.mp ht
    split at h2
    · obtain rfl := Option.some.inj h2
      exact cmpL_pos (by rw [List.length_map, sortS_length]; omega)
    · cases h2
  have HTS := Aside0.mk hts
  clear h hn ho ht hl hr hts
  go_enter Try.func41, Try.ntmps41
  go_upto_region 5 with (first
    | (go_at_call 63; (with_reducible refine (impl_isFraction.calls k t1 t2 true _ HF.out).mono ?_); rintro e w9 ⟨rfl, hb⟩; have HI2 := Aside0.mk (NInv.below HI.out hb); clear hb HI)
    | (go_at_call 49; (with_reducible refine (impl_within.calls n 0 8 true _ HW.out).mono ?_); rintro e w1 ⟨rfl, ⟨nd, rfl⟩⟩; have HI3 := Aside0.mk (NInv.below HI2.out (pw_below_drewN (Below.refl _ _) nd)); clear HI2)
    | (go_at_call 50; (with_reducible refine (allF_calls 64 n HN.out _ o HO.out).mono ?_); rintro e w2 ⟨v, rfl, hv, hb⟩; have HI4 := Aside0.mk (NInv.below HI3.out hb); obtain ⟨gss, hG, hA⟩ := kGs_of_kFs hv; have HG := Aside0.mk hG; have HA := Aside0.mk hA; clear hv hb HI3 hG hA)
    | (go_at_call 64; (with_reducible refine (concat_calls _ _ _ gss HG.out (parse_tot gss _ (by rw [HA.out.length]; exact HLN.out))).mono ?_); rintro e w3 ⟨u3, rfl, hu3, hb3⟩; have HI5 := Aside0.mk (NInv.below HI4.out hb3); have HU3 := Aside0.mk hu3; have HA3 := Aside0.mk (HA.out.below hb3); clear hu3 hb3 HI4)
    | (go_at_call 61; (with_reducible refine (timesOf_calls _ _ _ _ _ ts HU3.out HA3.out HT.out).mono ?_); rintro e w4 ⟨u4, rfl, hu4, hb4⟩; obtain ⟨g4, c4, rfl, hg4, _⟩ := Kd.R_form hu4 HTS.out; obtain ⟨hP, _, hc1, hc2, _⟩ := RowP_of_R hu4; have HI6 := Aside0.mk (NInv.below HI5.out hb4); have HIG := Aside0.mk HI6.out.1; have HP := Aside0.mk hP; have HCC := Aside0.mk (And.intro hc1 hc2); have HGE : Aside0 (w.heap.size + 1 < g4) := ⟨Nat.lt_of_lt_of_le (blk_lt HI5.out.2.1) hg4⟩; clear hu4 hb4 hP hc1 hc2 hg4 HI5)
    | (go_at_call 65; (with_reducible refine (index_calls _ g4 c4 w.heap.size t1 t2 ts HP.out HCC.out.1 (by have := HCC.out.2; unfold maxLen at this; omega) HIG.out).mono ?_); rintro e w5 ⟨rfl, hb5⟩; have HI7 := Aside0.mk (NInv.below HI6.out hb5); have HX : Aside0 (∀ i x, ts[i]? = some x → w5.cell? ⟨g4, i * 2, none⟩ = some (.int .i64 x.1) ∧ w5.cell? ⟨g4, i * 2 + 1, none⟩ = some (.int .i64 x.2)) := ⟨fun i x hx => ⟨(hb5.cell HP.out.lt).trans (HP.out.cells hx).1, (hb5.cell HP.out.lt).trans (HP.out.cells hx).2⟩⟩; clear hb5 HI6))
  have s0 := (blk_cell HI7.out.2.1 0).trans rfl
  have s1 := (blk_cell HI7.out.2.1 1).trans rfl
  have f0 := blk_frozen HI7.out.2.1 0
  have f1 := blk_frozen HI7.out.2.1 1
  have hr := HRR.out
  have hx := idxL_eq t1 t2 ts 0
  generalize idxL t1 t2 ts 0 = q at hr hx ⊢
  rcases hx with rfl | ⟨j, x, hq, hxx⟩
  · rw [if_pos (by decide)] at hr
    simp only [Option.some.injEq, Prod.mk.injEq] at hr
    obtain ⟨rfl, rfl, rfl⟩ := hr
    go_wp2
    exact bodyPost_ret (v := .tuple #[.agg #[.int .i64 0, .int .i64 0], .bool false]) (by simp [results, Try.results41, go_sem, s0, s1]) rfl ⟨rfl, below_set (below_set HI7.out.2.2 (Nat.le_succ _)) (Nat.le_succ _)⟩
  · rw [Nat.zero_add] at hq
    subst hq
    rw [if_neg (by omega), Int.toNat_natCast, hxx] at hr
    simp only [Option.map_some, Option.some.injEq, Prod.mk.injEq] at hr
    obtain ⟨rfl, rfl, rfl⟩ := hr
    have hj : j < ts.length := (List.getElem?_eq_some_iff.1 hxx).1
    have hd : decide ((j : Int) < 0) = false := decide_eq_false (by omega)
    obtain ⟨cx1, cx2⟩ := HX.out j x hxx
    clear hxx
    go_wp2
    exact bodyPost_ret (v := .tuple #[.agg #[.int .i64 x.1, .int .i64 x.2], .bool true]) (by simp [results, Try.results41, go_sem, s0, s1]) rfl ⟨rfl, below_set (below_set HI7.out.2.2 (Nat.le_succ _)) (Nat.le_succ _)⟩
theorem nextF_calls (k : Nat) (t1 t2 n : Int) (r1 r2 : Int) (r3 : Bool) (w : World) (h : nextF k t1 t2 n = some (r1, r2, r3)) :
    Calls Try.prog 41 #[.agg #[.int .i64 t1, .int .i64 t2], .int .i64 n] w fun e w' => e = .returned (.tuple #[.agg #[.int .i64 r1, .int .i64 r2], .bool r3]) ∧ Below w.heap.size w w' := by
  obtain ⟨b, hb, h⟩ := Option.bind_eq_some_iff.mp h
  cases b with
  | false =>
    simp only [Bool.false_eq_true, if_false, Option.some.injEq, Prod.mk.injEq] at h
    obtain ⟨rfl, rfl, rfl⟩ := h
    exact next_no1 k t1 t2 n w hb
  | true =>
    rw [if_pos rfl] at h
    by_cases hn : 0 ≤ n ∧ n ≤ 8
    · rw [if_pos hn] at h
      obtain ⟨o, ho, h2⟩ := Option.bind_eq_some_iff.mp h
      obtain ⟨ts, ht, h3⟩ := Option.bind_eq_some_iff.mp h2
      obtain ⟨m, rfl⟩ : ∃ m : Nat, n = (m : Int) := ⟨n.toNat, by omega⟩
      rw [Int.toNat_natCast] at ho
      by_cases hl : o.flatten.length ≤ 1000000
      · rw [if_pos hl] at h3
        exact next_main k t1 t2 m w hb (by omega) o ho ts ht hl r1 r2 r3 h3
      · rw [if_neg hl] at h3; cases h3
    · rw [if_neg hn] at h
      simp only [Option.some.injEq, Prod.mk.injEq] at h
      obtain ⟨rfl, rfl, rfl⟩ := h
      exact next_no2 k t1 t2 n w hb hn
end Go.Proofs.Ythloakjlpblakaa.PB
