/- The times of fuses in order: timesOf, TimesWith. Conditions: those each lemma names. -/
import Derived.Test.YthloakjlpblakaaVNextTimeHandL
set_option linter.unusedVariables false
set_option linter.unusedSimpArgs false
namespace Go.Proofs.Ythloakjlpblakaa.PB
open Go.RowKit Go.Proofs.YthloakjlpblakaaW.PrintWords Go.Proofs.YthloakjlpblakaaW.PrintLast Go.Proofs.YthloakjlpblakaaW.PrintMore Go.Proofs.YthloakjlpblakaaX

theorem reps_uncons {α : Type} {R : α → List Value → Prop} {p : α} {ps : List α} {cs : List Value} (h : Reps R 1 (p :: ps) cs) : ∃ c cs', cs = c :: cs' ∧ R p [c] ∧ Reps R 1 ps cs' := by
  obtain ⟨hl, hr⟩ := h
  cases cs with
  | nil => simp at hl
  | cons c cs' =>
    refine ⟨c, cs', rfl, by simpa using hr 0 p rfl, by simpa using hl, fun j q hj => ?_⟩
    have := hr (j + 1) q (by simpa using hj)
    simpa using this
theorem reps_cons {α : Type} {R : α → List Value → Prop} {p : α} {ps : List α} {c : Value} {cs : List Value} (h1 : R p [c]) (h2 : Reps R 1 ps cs) : Reps R 1 (p :: ps) (c :: cs) := by
  refine ⟨by have := h2.1; simp at this ⊢; omega, fun j q hj => ?_⟩
  cases j with
  | zero =>
    simp only [List.getElem?_cons_zero, Option.some.injEq] at hj
    subst hj
    simpa using h1
  | succ j =>
    have := h2.2 j q (by simpa using hj)
    simpa using this
theorem at2_of_reps {w : World} {b : Nat} {ok : Nat → Prop} : ∀ {l : List FT} {cs : List Value}, Reps (kF.M w b ok) 1 l cs → ∃ gs, Reps (kG.M w b ok) 1 gs cs ∧ gs.length = l.length ∧ At2 w l gs
  | [], cs, h => by
    have hl := h.1
    have : cs = [] := List.length_eq_zero_iff.1 (by simpa using hl)
    subst this
    exact ⟨[], Reps.none _ _, rfl, trivial⟩
  | p :: l, cs, h => by
    obtain ⟨c, cs', rfl, hp, h2⟩ := reps_uncons h
    obtain ⟨gs, h3, h4, h5⟩ := at2_of_reps h2
    obtain ⟨g, e, hF, _⟩ := hp
    obtain rfl : c = .pointer (some ⟨g, 0, none⟩) := by simpa using e
    exact ⟨some g :: gs, reps_cons (show kG.M w b ok (some g) [fptr (some g)] from rfl) h3, by simp [h4], hF.at_, h5⟩
theorem kG_of_kF {w : World} {e b : Nat} {ok : Nat → Prop} {v : Value} {l : List FT} (h : kF.R e w b ok v l) : ∃ gs, kG.R e w b ok v gs ∧ At2 w l gs := by
  obtain ⟨h0, inner, ho, hr⟩ := h
  obtain ⟨gs, h1, h2, h3⟩ := at2_of_reps hr
  exact ⟨gs, ⟨h0, inner, by rw [h2]; exact ho, h1⟩, h3⟩
theorem ats_of_reps {w : World} {b : Nat} {ok : Nat → Prop} : ∀ {ls : List (List FT)} {cs : List Value}, Reps ((Kd.slice 63 kF).M w b ok) 1 ls cs → ∃ gss, Reps ((Kd.slice 63 kG).M w b ok) 1 gss cs ∧ gss.length = ls.length ∧ At2 w ls.flatten gss.flatten
  | [], cs, h => by
    have hl := h.1
    have : cs = [] := List.length_eq_zero_iff.1 (by simpa using hl)
    subst this
    exact ⟨[], Reps.none _ _, rfl, trivial⟩
  | p :: ls, cs, h => by
    obtain ⟨c, cs', rfl, hp, h2⟩ := reps_uncons h
    obtain ⟨gss, h3, h4, h5⟩ := ats_of_reps h2
    obtain ⟨v, e, hR⟩ := hp
    obtain rfl : c = v := by simpa using e
    obtain ⟨gs, h6, h7⟩ := kG_of_kF hR
    exact ⟨gs :: gss, reps_cons ⟨c, rfl, h6⟩ h3, by simp [h4], h7.append h5⟩
theorem kGs_of_kFs {w : World} {e b : Nat} {ok : Nat → Prop} {v : Value} {ls : List (List FT)} (h : (Kd.slice 63 kF).R e w b ok v ls) : ∃ gss, (Kd.slice 63 kG).R e w b ok v gss ∧ At2 w ls.flatten gss.flatten := by
  obtain ⟨h0, inner, ho, hr⟩ := h
  obtain ⟨gss, h1, h2, h3⟩ := ats_of_reps hr
  exact ⟨gss, ⟨h0, inner, by rw [h2]; exact ho, h1⟩, h3⟩
/-- Small fractions, all of them. -/
def smL : List (Int × Int) → Option (List Sm)
  | [] => some []
  | x :: xs => if h : SmF x then (smL xs).map (fun s => ⟨x, h⟩ :: s) else none
theorem smL_map : ∀ {xs : List (Int × Int)} {s : List Sm}, smL xs = some s → s.map Subtype.val = xs
  | [], s, h => by obtain rfl := Option.some.inj h; rfl
  | x :: xs, s, h => by
    unfold smL at h
    split at h
    · obtain ⟨s', h1, rfl⟩ := Option.map_eq_some_iff.mp h
      rw [List.map_cons, smL_map h1]
    · cases h
theorem compact_calls2 (w : World) (g cap n : Nat) (zs : List (Int × Int)) (hR : RowP w g cap zs) (hn : n = zs.length) (hcap : zs.length ≤ cap) (hc : cap ≤ 9223372036854775807) :
    Calls Try.prog 79 #[.slice (some ⟨g, 0, none⟩) n cap] w fun e w' => e = .returned (.slice (some ⟨g, 0, none⟩) (cmpL zs).length cap) ∧ RowP w' g cap (cmpL zs) ∧ w.grownBy w' (some g) := by
  subst hn
  exact compact_calls w g cap zs hR hcap hc
def timesL (l : List FT) : Option (List (Int × Int)) := (smL (l.map FT.time)).bind fun s => if 0 < s.length ∧ s.length ≤ 1000000 then some (cmpL ((sortS s).map Subtype.val)) else none
set_option maxHeartbeats 8000000 in
set_option maxRecDepth 100000 in
theorem timesOf_calls (w : World) (b : Nat) (v : Value) (l : List FT) (gs : List (Option Nat)) (r : List (Int × Int)) (hR : Kd.R kG 63 w b (fun _ => True) v gs) (hA : At2 w l gs) (h : timesL l = some r) :
    Calls Try.prog 61 #[v] w fun e w' => ∃ u, e = .returned u ∧ Kd.R kP 27 w' w.heap.size (fun _ => True) u r ∧ Below w.heap.size w w' := by
  obtain ⟨s, hs, h⟩ := Option.bind_eq_some_iff.mp h
  split at h
  · rename_i hsl
    obtain rfl := Option.some.inj h
    have hmap := smL_map hs
    have hgl := hA.length
    have hll : gs.length = s.length := by rw [hgl, ← List.length_map (f := FT.time), ← hmap, List.length_map]
    obtain ⟨A, c0, rfl⟩ := Kd.R_slice hR
    have HR := Aside0.mk hR
    have HA := Aside0.mk hA
    have HM := Aside0.mk hmap
    have HS := Aside0.mk hsl
    have HN := Aside0.mk hgl
    have hm8 : gs.length ≤ 1000000 := by omega
    have HLL := Aside0.mk hll
    clear hR hA h hmap hgl hs hsl hll
    go_enter Try.func61, Try.ntmps61
    go_wp2_with ((with_reducible refine gate_dst (N := 6) rfl ?_); refine Kd.R_lit kP w.heap.size 27 ?hg (N := 6) ?hd (xs := ([] : List (Int × Int))) (inner := []) (ok := fun _ => True) (okp := fun _ => True) ?hr ?hp (fun _ hk => hk) trivial (Below.refl _ _) (Nat.le_refl _) (by simp) ?_; (case hd => rfl); (case hg => rfl); (case hr => first | (go_simp; done) | (go_simp; rfl)); (case hp => exact (Reps.none _ _)); intro v6 w2 ho hb2 hg_ hnew_; have HL := Aside0.mk ho; have HB := Aside0.mk hb2; have HR2 := Aside0.mk (Kd.R_below HR.out (below_none hg_)); have HA2 := Aside0.mk (HA.out.below (below_none hg_)); clear hg_ hnew_ ho hb2 HR HA)
    go_loopg [3, 9] (gs.length + 1) (fun kq v3 v9 w' => ∃ i : Nat, v9 = .int .i64 (i : Int) ∧ Aside0 (kq + i = gs.length + 1 ∧ 1 ≤ kq) ∧ Aside0 (Kd.R kP 27 w' w.heap.size (fun _ => True) v3 ((l.map FT.time).take i)) ∧ Aside0 (Kd.R kG 63 w' b (fun _ => True) (.slice A gs.length c0) gs) ∧ Aside0 (At2 w' l gs) ∧ Aside0 (Below w.heap.size w w'))
    case atStart => exact ⟨0, rfl, ⟨by omega⟩, HL, HR2, HA2, HB⟩
    case round =>
      clear HL HR2 HA2 HB
      obtain ⟨i, rfl, HK, HL, HR, HA, HB⟩ := hrel
      by_cases hi : i < gs.length
      · have hd : decide (i < gs.length) = true := decide_eq_true hi
        obtain ⟨e, he⟩ : ∃ e, gk = e + 1 := ⟨gk - 1, by have := HK.out; omega⟩
        subst he
        obtain ⟨t, ht⟩ : ∃ t, l[i]? = some t := ⟨l[i]'(by have := HN.out; omega), List.getElem?_eq_getElem _⟩
        obtain ⟨g, hgs, hF⟩ := HA.out.get i t ht
        obtain ⟨ad, cap, c, e8, hM, hc⟩ := R_get HR.out i (some g) hgs
        injection e8 with e8a e8b e8c
        subst e8a e8c
        obtain rfl : c = [.pointer (some ⟨g, 0, none⟩)] := hM
        have cell12 : wr.cell? (ad.add i) = some (.pointer (some ⟨g, 0, none⟩)) := by have := hc 0 _ rfl; simpa [kG, Kd.scalar] using this
        obtain ⟨va, vb, hcell⟩ := hF.cells
        have c3 : wr.cell? ⟨g, 3, none⟩ = some (.int .i64 t.time.1) := (blk_cell hcell 3).trans rfl
        have c4 : wr.cell? ⟨g, 4, none⟩ = some (.int .i64 t.time.2) := (blk_cell hcell 4).trans rfl
        have HI := Aside0.mk hi
        have HTK : Aside0 ((l.map FT.time).take (i + 1) = (l.map FT.time).take i ++ [t.time]) := ⟨by rw [List.take_add_one, List.getElem?_map, ht]; rfl⟩
        have HNO := Aside0.mk (R_no66 HL.out (by decide))
        have HLE : Aside0 (((l.map FT.time).take i).length ≤ 1000000) := ⟨by rw [List.length_take]; omega⟩
        clear hc hgs ht hF hcell
        generalize t.time = tt at c3 c4 HTK
        go_wp2_with ((with_reducible refine gate_builtin (b := .append) (xs := #[.tmp 13, .tmp 18]) rfl ?_); at_builtin; refine Kd.R_append kP (w0 := w) w.heap.size rfl (.tmp 13) (.tmp 18) 37 27 (.agg #[.int .i64 0, .int .i64 0]) 16 rfl Try.underlying37 kP_info rfl (by decide) (by decide) u3 ((l.map FT.time).take i) tt [.int .i64 tt.1, .int .i64 tt.2] (fun _ => True) (fun q => some q ≠ u3.ownBlock) rfl rfl ?aP (fun _ hk => ⟨trivial, hk⟩) (fun _ _ => trivial) ?aO ?aB ?aS ?aL ?_; (case aP => exact kP_M _ _ _ _); (case aB => exact HB.out); (case aO => exact HL.out); (case aS => exact below_size HB.out); (case aL => have := HLE.out; omega); intro v1 w10 ho hb hg hat; have HL2 := Aside0.mk ho; have HB2 := Aside0.mk hb; have HR2 := Aside0.mk (Kd.R_over HR.out HL.out (by intro q hq; simp [kG, Kd.scalar] at hq; omega) hg); have HA2 := Aside0.mk (HA.out.over hg HNO.out); clear ho hb hg hat)
        go_roundg e
        case measure => omega
        case rel => exact ⟨i + 1, (by go_num), ⟨by have := HK.out; have := HI.out; omega⟩, (by rw [HTK.out]; exact HL2), HR2, HA2, HB2⟩
      · have hd : decide (i < gs.length) = false := decide_eq_false hi
        have hml : (l.map FT.time).length = s.length := by rw [← HM.out, List.length_map]
        have HL3 := HL.out
        rw [List.take_of_length_le (by have := HLL.out; omega)] at HL3
        obtain ⟨g3, cp3, rfl, _⟩ := Kd.R_form HL3 (by have := HS.out; omega)
        obtain ⟨hP, _, hc1, hc2, hb3⟩ := RowP_of_R HL3
        rw [← HM.out] at hP hc1
        rw [List.length_map] at hc1
        have HP := Aside0.mk hP
        have HC := Aside0.mk (And.intro hc1 (And.intro hc2 hb3))
        clear HL3 hP hc1 hc2 hb3 hi HL HR HA
        rw [hml]
        clear hml
        go_wp2_with (first
          | (go_at_call 78; (with_reducible refine (sort_calls _ g3 cp3 s HP.out (by have := HS.out; omega)).mono ?_); rintro e w4 ⟨rfl, hP4, hg4⟩; have HP4 := Aside0.mk hP4; have HB4 := Aside0.mk (HB.out.grown hg4 (below_size HB.out) (fun q hq => by cases hq; exact HC.out.2.2)); clear hP4 hg4)
          | (go_at_call 79; (with_reducible refine (compact_calls2 _ g3 cp3 s.length ((sortS s).map Subtype.val) HP4.out (by rw [List.length_map, sortS_length]) (by rw [List.length_map, sortS_length]; exact HC.out.1) (by have := HC.out.2.1; unfold maxLen at this; omega)).mono ?_); rintro e w5 ⟨rfl, hP5, hg5⟩; have HP5 := Aside0.mk hP5; have HB5 := Aside0.mk (HB4.out.grown hg5 (below_size HB4.out) (fun q hq => by cases hq; exact HC.out.2.2)); clear hP5 hg5))
        go_ret
        exact ⟨_, rfl, R_of_RowP HP5.out (Nat.le_trans (cmpL_len _) (by rw [List.length_map, sortS_length]; exact HC.out.1)) HC.out.2.1 HC.out.2.2, HB5.out⟩
  · cases h
end Go.Proofs.Ythloakjlpblakaa.PB
