-- Printed by a program of this session's own.
import Derived.Test.YthoblgccnkjnoaaVFirstRopPAx0
import Derived.Test.YthoblgccnkjnoaaVFirstRopPAx8
import Derived.Test.YthoblgccnkjnoaaVFirstRopPAx9
import Derived.Test.YthoblgccnkjnoaaVFirstRopPAx10
import Derived.Test.YthoblgccnkjnoaaVFirstRopPAx11
import Derived.Test.YthoblgccnkjnoaaVFirstRopPAx12
namespace Go.Proofs.Ythoblgccnkjnoaa.PA
open Go.RowKit Go.Proofs.YthoblgccnkjnoaaW.PrintWords Go.Proofs.YthoblgccnkjnoaaW.PrintLast Go.Proofs.YthoblgccnkjnoaaW.PrintMore Go.Proofs.YthoblgccnkjnoaaX
  -- for this text's walks alone
set_option linter.unusedVariables false
set_option linter.unusedSimpArgs false

/-! ### Ropes.each with a function that it tells -/
abbrev Ev := Int × List S22
/-- What stands in memory as it stood, but for S. -/
structure BelS (S : Nat → Prop) (w W : World) : Prop where
  os : W.os = w.os
  tape : W.tape = w.tape
  output : W.output = w.output
  size : w.heap.size ≤ W.heap.size
  block : ∀ k, k < w.heap.size → ¬ S k → W.heap[k]? = w.heap[k]?
/-- The same, and what holds of the blocks below N. -/
structure BI (S : Nat → Prop) (w : World) (N : Nat) (I : World → Prop) (W : World) : Prop where
  bs : BelS S w W
  le : w.heap.size ≤ N
  sz : N ≤ W.heap.size
  inv : ∀ W', (∀ k, k < N → W'.heap[k]? = W.heap[k]?) → I W'
section
variable {S : Nat → Prop} {w W W2 : World} {N : Nat} {I : World → Prop} {J : List Ev → World → Prop}
theorem bs_start {es : List Ev} (hst : ∀ es W W', J es W → (∀ k, k < W.heap.size → W'.heap[k]? = W.heap[k]?) → J es W') (hj : J es w) : BI S w w.heap.size (J es) w :=
  ⟨⟨rfl, rfl, rfl, Nat.le_refl _, fun _ _ _ => rfl⟩, Nat.le_refl _, Nat.le_refl _, fun W' hW => hst _ _ _ hj hW⟩
theorem bs_app (h : BI S w N I W) (k : Below N W W2) : BI S w N I W2 :=
  ⟨⟨k.os.trans h.bs.os, k.tape.trans h.bs.tape, k.output.trans h.bs.output, Nat.le_trans h.bs.size k.size, fun i hi hs => (k.block i (Nat.lt_of_lt_of_le hi h.le)).trans (h.bs.block i hi hs)⟩, h.le, Nat.le_trans h.sz k.size, fun W' hW => h.inv W' (fun i hi => (hW i hi).trans (k.block i hi))⟩
theorem bs_step (h : BI S w N I W) (k : Below W.heap.size W W2) : BI S w N I W2 := bs_app h (k.mono h.sz)
theorem bs_drew1 (h : BI S w N I W) : BI S w N I W.drew := bs_step h (below_drew1 (Below.refl _ _))
theorem bs_set {g j : Nat} {v : Value} (h : BI S w N I W) (hg : N ≤ g) : BI S w N I (W.setCell ⟨g, j, none⟩ v) := bs_app h ((Below.refl N W).setCell hg _)
theorem bs_size (h : BI S w N I W) : N ≤ W.heap.size := h.sz
theorem bs_size0 (h : BI S w N I W) : w.heap.size ≤ W.heap.size := h.bs.size
theorem bs_now (h : BI S w N I W) : I W := h.inv W (fun _ _ => rfl)
theorem bs_next {es : List Ev} (hst : ∀ es W W', J es W → (∀ k, k < W.heap.size → W'.heap[k]? = W.heap[k]?) → J es W') (h : BI S w N I W) (hb : BelS S W W2) (hj : J es W2) : BI S w W2.heap.size (J es) W2 :=
  ⟨⟨hb.os.trans h.bs.os, hb.tape.trans h.bs.tape, hb.output.trans h.bs.output, Nat.le_trans h.bs.size hb.size, fun i hi hs => (hb.block i (Nat.lt_of_lt_of_le hi h.bs.size) hs).trans (h.bs.block i hi hs)⟩, Nat.le_trans h.bs.size hb.size, Nat.le_refl _, fun W' hW => hst _ _ _ hj hW⟩
theorem bs_end {es1 es r : List Ev} (h : BI S w N (J es1) W) (q : es1 ++ [] = es ++ r) : J (es ++ r) W ∧ BelS S w W := by
  rw [List.append_nil] at q
  exact ⟨q ▸ bs_now h, h.bs⟩
theorem bs_C {A : Option Addr} {n : Nat} {xs : List S22} (hc : Kd.C k22 w A n xs) (h : BI S w N I W) (hns : ∀ ad, A = some ad → 0 < n → ¬ S ad.block) : Kd.C k22 W A n xs :=
  Kd.C_foot_neS (fun h => h) hc hns W ⟨h.bs.size, h.bs.block⟩
theorem blk_bs {g : Nat} {o : Obj} (h : W.heap[g]? = some o) (hb : BelS S W W2) (hg : ¬ S g) : W2.heap[g]? = some o := (hb.block g (blk_lt h) hg).trans h
theorem R_bs {e base : Nat} {ok : Nat → Prop} {v : Value} {xs : List S22} (h : Kd.R k22 e W base ok v xs) (hb : BelS S W W2) (hS : ∀ k, S k → k < base) : Kd.R k22 e W2 base ok v xs :=
  Kd.R_mono (Kd.R_step (Kd.R_bound h) (fun k hk hlt => hb.block k hlt (fun hs => absurd (hS k hs) (Nat.not_lt.2 hk.2.1)))) (fun _ hk => hk.1)
theorem nS_R {e base : Nat} {A : Option Addr} {c : Nat} {xs : List S22} (h : Kd.R k22 e W base (fun k => ¬ S k) (.slice A xs.length c) xs) : ∀ ad, A = some ad → 0 < xs.length → ¬ S ad.block := by
  intro ad hA hp hs
  obtain ⟨g, cap, e1, hb, _⟩ := Kd.R_form h hp
  injection e1 with e2 _ _
  rw [hA] at e2
  obtain rfl := Option.some.inj e2
  exact h.1 g (by rw [hA]; rfl) hs
theorem R_bi {base0 : Nat} {v : Value} {xs : List S22} (h : Kd.R k22 22 w base0 (fun k => ¬ S k) v xs) (hb : BI S w N I W) : Kd.R k22 22 W base0 (fun k => ¬ S k) v xs := Kd.R_step h (fun k hk hlt => hb.bs.block k hlt hk)
theorem R_rec {base0 base : Nat} {ok : Nat → Prop} {v : Value} {xs : List S22} (h : Kd.R k22 22 W base ok v xs) (hS : ∀ k, S k → k < w.heap.size) (hB : BI S w base I W2) (hb0 : base0 ≤ w.heap.size) : Kd.R k22 22 W base0 (fun k => ¬ S k) v xs :=
  Kd.R_lower (Kd.R_mono (Kd.R_bound h) (fun k hk hs => absurd (hS k hs) (Nat.not_lt.2 (Nat.le_trans hB.le hk.2.1)))) (Nat.le_trans hb0 hB.le)
end
mutual
def each_l0 : Nat → Int → List (S22) → List (S22) → Int → Int → Int → Int → Int → Int → Int → Int → Option (List Ev)
  | 0, _, _, _, _, _, _, _, _, _, _, _ => none
  | k + 1, x1, x2, x17, x18, x19, x125000, x125001, x125002, x125003, x125004, x125005 => if x19 < x18 then (if 0 ≤ x19 then (if x19 < (x17.length : Int) then ((impl_Ropes_light.f k x125000 x125001 x125002 x125003 x125004 x125005 ((rd_T22 x17 x19).f0) ((rd_T22 x17 x19).f1) ((rd_T22 x17 x19).f2)).bind fun bt130 => ((impl_Ropes_told.f k bt130.1 bt130.2.1 bt130.2.2.1 bt130.2.2.2.1 bt130.2.2.2.2.1 bt130.2.2.2.2.2.1).bind fun t138 => (if bt130.2.2.2.2.2.2 = true then (each_j1 k x1 x2 t138 x17 x18 x19 (decide (t138 > 0)) x125000 x125001 x125002 x125003 x125004 x125005 ((rd_T22 x17 x19).f0) ((rd_T22 x17 x19).f1) ((rd_T22 x17 x19).f2) bt130.1 bt130.2.1 bt130.2.2.1 bt130.2.2.2.1 bt130.2.2.2.2.1 bt130.2.2.2.2.2.1) else (each_j1 k x1 x2 t138 x17 x18 x19 false x125000 x125001 x125002 x125003 x125004 x125005 ((rd_T22 x17 x19).f0) ((rd_T22 x17 x19).f1) ((rd_T22 x17 x19).f2) bt130.1 bt130.2.1 bt130.2.2.1 bt130.2.2.2.1 bt130.2.2.2.2.1 bt130.2.2.2.2.2.1)))) else (none)) else (none)) else (some ([] : List Ev))
def each_j1 : Nat → Int → List (S22) → Int → List (S22) → Int → Int → Bool → Int → Int → Int → Int → Int → Int → Int → Int → Int → Int → Int → Int → Int → Int → Int → Option (List Ev)
  | 0, _, _, _, _, _, _, _, _, _, _, _, _, _, _, _, _, _, _, _, _, _, _ => none
  | k + 1, x1, x2, x12, x17, x18, x19, x35, x125000, x125001, x125002, x125003, x125004, x125005, x130000, x130001, x130002, x138000, x138001, x138002, x138003, x138004, x138005 => if x35 = true then ((impl_Ropes_burn.f k x138000 x138001 x138002 x138003 x138004 x138005 x12).bind fun bt139 => ((slices_Clone_3_int_3_int.f x2).bind fun t145 => ((some (([(⟨x130000, x130001, x130002⟩ : S22)] : List (S22)) : List (S22))).bind fun y148 => (if t145.length + y148.length < 5864062014805 then ((each_f k bt139.1 bt139.2.1 bt139.2.2.1 bt139.2.2.2.1 bt139.2.2.2.2.1 bt139.2.2.2.2.2 (wrap64 (x1 + x12)) (t145 ++ y148)).bind fun t154 => ((each_l0 k x1 x2 x17 x18 (wrap64 (x19 + 1)) x125000 x125001 x125002 x125003 x125004 x125005).bind fun ev2 => some (t154 ++ ev2))) else (none))))) else (each_l0 k x1 x2 x17 x18 (wrap64 (x19 + 1)) x125000 x125001 x125002 x125003 x125004 x125005)
def each_f : Nat → Int → Int → Int → Int → Int → Int → Int → List (S22) → Option (List Ev)
  | 0, _, _, _, _, _, _, _, _ => none
  | k + 1, a0_0, a0_1, a0_2, a0_3, a0_4, a0_5, a1, l2 => (impl_lightings.f k).bind fun t125 => ((each_l0 k a1 l2 t125 (t125.length : Int) 0 a0_0 a0_1 a0_2 a0_3 a0_4 a0_5).bind fun ev => some ((a1, l2) :: ev))
end

def each_T8 : Bool × List (List Nat × List Nat) := (true, [([], []), ([], []), ([0, 1], [0, 1]), ([], []), ([], []), ([3, 4], [3, 4]), ([], []), ([6, 2], [6]), ([], []), ([8], [8]), ([7, 9, 7], [7, 9]), ([], []), ([2, 5, 10, 11, 10], [2, 5, 10, 11])])
def each_B8 : List Nat := [0, 0, 3, 0, 0, 24, 0, 71, 0, 256, 967, 0, 4095]
theorem each_tab8 : rtab .any (opsOf Try.f27 8) = each_T8 := by kernel_rfl
theorem each_bits8 : waitsOk each_T8.2 each_B8 = true := by kernel_rfl
set_option maxHeartbeats 8000000 in
set_option maxRecDepth 100000 in
theorem each_calls (base0 : Nat) (S : Nat → Prop) (J : List Ev → World → Prop) (gT : Nat) (gF : Nat) (gB : Nat) (hst : ∀ es W W', J es W → (∀ k, k < W.heap.size → W'.heap[k]? = W.heap[k]?) → J es W')
    (HT : ∀ (es : List Ev) (t : Int) (p : List S22) (A : Option Addr) (c : Nat) (W : World), Kd.R k22 22 W base0 (fun k => ¬ S k) (.slice A p.length c) p → J es W → Calls Try.prog 28 #[.int .i64 t, .slice A p.length c, .pointer (some ⟨gT, 0, none⟩), .pointer (some ⟨gF, 0, none⟩), .pointer (some ⟨gB, 0, none⟩)] W fun e W' => e = .returned (.tuple #[]) ∧ J (es ++ [(t, p)]) W' ∧ BelS S W W')
    (k : Nat) : ∀ (a0_0 : Int) (a0_1 : Int) (a0_2 : Int) (a0_3 : Int) (a0_4 : Int) (a0_5 : Int) (a1 : Int) (A2 : Option Addr) (c2 : Nat) (l2 : List (S22)) (r : List Ev) (es : List Ev) (w : World) (hr2 : Kd.R k22 22 w base0 (fun k => ¬ S k) (.slice A2 l2.length c2) l2) (hb0 : base0 ≤ w.heap.size) (hS : ∀ k, S k → k < w.heap.size) (hj : J es w) (h : each_f k a0_0 a0_1 a0_2 a0_3 a0_4 a0_5 a1 l2 = some r),
    Calls Try.prog 27 #[.agg #[.int .i64 a0_0, .int .i64 a0_1, .int .i64 a0_2, .int .i64 a0_3, .int .i64 a0_4, .int .i64 a0_5], .int .i64 a1, .slice A2 l2.length c2, (.func (.func 28) #[] #[.pointer (some ⟨gT, 0, none⟩), .pointer (some ⟨gF, 0, none⟩), .pointer (some ⟨gB, 0, none⟩)])] w fun e w' => e = .returned (.tuple #[]) ∧ J (es ++ r) w' ∧ BelS S w w' := by
  induction k using Nat.strongRecOn with
  | _ k ih =>
  intro a0_0 a0_1 a0_2 a0_3 a0_4 a0_5 a1 A2 c2 l2 r es w hr2 hb0 hS hj h
  cases k with
  | zero => exact absurd h (by simp [each_f])
  | succ k =>
  simp only [each_f] at h
  have hu28 := Try.underlying28
  have hu22 := Try.underlying22
  have HO2 := Aside0.mk hr2
  have HR2 := Aside0.mk (Kd.R_reads' hr2).2.2
  have HC2 := Aside0.mk (Kd.R_reads' hr2).2.1
  have HNS := Aside0.mk (nS_R hr2)
  have HSS := Aside0.mk hS
  have HB0 := Aside0.mk hb0
  clear hr2 hb0 hS
  have HB := Aside0.mk (bs_start (S := S) hst hj)
  clear hj
  have H : ((impl_lightings.f k).bind fun t125 => ((each_l0 k a1 l2 t125 (t125.length : Int) 0 a0_0 a0_1 a0_2 a0_3 a0_4 a0_5).bind fun ev => some ((a1, l2) :: ev))) = some r := h
  clear h
  replace H := Option.bind_eq_some_iff.mp H
  obtain ⟨t125, A50, H⟩ := H
  obtain ⟨ev0, H, Hr⟩ := Option.bind_eq_some_iff.mp H
  have ER := Aside0.mk (Option.some.inj Hr)
  clear Hr
  have A5 := Aside0.mk A50
  clear A50
  have H' := Aside0.mk H
  clear H
  go_enter Try.func27, Try.ntmps27
  go_wp2_with (first | ((with_reducible refine gate_dst (N := 4) rfl ?_); refine box_event ?hg (N := 4) ?hd (cs := #[.int .i64 a0_0, .int .i64 a0_1, .int .i64 a0_2, .int .i64 a0_3, .int .i64 a0_4, .int .i64 a0_5]) (t := 28) ?hr ?_; (case hd => rfl); (case hg => rfl); (case hr => first | (go_simp; done) | (go_simp; rfl)); intro gb124 hg w6 hbox hb; have n0_ := Aside0.mk (bs_step (by repeat (first | (with_reducible first | exact HB.out | apply bs_alloc | apply bs_drewN | apply bs_drew1) | exact HB.out)) hb); have n1_ := Aside0.mk (hbox); have n2_ := Aside0.mk ((by rw [hg]; exact (bs_size (by repeat (first | (with_reducible first | exact HB.out | apply bs_alloc | apply bs_drewN | apply bs_drew1) | exact HB.out))) : w.heap.size ≤ gb124)); have n3_ := Aside0.mk ((by rw [hg]; exact (bs_size (by repeat (first | (with_reducible first | exact HB.out | apply bs_alloc | apply bs_drewN | apply bs_drew1) | exact HB.out))) : w.heap.size ≤ gb124)); clear HB; have HB := n0_; have BK124 := n1_; have GW124 := n2_; have GE124 := n3_; clear n0_ n1_ n2_ n3_; clear hb hbox hg) | (go_at_call 28; (with_reducible refine (HT es a1 l2 A2 c2 _ (R_bi HO2.out (by repeat (first | (with_reducible first | exact HB.out | apply bs_alloc | apply bs_drewN | apply bs_drew1) | exact HB.out))) (bs_now (by repeat (first | (with_reducible first | exact HB.out | apply bs_alloc | apply bs_drewN | apply bs_drew1) | exact HB.out)))).mono ?_); rintro e w5 ⟨rfl, hJ, hbs⟩; have n0_ := Aside0.mk (blk_bs (g := gb124) (by (with_reducible repeat (first | refine blk_drewN ?_ _ | refine blk_drew ?_ | refine blk_alloc ?_ _)); exact BK124.out) hbs (fun hs => absurd (HSS.out _ hs) (Nat.not_lt.2 GE124.out))); have n1_ := Aside0.mk (bs_next hst (by repeat (first | (with_reducible first | exact HB.out | apply bs_alloc | apply bs_drewN | apply bs_drew1) | exact HB.out)) hbs hJ); clear BK124 HB; have BK124 := n0_; have HB := n1_; clear n0_ n1_ hbs hJ) | ((with_reducible refine gate_callee (f := 44) rfl ?_); refine goesL_ (some 17) rfl rfl Try.func44 (by kernel_rfl) rfl #[] rfl (by (try simp only [List.map_toArray, List.map_cons, List.map_nil]); first | done | rfl | (simp only [List.length_drop, List.length_take]; rfl)) ?_; (with_reducible refine (impl_lightings.calls k  t125 _ A5.out).mono ?_); rintro e w7 ⟨v126, rfl, ho0, hb⟩; refine ⟨_, rfl, ?_⟩; have n0_ := Aside0.mk (Kd.R_lower ho0 (bs_size0 (by repeat (first | (with_reducible first | exact HB.out | apply bs_alloc | apply bs_drewN | apply bs_drew1) | exact HB.out)))); have n1_ := Aside0.mk (blk_below (g := gb124) (o := .cells #[.int .i64 a0_0, .int .i64 a0_1, .int .i64 a0_2, .int .i64 a0_3, .int .i64 a0_4, .int .i64 a0_5] 28 (0, 0)) (by (with_reducible repeat (first | refine blk_drewN ?_ _ | refine blk_drew ?_ | refine blk_alloc ?_ _)); exact BK124.out) hb); have n2_ := Aside0.mk (bs_step (by repeat (first | (with_reducible first | exact HB.out | apply bs_alloc | apply bs_drewN | apply bs_drew1) | exact HB.out)) hb); clear BK124; clear HB; have HO127 := n0_; have BK124 := n1_; have HB := n2_; clear n0_ n1_ n2_; (try clear hb); (try clear hb2); (try clear hk); (try clear hi); (try clear ho0); obtain ⟨Ao8, co8, eo8⟩ := Kd.R_slice HO127.out; subst eo8))
  go_loopg [19] k (fun kq v19 w' => ∃ (x19_1 : Int) (N1 : Nat) (es1 : List Ev) (ev1 : List Ev), v19 = .int .i64 x19_1 ∧ Aside0 (each_l0 kq a1 l2 t125 (t125.length : Int) x19_1 a0_0 a0_1 a0_2 a0_3 a0_4 a0_5 = some ev1) ∧ Aside0 (es1 ++ ev1 = es ++ r) ∧ Aside0 (kq ≤ k) ∧ Aside0 (Kd.R k22 22 w' w.heap.size (fun _ => True) (.slice Ao8 t125.length co8) t125) ∧ Aside0 (w'.heap[gb124]? = some (.cells #[.int .i64 a0_0, .int .i64 a0_1, .int .i64 a0_2, .int .i64 a0_3, .int .i64 a0_4, .int .i64 a0_5] 28 (0, 0))) ∧ Aside0 (BI S w N1 (J es1) w'))
  case atStart => exact ⟨(0), _, (es ++ [(a1, l2)]), ev0, (by first | rfl | (simp; done) | (simp [*]; done)), H', ⟨by rw [← ER.out]; simp⟩, ⟨Nat.le_refl _⟩, ⟨by (with_reducible repeat (first | apply Kd.R_alloc | apply Kd.R_drewN | apply Kd.R_drew)); exact HO127.out⟩, ⟨by (with_reducible repeat (first | refine blk_drewN ?_ _ | refine blk_drew ?_ | refine blk_alloc ?_ _)); exact BK124.out⟩, ⟨by repeat (first | (with_reducible first | exact HB.out | apply bs_alloc | apply bs_drewN | apply bs_drew1) | exact HB.out)⟩⟩
  case round =>
    clear H'
    try clear c2
    try clear p2
    try clear c4
    obtain ⟨x19_1, N1, es1, ev1, rfl, HA, EQ, HK1, HO_17, BK124, HB⟩ := hrel
    cases gk with
    | zero => exact absurd HA.out (by simp [each_l0])
    | succ k1 =>
      have H := HA.out
      clear HA
      simp only [each_l0] at H
      by_cases c9 : x19_1 < (t125.length : Int)
      · rw [if_pos c9] at H
        have c9b0 : decide (x19_1 < (t125.length : Int)) = true := decide_eq_true c9
        clear c9
        by_cases c10 : 0 ≤ x19_1
        · rw [if_pos c10] at H
          have c10b0 : decide (0 ≤ x19_1) = true := decide_eq_true c10
          clear c10
          by_cases c11 : x19_1 < (t125.length : Int)
          · rw [if_pos c11] at H
            have c11b0 : decide (x19_1 < (t125.length : Int)) = true := decide_eq_true c11
            clear c11
            replace H := Option.bind_eq_some_iff.mp H
            obtain ⟨⟨t130, t131, t132, t133, t134, t135, t136⟩, A120, H⟩ := H
            replace H : ((impl_Ropes_told.f k1 t130 t131 t132 t133 t134 t135).bind fun t138 => (if t136 = true then (each_j1 k1 a1 l2 t138 t125 (t125.length : Int) x19_1 (decide (t138 > 0)) a0_0 a0_1 a0_2 a0_3 a0_4 a0_5 ((rd_T22 t125 x19_1).f0) ((rd_T22 t125 x19_1).f1) ((rd_T22 t125 x19_1).f2) t130 t131 t132 t133 t134 t135) else (each_j1 k1 a1 l2 t138 t125 (t125.length : Int) x19_1 false a0_0 a0_1 a0_2 a0_3 a0_4 a0_5 ((rd_T22 t125 x19_1).f0) ((rd_T22 t125 x19_1).f1) ((rd_T22 t125 x19_1).f2) t130 t131 t132 t133 t134 t135))) = some ev1 := H
            have A12 := Aside0.mk A120
            clear A120
            replace H := Option.bind_eq_some_iff.mp H
            obtain ⟨t138, A130, H⟩ := H
            replace H : (if t136 = true then (each_j1 k1 a1 l2 t138 t125 (t125.length : Int) x19_1 (decide (t138 > 0)) a0_0 a0_1 a0_2 a0_3 a0_4 a0_5 ((rd_T22 t125 x19_1).f0) ((rd_T22 t125 x19_1).f1) ((rd_T22 t125 x19_1).f2) t130 t131 t132 t133 t134 t135) else (each_j1 k1 a1 l2 t138 t125 (t125.length : Int) x19_1 false a0_0 a0_1 a0_2 a0_3 a0_4 a0_5 ((rd_T22 t125 x19_1).f0) ((rd_T22 t125 x19_1).f1) ((rd_T22 t125 x19_1).f2) t130 t131 t132 t133 t134 t135)) = some ev1 := H
            have A13 := Aside0.mk A130
            clear A130
            have HC14 := Aside0.mk H
            clear H
            have p128 : 0 ≤ (x19_1 : Int) := of_decide_eq_true (by first | (with_reducible assumption) | assumption)
            have q128 : x19_1 < (t125.length : Int) := of_decide_eq_true (by first | (with_reducible assumption) | assumption)
            obtain ⟨ad128, e128, hx128_0, hx128_1, hx128_2⟩ := at_T22 (Kd.R_reads' HO_17.out).2.2 x19_1 p128 q128
            cases e128
            replace p128 := eq_true p128
            replace q128 := eq_true q128
            go_upto_region 7 with (first | ((with_reducible refine gate_dst (N := 9) rfl ?_); refine box_event ?hg (N := 9) ?hd (cs := #[.int .i64 0, .int .i64 0, .int .i64 0]) (t := 22) ?hr ?_; (case hd => rfl); (case hg => rfl); (case hr => first | (go_simp; done) | (go_simp; rfl)); intro gb129 hg w15 hbox hb; have n0_ := Aside0.mk (Kd.R_below (Kd.R_elderB (by (with_reducible repeat (first | apply Kd.R_alloc | apply Kd.R_drewN | apply Kd.R_drew)); exact HO_17.out) gb129 (Nat.le_of_eq hg.symm)) hb); have n1_ := Aside0.mk (blk_below (g := gb124) (o := .cells #[.int .i64 a0_0, .int .i64 a0_1, .int .i64 a0_2, .int .i64 a0_3, .int .i64 a0_4, .int .i64 a0_5] 28 (0, 0)) (by (with_reducible repeat (first | refine blk_drewN ?_ _ | refine blk_drew ?_ | refine blk_alloc ?_ _)); exact BK124.out) hb); have n2_ := Aside0.mk (bs_step (by repeat (first | (with_reducible first | exact HB.out | apply bs_alloc | apply bs_drewN | apply bs_drew1) | exact HB.out)) hb); have n3_ := Aside0.mk (hbox); have n4_ := Aside0.mk ((by rw [hg]; exact (bs_size (by repeat (first | (with_reducible first | exact HB.out | apply bs_alloc | apply bs_drewN | apply bs_drew1) | exact HB.out))) : N1 ≤ gb129)); have n5_ := Aside0.mk ((by rw [hg]; exact (bs_size (by repeat (first | (with_reducible first | exact HB.out | apply bs_alloc | apply bs_drewN | apply bs_drew1) | exact HB.out))) : N1 ≤ gb129)); have n6_ := Aside0.mk ((by rw [hg]; exact Nat.ne_of_lt (blk_lt (g := gb124) (o := .cells #[.int .i64 a0_0, .int .i64 a0_1, .int .i64 a0_2, .int .i64 a0_3, .int .i64 a0_4, .int .i64 a0_5] 28 (0, 0)) (by (with_reducible repeat (first | refine blk_drewN ?_ _ | refine blk_drew ?_ | refine blk_alloc ?_ _)); exact BK124.out)) : gb124 ≠ gb129)); have n7_ := Aside0.mk ((by rw [hg]; exact Nat.ne_of_gt (blk_lt (g := gb124) (o := .cells #[.int .i64 a0_0, .int .i64 a0_1, .int .i64 a0_2, .int .i64 a0_3, .int .i64 a0_4, .int .i64 a0_5] 28 (0, 0)) (by (with_reducible repeat (first | refine blk_drewN ?_ _ | refine blk_drew ?_ | refine blk_alloc ?_ _)); exact BK124.out)) : gb129 ≠ gb124)); clear HO_17; clear BK124; clear HB; have HO_17 := n0_; have BK124 := n1_; have HB := n2_; have BK129 := n3_; have GW129 := n4_; have GE129 := n5_; have NB124_129 := n6_; have NB129_124 := n7_; clear n0_ n1_ n2_ n3_ n4_ n5_ n6_ n7_; clear hb hbox hg; have hnb16 := NB129_124.out; have hnc16 := NB124_129.out; have hcz17_0 : w15.cell? ⟨gb129, 0, none⟩ = some (.int .i64 0) := (blk_cell BK129.out 0).trans rfl; have hcz17_1 : w15.cell? ⟨gb129, 1, none⟩ = some (.int .i64 0) := (blk_cell BK129.out 1).trans rfl; have hcz17_2 : w15.cell? ⟨gb129, 2, none⟩ = some (.int .i64 0) := (blk_cell BK129.out 2).trans rfl; have hfz17_0 := blk_frozen BK129.out 0; have hfz17_1 := blk_frozen BK129.out 1; have hfz17_2 := blk_frozen BK129.out 2; have hcz18_0 : w15.cell? ⟨gb124, 0, none⟩ = some (.int .i64 a0_0) := (blk_cell BK124.out 0).trans rfl; have hcz18_1 : w15.cell? ⟨gb124, 1, none⟩ = some (.int .i64 a0_1) := (blk_cell BK124.out 1).trans rfl; have hcz18_2 : w15.cell? ⟨gb124, 2, none⟩ = some (.int .i64 a0_2) := (blk_cell BK124.out 2).trans rfl; have hcz18_3 : w15.cell? ⟨gb124, 3, none⟩ = some (.int .i64 a0_3) := (blk_cell BK124.out 3).trans rfl; have hcz18_4 : w15.cell? ⟨gb124, 4, none⟩ = some (.int .i64 a0_4) := (blk_cell BK124.out 4).trans rfl; have hcz18_5 : w15.cell? ⟨gb124, 5, none⟩ = some (.int .i64 a0_5) := (blk_cell BK124.out 5).trans rfl; have hfz18_0 := blk_frozen BK124.out 0; have hfz18_1 := blk_frozen BK124.out 1; have hfz18_2 := blk_frozen BK124.out 2; have hfz18_3 := blk_frozen BK124.out 3; have hfz18_4 := blk_frozen BK124.out 4; have hfz18_5 := blk_frozen BK124.out 5) | ((with_reducible refine gate_callee (f := 45) rfl ?_); refine goesL_ (some 26) rfl rfl Try.func45 (by kernel_rfl) rfl #[.agg #[.int .i64 a0_0, .int .i64 a0_1, .int .i64 a0_2, .int .i64 a0_3, .int .i64 a0_4, .int .i64 a0_5], .agg #[.int .i64 ((rd_T22 t125 x19_1).f0), .int .i64 ((rd_T22 t125 x19_1).f1), .int .i64 ((rd_T22 t125 x19_1).f2)]] rfl (by (try simp only [List.map_toArray, List.map_cons, List.map_nil]); first | done | rfl | (simp only [List.length_drop, List.length_take]; rfl)) ?_; (with_reducible refine (impl_Ropes_light.calls k1 a0_0 a0_1 a0_2 a0_3 a0_4 a0_5 ((rd_T22 t125 x19_1).f0) ((rd_T22 t125 x19_1).f1) ((rd_T22 t125 x19_1).f2) t130 t131 t132 t133 t134 t135 t136 _ A12.out).mono ?_); rintro e w19 ⟨rfl, hb⟩; refine ⟨_, rfl, ?_⟩; have n0_ := Aside0.mk (Kd.R_below (by (with_reducible repeat (first | apply Kd.R_alloc | apply Kd.R_drewN | apply Kd.R_drew)); exact (Kd.R_mono (Kd.R_far (p := ⟨gb129, 2, none⟩) (Kd.R_far (p := ⟨gb129, 1, none⟩) (Kd.R_far (p := ⟨gb129, 0, none⟩) (Kd.R_mono HO_17.out (fun k_ hk => (⟨hk, hk.2⟩ : _ ∧ k_ ≠ gb129))) (fun _ hk => hk.2) (.int .i64 ((rd_T22 t125 x19_1).f0))) (fun _ hk => hk.2) (.int .i64 ((rd_T22 t125 x19_1).f1))) (fun _ hk => hk.2) (.int .i64 ((rd_T22 t125 x19_1).f2))) (fun _ h_ => h_.1))) hb); have n1_ := Aside0.mk (blk_below (g := gb124) (o := .cells #[.int .i64 a0_0, .int .i64 a0_1, .int .i64 a0_2, .int .i64 a0_3, .int .i64 a0_4, .int .i64 a0_5] 28 (0, 0)) (by (with_reducible repeat (first | refine blk_drewN ?_ _ | refine blk_drew ?_ | refine blk_alloc ?_ _)); refine blk_far ?_ NB124_129.out _; (with_reducible repeat (first | refine blk_drewN ?_ _ | refine blk_drew ?_ | refine blk_alloc ?_ _)); refine blk_far ?_ NB124_129.out _; (with_reducible repeat (first | refine blk_drewN ?_ _ | refine blk_drew ?_ | refine blk_alloc ?_ _)); refine blk_far ?_ NB124_129.out _; (with_reducible repeat (first | refine blk_drewN ?_ _ | refine blk_drew ?_ | refine blk_alloc ?_ _)); exact BK124.out) hb); have n2_ := Aside0.mk (blk_below (g := gb129) (o := .cells #[.int .i64 ((rd_T22 t125 x19_1).f0), .int .i64 ((rd_T22 t125 x19_1).f1), .int .i64 ((rd_T22 t125 x19_1).f2)] 22 (0, 0)) (by (with_reducible repeat (first | refine blk_drewN ?_ _ | refine blk_drew ?_ | refine blk_alloc ?_ _)); refine blk_put (cs := #[.int .i64 ((rd_T22 t125 x19_1).f0), .int .i64 ((rd_T22 t125 x19_1).f1), .int .i64 0]) ?_ 2 _ rfl; (with_reducible repeat (first | refine blk_drewN ?_ _ | refine blk_drew ?_ | refine blk_alloc ?_ _)); refine blk_put (cs := #[.int .i64 ((rd_T22 t125 x19_1).f0), .int .i64 0, .int .i64 0]) ?_ 1 _ rfl; (with_reducible repeat (first | refine blk_drewN ?_ _ | refine blk_drew ?_ | refine blk_alloc ?_ _)); refine blk_put (cs := #[.int .i64 0, .int .i64 0, .int .i64 0]) ?_ 0 _ rfl; (with_reducible repeat (first | refine blk_drewN ?_ _ | refine blk_drew ?_ | refine blk_alloc ?_ _)); exact BK129.out) hb); have n3_ := Aside0.mk (bs_step (by repeat (first | (with_reducible first | exact HB.out | apply bs_alloc | apply bs_drewN | apply bs_drew1 | refine bs_set (S := S) (w := w) (I := J es1) ?_ GE129.out) | exact HB.out)) hb); clear HO_17; clear BK124; clear BK129; clear HB; have HO_17 := n0_; have BK124 := n1_; have BK129 := n2_; have HB := n3_; clear n0_ n1_ n2_ n3_; (try clear hb); (try clear hb2); (try clear hk); (try clear hi)) | ((with_reducible refine gate_dst (N := 10) rfl ?_); refine box_event ?hg (N := 10) ?hd (cs := #[.int .i64 0, .int .i64 0, .int .i64 0, .int .i64 0, .int .i64 0, .int .i64 0]) (t := 28) ?hr ?_; (case hd => rfl); (case hg => rfl); (case hr => first | (go_simp; done) | (go_simp; rfl)); intro gb137 hg w20 hbox hb; have n0_ := Aside0.mk (Kd.R_below (by (with_reducible repeat (first | apply Kd.R_alloc | apply Kd.R_drewN | apply Kd.R_drew)); exact HO_17.out) hb); have n1_ := Aside0.mk (blk_below (g := gb124) (o := .cells #[.int .i64 a0_0, .int .i64 a0_1, .int .i64 a0_2, .int .i64 a0_3, .int .i64 a0_4, .int .i64 a0_5] 28 (0, 0)) (by (with_reducible repeat (first | refine blk_drewN ?_ _ | refine blk_drew ?_ | refine blk_alloc ?_ _)); exact BK124.out) hb); have n2_ := Aside0.mk (blk_below (g := gb129) (o := .cells #[.int .i64 ((rd_T22 t125 x19_1).f0), .int .i64 ((rd_T22 t125 x19_1).f1), .int .i64 ((rd_T22 t125 x19_1).f2)] 22 (0, 0)) (by (with_reducible repeat (first | refine blk_drewN ?_ _ | refine blk_drew ?_ | refine blk_alloc ?_ _)); exact BK129.out) hb); have n3_ := Aside0.mk (bs_step (by repeat (first | (with_reducible first | exact HB.out | apply bs_alloc | apply bs_drewN | apply bs_drew1 | refine bs_set (S := S) (w := w) (I := J es1) ?_ GE129.out) | exact HB.out)) hb); have n4_ := Aside0.mk (hbox); have n5_ := Aside0.mk ((by rw [hg]; exact (bs_size (by repeat (first | (with_reducible first | exact HB.out | apply bs_alloc | apply bs_drewN | apply bs_drew1 | refine bs_set (S := S) (w := w) (I := J es1) ?_ GE129.out) | exact HB.out))) : N1 ≤ gb137)); have n6_ := Aside0.mk ((by rw [hg]; exact (bs_size (by repeat (first | (with_reducible first | exact HB.out | apply bs_alloc | apply bs_drewN | apply bs_drew1 | refine bs_set (S := S) (w := w) (I := J es1) ?_ GE129.out) | exact HB.out))) : N1 ≤ gb137)); have n7_ := Aside0.mk ((by rw [hg]; exact Nat.ne_of_lt (blk_lt (g := gb124) (o := .cells #[.int .i64 a0_0, .int .i64 a0_1, .int .i64 a0_2, .int .i64 a0_3, .int .i64 a0_4, .int .i64 a0_5] 28 (0, 0)) (by (with_reducible repeat (first | refine blk_drewN ?_ _ | refine blk_drew ?_ | refine blk_alloc ?_ _)); exact BK124.out)) : gb124 ≠ gb137)); have n8_ := Aside0.mk ((by rw [hg]; exact Nat.ne_of_gt (blk_lt (g := gb124) (o := .cells #[.int .i64 a0_0, .int .i64 a0_1, .int .i64 a0_2, .int .i64 a0_3, .int .i64 a0_4, .int .i64 a0_5] 28 (0, 0)) (by (with_reducible repeat (first | refine blk_drewN ?_ _ | refine blk_drew ?_ | refine blk_alloc ?_ _)); exact BK124.out)) : gb137 ≠ gb124)); have n9_ := Aside0.mk ((by rw [hg]; exact Nat.ne_of_lt (blk_lt (g := gb129) (o := .cells #[.int .i64 ((rd_T22 t125 x19_1).f0), .int .i64 ((rd_T22 t125 x19_1).f1), .int .i64 ((rd_T22 t125 x19_1).f2)] 22 (0, 0)) (by (with_reducible repeat (first | refine blk_drewN ?_ _ | refine blk_drew ?_ | refine blk_alloc ?_ _)); exact BK129.out)) : gb129 ≠ gb137)); have n10_ := Aside0.mk ((by rw [hg]; exact Nat.ne_of_gt (blk_lt (g := gb129) (o := .cells #[.int .i64 ((rd_T22 t125 x19_1).f0), .int .i64 ((rd_T22 t125 x19_1).f1), .int .i64 ((rd_T22 t125 x19_1).f2)] 22 (0, 0)) (by (with_reducible repeat (first | refine blk_drewN ?_ _ | refine blk_drew ?_ | refine blk_alloc ?_ _)); exact BK129.out)) : gb137 ≠ gb129)); clear HO_17; clear BK124; clear BK129; clear HB; have HO_17 := n0_; have BK124 := n1_; have BK129 := n2_; have HB := n3_; have BK137 := n4_; have GW137 := n5_; have GE137 := n6_; have NB124_137 := n7_; have NB137_124 := n8_; have NB129_137 := n9_; have NB137_129 := n10_; clear n0_ n1_ n2_ n3_ n4_ n5_ n6_ n7_ n8_ n9_ n10_; clear hb hbox hg; have hnb21 := NB137_124.out; have hnc21 := NB124_137.out; have hnb22 := NB137_129.out; have hnc22 := NB129_137.out; have hcz23_0 : w20.cell? ⟨gb137, 0, none⟩ = some (.int .i64 0) := (blk_cell BK137.out 0).trans rfl; have hcz23_1 : w20.cell? ⟨gb137, 1, none⟩ = some (.int .i64 0) := (blk_cell BK137.out 1).trans rfl; have hcz23_2 : w20.cell? ⟨gb137, 2, none⟩ = some (.int .i64 0) := (blk_cell BK137.out 2).trans rfl; have hcz23_3 : w20.cell? ⟨gb137, 3, none⟩ = some (.int .i64 0) := (blk_cell BK137.out 3).trans rfl; have hcz23_4 : w20.cell? ⟨gb137, 4, none⟩ = some (.int .i64 0) := (blk_cell BK137.out 4).trans rfl; have hcz23_5 : w20.cell? ⟨gb137, 5, none⟩ = some (.int .i64 0) := (blk_cell BK137.out 5).trans rfl; have hfz23_0 := blk_frozen BK137.out 0; have hfz23_1 := blk_frozen BK137.out 1; have hfz23_2 := blk_frozen BK137.out 2; have hfz23_3 := blk_frozen BK137.out 3; have hfz23_4 := blk_frozen BK137.out 4; have hfz23_5 := blk_frozen BK137.out 5) | ((with_reducible refine gate_callee (f := 46) rfl ?_); refine goesL_ (some 30) rfl rfl Try.func46 (by kernel_rfl) rfl #[.agg #[.int .i64 t130, .int .i64 t131, .int .i64 t132, .int .i64 t133, .int .i64 t134, .int .i64 t135]] rfl (by (try simp only [List.map_toArray, List.map_cons, List.map_nil]); first | done | rfl | (simp only [List.length_drop, List.length_take]; rfl)) ?_; (with_reducible refine (impl_Ropes_told.calls k1 t130 t131 t132 t133 t134 t135 t138 _ A13.out).mono ?_); rintro e w24 ⟨rfl, hb⟩; refine ⟨_, rfl, ?_⟩; have n0_ := Aside0.mk (Kd.R_below (by (with_reducible repeat (first | apply Kd.R_alloc | apply Kd.R_drewN | apply Kd.R_drew)); exact (Kd.R_mono (Kd.R_far (p := ⟨gb137, 5, none⟩) (Kd.R_far (p := ⟨gb137, 4, none⟩) (Kd.R_far (p := ⟨gb137, 3, none⟩) (Kd.R_far (p := ⟨gb137, 2, none⟩) (Kd.R_far (p := ⟨gb137, 1, none⟩) (Kd.R_far (p := ⟨gb137, 0, none⟩) (Kd.R_types HO_17.out BK137.out (by decide)) (fun _ hk => hk.2) (.int .i64 t130)) (fun _ hk => hk.2) (.int .i64 t131)) (fun _ hk => hk.2) (.int .i64 t132)) (fun _ hk => hk.2) (.int .i64 t133)) (fun _ hk => hk.2) (.int .i64 t134)) (fun _ hk => hk.2) (.int .i64 t135)) (fun _ h_ => h_.1))) hb); have n1_ := Aside0.mk (blk_below (g := gb124) (o := .cells #[.int .i64 a0_0, .int .i64 a0_1, .int .i64 a0_2, .int .i64 a0_3, .int .i64 a0_4, .int .i64 a0_5] 28 (0, 0)) (by (with_reducible repeat (first | refine blk_drewN ?_ _ | refine blk_drew ?_ | refine blk_alloc ?_ _)); refine blk_far ?_ NB124_137.out _; (with_reducible repeat (first | refine blk_drewN ?_ _ | refine blk_drew ?_ | refine blk_alloc ?_ _)); refine blk_far ?_ NB124_137.out _; (with_reducible repeat (first | refine blk_drewN ?_ _ | refine blk_drew ?_ | refine blk_alloc ?_ _)); refine blk_far ?_ NB124_137.out _; (with_reducible repeat (first | refine blk_drewN ?_ _ | refine blk_drew ?_ | refine blk_alloc ?_ _)); refine blk_far ?_ NB124_137.out _; (with_reducible repeat (first | refine blk_drewN ?_ _ | refine blk_drew ?_ | refine blk_alloc ?_ _)); refine blk_far ?_ NB124_137.out _; (with_reducible repeat (first | refine blk_drewN ?_ _ | refine blk_drew ?_ | refine blk_alloc ?_ _)); refine blk_far ?_ NB124_137.out _; (with_reducible repeat (first | refine blk_drewN ?_ _ | refine blk_drew ?_ | refine blk_alloc ?_ _)); exact BK124.out) hb); have n2_ := Aside0.mk (blk_below (g := gb129) (o := .cells #[.int .i64 ((rd_T22 t125 x19_1).f0), .int .i64 ((rd_T22 t125 x19_1).f1), .int .i64 ((rd_T22 t125 x19_1).f2)] 22 (0, 0)) (by (with_reducible repeat (first | refine blk_drewN ?_ _ | refine blk_drew ?_ | refine blk_alloc ?_ _)); refine blk_far ?_ NB129_137.out _; (with_reducible repeat (first | refine blk_drewN ?_ _ | refine blk_drew ?_ | refine blk_alloc ?_ _)); refine blk_far ?_ NB129_137.out _; (with_reducible repeat (first | refine blk_drewN ?_ _ | refine blk_drew ?_ | refine blk_alloc ?_ _)); refine blk_far ?_ NB129_137.out _; (with_reducible repeat (first | refine blk_drewN ?_ _ | refine blk_drew ?_ | refine blk_alloc ?_ _)); refine blk_far ?_ NB129_137.out _; (with_reducible repeat (first | refine blk_drewN ?_ _ | refine blk_drew ?_ | refine blk_alloc ?_ _)); refine blk_far ?_ NB129_137.out _; (with_reducible repeat (first | refine blk_drewN ?_ _ | refine blk_drew ?_ | refine blk_alloc ?_ _)); refine blk_far ?_ NB129_137.out _; (with_reducible repeat (first | refine blk_drewN ?_ _ | refine blk_drew ?_ | refine blk_alloc ?_ _)); exact BK129.out) hb); have n3_ := Aside0.mk (blk_below (g := gb137) (o := .cells #[.int .i64 t130, .int .i64 t131, .int .i64 t132, .int .i64 t133, .int .i64 t134, .int .i64 t135] 28 (0, 0)) (by (with_reducible repeat (first | refine blk_drewN ?_ _ | refine blk_drew ?_ | refine blk_alloc ?_ _)); refine blk_put (cs := #[.int .i64 t130, .int .i64 t131, .int .i64 t132, .int .i64 t133, .int .i64 t134, .int .i64 0]) ?_ 5 _ rfl; (with_reducible repeat (first | refine blk_drewN ?_ _ | refine blk_drew ?_ | refine blk_alloc ?_ _)); refine blk_put (cs := #[.int .i64 t130, .int .i64 t131, .int .i64 t132, .int .i64 t133, .int .i64 0, .int .i64 0]) ?_ 4 _ rfl; (with_reducible repeat (first | refine blk_drewN ?_ _ | refine blk_drew ?_ | refine blk_alloc ?_ _)); refine blk_put (cs := #[.int .i64 t130, .int .i64 t131, .int .i64 t132, .int .i64 0, .int .i64 0, .int .i64 0]) ?_ 3 _ rfl; (with_reducible repeat (first | refine blk_drewN ?_ _ | refine blk_drew ?_ | refine blk_alloc ?_ _)); refine blk_put (cs := #[.int .i64 t130, .int .i64 t131, .int .i64 0, .int .i64 0, .int .i64 0, .int .i64 0]) ?_ 2 _ rfl; (with_reducible repeat (first | refine blk_drewN ?_ _ | refine blk_drew ?_ | refine blk_alloc ?_ _)); refine blk_put (cs := #[.int .i64 t130, .int .i64 0, .int .i64 0, .int .i64 0, .int .i64 0, .int .i64 0]) ?_ 1 _ rfl; (with_reducible repeat (first | refine blk_drewN ?_ _ | refine blk_drew ?_ | refine blk_alloc ?_ _)); refine blk_put (cs := #[.int .i64 0, .int .i64 0, .int .i64 0, .int .i64 0, .int .i64 0, .int .i64 0]) ?_ 0 _ rfl; (with_reducible repeat (first | refine blk_drewN ?_ _ | refine blk_drew ?_ | refine blk_alloc ?_ _)); exact BK137.out) hb); have n4_ := Aside0.mk (bs_step (by repeat (first | (with_reducible first | exact HB.out | apply bs_alloc | apply bs_drewN | apply bs_drew1 | refine bs_set (S := S) (w := w) (I := J es1) ?_ GE129.out | refine bs_set (S := S) (w := w) (I := J es1) ?_ GE137.out) | exact HB.out)) hb); clear HO_17; clear BK124; clear BK129; clear BK137; clear HB; have HO_17 := n0_; have BK124 := n1_; have BK129 := n2_; have BK137 := n3_; have HB := n4_; clear n0_ n1_ n2_ n3_ n4_; (try clear hb); (try clear hb2); (try clear hk); (try clear hi)))
            (try simp only [Act.put, q1, q2, q3])
            go_cut [35] (fun v35 wc => ∃ (kq : Nat) (x35_13 : Bool), v35 = .bool x35_13 ∧ Aside0 (each_j1 kq a1 l2 t138 t125 (t125.length : Int) x19_1 x35_13 a0_0 a0_1 a0_2 a0_3 a0_4 a0_5 ((rd_T22 t125 x19_1).f0) ((rd_T22 t125 x19_1).f1) ((rd_T22 t125 x19_1).f2) t130 t131 t132 t133 t134 t135 = some ev1) ∧ Aside0 (kq ≤ k1) ∧ Aside0 (Kd.R k22 22 wc w.heap.size (fun k_ => k_ ≠ gb129) (.slice (some ad128) t125.length co8) t125) ∧ Aside0 (wc.heap[gb124]? = some (.cells #[.int .i64 a0_0, .int .i64 a0_1, .int .i64 a0_2, .int .i64 a0_3, .int .i64 a0_4, .int .i64 a0_5] 28 (0, 0))) ∧ Aside0 (wc.heap[gb129]? = some (.cells #[.int .i64 ((rd_T22 t125 x19_1).f0), .int .i64 ((rd_T22 t125 x19_1).f1), .int .i64 ((rd_T22 t125 x19_1).f2)] 22 (0, 0))) ∧ Aside0 (wc.heap[gb137]? = some (.cells #[.int .i64 t130, .int .i64 t131, .int .i64 t132, .int .i64 t133, .int .i64 t134, .int .i64 t135] 28 (0, 0))) ∧ Aside0 (BI S w N1 (J es1) wc))
            case first =>
              have H := HC14.out
              clear HC14
              by_cases c25 : t136 = true
              · subst c25
                have H1 : (each_j1 k1 a1 l2 t138 t125 (t125.length : Int) x19_1 (decide (t138 > 0)) a0_0 a0_1 a0_2 a0_3 a0_4 a0_5 ((rd_T22 t125 x19_1).f0) ((rd_T22 t125 x19_1).f1) ((rd_T22 t125 x19_1).f2) t130 t131 t132 t133 t134 t135) = some ev1 := by rw [if_pos rfl] at H; exact H
                clear H
                have H := H1
                clear H1
                have H' := Aside0.mk H
                clear H
                go_wp2
                go_meet
                case rel => exact ⟨_, (decide (t138 > 0)), (by first | rfl | (simp; done) | (simp [*]; done)), H', ⟨by have := HK1.out; first | omega | exact Nat.le_refl _⟩, ⟨by (with_reducible repeat (first | apply Kd.R_alloc | apply Kd.R_drewN | apply Kd.R_drew)); exact Kd.R_mono HO_17.out (fun _ hk => hk.2)⟩, ⟨by (with_reducible repeat (first | refine blk_drewN ?_ _ | refine blk_drew ?_ | refine blk_alloc ?_ _)); exact BK124.out⟩, ⟨by (with_reducible repeat (first | refine blk_drewN ?_ _ | refine blk_drew ?_ | refine blk_alloc ?_ _)); exact BK129.out⟩, ⟨by (with_reducible repeat (first | refine blk_drewN ?_ _ | refine blk_drew ?_ | refine blk_alloc ?_ _)); exact BK137.out⟩, ⟨by repeat (first | (with_reducible first | exact HB.out | apply bs_alloc | apply bs_drewN | apply bs_drew1 | refine bs_set (S := S) (w := w) (I := J es1) ?_ GE129.out | refine bs_set (S := S) (w := w) (I := J es1) ?_ GE137.out) | exact HB.out)⟩⟩
              · replace c25 := Bool.eq_false_iff.mpr c25
                subst c25
                have H1 : (each_j1 k1 a1 l2 t138 t125 (t125.length : Int) x19_1 false a0_0 a0_1 a0_2 a0_3 a0_4 a0_5 ((rd_T22 t125 x19_1).f0) ((rd_T22 t125 x19_1).f1) ((rd_T22 t125 x19_1).f2) t130 t131 t132 t133 t134 t135) = some ev1 := by rw [if_neg (show ¬ (false = true) by decide)] at H; exact H
                clear H
                have H := H1
                clear H1
                have H' := Aside0.mk H
                clear H
                go_wp2
                go_meet
                case rel => exact ⟨_, (false), (by first | rfl | (simp; done) | (simp [*]; done)), H', ⟨by have := HK1.out; first | omega | exact Nat.le_refl _⟩, ⟨by (with_reducible repeat (first | apply Kd.R_alloc | apply Kd.R_drewN | apply Kd.R_drew)); exact Kd.R_mono HO_17.out (fun _ hk => hk.2)⟩, ⟨by (with_reducible repeat (first | refine blk_drewN ?_ _ | refine blk_drew ?_ | refine blk_alloc ?_ _)); exact BK124.out⟩, ⟨by (with_reducible repeat (first | refine blk_drewN ?_ _ | refine blk_drew ?_ | refine blk_alloc ?_ _)); exact BK129.out⟩, ⟨by (with_reducible repeat (first | refine blk_drewN ?_ _ | refine blk_drew ?_ | refine blk_alloc ?_ _)); exact BK137.out⟩, ⟨by repeat (first | (with_reducible first | exact HB.out | apply bs_alloc | apply bs_drewN | apply bs_drew1 | refine bs_set (S := S) (w := w) (I := J es1) ?_ GE129.out | refine bs_set (S := S) (w := w) (I := J es1) ?_ GE137.out) | exact HB.out)⟩⟩
            case rest =>
              clear HC14
              try clear c1
              try clear p1
              try clear q1
              try clear hx1
              try clear c2
              try clear p2
              try clear c4
              try clear c9
              try clear c9b0
              try clear c10
              try clear c10b0
              try clear c11
              try clear c11b0
              try clear p12
              try clear q12
              try clear hx12
              try clear c16
              try clear c21
              try clear c22
              try clear c25
              try clear hcz17_0
              try clear hcz17_1
              try clear hcz17_2
              try clear hcz18_0
              try clear hcz18_1
              try clear hcz18_2
              try clear hcz18_3
              try clear hcz18_4
              try clear hcz18_5
              try clear hcz23_0
              try clear hcz23_1
              try clear hcz23_2
              try clear hcz23_3
              try clear hcz23_4
              try clear hcz23_5
              try clear hfz17_0
              try clear hfz17_1
              try clear hfz17_2
              try clear hfz18_0
              try clear hfz18_1
              try clear hfz18_2
              try clear hfz18_3
              try clear hfz18_4
              try clear hfz18_5
              try clear hfz23_0
              try clear hfz23_1
              try clear hfz23_2
              try clear hfz23_3
              try clear hfz23_4
              try clear hfz23_5
              try clear hx128_0
              try clear hx128_1
              try clear hx128_2
              try clear p128
              try clear p2
              try clear q128
              obtain ⟨kq, x35_13, rfl, HA, HJ13, HO_17, BK124, BK129, BK137, HB⟩ := hcut
              cases kq with
              | zero => exact absurd HA.out (by simp [each_j1])
              | succ kj13 =>
                have H := HA.out
                clear HA
                simp only [each_j1] at H
                by_cases c26 : x35_13 = true
                · subst c26
                  have H1 : ((impl_Ropes_burn.f kj13 t130 t131 t132 t133 t134 t135 t138).bind fun bt139 => ((slices_Clone_3_int_3_int.f l2).bind fun t145 => ((some (([(⟨((rd_T22 t125 x19_1).f0), ((rd_T22 t125 x19_1).f1), ((rd_T22 t125 x19_1).f2)⟩ : S22)] : List (S22)) : List (S22))).bind fun y148 => (if t145.length + y148.length < 5864062014805 then ((each_f kj13 bt139.1 bt139.2.1 bt139.2.2.1 bt139.2.2.2.1 bt139.2.2.2.2.1 bt139.2.2.2.2.2 (wrap64 (a1 + t138)) (t145 ++ y148)).bind fun t154 => ((each_l0 kj13 a1 l2 t125 (t125.length : Int) (wrap64 (x19_1 + 1)) a0_0 a0_1 a0_2 a0_3 a0_4 a0_5).bind fun ev2 => some (t154 ++ ev2))) else (none))))) = some ev1 := by rw [if_pos rfl] at H; exact H
                  clear H
                  have H := H1
                  clear H1
                  replace H := Option.bind_eq_some_iff.mp H
                  obtain ⟨⟨t139, t140, t141, t142, t143, t144⟩, A270, H⟩ := H
                  replace H : ((slices_Clone_3_int_3_int.f l2).bind fun t145 => ((some (([(⟨((rd_T22 t125 x19_1).f0), ((rd_T22 t125 x19_1).f1), ((rd_T22 t125 x19_1).f2)⟩ : S22)] : List (S22)) : List (S22))).bind fun y148 => (if t145.length + y148.length < 5864062014805 then ((each_f kj13 t139 t140 t141 t142 t143 t144 (wrap64 (a1 + t138)) (t145 ++ y148)).bind fun t154 => ((each_l0 kj13 a1 l2 t125 (t125.length : Int) (wrap64 (x19_1 + 1)) a0_0 a0_1 a0_2 a0_3 a0_4 a0_5).bind fun ev2 => some (t154 ++ ev2))) else (none)))) = some ev1 := H
                  have A27 := Aside0.mk A270
                  clear A270
                  replace H := Option.bind_eq_some_iff.mp H
                  obtain ⟨t145, A280, H⟩ := H
                  replace H : ((some (([(⟨((rd_T22 t125 x19_1).f0), ((rd_T22 t125 x19_1).f1), ((rd_T22 t125 x19_1).f2)⟩ : S22)] : List (S22)) : List (S22))).bind fun y148 => (if t145.length + y148.length < 5864062014805 then ((each_f kj13 t139 t140 t141 t142 t143 t144 (wrap64 (a1 + t138)) (t145 ++ y148)).bind fun t154 => ((each_l0 kj13 a1 l2 t125 (t125.length : Int) (wrap64 (x19_1 + 1)) a0_0 a0_1 a0_2 a0_3 a0_4 a0_5).bind fun ev2 => some (t154 ++ ev2))) else (none))) = some ev1 := H
                  have A28 := Aside0.mk A280
                  clear A280
                  obtain ⟨y148, hy148⟩ : ∃ y_ : List (S22), y_ = (([(⟨((rd_T22 t125 x19_1).f0), ((rd_T22 t125 x19_1).f1), ((rd_T22 t125 x19_1).f2)⟩ : S22)] : List (S22))) := ⟨_, rfl⟩
                  replace H : (if t145.length + y148.length < 5864062014805 then ((each_f kj13 t139 t140 t141 t142 t143 t144 (wrap64 (a1 + t138)) (t145 ++ y148)).bind fun t154 => ((each_l0 kj13 a1 l2 t125 (t125.length : Int) (wrap64 (x19_1 + 1)) a0_0 a0_1 a0_2 a0_3 a0_4 a0_5).bind fun ev2 => some (t154 ++ ev2))) else (none)) = some ev1 := by first | (rw [hy148]; with_reducible exact H) | (have H2_ := (Option.bind_some _ _).symm.trans H; rw [hy148]; with_reducible exact H2_) | (have H2_ := (Option.bind_some _ _).symm.trans H; with_reducible exact H2_) | with_reducible exact H | (rw [hy148]; exact H) | exact H
                  have Ny148 := Aside0.mk hy148
                  clear hy148
                  by_cases c29 : t145.length + y148.length < 5864062014805
                  · rw [if_pos c29] at H
                    have LMc29 := Aside0.mk c29
                    clear c29
                    obtain ⟨y151, hy151⟩ : ∃ y_ : List (S22), y_ = (t145 ++ y148) := ⟨_, rfl⟩
                    replace H : ((each_f kj13 t139 t140 t141 t142 t143 t144 (wrap64 (a1 + t138)) y151).bind fun t154 => ((each_l0 kj13 a1 l2 t125 (t125.length : Int) (wrap64 (x19_1 + 1)) a0_0 a0_1 a0_2 a0_3 a0_4 a0_5).bind fun ev2 => some (t154 ++ ev2))) = some ev1 := by first | (rw [hy151]; with_reducible exact H) | (have H2_ := (Option.bind_some _ _).symm.trans H; rw [hy151]; with_reducible exact H2_) | (have H2_ := (Option.bind_some _ _).symm.trans H; with_reducible exact H2_) | with_reducible exact H | (rw [hy151]; exact H) | exact H
                    have Ny151 := Aside0.mk hy151
                    clear hy151
                    replace H := Option.bind_eq_some_iff.mp H
                    obtain ⟨t154, A300, H⟩ := H
                    obtain ⟨ev2, H, Hr⟩ := Option.bind_eq_some_iff.mp H
                    have ER2 := Aside0.mk (Option.some.inj Hr)
                    clear Hr
                    have A30 := Aside0.mk A300
                    clear A300
                    have H' := Aside0.mk H
                    clear H
                    try go_wp2
                    have n0_ := Aside0.mk (Kd.R_drew HO_17.out)
                    have n1_ := Aside0.mk (blk_drew BK124.out)
                    have n2_ := Aside0.mk (blk_drew BK129.out)
                    have n3_ := Aside0.mk (blk_drew BK137.out)
                    have n4_ := Aside0.mk (bs_drew1 HB.out)
                    clear HO_17
                    clear BK124
                    clear BK129
                    clear BK137
                    clear HB
                    have HO_17 := n0_
                    have BK124 := n1_
                    have BK129 := n2_
                    have BK137 := n3_
                    have HB := n4_
                    clear n0_ n1_ n2_ n3_ n4_
                    refine start_ (n := 13) (S := fun w' => w'.cell? ⟨gb137, 0, none⟩ = some (.int .i64 t130) ∧ w'.cell? ⟨gb137, 1, none⟩ = some (.int .i64 t131) ∧ w'.cell? ⟨gb137, 2, none⟩ = some (.int .i64 t132) ∧ w'.cell? ⟨gb137, 3, none⟩ = some (.int .i64 t133) ∧ w'.cell? ⟨gb137, 4, none⟩ = some (.int .i64 t134) ∧ w'.cell? ⟨gb137, 5, none⟩ = some (.int .i64 t135) ∧ w'.cell? ⟨gb129, 0, none⟩ = some (.int .i64 ((rd_T22 t125 x19_1).f0)) ∧ w'.cell? ⟨gb129, 1, none⟩ = some (.int .i64 ((rd_T22 t125 x19_1).f1)) ∧ w'.cell? ⟨gb129, 2, none⟩ = some (.int .i64 ((rd_T22 t125 x19_1).f2))) (ds := []) #[false, false, false, false, false, false, false, false, false, false, false, false, false] (by kernel_rfl) rfl rfl ⟨(blk_cell BK137.out 0).trans rfl, (blk_cell BK137.out 1).trans rfl, (blk_cell BK137.out 2).trans rfl, (blk_cell BK137.out 3).trans rfl, (blk_cell BK137.out 4).trans rfl, (blk_cell BK137.out 5).trans rfl, (blk_cell BK129.out 0).trans rfl, (blk_cell BK129.out 1).trans rfl, (blk_cell BK129.out 2).trans rfl⟩ (fun hHeld => ?_); refine with_tabW each_tab8 each_bits8 (fun HT_ HW_ => ?_)
                    generalize wc.drew = w31 at HO_17 BK124 BK129 BK137 HB hHeld ⊢
                    refine pure_ (i := 1) (N := some 37) (v := ?_) (a' := ?_) #[false, true, false, false, false, false, false, false, false, false, false, false, false] rfl rfl (any_of HT_.out (by kernel_rfl)) (fun _ _ _ h => h) (Or.inl ⟨by rfl, ?_⟩) ?_ ?_
                    rotate_left
                    · intro w'
                      go_simp
                      with_reducible rfl
                    rotate_left
                    · simp only [Act.put, q1, q2, q3, i64_w, i32_w]
                      rfl
                    refine pure_ (i := 3) (N := some 39) (v := ?_) (a' := ?_) #[false, true, false, true, false, false, false, false, false, false, false, false, false] rfl rfl (any_of HT_.out (by kernel_rfl)) (fun _ _ _ h => h) (Or.inl ⟨by rfl, ?_⟩) ?_ ?_
                    rotate_left
                    · intro w'
                      go_simp
                      with_reducible rfl
                    rotate_left
                    · simp only [Act.put, q1, q2, q3, i64_w, i32_w]
                      rfl
                    refine pure_ (i := 4) (N := some 40) (v := ?_) (a' := ?_) #[false, true, false, true, true, false, false, false, false, false, false, false, false] rfl rfl (any_of HT_.out (by kernel_rfl)) (fun _ _ _ h => h) (Or.inl ⟨by rfl, ?_⟩) ?_ ?_
                    rotate_left
                    · intro w'
                      go_simp
                      with_reducible rfl
                    rotate_left
                    · simp only [Act.put, q1, q2, q3, i64_w, i32_w]
                      rfl
                    refine pure_ (i := 5) (N := some 41) (v := ?_) (a' := ?_) #[false, true, false, true, true, true, false, false, false, false, false, false, false] rfl rfl (any_of HT_.out (by kernel_rfl)) (fun _ _ _ h => h) (Or.inl ⟨by rfl, ?_⟩) ?_ ?_
                    rotate_left
                    · intro w'
                      go_simp
                      with_reducible rfl
                    rotate_left
                    · simp only [Act.put, q1, q2, q3, i64_w, i32_w]
                      rfl
                    refine pure_ (i := 6) (N := some 42) (v := ?_) (a' := ?_) #[false, true, false, true, true, true, true, false, false, false, false, false, false] rfl rfl (any_of HT_.out (by kernel_rfl)) (fun _ _ _ h => h) (Or.inl ⟨by rfl, ?_⟩) ?_ ?_
                    rotate_left
                    · intro w'
                      go_simp
                      with_reducible rfl
                    rotate_left
                    · simp only [Act.put, q1, q2, q3, i64_w, i32_w]
                      rfl
                    refine pure_ (i := 11) (N := some 47) (v := ?_) (a' := ?_) #[false, true, false, true, true, true, true, false, false, false, false, true, false] rfl rfl (any_of HT_.out (by kernel_rfl)) (fun _ _ _ h => h) (Or.inl ⟨by rfl, ?_⟩) ?_ ?_
                    rotate_left
                    · intro w'
                      go_simp
                      with_reducible rfl
                    rotate_left
                    · simp only [Act.put, q1, q2, q3, i64_w, i32_w]
                      rfl
                    refine take_ (i := 0) (N := some 36) (v := ?_) (a' := ?_) #[true, true, false, true, true, true, true, false, false, false, false, true, false] rfl rfl (take_ofW HT_.out HW_.out (by kernel_rfl)) (fun _ _ _ h => h) (Or.inl ⟨by rfl, ?_⟩) hHeld ?_ ?_
                    rotate_left
                    · rintro w' ⟨s0, s1, s2, s3, s4, s5, s6, s7, s8⟩
                      go_simp
                      with_reducible rfl
                    rotate_left
                    · simp only [Act.put, q1, q2, q3, i64_w, i32_w]
                      rfl
                    refine take_ (i := 8) (N := some 44) (v := ?_) (a' := ?_) #[true, true, false, true, true, true, true, false, true, false, false, true, false] rfl rfl (take_ofW HT_.out HW_.out (by kernel_rfl)) (fun _ _ _ h => h) (Or.inl ⟨by rfl, ?_⟩) hHeld ?_ ?_
                    rotate_left
                    · rintro w' ⟨s0, s1, s2, s3, s4, s5, s6, s7, s8⟩
                      go_simp
                      with_reducible rfl
                    rotate_left
                    · simp only [Act.put, q1, q2, q3, i64_w, i32_w]
                      rfl
                    refine join_ (σ := Value × Value) 2 #[true, true, true, true, true, true, true, true, true, true, false, true, false] (fun s_ => [(38, .agg #[.int .i64 t139, .int .i64 t140, .int .i64 t141, .int .i64 t142, .int .i64 t143, .int .i64 t144]), (43, s_.1), (45, s_.2)]) (fun s_ w' => (w'.cell? ⟨gb137, 0, none⟩ = some (.int .i64 t130) ∧ w'.cell? ⟨gb137, 1, none⟩ = some (.int .i64 t131) ∧ w'.cell? ⟨gb137, 2, none⟩ = some (.int .i64 t132) ∧ w'.cell? ⟨gb137, 3, none⟩ = some (.int .i64 t133) ∧ w'.cell? ⟨gb137, 4, none⟩ = some (.int .i64 t134) ∧ w'.cell? ⟨gb137, 5, none⟩ = some (.int .i64 t135) ∧ w'.cell? ⟨gb129, 0, none⟩ = some (.int .i64 ((rd_T22 t125 x19_1).f0)) ∧ w'.cell? ⟨gb129, 1, none⟩ = some (.int .i64 ((rd_T22 t125 x19_1).f1)) ∧ w'.cell? ⟨gb129, 2, none⟩ = some (.int .i64 ((rd_T22 t125 x19_1).f2))) ∧ (Kd.R k22 22 w' N1 (fun k_ => some k_ ≠ (s_.2 : Value).ownBlock ∧ some k_ ≠ (.slice (some ad128) t125.length co8 : Value).ownBlock ∧ k_ ≠ gb129) s_.1 t145) ∧ (Kd.R k22 22 w' N1 (fun k_ => some k_ ≠ (s_.1 : Value).ownBlock ∧ some k_ ≠ (.slice (some ad128) t125.length co8 : Value).ownBlock ∧ k_ ≠ gb129) s_.2 y148) ∧ (Kd.R k22 22 w' w.heap.size (fun k_ => some k_ ≠ (s_.1 : Value).ownBlock ∧ some k_ ≠ (s_.2 : Value).ownBlock ∧ k_ ≠ gb129) (.slice (some ad128) t125.length co8) t125) ∧ (w'.heap[gb124]? = some (.cells #[.int .i64 a0_0, .int .i64 a0_1, .int .i64 a0_2, .int .i64 a0_3, .int .i64 a0_4, .int .i64 a0_5] 28 (0, 0))) ∧ (w'.heap[gb129]? = some (.cells #[.int .i64 ((rd_T22 t125 x19_1).f0), .int .i64 ((rd_T22 t125 x19_1).f1), .int .i64 ((rd_T22 t125 x19_1).f2)] 22 (0, 0))) ∧ (w'.heap[gb137]? = some (.cells #[.int .i64 t130, .int .i64 t131, .int .i64 t132, .int .i64 t133, .int .i64 t134, .int .i64 t135] 28 (0, 0))) ∧ (BI S w N1 (J es1) w')) ?_ ?_
                    rotate_left
                    · intro hCont
                      refine two_ (i := 2) (j := 9) (Ni := some 38) (Nj := some 45) #[true, true, true, true, true, true, true, false, true, false, false, true, false] #[true, true, false, true, true, true, true, false, true, true, false, true, false] rfl rfl rfl rfl (two_of HT_.out (by kernel_rfl)) (by decide) (by decide) (fun K hK => ?_) (fun K hK => ?_)
                      · skip
                        refine goes_ Try.func47 (by kernel_rfl) rfl #[.agg #[.int .i64 t130, .int .i64 t131, .int .i64 t132, .int .i64 t133, .int .i64 t134, .int .i64 t135], .int .i64 t138] (by rfl) rfl rfl (by (try simp only [List.map_toArray, List.map_cons, List.map_nil]); first | done | rfl | (simp only [List.length_drop, List.length_take]; rfl)) ?_
                        with_reducible refine (impl_Ropes_burn.calls kj13 t130 t131 t132 t133 t134 t135 t138 t139 t140 t141 t142 t143 t144 _ A27.out).mono ?_
                        rintro e w32 ⟨rfl, hb⟩
                        refine ⟨_, rfl, ?_⟩
                        have n0_ := Aside0.mk (Kd.R_below (by (with_reducible repeat (first | apply Kd.R_alloc | apply Kd.R_drewN | apply Kd.R_drew)); exact HO_17.out) hb)
                        have n1_ := Aside0.mk (blk_below (g := gb124) (o := .cells #[.int .i64 a0_0, .int .i64 a0_1, .int .i64 a0_2, .int .i64 a0_3, .int .i64 a0_4, .int .i64 a0_5] 28 (0, 0)) (by (with_reducible repeat (first | refine blk_drewN ?_ _ | refine blk_drew ?_ | refine blk_alloc ?_ _)); exact BK124.out) hb)
                        have n2_ := Aside0.mk (blk_below (g := gb129) (o := .cells #[.int .i64 ((rd_T22 t125 x19_1).f0), .int .i64 ((rd_T22 t125 x19_1).f1), .int .i64 ((rd_T22 t125 x19_1).f2)] 22 (0, 0)) (by (with_reducible repeat (first | refine blk_drewN ?_ _ | refine blk_drew ?_ | refine blk_alloc ?_ _)); exact BK129.out) hb)
                        have n3_ := Aside0.mk (blk_below (g := gb137) (o := .cells #[.int .i64 t130, .int .i64 t131, .int .i64 t132, .int .i64 t133, .int .i64 t134, .int .i64 t135] 28 (0, 0)) (by (with_reducible repeat (first | refine blk_drewN ?_ _ | refine blk_drew ?_ | refine blk_alloc ?_ _)); exact BK137.out) hb)
                        have n4_ := Aside0.mk (bs_step (by repeat (first | (with_reducible first | exact HB.out | apply bs_alloc | apply bs_drewN | apply bs_drew1 | refine bs_set (S := S) (w := w) (I := J es1) ?_ GE129.out | refine bs_set (S := S) (w := w) (I := J es1) ?_ GE137.out) | exact HB.out)) hb)
                        clear HO_17
                        clear BK124
                        clear BK129
                        clear BK137
                        clear HB
                        have HO_17 := n0_
                        have BK124 := n1_
                        have BK129 := n2_
                        have BK137 := n3_
                        have HB := n4_
                        clear n0_ n1_ n2_ n3_ n4_
                        (try clear hb)
                        (try clear hb2)
                        (try clear hk)
                        (try clear hi)
                        refine hK.out _ _ ⟨(blk_cell BK137.out 0).trans rfl, (blk_cell BK137.out 1).trans rfl, (blk_cell BK137.out 2).trans rfl, (blk_cell BK137.out 3).trans rfl, (blk_cell BK137.out 4).trans rfl, (blk_cell BK137.out 5).trans rfl, (blk_cell BK129.out 0).trans rfl, (blk_cell BK129.out 1).trans rfl, (blk_cell BK129.out 2).trans rfl⟩ (fun hHeld => ?_)
                        clear hK K
                        refine norm_ (a' := ?_) ?_ ?_
                        rotate_left
                        · show Act.put _ (some 38) _ = _
                          simp only [Act.put, q1, q2, q3, i64_w, i32_w]
                          rfl
                        refine two_ (i := 7) (j := 9) (Ni := some 43) (Nj := some 45) #[true, true, true, true, true, true, true, true, true, false, false, true, false] #[true, true, true, true, true, true, true, false, true, true, false, true, false] rfl rfl rfl rfl (two_of HT_.out (by kernel_rfl)) (by decide) (by decide) (fun K hK => ?_) (fun K hK => ?_)
                        · skip
                          refine goes_ Try.func48 (by kernel_rfl) rfl #[.slice A2 l2.length c2] (by rfl) rfl rfl (by (try simp only [List.map_toArray, List.map_cons, List.map_nil]); first | done | rfl | (simp only [List.length_drop, List.length_take]; rfl)) ?_
                          with_reducible refine (slices_Clone_3_int_3_int.calls _ _ l2 t145 _ ?side1 ?side2 A28.out).mono ?_
                          (case side1 => repeat (first | exact (bs_C HR2.out HB.out HNS.out) | (with_reducible refine Kd.C_alloc ?_ _) | (with_reducible refine Kd.C_drewN ?_ _) | (with_reducible refine Kd.C_drew ?_)))
                          (case side2 => exact HC2.out)
                          rintro e w33 ⟨v146, rfl, ho0, hb⟩
                          refine ⟨_, rfl, ?_⟩
                          have n0_ := Aside0.mk (Kd.R_elder' (by (with_reducible repeat (first | apply Kd.R_alloc | apply Kd.R_drewN | apply Kd.R_drew)); exact HO_17.out) (Kd.R_base ho0) hb)
                          have n1_ := Aside0.mk (Kd.R_lower (Kd.R_newB (Kd.R_new' ho0 (Kd.R_lt (by (with_reducible repeat (first | apply Kd.R_alloc | apply Kd.R_drewN | apply Kd.R_drew)); exact HO_17.out))) (g := gb129) (o := .cells #[.int .i64 ((rd_T22 t125 x19_1).f0), .int .i64 ((rd_T22 t125 x19_1).f1), .int .i64 ((rd_T22 t125 x19_1).f2)] 22 (0, 0)) (by (with_reducible repeat (first | refine blk_drewN ?_ _ | refine blk_drew ?_ | refine blk_alloc ?_ _)); exact BK129.out)) (bs_size (by repeat (first | (with_reducible first | exact HB.out | apply bs_alloc | apply bs_drewN | apply bs_drew1 | refine bs_set (S := S) (w := w) (I := J es1) ?_ GE129.out | refine bs_set (S := S) (w := w) (I := J es1) ?_ GE137.out) | exact HB.out))))
                          have n2_ := Aside0.mk (blk_below (g := gb124) (o := .cells #[.int .i64 a0_0, .int .i64 a0_1, .int .i64 a0_2, .int .i64 a0_3, .int .i64 a0_4, .int .i64 a0_5] 28 (0, 0)) (by (with_reducible repeat (first | refine blk_drewN ?_ _ | refine blk_drew ?_ | refine blk_alloc ?_ _)); exact BK124.out) hb)
                          have n3_ := Aside0.mk (blk_below (g := gb129) (o := .cells #[.int .i64 ((rd_T22 t125 x19_1).f0), .int .i64 ((rd_T22 t125 x19_1).f1), .int .i64 ((rd_T22 t125 x19_1).f2)] 22 (0, 0)) (by (with_reducible repeat (first | refine blk_drewN ?_ _ | refine blk_drew ?_ | refine blk_alloc ?_ _)); exact BK129.out) hb)
                          have n4_ := Aside0.mk (blk_below (g := gb137) (o := .cells #[.int .i64 t130, .int .i64 t131, .int .i64 t132, .int .i64 t133, .int .i64 t134, .int .i64 t135] 28 (0, 0)) (by (with_reducible repeat (first | refine blk_drewN ?_ _ | refine blk_drew ?_ | refine blk_alloc ?_ _)); exact BK137.out) hb)
                          have n5_ := Aside0.mk (bs_step (by repeat (first | (with_reducible first | exact HB.out | apply bs_alloc | apply bs_drewN | apply bs_drew1 | refine bs_set (S := S) (w := w) (I := J es1) ?_ GE129.out | refine bs_set (S := S) (w := w) (I := J es1) ?_ GE137.out) | exact HB.out)) hb)
                          clear HO_17
                          clear BK124
                          clear BK129
                          clear BK137
                          clear HB
                          have HO_17 := n0_
                          have HO147 := n1_
                          have BK124 := n2_
                          have BK129 := n3_
                          have BK137 := n4_
                          have HB := n5_
                          clear n0_ n1_ n2_ n3_ n4_ n5_
                          (try clear hb)
                          (try clear hb2)
                          (try clear hk)
                          (try clear hi)
                          (try clear ho0)
                          refine hK.out _ _ ⟨(blk_cell BK137.out 0).trans rfl, (blk_cell BK137.out 1).trans rfl, (blk_cell BK137.out 2).trans rfl, (blk_cell BK137.out 3).trans rfl, (blk_cell BK137.out 4).trans rfl, (blk_cell BK137.out 5).trans rfl, (blk_cell BK129.out 0).trans rfl, (blk_cell BK129.out 1).trans rfl, (blk_cell BK129.out 2).trans rfl⟩ (fun hHeld => ?_)
                          clear hK K
                          refine norm_ (a' := ?_) ?_ ?_
                          rotate_left
                          · show Act.put _ (some 43) _ = _
                            simp only [Act.put, q1, q2, q3, i64_w, i32_w]
                            rfl
                          refine one_ (i := 9) (N := some 45) #[true, true, true, true, true, true, true, true, true, true, false, true, false] rfl rfl (one_of HT_.out (by kernel_rfl)) (by decide) (fun K hK => ?_)
                          refine Kd.R_lit_step k22 _ 22 ?hg (N := 45) ?hd (xs := ([(⟨((rd_T22 t125 x19_1).f0), ((rd_T22 t125 x19_1).f1), ((rd_T22 t125 x19_1).f2)⟩ : S22)] : List (S22))) (inner := [.int .i64 ((rd_T22 t125 x19_1).f0), .int .i64 ((rd_T22 t125 x19_1).f1), .int .i64 ((rd_T22 t125 x19_1).f2)]) (ok := fun _ => True) (okp := fun _ => True) ?hr ?hp (fun _ hk => hk) trivial (Below.refl _ _) (Nat.le_refl _) (by simp) ?_; (case hd => rfl); (case hg => rfl); (case hr => first | (go_simp; done) | (go_simp; rfl)); (case hp => exact (Reps.c3 (show Kd.M k22 _ _ _ (⟨((rd_T22 t125 x19_1).f0), ((rd_T22 t125 x19_1).f1), ((rd_T22 t125 x19_1).f2)⟩ : S22) [.int .i64 ((rd_T22 t125 x19_1).f0), .int .i64 ((rd_T22 t125 x19_1).f1), .int .i64 ((rd_T22 t125 x19_1).f2)] from (k22_mkM _ _ _ (⟨((rd_T22 t125 x19_1).f0), ((rd_T22 t125 x19_1).f1), ((rd_T22 t125 x19_1).f2)⟩ : S22) )) (Reps.none _ _)))
                          intro v149 w34 ho35 hb hg_ hnew_
                          clear hg_ hnew_
                          (first | rw [← Ny148.out] at ho35 | (simp only [Int.reduceToNat] at ho35; rw [← Ny148.out] at ho35))
                          have n0_ := Aside0.mk (Kd.R_elder' (by (with_reducible repeat (first | apply Kd.R_alloc | apply Kd.R_drewN | apply Kd.R_drew)); exact HO_17.out) (Kd.R_base ho35) hb)
                          have n1_ := Aside0.mk (Kd.R_elder' (by (with_reducible repeat (first | apply Kd.R_alloc | apply Kd.R_drewN | apply Kd.R_drew)); exact HO147.out) (Kd.R_base ho35) hb)
                          have n2_ := Aside0.mk (Kd.R_lower (Kd.R_newB (Kd.R_new' (Kd.R_new' ho35 (Kd.R_lt (by (with_reducible repeat (first | apply Kd.R_alloc | apply Kd.R_drewN | apply Kd.R_drew)); exact HO_17.out))) (Kd.R_lt (by (with_reducible repeat (first | apply Kd.R_alloc | apply Kd.R_drewN | apply Kd.R_drew)); exact HO147.out))) (g := gb129) (o := .cells #[.int .i64 ((rd_T22 t125 x19_1).f0), .int .i64 ((rd_T22 t125 x19_1).f1), .int .i64 ((rd_T22 t125 x19_1).f2)] 22 (0, 0)) (by (with_reducible repeat (first | refine blk_drewN ?_ _ | refine blk_drew ?_ | refine blk_alloc ?_ _)); exact BK129.out)) (bs_size (by repeat (first | (with_reducible first | exact HB.out | apply bs_alloc | apply bs_drewN | apply bs_drew1 | refine bs_set (S := S) (w := w) (I := J es1) ?_ GE129.out | refine bs_set (S := S) (w := w) (I := J es1) ?_ GE137.out) | exact HB.out))))
                          have n3_ := Aside0.mk (blk_below (g := gb124) (o := .cells #[.int .i64 a0_0, .int .i64 a0_1, .int .i64 a0_2, .int .i64 a0_3, .int .i64 a0_4, .int .i64 a0_5] 28 (0, 0)) (by (with_reducible repeat (first | refine blk_drewN ?_ _ | refine blk_drew ?_ | refine blk_alloc ?_ _)); exact BK124.out) hb)
                          have n4_ := Aside0.mk (blk_below (g := gb129) (o := .cells #[.int .i64 ((rd_T22 t125 x19_1).f0), .int .i64 ((rd_T22 t125 x19_1).f1), .int .i64 ((rd_T22 t125 x19_1).f2)] 22 (0, 0)) (by (with_reducible repeat (first | refine blk_drewN ?_ _ | refine blk_drew ?_ | refine blk_alloc ?_ _)); exact BK129.out) hb)
                          have n5_ := Aside0.mk (blk_below (g := gb137) (o := .cells #[.int .i64 t130, .int .i64 t131, .int .i64 t132, .int .i64 t133, .int .i64 t134, .int .i64 t135] 28 (0, 0)) (by (with_reducible repeat (first | refine blk_drewN ?_ _ | refine blk_drew ?_ | refine blk_alloc ?_ _)); exact BK137.out) hb)
                          have n6_ := Aside0.mk (bs_step (by repeat (first | (with_reducible first | exact HB.out | apply bs_alloc | apply bs_drewN | apply bs_drew1 | refine bs_set (S := S) (w := w) (I := J es1) ?_ GE129.out | refine bs_set (S := S) (w := w) (I := J es1) ?_ GE137.out) | exact HB.out)) hb)
                          clear HO_17
                          clear HO147
                          clear BK124
                          clear BK129
                          clear BK137
                          clear HB
                          have HO_17 := n0_
                          have HO147 := n1_
                          have HO150 := n2_
                          have BK124 := n3_
                          have BK129 := n4_
                          have BK137 := n5_
                          have HB := n6_
                          clear n0_ n1_ n2_ n3_ n4_ n5_ n6_
                          clear hb ho35
                          refine hK.out _ _ ⟨(blk_cell BK137.out 0).trans rfl, (blk_cell BK137.out 1).trans rfl, (blk_cell BK137.out 2).trans rfl, (blk_cell BK137.out 3).trans rfl, (blk_cell BK137.out 4).trans rfl, (blk_cell BK137.out 5).trans rfl, (blk_cell BK129.out 0).trans rfl, (blk_cell BK129.out 1).trans rfl, (blk_cell BK129.out 2).trans rfl⟩ (fun hHeld => ?_)
                          clear hK K
                          refine norm_ (a' := ?_) ?_ ?_
                          rotate_left
                          · show Act.put _ (some 45) _ = _
                            simp only [Act.put, q1, q2, q3, i64_w, i32_w]
                            rfl
                          exact norm_ (by simp only [putAll, Act.put, q1, q2, q3]) (hCont (v146, v149) _ ⟨hHeld, (by (with_reducible repeat (first | apply Kd.R_alloc | apply Kd.R_drewN | apply Kd.R_drew)); exact Kd.R_mono HO147.out (fun _ hk => ⟨hk.2, ⟨hk.1.1.2, hk.1.2⟩⟩)), (by (with_reducible repeat (first | apply Kd.R_alloc | apply Kd.R_drewN | apply Kd.R_drew)); exact Kd.R_mono HO150.out (fun _ hk => ⟨hk.1.2, ⟨hk.1.1.2, hk.2⟩⟩)), (by (with_reducible repeat (first | apply Kd.R_alloc | apply Kd.R_drewN | apply Kd.R_drew)); exact Kd.R_mono HO_17.out (fun _ hk => ⟨hk.1.2, ⟨hk.2, hk.1.1⟩⟩)), (by (with_reducible repeat (first | refine blk_drewN ?_ _ | refine blk_drew ?_ | refine blk_alloc ?_ _)); exact BK124.out), (by (with_reducible repeat (first | refine blk_drewN ?_ _ | refine blk_drew ?_ | refine blk_alloc ?_ _)); exact BK129.out), (by (with_reducible repeat (first | refine blk_drewN ?_ _ | refine blk_drew ?_ | refine blk_alloc ?_ _)); exact BK137.out), (by repeat (first | (with_reducible first | exact HB.out | apply bs_alloc | apply bs_drewN | apply bs_drew1 | refine bs_set (S := S) (w := w) (I := J es1) ?_ GE129.out | refine bs_set (S := S) (w := w) (I := J es1) ?_ GE137.out) | exact HB.out))⟩)
                        · skip
                          refine Kd.R_lit_step k22 _ 22 ?hg (N := 45) ?hd (xs := ([(⟨((rd_T22 t125 x19_1).f0), ((rd_T22 t125 x19_1).f1), ((rd_T22 t125 x19_1).f2)⟩ : S22)] : List (S22))) (inner := [.int .i64 ((rd_T22 t125 x19_1).f0), .int .i64 ((rd_T22 t125 x19_1).f1), .int .i64 ((rd_T22 t125 x19_1).f2)]) (ok := fun _ => True) (okp := fun _ => True) ?hr ?hp (fun _ hk => hk) trivial (Below.refl _ _) (Nat.le_refl _) (by simp) ?_; (case hd => rfl); (case hg => rfl); (case hr => first | (go_simp; done) | (go_simp; rfl)); (case hp => exact (Reps.c3 (show Kd.M k22 _ _ _ (⟨((rd_T22 t125 x19_1).f0), ((rd_T22 t125 x19_1).f1), ((rd_T22 t125 x19_1).f2)⟩ : S22) [.int .i64 ((rd_T22 t125 x19_1).f0), .int .i64 ((rd_T22 t125 x19_1).f1), .int .i64 ((rd_T22 t125 x19_1).f2)] from (k22_mkM _ _ _ (⟨((rd_T22 t125 x19_1).f0), ((rd_T22 t125 x19_1).f1), ((rd_T22 t125 x19_1).f2)⟩ : S22) )) (Reps.none _ _)))
                          intro v149 w33 ho34 hb hg_ hnew_
                          clear hg_ hnew_
                          (first | rw [← Ny148.out] at ho34 | (simp only [Int.reduceToNat] at ho34; rw [← Ny148.out] at ho34))
                          have n0_ := Aside0.mk (Kd.R_elder' (by (with_reducible repeat (first | apply Kd.R_alloc | apply Kd.R_drewN | apply Kd.R_drew)); exact HO_17.out) (Kd.R_base ho34) hb)
                          have n1_ := Aside0.mk (Kd.R_lower (Kd.R_newB (Kd.R_new' ho34 (Kd.R_lt (by (with_reducible repeat (first | apply Kd.R_alloc | apply Kd.R_drewN | apply Kd.R_drew)); exact HO_17.out))) (g := gb129) (o := .cells #[.int .i64 ((rd_T22 t125 x19_1).f0), .int .i64 ((rd_T22 t125 x19_1).f1), .int .i64 ((rd_T22 t125 x19_1).f2)] 22 (0, 0)) (by (with_reducible repeat (first | refine blk_drewN ?_ _ | refine blk_drew ?_ | refine blk_alloc ?_ _)); exact BK129.out)) (bs_size (by repeat (first | (with_reducible first | exact HB.out | apply bs_alloc | apply bs_drewN | apply bs_drew1 | refine bs_set (S := S) (w := w) (I := J es1) ?_ GE129.out | refine bs_set (S := S) (w := w) (I := J es1) ?_ GE137.out) | exact HB.out))))
                          have n2_ := Aside0.mk (blk_below (g := gb124) (o := .cells #[.int .i64 a0_0, .int .i64 a0_1, .int .i64 a0_2, .int .i64 a0_3, .int .i64 a0_4, .int .i64 a0_5] 28 (0, 0)) (by (with_reducible repeat (first | refine blk_drewN ?_ _ | refine blk_drew ?_ | refine blk_alloc ?_ _)); exact BK124.out) hb)
                          have n3_ := Aside0.mk (blk_below (g := gb129) (o := .cells #[.int .i64 ((rd_T22 t125 x19_1).f0), .int .i64 ((rd_T22 t125 x19_1).f1), .int .i64 ((rd_T22 t125 x19_1).f2)] 22 (0, 0)) (by (with_reducible repeat (first | refine blk_drewN ?_ _ | refine blk_drew ?_ | refine blk_alloc ?_ _)); exact BK129.out) hb)
                          have n4_ := Aside0.mk (blk_below (g := gb137) (o := .cells #[.int .i64 t130, .int .i64 t131, .int .i64 t132, .int .i64 t133, .int .i64 t134, .int .i64 t135] 28 (0, 0)) (by (with_reducible repeat (first | refine blk_drewN ?_ _ | refine blk_drew ?_ | refine blk_alloc ?_ _)); exact BK137.out) hb)
                          have n5_ := Aside0.mk (bs_step (by repeat (first | (with_reducible first | exact HB.out | apply bs_alloc | apply bs_drewN | apply bs_drew1 | refine bs_set (S := S) (w := w) (I := J es1) ?_ GE129.out | refine bs_set (S := S) (w := w) (I := J es1) ?_ GE137.out) | exact HB.out)) hb)
                          clear HO_17
                          clear BK124
                          clear BK129
                          clear BK137
                          clear HB
                          have HO_17 := n0_
                          have HO150 := n1_
                          have BK124 := n2_
                          have BK129 := n3_
                          have BK137 := n4_
                          have HB := n5_
                          clear n0_ n1_ n2_ n3_ n4_ n5_
                          clear hb ho34
                          refine hK.out _ _ ⟨(blk_cell BK137.out 0).trans rfl, (blk_cell BK137.out 1).trans rfl, (blk_cell BK137.out 2).trans rfl, (blk_cell BK137.out 3).trans rfl, (blk_cell BK137.out 4).trans rfl, (blk_cell BK137.out 5).trans rfl, (blk_cell BK129.out 0).trans rfl, (blk_cell BK129.out 1).trans rfl, (blk_cell BK129.out 2).trans rfl⟩ (fun hHeld => ?_)
                          clear hK K
                          refine norm_ (a' := ?_) ?_ ?_
                          rotate_left
                          · show Act.put _ (some 45) _ = _
                            simp only [Act.put, q1, q2, q3, i64_w, i32_w]
                            rfl
                          refine one_ (i := 7) (N := some 43) #[true, true, true, true, true, true, true, true, true, true, false, true, false] rfl rfl (one_of HT_.out (by kernel_rfl)) (by decide) (fun K hK => ?_)
                          refine goes_ Try.func48 (by kernel_rfl) rfl #[.slice A2 l2.length c2] (by rfl) rfl rfl (by (try simp only [List.map_toArray, List.map_cons, List.map_nil]); first | done | rfl | (simp only [List.length_drop, List.length_take]; rfl)) ?_
                          with_reducible refine (slices_Clone_3_int_3_int.calls _ _ l2 t145 _ ?side1 ?side2 A28.out).mono ?_
                          (case side1 => repeat (first | exact (bs_C HR2.out HB.out HNS.out) | (with_reducible refine Kd.C_alloc ?_ _) | (with_reducible refine Kd.C_drewN ?_ _) | (with_reducible refine Kd.C_drew ?_)))
                          (case side2 => exact HC2.out)
                          rintro e w35 ⟨v146, rfl, ho0, hb⟩
                          refine ⟨_, rfl, ?_⟩
                          have n0_ := Aside0.mk (Kd.R_elder' (by (with_reducible repeat (first | apply Kd.R_alloc | apply Kd.R_drewN | apply Kd.R_drew)); exact HO_17.out) (Kd.R_base ho0) hb)
                          have n1_ := Aside0.mk (Kd.R_elder' (by (with_reducible repeat (first | apply Kd.R_alloc | apply Kd.R_drewN | apply Kd.R_drew)); exact HO150.out) (Kd.R_base ho0) hb)
                          have n2_ := Aside0.mk (Kd.R_lower (Kd.R_newB (Kd.R_new' (Kd.R_new' ho0 (Kd.R_lt (by (with_reducible repeat (first | apply Kd.R_alloc | apply Kd.R_drewN | apply Kd.R_drew)); exact HO_17.out))) (Kd.R_lt (by (with_reducible repeat (first | apply Kd.R_alloc | apply Kd.R_drewN | apply Kd.R_drew)); exact HO150.out))) (g := gb129) (o := .cells #[.int .i64 ((rd_T22 t125 x19_1).f0), .int .i64 ((rd_T22 t125 x19_1).f1), .int .i64 ((rd_T22 t125 x19_1).f2)] 22 (0, 0)) (by (with_reducible repeat (first | refine blk_drewN ?_ _ | refine blk_drew ?_ | refine blk_alloc ?_ _)); exact BK129.out)) (bs_size (by repeat (first | (with_reducible first | exact HB.out | apply bs_alloc | apply bs_drewN | apply bs_drew1 | refine bs_set (S := S) (w := w) (I := J es1) ?_ GE129.out | refine bs_set (S := S) (w := w) (I := J es1) ?_ GE137.out) | exact HB.out))))
                          have n3_ := Aside0.mk (blk_below (g := gb124) (o := .cells #[.int .i64 a0_0, .int .i64 a0_1, .int .i64 a0_2, .int .i64 a0_3, .int .i64 a0_4, .int .i64 a0_5] 28 (0, 0)) (by (with_reducible repeat (first | refine blk_drewN ?_ _ | refine blk_drew ?_ | refine blk_alloc ?_ _)); exact BK124.out) hb)
                          have n4_ := Aside0.mk (blk_below (g := gb129) (o := .cells #[.int .i64 ((rd_T22 t125 x19_1).f0), .int .i64 ((rd_T22 t125 x19_1).f1), .int .i64 ((rd_T22 t125 x19_1).f2)] 22 (0, 0)) (by (with_reducible repeat (first | refine blk_drewN ?_ _ | refine blk_drew ?_ | refine blk_alloc ?_ _)); exact BK129.out) hb)
                          have n5_ := Aside0.mk (blk_below (g := gb137) (o := .cells #[.int .i64 t130, .int .i64 t131, .int .i64 t132, .int .i64 t133, .int .i64 t134, .int .i64 t135] 28 (0, 0)) (by (with_reducible repeat (first | refine blk_drewN ?_ _ | refine blk_drew ?_ | refine blk_alloc ?_ _)); exact BK137.out) hb)
                          have n6_ := Aside0.mk (bs_step (by repeat (first | (with_reducible first | exact HB.out | apply bs_alloc | apply bs_drewN | apply bs_drew1 | refine bs_set (S := S) (w := w) (I := J es1) ?_ GE129.out | refine bs_set (S := S) (w := w) (I := J es1) ?_ GE137.out) | exact HB.out)) hb)
                          clear HO_17
                          clear HO150
                          clear BK124
                          clear BK129
                          clear BK137
                          clear HB
                          have HO_17 := n0_
                          have HO150 := n1_
                          have HO147 := n2_
                          have BK124 := n3_
                          have BK129 := n4_
                          have BK137 := n5_
                          have HB := n6_
                          clear n0_ n1_ n2_ n3_ n4_ n5_ n6_
                          (try clear hb)
                          (try clear hb2)
                          (try clear hk)
                          (try clear hi)
                          (try clear ho0)
                          refine hK.out _ _ ⟨(blk_cell BK137.out 0).trans rfl, (blk_cell BK137.out 1).trans rfl, (blk_cell BK137.out 2).trans rfl, (blk_cell BK137.out 3).trans rfl, (blk_cell BK137.out 4).trans rfl, (blk_cell BK137.out 5).trans rfl, (blk_cell BK129.out 0).trans rfl, (blk_cell BK129.out 1).trans rfl, (blk_cell BK129.out 2).trans rfl⟩ (fun hHeld => ?_)
                          clear hK K
                          refine norm_ (a' := ?_) ?_ ?_
                          rotate_left
                          · show Act.put _ (some 43) _ = _
                            simp only [Act.put, q1, q2, q3, i64_w, i32_w]
                            rfl
                          exact norm_ (by simp only [putAll, Act.put, q1, q2, q3]) (hCont (v146, v149) _ ⟨hHeld, (by (with_reducible repeat (first | apply Kd.R_alloc | apply Kd.R_drewN | apply Kd.R_drew)); exact Kd.R_mono HO147.out (fun _ hk => ⟨hk.1.2, ⟨hk.1.1.2, hk.2⟩⟩)), (by (with_reducible repeat (first | apply Kd.R_alloc | apply Kd.R_drewN | apply Kd.R_drew)); exact Kd.R_mono HO150.out (fun _ hk => ⟨hk.2, ⟨hk.1.1.2, hk.1.2⟩⟩)), (by (with_reducible repeat (first | apply Kd.R_alloc | apply Kd.R_drewN | apply Kd.R_drew)); exact Kd.R_mono HO_17.out (fun _ hk => ⟨hk.2, ⟨hk.1.2, hk.1.1⟩⟩)), (by (with_reducible repeat (first | refine blk_drewN ?_ _ | refine blk_drew ?_ | refine blk_alloc ?_ _)); exact BK124.out), (by (with_reducible repeat (first | refine blk_drewN ?_ _ | refine blk_drew ?_ | refine blk_alloc ?_ _)); exact BK129.out), (by (with_reducible repeat (first | refine blk_drewN ?_ _ | refine blk_drew ?_ | refine blk_alloc ?_ _)); exact BK137.out), (by repeat (first | (with_reducible first | exact HB.out | apply bs_alloc | apply bs_drewN | apply bs_drew1 | refine bs_set (S := S) (w := w) (I := J es1) ?_ GE129.out | refine bs_set (S := S) (w := w) (I := J es1) ?_ GE137.out) | exact HB.out))⟩)
                      · skip
                        refine Kd.R_lit_step k22 _ 22 ?hg (N := 45) ?hd (xs := ([(⟨((rd_T22 t125 x19_1).f0), ((rd_T22 t125 x19_1).f1), ((rd_T22 t125 x19_1).f2)⟩ : S22)] : List (S22))) (inner := [.int .i64 ((rd_T22 t125 x19_1).f0), .int .i64 ((rd_T22 t125 x19_1).f1), .int .i64 ((rd_T22 t125 x19_1).f2)]) (ok := fun _ => True) (okp := fun _ => True) ?hr ?hp (fun _ hk => hk) trivial (Below.refl _ _) (Nat.le_refl _) (by simp) ?_; (case hd => rfl); (case hg => rfl); (case hr => first | (go_simp; done) | (go_simp; rfl)); (case hp => exact (Reps.c3 (show Kd.M k22 _ _ _ (⟨((rd_T22 t125 x19_1).f0), ((rd_T22 t125 x19_1).f1), ((rd_T22 t125 x19_1).f2)⟩ : S22) [.int .i64 ((rd_T22 t125 x19_1).f0), .int .i64 ((rd_T22 t125 x19_1).f1), .int .i64 ((rd_T22 t125 x19_1).f2)] from (k22_mkM _ _ _ (⟨((rd_T22 t125 x19_1).f0), ((rd_T22 t125 x19_1).f1), ((rd_T22 t125 x19_1).f2)⟩ : S22) )) (Reps.none _ _)))
                        intro v149 w32 ho33 hb hg_ hnew_
                        clear hg_ hnew_
                        (first | rw [← Ny148.out] at ho33 | (simp only [Int.reduceToNat] at ho33; rw [← Ny148.out] at ho33))
                        have n0_ := Aside0.mk (Kd.R_elder' (by (with_reducible repeat (first | apply Kd.R_alloc | apply Kd.R_drewN | apply Kd.R_drew)); exact HO_17.out) (Kd.R_base ho33) hb)
                        have n1_ := Aside0.mk (Kd.R_lower (Kd.R_newB (Kd.R_new' ho33 (Kd.R_lt (by (with_reducible repeat (first | apply Kd.R_alloc | apply Kd.R_drewN | apply Kd.R_drew)); exact HO_17.out))) (g := gb129) (o := .cells #[.int .i64 ((rd_T22 t125 x19_1).f0), .int .i64 ((rd_T22 t125 x19_1).f1), .int .i64 ((rd_T22 t125 x19_1).f2)] 22 (0, 0)) (by (with_reducible repeat (first | refine blk_drewN ?_ _ | refine blk_drew ?_ | refine blk_alloc ?_ _)); exact BK129.out)) (bs_size (by repeat (first | (with_reducible first | exact HB.out | apply bs_alloc | apply bs_drewN | apply bs_drew1 | refine bs_set (S := S) (w := w) (I := J es1) ?_ GE129.out | refine bs_set (S := S) (w := w) (I := J es1) ?_ GE137.out) | exact HB.out))))
                        have n2_ := Aside0.mk (blk_below (g := gb124) (o := .cells #[.int .i64 a0_0, .int .i64 a0_1, .int .i64 a0_2, .int .i64 a0_3, .int .i64 a0_4, .int .i64 a0_5] 28 (0, 0)) (by (with_reducible repeat (first | refine blk_drewN ?_ _ | refine blk_drew ?_ | refine blk_alloc ?_ _)); exact BK124.out) hb)
                        have n3_ := Aside0.mk (blk_below (g := gb129) (o := .cells #[.int .i64 ((rd_T22 t125 x19_1).f0), .int .i64 ((rd_T22 t125 x19_1).f1), .int .i64 ((rd_T22 t125 x19_1).f2)] 22 (0, 0)) (by (with_reducible repeat (first | refine blk_drewN ?_ _ | refine blk_drew ?_ | refine blk_alloc ?_ _)); exact BK129.out) hb)
                        have n4_ := Aside0.mk (blk_below (g := gb137) (o := .cells #[.int .i64 t130, .int .i64 t131, .int .i64 t132, .int .i64 t133, .int .i64 t134, .int .i64 t135] 28 (0, 0)) (by (with_reducible repeat (first | refine blk_drewN ?_ _ | refine blk_drew ?_ | refine blk_alloc ?_ _)); exact BK137.out) hb)
                        have n5_ := Aside0.mk (bs_step (by repeat (first | (with_reducible first | exact HB.out | apply bs_alloc | apply bs_drewN | apply bs_drew1 | refine bs_set (S := S) (w := w) (I := J es1) ?_ GE129.out | refine bs_set (S := S) (w := w) (I := J es1) ?_ GE137.out) | exact HB.out)) hb)
                        clear HO_17
                        clear BK124
                        clear BK129
                        clear BK137
                        clear HB
                        have HO_17 := n0_
                        have HO150 := n1_
                        have BK124 := n2_
                        have BK129 := n3_
                        have BK137 := n4_
                        have HB := n5_
                        clear n0_ n1_ n2_ n3_ n4_ n5_
                        clear hb ho33
                        refine hK.out _ _ ⟨(blk_cell BK137.out 0).trans rfl, (blk_cell BK137.out 1).trans rfl, (blk_cell BK137.out 2).trans rfl, (blk_cell BK137.out 3).trans rfl, (blk_cell BK137.out 4).trans rfl, (blk_cell BK137.out 5).trans rfl, (blk_cell BK129.out 0).trans rfl, (blk_cell BK129.out 1).trans rfl, (blk_cell BK129.out 2).trans rfl⟩ (fun hHeld => ?_)
                        clear hK K
                        refine norm_ (a' := ?_) ?_ ?_
                        rotate_left
                        · show Act.put _ (some 45) _ = _
                          simp only [Act.put, q1, q2, q3, i64_w, i32_w]
                          rfl
                        refine one_ (i := 2) (N := some 38) #[true, true, true, true, true, true, true, false, true, true, false, true, false] rfl rfl (one_of HT_.out (by kernel_rfl)) (by decide) (fun K hK => ?_)
                        refine goes_ Try.func47 (by kernel_rfl) rfl #[.agg #[.int .i64 t130, .int .i64 t131, .int .i64 t132, .int .i64 t133, .int .i64 t134, .int .i64 t135], .int .i64 t138] (by rfl) rfl rfl (by (try simp only [List.map_toArray, List.map_cons, List.map_nil]); first | done | rfl | (simp only [List.length_drop, List.length_take]; rfl)) ?_
                        with_reducible refine (impl_Ropes_burn.calls kj13 t130 t131 t132 t133 t134 t135 t138 t139 t140 t141 t142 t143 t144 _ A27.out).mono ?_
                        rintro e w34 ⟨rfl, hb⟩
                        refine ⟨_, rfl, ?_⟩
                        have n0_ := Aside0.mk (Kd.R_below (by (with_reducible repeat (first | apply Kd.R_alloc | apply Kd.R_drewN | apply Kd.R_drew)); exact HO_17.out) hb)
                        have n1_ := Aside0.mk (Kd.R_below (by (with_reducible repeat (first | apply Kd.R_alloc | apply Kd.R_drewN | apply Kd.R_drew)); exact HO150.out) hb)
                        have n2_ := Aside0.mk (blk_below (g := gb124) (o := .cells #[.int .i64 a0_0, .int .i64 a0_1, .int .i64 a0_2, .int .i64 a0_3, .int .i64 a0_4, .int .i64 a0_5] 28 (0, 0)) (by (with_reducible repeat (first | refine blk_drewN ?_ _ | refine blk_drew ?_ | refine blk_alloc ?_ _)); exact BK124.out) hb)
                        have n3_ := Aside0.mk (blk_below (g := gb129) (o := .cells #[.int .i64 ((rd_T22 t125 x19_1).f0), .int .i64 ((rd_T22 t125 x19_1).f1), .int .i64 ((rd_T22 t125 x19_1).f2)] 22 (0, 0)) (by (with_reducible repeat (first | refine blk_drewN ?_ _ | refine blk_drew ?_ | refine blk_alloc ?_ _)); exact BK129.out) hb)
                        have n4_ := Aside0.mk (blk_below (g := gb137) (o := .cells #[.int .i64 t130, .int .i64 t131, .int .i64 t132, .int .i64 t133, .int .i64 t134, .int .i64 t135] 28 (0, 0)) (by (with_reducible repeat (first | refine blk_drewN ?_ _ | refine blk_drew ?_ | refine blk_alloc ?_ _)); exact BK137.out) hb)
                        have n5_ := Aside0.mk (bs_step (by repeat (first | (with_reducible first | exact HB.out | apply bs_alloc | apply bs_drewN | apply bs_drew1 | refine bs_set (S := S) (w := w) (I := J es1) ?_ GE129.out | refine bs_set (S := S) (w := w) (I := J es1) ?_ GE137.out) | exact HB.out)) hb)
                        clear HO_17
                        clear HO150
                        clear BK124
                        clear BK129
                        clear BK137
                        clear HB
                        have HO_17 := n0_
                        have HO150 := n1_
                        have BK124 := n2_
                        have BK129 := n3_
                        have BK137 := n4_
                        have HB := n5_
                        clear n0_ n1_ n2_ n3_ n4_ n5_
                        (try clear hb)
                        (try clear hb2)
                        (try clear hk)
                        (try clear hi)
                        refine hK.out _ _ ⟨(blk_cell BK137.out 0).trans rfl, (blk_cell BK137.out 1).trans rfl, (blk_cell BK137.out 2).trans rfl, (blk_cell BK137.out 3).trans rfl, (blk_cell BK137.out 4).trans rfl, (blk_cell BK137.out 5).trans rfl, (blk_cell BK129.out 0).trans rfl, (blk_cell BK129.out 1).trans rfl, (blk_cell BK129.out 2).trans rfl⟩ (fun hHeld => ?_)
                        clear hK K
                        refine norm_ (a' := ?_) ?_ ?_
                        rotate_left
                        · show Act.put _ (some 38) _ = _
                          simp only [Act.put, q1, q2, q3, i64_w, i32_w]
                          rfl
                        refine one_ (i := 7) (N := some 43) #[true, true, true, true, true, true, true, true, true, true, false, true, false] rfl rfl (one_of HT_.out (by kernel_rfl)) (by decide) (fun K hK => ?_)
                        refine goes_ Try.func48 (by kernel_rfl) rfl #[.slice A2 l2.length c2] (by rfl) rfl rfl (by (try simp only [List.map_toArray, List.map_cons, List.map_nil]); first | done | rfl | (simp only [List.length_drop, List.length_take]; rfl)) ?_
                        with_reducible refine (slices_Clone_3_int_3_int.calls _ _ l2 t145 _ ?side1 ?side2 A28.out).mono ?_
                        (case side1 => repeat (first | exact (bs_C HR2.out HB.out HNS.out) | (with_reducible refine Kd.C_alloc ?_ _) | (with_reducible refine Kd.C_drewN ?_ _) | (with_reducible refine Kd.C_drew ?_)))
                        (case side2 => exact HC2.out)
                        rintro e w35 ⟨v146, rfl, ho0, hb⟩
                        refine ⟨_, rfl, ?_⟩
                        have n0_ := Aside0.mk (Kd.R_elder' (by (with_reducible repeat (first | apply Kd.R_alloc | apply Kd.R_drewN | apply Kd.R_drew)); exact HO_17.out) (Kd.R_base ho0) hb)
                        have n1_ := Aside0.mk (Kd.R_elder' (by (with_reducible repeat (first | apply Kd.R_alloc | apply Kd.R_drewN | apply Kd.R_drew)); exact HO150.out) (Kd.R_base ho0) hb)
                        have n2_ := Aside0.mk (Kd.R_lower (Kd.R_newB (Kd.R_new' (Kd.R_new' ho0 (Kd.R_lt (by (with_reducible repeat (first | apply Kd.R_alloc | apply Kd.R_drewN | apply Kd.R_drew)); exact HO_17.out))) (Kd.R_lt (by (with_reducible repeat (first | apply Kd.R_alloc | apply Kd.R_drewN | apply Kd.R_drew)); exact HO150.out))) (g := gb129) (o := .cells #[.int .i64 ((rd_T22 t125 x19_1).f0), .int .i64 ((rd_T22 t125 x19_1).f1), .int .i64 ((rd_T22 t125 x19_1).f2)] 22 (0, 0)) (by (with_reducible repeat (first | refine blk_drewN ?_ _ | refine blk_drew ?_ | refine blk_alloc ?_ _)); exact BK129.out)) (bs_size (by repeat (first | (with_reducible first | exact HB.out | apply bs_alloc | apply bs_drewN | apply bs_drew1 | refine bs_set (S := S) (w := w) (I := J es1) ?_ GE129.out | refine bs_set (S := S) (w := w) (I := J es1) ?_ GE137.out) | exact HB.out))))
                        have n3_ := Aside0.mk (blk_below (g := gb124) (o := .cells #[.int .i64 a0_0, .int .i64 a0_1, .int .i64 a0_2, .int .i64 a0_3, .int .i64 a0_4, .int .i64 a0_5] 28 (0, 0)) (by (with_reducible repeat (first | refine blk_drewN ?_ _ | refine blk_drew ?_ | refine blk_alloc ?_ _)); exact BK124.out) hb)
                        have n4_ := Aside0.mk (blk_below (g := gb129) (o := .cells #[.int .i64 ((rd_T22 t125 x19_1).f0), .int .i64 ((rd_T22 t125 x19_1).f1), .int .i64 ((rd_T22 t125 x19_1).f2)] 22 (0, 0)) (by (with_reducible repeat (first | refine blk_drewN ?_ _ | refine blk_drew ?_ | refine blk_alloc ?_ _)); exact BK129.out) hb)
                        have n5_ := Aside0.mk (blk_below (g := gb137) (o := .cells #[.int .i64 t130, .int .i64 t131, .int .i64 t132, .int .i64 t133, .int .i64 t134, .int .i64 t135] 28 (0, 0)) (by (with_reducible repeat (first | refine blk_drewN ?_ _ | refine blk_drew ?_ | refine blk_alloc ?_ _)); exact BK137.out) hb)
                        have n6_ := Aside0.mk (bs_step (by repeat (first | (with_reducible first | exact HB.out | apply bs_alloc | apply bs_drewN | apply bs_drew1 | refine bs_set (S := S) (w := w) (I := J es1) ?_ GE129.out | refine bs_set (S := S) (w := w) (I := J es1) ?_ GE137.out) | exact HB.out)) hb)
                        clear HO_17
                        clear HO150
                        clear BK124
                        clear BK129
                        clear BK137
                        clear HB
                        have HO_17 := n0_
                        have HO150 := n1_
                        have HO147 := n2_
                        have BK124 := n3_
                        have BK129 := n4_
                        have BK137 := n5_
                        have HB := n6_
                        clear n0_ n1_ n2_ n3_ n4_ n5_ n6_
                        (try clear hb)
                        (try clear hb2)
                        (try clear hk)
                        (try clear hi)
                        (try clear ho0)
                        refine hK.out _ _ ⟨(blk_cell BK137.out 0).trans rfl, (blk_cell BK137.out 1).trans rfl, (blk_cell BK137.out 2).trans rfl, (blk_cell BK137.out 3).trans rfl, (blk_cell BK137.out 4).trans rfl, (blk_cell BK137.out 5).trans rfl, (blk_cell BK129.out 0).trans rfl, (blk_cell BK129.out 1).trans rfl, (blk_cell BK129.out 2).trans rfl⟩ (fun hHeld => ?_)
                        clear hK K
                        refine norm_ (a' := ?_) ?_ ?_
                        rotate_left
                        · show Act.put _ (some 43) _ = _
                          simp only [Act.put, q1, q2, q3, i64_w, i32_w]
                          rfl
                        exact norm_ (by simp only [putAll, Act.put, q1, q2, q3]) (hCont (v146, v149) _ ⟨hHeld, (by (with_reducible repeat (first | apply Kd.R_alloc | apply Kd.R_drewN | apply Kd.R_drew)); exact Kd.R_mono HO147.out (fun _ hk => ⟨hk.1.2, ⟨hk.1.1.2, hk.2⟩⟩)), (by (with_reducible repeat (first | apply Kd.R_alloc | apply Kd.R_drewN | apply Kd.R_drew)); exact Kd.R_mono HO150.out (fun _ hk => ⟨hk.2, ⟨hk.1.1.2, hk.1.2⟩⟩)), (by (with_reducible repeat (first | apply Kd.R_alloc | apply Kd.R_drewN | apply Kd.R_drew)); exact Kd.R_mono HO_17.out (fun _ hk => ⟨hk.2, ⟨hk.1.2, hk.1.1⟩⟩)), (by (with_reducible repeat (first | refine blk_drewN ?_ _ | refine blk_drew ?_ | refine blk_alloc ?_ _)); exact BK124.out), (by (with_reducible repeat (first | refine blk_drewN ?_ _ | refine blk_drew ?_ | refine blk_alloc ?_ _)); exact BK129.out), (by (with_reducible repeat (first | refine blk_drewN ?_ _ | refine blk_drew ?_ | refine blk_alloc ?_ _)); exact BK137.out), (by repeat (first | (with_reducible first | exact HB.out | apply bs_alloc | apply bs_drewN | apply bs_drew1 | refine bs_set (S := S) (w := w) (I := J es1) ?_ GE129.out | refine bs_set (S := S) (w := w) (I := J es1) ?_ GE137.out) | exact HB.out))⟩)
                    rintro ⟨v146, v149⟩ w36 ⟨hS_, h0_, h1_, h2_, h3_, h4_, h5_, h6_⟩
                    have n0_ : Aside0 (Kd.R k22 22 w36 N1 (fun k_ => some k_ ≠ (v149 : Value).ownBlock ∧ some k_ ≠ (.slice (some ad128) t125.length co8 : Value).ownBlock ∧ k_ ≠ gb129) v146 t145) := ⟨h0_⟩
                    have n1_ : Aside0 (Kd.R k22 22 w36 N1 (fun k_ => some k_ ≠ (v146 : Value).ownBlock ∧ some k_ ≠ (.slice (some ad128) t125.length co8 : Value).ownBlock ∧ k_ ≠ gb129) v149 y148) := ⟨h1_⟩
                    have n2_ : Aside0 (Kd.R k22 22 w36 w.heap.size (fun k_ => some k_ ≠ (v146 : Value).ownBlock ∧ some k_ ≠ (v149 : Value).ownBlock ∧ k_ ≠ gb129) (.slice (some ad128) t125.length co8) t125) := ⟨h2_⟩
                    have n3_ : Aside0 (w36.heap[gb124]? = some (.cells #[.int .i64 a0_0, .int .i64 a0_1, .int .i64 a0_2, .int .i64 a0_3, .int .i64 a0_4, .int .i64 a0_5] 28 (0, 0))) := ⟨h3_⟩
                    have n4_ : Aside0 (w36.heap[gb129]? = some (.cells #[.int .i64 ((rd_T22 t125 x19_1).f0), .int .i64 ((rd_T22 t125 x19_1).f1), .int .i64 ((rd_T22 t125 x19_1).f2)] 22 (0, 0))) := ⟨h4_⟩
                    have n5_ : Aside0 (w36.heap[gb137]? = some (.cells #[.int .i64 t130, .int .i64 t131, .int .i64 t132, .int .i64 t133, .int .i64 t134, .int .i64 t135] 28 (0, 0))) := ⟨h5_⟩
                    have n6_ : Aside0 (BI S w N1 (J es1) w36) := ⟨h6_⟩
                    clear HO_17
                    clear BK124
                    clear BK129
                    clear BK137
                    clear HB
                    clear h0_ h1_ h2_ h3_ h4_ h5_ h6_
                    have HO147 := n0_
                    have HO150 := n1_
                    have HO_17 := n2_
                    have BK124 := n3_
                    have BK129 := n4_
                    have BK137 := n5_
                    have HB := n6_
                    clear n0_ n1_ n2_ n3_ n4_ n5_ n6_
                    have hHeld : w36.cell? ⟨gb137, 0, none⟩ = some (.int .i64 t130) ∧ w36.cell? ⟨gb137, 1, none⟩ = some (.int .i64 t131) ∧ w36.cell? ⟨gb137, 2, none⟩ = some (.int .i64 t132) ∧ w36.cell? ⟨gb137, 3, none⟩ = some (.int .i64 t133) ∧ w36.cell? ⟨gb137, 4, none⟩ = some (.int .i64 t134) ∧ w36.cell? ⟨gb137, 5, none⟩ = some (.int .i64 t135) ∧ w36.cell? ⟨gb129, 0, none⟩ = some (.int .i64 ((rd_T22 t125 x19_1).f0)) ∧ w36.cell? ⟨gb129, 1, none⟩ = some (.int .i64 ((rd_T22 t125 x19_1).f1)) ∧ w36.cell? ⟨gb129, 2, none⟩ = some (.int .i64 ((rd_T22 t125 x19_1).f2)) := hS_
                    obtain ⟨Ao38, co38, eo38⟩ := Kd.R_slice HO150.out
                    (first | subst eo38 | (injection eo38 with f1_ f2_ f3_; have f4_ := f1_.symm; have f5_ := f3_.symm; clear f1_ f2_ f3_; subst f4_; subst f5_))
                    refine norm_ (a' := ?_) ?_ ?_
                    rotate_left
                    · simp only [putAll, Act.put, q1, q2, q3]
                      rfl
                    refine one_ (i := 10) (N := some 46) #[true, true, true, true, true, true, true, true, true, true, true, true, false] rfl rfl (one_of HT_.out (by kernel_rfl)) (by decide) (fun K hK => ?_)
                    refine Kd.R_append_rows_step k22 (w0 := w36) N1 (by rfl) (.tmp 43) (.tmp 45) 25 22 (.agg #[(.int .i64 0), (.int .i64 0), (.int .i64 0)]) 24 rfl Try.underlying25 info22 rfl (by decide) (by omega) v146 t145 y148 _ _ _ (fun k_ => some k_ ≠ (.slice (some ad128) t125.length co8 : Value).ownBlock ∧ some k_ ≠ (.slice Ao38 y148.length co38 : Value).ownBlock ∧ k_ ≠ gb129) (fun _ => False) rfl rfl ?aO ?aR (fun _ _ h => h) (fun _ h => h.elim) ?aF ?aB ?aS ?aL ?_
                    (case aR => repeat (first | exact (Kd.R_reads' HO150.out).2.2 | (with_reducible refine Kd.C_alloc ?_ _) | (with_reducible refine Kd.C_drewN ?_ _) | (with_reducible refine Kd.C_drew ?_)))
                    (case aB => exact Below.refl _ _)
                    (case aF => exact (fun k_ hk => ⟨Kd.fresh' (Kd.R_lt (by (with_reducible repeat (first | apply Kd.R_alloc | apply Kd.R_drewN | apply Kd.R_drew)); exact HO_17.out)) k_ hk, Kd.fresh' (Kd.R_lt (by (with_reducible repeat (first | apply Kd.R_alloc | apply Kd.R_drewN | apply Kd.R_drew)); exact HO150.out)) k_ hk, Kd.freshB (g := gb129) (o := .cells #[.int .i64 ((rd_T22 t125 x19_1).f0), .int .i64 ((rd_T22 t125 x19_1).f1), .int .i64 ((rd_T22 t125 x19_1).f2)] 22 (0, 0)) (by (with_reducible repeat (first | refine blk_drewN ?_ _ | refine blk_drew ?_ | refine blk_alloc ?_ _)); exact BK129.out) k_ hk⟩))
                    (case aO => exact (by (with_reducible repeat (first | apply Kd.R_alloc | apply Kd.R_drewN | apply Kd.R_drew)); exact Kd.R_mono HO147.out (fun _ hk => ⟨hk.2.1, ⟨hk.1, hk.2.2⟩⟩)))
                    (case aS => exact (bs_size (by repeat (first | (with_reducible first | exact HB.out | apply bs_alloc | apply bs_drewN | apply bs_drew1 | refine bs_set (S := S) (w := w) (I := J es1) ?_ GE129.out | refine bs_set (S := S) (w := w) (I := J es1) ?_ GE137.out) | exact HB.out))))
                    (case aL => have := LMc29.out; omega)
                    intro v152 w37 ho hb hg hat
                    rw [← Ny151.out] at ho
                    have n0_ := Aside0.mk (Kd.R_after (ok := (fun k_ => some k_ ≠ (.slice Ao38 y148.length co38 : Value).ownBlock ∧ k_ ≠ gb129)) (by (with_reducible repeat (first | apply Kd.R_alloc | apply Kd.R_drewN | apply Kd.R_drew)); exact Kd.R_mono HO_17.out (fun _ hk => ⟨⟨hk.2.1, hk.2.2⟩, hk.1⟩)) hg hat)
                    have n1_ := Aside0.mk (blk_grown (g := gb124) (o := .cells #[.int .i64 a0_0, .int .i64 a0_1, .int .i64 a0_2, .int .i64 a0_3, .int .i64 a0_4, .int .i64 a0_5] 28 (0, 0)) (by (with_reducible repeat (first | refine blk_drewN ?_ _ | refine blk_drew ?_ | refine blk_alloc ?_ _)); exact BK124.out) hg (Kd.R_ne HO147.out BK124.out (by decide)))
                    have n2_ := Aside0.mk (blk_grown (g := gb129) (o := .cells #[.int .i64 ((rd_T22 t125 x19_1).f0), .int .i64 ((rd_T22 t125 x19_1).f1), .int .i64 ((rd_T22 t125 x19_1).f2)] 22 (0, 0)) (by (with_reducible repeat (first | refine blk_drewN ?_ _ | refine blk_drew ?_ | refine blk_alloc ?_ _)); exact BK129.out) hg (Kd.R_away HO147.out (fun _ hk => hk.2.2)))
                    have n3_ := Aside0.mk (blk_grown (g := gb137) (o := .cells #[.int .i64 t130, .int .i64 t131, .int .i64 t132, .int .i64 t133, .int .i64 t134, .int .i64 t135] 28 (0, 0)) (by (with_reducible repeat (first | refine blk_drewN ?_ _ | refine blk_drew ?_ | refine blk_alloc ?_ _)); exact BK137.out) hg (Kd.R_ne HO147.out BK137.out (by decide)))
                    have n4_ := Aside0.mk (Kd.R_after (ok := (fun k_ => some k_ ≠ (.slice (some ad128) t125.length co8 : Value).ownBlock ∧ k_ ≠ gb129)) (by (with_reducible repeat (first | apply Kd.R_alloc | apply Kd.R_drewN | apply Kd.R_drew)); exact Kd.R_mono HO150.out (fun _ hk => ⟨⟨hk.2.1, hk.2.2⟩, hk.1⟩)) hg hat)
                    have n5_ := Aside0.mk (bs_app (by repeat (first | (with_reducible first | exact HB.out | apply bs_alloc | apply bs_drewN | apply bs_drew1 | refine bs_set (S := S) (w := w) (I := J es1) ?_ GE129.out | refine bs_set (S := S) (w := w) (I := J es1) ?_ GE137.out) | exact HB.out)) hb)
                    have n6_ := Aside0.mk (ho)
                    clear HO_17
                    clear BK124
                    clear BK129
                    clear BK137
                    clear HO150
                    clear HB
                    clear HO147
                    have HO_17 := n0_
                    have BK124 := n1_
                    have BK129 := n2_
                    have BK137 := n3_
                    have HO150 := n4_
                    have HB := n5_
                    have HO153 := n6_
                    clear n0_ n1_ n2_ n3_ n4_ n5_ n6_
                    clear ho hb hg hat
                    obtain ⟨Ao39, co39, eo39⟩ := Kd.R_slice HO153.out
                    (first | subst eo39 | (injection eo39 with f1_ f2_ f3_; have f4_ := f1_.symm; have f5_ := f3_.symm; clear f1_ f2_ f3_; subst f4_; subst f5_))
                    refine hK.out _ _ ⟨(blk_cell BK137.out 0).trans rfl, (blk_cell BK137.out 1).trans rfl, (blk_cell BK137.out 2).trans rfl, (blk_cell BK137.out 3).trans rfl, (blk_cell BK137.out 4).trans rfl, (blk_cell BK137.out 5).trans rfl, (blk_cell BK129.out 0).trans rfl, (blk_cell BK129.out 1).trans rfl, (blk_cell BK129.out 2).trans rfl⟩ (fun hHeld => ?_)
                    clear hK K
                    refine norm_ (a' := ?_) ?_ ?_
                    rotate_left
                    · show Act.put _ (some 46) _ = _
                      simp only [Act.put, q1, q2, q3, i64_w, i32_w]
                      rfl
                    refine one_ (i := 12) (N := some 48) #[true, true, true, true, true, true, true, true, true, true, true, true, true] rfl rfl (one_of HT_.out (by kernel_rfl)) (by decide) (fun K hK => ?_)
                    refine goes_ Try.func27 (by kernel_rfl) rfl #[.agg #[.int .i64 t139, .int .i64 t140, .int .i64 t141, .int .i64 t142, .int .i64 t143, .int .i64 t144], .int .i64 (wrap64 (a1 + t138)), .slice Ao39 y151.length co39, (.func (.func 28) #[] #[.pointer (some ⟨gT, 0, none⟩), .pointer (some ⟨gF, 0, none⟩), .pointer (some ⟨gB, 0, none⟩)])] (by rfl) rfl rfl (by (try simp only [List.map_toArray, List.map_cons, List.map_nil]); first | done | rfl | (simp only [List.length_drop, List.length_take]; rfl)) ?_
                    with_reducible refine (ih kj13 (by have := HK1.out; have := HJ13.out; omega) t139 t140 t141 t142 t143 t144 (wrap64 (a1 + t138)) _ _ y151 t154 es1 _ (R_rec HO153.out HSS.out HB.out HB0.out) (Nat.le_trans HB0.out (bs_size0 HB.out)) (fun k_ hk_ => Nat.lt_of_lt_of_le (HSS.out k_ hk_) (bs_size0 HB.out)) (bs_now HB.out) A30.out).mono ?_


                    rintro e w40 ⟨rfl, hJ, hbs⟩
                    refine ⟨_, rfl, ?_⟩
                    have n0_ := Aside0.mk (R_bs (by (with_reducible repeat (first | apply Kd.R_alloc | apply Kd.R_drewN | apply Kd.R_drew)); exact HO_17.out) hbs HSS.out)
                    have n1_ := Aside0.mk (R_bs (by (with_reducible repeat (first | apply Kd.R_alloc | apply Kd.R_drewN | apply Kd.R_drew)); exact HO150.out) hbs (fun k_ hk_ => Nat.lt_of_lt_of_le (HSS.out k_ hk_) HB.out.le))
                    have n2_ := Aside0.mk (R_bs (by (with_reducible repeat (first | apply Kd.R_alloc | apply Kd.R_drewN | apply Kd.R_drew)); exact HO153.out) hbs (fun k_ hk_ => Nat.lt_of_lt_of_le (HSS.out k_ hk_) HB.out.le))
                    have n3_ := Aside0.mk (blk_bs (g := gb124) (o := .cells #[.int .i64 a0_0, .int .i64 a0_1, .int .i64 a0_2, .int .i64 a0_3, .int .i64 a0_4, .int .i64 a0_5] 28 (0, 0)) (by (with_reducible repeat (first | refine blk_drewN ?_ _ | refine blk_drew ?_ | refine blk_alloc ?_ _)); exact BK124.out) hbs (fun hs => absurd (HSS.out _ hs) (Nat.not_lt.2 GE124.out)))
                    have n4_ := Aside0.mk (blk_bs (g := gb129) (o := .cells #[.int .i64 ((rd_T22 t125 x19_1).f0), .int .i64 ((rd_T22 t125 x19_1).f1), .int .i64 ((rd_T22 t125 x19_1).f2)] 22 (0, 0)) (by (with_reducible repeat (first | refine blk_drewN ?_ _ | refine blk_drew ?_ | refine blk_alloc ?_ _)); exact BK129.out) hbs (fun hs => absurd (HSS.out _ hs) (Nat.not_lt.2 (Nat.le_trans HB.out.le GE129.out))))
                    have n5_ := Aside0.mk (blk_bs (g := gb137) (o := .cells #[.int .i64 t130, .int .i64 t131, .int .i64 t132, .int .i64 t133, .int .i64 t134, .int .i64 t135] 28 (0, 0)) (by (with_reducible repeat (first | refine blk_drewN ?_ _ | refine blk_drew ?_ | refine blk_alloc ?_ _)); exact BK137.out) hbs (fun hs => absurd (HSS.out _ hs) (Nat.not_lt.2 (Nat.le_trans HB.out.le GE137.out))))
                    have n6_ := Aside0.mk (bs_next hst (by repeat (first | (with_reducible first | exact HB.out | apply bs_alloc | apply bs_drewN | apply bs_drew1 | refine bs_set (S := S) (w := w) (I := J es1) ?_ GE129.out | refine bs_set (S := S) (w := w) (I := J es1) ?_ GE137.out) | exact HB.out)) hbs hJ)
                    clear HO_17
                    clear HO150
                    clear HO153
                    clear BK124
                    clear BK129
                    clear BK137
                    clear HB
                    have HO_17 := n0_
                    have HO150 := n1_
                    have HO153 := n2_
                    have BK124 := n3_
                    have BK129 := n4_
                    have BK137 := n5_
                    have HB := n6_
                    clear n0_ n1_ n2_ n3_ n4_ n5_ n6_
                    clear hbs hJ
                    (try clear hb2)
                    (try clear hk)
                    (try clear hi)
                    refine hK.out _ _ ⟨(blk_cell BK137.out 0).trans rfl, (blk_cell BK137.out 1).trans rfl, (blk_cell BK137.out 2).trans rfl, (blk_cell BK137.out 3).trans rfl, (blk_cell BK137.out 4).trans rfl, (blk_cell BK137.out 5).trans rfl, (blk_cell BK129.out 0).trans rfl, (blk_cell BK129.out 1).trans rfl, (blk_cell BK129.out 2).trans rfl⟩ (fun hHeld => ?_)
                    clear hK K
                    refine norm_ (a' := ?_) ?_ ?_
                    rotate_left
                    · show Act.put _ (some 48) _ = _
                      simp only [Act.put, q1, q2, q3, i64_w, i32_w]
                      rfl
                    refine done_ (done_of HT_.out (by kernel_rfl)) ?_
                    try go_wp2
                    go_roundg kj13
                    case measure => have := HK1.out; have := HJ13.out; omega
                    case rel => exact ⟨(wrap64 (x19_1 + 1)), _, (es1 ++ t154), ev2, (by first | rfl | (simp; done) | (simp [*]; done)), H', ⟨by rw [List.append_assoc, ER2.out]; exact EQ.out⟩, ⟨by have := HK1.out; have := HJ13.out; omega⟩, ⟨by (with_reducible repeat (first | apply Kd.R_alloc | apply Kd.R_drewN | apply Kd.R_drew)); exact Kd.R_mono HO_17.out (fun _ hk => trivial)⟩, ⟨by (with_reducible repeat (first | refine blk_drewN ?_ _ | refine blk_drew ?_ | refine blk_alloc ?_ _)); exact BK124.out⟩, ⟨by repeat (first | (with_reducible first | exact HB.out | apply bs_alloc | apply bs_drewN | apply bs_drew1 | refine bs_set (S := S) (w := w) (I := J es1) ?_ GE129.out | refine bs_set (S := S) (w := w) (I := J es1) ?_ GE137.out) | exact HB.out)⟩⟩
                  · rw [if_neg c29] at H
                    exact absurd H (by simp)
                · replace c26 := Bool.eq_false_iff.mpr c26
                  subst c26
                  have H1 : (each_l0 kj13 a1 l2 t125 (t125.length : Int) (wrap64 (x19_1 + 1)) a0_0 a0_1 a0_2 a0_3 a0_4 a0_5) = some ev1 := by rw [if_neg (show ¬ (false = true) by decide)] at H; exact H
                  clear H
                  have H := H1
                  clear H1
                  have H' := Aside0.mk H
                  clear H
                  go_wp2
                  go_roundg kj13
                  case measure => have := HK1.out; have := HJ13.out; omega
                  case rel => exact ⟨(wrap64 (x19_1 + 1)), N1, es1, ev1, (by first | rfl | (simp; done) | (simp [*]; done)), H', EQ, ⟨by have := HK1.out; have := HJ13.out; omega⟩, ⟨by (with_reducible repeat (first | apply Kd.R_alloc | apply Kd.R_drewN | apply Kd.R_drew)); exact Kd.R_mono HO_17.out (fun _ hk => trivial)⟩, ⟨by (with_reducible repeat (first | refine blk_drewN ?_ _ | refine blk_drew ?_ | refine blk_alloc ?_ _)); exact BK124.out⟩, ⟨by repeat (first | (with_reducible first | exact HB.out | apply bs_alloc | apply bs_drewN | apply bs_drew1 | refine bs_set (S := S) (w := w) (I := J es1) ?_ GE129.out | refine bs_set (S := S) (w := w) (I := J es1) ?_ GE137.out) | exact HB.out)⟩⟩
          · rw [if_neg c11] at H
            exact absurd H (by simp)
        · rw [if_neg c10] at H
          exact absurd H (by simp)
      · rw [if_neg c9] at H
        have c9b0 : decide (x19_1 < (t125.length : Int)) = false := decide_eq_false c9
        clear c9
        obtain rfl := Option.some.inj H
        go_wp2
        first | go_end0 | ((try simp only [Exit.inBlock, Exit.then]); refine bodyPost_ret (results_none rfl _ _ _) rfl ?_)
        exact ⟨rfl, bs_end (by repeat (first | (with_reducible first | exact HB.out | apply bs_alloc | apply bs_drewN | apply bs_drew1) | exact HB.out)) EQ.out⟩


/-! ### the first rope plan: what is told, the closure, the function -/
def pick5 (T : Int) (s : Bool × List S22) (e : Ev) : Bool × List S22 := if e.1 = T ∧ (s.1 = false ∨ e.2.length < s.2.length) then (true, e.2) else s
/-- What the closure's variables say, when es have been told. -/
def JF (base : Nat) (T : Int) (gT gF gB : Nat) (es : List Ev) (W : World) : Prop := ∃ (A : Option Addr) (c : Nat) (b : Bool) (p : List S22),
  es.foldl (pick5 T) (false, []) = (b, p) ∧ W.heap[gT]? = some (.cells #[.int .i64 T] 3 (0, 0)) ∧ W.heap[gF]? = some (.cells #[.bool b] 4 (0, 0)) ∧
  W.heap[gB]? = some (.cells #[.slice A p.length c] 25 (0, 0)) ∧ Kd.R k22 22 W base (fun k => ¬ (k = gF ∨ k = gB)) (.slice A p.length c) p
theorem JF_st (base : Nat) (T : Int) (gT gF gB : Nat) : ∀ es W W', JF base T gT gF gB es W → (∀ k, k < W.heap.size → W'.heap[k]? = W.heap[k]?) → JF base T gT gF gB es W' := by
  rintro es W W' ⟨A, c, b, p, h0, h1, h2, h3, h4⟩ hW
  exact ⟨A, c, b, p, h0, (hW _ (blk_lt h1)).trans h1, (hW _ (blk_lt h2)).trans h2, (hW _ (blk_lt h3)).trans h3, Kd.R_step h4 (fun k _ hk => hW k hk)⟩
theorem JF_put {base : Nat} {T : Int} {gT gF gB : Nat} (hTF : gT ≠ gF) (hTB : gT ≠ gB) (hFB : gF ≠ gB) {es : List Ev} {t : Int} {p : List S22} {A : Option Addr} {c : Nat} {W : World}
    (hR : Kd.R k22 22 W base (fun k => ¬ (k = gF ∨ k = gB)) (.slice A p.length c) p) (hj : JF base T gT gF gB es W) (hc : pick5 T (es.foldl (pick5 T) (false, [])) (t, p) = (true, p)) :
    JF base T gT gF gB (es ++ [(t, p)]) ((W.setCell ⟨gB, 0, none⟩ (.slice A p.length c)).setCell ⟨gF, 0, none⟩ (.bool true)) ∧ BelS (fun k => k = gF ∨ k = gB) W ((W.setCell ⟨gB, 0, none⟩ (.slice A p.length c)).setCell ⟨gF, 0, none⟩ (.bool true)) := by
  obtain ⟨A1, c1, b, q, h0, h1, h2, h3, h4⟩ := hj
  refine ⟨⟨A, c, true, p, ?_, blk_far (blk_far h1 hTB _) hTF _, blk_put (blk_far h2 hFB _) 0 _ rfl, blk_far (blk_put h3 0 _ rfl) (fun e => hFB e.symm) _, ?_⟩, ?_⟩
  · rw [List.foldl_append]; exact hc
  · exact Kd.R_far (Kd.R_far hR (p := ⟨gB, 0, none⟩) (fun k hk e => hk (.inr e)) _) (p := ⟨gF, 0, none⟩) (fun k hk e => hk (.inl e)) _
  · have e1 : (W.setCell ⟨gB, 0, none⟩ (.slice A p.length c)).heap.size = W.heap.size := by simp
    have e2 : ((W.setCell ⟨gB, 0, none⟩ (.slice A p.length c)).setCell ⟨gF, 0, none⟩ (.bool true)).heap.size = W.heap.size := by simp
    exact ⟨rfl, rfl, rfl, Nat.le_of_eq e2.symm, fun k _ hk => (Below.heap_setCell _ _ _ k (fun e => hk (.inl e))).trans (Below.heap_setCell _ _ _ k (fun e => hk (.inr e)))⟩
theorem JF_same {base : Nat} {T : Int} {gT gF gB : Nat} {es : List Ev} {t : Int} {p : List S22} {W : World} (hj : JF base T gT gF gB es W) (hc : pick5 T (es.foldl (pick5 T) (false, [])) (t, p) = es.foldl (pick5 T) (false, [])) :
    JF base T gT gF gB (es ++ [(t, p)]) W := by
  obtain ⟨A1, c1, b, q, h0, h1, h2, h3, h4⟩ := hj
  exact ⟨A1, c1, b, q, by rw [List.foldl_append]; exact hc.trans h0, h1, h2, h3, h4⟩
theorem BelS.same (S : Nat → Prop) (W : World) : BelS S W W := ⟨rfl, rfl, rfl, Nat.le_refl _, fun _ _ _ => rfl⟩
set_option maxHeartbeats 4000000 in
set_option maxRecDepth 100000 in
theorem clo5_calls (base : Nat) (T : Int) (gT gF gB : Nat) (hTF : gT ≠ gF) (hTB : gT ≠ gB) (hFB : gF ≠ gB) (es : List Ev) (t : Int) (p : List S22) (A : Option Addr) (c : Nat) (W : World)
    (hR : Kd.R k22 22 W base (fun k => ¬ (k = gF ∨ k = gB)) (.slice A p.length c) p) (hj : JF base T gT gF gB es W) :
    Calls Try.prog 28 #[.int .i64 t, .slice A p.length c, .pointer (some ⟨gT, 0, none⟩), .pointer (some ⟨gF, 0, none⟩), .pointer (some ⟨gB, 0, none⟩)] W fun e W' => e = .returned (.tuple #[]) ∧ JF base T gT gF gB (es ++ [(t, p)]) W' ∧ BelS (fun k => k = gF ∨ k = gB) W W' := by
  have HJ := Aside0.mk hj
  have HP := Aside0.mk (fun hc => JF_put (c := c) (t := t) hTF hTB hFB hR hj hc)
  have HQ := Aside0.mk (fun hc => JF_same (t := t) (p := p) hj hc)
  obtain ⟨A1, c1, b, q, h0, h1, h2, h3, h4⟩ := hj
  rw [h0] at HP HQ
  have t0 : W.cell? ⟨gT, 0, none⟩ = some (.int .i64 T) := (blk_cell h1 0).trans rfl
  have f0 : W.cell? ⟨gF, 0, none⟩ = some (.bool b) := (blk_cell h2 0).trans rfl
  have b0 : W.cell? ⟨gB, 0, none⟩ = some (.slice A1 q.length c1) := (blk_cell h3 0).trans rfl
  have z1 := blk_frozen h2 0
  have z2 := blk_frozen h3 0
  have n1 : gF ≠ gB := hFB
  have n2 : gB ≠ gF := fun e => hFB e.symm
  clear h0 h1 h2 h3 h4 hR HJ hTF hTB hFB
  by_cases ht : t = T
  · have d1 : (t == T) = true := beq_iff_eq.mpr ht
    cases b with
    | false =>
      have hc : pick5 T (false, q) (t, p) = (true, p) := by unfold pick5; rw [if_pos ⟨ht, .inl rfl⟩]
      have H := Aside0.mk (HP.out hc)
      clear HP HQ hc ht
      go_enter Try.func28, Try.ntmps28
      go_wp2
      first | go_end0 | ((try simp only [Exit.inBlock, Exit.then]); refine bodyPost_ret (results_none rfl _ _ _) rfl ?_)
      exact ⟨rfl, H.out⟩
    | true =>
      by_cases hl : p.length < q.length
      · have hc : pick5 T (true, q) (t, p) = (true, p) := by unfold pick5; rw [if_pos ⟨ht, .inr hl⟩]
        have H := Aside0.mk (HP.out hc)
        have d2 : decide (p.length < q.length) = true := decide_eq_true hl
        have d3 : decide ((p.length : Int) < (q.length : Int)) = true := decide_eq_true (by omega)
        clear HP HQ hc ht hl
        go_enter Try.func28, Try.ntmps28
        go_wp2
        first | go_end0 | ((try simp only [Exit.inBlock, Exit.then]); refine bodyPost_ret (results_none rfl _ _ _) rfl ?_)
        exact ⟨rfl, H.out⟩
      · have hc : pick5 T (true, q) (t, p) = (true, q) := by unfold pick5; rw [if_neg (fun h => h.2.elim (fun e => by cases e) hl)]
        have H := Aside0.mk (HQ.out hc)
        have d2 : decide (p.length < q.length) = false := decide_eq_false hl
        have d3 : decide ((p.length : Int) < (q.length : Int)) = false := decide_eq_false (by omega)
        clear HP HQ hc ht hl
        go_enter Try.func28, Try.ntmps28
        go_wp2
        first | go_end0 | ((try simp only [Exit.inBlock, Exit.then]); refine bodyPost_ret (results_none rfl _ _ _) rfl ?_)
        exact ⟨rfl, H.out, BelS.same _ _⟩
  · have hc : pick5 T (b, q) (t, p) = (b, q) := by unfold pick5; rw [if_neg (fun h => ht h.1)]
    have d1 : (t == T) = false := beq_eq_false_iff_ne.mpr ht
    have H := Aside0.mk (HQ.out hc)
    clear HP HQ hc ht
    go_enter Try.func28, Try.ntmps28
    go_wp2
    first | go_end0 | ((try simp only [Exit.inBlock, Exit.then]); refine bodyPost_ret (results_none rfl _ _ _) rfl ?_)
    exact ⟨rfl, H.out, BelS.same _ _⟩
def firstRopeF (k : Nat) (a0_0 a0_1 a0_2 a0_3 a0_4 a0_5 : Int) (a1 : Int) : Option ((List (S22)) × Bool) :=
  (impl_IsRopes.f k a0_0 a0_1 a0_2 a0_3 a0_4 a0_5).bind fun ok => if ok = true then ((each_f k a0_0 a0_1 a0_2 a0_3 a0_4 a0_5 0 []).bind fun es => some ((es.foldl (pick5 a1) (false, [])).2, (es.foldl (pick5 a1) (false, [])).1)) else some ([], false)
set_option maxHeartbeats 4000000 in
set_option maxRecDepth 100000 in
theorem firstRope_calls (k : Nat) (a0_0 a0_1 a0_2 a0_3 a0_4 a0_5 : Int) (a1 : Int) (r1 : List (S22)) (r2 : Bool) (w : World) (h : firstRopeF k a0_0 a0_1 a0_2 a0_3 a0_4 a0_5 a1 = some (r1, r2)) :
    Calls Try.prog 9 #[.agg #[.int .i64 a0_0, .int .i64 a0_1, .int .i64 a0_2, .int .i64 a0_3, .int .i64 a0_4, .int .i64 a0_5], .int .i64 a1] w fun e w' => ∃ v0_ : Value, e = .returned (.tuple #[v0_, .bool r2]) ∧ Kd.R k22 22 w' w.heap.size (fun _ => True) v0_ r1 ∧ Below w.heap.size w w' := by
  have hu28 := Try.underlying28
  have HB := Aside0.mk (Below.refl w.heap.size w)
  obtain ⟨ok, hok, h⟩ := Option.bind_eq_some_iff.mp h
  have A1 := Aside0.mk hok
  clear hok
  cases ok with
  | false =>
    rw [if_neg (by decide)] at h
    obtain ⟨rfl, rfl⟩ := Prod.mk.inj (Option.some.inj h)
    clear h
    go_enter Try.func9, Try.ntmps9
    go_wp2_with (first
      | ((with_reducible refine gate_dst (N := 2) rfl ?_); refine box_event ?hg (N := 2) ?hd (cs := #[.int .i64 a0_0, .int .i64 a0_1, .int .i64 a0_2, .int .i64 a0_3, .int .i64 a0_4, .int .i64 a0_5]) (t := 28) ?hr ?_; (case hd => rfl); (case hg => rfl); (case hr => first | (go_simp; done) | (go_simp; rfl)); intro g2 hg w2 hbox hb; have n0_ := Aside0.mk (below_step HB.out hb); have BK2 := Aside0.mk hbox; clear HB; have HB := n0_; clear n0_ hb hbox hg; have hcz0 := (blk_cell BK2.out 0).trans rfl; have hcz1 := (blk_cell BK2.out 1).trans rfl; have hcz2 := (blk_cell BK2.out 2).trans rfl; have hcz3 := (blk_cell BK2.out 3).trans rfl; have hcz4 := (blk_cell BK2.out 4).trans rfl; have hcz5 := (blk_cell BK2.out 5).trans rfl)
      | ((with_reducible refine gate_dst (N := 3) rfl ?_); refine box_event ?hg (N := 3) ?hd (cs := #[.int .i64 a1]) (t := 3) ?hr ?_; (case hd => rfl); (case hg => rfl); (case hr => first | (go_simp; done) | (go_simp; rfl)); intro g3 hg w3 hbox hb; have n0_ := Aside0.mk (below_step HB.out hb); have n1_ := Aside0.mk (blk_below BK2.out hb); clear HB BK2; have HB := n0_; have BK2 := n1_; clear n0_ n1_ hb hbox hg; have hcz0 := (blk_cell BK2.out 0).trans rfl; have hcz1 := (blk_cell BK2.out 1).trans rfl; have hcz2 := (blk_cell BK2.out 2).trans rfl; have hcz3 := (blk_cell BK2.out 3).trans rfl; have hcz4 := (blk_cell BK2.out 4).trans rfl; have hcz5 := (blk_cell BK2.out 5).trans rfl)
      | (go_at_call 26; (with_reducible refine (impl_IsRopes.calls k a0_0 a0_1 a0_2 a0_3 a0_4 a0_5 false _ A1.out).mono ?_); rintro e w4 ⟨rfl, hb⟩; have n0_ := Aside0.mk (below_step HB.out hb); clear HB; have HB := n0_; clear n0_ hb))
    go_ret2
    exact ⟨_, rfl, Kd.R_nil _ _ _ _ _, HB.out⟩
  | true =>
    rw [if_pos rfl] at h
    obtain ⟨es, hes, h⟩ := Option.bind_eq_some_iff.mp h
    have A2 := Aside0.mk hes
    clear hes
    obtain ⟨e1, e2⟩ := Prod.mk.inj (Option.some.inj h)
    have HF : Aside0 (es.foldl (pick5 a1) (false, []) = (r2, r1)) := ⟨by rw [← e1, ← e2]⟩
    clear h e1 e2
    go_enter Try.func9, Try.ntmps9
    go_wp2_with (first
      | ((with_reducible refine gate_dst (N := 2) rfl ?_); refine box_event ?hg (N := 2) ?hd (cs := #[.int .i64 a0_0, .int .i64 a0_1, .int .i64 a0_2, .int .i64 a0_3, .int .i64 a0_4, .int .i64 a0_5]) (t := 28) ?hr ?_; (case hd => rfl); (case hg => rfl); (case hr => first | (go_simp; done) | (go_simp; rfl)); intro g2 hg w2 hbox hb; have n0_ := Aside0.mk (below_step HB.out hb); have BK2 := Aside0.mk hbox; clear HB; have HB := n0_; clear n0_ hb hbox hg; have hcz0 := (blk_cell BK2.out 0).trans rfl; have hcz1 := (blk_cell BK2.out 1).trans rfl; have hcz2 := (blk_cell BK2.out 2).trans rfl; have hcz3 := (blk_cell BK2.out 3).trans rfl; have hcz4 := (blk_cell BK2.out 4).trans rfl; have hcz5 := (blk_cell BK2.out 5).trans rfl)
      | ((with_reducible refine gate_dst (N := 3) rfl ?_); refine box_event ?hg (N := 3) ?hd (cs := #[.int .i64 a1]) (t := 3) ?hr ?_; (case hd => rfl); (case hg => rfl); (case hr => first | (go_simp; done) | (go_simp; rfl)); intro g3 hg w3 hbox hb; have n0_ := Aside0.mk (below_step HB.out hb); have n1_ := Aside0.mk (blk_below BK2.out hb); have BK3 := Aside0.mk hbox; clear HB BK2; have HB := n0_; have BK2 := n1_; clear n0_ n1_ hb hbox hg; have hcz0 := (blk_cell BK2.out 0).trans rfl; have hcz1 := (blk_cell BK2.out 1).trans rfl; have hcz2 := (blk_cell BK2.out 2).trans rfl; have hcz3 := (blk_cell BK2.out 3).trans rfl; have hcz4 := (blk_cell BK2.out 4).trans rfl; have hcz5 := (blk_cell BK2.out 5).trans rfl)
      | (go_at_call 26; (with_reducible refine (impl_IsRopes.calls k a0_0 a0_1 a0_2 a0_3 a0_4 a0_5 true _ A1.out).mono ?_); rintro e w4 ⟨rfl, hb⟩; have n0_ := Aside0.mk (below_step HB.out hb); have n1_ := Aside0.mk (blk_below BK2.out hb); have n2_ := Aside0.mk (blk_below BK3.out hb); clear HB BK2 BK3; have HB := n0_; have BK2 := n1_; have BK3 := n2_; clear n0_ n1_ n2_ hb)
      | ((with_reducible refine gate_dst (N := 6) rfl ?_); refine box_event ?hg (N := 6) ?hd (cs := #[.slice none 0 0]) (t := 25) ?hr ?_; (case hd => rfl); (case hg => rfl); (case hr => first | (go_simp; done) | (go_simp; rfl)); intro g6 hg w6 hbox hb; have GE6 : Aside0 (w.heap.size ≤ g6) := ⟨by rw [hg]; exact below_size HB.out⟩; have NE36 : Aside0 (g3 ≠ g6) := ⟨by rw [hg]; exact Nat.ne_of_lt (blk_lt BK3.out)⟩; have n0_ := Aside0.mk (below_step HB.out hb); have n1_ := Aside0.mk (blk_below BK2.out hb); have n2_ := Aside0.mk (blk_below BK3.out hb); have BK6 := Aside0.mk hbox; clear HB BK2 BK3; have HB := n0_; have BK2 := n1_; have BK3 := n2_; clear n0_ n1_ n2_ hb hbox hg)
      | ((with_reducible refine gate_dst (N := 7) rfl ?_); refine box_event ?hg (N := 7) ?hd (cs := #[.bool false]) (t := 4) ?hr ?_; (case hd => rfl); (case hg => rfl); (case hr => first | (go_simp; done) | (go_simp; rfl)); intro g7 hg w7 hbox hb; have GE7 : Aside0 (w.heap.size ≤ g7) := ⟨by rw [hg]; exact below_size HB.out⟩; have NE37 : Aside0 (g3 ≠ g7) := ⟨by rw [hg]; exact Nat.ne_of_lt (blk_lt BK3.out)⟩; have NE67 : Aside0 (g6 ≠ g7) := ⟨by rw [hg]; exact Nat.ne_of_lt (blk_lt BK6.out)⟩; have NE27 : Aside0 (g2 ≠ g7) := ⟨by rw [hg]; exact Nat.ne_of_lt (blk_lt BK2.out)⟩; have n0_ := Aside0.mk (below_step HB.out hb); have n1_ := Aside0.mk (blk_below BK2.out hb); have n2_ := Aside0.mk (blk_below BK3.out hb); have n3_ := Aside0.mk (blk_below BK6.out hb); have BK7 := Aside0.mk hbox; clear HB BK2 BK3 BK6; have HB := n0_; have BK2 := n1_; have BK3 := n2_; have BK6 := n3_; clear n0_ n1_ n2_ n3_ hb hbox hg; have ne27 := NE27.out; have hcz0 := (blk_cell BK2.out 0).trans rfl; have hcz1 := (blk_cell BK2.out 1).trans rfl; have hcz2 := (blk_cell BK2.out 2).trans rfl; have hcz3 := (blk_cell BK2.out 3).trans rfl; have hcz4 := (blk_cell BK2.out 4).trans rfl; have hcz5 := (blk_cell BK2.out 5).trans rfl; have hfz7 := blk_frozen BK7.out 0; have hc7 := (blk_cell BK7.out 0).trans rfl)
      | (go_at_call 27; have HW7 : Aside0 ((w7.setCell ⟨g7, 0, none⟩ (.bool false)).heap[g7]? = some (.cells #[.bool false] 4 (0, 0))) := ⟨blk_put BK7.out 0 (.bool false) rfl⟩; have HB7 : Aside0 (Below w.heap.size w (w7.setCell ⟨g7, 0, none⟩ (.bool false))) := ⟨below_set HB.out GE7.out⟩; have K3 := Aside0.mk (blk_far BK3.out (p := ⟨g7, 0, none⟩) NE37.out (.bool false)); have K6 := Aside0.mk (blk_far BK6.out (p := ⟨g7, 0, none⟩) NE67.out (.bool false)); have HE := each_calls w.heap.size (fun k => k = g7 ∨ k = g6) (JF w.heap.size a1 g3 g7 g6) g3 g7 g6 (JF_st _ _ _ _ _) (fun es t p A c W hR hj => clo5_calls w.heap.size a1 g3 g7 g6 NE37.out NE36.out (fun e => NE67.out e.symm) es t p A c W hR hj) k a0_0 a0_1 a0_2 a0_3 a0_4 a0_5 0 none 0 [] es [] (w7.setCell ⟨g7, 0, none⟩ (.bool false)) (Kd.R_nil _ _ _ _ _) (below_size HB7.out) (fun k hk => hk.elim (fun e => by rw [e]; exact blk_lt HW7.out) (fun e => by rw [e]; exact blk_lt K6.out)) ⟨none, 0, false, [], rfl, K3.out, HW7.out, K6.out, Kd.R_nil _ _ _ _ _⟩ A2.out; rw [List.length_nil] at HE; (with_reducible refine HE.mono ?_); rintro e w8 ⟨rfl, hJ, hbs⟩; obtain ⟨A9, c9, b9, p9, j0, j1, j2, j3, j4⟩ := hJ; rw [List.nil_append, HF.out] at j0; obtain ⟨rfl, rfl⟩ := Prod.mk.inj j0; have v6 : w8.cell? ⟨g6, 0, none⟩ = some (.slice A9 r1.length c9) := (blk_cell j3 0).trans rfl; have v7 : w8.cell? ⟨g7, 0, none⟩ = some (.bool r2) := (blk_cell j2 0).trans rfl; have HR := Aside0.mk j4; have H8 : Aside0 (Below w.heap.size w w8) := ⟨⟨hbs.os.trans HB7.out.os, hbs.tape.trans HB7.out.tape, hbs.output.trans HB7.out.output, Nat.le_trans HB7.out.size hbs.size, fun k hk => (hbs.block k (Nat.lt_of_lt_of_le hk HB7.out.size) (fun hs => hs.elim (fun e => absurd GE7.out (by omega)) (fun e => absurd GE6.out (by omega)))).trans (HB7.out.block k hk)⟩⟩; have L6 := Aside0.mk (blk_lt j3); have L7 := Aside0.mk (blk_lt j2); clear j0 j1 j2 j3 j4 hbs HE))
    have hb8 := Below.refl w8.heap.size w8
    go_region_held3 (fun w' => w'.cell? ⟨g6, 0, none⟩ = some (.slice A9 r1.length c9) ∧ w'.cell? ⟨g7, 0, none⟩ = some (.bool r2) ∧ Below w8.heap.size w8 w')
      (first | (refine (fun hbb => ⟨(Below.cell hbb L6.out).trans v6, (Below.cell hbb L7.out).trans v7, hbb⟩ : Below w8.heap.size w8 _ → _) ?_; (repeat (first | assumption | apply below_alloc | apply below_drew1 | apply pw_below_drewN))) | (trace_state; fail))
      (fail)
    all_goals go_wp2
    go_ret2
    exact ⟨_, rfl, Kd.R_mono (by (with_reducible repeat (first | apply Kd.R_alloc | apply Kd.R_drewN | apply Kd.R_drew)); exact HR.out) (fun _ _ => trivial), by repeat (first | (with_reducible first | exact H8.out | apply below_alloc | apply pw_below_drewN | apply below_drew1) | exact H8.out)⟩
/-! ### impl_FirstRopePlan: function 9, its contract told by hand -/
def impl_FirstRopePlan.f (k : Nat) (a0_0 a0_1 a0_2 a0_3 a0_4 a0_5 : Int) (a1 : Int) : Option ((List (S22)) × Bool) := firstRopeF k a0_0 a0_1 a0_2 a0_3 a0_4 a0_5 a1
theorem impl_FirstRopePlan.calls (k : Nat) (a0_0 a0_1 a0_2 a0_3 a0_4 a0_5 : Int) (a1 : Int) (r1 : List (S22)) (r2 : Bool) (w : World) (h : impl_FirstRopePlan.f k a0_0 a0_1 a0_2 a0_3 a0_4 a0_5 a1 = some (r1, r2)) :
    Calls Try.prog 9 #[.agg #[.int .i64 a0_0, .int .i64 a0_1, .int .i64 a0_2, .int .i64 a0_3, .int .i64 a0_4, .int .i64 a0_5], .int .i64 a1] w fun e w' => ∃ v0_ : Value, e = .returned (.tuple #[v0_, .bool r2]) ∧ Kd.R k22 22 w' w.heap.size (fun _ => True) v0_ r1 ∧ Below w.heap.size w w' := firstRope_calls k a0_0 a0_1 a0_2 a0_3 a0_4 a0_5 a1 r1 r2 w h

end Go.Proofs.Ythoblgccnkjnoaa.PA
