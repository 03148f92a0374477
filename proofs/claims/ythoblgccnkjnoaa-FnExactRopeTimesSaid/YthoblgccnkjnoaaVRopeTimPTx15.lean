-- Printed by a program of this session's own.
import Derived.Test.YthoblgccnkjnoaaVRopeTimPTx0
import Derived.Test.YthoblgccnkjnoaaVRopeTimPTx10
import Derived.Test.YthoblgccnkjnoaaVRopeTimPTx11
import Derived.Test.YthoblgccnkjnoaaVRopeTimPTx12
import Derived.Test.YthoblgccnkjnoaaVRopeTimPTx13
import Derived.Test.YthoblgccnkjnoaaVRopeTimPTx14
namespace Go.Proofs.Ythoblgccnkjnoaa.PT
open Go.RowKit Go.Proofs.YthoblgccnkjnoaaW.PrintWords Go.Proofs.YthoblgccnkjnoaaW.PrintLast Go.Proofs.YthoblgccnkjnoaaW.PrintMore Go.Proofs.YthoblgccnkjnoaaX
  -- for this text's walks alone
set_option linter.unusedVariables false
set_option linter.unusedSimpArgs false

/-! ### Ropes.each with a function that it tells, which appends to a row of whole numbers -/
abbrev Ev := Int × List S22
/-- What the telling may write: its variable, and rows of whole numbers that are the call's own. -/
def ST (base0 gO : Nat) (W : World) (k : Nat) : Prop := k = gO ∨ (base0 ≤ k ∧ ∃ cells, W.heap[k]? = some (.cells cells 3 (0, 0)))
structure BelT (base0 gO : Nat) (w W : World) : Prop where
  os : W.os = w.os
  tape : W.tape = w.tape
  output : W.output = w.output
  size : w.heap.size ≤ W.heap.size
  block : ∀ k, k < w.heap.size → ¬ ST base0 gO w k → W.heap[k]? = w.heap[k]?
theorem ST_same {base0 gO : Nat} {w W : World} {k : Nat} (h : W.heap[k]? = w.heap[k]?) (hs : ST base0 gO W k) : ST base0 gO w k :=
  hs.elim .inl (fun ⟨hb, c, hc⟩ => .inr ⟨hb, c, h ▸ hc⟩)
theorem BelT.trans {base0 gO : Nat} {a b c : World} (h : BelT base0 gO a b) (k : BelT base0 gO b c) : BelT base0 gO a c :=
  ⟨k.os.trans h.os, k.tape.trans h.tape, k.output.trans h.output, Nat.le_trans h.size k.size, fun i hi hs => (k.block i (Nat.lt_of_lt_of_le hi h.size) (fun h2 => hs (ST_same (h.block i hi hs) h2))).trans (h.block i hi hs)⟩
structure BI (base0 gO : Nat) (w : World) (N : Nat) (I : World → Prop) (W : World) : Prop where
  bs : BelT base0 gO w W
  le : w.heap.size ≤ N
  sz : N ≤ W.heap.size
  inv : ∀ W', (∀ k, k < N → W'.heap[k]? = W.heap[k]?) → I W'
section
variable {base0 gO : Nat} {w W W2 : World} {N : Nat} {I : World → Prop} {J : List Ev → World → Prop}
theorem bs_start {es : List Ev} (hst : ∀ es W W', J es W → (∀ k, k < W.heap.size → W'.heap[k]? = W.heap[k]?) → J es W') (hj : J es w) : BI base0 gO w w.heap.size (J es) w :=
  ⟨⟨rfl, rfl, rfl, Nat.le_refl _, fun _ _ _ => rfl⟩, Nat.le_refl _, Nat.le_refl _, fun W' hW => hst _ _ _ hj hW⟩
theorem bs_app (h : BI base0 gO w N I W) (k : Below N W W2) : BI base0 gO w N I W2 :=
  ⟨⟨k.os.trans h.bs.os, k.tape.trans h.bs.tape, k.output.trans h.bs.output, Nat.le_trans h.bs.size k.size, fun i hi hs => (k.block i (Nat.lt_of_lt_of_le hi h.le)).trans (h.bs.block i hi hs)⟩, h.le, Nat.le_trans h.sz k.size, fun W' hW => h.inv W' (fun i hi => (hW i hi).trans (k.block i hi))⟩
theorem bs_step (h : BI base0 gO w N I W) (k : Below W.heap.size W W2) : BI base0 gO w N I W2 := bs_app h (k.mono h.sz)
theorem bs_drew1 (h : BI base0 gO w N I W) : BI base0 gO w N I W.drew := bs_step h (below_drew1 (Below.refl _ _))
theorem bs_set {g j : Nat} {v : Value} (h : BI base0 gO w N I W) (hg : N ≤ g) : BI base0 gO w N I (W.setCell ⟨g, j, none⟩ v) := bs_app h ((Below.refl N W).setCell hg _)
theorem bs_size (h : BI base0 gO w N I W) : N ≤ W.heap.size := h.sz
theorem bs_size0 (h : BI base0 gO w N I W) : w.heap.size ≤ W.heap.size := h.bs.size
theorem bs_now (h : BI base0 gO w N I W) : I W := h.inv W (fun _ _ => rfl)
theorem bs_next {es : List Ev} (hst : ∀ es W W', J es W → (∀ k, k < W.heap.size → W'.heap[k]? = W.heap[k]?) → J es W') (h : BI base0 gO w N I W) (hb : BelT base0 gO W W2) (hj : J es W2) : BI base0 gO w W2.heap.size (J es) W2 :=
  ⟨h.bs.trans hb, Nat.le_trans h.bs.size hb.size, Nat.le_refl _, fun W' hW => hst _ _ _ hj hW⟩
theorem bs_end {es1 es r : List Ev} (h : BI base0 gO w N (J es1) W) (q : es1 ++ [] = es ++ r) : J (es ++ r) W ∧ BelT base0 gO w W := by
  rw [List.append_nil] at q
  exact ⟨q ▸ bs_now h, h.bs⟩
theorem blk_bt {g t : Nat} {cs : Array Value} (h : W.heap[g]? = some (.cells cs t (0, 0))) (hb : BelT base0 gO W W2) (ht : t ≠ 3) (hg : g ≠ gO) : W2.heap[g]? = some (.cells cs t (0, 0)) :=
  (hb.block g (blk_lt h) (fun hs => hs.elim hg (fun ⟨_, c, hc⟩ => by
    rw [h] at hc
    injection hc with hc
    injection hc with _ h2 _
    exact ht h2))).trans h
theorem R_bs {base : Nat} {ok : Nat → Prop} {v : Value} {xs : List S22} (h : Kd.R k22 22 W base ok v xs) (hb : BelT base0 gO W W2) (hg : gO < base) : Kd.R k22 22 W2 base ok v xs :=
  Kd.R_mono (Kd.R_step (Kd.R_bound h) (fun k hk hlt => hb.block k hlt (fun hs => hs.elim (fun e => by have := hk.2.1; omega) (fun ⟨_, c, hc⟩ => by
    obtain ⟨_, _, _, q, hq, cells, hcc⟩ := hk
    have hE : q = 22 := by simpa [k22, Kd.iso, Kd.pair, Kd.int, Kd.scalar] using hq
    rw [hcc] at hc
    injection hc with hc
    injection hc with _ h2 _
    rw [hE] at h2
    exact absurd h2 (by decide))))) (fun _ hk => hk.1)
theorem R_bi {base : Nat} {ok : Nat → Prop} {v : Value} {xs : List S22} (h : Kd.R k22 22 w base ok v xs) (hb : BI base0 gO w N I W) (hg : gO < base) : Kd.R k22 22 W base ok v xs := R_bs h hb.bs hg
theorem R_rec {base : Nat} {ok : Nat → Prop} {v : Value} {xs : List S22} (h : Kd.R k22 22 W base ok v xs) (hS : gO < w.heap.size) (hB : BI base0 gO w base I W2) : Kd.R k22 22 W (gO + 1) (fun _ => True) v xs :=
  Kd.R_lower (Kd.R_mono h (fun _ _ => trivial)) (Nat.succ_le_of_lt (Nat.lt_of_lt_of_le hS hB.le))
end
mutual
def each_l0 : Nat → Int → List (S22) → List (S22) → Int → Int → Int → Int → Int → Int → Int → Int → Option (List Ev)
  | 0, _, _, _, _, _, _, _, _, _, _, _ => none
  | k + 1, x1, x2, x17, x18, x19, x125000, x125001, x125002, x125003, x125004, x125005 => if x19 < x18 then (if 0 ≤ x19 then (if x19 < (x17.length : Int) then ((impl_Ropes_light.f k x125000 x125001 x125002 x125003 x125004 x125005 ((rd_T22 x17 x19).f0) ((rd_T22 x17 x19).f1) ((rd_T22 x17 x19).f2)).bind fun bt130 => ((impl_Ropes_told.f k bt130.1 bt130.2.1 bt130.2.2.1 bt130.2.2.2.1 bt130.2.2.2.2.1 bt130.2.2.2.2.2.1).bind fun t138 => (if bt130.2.2.2.2.2.2 = true then (each_j1 k x1 x2 t138 x17 x18 x19 (decide (t138 > 0)) x125000 x125001 x125002 x125003 x125004 x125005 ((rd_T22 x17 x19).f0) ((rd_T22 x17 x19).f1) ((rd_T22 x17 x19).f2) bt130.1 bt130.2.1 bt130.2.2.1 bt130.2.2.2.1 bt130.2.2.2.2.1 bt130.2.2.2.2.2.1) else (each_j1 k x1 x2 t138 x17 x18 x19 false x125000 x125001 x125002 x125003 x125004 x125005 ((rd_T22 x17 x19).f0) ((rd_T22 x17 x19).f1) ((rd_T22 x17 x19).f2) bt130.1 bt130.2.1 bt130.2.2.1 bt130.2.2.2.1 bt130.2.2.2.2.1 bt130.2.2.2.2.2.1)))) else (none)) else (none)) else (some ([] : List Ev))
def each_j1 : Nat → Int → List (S22) → Int → List (S22) → Int → Int → Bool → Int → Int → Int → Int → Int → Int → Int → Int → Int → Int → Int → Int → Int → Int → Int → Option (List Ev)
  | 0, _, _, _, _, _, _, _, _, _, _, _, _, _, _, _, _, _, _, _, _, _, _ => none
  | k + 1, x1, x2, x12, x17, x18, x19, x35, x125000, x125001, x125002, x125003, x125004, x125005, x130000, x130001, x130002, x138000, x138001, x138002, x138003, x138004, x138005 => if x35 = true then ((impl_Ropes_burn.f k x138000 x138001 x138002 x138003 x138004 x138005 x12).bind fun bt139 => ((slices_Clone_3_int_3_int.f x2).bind fun t145 => ((some (([(⟨x130000, x130001, x130002⟩ : S22)] : List (S22)) : List (S22))).bind fun y148 => (if t145.length + y148.length < 5864062014805 then ((each_f k bt139.1 bt139.2.1 bt139.2.2.1 bt139.2.2.2.1 bt139.2.2.2.2.1 bt139.2.2.2.2.2 (wrap64 (x1 + x12)) (t145 ++ y148)).bind fun t154 => ((each_l0 k x1 x2 x17 x18 (wrap64 (x19 + 1)) x125000 x125001 x125002 x125003 x125004 x125005).bind fun ev2 => some (t154 ++ ev2))) else (none))))) else (each_l0 k x1 x2 x17 x18 (wrap64 (x19 + 1)) x125000 x125001 x125002 x125003 x125004 x125005)
def each_f : Nat → Int → Int → Int → Int → Int → Int → Int → List (S22) → Option (List Ev)
  | 0, _, _, _, _, _, _, _, _ => none
  | k + 1, a0_0, a0_1, a0_2, a0_3, a0_4, a0_5, a1, l2 => (impl_lightings.f k).bind fun t125 => ((each_l0 k a1 l2 t125 (t125.length : Int) 0 a0_0 a0_1 a0_2 a0_3 a0_4 a0_5).bind fun ev => some ((a1, l2) :: ev))
end

def each_T8 : Bool × List (List Nat × List Nat) := (true, [([], []), ([], []), ([0, 1], [0, 1]), ([], []), ([], []), ([3, 4], [3, 4]), ([], []), ([6, 2], [6]), ([], []), ([8], [8]), ([7, 9, 7], [7, 9]), ([], []), ([2, 5, 10, 11, 10], [2, 5, 10, 11])])
def each_B8 : List Nat := [0, 0, 3, 0, 0, 24, 0, 71, 0, 256, 967, 0, 4095]
theorem each_tab8 : rtab .any (opsOf Try.f27 8) = each_T8 := by kernel_rfl
theorem each_bits8 : waitsOk each_T8.2 each_B8 = true := by kernel_rfl
set_option maxHeartbeats 8000000 in
set_option maxRecDepth 100000 in
theorem each_calls (base0 lim : Nat) (J : List Ev → World → Prop) (gO : Nat) (hst : ∀ es W W', J es W → (∀ k, k < W.heap.size → W'.heap[k]? = W.heap[k]?) → J es W')
    (HT : ∀ (es : List Ev) (t : Int) (p : List S22) (A : Option Addr) (c : Nat) (W : World), es.length < lim → J es W → Calls Try.prog 35 #[.int .i64 t, .slice A p.length c, .pointer (some ⟨gO, 0, none⟩)] W fun e W' => e = .returned (.tuple #[]) ∧ J (es ++ [(t, p)]) W' ∧ BelT base0 gO W W')
    (k : Nat) : ∀ (a0_0 : Int) (a0_1 : Int) (a0_2 : Int) (a0_3 : Int) (a0_4 : Int) (a0_5 : Int) (a1 : Int) (A2 : Option Addr) (c2 : Nat) (l2 : List (S22)) (r : List Ev) (es : List Ev) (w : World) (hr2 : Kd.R k22 22 w (gO + 1) (fun _ => True) (.slice A2 l2.length c2) l2) (hS : gO < w.heap.size) (hlim : es.length + r.length ≤ lim) (hj : J es w) (h : each_f k a0_0 a0_1 a0_2 a0_3 a0_4 a0_5 a1 l2 = some r),
    Calls Try.prog 27 #[.agg #[.int .i64 a0_0, .int .i64 a0_1, .int .i64 a0_2, .int .i64 a0_3, .int .i64 a0_4, .int .i64 a0_5], .int .i64 a1, .slice A2 l2.length c2, (.func (.func 35) #[] #[.pointer (some ⟨gO, 0, none⟩)])] w fun e w' => e = .returned (.tuple #[]) ∧ J (es ++ r) w' ∧ BelT base0 gO w w' := by
  induction k using Nat.strongRecOn with
  | _ k ih =>
  intro a0_0 a0_1 a0_2 a0_3 a0_4 a0_5 a1 A2 c2 l2 r es w hr2 hS hlim hj h
  cases k with
  | zero => exact absurd h (by simp [each_f])
  | succ k =>
  simp only [each_f] at h
  have hu28 := Try.underlying28
  have hu22 := Try.underlying22
  have HO2 := Aside0.mk hr2
  have HR2 := Aside0.mk (Kd.R_reads' hr2).2.2
  have HC2 := Aside0.mk (Kd.R_reads' hr2).2.1
  have HSS := Aside0.mk hS
  have HLIM := Aside0.mk hlim
  clear hr2 hS hlim
  have HB := Aside0.mk (bs_start (base0 := base0) (gO := gO) hst hj)
  clear hj
  have H : ((impl_lightings.f k).bind fun t125 => ((each_l0 k a1 l2 t125 (t125.length : Int) 0 a0_0 a0_1 a0_2 a0_3 a0_4 a0_5).bind fun ev => some ((a1, l2) :: ev))) = some r := h
  clear h
  replace H := Option.bind_eq_some_iff.mp H
  obtain ⟨t125, A50, H⟩ := H
  obtain ⟨ev0, H, Hr⟩ := Option.bind_eq_some_iff.mp H
  have ER := Aside0.mk (Option.some.inj Hr)
  clear Hr
  have A5 := Aside0.mk A50
  clear A50
  have H' := Aside0.mk H
  clear H
  go_enter Try.func27, Try.ntmps27
  go_wp2_with (first | ((with_reducible refine gate_dst (N := 4) rfl ?_); refine box_event ?hg (N := 4) ?hd (cs := #[.int .i64 a0_0, .int .i64 a0_1, .int .i64 a0_2, .int .i64 a0_3, .int .i64 a0_4, .int .i64 a0_5]) (t := 28) ?hr ?_; (case hd => rfl); (case hg => rfl); (case hr => first | (go_simp; done) | (go_simp; rfl)); intro gb124 hg w6 hbox hb; have n0_ := Aside0.mk (bs_step (by repeat (first | (with_reducible first | exact HB.out | apply bs_alloc | apply bs_drewN | apply bs_drew1) | exact HB.out)) hb); have n1_ := Aside0.mk (hbox); have n2_ := Aside0.mk ((by rw [hg]; exact (bs_size (by repeat (first | (with_reducible first | exact HB.out | apply bs_alloc | apply bs_drewN | apply bs_drew1) | exact HB.out))) : w.heap.size ≤ gb124)); have n3_ := Aside0.mk ((by rw [hg]; exact (bs_size (by repeat (first | (with_reducible first | exact HB.out | apply bs_alloc | apply bs_drewN | apply bs_drew1) | exact HB.out))) : w.heap.size ≤ gb124)); clear HB; have HB := n0_; have BK124 := n1_; have GW124 := n2_; have GE124 := n3_; clear n0_ n1_ n2_ n3_; clear hb hbox hg) | (go_at_call 35; (with_reducible refine (HT es a1 l2 A2 c2 _ (by have h1 := HLIM.out; rw [← ER.out, List.length_cons] at h1; omega) (bs_now (by repeat (first | (with_reducible first | exact HB.out | apply bs_alloc | apply bs_drewN | apply bs_drew1) | exact HB.out)))).mono ?_); rintro e w5 ⟨rfl, hJ, hbs⟩; have n0_ := Aside0.mk (blk_bt (g := gb124) (by (with_reducible repeat (first | refine blk_drewN ?_ _ | refine blk_drew ?_ | refine blk_alloc ?_ _)); exact BK124.out) hbs (by decide) (fun e_ => absurd HSS.out (Nat.not_lt.2 (by rw [← e_]; exact GE124.out)))); have n1_ := Aside0.mk (bs_next hst (by repeat (first | (with_reducible first | exact HB.out | apply bs_alloc | apply bs_drewN | apply bs_drew1) | exact HB.out)) hbs hJ); clear BK124 HB; have BK124 := n0_; have HB := n1_; clear n0_ n1_ hbs hJ) | ((with_reducible refine gate_callee (f := 44) rfl ?_); refine goesL_ (some 17) rfl rfl Try.func44 (by kernel_rfl) rfl #[] rfl (by (try simp only [List.map_toArray, List.map_cons, List.map_nil]); first | done | rfl | (simp only [List.length_drop, List.length_take]; rfl)) ?_; (with_reducible refine (impl_lightings.calls k  t125 _ A5.out).mono ?_); rintro e w7 ⟨v126, rfl, ho0, hb⟩; refine ⟨_, rfl, ?_⟩; have n0_ := Aside0.mk (Kd.R_lower ho0 (bs_size0 (by repeat (first | (with_reducible first | exact HB.out | apply bs_alloc | apply bs_drewN | apply bs_drew1) | exact HB.out)))); have n1_ := Aside0.mk (blk_below (g := gb124) (o := .cells #[.int .i64 a0_0, .int .i64 a0_1, .int .i64 a0_2, .int .i64 a0_3, .int .i64 a0_4, .int .i64 a0_5] 28 (0, 0)) (by (with_reducible repeat (first | refine blk_drewN ?_ _ | refine blk_drew ?_ | refine blk_alloc ?_ _)); exact BK124.out) hb); have n2_ := Aside0.mk (bs_step (by repeat (first | (with_reducible first | exact HB.out | apply bs_alloc | apply bs_drewN | apply bs_drew1) | exact HB.out)) hb); clear BK124; clear HB; have HO127 := n0_; have BK124 := n1_; have HB := n2_; clear n0_ n1_ n2_; (try clear hb); (try clear hb2); (try clear hk); (try clear hi); (try clear ho0); obtain ⟨Ao8, co8, eo8⟩ := Kd.R_slice HO127.out; subst eo8))
  go_loopg [19] k (fun kq v19 w' => ∃ (x19_1 : Int) (N1 : Nat) (es1 : List Ev) (ev1 : List Ev), v19 = .int .i64 x19_1 ∧ Aside0 (each_l0 kq a1 l2 t125 (t125.length : Int) x19_1 a0_0 a0_1 a0_2 a0_3 a0_4 a0_5 = some ev1) ∧ Aside0 (es1 ++ ev1 = es ++ r) ∧ Aside0 (kq ≤ k) ∧ Aside0 (Kd.R k22 22 w' w.heap.size (fun _ => True) (.slice Ao8 t125.length co8) t125) ∧ Aside0 (w'.heap[gb124]? = some (.cells #[.int .i64 a0_0, .int .i64 a0_1, .int .i64 a0_2, .int .i64 a0_3, .int .i64 a0_4, .int .i64 a0_5] 28 (0, 0))) ∧ Aside0 (BI base0 gO w N1 (J es1) w'))
  case atStart => exact ⟨(0), _, (es ++ [(a1, l2)]), ev0, (by first | rfl | (simp; done) | (simp [*]; done)), H', ⟨by rw [← ER.out]; simp⟩, ⟨Nat.le_refl _⟩, ⟨by (with_reducible repeat (first | apply Kd.R_alloc | apply Kd.R_drewN | apply Kd.R_drew)); exact HO127.out⟩, ⟨by (with_reducible repeat (first | refine blk_drewN ?_ _ | refine blk_drew ?_ | refine blk_alloc ?_ _)); exact BK124.out⟩, ⟨by repeat (first | (with_reducible first | exact HB.out | apply bs_alloc | apply bs_drewN | apply bs_drew1) | exact HB.out)⟩⟩
  case round =>
    clear H'
    try clear c2
    try clear p2
    try clear c4
    obtain ⟨x19_1, N1, es1, ev1, rfl, HA, EQ, HK1, HO_17, BK124, HB⟩ := hrel
    cases gk with
    | zero => exact absurd HA.out (by simp [each_l0])
    | succ k1 =>
      have H := HA.out
      clear HA
      simp only [each_l0] at H
      by_cases c9 : x19_1 < (t125.length : Int)
      · rw [if_pos c9] at H
        have c9b0 : decide (x19_1 < (t125.length : Int)) = true := decide_eq_true c9
        clear c9
        by_cases c10 : 0 ≤ x19_1
        · rw [if_pos c10] at H
          have c10b0 : decide (0 ≤ x19_1) = true := decide_eq_true c10
          clear c10
          by_cases c11 : x19_1 < (t125.length : Int)
          · rw [if_pos c11] at H
            have c11b0 : decide (x19_1 < (t125.length : Int)) = true := decide_eq_true c11
            clear c11
            replace H := Option.bind_eq_some_iff.mp H
            obtain ⟨⟨t130, t131, t132, t133, t134, t135, t136⟩, A120, H⟩ := H
            replace H : ((impl_Ropes_told.f k1 t130 t131 t132 t133 t134 t135).bind fun t138 => (if t136 = true then (each_j1 k1 a1 l2 t138 t125 (t125.length : Int) x19_1 (decide (t138 > 0)) a0_0 a0_1 a0_2 a0_3 a0_4 a0_5 ((rd_T22 t125 x19_1).f0) ((rd_T22 t125 x19_1).f1) ((rd_T22 t125 x19_1).f2) t130 t131 t132 t133 t134 t135) else (each_j1 k1 a1 l2 t138 t125 (t125.length : Int) x19_1 false a0_0 a0_1 a0_2 a0_3 a0_4 a0_5 ((rd_T22 t125 x19_1).f0) ((rd_T22 t125 x19_1).f1) ((rd_T22 t125 x19_1).f2) t130 t131 t132 t133 t134 t135))) = some ev1 := H
            have A12 := Aside0.mk A120
            clear A120
            replace H := Option.bind_eq_some_iff.mp H
            obtain ⟨t138, A130, H⟩ := H
            replace H : (if t136 = true then (each_j1 k1 a1 l2 t138 t125 (t125.length : Int) x19_1 (decide (t138 > 0)) a0_0 a0_1 a0_2 a0_3 a0_4 a0_5 ((rd_T22 t125 x19_1).f0) ((rd_T22 t125 x19_1).f1) ((rd_T22 t125 x19_1).f2) t130 t131 t132 t133 t134 t135) else (each_j1 k1 a1 l2 t138 t125 (t125.length : Int) x19_1 false a0_0 a0_1 a0_2 a0_3 a0_4 a0_5 ((rd_T22 t125 x19_1).f0) ((rd_T22 t125 x19_1).f1) ((rd_T22 t125 x19_1).f2) t130 t131 t132 t133 t134 t135)) = some ev1 := H
            have A13 := Aside0.mk A130
            clear A130
            have HC14 := Aside0.mk H
            clear H
            have p128 : 0 ≤ (x19_1 : Int) := of_decide_eq_true (by first | (with_reducible assumption) | assumption)
            have q128 : x19_1 < (t125.length : Int) := of_decide_eq_true (by first | (with_reducible assumption) | assumption)
            obtain ⟨ad128, e128, hx128_0, hx128_1, hx128_2⟩ := at_T22 (Kd.R_reads' HO_17.out).2.2 x19_1 p128 q128
            cases e128
            replace p128 := eq_true p128
            replace q128 := eq_true q128
            go_upto_region 7 with (first | ((with_reducible refine gate_dst (N := 9) rfl ?_); refine box_event ?hg (N := 9) ?hd (cs := #[.int .i64 0, .int .i64 0, .int .i64 0]) (t := 22) ?hr ?_; (case hd => rfl); (case hg => rfl); (case hr => first | (go_simp; done) | (go_simp; rfl)); intro gb129 hg w15 hbox hb; have n0_ := Aside0.mk (Kd.R_below (Kd.R_elderB (by (with_reducible repeat (first | apply Kd.R_alloc | apply Kd.R_drewN | apply Kd.R_drew)); exact HO_17.out) gb129 (Nat.le_of_eq hg.symm)) hb); have n1_ := Aside0.mk (blk_below (g := gb124) (o := .cells #[.int .i64 a0_0, .int .i64 a0_1, .int .i64 a0_2, .int .i64 a0_3, .int .i64 a0_4, .int .i64 a0_5] 28 (0, 0)) (by (with_reducible repeat (first | refine blk_drewN ?_ _ | refine blk_drew ?_ | refine blk_alloc ?_ _)); exact BK124.out) hb); have n2_ := Aside0.mk (bs_step (by repeat (first | (with_reducible first | exact HB.out | apply bs_alloc | apply bs_drewN | apply bs_drew1) | exact HB.out)) hb); have n3_ := Aside0.mk (hbox); have n4_ := Aside0.mk ((by rw [hg]; exact (bs_size (by repeat (first | (with_reducible first | exact HB.out | apply bs_alloc | apply bs_drewN | apply bs_drew1) | exact HB.out))) : N1 ≤ gb129)); have n5_ := Aside0.mk ((by rw [hg]; exact (bs_size (by repeat (first | (with_reducible first | exact HB.out | apply bs_alloc | apply bs_drewN | apply bs_drew1) | exact HB.out))) : N1 ≤ gb129)); have n6_ := Aside0.mk ((by rw [hg]; exact Nat.ne_of_lt (blk_lt (g := gb124) (o := .cells #[.int .i64 a0_0, .int .i64 a0_1, .int .i64 a0_2, .int .i64 a0_3, .int .i64 a0_4, .int .i64 a0_5] 28 (0, 0)) (by (with_reducible repeat (first | refine blk_drewN ?_ _ | refine blk_drew ?_ | refine blk_alloc ?_ _)); exact BK124.out)) : gb124 ≠ gb129)); have n7_ := Aside0.mk ((by rw [hg]; exact Nat.ne_of_gt (blk_lt (g := gb124) (o := .cells #[.int .i64 a0_0, .int .i64 a0_1, .int .i64 a0_2, .int .i64 a0_3, .int .i64 a0_4, .int .i64 a0_5] 28 (0, 0)) (by (with_reducible repeat (first | refine blk_drewN ?_ _ | refine blk_drew ?_ | refine blk_alloc ?_ _)); exact BK124.out)) : gb129 ≠ gb124)); clear HO_17; clear BK124; clear HB; have HO_17 := n0_; have BK124 := n1_; have HB := n2_; have BK129 := n3_; have GW129 := n4_; have GE129 := n5_; have NB124_129 := n6_; have NB129_124 := n7_; clear n0_ n1_ n2_ n3_ n4_ n5_ n6_ n7_; clear hb hbox hg; have hnb16 := NB129_124.out; have hnc16 := NB124_129.out; have hcz17_0 : w15.cell? ⟨gb129, 0, none⟩ = some (.int .i64 0) := (blk_cell BK129.out 0).trans rfl; have hcz17_1 : w15.cell? ⟨gb129, 1, none⟩ = some (.int .i64 0) := (blk_cell BK129.out 1).trans rfl; have hcz17_2 : w15.cell? ⟨gb129, 2, none⟩ = some (.int .i64 0) := (blk_cell BK129.out 2).trans rfl; have hfz17_0 := blk_frozen BK129.out 0; have hfz17_1 := blk_frozen BK129.out 1; have hfz17_2 := blk_frozen BK129.out 2; have hcz18_0 : w15.cell? ⟨gb124, 0, none⟩ = some (.int .i64 a0_0) := (blk_cell BK124.out 0).trans rfl; have hcz18_1 : w15.cell? ⟨gb124, 1, none⟩ = some (.int .i64 a0_1) := (blk_cell BK124.out 1).trans rfl; have hcz18_2 : w15.cell? ⟨gb124, 2, none⟩ = some (.int .i64 a0_2) := (blk_cell BK124.out 2).trans rfl; have hcz18_3 : w15.cell? ⟨gb124, 3, none⟩ = some (.int .i64 a0_3) := (blk_cell BK124.out 3).trans rfl; have hcz18_4 : w15.cell? ⟨gb124, 4, none⟩ = some (.int .i64 a0_4) := (blk_cell BK124.out 4).trans rfl; have hcz18_5 : w15.cell? ⟨gb124, 5, none⟩ = some (.int .i64 a0_5) := (blk_cell BK124.out 5).trans rfl; have hfz18_0 := blk_frozen BK124.out 0; have hfz18_1 := blk_frozen BK124.out 1; have hfz18_2 := blk_frozen BK124.out 2; have hfz18_3 := blk_frozen BK124.out 3; have hfz18_4 := blk_frozen BK124.out 4; have hfz18_5 := blk_frozen BK124.out 5) | ((with_reducible refine gate_callee (f := 45) rfl ?_); refine goesL_ (some 26) rfl rfl Try.func45 (by kernel_rfl) rfl #[.agg #[.int .i64 a0_0, .int .i64 a0_1, .int .i64 a0_2, .int .i64 a0_3, .int .i64 a0_4, .int .i64 a0_5], .agg #[.int .i64 ((rd_T22 t125 x19_1).f0), .int .i64 ((rd_T22 t125 x19_1).f1), .int .i64 ((rd_T22 t125 x19_1).f2)]] rfl (by (try simp only [List.map_toArray, List.map_cons, List.map_nil]); first | done | rfl | (simp only [List.length_drop, List.length_take]; rfl)) ?_; (with_reducible refine (impl_Ropes_light.calls k1 a0_0 a0_1 a0_2 a0_3 a0_4 a0_5 ((rd_T22 t125 x19_1).f0) ((rd_T22 t125 x19_1).f1) ((rd_T22 t125 x19_1).f2) t130 t131 t132 t133 t134 t135 t136 _ A12.out).mono ?_); rintro e w19 ⟨rfl, hb⟩; refine ⟨_, rfl, ?_⟩; have n0_ := Aside0.mk (Kd.R_below (by (with_reducible repeat (first | apply Kd.R_alloc | apply Kd.R_drewN | apply Kd.R_drew)); exact (Kd.R_mono (Kd.R_far (p := ⟨gb129, 2, none⟩) (Kd.R_far (p := ⟨gb129, 1, none⟩) (Kd.R_far (p := ⟨gb129, 0, none⟩) (Kd.R_mono HO_17.out (fun k_ hk => (⟨hk, hk.2⟩ : _ ∧ k_ ≠ gb129))) (fun _ hk => hk.2) (.int .i64 ((rd_T22 t125 x19_1).f0))) (fun _ hk => hk.2) (.int .i64 ((rd_T22 t125 x19_1).f1))) (fun _ hk => hk.2) (.int .i64 ((rd_T22 t125 x19_1).f2))) (fun _ h_ => h_.1))) hb); have n1_ := Aside0.mk (blk_below (g := gb124) (o := .cells #[.int .i64 a0_0, .int .i64 a0_1, .int .i64 a0_2, .int .i64 a0_3, .int .i64 a0_4, .int .i64 a0_5] 28 (0, 0)) (by (with_reducible repeat (first | refine blk_drewN ?_ _ | refine blk_drew ?_ | refine blk_alloc ?_ _)); refine blk_far ?_ NB124_129.out _; (with_reducible repeat (first | refine blk_drewN ?_ _ | refine blk_drew ?_ | refine blk_alloc ?_ _)); refine blk_far ?_ NB124_129.out _; (with_reducible repeat (first | refine blk_drewN ?_ _ | refine blk_drew ?_ | refine blk_alloc ?_ _)); refine blk_far ?_ NB124_129.out _; (with_reducible repeat (first | refine blk_drewN ?_ _ | refine blk_drew ?_ | refine blk_alloc ?_ _)); exact BK124.out) hb); have n2_ := Aside0.mk (blk_below (g := gb129) (o := .cells #[.int .i64 ((rd_T22 t125 x19_1).f0), .int .i64 ((rd_T22 t125 x19_1).f1), .int .i64 ((rd_T22 t125 x19_1).f2)] 22 (0, 0)) (by (with_reducible repeat (first | refine blk_drewN ?_ _ | refine blk_drew ?_ | refine blk_alloc ?_ _)); refine blk_put (cs := #[.int .i64 ((rd_T22 t125 x19_1).f0), .int .i64 ((rd_T22 t125 x19_1).f1), .int .i64 0]) ?_ 2 _ rfl; (with_reducible repeat (first | refine blk_drewN ?_ _ | refine blk_drew ?_ | refine blk_alloc ?_ _)); refine blk_put (cs := #[.int .i64 ((rd_T22 t125 x19_1).f0), .int .i64 0, .int .i64 0]) ?_ 1 _ rfl; (with_reducible repeat (first | refine blk_drewN ?_ _ | refine blk_drew ?_ | refine blk_alloc ?_ _)); refine blk_put (cs := #[.int .i64 0, .int .i64 0, .int .i64 0]) ?_ 0 _ rfl; (with_reducible repeat (first | refine blk_drewN ?_ _ | refine blk_drew ?_ | refine blk_alloc ?_ _)); exact BK129.out) hb); have n3_ := Aside0.mk (bs_step (by repeat (first | (with_reducible first | exact HB.out | apply bs_alloc | apply bs_drewN | apply bs_drew1 | refine bs_set (base0 := base0) (gO := gO) (w := w) (I := J es1) ?_ GE129.out) | exact HB.out)) hb); clear HO_17; clear BK124; clear BK129; clear HB; have HO_17 := n0_; have BK124 := n1_; have BK129 := n2_; have HB := n3_; clear n0_ n1_ n2_ n3_; (try clear hb); (try clear hb2); (try clear hk); (try clear hi)) | ((with_reducible refine gate_dst (N := 10) rfl ?_); refine box_event ?hg (N := 10) ?hd (cs := #[.int .i64 0, .int .i64 0, .int .i64 0, .int .i64 0, .int .i64 0, .int .i64 0]) (t := 28) ?hr ?_; (case hd => rfl); (case hg => rfl); (case hr => first | (go_simp; done) | (go_simp; rfl)); intro gb137 hg w20 hbox hb; have n0_ := Aside0.mk (Kd.R_below (by (with_reducible repeat (first | apply Kd.R_alloc | apply Kd.R_drewN | apply Kd.R_drew)); exact HO_17.out) hb); have n1_ := Aside0.mk (blk_below (g := gb124) (o := .cells #[.int .i64 a0_0, .int .i64 a0_1, .int .i64 a0_2, .int .i64 a0_3, .int .i64 a0_4, .int .i64 a0_5] 28 (0, 0)) (by (with_reducible repeat (first | refine blk_drewN ?_ _ | refine blk_drew ?_ | refine blk_alloc ?_ _)); exact BK124.out) hb); have n2_ := Aside0.mk (blk_below (g := gb129) (o := .cells #[.int .i64 ((rd_T22 t125 x19_1).f0), .int .i64 ((rd_T22 t125 x19_1).f1), .int .i64 ((rd_T22 t125 x19_1).f2)] 22 (0, 0)) (by (with_reducible repeat (first | refine blk_drewN ?_ _ | refine blk_drew ?_ | refine blk_alloc ?_ _)); exact BK129.out) hb); have n3_ := Aside0.mk (bs_step (by repeat (first | (with_reducible first | exact HB.out | apply bs_alloc | apply bs_drewN | apply bs_drew1 | refine bs_set (base0 := base0) (gO := gO) (w := w) (I := J es1) ?_ GE129.out) | exact HB.out)) hb); have n4_ := Aside0.mk (hbox); have n5_ := Aside0.mk ((by rw [hg]; exact (bs_size (by repeat (first | (with_reducible first | exact HB.out | apply bs_alloc | apply bs_drewN | apply bs_drew1 | refine bs_set (base0 := base0) (gO := gO) (w := w) (I := J es1) ?_ GE129.out) | exact HB.out))) : N1 ≤ gb137)); have n6_ := Aside0.mk ((by rw [hg]; exact (bs_size (by repeat (first | (with_reducible first | exact HB.out | apply bs_alloc | apply bs_drewN | apply bs_drew1 | refine bs_set (base0 := base0) (gO := gO) (w := w) (I := J es1) ?_ GE129.out) | exact HB.out))) : N1 ≤ gb137)); have n7_ := Aside0.mk ((by rw [hg]; exact Nat.ne_of_lt (blk_lt (g := gb124) (o := .cells #[.int .i64 a0_0, .int .i64 a0_1, .int .i64 a0_2, .int .i64 a0_3, .int .i64 a0_4, .int .i64 a0_5] 28 (0, 0)) (by (with_reducible repeat (first | refine blk_drewN ?_ _ | refine blk_drew ?_ | refine blk_alloc ?_ _)); exact BK124.out)) : gb124 ≠ gb137)); have n8_ := Aside0.mk ((by rw [hg]; exact Nat.ne_of_gt (blk_lt (g := gb124) (o := .cells #[.int .i64 a0_0, .int .i64 a0_1, .int .i64 a0_2, .int .i64 a0_3, .int .i64 a0_4, .int .i64 a0_5] 28 (0, 0)) (by (with_reducible repeat (first | refine blk_drewN ?_ _ | refine blk_drew ?_ | refine blk_alloc ?_ _)); exact BK124.out)) : gb137 ≠ gb124)); have n9_ := Aside0.mk ((by rw [hg]; exact Nat.ne_of_lt (blk_lt (g := gb129) (o := .cells #[.int .i64 ((rd_T22 t125 x19_1).f0), .int .i64 ((rd_T22 t125 x19_1).f1), .int .i64 ((rd_T22 t125 x19_1).f2)] 22 (0, 0)) (by (with_reducible repeat (first | refine blk_drewN ?_ _ | refine blk_drew ?_ | refine blk_alloc ?_ _)); exact BK129.out)) : gb129 ≠ gb137)); have n10_ := Aside0.mk ((by rw [hg]; exact Nat.ne_of_gt (blk_lt (g := gb129) (o := .cells #[.int .i64 ((rd_T22 t125 x19_1).f0), .int .i64 ((rd_T22 t125 x19_1).f1), .int .i64 ((rd_T22 t125 x19_1).f2)] 22 (0, 0)) (by (with_reducible repeat (first | refine blk_drewN ?_ _ | refine blk_drew ?_ | refine blk_alloc ?_ _)); exact BK129.out)) : gb137 ≠ gb129)); clear HO_17; clear BK124; clear BK129; clear HB; have HO_17 := n0_; have BK124 := n1_; have BK129 := n2_; have HB := n3_; have BK137 := n4_; have GW137 := n5_; have GE137 := n6_; have NB124_137 := n7_; have NB137_124 := n8_; have NB129_137 := n9_; have NB137_129 := n10_; clear n0_ n1_ n2_ n3_ n4_ n5_ n6_ n7_ n8_ n9_ n10_; clear hb hbox hg; have hnb21 := NB137_124.out; have hnc21 := NB124_137.out; have hnb22 := NB137_129.out; have hnc22 := NB129_137.out; have hcz23_0 : w20.cell? ⟨gb137, 0, none⟩ = some (.int .i64 0) := (blk_cell BK137.out 0).trans rfl; have hcz23_1 : w20.cell? ⟨gb137, 1, none⟩ = some (.int .i64 0) := (blk_cell BK137.out 1).trans rfl; have hcz23_2 : w20.cell? ⟨gb137, 2, none⟩ = some (.int .i64 0) := (blk_cell BK137.out 2).trans rfl; have hcz23_3 : w20.cell? ⟨gb137, 3, none⟩ = some (.int .i64 0) := (blk_cell BK137.out 3).trans rfl; have hcz23_4 : w20.cell? ⟨gb137, 4, none⟩ = some (.int .i64 0) := (blk_cell BK137.out 4).trans rfl; have hcz23_5 : w20.cell? ⟨gb137, 5, none⟩ = some (.int .i64 0) := (blk_cell BK137.out 5).trans rfl; have hfz23_0 := blk_frozen BK137.out 0; have hfz23_1 := blk_frozen BK137.out 1; have hfz23_2 := blk_frozen BK137.out 2; have hfz23_3 := blk_frozen BK137.out 3; have hfz23_4 := blk_frozen BK137.out 4; have hfz23_5 := blk_frozen BK137.out 5) | ((with_reducible refine gate_callee (f := 46) rfl ?_); refine goesL_ (some 30) rfl rfl Try.func46 (by kernel_rfl) rfl #[.agg #[.int .i64 t130, .int .i64 t131, .int .i64 t132, .int .i64 t133, .int .i64 t134, .int .i64 t135]] rfl (by (try simp only [List.map_toArray, List.map_cons, List.map_nil]); first | done | rfl | (simp only [List.length_drop, List.length_take]; rfl)) ?_; (with_reducible refine (impl_Ropes_told.calls k1 t130 t131 t132 t133 t134 t135 t138 _ A13.out).mono ?_); rintro e w24 ⟨rfl, hb⟩; refine ⟨_, rfl, ?_⟩; have n0_ := Aside0.mk (Kd.R_below (by (with_reducible repeat (first | apply Kd.R_alloc | apply Kd.R_drewN | apply Kd.R_drew)); exact (Kd.R_mono (Kd.R_far (p := ⟨gb137, 5, none⟩) (Kd.R_far (p := ⟨gb137, 4, none⟩) (Kd.R_far (p := ⟨gb137, 3, none⟩) (Kd.R_far (p := ⟨gb137, 2, none⟩) (Kd.R_far (p := ⟨gb137, 1, none⟩) (Kd.R_far (p := ⟨gb137, 0, none⟩) (Kd.R_types HO_17.out BK137.out (by decide)) (fun _ hk => hk.2) (.int .i64 t130)) (fun _ hk => hk.2) (.int .i64 t131)) (fun _ hk => hk.2) (.int .i64 t132)) (fun _ hk => hk.2) (.int .i64 t133)) (fun _ hk => hk.2) (.int .i64 t134)) (fun _ hk => hk.2) (.int .i64 t135)) (fun _ h_ => h_.1))) hb); have n1_ := Aside0.mk (blk_below (g := gb124) (o := .cells #[.int .i64 a0_0, .int .i64 a0_1, .int .i64 a0_2, .int .i64 a0_3, .int .i64 a0_4, .int .i64 a0_5] 28 (0, 0)) (by (with_reducible repeat (first | refine blk_drewN ?_ _ | refine blk_drew ?_ | refine blk_alloc ?_ _)); refine blk_far ?_ NB124_137.out _; (with_reducible repeat (first | refine blk_drewN ?_ _ | refine blk_drew ?_ | refine blk_alloc ?_ _)); refine blk_far ?_ NB124_137.out _; (with_reducible repeat (first | refine blk_drewN ?_ _ | refine blk_drew ?_ | refine blk_alloc ?_ _)); refine blk_far ?_ NB124_137.out _; (with_reducible repeat (first | refine blk_drewN ?_ _ | refine blk_drew ?_ | refine blk_alloc ?_ _)); refine blk_far ?_ NB124_137.out _; (with_reducible repeat (first | refine blk_drewN ?_ _ | refine blk_drew ?_ | refine blk_alloc ?_ _)); refine blk_far ?_ NB124_137.out _; (with_reducible repeat (first | refine blk_drewN ?_ _ | refine blk_drew ?_ | refine blk_alloc ?_ _)); refine blk_far ?_ NB124_137.out _; (with_reducible repeat (first | refine blk_drewN ?_ _ | refine blk_drew ?_ | refine blk_alloc ?_ _)); exact BK124.out) hb); have n2_ := Aside0.mk (blk_below (g := gb129) (o := .cells #[.int .i64 ((rd_T22 t125 x19_1).f0), .int .i64 ((rd_T22 t125 x19_1).f1), .int .i64 ((rd_T22 t125 x19_1).f2)] 22 (0, 0)) (by (with_reducible repeat (first | refine blk_drewN ?_ _ | refine blk_drew ?_ | refine blk_alloc ?_ _)); refine blk_far ?_ NB129_137.out _; (with_reducible repeat (first | refine blk_drewN ?_ _ | refine blk_drew ?_ | refine blk_alloc ?_ _)); refine blk_far ?_ NB129_137.out _; (with_reducible repeat (first | refine blk_drewN ?_ _ | refine blk_drew ?_ | refine blk_alloc ?_ _)); refine blk_far ?_ NB129_137.out _; (with_reducible repeat (first | refine blk_drewN ?_ _ | refine blk_drew ?_ | refine blk_alloc ?_ _)); refine blk_far ?_ NB129_137.out _; (with_reducible repeat (first | refine blk_drewN ?_ _ | refine blk_drew ?_ | refine blk_alloc ?_ _)); refine blk_far ?_ NB129_137.out _; (with_reducible repeat (first | refine blk_drewN ?_ _ | refine blk_drew ?_ | refine blk_alloc ?_ _)); refine blk_far ?_ NB129_137.out _; (with_reducible repeat (first | refine blk_drewN ?_ _ | refine blk_drew ?_ | refine blk_alloc ?_ _)); exact BK129.out) hb); have n3_ := Aside0.mk (blk_below (g := gb137) (o := .cells #[.int .i64 t130, .int .i64 t131, .int .i64 t132, .int .i64 t133, .int .i64 t134, .int .i64 t135] 28 (0, 0)) (by (with_reducible repeat (first | refine blk_drewN ?_ _ | refine blk_drew ?_ | refine blk_alloc ?_ _)); refine blk_put (cs := #[.int .i64 t130, .int .i64 t131, .int .i64 t132, .int .i64 t133, .int .i64 t134, .int .i64 0]) ?_ 5 _ rfl; (with_reducible repeat (first | refine blk_drewN ?_ _ | refine blk_drew ?_ | refine blk_alloc ?_ _)); refine blk_put (cs := #[.int .i64 t130, .int .i64 t131, .int .i64 t132, .int .i64 t133, .int .i64 0, .int .i64 0]) ?_ 4 _ rfl; (with_reducible repeat (first | refine blk_drewN ?_ _ | refine blk_drew ?_ | refine blk_alloc ?_ _)); refine blk_put (cs := #[.int .i64 t130, .int .i64 t131, .int .i64 t132, .int .i64 0, .int .i64 0, .int .i64 0]) ?_ 3 _ rfl; (with_reducible repeat (first | refine blk_drewN ?_ _ | refine blk_drew ?_ | refine blk_alloc ?_ _)); refine blk_put (cs := #[.int .i64 t130, .int .i64 t131, .int .i64 0, .int .i64 0, .int .i64 0, .int .i64 0]) ?_ 2 _ rfl; (with_reducible repeat (first | refine blk_drewN ?_ _ | refine blk_drew ?_ | refine blk_alloc ?_ _)); refine blk_put (cs := #[.int .i64 t130, .int .i64 0, .int .i64 0, .int .i64 0, .int .i64 0, .int .i64 0]) ?_ 1 _ rfl; (with_reducible repeat (first | refine blk_drewN ?_ _ | refine blk_drew ?_ | refine blk_alloc ?_ _)); refine blk_put (cs := #[.int .i64 0, .int .i64 0, .int .i64 0, .int .i64 0, .int .i64 0, .int .i64 0]) ?_ 0 _ rfl; (with_reducible repeat (first | refine blk_drewN ?_ _ | refine blk_drew ?_ | refine blk_alloc ?_ _)); exact BK137.out) hb); have n4_ := Aside0.mk (bs_step (by repeat (first | (with_reducible first | exact HB.out | apply bs_alloc | apply bs_drewN | apply bs_drew1 | refine bs_set (base0 := base0) (gO := gO) (w := w) (I := J es1) ?_ GE129.out | refine bs_set (base0 := base0) (gO := gO) (w := w) (I := J es1) ?_ GE137.out) | exact HB.out)) hb); clear HO_17; clear BK124; clear BK129; clear BK137; clear HB; have HO_17 := n0_; have BK124 := n1_; have BK129 := n2_; have BK137 := n3_; have HB := n4_; clear n0_ n1_ n2_ n3_ n4_; (try clear hb); (try clear hb2); (try clear hk); (try clear hi)))
            (try simp only [Act.put, q1, q2, q3])
            go_cut [35] (fun v35 wc => ∃ (kq : Nat) (x35_13 : Bool), v35 = .bool x35_13 ∧ Aside0 (each_j1 kq a1 l2 t138 t125 (t125.length : Int) x19_1 x35_13 a0_0 a0_1 a0_2 a0_3 a0_4 a0_5 ((rd_T22 t125 x19_1).f0) ((rd_T22 t125 x19_1).f1) ((rd_T22 t125 x19_1).f2) t130 t131 t132 t133 t134 t135 = some ev1) ∧ Aside0 (kq ≤ k1) ∧ Aside0 (Kd.R k22 22 wc w.heap.size (fun k_ => k_ ≠ gb129) (.slice (some ad128) t125.length co8) t125) ∧ Aside0 (wc.heap[gb124]? = some (.cells #[.int .i64 a0_0, .int .i64 a0_1, .int .i64 a0_2, .int .i64 a0_3, .int .i64 a0_4, .int .i64 a0_5] 28 (0, 0))) ∧ Aside0 (wc.heap[gb129]? = some (.cells #[.int .i64 ((rd_T22 t125 x19_1).f0), .int .i64 ((rd_T22 t125 x19_1).f1), .int .i64 ((rd_T22 t125 x19_1).f2)] 22 (0, 0))) ∧ Aside0 (wc.heap[gb137]? = some (.cells #[.int .i64 t130, .int .i64 t131, .int .i64 t132, .int .i64 t133, .int .i64 t134, .int .i64 t135] 28 (0, 0))) ∧ Aside0 (BI base0 gO w N1 (J es1) wc))
            case first =>
              have H := HC14.out
              clear HC14
              by_cases c25 : t136 = true
              · subst c25
                have H1 : (each_j1 k1 a1 l2 t138 t125 (t125.length : Int) x19_1 (decide (t138 > 0)) a0_0 a0_1 a0_2 a0_3 a0_4 a0_5 ((rd_T22 t125 x19_1).f0) ((rd_T22 t125 x19_1).f1) ((rd_T22 t125 x19_1).f2) t130 t131 t132 t133 t134 t135) = some ev1 := by rw [if_pos rfl] at H; exact H
                clear H
                have H := H1
                clear H1
                have H' := Aside0.mk H
                clear H
                go_wp2
                go_meet
                case rel => exact ⟨_, (decide (t138 > 0)), (by first | rfl | (simp; done) | (simp [*]; done)), H', ⟨by have := HK1.out; first | omega | exact Nat.le_refl _⟩, ⟨by (with_reducible repeat (first | apply Kd.R_alloc | apply Kd.R_drewN | apply Kd.R_drew)); exact Kd.R_mono HO_17.out (fun _ hk => hk.2)⟩, ⟨by (with_reducible repeat (first | refine blk_drewN ?_ _ | refine blk_drew ?_ | refine blk_alloc ?_ _)); exact BK124.out⟩, ⟨by (with_reducible repeat (first | refine blk_drewN ?_ _ | refine blk_drew ?_ | refine blk_alloc ?_ _)); exact BK129.out⟩, ⟨by (with_reducible repeat (first | refine blk_drewN ?_ _ | refine blk_drew ?_ | refine blk_alloc ?_ _)); exact BK137.out⟩, ⟨by repeat (first | (with_reducible first | exact HB.out | apply bs_alloc | apply bs_drewN | apply bs_drew1 | refine bs_set (base0 := base0) (gO := gO) (w := w) (I := J es1) ?_ GE129.out | refine bs_set (base0 := base0) (gO := gO) (w := w) (I := J es1) ?_ GE137.out) | exact HB.out)⟩⟩
              · replace c25 := Bool.eq_false_iff.mpr c25
                subst c25
                have H1 : (each_j1 k1 a1 l2 t138 t125 (t125.length : Int) x19_1 false a0_0 a0_1 a0_2 a0_3 a0_4 a0_5 ((rd_T22 t125 x19_1).f0) ((rd_T22 t125 x19_1).f1) ((rd_T22 t125 x19_1).f2) t130 t131 t132 t133 t134 t135) = some ev1 := by rw [if_neg (show ¬ (false = true) by decide)] at H; exact H
                clear H
                have H := H1
                clear H1
                have H' := Aside0.mk H
                clear H
                go_wp2
                go_meet
                case rel => exact ⟨_, (false), (by first | rfl | (simp; done) | (simp [*]; done)), H', ⟨by have := HK1.out; first | omega | exact Nat.le_refl _⟩, ⟨by (with_reducible repeat (first | apply Kd.R_alloc | apply Kd.R_drewN | apply Kd.R_drew)); exact Kd.R_mono HO_17.out (fun _ hk => hk.2)⟩, ⟨by (with_reducible repeat (first | refine blk_drewN ?_ _ | refine blk_drew ?_ | refine blk_alloc ?_ _)); exact BK124.out⟩, ⟨by (with_reducible repeat (first | refine blk_drewN ?_ _ | refine blk_drew ?_ | refine blk_alloc ?_ _)); exact BK129.out⟩, ⟨by (with_reducible repeat (first | refine blk_drewN ?_ _ | refine blk_drew ?_ | refine blk_alloc ?_ _)); exact BK137.out⟩, ⟨by repeat (first | (with_reducible first | exact HB.out | apply bs_alloc | apply bs_drewN | apply bs_drew1 | refine bs_set (base0 := base0) (gO := gO) (w := w) (I := J es1) ?_ GE129.out | refine bs_set (base0 := base0) (gO := gO) (w := w) (I := J es1) ?_ GE137.out) | exact HB.out)⟩⟩
            case rest =>
              clear HC14
              try clear c1
              try clear p1
              try clear q1
              try clear hx1
              try clear c2
              try clear p2
              try clear c4
              try clear c9
              try clear c9b0
              try clear c10
              try clear c10b0
              try clear c11
              try clear c11b0
              try clear p12
              try clear q12
              try clear hx12
              try clear c16
              try clear c21
              try clear c22
              try clear c25
              try clear hcz17_0
              try clear hcz17_1
              try clear hcz17_2
              try clear hcz18_0
              try clear hcz18_1
              try clear hcz18_2
              try clear hcz18_3
              try clear hcz18_4
              try clear hcz18_5
              try clear hcz23_0
              try clear hcz23_1
              try clear hcz23_2
              try clear hcz23_3
              try clear hcz23_4
              try clear hcz23_5
              try clear hfz17_0
              try clear hfz17_1
              try clear hfz17_2
              try clear hfz18_0
              try clear hfz18_1
              try clear hfz18_2
              try clear hfz18_3
              try clear hfz18_4
              try clear hfz18_5
              try clear hfz23_0
              try clear hfz23_1
              try clear hfz23_2
              try clear hfz23_3
              try clear hfz23_4
              try clear hfz23_5
              try clear hx128_0
              try clear hx128_1
              try clear hx128_2
              try clear p128
              try clear p2
              try clear q128
              obtain ⟨kq, x35_13, rfl, HA, HJ13, HO_17, BK124, BK129, BK137, HB⟩ := hcut
              cases kq with
              | zero => exact absurd HA.out (by simp [each_j1])
              | succ kj13 =>
                have H := HA.out
                clear HA
                simp only [each_j1] at H
                by_cases c26 : x35_13 = true
                · subst c26
                  have H1 : ((impl_Ropes_burn.f kj13 t130 t131 t132 t133 t134 t135 t138).bind fun bt139 => ((slices_Clone_3_int_3_int.f l2).bind fun t145 => ((some (([(⟨((rd_T22 t125 x19_1).f0), ((rd_T22 t125 x19_1).f1), ((rd_T22 t125 x19_1).f2)⟩ : S22)] : List (S22)) : List (S22))).bind fun y148 => (if t145.length + y148.length < 5864062014805 then ((each_f kj13 bt139.1 bt139.2.1 bt139.2.2.1 bt139.2.2.2.1 bt139.2.2.2.2.1 bt139.2.2.2.2.2 (wrap64 (a1 + t138)) (t145 ++ y148)).bind fun t154 => ((each_l0 kj13 a1 l2 t125 (t125.length : Int) (wrap64 (x19_1 + 1)) a0_0 a0_1 a0_2 a0_3 a0_4 a0_5).bind fun ev2 => some (t154 ++ ev2))) else (none))))) = some ev1 := by rw [if_pos rfl] at H; exact H
                  clear H
                  have H := H1
                  clear H1
                  replace H := Option.bind_eq_some_iff.mp H
                  obtain ⟨⟨t139, t140, t141, t142, t143, t144⟩, A270, H⟩ := H
                  replace H : ((slices_Clone_3_int_3_int.f l2).bind fun t145 => ((some (([(⟨((rd_T22 t125 x19_1).f0), ((rd_T22 t125 x19_1).f1), ((rd_T22 t125 x19_1).f2)⟩ : S22)] : List (S22)) : List (S22))).bind fun y148 => (if t145.length + y148.length < 5864062014805 then ((each_f kj13 t139 t140 t141 t142 t143 t144 (wrap64 (a1 + t138)) (t145 ++ y148)).bind fun t154 => ((each_l0 kj13 a1 l2 t125 (t125.length : Int) (wrap64 (x19_1 + 1)) a0_0 a0_1 a0_2 a0_3 a0_4 a0_5).bind fun ev2 => some (t154 ++ ev2))) else (none)))) = some ev1 := H
                  have A27 := Aside0.mk A270
                  clear A270
                  replace H := Option.bind_eq_some_iff.mp H
                  obtain ⟨t145, A280, H⟩ := H
                  replace H : ((some (([(⟨((rd_T22 t125 x19_1).f0), ((rd_T22 t125 x19_1).f1), ((rd_T22 t125 x19_1).f2)⟩ : S22)] : List (S22)) : List (S22))).bind fun y148 => (if t145.length + y148.length < 5864062014805 then ((each_f kj13 t139 t140 t141 t142 t143 t144 (wrap64 (a1 + t138)) (t145 ++ y148)).bind fun t154 => ((each_l0 kj13 a1 l2 t125 (t125.length : Int) (wrap64 (x19_1 + 1)) a0_0 a0_1 a0_2 a0_3 a0_4 a0_5).bind fun ev2 => some (t154 ++ ev2))) else (none))) = some ev1 := H
                  have A28 := Aside0.mk A280
                  clear A280
                  obtain ⟨y148, hy148⟩ : ∃ y_ : List (S22), y_ = (([(⟨((rd_T22 t125 x19_1).f0), ((rd_T22 t125 x19_1).f1), ((rd_T22 t125 x19_1).f2)⟩ : S22)] : List (S22))) := ⟨_, rfl⟩
                  replace H : (if t145.length + y148.length < 5864062014805 then ((each_f kj13 t139 t140 t141 t142 t143 t144 (wrap64 (a1 + t138)) (t145 ++ y148)).bind fun t154 => ((each_l0 kj13 a1 l2 t125 (t125.length : Int) (wrap64 (x19_1 + 1)) a0_0 a0_1 a0_2 a0_3 a0_4 a0_5).bind fun ev2 => some (t154 ++ ev2))) else (none)) = some ev1 := by first | (rw [hy148]; with_reducible exact H) | (have H2_ := (Option.bind_some _ _).symm.trans H; rw [hy148]; with_reducible exact H2_) | (have H2_ := (Option.bind_some _ _).symm.trans H; with_reducible exact H2_) | with_reducible exact H | (rw [hy148]; exact H) | exact H
                  have Ny148 := Aside0.mk hy148
                  clear hy148
                  by_cases c29 : t145.length + y148.length < 5864062014805
                  · rw [if_pos c29] at H
                    have LMc29 := Aside0.mk c29
                    clear c29
                    obtain ⟨y151, hy151⟩ : ∃ y_ : List (S22), y_ = (t145 ++ y148) := ⟨_, rfl⟩
                    replace H : ((each_f kj13 t139 t140 t141 t142 t143 t144 (wrap64 (a1 + t138)) y151).bind fun t154 => ((each_l0 kj13 a1 l2 t125 (t125.length : Int) (wrap64 (x19_1 + 1)) a0_0 a0_1 a0_2 a0_3 a0_4 a0_5).bind fun ev2 => some (t154 ++ ev2))) = some ev1 := by first | (rw [hy151]; with_reducible exact H) | (have H2_ := (Option.bind_some _ _).symm.trans H; rw [hy151]; with_reducible exact H2_) | (have H2_ := (Option.bind_some _ _).symm.trans H; with_reducible exact H2_) | with_reducible exact H | (rw [hy151]; exact H) | exact H
                    have Ny151 := Aside0.mk hy151
                    clear hy151
                    replace H := Option.bind_eq_some_iff.mp H
                    obtain ⟨t154, A300, H⟩ := H
                    obtain ⟨ev2, H, Hr⟩ := Option.bind_eq_some_iff.mp H
                    have ER2 := Aside0.mk (Option.some.inj Hr)
                    clear Hr
                    have A30 := Aside0.mk A300
                    clear A300
                    have H' := Aside0.mk H
                    clear H
                    try go_wp2
                    have n0_ := Aside0.mk (Kd.R_drew HO_17.out)
                    have n1_ := Aside0.mk (blk_drew BK124.out)
                    have n2_ := Aside0.mk (blk_drew BK129.out)
                    have n3_ := Aside0.mk (blk_drew BK137.out)
                    have n4_ := Aside0.mk (bs_drew1 HB.out)
                    clear HO_17
                    clear BK124
                    clear BK129
                    clear BK137
                    clear HB
                    have HO_17 := n0_
                    have BK124 := n1_
                    have BK129 := n2_
                    have BK137 := n3_
                    have HB := n4_
                    clear n0_ n1_ n2_ n3_ n4_
                    refine start_ (n := 13) (S := fun w' => w'.cell? ⟨gb137, 0, none⟩ = some (.int .i64 t130) ∧ w'.cell? ⟨gb137, 1, none⟩ = some (.int .i64 t131) ∧ w'.cell? ⟨gb137, 2, none⟩ = some (.int .i64 t132) ∧ w'.cell? ⟨gb137, 3, none⟩ = some (.int .i64 t133) ∧ w'.cell? ⟨gb137, 4, none⟩ = some (.int .i64 t134) ∧ w'.cell? ⟨gb137, 5, none⟩ = some (.int .i64 t135) ∧ w'.cell? ⟨gb129, 0, none⟩ = some (.int .i64 ((rd_T22 t125 x19_1).f0)) ∧ w'.cell? ⟨gb129, 1, none⟩ = some (.int .i64 ((rd_T22 t125 x19_1).f1)) ∧ w'.cell? ⟨gb129, 2, none⟩ = some (.int .i64 ((rd_T22 t125 x19_1).f2))) (ds := []) #[false, false, false, false, false, false, false, false, false, false, false, false, false] (by kernel_rfl) rfl rfl ⟨(blk_cell BK137.out 0).trans rfl, (blk_cell BK137.out 1).trans rfl, (blk_cell BK137.out 2).trans rfl, (blk_cell BK137.out 3).trans rfl, (blk_cell BK137.out 4).trans rfl, (blk_cell BK137.out 5).trans rfl, (blk_cell BK129.out 0).trans rfl, (blk_cell BK129.out 1).trans rfl, (blk_cell BK129.out 2).trans rfl⟩ (fun hHeld => ?_); refine with_tabW each_tab8 each_bits8 (fun HT_ HW_ => ?_)
                    generalize wc.drew = w31 at HO_17 BK124 BK129 BK137 HB hHeld ⊢
                    refine pure_ (i := 1) (N := some 37) (v := ?_) (a' := ?_) #[false, true, false, false, false, false, false, false, false, false, false, false, false] rfl rfl (any_of HT_.out (by kernel_rfl)) (fun _ _ _ h => h) (Or.inl ⟨by rfl, ?_⟩) ?_ ?_
                    rotate_left
                    · intro w'
                      go_simp
                      with_reducible rfl
                    rotate_left
                    · simp only [Act.put, q1, q2, q3, i64_w, i32_w]
                      rfl
                    refine pure_ (i := 3) (N := some 39) (v := ?_) (a' := ?_) #[false, true, false, true, false, false, false, false, false, false, false, false, false] rfl rfl (any_of HT_.out (by kernel_rfl)) (fun _ _ _ h => h) (Or.inl ⟨by rfl, ?_⟩) ?_ ?_
                    rotate_left
                    · intro w'
                      go_simp
                      with_reducible rfl
                    rotate_left
                    · simp only [Act.put, q1, q2, q3, i64_w, i32_w]
                      rfl
                    refine pure_ (i := 4) (N := some 40) (v := ?_) (a' := ?_) #[false, true, false, true, true, false, false, false, false, false, false, false, false] rfl rfl (any_of HT_.out (by kernel_rfl)) (fun _ _ _ h => h) (Or.inl ⟨by rfl, ?_⟩) ?_ ?_
                    rotate_left
                    · intro w'
                      go_simp
                      with_reducible rfl
                    rotate_left
                    · simp only [Act.put, q1, q2, q3, i64_w, i32_w]
                      rfl
                    refine pure_ (i := 5) (N := some 41) (v := ?_) (a' := ?_) #[false, true, false, true, true, true, false, false, false, false, false, false, false] rfl rfl (any_of HT_.out (by kernel_rfl)) (fun _ _ _ h => h) (Or.inl ⟨by rfl, ?_⟩) ?_ ?_
                    rotate_left
                    · intro w'
                      go_simp
                      with_reducible rfl
                    rotate_left
                    · simp only [Act.put, q1, q2, q3, i64_w, i32_w]
                      rfl
                    refine pure_ (i := 6) (N := some 42) (v := ?_) (a' := ?_) #[false, true, false, true, true, true, true, false, false, false, false, false, false] rfl rfl (any_of HT_.out (by kernel_rfl)) (fun _ _ _ h => h) (Or.inl ⟨by rfl, ?_⟩) ?_ ?_
                    rotate_left
                    · intro w'
                      go_simp
                      with_reducible rfl
                    rotate_left
                    · simp only [Act.put, q1, q2, q3, i64_w, i32_w]
                      rfl
                    refine pure_ (i := 11) (N := some 47) (v := ?_) (a' := ?_) #[false, true, false, true, true, true, true, false, false, false, false, true, false] rfl rfl (any_of HT_.out (by kernel_rfl)) (fun _ _ _ h => h) (Or.inl ⟨by rfl, ?_⟩) ?_ ?_
                    rotate_left
                    · intro w'
                      go_simp
                      with_reducible rfl
                    rotate_left
                    · simp only [Act.put, q1, q2, q3, i64_w, i32_w]
                      rfl
                    refine take_ (i := 0) (N := some 36) (v := ?_) (a' := ?_) #[true, true, false, true, true, true, true, false, false, false, false, true, false] rfl rfl (take_ofW HT_.out HW_.out (by kernel_rfl)) (fun _ _ _ h => h) (Or.inl ⟨by rfl, ?_⟩) hHeld ?_ ?_
                    rotate_left
                    · rintro w' ⟨s0, s1, s2, s3, s4, s5, s6, s7, s8⟩
                      go_simp
                      with_reducible rfl
                    rotate_left
                    · simp only [Act.put, q1, q2, q3, i64_w, i32_w]
                      rfl
                    refine take_ (i := 8) (N := some 44) (v := ?_) (a' := ?_) #[true, true, false, true, true, true, true, false, true, false, false, true, false] rfl rfl (take_ofW HT_.out HW_.out (by kernel_rfl)) (fun _ _ _ h => h) (Or.inl ⟨by rfl, ?_⟩) hHeld ?_ ?_
                    rotate_left
                    · rintro w' ⟨s0, s1, s2, s3, s4, s5, s6, s7, s8⟩
                      go_simp
                      with_reducible rfl
                    rotate_left
                    · simp only [Act.put, q1, q2, q3, i64_w, i32_w]
                      rfl
                    refine join_ (σ := Value × Value) 2 #[true, true, true, true, true, true, true, true, true, true, false, true, false] (fun s_ => [(38, .agg #[.int .i64 t139, .int .i64 t140, .int .i64 t141, .int .i64 t142, .int .i64 t143, .int .i64 t144]), (43, s_.1), (45, s_.2)]) (fun s_ w' => (w'.cell? ⟨gb137, 0, none⟩ = some (.int .i64 t130) ∧ w'.cell? ⟨gb137, 1, none⟩ = some (.int .i64 t131) ∧ w'.cell? ⟨gb137, 2, none⟩ = some (.int .i64 t132) ∧ w'.cell? ⟨gb137, 3, none⟩ = some (.int .i64 t133) ∧ w'.cell? ⟨gb137, 4, none⟩ = some (.int .i64 t134) ∧ w'.cell? ⟨gb137, 5, none⟩ = some (.int .i64 t135) ∧ w'.cell? ⟨gb129, 0, none⟩ = some (.int .i64 ((rd_T22 t125 x19_1).f0)) ∧ w'.cell? ⟨gb129, 1, none⟩ = some (.int .i64 ((rd_T22 t125 x19_1).f1)) ∧ w'.cell? ⟨gb129, 2, none⟩ = some (.int .i64 ((rd_T22 t125 x19_1).f2))) ∧ (Kd.R k22 22 w' N1 (fun k_ => some k_ ≠ (s_.2 : Value).ownBlock ∧ some k_ ≠ (.slice (some ad128) t125.length co8 : Value).ownBlock ∧ k_ ≠ gb129) s_.1 t145) ∧ (Kd.R k22 22 w' N1 (fun k_ => some k_ ≠ (s_.1 : Value).ownBlock ∧ some k_ ≠ (.slice (some ad128) t125.length co8 : Value).ownBlock ∧ k_ ≠ gb129) s_.2 y148) ∧ (Kd.R k22 22 w' w.heap.size (fun k_ => some k_ ≠ (s_.1 : Value).ownBlock ∧ some k_ ≠ (s_.2 : Value).ownBlock ∧ k_ ≠ gb129) (.slice (some ad128) t125.length co8) t125) ∧ (w'.heap[gb124]? = some (.cells #[.int .i64 a0_0, .int .i64 a0_1, .int .i64 a0_2, .int .i64 a0_3, .int .i64 a0_4, .int .i64 a0_5] 28 (0, 0))) ∧ (w'.heap[gb129]? = some (.cells #[.int .i64 ((rd_T22 t125 x19_1).f0), .int .i64 ((rd_T22 t125 x19_1).f1), .int .i64 ((rd_T22 t125 x19_1).f2)] 22 (0, 0))) ∧ (w'.heap[gb137]? = some (.cells #[.int .i64 t130, .int .i64 t131, .int .i64 t132, .int .i64 t133, .int .i64 t134, .int .i64 t135] 28 (0, 0))) ∧ (BI base0 gO w N1 (J es1) w')) ?_ ?_
                    rotate_left
                    · intro hCont
                      refine two_ (i := 2) (j := 9) (Ni := some 38) (Nj := some 45) #[true, true, true, true, true, true, true, false, true, false, false, true, false] #[true, true, false, true, true, true, true, false, true, true, false, true, false] rfl rfl rfl rfl (two_of HT_.out (by kernel_rfl)) (by decide) (by decide) (fun K hK => ?_) (fun K hK => ?_)
                      · skip
                        refine goes_ Try.func47 (by kernel_rfl) rfl #[.agg #[.int .i64 t130, .int .i64 t131, .int .i64 t132, .int .i64 t133, .int .i64 t134, .int .i64 t135], .int .i64 t138] (by rfl) rfl rfl (by (try simp only [List.map_toArray, List.map_cons, List.map_nil]); first | done | rfl | (simp only [List.length_drop, List.length_take]; rfl)) ?_
                        with_reducible refine (impl_Ropes_burn.calls kj13 t130 t131 t132 t133 t134 t135 t138 t139 t140 t141 t142 t143 t144 _ A27.out).mono ?_
                        rintro e w32 ⟨rfl, hb⟩
                        refine ⟨_, rfl, ?_⟩
                        have n0_ := Aside0.mk (Kd.R_below (by (with_reducible repeat (first | apply Kd.R_alloc | apply Kd.R_drewN | apply Kd.R_drew)); exact HO_17.out) hb)
                        have n1_ := Aside0.mk (blk_below (g := gb124) (o := .cells #[.int .i64 a0_0, .int .i64 a0_1, .int .i64 a0_2, .int .i64 a0_3, .int .i64 a0_4, .int .i64 a0_5] 28 (0, 0)) (by (with_reducible repeat (first | refine blk_drewN ?_ _ | refine blk_drew ?_ | refine blk_alloc ?_ _)); exact BK124.out) hb)
                        have n2_ := Aside0.mk (blk_below (g := gb129) (o := .cells #[.int .i64 ((rd_T22 t125 x19_1).f0), .int .i64 ((rd_T22 t125 x19_1).f1), .int .i64 ((rd_T22 t125 x19_1).f2)] 22 (0, 0)) (by (with_reducible repeat (first | refine blk_drewN ?_ _ | refine blk_drew ?_ | refine blk_alloc ?_ _)); exact BK129.out) hb)
                        have n3_ := Aside0.mk (blk_below (g := gb137) (o := .cells #[.int .i64 t130, .int .i64 t131, .int .i64 t132, .int .i64 t133, .int .i64 t134, .int .i64 t135] 28 (0, 0)) (by (with_reducible repeat (first | refine blk_drewN ?_ _ | refine blk_drew ?_ | refine blk_alloc ?_ _)); exact BK137.out) hb)
                        have n4_ := Aside0.mk (bs_step (by repeat (first | (with_reducible first | exact HB.out | apply bs_alloc | apply bs_drewN | apply bs_drew1 | refine bs_set (base0 := base0) (gO := gO) (w := w) (I := J es1) ?_ GE129.out | refine bs_set (base0 := base0) (gO := gO) (w := w) (I := J es1) ?_ GE137.out) | exact HB.out)) hb)
                        clear HO_17
                        clear BK124
                        clear BK129
                        clear BK137
                        clear HB
                        have HO_17 := n0_
                        have BK124 := n1_
                        have BK129 := n2_
                        have BK137 := n3_
                        have HB := n4_
                        clear n0_ n1_ n2_ n3_ n4_
                        (try clear hb)
                        (try clear hb2)
                        (try clear hk)
                        (try clear hi)
                        refine hK.out _ _ ⟨(blk_cell BK137.out 0).trans rfl, (blk_cell BK137.out 1).trans rfl, (blk_cell BK137.out 2).trans rfl, (blk_cell BK137.out 3).trans rfl, (blk_cell BK137.out 4).trans rfl, (blk_cell BK137.out 5).trans rfl, (blk_cell BK129.out 0).trans rfl, (blk_cell BK129.out 1).trans rfl, (blk_cell BK129.out 2).trans rfl⟩ (fun hHeld => ?_)
                        clear hK K
                        refine norm_ (a' := ?_) ?_ ?_
                        rotate_left
                        · show Act.put _ (some 38) _ = _
                          simp only [Act.put, q1, q2, q3, i64_w, i32_w]
                          rfl
                        refine two_ (i := 7) (j := 9) (Ni := some 43) (Nj := some 45) #[true, true, true, true, true, true, true, true, true, false, false, true, false] #[true, true, true, true, true, true, true, false, true, true, false, true, false] rfl rfl rfl rfl (two_of HT_.out (by kernel_rfl)) (by decide) (by decide) (fun K hK => ?_) (fun K hK => ?_)
                        · skip
                          refine goes_ Try.func48 (by kernel_rfl) rfl #[.slice A2 l2.length c2] (by rfl) rfl rfl (by (try simp only [List.map_toArray, List.map_cons, List.map_nil]); first | done | rfl | (simp only [List.length_drop, List.length_take]; rfl)) ?_
                          with_reducible refine (slices_Clone_3_int_3_int.calls _ _ l2 t145 _ ?side1 ?side2 A28.out).mono ?_
                          (case side1 => repeat (first | exact (Kd.R_reads' (R_bi HO2.out HB.out (Nat.lt_succ_self _))).2.2 | (with_reducible refine Kd.C_alloc ?_ _) | (with_reducible refine Kd.C_drewN ?_ _) | (with_reducible refine Kd.C_drew ?_)))
                          (case side2 => exact HC2.out)
                          rintro e w33 ⟨v146, rfl, ho0, hb⟩
                          refine ⟨_, rfl, ?_⟩
                          have n0_ := Aside0.mk (Kd.R_elder' (by (with_reducible repeat (first | apply Kd.R_alloc | apply Kd.R_drewN | apply Kd.R_drew)); exact HO_17.out) (Kd.R_base ho0) hb)
                          have n1_ := Aside0.mk (Kd.R_lower (Kd.R_newB (Kd.R_new' ho0 (Kd.R_lt (by (with_reducible repeat (first | apply Kd.R_alloc | apply Kd.R_drewN | apply Kd.R_drew)); exact HO_17.out))) (g := gb129) (o := .cells #[.int .i64 ((rd_T22 t125 x19_1).f0), .int .i64 ((rd_T22 t125 x19_1).f1), .int .i64 ((rd_T22 t125 x19_1).f2)] 22 (0, 0)) (by (with_reducible repeat (first | refine blk_drewN ?_ _ | refine blk_drew ?_ | refine blk_alloc ?_ _)); exact BK129.out)) (bs_size (by repeat (first | (with_reducible first | exact HB.out | apply bs_alloc | apply bs_drewN | apply bs_drew1 | refine bs_set (base0 := base0) (gO := gO) (w := w) (I := J es1) ?_ GE129.out | refine bs_set (base0 := base0) (gO := gO) (w := w) (I := J es1) ?_ GE137.out) | exact HB.out))))
                          have n2_ := Aside0.mk (blk_below (g := gb124) (o := .cells #[.int .i64 a0_0, .int .i64 a0_1, .int .i64 a0_2, .int .i64 a0_3, .int .i64 a0_4, .int .i64 a0_5] 28 (0, 0)) (by (with_reducible repeat (first | refine blk_drewN ?_ _ | refine blk_drew ?_ | refine blk_alloc ?_ _)); exact BK124.out) hb)
                          have n3_ := Aside0.mk (blk_below (g := gb129) (o := .cells #[.int .i64 ((rd_T22 t125 x19_1).f0), .int .i64 ((rd_T22 t125 x19_1).f1), .int .i64 ((rd_T22 t125 x19_1).f2)] 22 (0, 0)) (by (with_reducible repeat (first | refine blk_drewN ?_ _ | refine blk_drew ?_ | refine blk_alloc ?_ _)); exact BK129.out) hb)
                          have n4_ := Aside0.mk (blk_below (g := gb137) (o := .cells #[.int .i64 t130, .int .i64 t131, .int .i64 t132, .int .i64 t133, .int .i64 t134, .int .i64 t135] 28 (0, 0)) (by (with_reducible repeat (first | refine blk_drewN ?_ _ | refine blk_drew ?_ | refine blk_alloc ?_ _)); exact BK137.out) hb)
                          have n5_ := Aside0.mk (bs_step (by repeat (first | (with_reducible first | exact HB.out | apply bs_alloc | apply bs_drewN | apply bs_drew1 | refine bs_set (base0 := base0) (gO := gO) (w := w) (I := J es1) ?_ GE129.out | refine bs_set (base0 := base0) (gO := gO) (w := w) (I := J es1) ?_ GE137.out) | exact HB.out)) hb)
                          clear HO_17
                          clear BK124
                          clear BK129
                          clear BK137
                          clear HB
                          have HO_17 := n0_
                          have HO147 := n1_
                          have BK124 := n2_
                          have BK129 := n3_
                          have BK137 := n4_
                          have HB := n5_
                          clear n0_ n1_ n2_ n3_ n4_ n5_
                          (try clear hb)
                          (try clear hb2)
                          (try clear hk)
                          (try clear hi)
                          (try clear ho0)
                          refine hK.out _ _ ⟨(blk_cell BK137.out 0).trans rfl, (blk_cell BK137.out 1).trans rfl, (blk_cell BK137.out 2).trans rfl, (blk_cell BK137.out 3).trans rfl, (blk_cell BK137.out 4).trans rfl, (blk_cell BK137.out 5).trans rfl, (blk_cell BK129.out 0).trans rfl, (blk_cell BK129.out 1).trans rfl, (blk_cell BK129.out 2).trans rfl⟩ (fun hHeld => ?_)
                          clear hK K
                          refine norm_ (a' := ?_) ?_ ?_
                          rotate_left
                          · show Act.put _ (some 43) _ = _
                            simp only [Act.put, q1, q2, q3, i64_w, i32_w]
                            rfl
                          refine one_ (i := 9) (N := some 45) #[true, true, true, true, true, true, true, true, true, true, false, true, false] rfl rfl (one_of HT_.out (by kernel_rfl)) (by decide) (fun K hK => ?_)
                          refine Kd.R_lit_step k22 _ 22 ?hg (N := 45) ?hd (xs := ([(⟨((rd_T22 t125 x19_1).f0), ((rd_T22 t125 x19_1).f1), ((rd_T22 t125 x19_1).f2)⟩ : S22)] : List (S22))) (inner := [.int .i64 ((rd_T22 t125 x19_1).f0), .int .i64 ((rd_T22 t125 x19_1).f1), .int .i64 ((rd_T22 t125 x19_1).f2)]) (ok := fun _ => True) (okp := fun _ => True) ?hr ?hp (fun _ hk => hk) trivial (Below.refl _ _) (Nat.le_refl _) (by simp) ?_; (case hd => rfl); (case hg => rfl); (case hr => first | (go_simp; done) | (go_simp; rfl)); (case hp => exact (Reps.c3 (show Kd.M k22 _ _ _ (⟨((rd_T22 t125 x19_1).f0), ((rd_T22 t125 x19_1).f1), ((rd_T22 t125 x19_1).f2)⟩ : S22) [.int .i64 ((rd_T22 t125 x19_1).f0), .int .i64 ((rd_T22 t125 x19_1).f1), .int .i64 ((rd_T22 t125 x19_1).f2)] from (k22_mkM _ _ _ (⟨((rd_T22 t125 x19_1).f0), ((rd_T22 t125 x19_1).f1), ((rd_T22 t125 x19_1).f2)⟩ : S22) )) (Reps.none _ _)))
                          intro v149 w34 ho35 hb hg_ hnew_
                          clear hg_ hnew_
                          (first | rw [← Ny148.out] at ho35 | (simp only [Int.reduceToNat] at ho35; rw [← Ny148.out] at ho35))
                          have n0_ := Aside0.mk (Kd.R_elder' (by (with_reducible repeat (first | apply Kd.R_alloc | apply Kd.R_drewN | apply Kd.R_drew)); exact HO_17.out) (Kd.R_base ho35) hb)
                          have n1_ := Aside0.mk (Kd.R_elder' (by (with_reducible repeat (first | apply Kd.R_alloc | apply Kd.R_drewN | apply Kd.R_drew)); exact HO147.out) (Kd.R_base ho35) hb)
                          have n2_ := Aside0.mk (Kd.R_lower (Kd.R_newB (Kd.R_new' (Kd.R_new' ho35 (Kd.R_lt (by (with_reducible repeat (first | apply Kd.R_alloc | apply Kd.R_drewN | apply Kd.R_drew)); exact HO_17.out))) (Kd.R_lt (by (with_reducible repeat (first | apply Kd.R_alloc | apply Kd.R_drewN | apply Kd.R_drew)); exact HO147.out))) (g := gb129) (o := .cells #[.int .i64 ((rd_T22 t125 x19_1).f0), .int .i64 ((rd_T22 t125 x19_1).f1), .int .i64 ((rd_T22 t125 x19_1).f2)] 22 (0, 0)) (by (with_reducible repeat (first | refine blk_drewN ?_ _ | refine blk_drew ?_ | refine blk_alloc ?_ _)); exact BK129.out)) (bs_size (by repeat (first | (with_reducible first | exact HB.out | apply bs_alloc | apply bs_drewN | apply bs_drew1 | refine bs_set (base0 := base0) (gO := gO) (w := w) (I := J es1) ?_ GE129.out | refine bs_set (base0 := base0) (gO := gO) (w := w) (I := J es1) ?_ GE137.out) | exact HB.out))))
                          have n3_ := Aside0.mk (blk_below (g := gb124) (o := .cells #[.int .i64 a0_0, .int .i64 a0_1, .int .i64 a0_2, .int .i64 a0_3, .int .i64 a0_4, .int .i64 a0_5] 28 (0, 0)) (by (with_reducible repeat (first | refine blk_drewN ?_ _ | refine blk_drew ?_ | refine blk_alloc ?_ _)); exact BK124.out) hb)
                          have n4_ := Aside0.mk (blk_below (g := gb129) (o := .cells #[.int .i64 ((rd_T22 t125 x19_1).f0), .int .i64 ((rd_T22 t125 x19_1).f1), .int .i64 ((rd_T22 t125 x19_1).f2)] 22 (0, 0)) (by (with_reducible repeat (first | refine blk_drewN ?_ _ | refine blk_drew ?_ | refine blk_alloc ?_ _)); exact BK129.out) hb)
                          have n5_ := Aside0.mk (blk_below (g := gb137) (o := .cells #[.int .i64 t130, .int .i64 t131, .int .i64 t132, .int .i64 t133, .int .i64 t134, .int .i64 t135] 28 (0, 0)) (by (with_reducible repeat (first | refine blk_drewN ?_ _ | refine blk_drew ?_ | refine blk_alloc ?_ _)); exact BK137.out) hb)
                          have n6_ := Aside0.mk (bs_step (by repeat (first | (with_reducible first | exact HB.out | apply bs_alloc | apply bs_drewN | apply bs_drew1 | refine bs_set (base0 := base0) (gO := gO) (w := w) (I := J es1) ?_ GE129.out | refine bs_set (base0 := base0) (gO := gO) (w := w) (I := J es1) ?_ GE137.out) | exact HB.out)) hb)
                          clear HO_17
                          clear HO147
                          clear BK124
                          clear BK129
                          clear BK137
                          clear HB
                          have HO_17 := n0_
                          have HO147 := n1_
                          have HO150 := n2_
                          have BK124 := n3_
                          have BK129 := n4_
                          have BK137 := n5_
                          have HB := n6_
                          clear n0_ n1_ n2_ n3_ n4_ n5_ n6_
                          clear hb ho35
                          refine hK.out _ _ ⟨(blk_cell BK137.out 0).trans rfl, (blk_cell BK137.out 1).trans rfl, (blk_cell BK137.out 2).trans rfl, (blk_cell BK137.out 3).trans rfl, (blk_cell BK137.out 4).trans rfl, (blk_cell BK137.out 5).trans rfl, (blk_cell BK129.out 0).trans rfl, (blk_cell BK129.out 1).trans rfl, (blk_cell BK129.out 2).trans rfl⟩ (fun hHeld => ?_)
                          clear hK K
                          refine norm_ (a' := ?_) ?_ ?_
                          rotate_left
                          · show Act.put _ (some 45) _ = _
                            simp only [Act.put, q1, q2, q3, i64_w, i32_w]
                            rfl
                          exact norm_ (by simp only [putAll, Act.put, q1, q2, q3]) (hCont (v146, v149) _ ⟨hHeld, (by (with_reducible repeat (first | apply Kd.R_alloc | apply Kd.R_drewN | apply Kd.R_drew)); exact Kd.R_mono HO147.out (fun _ hk => ⟨hk.2, ⟨hk.1.1.2, hk.1.2⟩⟩)), (by (with_reducible repeat (first | apply Kd.R_alloc | apply Kd.R_drewN | apply Kd.R_drew)); exact Kd.R_mono HO150.out (fun _ hk => ⟨hk.1.2, ⟨hk.1.1.2, hk.2⟩⟩)), (by (with_reducible repeat (first | apply Kd.R_alloc | apply Kd.R_drewN | apply Kd.R_drew)); exact Kd.R_mono HO_17.out (fun _ hk => ⟨hk.1.2, ⟨hk.2, hk.1.1⟩⟩)), (by (with_reducible repeat (first | refine blk_drewN ?_ _ | refine blk_drew ?_ | refine blk_alloc ?_ _)); exact BK124.out), (by (with_reducible repeat (first | refine blk_drewN ?_ _ | refine blk_drew ?_ | refine blk_alloc ?_ _)); exact BK129.out), (by (with_reducible repeat (first | refine blk_drewN ?_ _ | refine blk_drew ?_ | refine blk_alloc ?_ _)); exact BK137.out), (by repeat (first | (with_reducible first | exact HB.out | apply bs_alloc | apply bs_drewN | apply bs_drew1 | refine bs_set (base0 := base0) (gO := gO) (w := w) (I := J es1) ?_ GE129.out | refine bs_set (base0 := base0) (gO := gO) (w := w) (I := J es1) ?_ GE137.out) | exact HB.out))⟩)
                        · skip
                          refine Kd.R_lit_step k22 _ 22 ?hg (N := 45) ?hd (xs := ([(⟨((rd_T22 t125 x19_1).f0), ((rd_T22 t125 x19_1).f1), ((rd_T22 t125 x19_1).f2)⟩ : S22)] : List (S22))) (inner := [.int .i64 ((rd_T22 t125 x19_1).f0), .int .i64 ((rd_T22 t125 x19_1).f1), .int .i64 ((rd_T22 t125 x19_1).f2)]) (ok := fun _ => True) (okp := fun _ => True) ?hr ?hp (fun _ hk => hk) trivial (Below.refl _ _) (Nat.le_refl _) (by simp) ?_; (case hd => rfl); (case hg => rfl); (case hr => first | (go_simp; done) | (go_simp; rfl)); (case hp => exact (Reps.c3 (show Kd.M k22 _ _ _ (⟨((rd_T22 t125 x19_1).f0), ((rd_T22 t125 x19_1).f1), ((rd_T22 t125 x19_1).f2)⟩ : S22) [.int .i64 ((rd_T22 t125 x19_1).f0), .int .i64 ((rd_T22 t125 x19_1).f1), .int .i64 ((rd_T22 t125 x19_1).f2)] from (k22_mkM _ _ _ (⟨((rd_T22 t125 x19_1).f0), ((rd_T22 t125 x19_1).f1), ((rd_T22 t125 x19_1).f2)⟩ : S22) )) (Reps.none _ _)))
                          intro v149 w33 ho34 hb hg_ hnew_
                          clear hg_ hnew_
                          (first | rw [← Ny148.out] at ho34 | (simp only [Int.reduceToNat] at ho34; rw [← Ny148.out] at ho34))
                          have n0_ := Aside0.mk (Kd.R_elder' (by (with_reducible repeat (first | apply Kd.R_alloc | apply Kd.R_drewN | apply Kd.R_drew)); exact HO_17.out) (Kd.R_base ho34) hb)
                          have n1_ := Aside0.mk (Kd.R_lower (Kd.R_newB (Kd.R_new' ho34 (Kd.R_lt (by (with_reducible repeat (first | apply Kd.R_alloc | apply Kd.R_drewN | apply Kd.R_drew)); exact HO_17.out))) (g := gb129) (o := .cells #[.int .i64 ((rd_T22 t125 x19_1).f0), .int .i64 ((rd_T22 t125 x19_1).f1), .int .i64 ((rd_T22 t125 x19_1).f2)] 22 (0, 0)) (by (with_reducible repeat (first | refine blk_drewN ?_ _ | refine blk_drew ?_ | refine blk_alloc ?_ _)); exact BK129.out)) (bs_size (by repeat (first | (with_reducible first | exact HB.out | apply bs_alloc | apply bs_drewN | apply bs_drew1 | refine bs_set (base0 := base0) (gO := gO) (w := w) (I := J es1) ?_ GE129.out | refine bs_set (base0 := base0) (gO := gO) (w := w) (I := J es1) ?_ GE137.out) | exact HB.out))))
                          have n2_ := Aside0.mk (blk_below (g := gb124) (o := .cells #[.int .i64 a0_0, .int .i64 a0_1, .int .i64 a0_2, .int .i64 a0_3, .int .i64 a0_4, .int .i64 a0_5] 28 (0, 0)) (by (with_reducible repeat (first | refine blk_drewN ?_ _ | refine blk_drew ?_ | refine blk_alloc ?_ _)); exact BK124.out) hb)
                          have n3_ := Aside0.mk (blk_below (g := gb129) (o := .cells #[.int .i64 ((rd_T22 t125 x19_1).f0), .int .i64 ((rd_T22 t125 x19_1).f1), .int .i64 ((rd_T22 t125 x19_1).f2)] 22 (0, 0)) (by (with_reducible repeat (first | refine blk_drewN ?_ _ | refine blk_drew ?_ | refine blk_alloc ?_ _)); exact BK129.out) hb)
                          have n4_ := Aside0.mk (blk_below (g := gb137) (o := .cells #[.int .i64 t130, .int .i64 t131, .int .i64 t132, .int .i64 t133, .int .i64 t134, .int .i64 t135] 28 (0, 0)) (by (with_reducible repeat (first | refine blk_drewN ?_ _ | refine blk_drew ?_ | refine blk_alloc ?_ _)); exact BK137.out) hb)
                          have n5_ := Aside0.mk (bs_step (by repeat (first | (with_reducible first | exact HB.out | apply bs_alloc | apply bs_drewN | apply bs_drew1 | refine bs_set (base0 := base0) (gO := gO) (w := w) (I := J es1) ?_ GE129.out | refine bs_set (base0 := base0) (gO := gO) (w := w) (I := J es1) ?_ GE137.out) | exact HB.out)) hb)
                          clear HO_17
                          clear BK124
                          clear BK129
                          clear BK137
                          clear HB
                          have HO_17 := n0_
                          have HO150 := n1_
                          have BK124 := n2_
                          have BK129 := n3_
                          have BK137 := n4_
                          have HB := n5_
                          clear n0_ n1_ n2_ n3_ n4_ n5_
                          clear hb ho34
                          refine hK.out _ _ ⟨(blk_cell BK137.out 0).trans rfl, (blk_cell BK137.out 1).trans rfl, (blk_cell BK137.out 2).trans rfl, (blk_cell BK137.out 3).trans rfl, (blk_cell BK137.out 4).trans rfl, (blk_cell BK137.out 5).trans rfl, (blk_cell BK129.out 0).trans rfl, (blk_cell BK129.out 1).trans rfl, (blk_cell BK129.out 2).trans rfl⟩ (fun hHeld => ?_)
                          clear hK K
                          refine norm_ (a' := ?_) ?_ ?_
                          rotate_left
                          · show Act.put _ (some 45) _ = _
                            simp only [Act.put, q1, q2, q3, i64_w, i32_w]
                            rfl
                          refine one_ (i := 7) (N := some 43) #[true, true, true, true, true, true, true, true, true, true, false, true, false] rfl rfl (one_of HT_.out (by kernel_rfl)) (by decide) (fun K hK => ?_)
                          refine goes_ Try.func48 (by kernel_rfl) rfl #[.slice A2 l2.length c2] (by rfl) rfl rfl (by (try simp only [List.map_toArray, List.map_cons, List.map_nil]); first | done | rfl | (simp only [List.length_drop, List.length_take]; rfl)) ?_
                          with_reducible refine (slices_Clone_3_int_3_int.calls _ _ l2 t145 _ ?side1 ?side2 A28.out).mono ?_
                          (case side1 => repeat (first | exact (Kd.R_reads' (R_bi HO2.out HB.out (Nat.lt_succ_self _))).2.2 | (with_reducible refine Kd.C_alloc ?_ _) | (with_reducible refine Kd.C_drewN ?_ _) | (with_reducible refine Kd.C_drew ?_)))
                          (case side2 => exact HC2.out)
                          rintro e w35 ⟨v146, rfl, ho0, hb⟩
                          refine ⟨_, rfl, ?_⟩
                          have n0_ := Aside0.mk (Kd.R_elder' (by (with_reducible repeat (first | apply Kd.R_alloc | apply Kd.R_drewN | apply Kd.R_drew)); exact HO_17.out) (Kd.R_base ho0) hb)
                          have n1_ := Aside0.mk (Kd.R_elder' (by (with_reducible repeat (first | apply Kd.R_alloc | apply Kd.R_drewN | apply Kd.R_drew)); exact HO150.out) (Kd.R_base ho0) hb)
                          have n2_ := Aside0.mk (Kd.R_lower (Kd.R_newB (Kd.R_new' (Kd.R_new' ho0 (Kd.R_lt (by (with_reducible repeat (first | apply Kd.R_alloc | apply Kd.R_drewN | apply Kd.R_drew)); exact HO_17.out))) (Kd.R_lt (by (with_reducible repeat (first | apply Kd.R_alloc | apply Kd.R_drewN | apply Kd.R_drew)); exact HO150.out))) (g := gb129) (o := .cells #[.int .i64 ((rd_T22 t125 x19_1).f0), .int .i64 ((rd_T22 t125 x19_1).f1), .int .i64 ((rd_T22 t125 x19_1).f2)] 22 (0, 0)) (by (with_reducible repeat (first | refine blk_drewN ?_ _ | refine blk_drew ?_ | refine blk_alloc ?_ _)); exact BK129.out)) (bs_size (by repeat (first | (with_reducible first | exact HB.out | apply bs_alloc | apply bs_drewN | apply bs_drew1 | refine bs_set (base0 := base0) (gO := gO) (w := w) (I := J es1) ?_ GE129.out | refine bs_set (base0 := base0) (gO := gO) (w := w) (I := J es1) ?_ GE137.out) | exact HB.out))))
                          have n3_ := Aside0.mk (blk_below (g := gb124) (o := .cells #[.int .i64 a0_0, .int .i64 a0_1, .int .i64 a0_2, .int .i64 a0_3, .int .i64 a0_4, .int .i64 a0_5] 28 (0, 0)) (by (with_reducible repeat (first | refine blk_drewN ?_ _ | refine blk_drew ?_ | refine blk_alloc ?_ _)); exact BK124.out) hb)
                          have n4_ := Aside0.mk (blk_below (g := gb129) (o := .cells #[.int .i64 ((rd_T22 t125 x19_1).f0), .int .i64 ((rd_T22 t125 x19_1).f1), .int .i64 ((rd_T22 t125 x19_1).f2)] 22 (0, 0)) (by (with_reducible repeat (first | refine blk_drewN ?_ _ | refine blk_drew ?_ | refine blk_alloc ?_ _)); exact BK129.out) hb)
                          have n5_ := Aside0.mk (blk_below (g := gb137) (o := .cells #[.int .i64 t130, .int .i64 t131, .int .i64 t132, .int .i64 t133, .int .i64 t134, .int .i64 t135] 28 (0, 0)) (by (with_reducible repeat (first | refine blk_drewN ?_ _ | refine blk_drew ?_ | refine blk_alloc ?_ _)); exact BK137.out) hb)
                          have n6_ := Aside0.mk (bs_step (by repeat (first | (with_reducible first | exact HB.out | apply bs_alloc | apply bs_drewN | apply bs_drew1 | refine bs_set (base0 := base0) (gO := gO) (w := w) (I := J es1) ?_ GE129.out | refine bs_set (base0 := base0) (gO := gO) (w := w) (I := J es1) ?_ GE137.out) | exact HB.out)) hb)
                          clear HO_17
                          clear HO150
                          clear BK124
                          clear BK129
                          clear BK137
                          clear HB
                          have HO_17 := n0_
                          have HO150 := n1_
                          have HO147 := n2_
                          have BK124 := n3_
                          have BK129 := n4_
                          have BK137 := n5_
                          have HB := n6_
                          clear n0_ n1_ n2_ n3_ n4_ n5_ n6_
                          (try clear hb)
                          (try clear hb2)
                          (try clear hk)
                          (try clear hi)
                          (try clear ho0)
                          refine hK.out _ _ ⟨(blk_cell BK137.out 0).trans rfl, (blk_cell BK137.out 1).trans rfl, (blk_cell BK137.out 2).trans rfl, (blk_cell BK137.out 3).trans rfl, (blk_cell BK137.out 4).trans rfl, (blk_cell BK137.out 5).trans rfl, (blk_cell BK129.out 0).trans rfl, (blk_cell BK129.out 1).trans rfl, (blk_cell BK129.out 2).trans rfl⟩ (fun hHeld => ?_)
                          clear hK K
                          refine norm_ (a' := ?_) ?_ ?_
                          rotate_left
                          · show Act.put _ (some 43) _ = _
                            simp only [Act.put, q1, q2, q3, i64_w, i32_w]
                            rfl
                          exact norm_ (by simp only [putAll, Act.put, q1, q2, q3]) (hCont (v146, v149) _ ⟨hHeld, (by (with_reducible repeat (first | apply Kd.R_alloc | apply Kd.R_drewN | apply Kd.R_drew)); exact Kd.R_mono HO147.out (fun _ hk => ⟨hk.1.2, ⟨hk.1.1.2, hk.2⟩⟩)), (by (with_reducible repeat (first | apply Kd.R_alloc | apply Kd.R_drewN | apply Kd.R_drew)); exact Kd.R_mono HO150.out (fun _ hk => ⟨hk.2, ⟨hk.1.1.2, hk.1.2⟩⟩)), (by (with_reducible repeat (first | apply Kd.R_alloc | apply Kd.R_drewN | apply Kd.R_drew)); exact Kd.R_mono HO_17.out (fun _ hk => ⟨hk.2, ⟨hk.1.2, hk.1.1⟩⟩)), (by (with_reducible repeat (first | refine blk_drewN ?_ _ | refine blk_drew ?_ | refine blk_alloc ?_ _)); exact BK124.out), (by (with_reducible repeat (first | refine blk_drewN ?_ _ | refine blk_drew ?_ | refine blk_alloc ?_ _)); exact BK129.out), (by (with_reducible repeat (first | refine blk_drewN ?_ _ | refine blk_drew ?_ | refine blk_alloc ?_ _)); exact BK137.out), (by repeat (first | (with_reducible first | exact HB.out | apply bs_alloc | apply bs_drewN | apply bs_drew1 | refine bs_set (base0 := base0) (gO := gO) (w := w) (I := J es1) ?_ GE129.out | refine bs_set (base0 := base0) (gO := gO) (w := w) (I := J es1) ?_ GE137.out) | exact HB.out))⟩)
                      · skip
                        refine Kd.R_lit_step k22 _ 22 ?hg (N := 45) ?hd (xs := ([(⟨((rd_T22 t125 x19_1).f0), ((rd_T22 t125 x19_1).f1), ((rd_T22 t125 x19_1).f2)⟩ : S22)] : List (S22))) (inner := [.int .i64 ((rd_T22 t125 x19_1).f0), .int .i64 ((rd_T22 t125 x19_1).f1), .int .i64 ((rd_T22 t125 x19_1).f2)]) (ok := fun _ => True) (okp := fun _ => True) ?hr ?hp (fun _ hk => hk) trivial (Below.refl _ _) (Nat.le_refl _) (by simp) ?_; (case hd => rfl); (case hg => rfl); (case hr => first | (go_simp; done) | (go_simp; rfl)); (case hp => exact (Reps.c3 (show Kd.M k22 _ _ _ (⟨((rd_T22 t125 x19_1).f0), ((rd_T22 t125 x19_1).f1), ((rd_T22 t125 x19_1).f2)⟩ : S22) [.int .i64 ((rd_T22 t125 x19_1).f0), .int .i64 ((rd_T22 t125 x19_1).f1), .int .i64 ((rd_T22 t125 x19_1).f2)] from (k22_mkM _ _ _ (⟨((rd_T22 t125 x19_1).f0), ((rd_T22 t125 x19_1).f1), ((rd_T22 t125 x19_1).f2)⟩ : S22) )) (Reps.none _ _)))
                        intro v149 w32 ho33 hb hg_ hnew_
                        clear hg_ hnew_
                        (first | rw [← Ny148.out] at ho33 | (simp only [Int.reduceToNat] at ho33; rw [← Ny148.out] at ho33))
                        have n0_ := Aside0.mk (Kd.R_elder' (by (with_reducible repeat (first | apply Kd.R_alloc | apply Kd.R_drewN | apply Kd.R_drew)); exact HO_17.out) (Kd.R_base ho33) hb)
                        have n1_ := Aside0.mk (Kd.R_lower (Kd.R_newB (Kd.R_new' ho33 (Kd.R_lt (by (with_reducible repeat (first | apply Kd.R_alloc | apply Kd.R_drewN | apply Kd.R_drew)); exact HO_17.out))) (g := gb129) (o := .cells #[.int .i64 ((rd_T22 t125 x19_1).f0), .int .i64 ((rd_T22 t125 x19_1).f1), .int .i64 ((rd_T22 t125 x19_1).f2)] 22 (0, 0)) (by (with_reducible repeat (first | refine blk_drewN ?_ _ | refine blk_drew ?_ | refine blk_alloc ?_ _)); exact BK129.out)) (bs_size (by repeat (first | (with_reducible first | exact HB.out | apply bs_alloc | apply bs_drewN | apply bs_drew1 | refine bs_set (base0 := base0) (gO := gO) (w := w) (I := J es1) ?_ GE129.out | refine bs_set (base0 := base0) (gO := gO) (w := w) (I := J es1) ?_ GE137.out) | exact HB.out))))
                        have n2_ := Aside0.mk (blk_below (g := gb124) (o := .cells #[.int .i64 a0_0, .int .i64 a0_1, .int .i64 a0_2, .int .i64 a0_3, .int .i64 a0_4, .int .i64 a0_5] 28 (0, 0)) (by (with_reducible repeat (first | refine blk_drewN ?_ _ | refine blk_drew ?_ | refine blk_alloc ?_ _)); exact BK124.out) hb)
                        have n3_ := Aside0.mk (blk_below (g := gb129) (o := .cells #[.int .i64 ((rd_T22 t125 x19_1).f0), .int .i64 ((rd_T22 t125 x19_1).f1), .int .i64 ((rd_T22 t125 x19_1).f2)] 22 (0, 0)) (by (with_reducible repeat (first | refine blk_drewN ?_ _ | refine blk_drew ?_ | refine blk_alloc ?_ _)); exact BK129.out) hb)
                        have n4_ := Aside0.mk (blk_below (g := gb137) (o := .cells #[.int .i64 t130, .int .i64 t131, .int .i64 t132, .int .i64 t133, .int .i64 t134, .int .i64 t135] 28 (0, 0)) (by (with_reducible repeat (first | refine blk_drewN ?_ _ | refine blk_drew ?_ | refine blk_alloc ?_ _)); exact BK137.out) hb)
                        have n5_ := Aside0.mk (bs_step (by repeat (first | (with_reducible first | exact HB.out | apply bs_alloc | apply bs_drewN | apply bs_drew1 | refine bs_set (base0 := base0) (gO := gO) (w := w) (I := J es1) ?_ GE129.out | refine bs_set (base0 := base0) (gO := gO) (w := w) (I := J es1) ?_ GE137.out) | exact HB.out)) hb)
                        clear HO_17
                        clear BK124
                        clear BK129
                        clear BK137
                        clear HB
                        have HO_17 := n0_
                        have HO150 := n1_
                        have BK124 := n2_
                        have BK129 := n3_
                        have BK137 := n4_
                        have HB := n5_
                        clear n0_ n1_ n2_ n3_ n4_ n5_
                        clear hb ho33
                        refine hK.out _ _ ⟨(blk_cell BK137.out 0).trans rfl, (blk_cell BK137.out 1).trans rfl, (blk_cell BK137.out 2).trans rfl, (blk_cell BK137.out 3).trans rfl, (blk_cell BK137.out 4).trans rfl, (blk_cell BK137.out 5).trans rfl, (blk_cell BK129.out 0).trans rfl, (blk_cell BK129.out 1).trans rfl, (blk_cell BK129.out 2).trans rfl⟩ (fun hHeld => ?_)
                        clear hK K
                        refine norm_ (a' := ?_) ?_ ?_
                        rotate_left
                        · show Act.put _ (some 45) _ = _
                          simp only [Act.put, q1, q2, q3, i64_w, i32_w]
                          rfl
                        refine one_ (i := 2) (N := some 38) #[true, true, true, true, true, true, true, false, true, true, false, true, false] rfl rfl (one_of HT_.out (by kernel_rfl)) (by decide) (fun K hK => ?_)
                        refine goes_ Try.func47 (by kernel_rfl) rfl #[.agg #[.int .i64 t130, .int .i64 t131, .int .i64 t132, .int .i64 t133, .int .i64 t134, .int .i64 t135], .int .i64 t138] (by rfl) rfl rfl (by (try simp only [List.map_toArray, List.map_cons, List.map_nil]); first | done | rfl | (simp only [List.length_drop, List.length_take]; rfl)) ?_
                        with_reducible refine (impl_Ropes_burn.calls kj13 t130 t131 t132 t133 t134 t135 t138 t139 t140 t141 t142 t143 t144 _ A27.out).mono ?_
                        rintro e w34 ⟨rfl, hb⟩
                        refine ⟨_, rfl, ?_⟩
                        have n0_ := Aside0.mk (Kd.R_below (by (with_reducible repeat (first | apply Kd.R_alloc | apply Kd.R_drewN | apply Kd.R_drew)); exact HO_17.out) hb)
                        have n1_ := Aside0.mk (Kd.R_below (by (with_reducible repeat (first | apply Kd.R_alloc | apply Kd.R_drewN | apply Kd.R_drew)); exact HO150.out) hb)
                        have n2_ := Aside0.mk (blk_below (g := gb124) (o := .cells #[.int .i64 a0_0, .int .i64 a0_1, .int .i64 a0_2, .int .i64 a0_3, .int .i64 a0_4, .int .i64 a0_5] 28 (0, 0)) (by (with_reducible repeat (first | refine blk_drewN ?_ _ | refine blk_drew ?_ | refine blk_alloc ?_ _)); exact BK124.out) hb)
                        have n3_ := Aside0.mk (blk_below (g := gb129) (o := .cells #[.int .i64 ((rd_T22 t125 x19_1).f0), .int .i64 ((rd_T22 t125 x19_1).f1), .int .i64 ((rd_T22 t125 x19_1).f2)] 22 (0, 0)) (by (with_reducible repeat (first | refine blk_drewN ?_ _ | refine blk_drew ?_ | refine blk_alloc ?_ _)); exact BK129.out) hb)
                        have n4_ := Aside0.mk (blk_below (g := gb137) (o := .cells #[.int .i64 t130, .int .i64 t131, .int .i64 t132, .int .i64 t133, .int .i64 t134, .int .i64 t135] 28 (0, 0)) (by (with_reducible repeat (first | refine blk_drewN ?_ _ | refine blk_drew ?_ | refine blk_alloc ?_ _)); exact BK137.out) hb)
                        have n5_ := Aside0.mk (bs_step (by repeat (first | (with_reducible first | exact HB.out | apply bs_alloc | apply bs_drewN | apply bs_drew1 | refine bs_set (base0 := base0) (gO := gO) (w := w) (I := J es1) ?_ GE129.out | refine bs_set (base0 := base0) (gO := gO) (w := w) (I := J es1) ?_ GE137.out) | exact HB.out)) hb)
                        clear HO_17
                        clear HO150
                        clear BK124
                        clear BK129
                        clear BK137
                        clear HB
                        have HO_17 := n0_
                        have HO150 := n1_
                        have BK124 := n2_
                        have BK129 := n3_
                        have BK137 := n4_
                        have HB := n5_
                        clear n0_ n1_ n2_ n3_ n4_ n5_
                        (try clear hb)
                        (try clear hb2)
                        (try clear hk)
                        (try clear hi)
                        refine hK.out _ _ ⟨(blk_cell BK137.out 0).trans rfl, (blk_cell BK137.out 1).trans rfl, (blk_cell BK137.out 2).trans rfl, (blk_cell BK137.out 3).trans rfl, (blk_cell BK137.out 4).trans rfl, (blk_cell BK137.out 5).trans rfl, (blk_cell BK129.out 0).trans rfl, (blk_cell BK129.out 1).trans rfl, (blk_cell BK129.out 2).trans rfl⟩ (fun hHeld => ?_)
                        clear hK K
                        refine norm_ (a' := ?_) ?_ ?_
                        rotate_left
                        · show Act.put _ (some 38) _ = _
                          simp only [Act.put, q1, q2, q3, i64_w, i32_w]
                          rfl
                        refine one_ (i := 7) (N := some 43) #[true, true, true, true, true, true, true, true, true, true, false, true, false] rfl rfl (one_of HT_.out (by kernel_rfl)) (by decide) (fun K hK => ?_)
                        refine goes_ Try.func48 (by kernel_rfl) rfl #[.slice A2 l2.length c2] (by rfl) rfl rfl (by (try simp only [List.map_toArray, List.map_cons, List.map_nil]); first | done | rfl | (simp only [List.length_drop, List.length_take]; rfl)) ?_
                        with_reducible refine (slices_Clone_3_int_3_int.calls _ _ l2 t145 _ ?side1 ?side2 A28.out).mono ?_
                        (case side1 => repeat (first | exact (Kd.R_reads' (R_bi HO2.out HB.out (Nat.lt_succ_self _))).2.2 | (with_reducible refine Kd.C_alloc ?_ _) | (with_reducible refine Kd.C_drewN ?_ _) | (with_reducible refine Kd.C_drew ?_)))
                        (case side2 => exact HC2.out)
                        rintro e w35 ⟨v146, rfl, ho0, hb⟩
                        refine ⟨_, rfl, ?_⟩
                        have n0_ := Aside0.mk (Kd.R_elder' (by (with_reducible repeat (first | apply Kd.R_alloc | apply Kd.R_drewN | apply Kd.R_drew)); exact HO_17.out) (Kd.R_base ho0) hb)
                        have n1_ := Aside0.mk (Kd.R_elder' (by (with_reducible repeat (first | apply Kd.R_alloc | apply Kd.R_drewN | apply Kd.R_drew)); exact HO150.out) (Kd.R_base ho0) hb)
                        have n2_ := Aside0.mk (Kd.R_lower (Kd.R_newB (Kd.R_new' (Kd.R_new' ho0 (Kd.R_lt (by (with_reducible repeat (first | apply Kd.R_alloc | apply Kd.R_drewN | apply Kd.R_drew)); exact HO_17.out))) (Kd.R_lt (by (with_reducible repeat (first | apply Kd.R_alloc | apply Kd.R_drewN | apply Kd.R_drew)); exact HO150.out))) (g := gb129) (o := .cells #[.int .i64 ((rd_T22 t125 x19_1).f0), .int .i64 ((rd_T22 t125 x19_1).f1), .int .i64 ((rd_T22 t125 x19_1).f2)] 22 (0, 0)) (by (with_reducible repeat (first | refine blk_drewN ?_ _ | refine blk_drew ?_ | refine blk_alloc ?_ _)); exact BK129.out)) (bs_size (by repeat (first | (with_reducible first | exact HB.out | apply bs_alloc | apply bs_drewN | apply bs_drew1 | refine bs_set (base0 := base0) (gO := gO) (w := w) (I := J es1) ?_ GE129.out | refine bs_set (base0 := base0) (gO := gO) (w := w) (I := J es1) ?_ GE137.out) | exact HB.out))))
                        have n3_ := Aside0.mk (blk_below (g := gb124) (o := .cells #[.int .i64 a0_0, .int .i64 a0_1, .int .i64 a0_2, .int .i64 a0_3, .int .i64 a0_4, .int .i64 a0_5] 28 (0, 0)) (by (with_reducible repeat (first | refine blk_drewN ?_ _ | refine blk_drew ?_ | refine blk_alloc ?_ _)); exact BK124.out) hb)
                        have n4_ := Aside0.mk (blk_below (g := gb129) (o := .cells #[.int .i64 ((rd_T22 t125 x19_1).f0), .int .i64 ((rd_T22 t125 x19_1).f1), .int .i64 ((rd_T22 t125 x19_1).f2)] 22 (0, 0)) (by (with_reducible repeat (first | refine blk_drewN ?_ _ | refine blk_drew ?_ | refine blk_alloc ?_ _)); exact BK129.out) hb)
                        have n5_ := Aside0.mk (blk_below (g := gb137) (o := .cells #[.int .i64 t130, .int .i64 t131, .int .i64 t132, .int .i64 t133, .int .i64 t134, .int .i64 t135] 28 (0, 0)) (by (with_reducible repeat (first | refine blk_drewN ?_ _ | refine blk_drew ?_ | refine blk_alloc ?_ _)); exact BK137.out) hb)
                        have n6_ := Aside0.mk (bs_step (by repeat (first | (with_reducible first | exact HB.out | apply bs_alloc | apply bs_drewN | apply bs_drew1 | refine bs_set (base0 := base0) (gO := gO) (w := w) (I := J es1) ?_ GE129.out | refine bs_set (base0 := base0) (gO := gO) (w := w) (I := J es1) ?_ GE137.out) | exact HB.out)) hb)
                        clear HO_17
                        clear HO150
                        clear BK124
                        clear BK129
                        clear BK137
                        clear HB
                        have HO_17 := n0_
                        have HO150 := n1_
                        have HO147 := n2_
                        have BK124 := n3_
                        have BK129 := n4_
                        have BK137 := n5_
                        have HB := n6_
                        clear n0_ n1_ n2_ n3_ n4_ n5_ n6_
                        (try clear hb)
                        (try clear hb2)
                        (try clear hk)
                        (try clear hi)
                        (try clear ho0)
                        refine hK.out _ _ ⟨(blk_cell BK137.out 0).trans rfl, (blk_cell BK137.out 1).trans rfl, (blk_cell BK137.out 2).trans rfl, (blk_cell BK137.out 3).trans rfl, (blk_cell BK137.out 4).trans rfl, (blk_cell BK137.out 5).trans rfl, (blk_cell BK129.out 0).trans rfl, (blk_cell BK129.out 1).trans rfl, (blk_cell BK129.out 2).trans rfl⟩ (fun hHeld => ?_)
                        clear hK K
                        refine norm_ (a' := ?_) ?_ ?_
                        rotate_left
                        · show Act.put _ (some 43) _ = _
                          simp only [Act.put, q1, q2, q3, i64_w, i32_w]
                          rfl
                        exact norm_ (by simp only [putAll, Act.put, q1, q2, q3]) (hCont (v146, v149) _ ⟨hHeld, (by (with_reducible repeat (first | apply Kd.R_alloc | apply Kd.R_drewN | apply Kd.R_drew)); exact Kd.R_mono HO147.out (fun _ hk => ⟨hk.1.2, ⟨hk.1.1.2, hk.2⟩⟩)), (by (with_reducible repeat (first | apply Kd.R_alloc | apply Kd.R_drewN | apply Kd.R_drew)); exact Kd.R_mono HO150.out (fun _ hk => ⟨hk.2, ⟨hk.1.1.2, hk.1.2⟩⟩)), (by (with_reducible repeat (first | apply Kd.R_alloc | apply Kd.R_drewN | apply Kd.R_drew)); exact Kd.R_mono HO_17.out (fun _ hk => ⟨hk.2, ⟨hk.1.2, hk.1.1⟩⟩)), (by (with_reducible repeat (first | refine blk_drewN ?_ _ | refine blk_drew ?_ | refine blk_alloc ?_ _)); exact BK124.out), (by (with_reducible repeat (first | refine blk_drewN ?_ _ | refine blk_drew ?_ | refine blk_alloc ?_ _)); exact BK129.out), (by (with_reducible repeat (first | refine blk_drewN ?_ _ | refine blk_drew ?_ | refine blk_alloc ?_ _)); exact BK137.out), (by repeat (first | (with_reducible first | exact HB.out | apply bs_alloc | apply bs_drewN | apply bs_drew1 | refine bs_set (base0 := base0) (gO := gO) (w := w) (I := J es1) ?_ GE129.out | refine bs_set (base0 := base0) (gO := gO) (w := w) (I := J es1) ?_ GE137.out) | exact HB.out))⟩)
                    rintro ⟨v146, v149⟩ w36 ⟨hS_, h0_, h1_, h2_, h3_, h4_, h5_, h6_⟩
                    have n0_ : Aside0 (Kd.R k22 22 w36 N1 (fun k_ => some k_ ≠ (v149 : Value).ownBlock ∧ some k_ ≠ (.slice (some ad128) t125.length co8 : Value).ownBlock ∧ k_ ≠ gb129) v146 t145) := ⟨h0_⟩
                    have n1_ : Aside0 (Kd.R k22 22 w36 N1 (fun k_ => some k_ ≠ (v146 : Value).ownBlock ∧ some k_ ≠ (.slice (some ad128) t125.length co8 : Value).ownBlock ∧ k_ ≠ gb129) v149 y148) := ⟨h1_⟩
                    have n2_ : Aside0 (Kd.R k22 22 w36 w.heap.size (fun k_ => some k_ ≠ (v146 : Value).ownBlock ∧ some k_ ≠ (v149 : Value).ownBlock ∧ k_ ≠ gb129) (.slice (some ad128) t125.length co8) t125) := ⟨h2_⟩
                    have n3_ : Aside0 (w36.heap[gb124]? = some (.cells #[.int .i64 a0_0, .int .i64 a0_1, .int .i64 a0_2, .int .i64 a0_3, .int .i64 a0_4, .int .i64 a0_5] 28 (0, 0))) := ⟨h3_⟩
                    have n4_ : Aside0 (w36.heap[gb129]? = some (.cells #[.int .i64 ((rd_T22 t125 x19_1).f0), .int .i64 ((rd_T22 t125 x19_1).f1), .int .i64 ((rd_T22 t125 x19_1).f2)] 22 (0, 0))) := ⟨h4_⟩
                    have n5_ : Aside0 (w36.heap[gb137]? = some (.cells #[.int .i64 t130, .int .i64 t131, .int .i64 t132, .int .i64 t133, .int .i64 t134, .int .i64 t135] 28 (0, 0))) := ⟨h5_⟩
                    have n6_ : Aside0 (BI base0 gO w N1 (J es1) w36) := ⟨h6_⟩
                    clear HO_17
                    clear BK124
                    clear BK129
                    clear BK137
                    clear HB
                    clear h0_ h1_ h2_ h3_ h4_ h5_ h6_
                    have HO147 := n0_
                    have HO150 := n1_
                    have HO_17 := n2_
                    have BK124 := n3_
                    have BK129 := n4_
                    have BK137 := n5_
                    have HB := n6_
                    clear n0_ n1_ n2_ n3_ n4_ n5_ n6_
                    have hHeld : w36.cell? ⟨gb137, 0, none⟩ = some (.int .i64 t130) ∧ w36.cell? ⟨gb137, 1, none⟩ = some (.int .i64 t131) ∧ w36.cell? ⟨gb137, 2, none⟩ = some (.int .i64 t132) ∧ w36.cell? ⟨gb137, 3, none⟩ = some (.int .i64 t133) ∧ w36.cell? ⟨gb137, 4, none⟩ = some (.int .i64 t134) ∧ w36.cell? ⟨gb137, 5, none⟩ = some (.int .i64 t135) ∧ w36.cell? ⟨gb129, 0, none⟩ = some (.int .i64 ((rd_T22 t125 x19_1).f0)) ∧ w36.cell? ⟨gb129, 1, none⟩ = some (.int .i64 ((rd_T22 t125 x19_1).f1)) ∧ w36.cell? ⟨gb129, 2, none⟩ = some (.int .i64 ((rd_T22 t125 x19_1).f2)) := hS_
                    obtain ⟨Ao38, co38, eo38⟩ := Kd.R_slice HO150.out
                    (first | subst eo38 | (injection eo38 with f1_ f2_ f3_; have f4_ := f1_.symm; have f5_ := f3_.symm; clear f1_ f2_ f3_; subst f4_; subst f5_))
                    refine norm_ (a' := ?_) ?_ ?_
                    rotate_left
                    · simp only [putAll, Act.put, q1, q2, q3]
                      rfl
                    refine one_ (i := 10) (N := some 46) #[true, true, true, true, true, true, true, true, true, true, true, true, false] rfl rfl (one_of HT_.out (by kernel_rfl)) (by decide) (fun K hK => ?_)
                    refine Kd.R_append_rows_step k22 (w0 := w36) N1 (by rfl) (.tmp 43) (.tmp 45) 25 22 (.agg #[(.int .i64 0), (.int .i64 0), (.int .i64 0)]) 24 rfl Try.underlying25 info22 rfl (by decide) (by omega) v146 t145 y148 _ _ _ (fun k_ => some k_ ≠ (.slice (some ad128) t125.length co8 : Value).ownBlock ∧ some k_ ≠ (.slice Ao38 y148.length co38 : Value).ownBlock ∧ k_ ≠ gb129) (fun _ => False) rfl rfl ?aO ?aR (fun _ _ h => h) (fun _ h => h.elim) ?aF ?aB ?aS ?aL ?_
                    (case aR => repeat (first | exact (Kd.R_reads' HO150.out).2.2 | (with_reducible refine Kd.C_alloc ?_ _) | (with_reducible refine Kd.C_drewN ?_ _) | (with_reducible refine Kd.C_drew ?_)))
                    (case aB => exact Below.refl _ _)
                    (case aF => exact (fun k_ hk => ⟨Kd.fresh' (Kd.R_lt (by (with_reducible repeat (first | apply Kd.R_alloc | apply Kd.R_drewN | apply Kd.R_drew)); exact HO_17.out)) k_ hk, Kd.fresh' (Kd.R_lt (by (with_reducible repeat (first | apply Kd.R_alloc | apply Kd.R_drewN | apply Kd.R_drew)); exact HO150.out)) k_ hk, Kd.freshB (g := gb129) (o := .cells #[.int .i64 ((rd_T22 t125 x19_1).f0), .int .i64 ((rd_T22 t125 x19_1).f1), .int .i64 ((rd_T22 t125 x19_1).f2)] 22 (0, 0)) (by (with_reducible repeat (first | refine blk_drewN ?_ _ | refine blk_drew ?_ | refine blk_alloc ?_ _)); exact BK129.out) k_ hk⟩))
                    (case aO => exact (by (with_reducible repeat (first | apply Kd.R_alloc | apply Kd.R_drewN | apply Kd.R_drew)); exact Kd.R_mono HO147.out (fun _ hk => ⟨hk.2.1, ⟨hk.1, hk.2.2⟩⟩)))
                    (case aS => exact (bs_size (by repeat (first | (with_reducible first | exact HB.out | apply bs_alloc | apply bs_drewN | apply bs_drew1 | refine bs_set (base0 := base0) (gO := gO) (w := w) (I := J es1) ?_ GE129.out | refine bs_set (base0 := base0) (gO := gO) (w := w) (I := J es1) ?_ GE137.out) | exact HB.out))))
                    (case aL => have := LMc29.out; omega)
                    intro v152 w37 ho hb hg hat
                    rw [← Ny151.out] at ho
                    have n0_ := Aside0.mk (Kd.R_after (ok := (fun k_ => some k_ ≠ (.slice Ao38 y148.length co38 : Value).ownBlock ∧ k_ ≠ gb129)) (by (with_reducible repeat (first | apply Kd.R_alloc | apply Kd.R_drewN | apply Kd.R_drew)); exact Kd.R_mono HO_17.out (fun _ hk => ⟨⟨hk.2.1, hk.2.2⟩, hk.1⟩)) hg hat)
                    have n1_ := Aside0.mk (blk_grown (g := gb124) (o := .cells #[.int .i64 a0_0, .int .i64 a0_1, .int .i64 a0_2, .int .i64 a0_3, .int .i64 a0_4, .int .i64 a0_5] 28 (0, 0)) (by (with_reducible repeat (first | refine blk_drewN ?_ _ | refine blk_drew ?_ | refine blk_alloc ?_ _)); exact BK124.out) hg (Kd.R_ne HO147.out BK124.out (by decide)))
                    have n2_ := Aside0.mk (blk_grown (g := gb129) (o := .cells #[.int .i64 ((rd_T22 t125 x19_1).f0), .int .i64 ((rd_T22 t125 x19_1).f1), .int .i64 ((rd_T22 t125 x19_1).f2)] 22 (0, 0)) (by (with_reducible repeat (first | refine blk_drewN ?_ _ | refine blk_drew ?_ | refine blk_alloc ?_ _)); exact BK129.out) hg (Kd.R_away HO147.out (fun _ hk => hk.2.2)))
                    have n3_ := Aside0.mk (blk_grown (g := gb137) (o := .cells #[.int .i64 t130, .int .i64 t131, .int .i64 t132, .int .i64 t133, .int .i64 t134, .int .i64 t135] 28 (0, 0)) (by (with_reducible repeat (first | refine blk_drewN ?_ _ | refine blk_drew ?_ | refine blk_alloc ?_ _)); exact BK137.out) hg (Kd.R_ne HO147.out BK137.out (by decide)))
                    have n4_ := Aside0.mk (Kd.R_after (ok := (fun k_ => some k_ ≠ (.slice (some ad128) t125.length co8 : Value).ownBlock ∧ k_ ≠ gb129)) (by (with_reducible repeat (first | apply Kd.R_alloc | apply Kd.R_drewN | apply Kd.R_drew)); exact Kd.R_mono HO150.out (fun _ hk => ⟨⟨hk.2.1, hk.2.2⟩, hk.1⟩)) hg hat)
                    have n5_ := Aside0.mk (bs_app (by repeat (first | (with_reducible first | exact HB.out | apply bs_alloc | apply bs_drewN | apply bs_drew1 | refine bs_set (base0 := base0) (gO := gO) (w := w) (I := J es1) ?_ GE129.out | refine bs_set (base0 := base0) (gO := gO) (w := w) (I := J es1) ?_ GE137.out) | exact HB.out)) hb)
                    have n6_ := Aside0.mk (ho)
                    clear HO_17
                    clear BK124
                    clear BK129
                    clear BK137
                    clear HO150
                    clear HB
                    clear HO147
                    have HO_17 := n0_
                    have BK124 := n1_
                    have BK129 := n2_
                    have BK137 := n3_
                    have HO150 := n4_
                    have HB := n5_
                    have HO153 := n6_
                    clear n0_ n1_ n2_ n3_ n4_ n5_ n6_
                    clear ho hb hg hat
                    obtain ⟨Ao39, co39, eo39⟩ := Kd.R_slice HO153.out
                    (first | subst eo39 | (injection eo39 with f1_ f2_ f3_; have f4_ := f1_.symm; have f5_ := f3_.symm; clear f1_ f2_ f3_; subst f4_; subst f5_))
                    refine hK.out _ _ ⟨(blk_cell BK137.out 0).trans rfl, (blk_cell BK137.out 1).trans rfl, (blk_cell BK137.out 2).trans rfl, (blk_cell BK137.out 3).trans rfl, (blk_cell BK137.out 4).trans rfl, (blk_cell BK137.out 5).trans rfl, (blk_cell BK129.out 0).trans rfl, (blk_cell BK129.out 1).trans rfl, (blk_cell BK129.out 2).trans rfl⟩ (fun hHeld => ?_)
                    clear hK K
                    refine norm_ (a' := ?_) ?_ ?_
                    rotate_left
                    · show Act.put _ (some 46) _ = _
                      simp only [Act.put, q1, q2, q3, i64_w, i32_w]
                      rfl
                    refine one_ (i := 12) (N := some 48) #[true, true, true, true, true, true, true, true, true, true, true, true, true] rfl rfl (one_of HT_.out (by kernel_rfl)) (by decide) (fun K hK => ?_)
                    refine goes_ Try.func27 (by kernel_rfl) rfl #[.agg #[.int .i64 t139, .int .i64 t140, .int .i64 t141, .int .i64 t142, .int .i64 t143, .int .i64 t144], .int .i64 (wrap64 (a1 + t138)), .slice Ao39 y151.length co39, (.func (.func 35) #[] #[.pointer (some ⟨gO, 0, none⟩)])] (by rfl) rfl rfl (by (try simp only [List.map_toArray, List.map_cons, List.map_nil]); first | done | rfl | (simp only [List.length_drop, List.length_take]; rfl)) ?_
                    with_reducible refine (ih kj13 (by have := HK1.out; have := HJ13.out; omega) t139 t140 t141 t142 t143 t144 (wrap64 (a1 + t138)) _ _ y151 t154 es1 _ (R_rec HO153.out HSS.out HB.out) (Nat.lt_of_lt_of_le HSS.out (bs_size0 HB.out)) (by have h1 := HLIM.out; have h2 := congrArg List.length EQ.out; rw [← ER2.out] at h2; simp only [List.length_append] at h2; omega) (bs_now HB.out) A30.out).mono ?_


                    rintro e w40 ⟨rfl, hJ, hbs⟩
                    refine ⟨_, rfl, ?_⟩
                    have n0_ := Aside0.mk (R_bs (by (with_reducible repeat (first | apply Kd.R_alloc | apply Kd.R_drewN | apply Kd.R_drew)); exact HO_17.out) hbs HSS.out)
                    have n1_ := Aside0.mk (R_bs (by (with_reducible repeat (first | apply Kd.R_alloc | apply Kd.R_drewN | apply Kd.R_drew)); exact HO150.out) hbs (Nat.lt_of_lt_of_le HSS.out HB.out.le))
                    have n2_ := Aside0.mk (R_bs (by (with_reducible repeat (first | apply Kd.R_alloc | apply Kd.R_drewN | apply Kd.R_drew)); exact HO153.out) hbs (Nat.lt_of_lt_of_le HSS.out HB.out.le))
                    have n3_ := Aside0.mk (blk_bt (g := gb124) (cs := #[.int .i64 a0_0, .int .i64 a0_1, .int .i64 a0_2, .int .i64 a0_3, .int .i64 a0_4, .int .i64 a0_5]) (t := 28) (by (with_reducible repeat (first | refine blk_drewN ?_ _ | refine blk_drew ?_ | refine blk_alloc ?_ _)); exact BK124.out) hbs (by decide) (fun e_ => absurd HSS.out (Nat.not_lt.2 (by rw [← e_]; exact GE124.out))))
                    have n4_ := Aside0.mk (blk_bt (g := gb129) (cs := #[.int .i64 ((rd_T22 t125 x19_1).f0), .int .i64 ((rd_T22 t125 x19_1).f1), .int .i64 ((rd_T22 t125 x19_1).f2)]) (t := 22) (by (with_reducible repeat (first | refine blk_drewN ?_ _ | refine blk_drew ?_ | refine blk_alloc ?_ _)); exact BK129.out) hbs (by decide) (fun e_ => absurd HSS.out (Nat.not_lt.2 (by rw [← e_]; exact (Nat.le_trans HB.out.le GE129.out)))))
                    have n5_ := Aside0.mk (blk_bt (g := gb137) (cs := #[.int .i64 t130, .int .i64 t131, .int .i64 t132, .int .i64 t133, .int .i64 t134, .int .i64 t135]) (t := 28) (by (with_reducible repeat (first | refine blk_drewN ?_ _ | refine blk_drew ?_ | refine blk_alloc ?_ _)); exact BK137.out) hbs (by decide) (fun e_ => absurd HSS.out (Nat.not_lt.2 (by rw [← e_]; exact (Nat.le_trans HB.out.le GE137.out)))))
                    have n6_ := Aside0.mk (bs_next hst (by repeat (first | (with_reducible first | exact HB.out | apply bs_alloc | apply bs_drewN | apply bs_drew1 | refine bs_set (base0 := base0) (gO := gO) (w := w) (I := J es1) ?_ GE129.out | refine bs_set (base0 := base0) (gO := gO) (w := w) (I := J es1) ?_ GE137.out) | exact HB.out)) hbs hJ)
                    clear HO_17
                    clear HO150
                    clear HO153
                    clear BK124
                    clear BK129
                    clear BK137
                    clear HB
                    have HO_17 := n0_
                    have HO150 := n1_
                    have HO153 := n2_
                    have BK124 := n3_
                    have BK129 := n4_
                    have BK137 := n5_
                    have HB := n6_
                    clear n0_ n1_ n2_ n3_ n4_ n5_ n6_
                    clear hbs hJ
                    (try clear hb2)
                    (try clear hk)
                    (try clear hi)
                    refine hK.out _ _ ⟨(blk_cell BK137.out 0).trans rfl, (blk_cell BK137.out 1).trans rfl, (blk_cell BK137.out 2).trans rfl, (blk_cell BK137.out 3).trans rfl, (blk_cell BK137.out 4).trans rfl, (blk_cell BK137.out 5).trans rfl, (blk_cell BK129.out 0).trans rfl, (blk_cell BK129.out 1).trans rfl, (blk_cell BK129.out 2).trans rfl⟩ (fun hHeld => ?_)
                    clear hK K
                    refine norm_ (a' := ?_) ?_ ?_
                    rotate_left
                    · show Act.put _ (some 48) _ = _
                      simp only [Act.put, q1, q2, q3, i64_w, i32_w]
                      rfl
                    refine done_ (done_of HT_.out (by kernel_rfl)) ?_
                    try go_wp2
                    go_roundg kj13
                    case measure => have := HK1.out; have := HJ13.out; omega
                    case rel => exact ⟨(wrap64 (x19_1 + 1)), _, (es1 ++ t154), ev2, (by first | rfl | (simp; done) | (simp [*]; done)), H', ⟨by rw [List.append_assoc, ER2.out]; exact EQ.out⟩, ⟨by have := HK1.out; have := HJ13.out; omega⟩, ⟨by (with_reducible repeat (first | apply Kd.R_alloc | apply Kd.R_drewN | apply Kd.R_drew)); exact Kd.R_mono HO_17.out (fun _ hk => trivial)⟩, ⟨by (with_reducible repeat (first | refine blk_drewN ?_ _ | refine blk_drew ?_ | refine blk_alloc ?_ _)); exact BK124.out⟩, ⟨by repeat (first | (with_reducible first | exact HB.out | apply bs_alloc | apply bs_drewN | apply bs_drew1 | refine bs_set (base0 := base0) (gO := gO) (w := w) (I := J es1) ?_ GE129.out | refine bs_set (base0 := base0) (gO := gO) (w := w) (I := J es1) ?_ GE137.out) | exact HB.out)⟩⟩
                  · rw [if_neg c29] at H
                    exact absurd H (by simp)
                · replace c26 := Bool.eq_false_iff.mpr c26
                  subst c26
                  have H1 : (each_l0 kj13 a1 l2 t125 (t125.length : Int) (wrap64 (x19_1 + 1)) a0_0 a0_1 a0_2 a0_3 a0_4 a0_5) = some ev1 := by rw [if_neg (show ¬ (false = true) by decide)] at H; exact H
                  clear H
                  have H := H1
                  clear H1
                  have H' := Aside0.mk H
                  clear H
                  go_wp2
                  go_roundg kj13
                  case measure => have := HK1.out; have := HJ13.out; omega
                  case rel => exact ⟨(wrap64 (x19_1 + 1)), N1, es1, ev1, (by first | rfl | (simp; done) | (simp [*]; done)), H', EQ, ⟨by have := HK1.out; have := HJ13.out; omega⟩, ⟨by (with_reducible repeat (first | apply Kd.R_alloc | apply Kd.R_drewN | apply Kd.R_drew)); exact Kd.R_mono HO_17.out (fun _ hk => trivial)⟩, ⟨by (with_reducible repeat (first | refine blk_drewN ?_ _ | refine blk_drew ?_ | refine blk_alloc ?_ _)); exact BK124.out⟩, ⟨by repeat (first | (with_reducible first | exact HB.out | apply bs_alloc | apply bs_drewN | apply bs_drew1 | refine bs_set (base0 := base0) (gO := gO) (w := w) (I := J es1) ?_ GE129.out | refine bs_set (base0 := base0) (gO := gO) (w := w) (I := J es1) ?_ GE137.out) | exact HB.out)⟩⟩
          · rw [if_neg c11] at H
            exact absurd H (by simp)
        · rw [if_neg c10] at H
          exact absurd H (by simp)
      · rw [if_neg c9] at H
        have c9b0 : decide (x19_1 < (t125.length : Int)) = false := decide_eq_false c9
        clear c9
        obtain rfl := Option.some.inj H
        go_wp2
        first | go_end0 | ((try simp only [Exit.inBlock, Exit.then]); refine bodyPost_ret (results_none rfl _ _ _) rfl ?_)
        exact ⟨rfl, bs_end (by repeat (first | (with_reducible first | exact HB.out | apply bs_alloc | apply bs_drewN | apply bs_drew1) | exact HB.out)) EQ.out⟩



/-! ### the times of ropes: what is told, the closure -/
def pos5 (es : List Ev) : List Int := (es.filter (fun e => decide (e.1 > 0))).map (·.1)
theorem pos5_snoc (es : List Ev) (e : Ev) : pos5 (es ++ [e]) = if e.1 > 0 then pos5 es ++ [e.1] else pos5 es := by
  unfold pos5
  rw [List.filter_append, List.map_append]
  by_cases h : e.1 > 0
  · rw [if_pos h]; simp [h]
  · rw [if_neg h]; simp [h]
theorem pos5_le (es : List Ev) : (pos5 es).length ≤ es.length := by
  unfold pos5
  rw [List.length_map]
  exact List.length_filter_le _ _
/-- What the closure's variable says, when es have been told. -/
def JT (base0 gO : Nat) (es : List Ev) (W : World) : Prop := ∃ (g c : Nat),
  W.heap[gO]? = some (.cells #[.slice (some ⟨g, 0, none⟩) (pos5 es).length c] 39 (0, 0)) ∧ Kd.R (Kd.int .i64) 3 W base0 (fun k => k ≠ gO) (.slice (some ⟨g, 0, none⟩) (pos5 es).length c) (pos5 es) ∧ base0 ≤ W.heap.size
theorem JT_st (base0 gO : Nat) : ∀ es W W', JT base0 gO es W → (∀ k, k < W.heap.size → W'.heap[k]? = W.heap[k]?) → JT base0 gO es W' := by
  rintro es W W' ⟨g, c, h1, h2, h3⟩ hW
  refine ⟨g, c, (hW _ (blk_lt h1)).trans h1, Kd.R_step h2 (fun k _ hk => hW k hk), ?_⟩
  have hg := hW _ (blk_lt h1)
  rcases Nat.lt_or_ge W'.heap.size W.heap.size with hlt | hge
  · exact absurd (hW _ hlt) (by rw [Array.getElem?_eq_none (Nat.le_refl _), Array.getElem?_eq_getElem hlt]; simp)
  · omega
theorem JT_same {base0 gO : Nat} {es : List Ev} {t : Int} {p : List S22} {W : World} (hj : JT base0 gO es W) (ht : ¬ t > 0) : JT base0 gO (es ++ [(t, p)]) W := by
  unfold JT
  rw [pos5_snoc, if_neg ht]
  exact hj
theorem BelT.same (base0 gO : Nat) (W : World) : BelT base0 gO W W := ⟨rfl, rfl, rfl, Nat.le_refl _, fun _ _ _ => rfl⟩
theorem JT_put {base0 gO : Nat} {es : List Ev} {t : Int} {p : List S22} {W w1 : World} {g c : Nat} {v1 : Value} (ht : t > 0) (h1 : W.heap[gO]? = some (.cells #[.slice (some ⟨g, 0, none⟩) (pos5 es).length c] 39 (0, 0)))
    (h2 : Kd.R (Kd.int .i64) 3 W base0 (fun k => k ≠ gO) (.slice (some ⟨g, 0, none⟩) (pos5 es).length c) (pos5 es)) (h3 : base0 ≤ W.heap.size)
    (ho : Kd.R (Kd.int .i64) 3 w1 base0 (fun k => k ≠ gO) v1 (pos5 es ++ [t])) (hb : Below base0 W w1) (hg : W.grownBy w1 (Value.slice (some ⟨g, 0, none⟩) (pos5 es).length c).ownBlock)
    : w1.heap[gO]? = some (.cells #[.slice (some ⟨g, 0, none⟩) (pos5 es).length c] 39 (0, 0)) ∧ JT base0 gO (es ++ [(t, p)]) (w1.setCell ⟨gO, 0, none⟩ v1) ∧ BelT base0 gO W (w1.setCell ⟨gO, 0, none⟩ v1) := by
  have hne : some gO ≠ (Value.slice (some ⟨g, 0, none⟩) (pos5 es).length c).ownBlock := Kd.R_away h2 (fun _ hk => hk)
  have e1 : w1.heap[gO]? = some (.cells #[.slice (some ⟨g, 0, none⟩) (pos5 es).length c] 39 (0, 0)) := (hg.block gO (blk_lt h1) hne).trans h1
  have es1 : (w1.setCell ⟨gO, 0, none⟩ v1).heap.size = w1.heap.size := by simp
  obtain ⟨g1, c1, e2, hb1, _, _⟩ := Kd.R_form ho (by rw [List.length_append, List.length_cons]; omega)
  refine ⟨e1, ⟨g1, c1, ?_, ?_, ?_⟩, ?_⟩
  · rw [pos5_snoc, if_pos ht, e2]
    exact blk_put e1 0 _ rfl
  · rw [pos5_snoc, if_pos ht, ← e2]
    exact Kd.R_far ho (p := ⟨gO, 0, none⟩) (fun k hk => hk) _
  · rw [es1]; exact Nat.le_trans h3 hb.size
  · refine ⟨hb.os, hb.tape, hb.output, by rw [es1]; exact hb.size, fun k hk hs => ?_⟩
    refine (Below.heap_setCell _ _ _ k (fun e => hs (.inl e))).trans (hg.block k hk (fun e => hs (.inr ?_)))
    obtain ⟨inner, hown⟩ := Kd.R_own h2
    exact ⟨own_base hown k e.symm, own_typed hown k e.symm⟩
set_option maxHeartbeats 4000000 in
set_option maxRecDepth 100000 in
theorem cloT_calls (base0 gO : Nat) (es : List Ev) (t : Int) (p : List S22) (A : Option Addr) (c : Nat) (W : World) (hlen : es.length < 17592186044416) (hj : JT base0 gO es W) :
    Calls Try.prog 35 #[.int .i64 t, .slice A p.length c, .pointer (some ⟨gO, 0, none⟩)] W fun e W' => e = .returned (.tuple #[]) ∧ JT base0 gO (es ++ [(t, p)]) W' ∧ BelT base0 gO W W' := by
  by_cases ht : t > 0
  · obtain ⟨g, c0, h1, h2, h3⟩ := hj
    have HP := Aside0.mk (fun w1 v1 ho hb hg => JT_put (p := p) (w1 := w1) (v1 := v1) ht h1 h2 h3 ho hb hg)
    have hl : (pos5 es).length < 17592186044416 := Nat.lt_of_le_of_lt (pos5_le es) hlen
    have HL := Aside0.mk hl
    have HO := Aside0.mk h2
    have HS := Aside0.mk h3
    have GL := Aside0.mk (blk_lt h1)
    have d1 : decide (0 < t) = true := decide_eq_true ht
    have c0' : W.cell? ⟨gO, 0, none⟩ = some (.slice (some ⟨g, 0, none⟩) (pos5 es).length c0) := (blk_cell h1 0).trans rfl
    clear h1 h2 h3 hl hlen ht
    generalize pos5 es = xs at HP HL HO c0' ⊢
    go_enter Try.func35, Try.ntmps35
    go_wp2_with (first | ((with_reducible refine gate_dst (N := 10) rfl ?_); refine Kd.R_append (Kd.int .i64) (w0 := W) base0 rfl (.tmp 7) (.tmp 9) 39 3 (.int .i64 0) 8 rfl Try.underlying39 info3 rfl (by decide) (by omega) (.slice (some ⟨g, 0, none⟩) xs.length c0) xs t [.int .i64 t] (fun k => k ≠ gO) (fun _ => False) rfl rfl ?aP (fun _ hk => hk.elim) ?aF HO.out (Below.refl _ _) HS.out ?aL ?_; (case aP => exact rfl); (case aF => exact (fun k hk e => absurd GL.out (by rw [← e]; exact Nat.not_lt.2 hk))); (case aL => have := HL.out; omega); intro v1 w5 ho hb hg hat; obtain ⟨q1, q2, q3⟩ := HP.out w5 v1 ho hb hg; obtain ⟨A1, c1, e_⟩ := Kd.R_slice ho; subst e_; have hq_ : (xs ++ [t]).length = xs.length + 1 := (by simp); rw [hq_] at q2 q3; clear hq_; have Q2 := Aside0.mk q2; have Q3 := Aside0.mk q3; have cc := (blk_cell q1 0).trans rfl; have ff := blk_frozen q1 0; clear ho hb hg hat q1 q2 q3))
    first | go_end0 | ((try simp only [Exit.inBlock, Exit.then]); refine bodyPost_ret (results_none rfl _ _ _) rfl ?_)
    exact ⟨rfl, Q2.out, Q3.out⟩
  · have H := Aside0.mk (JT_same (p := p) hj ht)
    have d1 : decide (0 < t) = false := decide_eq_false ht
    clear hj ht
    go_enter Try.func35, Try.ntmps35
    go_wp2
    first | go_end0 | ((try simp only [Exit.inBlock, Exit.then]); refine bodyPost_ret (results_none rfl _ _ _) rfl ?_)
    exact ⟨rfl, H.out, BelT.same _ _ _⟩
/-! ### the times of ropes: the function -/
def sort5 (l : List Int) : List Int := l.mergeSort fun x y => decide (x ≤ y)
def timesF (k : Nat) (a0_0 a0_1 a0_2 a0_3 a0_4 a0_5 : Int) : Option (List Int × Bool) :=
  (impl_IsRopes.f k a0_0 a0_1 a0_2 a0_3 a0_4 a0_5).bind fun ok => if ok = true then ((each_f k a0_0 a0_1 a0_2 a0_3 a0_4 a0_5 0 []).bind fun es => if es.length ≤ 1000000 then some (Lib.compact (sort5 (pos5 es)), true) else none) else some ([], false)
theorem sort5_len (l : List Int) : (sort5 l).length = l.length := List.length_mergeSort l
theorem sorted_calls (w : World) (base g cap : Nat) (ok : Nat → Prop) (xs : List Int) (h : Kd.R (Kd.int .i64) 3 w base ok (.slice (some ⟨g, 0, none⟩) xs.length cap) xs) (hl : xs.length ≤ 1000000) :
    Calls Try.prog 36 #[.slice (some ⟨g, 0, none⟩) xs.length cap] w fun e w' => e = .returned (.tuple #[]) ∧ w'.ownsRow base 3 1 (.slice (some ⟨g, 0, none⟩) xs.length cap) xs.length ((sort5 xs).map (Value.int .i64)) ∧ w.grownBy w' (some g) := by
  have ho := Kd.own_of_R h
  obtain ⟨g', cap', e1, hb, hg, h1, h2, h3, hH⟩ := Lib.holds_of_ownsRow (enc := Value.int .i64) ho (by intro e; cases e)
  injection e1 with e1 _ e3
  injection e1 with e1
  injection e1 with e1
  subst e1; subst e3
  refine (SortL.slices_Sort_int g 0 cap xs w hH hg (by omega)).mono ?_
  rintro e w' ⟨rfl, n, os, rfl⟩
  refine ⟨rfl, ?_, grownBy_sortedI _⟩
  rcases ho.2 with ⟨h0, _⟩ | ⟨g', cap', cur, hv, hbase, hbk, k1, k2, k3, k4⟩
  · cases h0
  cases hv
  exact ownsRow_sortedI (sort5_len xs) hbase hbk k1 k2 k3
theorem compact_calls (w : World) (base g n cap : Nat) (zs : List Int) (h : w.ownsRow base 3 1 (.slice (some ⟨g, 0, none⟩) n cap) n (zs.map (Value.int .i64))) (hl : zs.length ≤ 1000000) :
    Calls Try.prog 37 #[.slice (some ⟨g, 0, none⟩) n cap] w fun e w' => ∃ v, e = .returned v ∧ Kd.R (Kd.int .i64) 3 w' base (fun _ => True) v (Lib.compact zs) ∧ Below base w w' := by
  obtain ⟨g', cap', e1, hb, hg, h1, h2, h3, hH⟩ := Lib.holds_of_ownsRow (enc := Value.int .i64) h (by intro e; cases e)
  injection e1 with e1 _ e3
  injection e1 with e1
  injection e1 with e1
  subst e1; subst e3; subst h3
  refine (SortL.slices_Compact_int g 0 cap zs w hH (by omega) h1).mono ?_
  rintro e w' ⟨rfl, q, rfl⟩
  have hle := Lib.compact_length_le zs
  have hc := Lib.ownsRow_putRow (q := q) (k := (Lib.compact zs).length) (ys := Lib.compact zs ++ List.replicate (zs.length - (Lib.compact zs).length) 0) h (by simp; omega) (by omega)
  rw [List.take_left] at hc
  exact ⟨_, rfl, Kd.R_of_own hc (fun _ _ => trivial), Lib.below_putRow (Below.refl _ _) hb⟩
set_option maxHeartbeats 4000000 in
set_option maxRecDepth 100000 in
theorem timesF_calls (k : Nat) (a0_0 a0_1 a0_2 a0_3 a0_4 a0_5 : Int) (r1 : List Int) (r2 : Bool) (w : World) (h : timesF k a0_0 a0_1 a0_2 a0_3 a0_4 a0_5 = some (r1, r2)) :
    Calls Try.prog 19 #[.agg #[.int .i64 a0_0, .int .i64 a0_1, .int .i64 a0_2, .int .i64 a0_3, .int .i64 a0_4, .int .i64 a0_5]] w fun e w' => ∃ v0_ : Value, e = .returned (.tuple #[v0_, .bool r2]) ∧ Kd.R (Kd.int .i64) 3 w' w.heap.size (fun _ => True) v0_ r1 ∧ Below w.heap.size w w' := by
  have hu28 := Try.underlying28
  have HB := Aside0.mk (Below.refl w.heap.size w)
  obtain ⟨ok, hok, h⟩ := Option.bind_eq_some_iff.mp h
  have A1 := Aside0.mk hok
  clear hok
  cases ok with
  | false =>
    rw [if_neg (by decide)] at h
    obtain ⟨rfl, rfl⟩ := Prod.mk.inj (Option.some.inj h)
    clear h
    go_enter Try.func19, Try.ntmps19
    go_wp2_with (first
      | ((with_reducible refine gate_dst (N := 1) rfl ?_); refine box_event ?hg (N := 1) ?hd (cs := #[.int .i64 a0_0, .int .i64 a0_1, .int .i64 a0_2, .int .i64 a0_3, .int .i64 a0_4, .int .i64 a0_5]) (t := 28) ?hr ?_; (case hd => rfl); (case hg => rfl); (case hr => first | (go_simp; done) | (go_simp; rfl)); intro g2 hg w2 hbox hb; have n0_ := Aside0.mk (below_step HB.out hb); have BK2 := Aside0.mk hbox; clear HB; have HB := n0_; clear n0_ hb hbox hg; have hcz0 := (blk_cell BK2.out 0).trans rfl; have hcz1 := (blk_cell BK2.out 1).trans rfl; have hcz2 := (blk_cell BK2.out 2).trans rfl; have hcz3 := (blk_cell BK2.out 3).trans rfl; have hcz4 := (blk_cell BK2.out 4).trans rfl; have hcz5 := (blk_cell BK2.out 5).trans rfl)
      | (go_at_call 26; (with_reducible refine (impl_IsRopes.calls k a0_0 a0_1 a0_2 a0_3 a0_4 a0_5 false _ A1.out).mono ?_); rintro e w4 ⟨rfl, hb⟩; have n0_ := Aside0.mk (below_step HB.out hb); clear HB; have HB := n0_; clear n0_ hb))
    go_ret2
    exact ⟨_, rfl, Kd.R_nil _ _ _ _ _, HB.out⟩
  | true =>
    rw [if_pos rfl] at h
    obtain ⟨es, hes, h⟩ := Option.bind_eq_some_iff.mp h
    have A2 := Aside0.mk hes
    clear hes
    by_cases hl : es.length ≤ 1000000
    · rw [if_pos hl] at h
      obtain ⟨rfl, rfl⟩ := Prod.mk.inj (Option.some.inj h)
      have HL := Aside0.mk hl
      clear h hl
      go_enter Try.func19, Try.ntmps19
      go_wp2_with (first
        | ((with_reducible refine gate_dst (N := 1) rfl ?_); refine box_event ?hg (N := 1) ?hd (cs := #[.int .i64 a0_0, .int .i64 a0_1, .int .i64 a0_2, .int .i64 a0_3, .int .i64 a0_4, .int .i64 a0_5]) (t := 28) ?hr ?_; (case hd => rfl); (case hg => rfl); (case hr => first | (go_simp; done) | (go_simp; rfl)); intro g2 hg w2 hbox hb; have n0_ := Aside0.mk (below_step HB.out hb); have BK2 := Aside0.mk hbox; clear HB; have HB := n0_; clear n0_ hb hbox hg; have hcz0 := (blk_cell BK2.out 0).trans rfl; have hcz1 := (blk_cell BK2.out 1).trans rfl; have hcz2 := (blk_cell BK2.out 2).trans rfl; have hcz3 := (blk_cell BK2.out 3).trans rfl; have hcz4 := (blk_cell BK2.out 4).trans rfl; have hcz5 := (blk_cell BK2.out 5).trans rfl)
        | (go_at_call 26; (with_reducible refine (impl_IsRopes.calls k a0_0 a0_1 a0_2 a0_3 a0_4 a0_5 true _ A1.out).mono ?_); rintro e w4 ⟨rfl, hb⟩; have n0_ := Aside0.mk (below_step HB.out hb); have n1_ := Aside0.mk (blk_below BK2.out hb); clear HB BK2; have HB := n0_; have BK2 := n1_; clear n0_ n1_ hb)
        | ((with_reducible refine gate_dst (N := 8) rfl ?_); refine Kd.R_lit (Kd.int .i64) _ 3 ?hg (N := 8) ?hd (xs := ([] : List Int)) (inner := []) (ok := fun _ => True) (okp := fun _ => True) ?hr ?hp (fun _ hk => hk) trivial (Below.refl _ _) (Nat.le_refl _) (by simp) ?_; (case hd => rfl); (case hg => rfl); (case hr => first | (go_simp; done) | (go_simp; rfl)); (case hp => exact (Reps.none _ _)); intro v8 w8 ho8 hb hg_ hnew_; obtain ⟨g8_, hg8, _⟩ := hnew_; obtain ⟨g8, c8, e8_, _⟩ := Lib.holds_of_ownsRow (enc := Value.int .i64) (Kd.own_of_R ho8) (by intro e; rw [e] at hg8; simp [Value.ownBlock] at hg8); subst e8_; have HO8 := Aside0.mk (Kd.R_lower ho8 (below_size HB.out)); have n0_ := Aside0.mk (below_step HB.out hb); have n1_ := Aside0.mk (blk_below BK2.out hb); clear HB BK2; have HB := n0_; have BK2 := n1_; clear n0_ n1_ hb hg_ ho8 hg8)
        | ((with_reducible refine gate_dst (N := 4) rfl ?_); refine box_event ?hg (N := 4) ?hd (cs := #[.slice none 0 0]) (t := 39) ?hr ?_; (case hd => rfl); (case hg => rfl); (case hr => first | (go_simp; done) | (go_simp; rfl)); intro g4 hg w4 hbox hb; have GE4 : Aside0 (w.heap.size ≤ g4) := ⟨by rw [hg]; exact below_size HB.out⟩; have NE24 : Aside0 (g2 ≠ g4) := ⟨by rw [hg]; exact Nat.ne_of_lt (blk_lt BK2.out)⟩; have m0_ := Aside0.mk (Kd.R_below (Kd.R_elderB HO8.out g4 (Nat.le_of_eq hg.symm)) hb); have n0_ := Aside0.mk (below_step HB.out hb); have n1_ := Aside0.mk (blk_below BK2.out hb); have BK4 := Aside0.mk hbox; clear HB BK2 HO8; have HB := n0_; have BK2 := n1_; have HO8 := m0_; clear n0_ n1_ m0_ hb hbox hg; have ne24 := NE24.out; have hcz0 := (blk_cell BK2.out 0).trans rfl; have hcz1 := (blk_cell BK2.out 1).trans rfl; have hcz2 := (blk_cell BK2.out 2).trans rfl; have hcz3 := (blk_cell BK2.out 3).trans rfl; have hcz4 := (blk_cell BK2.out 4).trans rfl; have hcz5 := (blk_cell BK2.out 5).trans rfl; have hfz4 := blk_frozen BK4.out 0; have hc4 := (blk_cell BK4.out 0).trans rfl)
        | (go_at_call 27; (have HW4 : Aside0 ((w4.setCell ⟨g4, 0, none⟩ (.slice (some ⟨g8, 0, none⟩) 0 c8)).heap[g4]? = some (.cells #[.slice (some ⟨g8, 0, none⟩) 0 c8] 39 (0, 0))) := ⟨blk_put BK4.out 0 _ rfl⟩; have HB4 : Aside0 (Below w.heap.size w (w4.setCell ⟨g4, 0, none⟩ (.slice (some ⟨g8, 0, none⟩) 0 c8))) := ⟨below_set HB.out GE4.out⟩; have HR4 := Aside0.mk (Kd.R_far (Kd.R_mono HO8.out (fun _ hk => hk.2)) (p := ⟨g4, 0, none⟩) (fun k hk => hk) (.slice (some ⟨g8, 0, none⟩) 0 c8)); have HE := each_calls w.heap.size 17592186044416 (JT w.heap.size g4) g4 (JT_st _ _) (fun es t p A c W hl hj => cloT_calls w.heap.size g4 es t p A c W hl hj) k a0_0 a0_1 a0_2 a0_3 a0_4 a0_5 0 none 0 [] es [] (w4.setCell ⟨g4, 0, none⟩ (.slice (some ⟨g8, 0, none⟩) 0 c8)) (Kd.R_nil _ _ _ _ _) (blk_lt HW4.out) (by rw [List.length_nil]; have := HL.out; omega) ⟨g8, c8, HW4.out, HR4.out, below_size HB4.out⟩ A2.out; rw [List.length_nil] at HE; (with_reducible refine HE.mono ?_); rintro e w9 ⟨rfl, hJ, hbs⟩; rw [List.nil_append] at hJ; obtain ⟨g9, c9, j1, j2, j3⟩ := hJ; have HSRT := Aside0.mk (sorted_calls w9 w.heap.size g9 c9 _ (pos5 es) j2 (Nat.le_trans (pos5_le es) HL.out)); have v9 : w9.cell? ⟨g4, 0, none⟩ = some (.slice (some ⟨g9, 0, none⟩) (pos5 es).length c9) := (blk_cell j1 0).trans rfl; have BK9 := Aside0.mk j1; have NE9 : Aside0 (some g4 ≠ some g9) := ⟨by have := Kd.R_away j2 (g := g4) (fun _ hk => hk); simpa [Value.ownBlock] using this⟩; have GE9 : Aside0 (w.heap.size ≤ g9) := ⟨Kd.R_base j2 g9 (by simp [Value.ownBlock])⟩; have n0_ : Aside0 (Below w.heap.size w w9) := ⟨⟨hbs.os.trans HB4.out.os, hbs.tape.trans HB4.out.tape, hbs.output.trans HB4.out.output, Nat.le_trans HB4.out.size hbs.size, fun k hk => (hbs.block k (Nat.lt_of_lt_of_le hk HB4.out.size) (fun hs => hs.elim (fun e => absurd GE4.out (by omega)) (fun hs => absurd hs.1 (by omega)))).trans (HB4.out.block k hk)⟩⟩; clear HB; have HB := n0_; clear n0_ j1 j2 j3 hbs HE))
        | (go_at_call 36; ((with_reducible refine HSRT.out.mono ?_); rintro e w10 ⟨rfl, ho, hg⟩; have m1 := (hg.block g4 (blk_lt BK9.out) NE9.out).trans BK9.out; have v10 : w10.cell? ⟨g4, 0, none⟩ = some (.slice (some ⟨g9, 0, none⟩) (pos5 es).length c9) := (blk_cell m1 0).trans rfl; have HCMP := Aside0.mk (compact_calls w10 w.heap.size g9 _ c9 (sort5 (pos5 es)) ho (by rw [sort5_len]; exact Nat.le_trans (pos5_le es) HL.out)); have n0_ := Aside0.mk (Below.grown HB.out hg HB.out.size (fun j hj => by cases hj; exact GE9.out)); clear HB; have HB := n0_; clear n0_ ho hg m1))
        | (go_at_call 37; ((with_reducible refine HCMP.out.mono ?_); rintro e w11 ⟨v11, rfl, hR, hb⟩; have HR := Aside0.mk hR; have n0_ := Aside0.mk (Below.trans HB.out hb); clear HB; have HB := n0_; clear n0_ hR hb)))
      go_ret2
      exact ⟨_, rfl, HR.out, HB.out⟩
    · rw [if_neg hl] at h
      cases h
/-! ### impl_RopeTimes: function 19, its contract told by hand -/
def impl_RopeTimes.f (k : Nat) (a0_0 a0_1 a0_2 a0_3 a0_4 a0_5 : Int) : Option ((List Int) × Bool) := timesF k a0_0 a0_1 a0_2 a0_3 a0_4 a0_5
theorem impl_RopeTimes.calls (k : Nat) (a0_0 a0_1 a0_2 a0_3 a0_4 a0_5 : Int) (r1 : List Int) (r2 : Bool) (w : World) (h : impl_RopeTimes.f k a0_0 a0_1 a0_2 a0_3 a0_4 a0_5 = some (r1, r2)) :
    Calls Try.prog 19 #[.agg #[.int .i64 a0_0, .int .i64 a0_1, .int .i64 a0_2, .int .i64 a0_3, .int .i64 a0_4, .int .i64 a0_5]] w fun e w' => ∃ v0_ : Value, e = .returned (.tuple #[v0_, .bool r2]) ∧ Kd.R (Kd.int .i64) 3 w' w.heap.size (fun _ => True) v0_ r1 ∧ Below w.heap.size w w' := timesF_calls k a0_0 a0_1 a0_2 a0_3 a0_4 a0_5 r1 r2 w h

end Go.Proofs.Ythoblgccnkjnoaa.PT
