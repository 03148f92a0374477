-- Printed by a program of this session's own.
import Derived.Test.YtnajkfdgkghgbaaVRunMixedPAx0
import Derived.Test.YtnajkfdgkghgbaaVRunMixedPAx5
namespace Go.Proofs.Ytnajkfdgkghgbaa.PA
open Go.RowKit Go.Proofs.YtnajkfdgkghgbaaW.PrintWords Go.Proofs.YtnajkfdgkghgbaaW.PrintLast Go.Proofs.YtnajkfdgkghgbaaW.PrintMore Go.Proofs.YtnajkfdgkghgbaaX
attribute [local go_sem] max2_int min2_int max_two min_two  -- for this text's walks alone
set_option linter.unusedVariables false
set_option linter.unusedSimpArgs false

/-! ### impl_nextQuarter: function 55 -/
def impl_nextQuarter.l0 : Nat → Int → List (S57) → Int → Int → Option (Int)
  | 0, _, _, _, _ => none
  | k + 1, x3, x8, x9, x10 => if x10 < x9 then (if 0 ≤ x10 then (if x10 < (x8.length : Int) then ((impl_Thing_rate.f ((rd_T57 x8 x10).f0) ((rd_T57 x8 x10).f1) ((rd_T57 x8 x10).f2) ((rd_T57 x8 x10).f3)).bind fun t267 => (if t267 = 0 then (impl_nextQuarter.l0 k x3 x8 x9 (wrap64 (x10 + 1))) else (if x3 = 0 then (impl_nextQuarter.l0 k (wrap64 (Int.tdiv (wrap64 ((wrap64 (((rd_T57 x8 x10).f2) + t267)) - 1)) t267)) x8 x9 (wrap64 (x10 + 1))) else (if (wrap64 (Int.tdiv (wrap64 ((wrap64 (((rd_T57 x8 x10).f2) + t267)) - 1)) t267)) < x3 then (impl_nextQuarter.l0 k (wrap64 (Int.tdiv (wrap64 ((wrap64 (((rd_T57 x8 x10).f2) + t267)) - 1)) t267)) x8 x9 (wrap64 (x10 + 1))) else (impl_nextQuarter.l0 k x3 x8 x9 (wrap64 (x10 + 1))))))) else (none)) else (none)) else (some x3)
def impl_nextQuarter.f (k : Nat) (l0 : List (S57)) : Option (Int) := impl_nextQuarter.l0 k 0 l0 (l0.length : Int) 0
theorem impl_nextQuarter.mono_l : ∀ k, (∀ y0 y1 y2 y3, LeO (impl_nextQuarter.l0 k y0 y1 y2 y3) (impl_nextQuarter.l0 (k + 1) y0 y1 y2 y3))
  | 0 => fun _ _ _ _ r h => by simp [impl_nextQuarter.l0] at h
  | k + 1 => by
    have ih0 := impl_nextQuarter.mono_l k
    · intro y0 y1 y2 y3
      unfold impl_nextQuarter.l0
      repeat' first
      | (with_reducible exact ih0 _ _ _ _)
      | (with_reducible exact LeO.refl _)
      | (with_reducible exact LeO.none _)
      | (with_reducible refine LeO.ite ?_ ?_)
      | (with_reducible refine LeO.bind ?_ (fun _ => ?_))
      | exact ih0 _ _ _ _
      | exact LeO.none _
      | refine LeO.ite ?_ ?_
      | refine LeO.bind ?_ (fun _ => ?_)
theorem impl_nextQuarter.mono : ∀ a0 k, LeO (impl_nextQuarter.f k a0) (impl_nextQuarter.f (k + 1) a0) := by
  intro a0 k
  have ih0 := impl_nextQuarter.mono_l k
  unfold impl_nextQuarter.f
  repeat' first
      | (with_reducible exact ih0 _ _ _ _)
      | (with_reducible exact LeO.refl _)
      | (with_reducible exact LeO.none _)
      | (with_reducible refine LeO.ite ?_ ?_)
      | (with_reducible refine LeO.bind ?_ (fun _ => ?_))
      | exact ih0 _ _ _ _
      | exact LeO.none _
      | refine LeO.ite ?_ ?_
      | refine LeO.bind ?_ (fun _ => ?_)
set_option maxHeartbeats 8000000 in
set_option maxRecDepth 100000 in
theorem impl_nextQuarter.calls (k : Nat) (A0 : Option Addr) (c0 : Nat) (l0 : List (S57)) (r : Int) (w : World) (hr0 : Kd.C k57 w A0 l0.length l0) (hc0 : l0.length ≤ c0) (h : impl_nextQuarter.f k l0 = some r) :
    Calls Try.prog 55 #[.slice A0 l0.length c0] w fun e w' => e = .returned (.int .i64 r) ∧ Below w.heap.size w w' := by
  have hu57 := Try.underlying57
  have HR0 := Aside0.mk hr0
  have HC0 := Aside0.mk hc0
  clear hr0 hc0
  have HB := Aside0.mk (Below.refl w.heap.size w)
  have H : (impl_nextQuarter.l0 k 0 l0 (l0.length : Int) 0) = some r := h
  clear h
  have H' := Aside0.mk H
  clear H
  go_enter Try.func55, Try.ntmps55
  go_wp2
  go_loopg [3, 10] k (fun kq v3 v10 w' => ∃ (x3_1 : Int) (x10_1 : Int), v3 = .int .i64 x3_1 ∧ v10 = .int .i64 x10_1 ∧ Aside0 (impl_nextQuarter.l0 kq x3_1 l0 (l0.length : Int) x10_1 = some r) ∧ Aside0 (kq ≤ k) ∧ Aside0 (Below w.heap.size w w'))
  case atStart => exact ⟨(0), (0), (by first | rfl | (simp; done) | (simp [*]; done)), (by first | rfl | (simp; done) | (simp [*]; done)), H', ⟨Nat.le_refl _⟩, ⟨by repeat (first | (with_reducible first | exact HB.out | apply below_alloc | apply pw_below_drewN | apply below_drew1) | exact HB.out)⟩⟩
  case round =>
    clear H'
    obtain ⟨x3_1, x10_1, rfl, rfl, HA, HK1, HB⟩ := hrel
    cases gk with
    | zero => exact absurd HA.out (by simp [impl_nextQuarter.l0])
    | succ k1 =>
      have H := HA.out
      clear HA
      simp only [impl_nextQuarter.l0] at H
      by_cases c2 : x10_1 < (l0.length : Int)
      · rw [if_pos c2] at H
        have c2b0 : decide (x10_1 < (l0.length : Int)) = true := decide_eq_true c2
        clear c2
        by_cases c3 : 0 ≤ x10_1
        · rw [if_pos c3] at H
          have c3b0 : decide (0 ≤ x10_1) = true := decide_eq_true c3
          clear c3
          by_cases c4 : x10_1 < (l0.length : Int)
          · rw [if_pos c4] at H
            have c4b0 : decide (x10_1 < (l0.length : Int)) = true := decide_eq_true c4
            clear c4
            replace H := Option.bind_eq_some_iff.mp H
            obtain ⟨t267, A50, H⟩ := H
            replace H : (if t267 = 0 then (impl_nextQuarter.l0 k1 x3_1 l0 (l0.length : Int) (wrap64 (x10_1 + 1))) else (if x3_1 = 0 then (impl_nextQuarter.l0 k1 (wrap64 (Int.tdiv (wrap64 ((wrap64 (((rd_T57 l0 x10_1).f2) + t267)) - 1)) t267)) l0 (l0.length : Int) (wrap64 (x10_1 + 1))) else (if (wrap64 (Int.tdiv (wrap64 ((wrap64 (((rd_T57 l0 x10_1).f2) + t267)) - 1)) t267)) < x3_1 then (impl_nextQuarter.l0 k1 (wrap64 (Int.tdiv (wrap64 ((wrap64 (((rd_T57 l0 x10_1).f2) + t267)) - 1)) t267)) l0 (l0.length : Int) (wrap64 (x10_1 + 1))) else (impl_nextQuarter.l0 k1 x3_1 l0 (l0.length : Int) (wrap64 (x10_1 + 1)))))) = some r := H
            have A5 := Aside0.mk A50
            clear A50
            by_cases c6 : t267 = 0
            · rw [if_pos c6] at H
              have c6b0 : (t267 == 0) = true := beq_iff_eq.mpr c6
              have c6b1 : (t267 != 0) = false := bne_eq_false_iff_eq.mpr c6
              clear c6
              have H' := Aside0.mk H
              clear H
              have p265 : 0 ≤ (x10_1 : Int) := of_decide_eq_true (by first | (with_reducible assumption) | assumption)
              have q265 : x10_1 < (l0.length : Int) := of_decide_eq_true (by first | (with_reducible assumption) | assumption)
              obtain ⟨ad265, e265, hx265_0, hx265_1, hx265_2, hx265_3⟩ := at_T57 HR0.out x10_1 p265 q265
              cases e265
              (try replace hx265_0 := (HB.out.cell (World.block_lt_of_cell? w _ hx265_0)).trans hx265_0)
              (try replace hx265_1 := (HB.out.cell (World.block_lt_of_cell? w _ hx265_1)).trans hx265_1)
              (try replace hx265_2 := (HB.out.cell (World.block_lt_of_cell? w _ hx265_2)).trans hx265_2)
              (try replace hx265_3 := (HB.out.cell (World.block_lt_of_cell? w _ hx265_3)).trans hx265_3)
              replace p265 := eq_true p265
              replace q265 := eq_true q265
              go_wp2_with (first | ((with_reducible refine gate_dst (N := 5) rfl ?_); refine box_event ?hg (N := 5) ?hd (cs := #[.int .i64 0, .int .i64 0, .int .i64 0, .int .i64 0]) (t := 57) ?hr ?_; (case hd => rfl); (case hg => rfl); (case hr => first | (go_simp; done) | (go_simp; rfl)); intro gb266 hg w7 hbox hb; have n0_ := Aside0.mk (below_step (by repeat (first | (with_reducible first | exact HB.out | apply below_alloc | apply pw_below_drewN | apply below_drew1) | exact HB.out)) hb); have n1_ := Aside0.mk (hbox); have n2_ := Aside0.mk ((by rw [hg]; exact (below_size (by repeat (first | (with_reducible first | exact HB.out | apply below_alloc | apply pw_below_drewN | apply below_drew1) | exact HB.out))) : w.heap.size ≤ gb266)); have n3_ := Aside0.mk ((by rw [hg]; exact (below_size (by repeat (first | (with_reducible first | exact HB.out | apply below_alloc | apply pw_below_drewN | apply below_drew1) | exact HB.out))) : w.heap.size ≤ gb266)); clear HB; have HB := n0_; have BK266 := n1_; have GW266 := n2_; have GE266 := n3_; clear n0_ n1_ n2_ n3_; clear hb hbox hg; have hcz8_0 : w7.cell? ⟨gb266, 0, none⟩ = some (.int .i64 0) := (blk_cell BK266.out 0).trans rfl; have hcz8_1 : w7.cell? ⟨gb266, 1, none⟩ = some (.int .i64 0) := (blk_cell BK266.out 1).trans rfl; have hcz8_2 : w7.cell? ⟨gb266, 2, none⟩ = some (.int .i64 0) := (blk_cell BK266.out 2).trans rfl; have hcz8_3 : w7.cell? ⟨gb266, 3, none⟩ = some (.int .i64 0) := (blk_cell BK266.out 3).trans rfl; have hfz8_0 := blk_frozen BK266.out 0; have hfz8_1 := blk_frozen BK266.out 1; have hfz8_2 := blk_frozen BK266.out 2; have hfz8_3 := blk_frozen BK266.out 3) | ((with_reducible refine gate_callee (f := 78) rfl ?_); refine goesL_ (some 15) rfl rfl Try.func78 (by kernel_rfl) rfl #[.agg #[.int .i64 ((rd_T57 l0 x10_1).f0), .int .i64 ((rd_T57 l0 x10_1).f1), .int .i64 ((rd_T57 l0 x10_1).f2), .int .i64 ((rd_T57 l0 x10_1).f3)]] rfl (by (try simp only [List.map_toArray, List.map_cons, List.map_nil]); first | done | rfl | (simp only [List.length_drop, List.length_take]; rfl)) ?_; (with_reducible refine (impl_Thing_rate.calls ((rd_T57 l0 x10_1).f0) ((rd_T57 l0 x10_1).f1) ((rd_T57 l0 x10_1).f2) ((rd_T57 l0 x10_1).f3) t267 _ A5.out).mono ?_); rintro e w9 ⟨rfl, hb⟩; refine ⟨_, rfl, ?_⟩; have n0_ := Aside0.mk (blk_below (g := gb266) (o := .cells #[.int .i64 ((rd_T57 l0 x10_1).f0), .int .i64 ((rd_T57 l0 x10_1).f1), .int .i64 ((rd_T57 l0 x10_1).f2), .int .i64 ((rd_T57 l0 x10_1).f3)] 57 (0, 0)) (by (with_reducible repeat (first | refine blk_drewN ?_ _ | refine blk_drew ?_ | refine blk_alloc ?_ _)); refine blk_put (cs := #[.int .i64 ((rd_T57 l0 x10_1).f0), .int .i64 ((rd_T57 l0 x10_1).f1), .int .i64 ((rd_T57 l0 x10_1).f2), .int .i64 0]) ?_ 3 _ rfl; (with_reducible repeat (first | refine blk_drewN ?_ _ | refine blk_drew ?_ | refine blk_alloc ?_ _)); refine blk_put (cs := #[.int .i64 ((rd_T57 l0 x10_1).f0), .int .i64 ((rd_T57 l0 x10_1).f1), .int .i64 0, .int .i64 0]) ?_ 2 _ rfl; (with_reducible repeat (first | refine blk_drewN ?_ _ | refine blk_drew ?_ | refine blk_alloc ?_ _)); refine blk_put (cs := #[.int .i64 ((rd_T57 l0 x10_1).f0), .int .i64 0, .int .i64 0, .int .i64 0]) ?_ 1 _ rfl; (with_reducible repeat (first | refine blk_drewN ?_ _ | refine blk_drew ?_ | refine blk_alloc ?_ _)); refine blk_put (cs := #[.int .i64 0, .int .i64 0, .int .i64 0, .int .i64 0]) ?_ 0 _ rfl; (with_reducible repeat (first | refine blk_drewN ?_ _ | refine blk_drew ?_ | refine blk_alloc ?_ _)); exact BK266.out) hb); have n1_ := Aside0.mk (below_step (by repeat (first | (with_reducible first | exact HB.out | apply below_alloc | apply pw_below_drewN | apply below_drew1 | refine below_set ?_ GE266.out) | exact HB.out)) hb); clear BK266; clear HB; have BK266 := n0_; have HB := n1_; clear n0_ n1_; (try clear hb); (try clear hb2); (try clear hk); (try clear hi)))
              go_roundg k1
              case measure => have := HK1.out; omega
              case rel => exact ⟨(x3_1), (wrap64 (x10_1 + 1)), (by first | rfl | (simp; done) | (simp [*]; done)), (by first | rfl | (simp; done) | (simp [*]; done)), H', ⟨by have := HK1.out; omega⟩, ⟨by repeat (first | (with_reducible first | exact HB.out | apply below_alloc | apply pw_below_drewN | apply below_drew1 | refine below_set ?_ GE266.out) | exact HB.out)⟩⟩
            · rw [if_neg c6] at H
              have c6b0 : (t267 == 0) = false := beq_eq_false_iff_ne.mpr c6
              have c6b1 : (t267 != 0) = true := bne_iff_ne.mpr c6
              by_cases c10 : x3_1 = 0
              · rw [if_pos c10] at H
                have c10b0 : (x3_1 == 0) = true := beq_iff_eq.mpr c10
                have c10b1 : (x3_1 != 0) = false := bne_eq_false_iff_eq.mpr c10
                clear c10
                have H' := Aside0.mk H
                clear H
                have p265 : 0 ≤ (x10_1 : Int) := of_decide_eq_true (by first | (with_reducible assumption) | assumption)
                have q265 : x10_1 < (l0.length : Int) := of_decide_eq_true (by first | (with_reducible assumption) | assumption)
                obtain ⟨ad265, e265, hx265_0, hx265_1, hx265_2, hx265_3⟩ := at_T57 HR0.out x10_1 p265 q265
                cases e265
                (try replace hx265_0 := (HB.out.cell (World.block_lt_of_cell? w _ hx265_0)).trans hx265_0)
                (try replace hx265_1 := (HB.out.cell (World.block_lt_of_cell? w _ hx265_1)).trans hx265_1)
                (try replace hx265_2 := (HB.out.cell (World.block_lt_of_cell? w _ hx265_2)).trans hx265_2)
                (try replace hx265_3 := (HB.out.cell (World.block_lt_of_cell? w _ hx265_3)).trans hx265_3)
                replace p265 := eq_true p265
                replace q265 := eq_true q265
                go_wp2_with (first | ((with_reducible refine gate_dst (N := 5) rfl ?_); refine box_event ?hg (N := 5) ?hd (cs := #[.int .i64 0, .int .i64 0, .int .i64 0, .int .i64 0]) (t := 57) ?hr ?_; (case hd => rfl); (case hg => rfl); (case hr => first | (go_simp; done) | (go_simp; rfl)); intro gb266 hg w11 hbox hb; have n0_ := Aside0.mk (below_step (by repeat (first | (with_reducible first | exact HB.out | apply below_alloc | apply pw_below_drewN | apply below_drew1) | exact HB.out)) hb); have n1_ := Aside0.mk (hbox); have n2_ := Aside0.mk ((by rw [hg]; exact (below_size (by repeat (first | (with_reducible first | exact HB.out | apply below_alloc | apply pw_below_drewN | apply below_drew1) | exact HB.out))) : w.heap.size ≤ gb266)); have n3_ := Aside0.mk ((by rw [hg]; exact (below_size (by repeat (first | (with_reducible first | exact HB.out | apply below_alloc | apply pw_below_drewN | apply below_drew1) | exact HB.out))) : w.heap.size ≤ gb266)); clear HB; have HB := n0_; have BK266 := n1_; have GW266 := n2_; have GE266 := n3_; clear n0_ n1_ n2_ n3_; clear hb hbox hg; have hcz12_0 : w11.cell? ⟨gb266, 0, none⟩ = some (.int .i64 0) := (blk_cell BK266.out 0).trans rfl; have hcz12_1 : w11.cell? ⟨gb266, 1, none⟩ = some (.int .i64 0) := (blk_cell BK266.out 1).trans rfl; have hcz12_2 : w11.cell? ⟨gb266, 2, none⟩ = some (.int .i64 0) := (blk_cell BK266.out 2).trans rfl; have hcz12_3 : w11.cell? ⟨gb266, 3, none⟩ = some (.int .i64 0) := (blk_cell BK266.out 3).trans rfl; have hfz12_0 := blk_frozen BK266.out 0; have hfz12_1 := blk_frozen BK266.out 1; have hfz12_2 := blk_frozen BK266.out 2; have hfz12_3 := blk_frozen BK266.out 3) | ((with_reducible refine gate_callee (f := 78) rfl ?_); refine goesL_ (some 15) rfl rfl Try.func78 (by kernel_rfl) rfl #[.agg #[.int .i64 ((rd_T57 l0 x10_1).f0), .int .i64 ((rd_T57 l0 x10_1).f1), .int .i64 ((rd_T57 l0 x10_1).f2), .int .i64 ((rd_T57 l0 x10_1).f3)]] rfl (by (try simp only [List.map_toArray, List.map_cons, List.map_nil]); first | done | rfl | (simp only [List.length_drop, List.length_take]; rfl)) ?_; (with_reducible refine (impl_Thing_rate.calls ((rd_T57 l0 x10_1).f0) ((rd_T57 l0 x10_1).f1) ((rd_T57 l0 x10_1).f2) ((rd_T57 l0 x10_1).f3) t267 _ A5.out).mono ?_); rintro e w13 ⟨rfl, hb⟩; refine ⟨_, rfl, ?_⟩; have n0_ := Aside0.mk (blk_below (g := gb266) (o := .cells #[.int .i64 ((rd_T57 l0 x10_1).f0), .int .i64 ((rd_T57 l0 x10_1).f1), .int .i64 ((rd_T57 l0 x10_1).f2), .int .i64 ((rd_T57 l0 x10_1).f3)] 57 (0, 0)) (by (with_reducible repeat (first | refine blk_drewN ?_ _ | refine blk_drew ?_ | refine blk_alloc ?_ _)); refine blk_put (cs := #[.int .i64 ((rd_T57 l0 x10_1).f0), .int .i64 ((rd_T57 l0 x10_1).f1), .int .i64 ((rd_T57 l0 x10_1).f2), .int .i64 0]) ?_ 3 _ rfl; (with_reducible repeat (first | refine blk_drewN ?_ _ | refine blk_drew ?_ | refine blk_alloc ?_ _)); refine blk_put (cs := #[.int .i64 ((rd_T57 l0 x10_1).f0), .int .i64 ((rd_T57 l0 x10_1).f1), .int .i64 0, .int .i64 0]) ?_ 2 _ rfl; (with_reducible repeat (first | refine blk_drewN ?_ _ | refine blk_drew ?_ | refine blk_alloc ?_ _)); refine blk_put (cs := #[.int .i64 ((rd_T57 l0 x10_1).f0), .int .i64 0, .int .i64 0, .int .i64 0]) ?_ 1 _ rfl; (with_reducible repeat (first | refine blk_drewN ?_ _ | refine blk_drew ?_ | refine blk_alloc ?_ _)); refine blk_put (cs := #[.int .i64 0, .int .i64 0, .int .i64 0, .int .i64 0]) ?_ 0 _ rfl; (with_reducible repeat (first | refine blk_drewN ?_ _ | refine blk_drew ?_ | refine blk_alloc ?_ _)); exact BK266.out) hb); have n1_ := Aside0.mk (below_step (by repeat (first | (with_reducible first | exact HB.out | apply below_alloc | apply pw_below_drewN | apply below_drew1 | refine below_set ?_ GE266.out) | exact HB.out)) hb); clear BK266; clear HB; have BK266 := n0_; have HB := n1_; clear n0_ n1_; (try clear hb); (try clear hb2); (try clear hk); (try clear hi); have hcz14_0 : w13.cell? ⟨gb266, 0, none⟩ = some (.int .i64 ((rd_T57 l0 x10_1).f0)) := (blk_cell BK266.out 0).trans rfl; have hcz14_1 : w13.cell? ⟨gb266, 1, none⟩ = some (.int .i64 ((rd_T57 l0 x10_1).f1)) := (blk_cell BK266.out 1).trans rfl; have hcz14_2 : w13.cell? ⟨gb266, 2, none⟩ = some (.int .i64 ((rd_T57 l0 x10_1).f2)) := (blk_cell BK266.out 2).trans rfl; have hcz14_3 : w13.cell? ⟨gb266, 3, none⟩ = some (.int .i64 ((rd_T57 l0 x10_1).f3)) := (blk_cell BK266.out 3).trans rfl; have hfz14_0 := blk_frozen BK266.out 0; have hfz14_1 := blk_frozen BK266.out 1; have hfz14_2 := blk_frozen BK266.out 2; have hfz14_3 := blk_frozen BK266.out 3))
                go_roundg k1
                case measure => have := HK1.out; omega
                case rel => exact ⟨(wrap64 (Int.tdiv (wrap64 ((wrap64 (((rd_T57 l0 x10_1).f2) + t267)) - 1)) t267)), (wrap64 (x10_1 + 1)), (by first | rfl | (simp; done) | (simp [*]; done)), (by first | rfl | (simp; done) | (simp [*]; done)), H', ⟨by have := HK1.out; omega⟩, ⟨by repeat (first | (with_reducible first | exact HB.out | apply below_alloc | apply pw_below_drewN | apply below_drew1 | refine below_set ?_ GE266.out) | exact HB.out)⟩⟩
              · rw [if_neg c10] at H
                have c10b0 : (x3_1 == 0) = false := beq_eq_false_iff_ne.mpr c10
                have c10b1 : (x3_1 != 0) = true := bne_iff_ne.mpr c10
                by_cases c15 : (wrap64 (Int.tdiv (wrap64 ((wrap64 (((rd_T57 l0 x10_1).f2) + t267)) - 1)) t267)) < x3_1
                · rw [if_pos c15] at H
                  have c15b0 : decide ((wrap64 (Int.tdiv (wrap64 ((wrap64 (((rd_T57 l0 x10_1).f2) + t267)) - 1)) t267)) < x3_1) = true := decide_eq_true c15
                  clear c15
                  have H' := Aside0.mk H
                  clear H
                  have p265 : 0 ≤ (x10_1 : Int) := of_decide_eq_true (by first | (with_reducible assumption) | assumption)
                  have q265 : x10_1 < (l0.length : Int) := of_decide_eq_true (by first | (with_reducible assumption) | assumption)
                  obtain ⟨ad265, e265, hx265_0, hx265_1, hx265_2, hx265_3⟩ := at_T57 HR0.out x10_1 p265 q265
                  cases e265
                  (try replace hx265_0 := (HB.out.cell (World.block_lt_of_cell? w _ hx265_0)).trans hx265_0)
                  (try replace hx265_1 := (HB.out.cell (World.block_lt_of_cell? w _ hx265_1)).trans hx265_1)
                  (try replace hx265_2 := (HB.out.cell (World.block_lt_of_cell? w _ hx265_2)).trans hx265_2)
                  (try replace hx265_3 := (HB.out.cell (World.block_lt_of_cell? w _ hx265_3)).trans hx265_3)
                  replace p265 := eq_true p265
                  replace q265 := eq_true q265
                  go_wp2_with (first | ((with_reducible refine gate_dst (N := 5) rfl ?_); refine box_event ?hg (N := 5) ?hd (cs := #[.int .i64 0, .int .i64 0, .int .i64 0, .int .i64 0]) (t := 57) ?hr ?_; (case hd => rfl); (case hg => rfl); (case hr => first | (go_simp; done) | (go_simp; rfl)); intro gb266 hg w16 hbox hb; have n0_ := Aside0.mk (below_step (by repeat (first | (with_reducible first | exact HB.out | apply below_alloc | apply pw_below_drewN | apply below_drew1) | exact HB.out)) hb); have n1_ := Aside0.mk (hbox); have n2_ := Aside0.mk ((by rw [hg]; exact (below_size (by repeat (first | (with_reducible first | exact HB.out | apply below_alloc | apply pw_below_drewN | apply below_drew1) | exact HB.out))) : w.heap.size ≤ gb266)); have n3_ := Aside0.mk ((by rw [hg]; exact (below_size (by repeat (first | (with_reducible first | exact HB.out | apply below_alloc | apply pw_below_drewN | apply below_drew1) | exact HB.out))) : w.heap.size ≤ gb266)); clear HB; have HB := n0_; have BK266 := n1_; have GW266 := n2_; have GE266 := n3_; clear n0_ n1_ n2_ n3_; clear hb hbox hg; have hcz17_0 : w16.cell? ⟨gb266, 0, none⟩ = some (.int .i64 0) := (blk_cell BK266.out 0).trans rfl; have hcz17_1 : w16.cell? ⟨gb266, 1, none⟩ = some (.int .i64 0) := (blk_cell BK266.out 1).trans rfl; have hcz17_2 : w16.cell? ⟨gb266, 2, none⟩ = some (.int .i64 0) := (blk_cell BK266.out 2).trans rfl; have hcz17_3 : w16.cell? ⟨gb266, 3, none⟩ = some (.int .i64 0) := (blk_cell BK266.out 3).trans rfl; have hfz17_0 := blk_frozen BK266.out 0; have hfz17_1 := blk_frozen BK266.out 1; have hfz17_2 := blk_frozen BK266.out 2; have hfz17_3 := blk_frozen BK266.out 3) | ((with_reducible refine gate_callee (f := 78) rfl ?_); refine goesL_ (some 15) rfl rfl Try.func78 (by kernel_rfl) rfl #[.agg #[.int .i64 ((rd_T57 l0 x10_1).f0), .int .i64 ((rd_T57 l0 x10_1).f1), .int .i64 ((rd_T57 l0 x10_1).f2), .int .i64 ((rd_T57 l0 x10_1).f3)]] rfl (by (try simp only [List.map_toArray, List.map_cons, List.map_nil]); first | done | rfl | (simp only [List.length_drop, List.length_take]; rfl)) ?_; (with_reducible refine (impl_Thing_rate.calls ((rd_T57 l0 x10_1).f0) ((rd_T57 l0 x10_1).f1) ((rd_T57 l0 x10_1).f2) ((rd_T57 l0 x10_1).f3) t267 _ A5.out).mono ?_); rintro e w18 ⟨rfl, hb⟩; refine ⟨_, rfl, ?_⟩; have n0_ := Aside0.mk (blk_below (g := gb266) (o := .cells #[.int .i64 ((rd_T57 l0 x10_1).f0), .int .i64 ((rd_T57 l0 x10_1).f1), .int .i64 ((rd_T57 l0 x10_1).f2), .int .i64 ((rd_T57 l0 x10_1).f3)] 57 (0, 0)) (by (with_reducible repeat (first | refine blk_drewN ?_ _ | refine blk_drew ?_ | refine blk_alloc ?_ _)); refine blk_put (cs := #[.int .i64 ((rd_T57 l0 x10_1).f0), .int .i64 ((rd_T57 l0 x10_1).f1), .int .i64 ((rd_T57 l0 x10_1).f2), .int .i64 0]) ?_ 3 _ rfl; (with_reducible repeat (first | refine blk_drewN ?_ _ | refine blk_drew ?_ | refine blk_alloc ?_ _)); refine blk_put (cs := #[.int .i64 ((rd_T57 l0 x10_1).f0), .int .i64 ((rd_T57 l0 x10_1).f1), .int .i64 0, .int .i64 0]) ?_ 2 _ rfl; (with_reducible repeat (first | refine blk_drewN ?_ _ | refine blk_drew ?_ | refine blk_alloc ?_ _)); refine blk_put (cs := #[.int .i64 ((rd_T57 l0 x10_1).f0), .int .i64 0, .int .i64 0, .int .i64 0]) ?_ 1 _ rfl; (with_reducible repeat (first | refine blk_drewN ?_ _ | refine blk_drew ?_ | refine blk_alloc ?_ _)); refine blk_put (cs := #[.int .i64 0, .int .i64 0, .int .i64 0, .int .i64 0]) ?_ 0 _ rfl; (with_reducible repeat (first | refine blk_drewN ?_ _ | refine blk_drew ?_ | refine blk_alloc ?_ _)); exact BK266.out) hb); have n1_ := Aside0.mk (below_step (by repeat (first | (with_reducible first | exact HB.out | apply below_alloc | apply pw_below_drewN | apply below_drew1 | refine below_set ?_ GE266.out) | exact HB.out)) hb); clear BK266; clear HB; have BK266 := n0_; have HB := n1_; clear n0_ n1_; (try clear hb); (try clear hb2); (try clear hk); (try clear hi); have hcz19_0 : w18.cell? ⟨gb266, 0, none⟩ = some (.int .i64 ((rd_T57 l0 x10_1).f0)) := (blk_cell BK266.out 0).trans rfl; have hcz19_1 : w18.cell? ⟨gb266, 1, none⟩ = some (.int .i64 ((rd_T57 l0 x10_1).f1)) := (blk_cell BK266.out 1).trans rfl; have hcz19_2 : w18.cell? ⟨gb266, 2, none⟩ = some (.int .i64 ((rd_T57 l0 x10_1).f2)) := (blk_cell BK266.out 2).trans rfl; have hcz19_3 : w18.cell? ⟨gb266, 3, none⟩ = some (.int .i64 ((rd_T57 l0 x10_1).f3)) := (blk_cell BK266.out 3).trans rfl; have hfz19_0 := blk_frozen BK266.out 0; have hfz19_1 := blk_frozen BK266.out 1; have hfz19_2 := blk_frozen BK266.out 2; have hfz19_3 := blk_frozen BK266.out 3))
                  go_roundg k1
                  case measure => have := HK1.out; omega
                  case rel => exact ⟨(wrap64 (Int.tdiv (wrap64 ((wrap64 (((rd_T57 l0 x10_1).f2) + t267)) - 1)) t267)), (wrap64 (x10_1 + 1)), (by first | rfl | (simp; done) | (simp [*]; done)), (by first | rfl | (simp; done) | (simp [*]; done)), H', ⟨by have := HK1.out; omega⟩, ⟨by repeat (first | (with_reducible first | exact HB.out | apply below_alloc | apply pw_below_drewN | apply below_drew1 | refine below_set ?_ GE266.out) | exact HB.out)⟩⟩
                · rw [if_neg c15] at H
                  have c15b0 : decide ((wrap64 (Int.tdiv (wrap64 ((wrap64 (((rd_T57 l0 x10_1).f2) + t267)) - 1)) t267)) < x3_1) = false := decide_eq_false c15
                  clear c15
                  have H' := Aside0.mk H
                  clear H
                  have p265 : 0 ≤ (x10_1 : Int) := of_decide_eq_true (by first | (with_reducible assumption) | assumption)
                  have q265 : x10_1 < (l0.length : Int) := of_decide_eq_true (by first | (with_reducible assumption) | assumption)
                  obtain ⟨ad265, e265, hx265_0, hx265_1, hx265_2, hx265_3⟩ := at_T57 HR0.out x10_1 p265 q265
                  cases e265
                  (try replace hx265_0 := (HB.out.cell (World.block_lt_of_cell? w _ hx265_0)).trans hx265_0)
                  (try replace hx265_1 := (HB.out.cell (World.block_lt_of_cell? w _ hx265_1)).trans hx265_1)
                  (try replace hx265_2 := (HB.out.cell (World.block_lt_of_cell? w _ hx265_2)).trans hx265_2)
                  (try replace hx265_3 := (HB.out.cell (World.block_lt_of_cell? w _ hx265_3)).trans hx265_3)
                  replace p265 := eq_true p265
                  replace q265 := eq_true q265
                  go_wp2_with (first | ((with_reducible refine gate_dst (N := 5) rfl ?_); refine box_event ?hg (N := 5) ?hd (cs := #[.int .i64 0, .int .i64 0, .int .i64 0, .int .i64 0]) (t := 57) ?hr ?_; (case hd => rfl); (case hg => rfl); (case hr => first | (go_simp; done) | (go_simp; rfl)); intro gb266 hg w20 hbox hb; have n0_ := Aside0.mk (below_step (by repeat (first | (with_reducible first | exact HB.out | apply below_alloc | apply pw_below_drewN | apply below_drew1) | exact HB.out)) hb); have n1_ := Aside0.mk (hbox); have n2_ := Aside0.mk ((by rw [hg]; exact (below_size (by repeat (first | (with_reducible first | exact HB.out | apply below_alloc | apply pw_below_drewN | apply below_drew1) | exact HB.out))) : w.heap.size ≤ gb266)); have n3_ := Aside0.mk ((by rw [hg]; exact (below_size (by repeat (first | (with_reducible first | exact HB.out | apply below_alloc | apply pw_below_drewN | apply below_drew1) | exact HB.out))) : w.heap.size ≤ gb266)); clear HB; have HB := n0_; have BK266 := n1_; have GW266 := n2_; have GE266 := n3_; clear n0_ n1_ n2_ n3_; clear hb hbox hg; have hcz21_0 : w20.cell? ⟨gb266, 0, none⟩ = some (.int .i64 0) := (blk_cell BK266.out 0).trans rfl; have hcz21_1 : w20.cell? ⟨gb266, 1, none⟩ = some (.int .i64 0) := (blk_cell BK266.out 1).trans rfl; have hcz21_2 : w20.cell? ⟨gb266, 2, none⟩ = some (.int .i64 0) := (blk_cell BK266.out 2).trans rfl; have hcz21_3 : w20.cell? ⟨gb266, 3, none⟩ = some (.int .i64 0) := (blk_cell BK266.out 3).trans rfl; have hfz21_0 := blk_frozen BK266.out 0; have hfz21_1 := blk_frozen BK266.out 1; have hfz21_2 := blk_frozen BK266.out 2; have hfz21_3 := blk_frozen BK266.out 3) | ((with_reducible refine gate_callee (f := 78) rfl ?_); refine goesL_ (some 15) rfl rfl Try.func78 (by kernel_rfl) rfl #[.agg #[.int .i64 ((rd_T57 l0 x10_1).f0), .int .i64 ((rd_T57 l0 x10_1).f1), .int .i64 ((rd_T57 l0 x10_1).f2), .int .i64 ((rd_T57 l0 x10_1).f3)]] rfl (by (try simp only [List.map_toArray, List.map_cons, List.map_nil]); first | done | rfl | (simp only [List.length_drop, List.length_take]; rfl)) ?_; (with_reducible refine (impl_Thing_rate.calls ((rd_T57 l0 x10_1).f0) ((rd_T57 l0 x10_1).f1) ((rd_T57 l0 x10_1).f2) ((rd_T57 l0 x10_1).f3) t267 _ A5.out).mono ?_); rintro e w22 ⟨rfl, hb⟩; refine ⟨_, rfl, ?_⟩; have n0_ := Aside0.mk (blk_below (g := gb266) (o := .cells #[.int .i64 ((rd_T57 l0 x10_1).f0), .int .i64 ((rd_T57 l0 x10_1).f1), .int .i64 ((rd_T57 l0 x10_1).f2), .int .i64 ((rd_T57 l0 x10_1).f3)] 57 (0, 0)) (by (with_reducible repeat (first | refine blk_drewN ?_ _ | refine blk_drew ?_ | refine blk_alloc ?_ _)); refine blk_put (cs := #[.int .i64 ((rd_T57 l0 x10_1).f0), .int .i64 ((rd_T57 l0 x10_1).f1), .int .i64 ((rd_T57 l0 x10_1).f2), .int .i64 0]) ?_ 3 _ rfl; (with_reducible repeat (first | refine blk_drewN ?_ _ | refine blk_drew ?_ | refine blk_alloc ?_ _)); refine blk_put (cs := #[.int .i64 ((rd_T57 l0 x10_1).f0), .int .i64 ((rd_T57 l0 x10_1).f1), .int .i64 0, .int .i64 0]) ?_ 2 _ rfl; (with_reducible repeat (first | refine blk_drewN ?_ _ | refine blk_drew ?_ | refine blk_alloc ?_ _)); refine blk_put (cs := #[.int .i64 ((rd_T57 l0 x10_1).f0), .int .i64 0, .int .i64 0, .int .i64 0]) ?_ 1 _ rfl; (with_reducible repeat (first | refine blk_drewN ?_ _ | refine blk_drew ?_ | refine blk_alloc ?_ _)); refine blk_put (cs := #[.int .i64 0, .int .i64 0, .int .i64 0, .int .i64 0]) ?_ 0 _ rfl; (with_reducible repeat (first | refine blk_drewN ?_ _ | refine blk_drew ?_ | refine blk_alloc ?_ _)); exact BK266.out) hb); have n1_ := Aside0.mk (below_step (by repeat (first | (with_reducible first | exact HB.out | apply below_alloc | apply pw_below_drewN | apply below_drew1 | refine below_set ?_ GE266.out) | exact HB.out)) hb); clear BK266; clear HB; have BK266 := n0_; have HB := n1_; clear n0_ n1_; (try clear hb); (try clear hb2); (try clear hk); (try clear hi); have hcz23_0 : w22.cell? ⟨gb266, 0, none⟩ = some (.int .i64 ((rd_T57 l0 x10_1).f0)) := (blk_cell BK266.out 0).trans rfl; have hcz23_1 : w22.cell? ⟨gb266, 1, none⟩ = some (.int .i64 ((rd_T57 l0 x10_1).f1)) := (blk_cell BK266.out 1).trans rfl; have hcz23_2 : w22.cell? ⟨gb266, 2, none⟩ = some (.int .i64 ((rd_T57 l0 x10_1).f2)) := (blk_cell BK266.out 2).trans rfl; have hcz23_3 : w22.cell? ⟨gb266, 3, none⟩ = some (.int .i64 ((rd_T57 l0 x10_1).f3)) := (blk_cell BK266.out 3).trans rfl; have hfz23_0 := blk_frozen BK266.out 0; have hfz23_1 := blk_frozen BK266.out 1; have hfz23_2 := blk_frozen BK266.out 2; have hfz23_3 := blk_frozen BK266.out 3))
                  go_roundg k1
                  case measure => have := HK1.out; omega
                  case rel => exact ⟨(x3_1), (wrap64 (x10_1 + 1)), (by first | rfl | (simp; done) | (simp [*]; done)), (by first | rfl | (simp; done) | (simp [*]; done)), H', ⟨by have := HK1.out; omega⟩, ⟨by repeat (first | (with_reducible first | exact HB.out | apply below_alloc | apply pw_below_drewN | apply below_drew1 | refine below_set ?_ GE266.out) | exact HB.out)⟩⟩
          · rw [if_neg c4] at H
            exact absurd H (by simp)
        · rw [if_neg c3] at H
          exact absurd H (by simp)
      · rw [if_neg c2] at H
        have c2b0 : decide (x10_1 < (l0.length : Int)) = false := decide_eq_false c2
        clear c2
        obtain rfl := Option.some.inj H
        go_wp2
        go_ret
        exact ⟨by first | rfl | (simp [errW_none, errW_some] <;> rfl) | (simp [*, errW_none, errW_some] <;> rfl), by repeat (first | (with_reducible first | exact HB.out | apply below_alloc | apply pw_below_drewN | apply below_drew1) | exact HB.out)⟩

/-! ### impl_passQuarters: function 56 -/
def impl_passQuarters.l0 : Nat → List (S57) → Int → Int → Int → Option ((List (S57)))
  | 0, _, _, _, _ => none
  | k + 1, x0, x1, x9, x10 => if x10 < x9 then (if 0 ≤ x10 then (if x10 < (x0.length : Int) then ((impl_Thing_rate.f ((rd_T57 x0 x10).f0) ((rd_T57 x0 x10).f1) ((rd_T57 x0 x10).f2) ((rd_T57 x0 x10).f3)).bind fun t270 => ((some (x0.set (x10 : Int).toNat (⟨(rd_T57 x0 x10).f0, (rd_T57 x0 x10).f1, mx (wrap64 (((rd_T57 x0 x10).f2) - (wrap64 (x1 * t270)))) 0, (rd_T57 x0 x10).f3⟩ : S57) : List (S57))).bind fun y271 => (if ((rd_T57 y271 x10).f2) = 0 then (impl_passQuarters.l0 k (y271.set (x10 : Int).toNat (⟨(rd_T57 y271 x10).f0, (rd_T57 y271 x10).f1, (rd_T57 y271 x10).f2, 0⟩ : S57)) x1 x9 (wrap64 (x10 + 1))) else (impl_passQuarters.l0 k y271 x1 x9 (wrap64 (x10 + 1)))))) else (none)) else (none)) else (some x0)
def impl_passQuarters.f (k : Nat) (l0 : List (S57)) (a1 : Int) : Option ((List (S57))) := impl_passQuarters.l0 k l0 (mn a1 240) (l0.length : Int) 0
theorem impl_passQuarters.mono_l : ∀ k, (∀ y0 y1 y2 y3, LeO (impl_passQuarters.l0 k y0 y1 y2 y3) (impl_passQuarters.l0 (k + 1) y0 y1 y2 y3))
  | 0 => fun _ _ _ _ r h => by simp [impl_passQuarters.l0] at h
  | k + 1 => by
    have ih0 := impl_passQuarters.mono_l k
    · intro y0 y1 y2 y3
      unfold impl_passQuarters.l0
      repeat' first
      | (with_reducible exact ih0 _ _ _ _)
      | (with_reducible exact LeO.refl _)
      | (with_reducible exact LeO.none _)
      | (with_reducible refine LeO.ite ?_ ?_)
      | (with_reducible refine LeO.bind ?_ (fun _ => ?_))
      | exact ih0 _ _ _ _
      | exact LeO.none _
      | refine LeO.ite ?_ ?_
      | refine LeO.bind ?_ (fun _ => ?_)
theorem impl_passQuarters.mono : ∀ a0 a1 k, LeO (impl_passQuarters.f k a0 a1) (impl_passQuarters.f (k + 1) a0 a1) := by
  intro a0 a1 k
  have ih0 := impl_passQuarters.mono_l k
  unfold impl_passQuarters.f
  repeat' first
      | (with_reducible exact ih0 _ _ _ _)
      | (with_reducible exact LeO.refl _)
      | (with_reducible exact LeO.none _)
      | (with_reducible refine LeO.ite ?_ ?_)
      | (with_reducible refine LeO.bind ?_ (fun _ => ?_))
      | exact ih0 _ _ _ _
      | exact LeO.none _
      | refine LeO.ite ?_ ?_
      | refine LeO.bind ?_ (fun _ => ?_)
def impl_passQuarters.T5 : Bool × List (List Nat × List Nat) := (true, [([], []), ([], []), ([1], [1]), ([2], [2]), ([3], [3]), ([], []), ([], []), ([6], [6]), ([7], [7]), ([8], [8]), ([5, 9], [5, 9]), ([4, 10], [4, 10]), ([11], [11]), ([0, 0, 1, 2, 3, 4, 5, 6, 7, 8, 9, 10, 11, 12], [0]), ([13, 0, 1, 2, 3, 4, 5, 6, 7, 8, 9, 10, 11, 12], [13]), ([14, 12, 9, 0, 1, 2, 3, 4, 5, 6, 7, 8, 9, 10, 11, 12], [12, 14])])
def impl_passQuarters.B5 : List Nat := [0, 0, 2, 6, 14, 0, 0, 64, 192, 448, 992, 2046, 4094, 8191, 16383, 32767]
theorem impl_passQuarters.tab5 : rtab .any (opsOf Try.f56 5) = impl_passQuarters.T5 := by kernel_rfl
theorem impl_passQuarters.bits5 : waitsOk impl_passQuarters.T5.2 impl_passQuarters.B5 = true := by kernel_rfl
set_option maxHeartbeats 8000000 in
set_option maxRecDepth 100000 in
theorem impl_passQuarters.calls (k : Nat) (P0_ : Nat → Prop) (u9000_ : Value) (l0 : List (S57)) (a1 : Int) (r : List (S57)) (w0 w : World) (hB : Below w0.heap.size w0 w) (ho0 : Kd.R k57 57 w w0.heap.size P0_ u9000_ l0) (h : impl_passQuarters.f k l0 a1 = some r) :
    Calls Try.prog 56 #[u9000_, .int .i64 a1] w fun e w' => e = .returned (.tuple #[]) ∧ Kd.R k57 57 w' w0.heap.size (fun k_ => (P0_ k_ ∨ w.heap.size ≤ k_)) u9000_ r ∧ Below w0.heap.size w0 w' ∧ Kept w w' (fun k_ => P0_ k_) := by
  have hu57 := Try.underlying57
  have HO0 := Aside0.mk (show Kd.R k57 57 w w0.heap.size (fun k_ => (P0_ k_ ∨ w.heap.size ≤ k_)) u9000_ l0 from Kd.R_mono ho0 (fun k_ hk => (.inl hk)))
  have HK := Aside0.mk (Kept.refl w (fun k_ => P0_ k_))
  have HW0 := Aside0.mk hB.size
  have HB := Aside0.mk hB
  clear hB
  have H : (impl_passQuarters.l0 k l0 (mn a1 240) (l0.length : Int) 0) = some r := h
  clear h
  obtain ⟨ji3, hji3⟩ : ∃ j_ : Int, (mn a1 240) = j_ := ⟨_, rfl⟩
  replace H : (impl_passQuarters.l0 k l0 ji3 (l0.length : Int) 0) = some r := by first | (rw [hji3] at H; exact H) | (simp only [hji3] at H ⊢; exact H)
  (try (have hji3h : ji3 ≤ 240 := by (rw [← hji3]; unfold mn; (repeat' split) <;> omega)))
  (try (have hji3g : ji3 ≤ 64 := by omega))
  have hji3_ : (if 240 < a1 then 240 else a1) = ji3 := hji3
  have H' := Aside0.mk H
  clear H
  obtain ⟨Ao4, co4, eo4⟩ := Kd.R_slice HO0.out
  subst eo4
  go_enter Try.func56, Try.ntmps56
  go_wp2
  go_loopg [10] k (fun kq v10 w' => ∃ (x0_1 : List (S57)) (x10_1 : Int), v10 = .int .i64 x10_1 ∧ Aside0 (impl_passQuarters.l0 kq x0_1 ji3 (l0.length : Int) x10_1 = some r) ∧ Aside0 (kq ≤ k) ∧ Aside0 (Kd.R k57 57 w' w0.heap.size (fun k_ => (P0_ k_ ∨ w.heap.size ≤ k_)) (.slice Ao4 l0.length co4) x0_1) ∧ Aside0 (Kept w w' (fun k_ => P0_ k_)) ∧ Aside0 (Below w0.heap.size w0 w'))
  case atStart => exact ⟨(l0), (0), (by first | rfl | (simp; done) | (simp [*]; done)), H', ⟨Nat.le_refl _⟩, ⟨by (with_reducible repeat (first | apply Kd.R_alloc | apply Kd.R_drewN | apply Kd.R_drew)); exact HO0.out⟩, ⟨by repeat (first | (with_reducible first | exact HK.out | apply Kept.alloc | apply Kept.drewN | apply Kept.drew) | exact HK.out)⟩, ⟨by repeat (first | (with_reducible first | exact HB.out | apply below_alloc | apply pw_below_drewN | apply below_drew1) | exact HB.out)⟩⟩
  case round =>
    clear H'
    try clear p2
    obtain ⟨x0_1, x10_1, rfl, HA, HK1, HO_0, HK, HB⟩ := hrel
    have hl0_1 := (Kd.R_reads' HO_0.out).1
    rw [hl0_1] at HO_0
    (try simp only [hl0_1])
    cases gk with
    | zero => exact absurd HA.out (by simp [impl_passQuarters.l0])
    | succ k1 =>
      have H := HA.out
      clear HA
      simp only [impl_passQuarters.l0] at H
      by_cases c5 : x10_1 < (l0.length : Int)
      · rw [if_pos c5] at H
        have c5b0 : decide (x10_1 < (l0.length : Int)) = true := decide_eq_true c5
        clear c5
        by_cases c6 : 0 ≤ x10_1
        · rw [if_pos c6] at H
          have c6b0 : decide (0 ≤ x10_1) = true := decide_eq_true c6
          clear c6
          by_cases c7 : x10_1 < (x0_1.length : Int)
          · rw [if_pos c7] at H
            have c7b0 : decide (x10_1 < (x0_1.length : Int)) = true := decide_eq_true c7
            clear c7
            replace H := Option.bind_eq_some_iff.mp H
            obtain ⟨t270, A90, H⟩ := H
            replace H : ((some (x0_1.set (x10_1 : Int).toNat (⟨(rd_T57 x0_1 x10_1).f0, (rd_T57 x0_1 x10_1).f1, mx (wrap64 (((rd_T57 x0_1 x10_1).f2) - (wrap64 (ji3 * t270)))) 0, (rd_T57 x0_1 x10_1).f3⟩ : S57) : List (S57))).bind fun y271 => (if ((rd_T57 y271 x10_1).f2) = 0 then (impl_passQuarters.l0 k1 (y271.set (x10_1 : Int).toNat (⟨(rd_T57 y271 x10_1).f0, (rd_T57 y271 x10_1).f1, (rd_T57 y271 x10_1).f2, 0⟩ : S57)) ji3 (l0.length : Int) (wrap64 (x10_1 + 1))) else (impl_passQuarters.l0 k1 y271 ji3 (l0.length : Int) (wrap64 (x10_1 + 1))))) = some r := H
            have A9 := Aside0.mk A90
            clear A90
            obtain ⟨ji10, hji10⟩ : ∃ j_ : Int, (mx (wrap64 (((rd_T57 x0_1 x10_1).f2) - (wrap64 (ji3 * t270)))) 0) = j_ := ⟨_, rfl⟩
            replace H : ((some (x0_1.set (x10_1 : Int).toNat (⟨(rd_T57 x0_1 x10_1).f0, (rd_T57 x0_1 x10_1).f1, ji10, (rd_T57 x0_1 x10_1).f3⟩ : S57) : List (S57))).bind fun y271 => (if ((rd_T57 y271 x10_1).f2) = 0 then (impl_passQuarters.l0 k1 (y271.set (x10_1 : Int).toNat (⟨(rd_T57 y271 x10_1).f0, (rd_T57 y271 x10_1).f1, (rd_T57 y271 x10_1).f2, 0⟩ : S57)) ji3 (l0.length : Int) (wrap64 (x10_1 + 1))) else (impl_passQuarters.l0 k1 y271 ji3 (l0.length : Int) (wrap64 (x10_1 + 1))))) = some r := by first | (rw [hji10] at H; exact H) | (simp only [hji10] at H ⊢; exact H)
            (try rw [hji10] at A9)
            have hji10_ : (if (wrap64 (((rd_T57 x0_1 x10_1).f2) - (wrap64 (ji3 * t270)))) < 0 then 0 else (wrap64 (((rd_T57 x0_1 x10_1).f2) - (wrap64 (ji3 * t270))))) = ji10 := hji10
            obtain ⟨y271, hy271⟩ : ∃ y_ : List (S57), y_ = (x0_1.set (x10_1 : Int).toNat (⟨(rd_T57 x0_1 x10_1).f0, (rd_T57 x0_1 x10_1).f1, ji10, (rd_T57 x0_1 x10_1).f3⟩ : S57)) := ⟨_, rfl⟩
            replace H : (if ((rd_T57 y271 x10_1).f2) = 0 then (impl_passQuarters.l0 k1 (y271.set (x10_1 : Int).toNat (⟨(rd_T57 y271 x10_1).f0, (rd_T57 y271 x10_1).f1, (rd_T57 y271 x10_1).f2, 0⟩ : S57)) ji3 (l0.length : Int) (wrap64 (x10_1 + 1))) else (impl_passQuarters.l0 k1 y271 ji3 (l0.length : Int) (wrap64 (x10_1 + 1)))) = some r := by first | (rw [hy271]; with_reducible exact H) | (have H2_ := (Option.bind_some _ _).symm.trans H; rw [hy271]; with_reducible exact H2_) | (have H2_ := (Option.bind_some _ _).symm.trans H; with_reducible exact H2_) | with_reducible exact H | (rw [hy271]; exact H) | exact H
            have Ny271 := Aside0.mk hy271
            clear hy271
            by_cases c12 : ((rd_T57 y271 x10_1).f2) = 0
            · rw [if_pos c12] at H
              have c12b0 : (((rd_T57 y271 x10_1).f2) == 0) = true := beq_iff_eq.mpr c12
              have c12b1 : (((rd_T57 y271 x10_1).f2) != 0) = false := bne_eq_false_iff_eq.mpr c12
              clear c12
              obtain ⟨y273, hy273⟩ : ∃ y_ : List (S57), y_ = (y271.set (x10_1 : Int).toNat (⟨(rd_T57 y271 x10_1).f0, (rd_T57 y271 x10_1).f1, (rd_T57 y271 x10_1).f2, 0⟩ : S57)) := ⟨_, rfl⟩
              replace H : (impl_passQuarters.l0 k1 y273 ji3 (l0.length : Int) (wrap64 (x10_1 + 1))) = some r := by first | (rw [hy273]; with_reducible exact H) | (have H2_ := (Option.bind_some _ _).symm.trans H; rw [hy273]; with_reducible exact H2_) | (have H2_ := (Option.bind_some _ _).symm.trans H; with_reducible exact H2_) | with_reducible exact H | (rw [hy273]; exact H) | exact H
              have Ny273 := Aside0.mk hy273
              clear hy273
              have H' := Aside0.mk H
              clear H
              have p8 : 0 ≤ (x10_1 : Int) := of_decide_eq_true (by first | (with_reducible assumption) | assumption)
              have q8 : (x10_1 : Int) < ((x0_1.length : Int) : Int) := of_decide_eq_true (by first | (with_reducible assumption) | assumption)
              obtain ⟨go8, co8, eo8, gb8, gl8, cl8, HG8⟩ := Kd.R_form HO_0.out (by omega)
              (first | cases eo8 | (injection eo8 with ea_ en_ ec_; (first | subst ea_ | (injection ea_ with ea_; subst ea_)); subst ec_; clear en_))
              have GB8 := Aside0.mk gb8
              have GG8 := Aside0.mk HG8
              clear gb8 gl8 HG8
              have HMgo8 := Aside0.mk (show (P0_ go8 ∨ w.heap.size ≤ go8) from (HO_0.out.1 _ rfl))
              obtain ⟨ce8, hcl8, hM8, hcc8, hfr8⟩ := Kd.R_elem HO_0.out z57 (x10_1 : Int) p8 q8
              obtain rfl := k57_openM hM8
              have hx8_0 : wr.cell? ⟨go8, (x10_1 : Int).toNat * 4, none⟩ = some (.int .i64 ((rd_T57 x0_1 x10_1).f0)) := hcc8 0 _ rfl
              have hx8_1 : wr.cell? ⟨go8, (x10_1 : Int).toNat * 4 + 1, none⟩ = some (.int .i64 ((rd_T57 x0_1 x10_1).f1)) := hcc8 1 _ rfl
              have hx8_2 : wr.cell? ⟨go8, (x10_1 : Int).toNat * 4 + 2, none⟩ = some (.int .i64 ((rd_T57 x0_1 x10_1).f2)) := hcc8 2 _ rfl
              have hx8_3 : wr.cell? ⟨go8, (x10_1 : Int).toNat * 4 + 3, none⟩ = some (.int .i64 ((rd_T57 x0_1 x10_1).f3)) := hcc8 3 _ rfl
              have hf8_0 : wr.frozen? ⟨go8, (x10_1 : Int).toNat * 4, none⟩ = false := hfr8 0
              have hf8_1 : wr.frozen? ⟨go8, (x10_1 : Int).toNat * 4 + 1, none⟩ = false := hfr8 1
              have hf8_2 : wr.frozen? ⟨go8, (x10_1 : Int).toNat * 4 + 2, none⟩ = false := hfr8 2
              have hf8_3 : wr.frozen? ⟨go8, (x10_1 : Int).toNat * 4 + 3, none⟩ = false := hfr8 3
              clear hcl8 hcc8 hfr8 hM8
              replace p8 := eq_true p8
              replace q8 := eq_true q8
              try go_wp2
              have n0_ := Aside0.mk (Kd.R_drew HO_0.out)
              have n1_ := Aside0.mk (Kept.drew HK.out)
              have n2_ := Aside0.mk (below_drew1 HB.out)
              clear HO_0
              clear HK
              clear HB
              have HO_0 := n0_
              have HK := n1_
              have HB := n2_
              clear n0_ n1_ n2_
              have p268 : 0 ≤ (x10_1 : Int) := of_decide_eq_true (by first | (with_reducible assumption) | assumption)
              have q268 : x10_1 < (x0_1.length : Int) := of_decide_eq_true (by first | (with_reducible assumption) | assumption)
              obtain ⟨ad268, e268, hx268_0, hx268_1, hx268_2, hx268_3⟩ := at_T57 (Kd.R_reads' HO_0.out).2.2 x10_1 p268 q268
              obtain rfl : (⟨go8, 0, none⟩ : Addr) = ad268 := (by injection e268)
              (first | simp only [add_plain] at hx268_0 | simp only [add_at] at hx268_0 | simp only [Addr.add, Nat.zero_add] at hx268_0 | skip)
              (first | simp only [add_plain] at hx268_1 | simp only [add_at] at hx268_1 | simp only [Addr.add, Nat.zero_add] at hx268_1 | skip)
              (first | simp only [add_plain] at hx268_2 | simp only [add_at] at hx268_2 | simp only [Addr.add, Nat.zero_add] at hx268_2 | skip)
              (first | simp only [add_plain] at hx268_3 | simp only [add_at] at hx268_3 | simp only [Addr.add, Nat.zero_add] at hx268_3 | skip)
              replace p268 := eq_true p268
              replace q268 := eq_true q268
              have p269 : 0 ≤ (x10_1 : Int) := of_decide_eq_true (by first | (with_reducible assumption) | assumption)
              have q269 : x10_1 < (x0_1.length : Int) := of_decide_eq_true (by first | (with_reducible assumption) | assumption)
              obtain ⟨ad269, e269, hx269_0, hx269_1, hx269_2, hx269_3⟩ := at_T57 (Kd.R_reads' HO_0.out).2.2 x10_1 p269 q269
              obtain rfl : (⟨go8, 0, none⟩ : Addr) = ad269 := (by injection e269)
              (first | simp only [add_plain] at hx269_0 | simp only [add_at] at hx269_0 | simp only [Addr.add, Nat.zero_add] at hx269_0 | skip)
              (first | simp only [add_plain] at hx269_1 | simp only [add_at] at hx269_1 | simp only [Addr.add, Nat.zero_add] at hx269_1 | skip)
              (first | simp only [add_plain] at hx269_2 | simp only [add_at] at hx269_2 | simp only [Addr.add, Nat.zero_add] at hx269_2 | skip)
              (first | simp only [add_plain] at hx269_3 | simp only [add_at] at hx269_3 | simp only [Addr.add, Nat.zero_add] at hx269_3 | skip)
              replace p269 := eq_true p269
              replace q269 := eq_true q269
              refine start_ (n := 16) (S := fun w' => w'.cell? ⟨go8, (x10_1).toNat * 4, none⟩ = some (.int .i64 ((rd_T57 x0_1 x10_1).f0)) ∧ w'.cell? ⟨go8, (x10_1).toNat * 4 + 1, none⟩ = some (.int .i64 ((rd_T57 x0_1 x10_1).f1)) ∧ w'.cell? ⟨go8, (x10_1).toNat * 4 + 2, none⟩ = some (.int .i64 ((rd_T57 x0_1 x10_1).f2)) ∧ w'.cell? ⟨go8, (x10_1).toNat * 4 + 3, none⟩ = some (.int .i64 ((rd_T57 x0_1 x10_1).f3)) ∧ w'.cell? ⟨go8, (x10_1).toNat * 4, none⟩ = some (.int .i64 ((rd_T57 x0_1 x10_1).f0)) ∧ w'.cell? ⟨go8, (x10_1).toNat * 4 + 1, none⟩ = some (.int .i64 ((rd_T57 x0_1 x10_1).f1)) ∧ w'.cell? ⟨go8, (x10_1).toNat * 4 + 2, none⟩ = some (.int .i64 ((rd_T57 x0_1 x10_1).f2)) ∧ w'.cell? ⟨go8, (x10_1).toNat * 4 + 3, none⟩ = some (.int .i64 ((rd_T57 x0_1 x10_1).f3))) (ds := [15]) #[false, false, false, false, false, false, false, false, false, false, false, false, false, false, false, false] (by kernel_rfl) rfl rfl ⟨hx268_0, hx268_1, hx268_2, hx268_3, hx269_0, hx269_1, hx269_2, hx269_3⟩ (fun hHeld => ?_); refine with_tabW impl_passQuarters.tab5 impl_passQuarters.bits5 (fun HT_ HW_ => ?_)
              generalize wr.drew = w14 at HO_0 HK HB hx268_0 hx268_1 hx268_2 hx268_3 hx269_0 hx269_1 hx269_2 hx269_3 hHeld ⊢
              refine pure_ (i := 0) (N := some 16) (v := ?_) (a' := ?_) #[true, false, false, false, false, false, false, false, false, false, false, false, false, false, false, false] rfl rfl (any_of HT_.out (by kernel_rfl)) (fun _ _ _ h => h) (Or.inl ⟨by rfl, ?_⟩) ?_ ?_
              rotate_left
              · intro w'
                go_simp
                with_reducible rfl
              rotate_left
              · simp only [Act.put, List.setIfInBounds_toArray, List.set_cons_zero, List.set_cons_succ, i64_w, i32_w]
                rfl
              refine pure_ (i := 1) (N := some 17) (v := ?_) (a' := ?_) #[true, true, false, false, false, false, false, false, false, false, false, false, false, false, false, false] rfl rfl (any_of HT_.out (by kernel_rfl)) (fun _ _ _ h => h) (Or.inl ⟨by rfl, ?_⟩) ?_ ?_
              rotate_left
              · intro w'
                go_simp
                with_reducible rfl
              rotate_left
              · simp only [Act.put, List.setIfInBounds_toArray, List.set_cons_zero, List.set_cons_succ, i64_w, i32_w]
                rfl
              refine pure_ (i := 2) (N := some 18) (v := ?_) (a' := ?_) #[true, true, true, false, false, false, false, false, false, false, false, false, false, false, false, false] rfl rfl (any_of HT_.out (by kernel_rfl)) (fun _ _ _ h => h) (Or.inl ⟨by rfl, ?_⟩) ?_ ?_
              rotate_left
              · intro w'
                go_simp
                with_reducible rfl
              rotate_left
              · simp only [Act.put, List.setIfInBounds_toArray, List.set_cons_zero, List.set_cons_succ, i64_w, i32_w]
                rfl
              refine pure_ (i := 3) (N := some 19) (v := ?_) (a' := ?_) #[true, true, true, true, false, false, false, false, false, false, false, false, false, false, false, false] rfl rfl (any_of HT_.out (by kernel_rfl)) (fun _ _ _ h => h) (Or.inl ⟨by rfl, ?_⟩) ?_ ?_
              rotate_left
              · intro w'
                go_simp
                with_reducible rfl
              rotate_left
              · simp only [Act.put, List.setIfInBounds_toArray, List.set_cons_zero, List.set_cons_succ, i64_w, i32_w]
                rfl
              refine pure_ (i := 5) (N := some 21) (v := ?_) (a' := ?_) #[true, true, true, true, false, true, false, false, false, false, false, false, false, false, false, false] rfl rfl (any_of HT_.out (by kernel_rfl)) (fun _ _ _ h => h) (Or.inl ⟨by rfl, ?_⟩) ?_ ?_
              rotate_left
              · intro w'
                go_simp
                with_reducible rfl
              rotate_left
              · simp only [Act.put, List.setIfInBounds_toArray, List.set_cons_zero, List.set_cons_succ, i64_w, i32_w]
                rfl
              refine pure_ (i := 6) (N := some 22) (v := ?_) (a' := ?_) #[true, true, true, true, false, true, true, false, false, false, false, false, false, false, false, false] rfl rfl (any_of HT_.out (by kernel_rfl)) (fun _ _ _ h => h) (Or.inl ⟨by rfl, ?_⟩) ?_ ?_
              rotate_left
              · intro w'
                go_simp
                with_reducible rfl
              rotate_left
              · simp only [Act.put, List.setIfInBounds_toArray, List.set_cons_zero, List.set_cons_succ, i64_w, i32_w]
                rfl
              refine pure_ (i := 7) (N := some 23) (v := ?_) (a' := ?_) #[true, true, true, true, false, true, true, true, false, false, false, false, false, false, false, false] rfl rfl (any_of HT_.out (by kernel_rfl)) (fun _ _ _ h => h) (Or.inl ⟨by rfl, ?_⟩) ?_ ?_
              rotate_left
              · intro w'
                go_simp
                with_reducible rfl
              rotate_left
              · simp only [Act.put, List.setIfInBounds_toArray, List.set_cons_zero, List.set_cons_succ, i64_w, i32_w]
                rfl
              refine take_ (i := 4) (N := some 20) (v := ?_) (a' := ?_) #[true, true, true, true, true, true, true, true, false, false, false, false, false, false, false, false] rfl rfl (take_ofW HT_.out HW_.out (by kernel_rfl)) (fun _ _ _ h => h) (Or.inl ⟨by rfl, ?_⟩) hHeld ?_ ?_
              rotate_left
              · rintro w' ⟨s0, s1, s2, s3, s4, s5, s6, s7⟩
                go_simp
                with_reducible rfl
              rotate_left
              · simp only [Act.put, List.setIfInBounds_toArray, List.set_cons_zero, List.set_cons_succ, i64_w, i32_w]
                rfl
              refine take_ (i := 8) (N := some 24) (v := ?_) (a' := ?_) #[true, true, true, true, true, true, true, true, true, false, false, false, false, false, false, false] rfl rfl (take_ofW HT_.out HW_.out (by kernel_rfl)) (fun _ _ _ h => h) (Or.inl ⟨by rfl, ?_⟩) hHeld ?_ ?_
              rotate_left
              · rintro w' ⟨s0, s1, s2, s3, s4, s5, s6, s7⟩
                go_simp
                with_reducible rfl
              rotate_left
              · simp only [Act.put, List.setIfInBounds_toArray, List.set_cons_zero, List.set_cons_succ, i64_w, i32_w]
                rfl
              refine one_ (i := 9) (N := some 25) #[true, true, true, true, true, true, true, true, true, true, false, false, false, false, false, false] rfl rfl (one_of HT_.out (by kernel_rfl)) (by decide) (fun K hK => ?_)
              refine goes_ Try.func78 (by kernel_rfl) rfl #[.agg #[.int .i64 ((rd_T57 x0_1 x10_1).f0), .int .i64 ((rd_T57 x0_1 x10_1).f1), .int .i64 ((rd_T57 x0_1 x10_1).f2), .int .i64 ((rd_T57 x0_1 x10_1).f3)]] (by rfl) rfl rfl (by (try simp only [List.map_toArray, List.map_cons, List.map_nil]); first | done | rfl | (simp only [List.length_drop, List.length_take]; rfl)) ?_
              with_reducible refine (impl_Thing_rate.calls ((rd_T57 x0_1 x10_1).f0) ((rd_T57 x0_1 x10_1).f1) ((rd_T57 x0_1 x10_1).f2) ((rd_T57 x0_1 x10_1).f3) t270 _ A9.out).mono ?_
              rintro e w15 ⟨rfl, hb⟩
              have HS0_ := (hb.cell (World.block_lt_of_cell? _ _ (hHeld.1))).trans (hHeld.1)
              have HS1_ := (hb.cell (World.block_lt_of_cell? _ _ (hHeld.2.1))).trans (hHeld.2.1)
              have HS2_ := (hb.cell (World.block_lt_of_cell? _ _ (hHeld.2.2.1))).trans (hHeld.2.2.1)
              have HS3_ := (hb.cell (World.block_lt_of_cell? _ _ (hHeld.2.2.2.1))).trans (hHeld.2.2.2.1)
              have HS4_ := (hb.cell (World.block_lt_of_cell? _ _ (hHeld.2.2.2.2.1))).trans (hHeld.2.2.2.2.1)
              have HS5_ := (hb.cell (World.block_lt_of_cell? _ _ (hHeld.2.2.2.2.2.1))).trans (hHeld.2.2.2.2.2.1)
              have HS6_ := (hb.cell (World.block_lt_of_cell? _ _ (hHeld.2.2.2.2.2.2.1))).trans (hHeld.2.2.2.2.2.2.1)
              have HS7_ := (hb.cell (World.block_lt_of_cell? _ _ (hHeld.2.2.2.2.2.2.2))).trans (hHeld.2.2.2.2.2.2.2)
              refine ⟨_, rfl, ?_⟩
              have n0_ := Aside0.mk (Kd.R_below (by (with_reducible repeat (first | apply Kd.R_alloc | apply Kd.R_drewN | apply Kd.R_drew)); exact HO_0.out) hb)
              have n1_ := Aside0.mk (Kept.below (S := (fun k_ => P0_ k_)) (by repeat (first | (with_reducible first | exact HK.out | apply Kept.alloc | apply Kept.drewN | apply Kept.drew) | exact HK.out)) hb)
              have n2_ := Aside0.mk (below_step (by repeat (first | (with_reducible first | exact HB.out | apply below_alloc | apply pw_below_drewN | apply below_drew1) | exact HB.out)) hb)
              clear HO_0
              clear HK
              clear HB
              have HO_0 := n0_
              have HK := n1_
              have HB := n2_
              clear n0_ n1_ n2_
              (try clear hb)
              (try clear hb2)
              (try clear hk)
              (try clear hi)
              have p11 : 0 ≤ (x10_1 : Int) := of_decide_eq_true (by first | (with_reducible assumption) | assumption)
              have q11 : (x10_1 : Int) < ((x0_1.length : Int) : Int) := of_decide_eq_true (by first | (with_reducible assumption) | assumption)
              obtain ⟨ce11, hcl11, hM11, hcc11, hfr11⟩ := Kd.R_elem HO_0.out z57 (x10_1 : Int) p11 q11
              obtain rfl := k57_openM hM11
              have hx11_0 : World.cell? _ ⟨go8, (x10_1 : Int).toNat * 4, none⟩ = some (.int .i64 ((rd_T57 x0_1 x10_1).f0)) := hcc11 0 _ rfl
              have hx11_1 : World.cell? _ ⟨go8, (x10_1 : Int).toNat * 4 + 1, none⟩ = some (.int .i64 ((rd_T57 x0_1 x10_1).f1)) := hcc11 1 _ rfl
              have hx11_2 : World.cell? _ ⟨go8, (x10_1 : Int).toNat * 4 + 2, none⟩ = some (.int .i64 ((rd_T57 x0_1 x10_1).f2)) := hcc11 2 _ rfl
              have hx11_3 : World.cell? _ ⟨go8, (x10_1 : Int).toNat * 4 + 3, none⟩ = some (.int .i64 ((rd_T57 x0_1 x10_1).f3)) := hcc11 3 _ rfl
              have hf11_0 : World.frozen? _ ⟨go8, (x10_1 : Int).toNat * 4, none⟩ = false := hfr11 0
              have hf11_1 : World.frozen? _ ⟨go8, (x10_1 : Int).toNat * 4 + 1, none⟩ = false := hfr11 1
              have hf11_2 : World.frozen? _ ⟨go8, (x10_1 : Int).toNat * 4 + 2, none⟩ = false := hfr11 2
              have hf11_3 : World.frozen? _ ⟨go8, (x10_1 : Int).toNat * 4 + 3, none⟩ = false := hfr11 3
              clear hcl11 hcc11 hfr11 hM11
              replace p11 := eq_true p11
              replace q11 := eq_true q11
              obtain ⟨ce16, hcl16, hM16, hcc16, hfr16⟩ := Kd.R_elem HO_0.out z57 (x10_1 : Int) (of_decide_eq_true (by first | (with_reducible assumption) | assumption)) (by have h_ : (x10_1 : Int) < ((x0_1.length : Int) : Int) := of_decide_eq_true (by first | (with_reducible assumption) | assumption); first | exact h_ | (have e_ := (Kd.R_reads' HO_0.out).1; omega) | simpa using h_)
              obtain rfl := k57_openM hM16
              have HP16 := (Kd.R_seg HO_0.out (x10_1 : Int) (of_decide_eq_true (by first | (with_reducible assumption) | assumption)) (by have h_ : (x10_1 : Int) < ((x0_1.length : Int) : Int) := of_decide_eq_true (by first | (with_reducible assumption) | assumption); first | exact h_ | (have e_ := (Kd.R_reads' HO_0.out).1; omega) | simpa using h_) (seg := [.int .i64 ji10]) (j := 2) hcl16 hcc16 (show 3 ≤ 4 from by decide) (x' := (⟨(rd_T57 x0_1 x10_1).f0, (rd_T57 x0_1 x10_1).f1, ji10, (rd_T57 x0_1 x10_1).f3⟩ : S57)) (k57_mkM _ _ _ (⟨(rd_T57 x0_1 x10_1).f0, (rd_T57 x0_1 x10_1).f1, ji10, (rd_T57 x0_1 x10_1).f3⟩ : S57) ) (fun _ hk => hk)).1
              rw [← Ny271.out] at HP16
              have HQ16 := Aside0.mk HP16
              clear hcl16 hcc16 hfr16 hM16 HP16
              refine hK.out _ _ ⟨HS0_, HS1_, HS2_, HS3_, HS4_, HS5_, HS6_, HS7_⟩ (fun hHeld => ?_)
              clear hK K
              refine norm_ (a' := ?_) ?_ ?_
              rotate_left
              · show Act.put _ (some 25) _ = _
                simp only [Act.put, List.setIfInBounds_toArray, List.set_cons_zero, List.set_cons_succ, i64_w, i32_w]
                rfl
              refine pure_ (i := 10) (N := some 26) (v := ?_) (a' := ?_) #[true, true, true, true, true, true, true, true, true, true, true, false, false, false, false, false] rfl rfl (any_of HT_.out (by kernel_rfl)) (fun _ _ _ h => h) (Or.inl ⟨by rfl, ?_⟩) ?_ ?_
              rotate_left
              · intro w'
                go_simp
                with_reducible rfl
              rotate_left
              · simp only [Act.put, List.setIfInBounds_toArray, List.set_cons_zero, List.set_cons_succ, i64_w, i32_w]
                rfl
              refine pure_ (i := 11) (N := some 27) (v := ?_) (a' := ?_) #[true, true, true, true, true, true, true, true, true, true, true, true, false, false, false, false] rfl rfl (any_of HT_.out (by kernel_rfl)) (fun _ _ _ h => h) (Or.inl ⟨by rfl, ?_⟩) ?_ ?_
              rotate_left
              · intro w'
                go_simp
                with_reducible rfl
              rotate_left
              · simp only [Act.put, List.setIfInBounds_toArray, List.set_cons_zero, List.set_cons_succ, i64_w, i32_w]
                rfl
              refine pure_ (i := 12) (N := some 28) (v := ?_) (a' := ?_) #[true, true, true, true, true, true, true, true, true, true, true, true, true, false, false, false] rfl rfl (any_of HT_.out (by kernel_rfl)) (fun _ _ _ h => h) (Or.inl ⟨by rfl, ?_⟩) ?_ ?_
              rotate_left
              · intro w'
                go_simp
                with_reducible rfl
              rotate_left
              · simp only [Act.put, List.setIfInBounds_toArray, List.set_cons_zero, List.set_cons_succ, i64_w, i32_w]
                rfl
              refine pure_ (i := 13) (N := some 29) (v := ?_) (a' := ?_) #[true, true, true, true, true, true, true, true, true, true, true, true, true, true, false, false] rfl rfl (any_of HT_.out (by kernel_rfl)) (fun _ _ _ h => h) (Or.inl ⟨by rfl, ?_⟩) ?_ ?_
              rotate_left
              · intro w'
                go_simp
                with_reducible rfl
              rotate_left
              · simp only [Act.put, List.setIfInBounds_toArray, List.set_cons_zero, List.set_cons_succ, i64_w, i32_w]
                rfl
              refine pure_ (i := 14) (N := some 30) (v := ?_) (a' := ?_) #[true, true, true, true, true, true, true, true, true, true, true, true, true, true, true, false] rfl rfl (any_of HT_.out (by kernel_rfl)) (fun _ _ _ h => h) (Or.inl ⟨by rfl, ?_⟩) ?_ ?_
              rotate_left
              · intro w'
                go_simp
                with_reducible rfl
              rotate_left
              · simp only [Act.put, List.setIfInBounds_toArray, List.set_cons_zero, List.set_cons_succ, i64_w, i32_w]
                rfl
              refine last_ (i := 15) (N := none) #[true, true, true, true, true, true, true, true, true, true, true, true, true, true, true, true] rfl rfl (one_of HT_.out (by kernel_rfl)) (by decide) (fun K hK => ?_)
              refine skip_ (w1 := ?_) (by rfl) rfl ?_ ?_
              rotate_left
              · go_simp
                rfl
              refine hK.out _ _ ?_
              clear hK K
              refine done_ (done_of HT_.out (by kernel_rfl)) ?_
              have n0_ : Aside0 (Kd.R k57 57 (w15.setCell ⟨go8, (x10_1 : Int).toNat * 4 + 2, none⟩ (.int .i64 ji10)) w0.heap.size (fun k_ => (P0_ k_ ∨ w.heap.size ≤ k_)) (.slice (some ⟨go8, 0, none⟩) x0_1.length co4) y271) := ⟨by (with_reducible repeat (first | apply Kd.R_alloc | apply Kd.R_drewN | apply Kd.R_drew)); exact HQ16.out⟩
              have n1_ : Aside0 (Kept w (w15.setCell ⟨go8, (x10_1 : Int).toNat * 4 + 2, none⟩ (.int .i64 ji10)) (fun k_ => P0_ k_)) := ⟨by repeat (first | (with_reducible first | exact HK.out | apply Kept.alloc | apply Kept.drewN | apply Kept.drew | refine Kept.setCell ?_ HMgo8.out _) | exact HK.out)⟩
              have n2_ : Aside0 (Below w0.heap.size w0 (w15.setCell ⟨go8, (x10_1 : Int).toNat * 4 + 2, none⟩ (.int .i64 ji10))) := ⟨by repeat (first | (with_reducible first | exact HB.out | apply below_alloc | apply pw_below_drewN | apply below_drew1 | refine below_set ?_ GB8.out) | exact HB.out)⟩
              (try clear HO_0)
              (try clear HK)
              (try clear HB)
              generalize (w15.setCell ⟨go8, (x10_1 : Int).toNat * 4 + 2, none⟩ (.int .i64 ji10)) = w17 at n0_ n1_ n2_ ⊢
              have HO_0 := n0_
              have HK := n1_
              have HB := n2_
              clear n0_ n1_ n2_
              have p272 : 0 ≤ (x10_1 : Int) := of_decide_eq_true (by first | (with_reducible assumption) | assumption)
              have q272 : x10_1 < (y271.length : Int) := (by have h_ : (x10_1 : Int) < ((x0_1.length : Int) : Int) := of_decide_eq_true (by first | (with_reducible assumption) | assumption); first | (have e_ := (Kd.R_reads' HO_0.out).1; omega) | simpa only [Ny271.out, List.length_set] using h_)
              have ql272 : ((x10_1 : Int) < ((x0_1.length : Int) : Int)) = True := eq_true (of_decide_eq_true (by first | (with_reducible assumption) | assumption))
              obtain ⟨ad272, e272, hx272_0, hx272_1, hx272_2, hx272_3⟩ := at_T57 (Kd.R_reads' HO_0.out).2.2 x10_1 p272 q272
              obtain rfl : (⟨go8, 0, none⟩ : Addr) = ad272 := (by injection e272)
              (first | simp only [add_plain] at hx272_0 | simp only [add_at] at hx272_0 | simp only [Addr.add, Nat.zero_add] at hx272_0 | skip)
              (first | simp only [add_plain] at hx272_1 | simp only [add_at] at hx272_1 | simp only [Addr.add, Nat.zero_add] at hx272_1 | skip)
              (first | simp only [add_plain] at hx272_2 | simp only [add_at] at hx272_2 | simp only [Addr.add, Nat.zero_add] at hx272_2 | skip)
              (first | simp only [add_plain] at hx272_3 | simp only [add_at] at hx272_3 | simp only [Addr.add, Nat.zero_add] at hx272_3 | skip)
              replace p272 := eq_true p272
              replace q272 := eq_true q272
              have p13 : 0 ≤ (x10_1 : Int) := of_decide_eq_true (by first | (with_reducible assumption) | assumption)
              have q13 : (x10_1 : Int) < ((x0_1.length : Int) : Int) := of_decide_eq_true (by first | (with_reducible assumption) | assumption)
              obtain ⟨ce13, hcl13, hM13, hcc13, hfr13⟩ := Kd.R_elem HO_0.out z57 (x10_1 : Int) p13 q13
              obtain rfl := k57_openM hM13
              have hx13_0 : w17.cell? ⟨go8, (x10_1 : Int).toNat * 4, none⟩ = some (.int .i64 ((rd_T57 y271 x10_1).f0)) := hcc13 0 _ rfl
              have hx13_1 : w17.cell? ⟨go8, (x10_1 : Int).toNat * 4 + 1, none⟩ = some (.int .i64 ((rd_T57 y271 x10_1).f1)) := hcc13 1 _ rfl
              have hx13_2 : w17.cell? ⟨go8, (x10_1 : Int).toNat * 4 + 2, none⟩ = some (.int .i64 ((rd_T57 y271 x10_1).f2)) := hcc13 2 _ rfl
              have hx13_3 : w17.cell? ⟨go8, (x10_1 : Int).toNat * 4 + 3, none⟩ = some (.int .i64 ((rd_T57 y271 x10_1).f3)) := hcc13 3 _ rfl
              have hf13_0 : w17.frozen? ⟨go8, (x10_1 : Int).toNat * 4, none⟩ = false := hfr13 0
              have hf13_1 : w17.frozen? ⟨go8, (x10_1 : Int).toNat * 4 + 1, none⟩ = false := hfr13 1
              have hf13_2 : w17.frozen? ⟨go8, (x10_1 : Int).toNat * 4 + 2, none⟩ = false := hfr13 2
              have hf13_3 : w17.frozen? ⟨go8, (x10_1 : Int).toNat * 4 + 3, none⟩ = false := hfr13 3
              clear hcl13 hcc13 hfr13 hM13
              replace p13 := eq_true p13
              replace q13 := eq_true q13
              have HX18 := Aside0.mk (show Kd.R k57 57 w17 w0.heap.size (fun k_ => (P0_ k_ ∨ w.heap.size ≤ k_)) (.slice (some ⟨go8, 0, none⟩) x0_1.length co4) y271 from (by (with_reducible repeat (first | apply Kd.R_alloc | apply Kd.R_drewN | apply Kd.R_drew)); exact HO_0.out))
              obtain ⟨ce18, hcl18, hM18, hcc18, hfr18⟩ := Kd.R_elem HX18.out z57 (x10_1 : Int) (of_decide_eq_true (by first | (with_reducible assumption) | assumption)) (by have h_ : (x10_1 : Int) < ((x0_1.length : Int) : Int) := of_decide_eq_true (by first | (with_reducible assumption) | assumption); first | exact h_ | (have e_ := (Kd.R_reads' HO_0.out).1; omega) | simpa using h_)
              obtain rfl := k57_openM hM18
              have HP18 := Kd.R_seg HX18.out (x10_1 : Int) (of_decide_eq_true (by first | (with_reducible assumption) | assumption)) (by have h_ : (x10_1 : Int) < ((x0_1.length : Int) : Int) := of_decide_eq_true (by first | (with_reducible assumption) | assumption); first | exact h_ | (have e_ := (Kd.R_reads' HO_0.out).1; omega) | simpa using h_) (seg := [.int .i64 0]) (j := 3) hcl18 hcc18 (show 4 ≤ 4 from by decide) (x' := (⟨(rd_T57 y271 x10_1).f0, (rd_T57 y271 x10_1).f1, (rd_T57 y271 x10_1).f2, 0⟩ : S57)) (k57_mkM _ _ _ (⟨(rd_T57 y271 x10_1).f0, (rd_T57 y271 x10_1).f1, (rd_T57 y271 x10_1).f2, 0⟩ : S57) ) (fun _ hk => hk)
              have hx18_3 := hcc18 3 _ rfl
              (try simp only [show (k57).sz = 4 from rfl, Nat.mul_one, Nat.add_zero] at hx18_3)
              have hf18_3 := hfr18 3
              (try simp only [show (k57).sz = 4 from rfl, Nat.mul_one, Nat.add_zero] at hf18_3)
              clear hcl18 hcc18 hfr18 hM18
              try go_wp2_with (first | ((with_reducible refine gate_store (t := 3) (p := 38) rfl ?_); refine store_event (t := 3) (p := 38) (v := ?vo_w19) (w1 := (w17.setCell ⟨go8, (x10_1 : Int).toNat * 4 + 3, none⟩ (.int .i64 0))) ?hg ?ho ?hn ?hr ?_; (case ho => rfl); (case hg => rfl); (case hn => rfl); (case hr => first | (go_simp; done) | (go_simp; rfl)); intro w19 hw; have hg : w17.grownBy w19 (some go8) := (by rw [hw]; exact HP18.2); have hp_ : Kd.R k57 57 w19 w0.heap.size (fun k_ => (P0_ k_ ∨ w.heap.size ≤ k_)) (.slice (some ⟨go8, 0, none⟩) x0_1.length co4) y273 := (by rw [hw, Ny273.out]; exact HP18.1); clear HP18; have n0_ := Aside0.mk (hp_); have n1_ := Aside0.mk ((by rw [hw]; exact below_set (HB.out) GB8.out : Below w0.heap.size w0 w19)); have n2_ := Aside0.mk (Kept.of_grown (S := (fun k_ => P0_ k_)) hg (by repeat (first | (with_reducible first | exact HK.out | apply Kept.alloc | apply Kept.drewN | apply Kept.drew) | exact HK.out)) (fun k_ e_ => (HO_0.out.1 k_ e_))); clear HO_0; clear HB; clear HK; have HO_0 := n0_; have HB := n1_; have HK := n2_; clear n0_ n1_ n2_; clear hg hw hp_))
              (try simp only [← hl0_1])
              go_roundg k1
              case measure => have := HK1.out; omega
              case rel => exact ⟨(y273), (wrap64 (x10_1 + 1)), (by first | rfl | (simp; done) | (simp [*]; done)), H', ⟨by have := HK1.out; omega⟩, ⟨by (try simp only [hl0_1]); (with_reducible repeat (first | apply Kd.R_alloc | apply Kd.R_drewN | apply Kd.R_drew)); exact HO_0.out⟩, ⟨by repeat (first | (with_reducible first | exact HK.out | apply Kept.alloc | apply Kept.drewN | apply Kept.drew) | exact HK.out)⟩, ⟨by repeat (first | (with_reducible first | exact HB.out | apply below_alloc | apply pw_below_drewN | apply below_drew1) | exact HB.out)⟩⟩
            · rw [if_neg c12] at H
              have c12b0 : (((rd_T57 y271 x10_1).f2) == 0) = false := beq_eq_false_iff_ne.mpr c12
              have c12b1 : (((rd_T57 y271 x10_1).f2) != 0) = true := bne_iff_ne.mpr c12
              have H' := Aside0.mk H
              clear H
              have p8 : 0 ≤ (x10_1 : Int) := of_decide_eq_true (by first | (with_reducible assumption) | assumption)
              have q8 : (x10_1 : Int) < ((x0_1.length : Int) : Int) := of_decide_eq_true (by first | (with_reducible assumption) | assumption)
              obtain ⟨go8, co8, eo8, gb8, gl8, cl8, HG8⟩ := Kd.R_form HO_0.out (by omega)
              (first | cases eo8 | (injection eo8 with ea_ en_ ec_; (first | subst ea_ | (injection ea_ with ea_; subst ea_)); subst ec_; clear en_))
              have GB8 := Aside0.mk gb8
              have GG8 := Aside0.mk HG8
              clear gb8 gl8 HG8
              have HMgo8 := Aside0.mk (show (P0_ go8 ∨ w.heap.size ≤ go8) from (HO_0.out.1 _ rfl))
              obtain ⟨ce8, hcl8, hM8, hcc8, hfr8⟩ := Kd.R_elem HO_0.out z57 (x10_1 : Int) p8 q8
              obtain rfl := k57_openM hM8
              have hx8_0 : wr.cell? ⟨go8, (x10_1 : Int).toNat * 4, none⟩ = some (.int .i64 ((rd_T57 x0_1 x10_1).f0)) := hcc8 0 _ rfl
              have hx8_1 : wr.cell? ⟨go8, (x10_1 : Int).toNat * 4 + 1, none⟩ = some (.int .i64 ((rd_T57 x0_1 x10_1).f1)) := hcc8 1 _ rfl
              have hx8_2 : wr.cell? ⟨go8, (x10_1 : Int).toNat * 4 + 2, none⟩ = some (.int .i64 ((rd_T57 x0_1 x10_1).f2)) := hcc8 2 _ rfl
              have hx8_3 : wr.cell? ⟨go8, (x10_1 : Int).toNat * 4 + 3, none⟩ = some (.int .i64 ((rd_T57 x0_1 x10_1).f3)) := hcc8 3 _ rfl
              have hf8_0 : wr.frozen? ⟨go8, (x10_1 : Int).toNat * 4, none⟩ = false := hfr8 0
              have hf8_1 : wr.frozen? ⟨go8, (x10_1 : Int).toNat * 4 + 1, none⟩ = false := hfr8 1
              have hf8_2 : wr.frozen? ⟨go8, (x10_1 : Int).toNat * 4 + 2, none⟩ = false := hfr8 2
              have hf8_3 : wr.frozen? ⟨go8, (x10_1 : Int).toNat * 4 + 3, none⟩ = false := hfr8 3
              clear hcl8 hcc8 hfr8 hM8
              replace p8 := eq_true p8
              replace q8 := eq_true q8
              try go_wp2
              have n0_ := Aside0.mk (Kd.R_drew HO_0.out)
              have n1_ := Aside0.mk (Kept.drew HK.out)
              have n2_ := Aside0.mk (below_drew1 HB.out)
              clear HO_0
              clear HK
              clear HB
              have HO_0 := n0_
              have HK := n1_
              have HB := n2_
              clear n0_ n1_ n2_
              have p268 : 0 ≤ (x10_1 : Int) := of_decide_eq_true (by first | (with_reducible assumption) | assumption)
              have q268 : x10_1 < (x0_1.length : Int) := of_decide_eq_true (by first | (with_reducible assumption) | assumption)
              obtain ⟨ad268, e268, hx268_0, hx268_1, hx268_2, hx268_3⟩ := at_T57 (Kd.R_reads' HO_0.out).2.2 x10_1 p268 q268
              obtain rfl : (⟨go8, 0, none⟩ : Addr) = ad268 := (by injection e268)
              (first | simp only [add_plain] at hx268_0 | simp only [add_at] at hx268_0 | simp only [Addr.add, Nat.zero_add] at hx268_0 | skip)
              (first | simp only [add_plain] at hx268_1 | simp only [add_at] at hx268_1 | simp only [Addr.add, Nat.zero_add] at hx268_1 | skip)
              (first | simp only [add_plain] at hx268_2 | simp only [add_at] at hx268_2 | simp only [Addr.add, Nat.zero_add] at hx268_2 | skip)
              (first | simp only [add_plain] at hx268_3 | simp only [add_at] at hx268_3 | simp only [Addr.add, Nat.zero_add] at hx268_3 | skip)
              replace p268 := eq_true p268
              replace q268 := eq_true q268
              have p269 : 0 ≤ (x10_1 : Int) := of_decide_eq_true (by first | (with_reducible assumption) | assumption)
              have q269 : x10_1 < (x0_1.length : Int) := of_decide_eq_true (by first | (with_reducible assumption) | assumption)
              obtain ⟨ad269, e269, hx269_0, hx269_1, hx269_2, hx269_3⟩ := at_T57 (Kd.R_reads' HO_0.out).2.2 x10_1 p269 q269
              obtain rfl : (⟨go8, 0, none⟩ : Addr) = ad269 := (by injection e269)
              (first | simp only [add_plain] at hx269_0 | simp only [add_at] at hx269_0 | simp only [Addr.add, Nat.zero_add] at hx269_0 | skip)
              (first | simp only [add_plain] at hx269_1 | simp only [add_at] at hx269_1 | simp only [Addr.add, Nat.zero_add] at hx269_1 | skip)
              (first | simp only [add_plain] at hx269_2 | simp only [add_at] at hx269_2 | simp only [Addr.add, Nat.zero_add] at hx269_2 | skip)
              (first | simp only [add_plain] at hx269_3 | simp only [add_at] at hx269_3 | simp only [Addr.add, Nat.zero_add] at hx269_3 | skip)
              replace p269 := eq_true p269
              replace q269 := eq_true q269
              refine start_ (n := 16) (S := fun w' => w'.cell? ⟨go8, (x10_1).toNat * 4, none⟩ = some (.int .i64 ((rd_T57 x0_1 x10_1).f0)) ∧ w'.cell? ⟨go8, (x10_1).toNat * 4 + 1, none⟩ = some (.int .i64 ((rd_T57 x0_1 x10_1).f1)) ∧ w'.cell? ⟨go8, (x10_1).toNat * 4 + 2, none⟩ = some (.int .i64 ((rd_T57 x0_1 x10_1).f2)) ∧ w'.cell? ⟨go8, (x10_1).toNat * 4 + 3, none⟩ = some (.int .i64 ((rd_T57 x0_1 x10_1).f3)) ∧ w'.cell? ⟨go8, (x10_1).toNat * 4, none⟩ = some (.int .i64 ((rd_T57 x0_1 x10_1).f0)) ∧ w'.cell? ⟨go8, (x10_1).toNat * 4 + 1, none⟩ = some (.int .i64 ((rd_T57 x0_1 x10_1).f1)) ∧ w'.cell? ⟨go8, (x10_1).toNat * 4 + 2, none⟩ = some (.int .i64 ((rd_T57 x0_1 x10_1).f2)) ∧ w'.cell? ⟨go8, (x10_1).toNat * 4 + 3, none⟩ = some (.int .i64 ((rd_T57 x0_1 x10_1).f3))) (ds := [15]) #[false, false, false, false, false, false, false, false, false, false, false, false, false, false, false, false] (by kernel_rfl) rfl rfl ⟨hx268_0, hx268_1, hx268_2, hx268_3, hx269_0, hx269_1, hx269_2, hx269_3⟩ (fun hHeld => ?_); refine with_tabW impl_passQuarters.tab5 impl_passQuarters.bits5 (fun HT_ HW_ => ?_)
              generalize wr.drew = w20 at HO_0 HK HB hx268_0 hx268_1 hx268_2 hx268_3 hx269_0 hx269_1 hx269_2 hx269_3 hHeld ⊢
              refine pure_ (i := 0) (N := some 16) (v := ?_) (a' := ?_) #[true, false, false, false, false, false, false, false, false, false, false, false, false, false, false, false] rfl rfl (any_of HT_.out (by kernel_rfl)) (fun _ _ _ h => h) (Or.inl ⟨by rfl, ?_⟩) ?_ ?_
              rotate_left
              · intro w'
                go_simp
                with_reducible rfl
              rotate_left
              · simp only [Act.put, List.setIfInBounds_toArray, List.set_cons_zero, List.set_cons_succ, i64_w, i32_w]
                rfl
              refine pure_ (i := 1) (N := some 17) (v := ?_) (a' := ?_) #[true, true, false, false, false, false, false, false, false, false, false, false, false, false, false, false] rfl rfl (any_of HT_.out (by kernel_rfl)) (fun _ _ _ h => h) (Or.inl ⟨by rfl, ?_⟩) ?_ ?_
              rotate_left
              · intro w'
                go_simp
                with_reducible rfl
              rotate_left
              · simp only [Act.put, List.setIfInBounds_toArray, List.set_cons_zero, List.set_cons_succ, i64_w, i32_w]
                rfl
              refine pure_ (i := 2) (N := some 18) (v := ?_) (a' := ?_) #[true, true, true, false, false, false, false, false, false, false, false, false, false, false, false, false] rfl rfl (any_of HT_.out (by kernel_rfl)) (fun _ _ _ h => h) (Or.inl ⟨by rfl, ?_⟩) ?_ ?_
              rotate_left
              · intro w'
                go_simp
                with_reducible rfl
              rotate_left
              · simp only [Act.put, List.setIfInBounds_toArray, List.set_cons_zero, List.set_cons_succ, i64_w, i32_w]
                rfl
              refine pure_ (i := 3) (N := some 19) (v := ?_) (a' := ?_) #[true, true, true, true, false, false, false, false, false, false, false, false, false, false, false, false] rfl rfl (any_of HT_.out (by kernel_rfl)) (fun _ _ _ h => h) (Or.inl ⟨by rfl, ?_⟩) ?_ ?_
              rotate_left
              · intro w'
                go_simp
                with_reducible rfl
              rotate_left
              · simp only [Act.put, List.setIfInBounds_toArray, List.set_cons_zero, List.set_cons_succ, i64_w, i32_w]
                rfl
              refine pure_ (i := 5) (N := some 21) (v := ?_) (a' := ?_) #[true, true, true, true, false, true, false, false, false, false, false, false, false, false, false, false] rfl rfl (any_of HT_.out (by kernel_rfl)) (fun _ _ _ h => h) (Or.inl ⟨by rfl, ?_⟩) ?_ ?_
              rotate_left
              · intro w'
                go_simp
                with_reducible rfl
              rotate_left
              · simp only [Act.put, List.setIfInBounds_toArray, List.set_cons_zero, List.set_cons_succ, i64_w, i32_w]
                rfl
              refine pure_ (i := 6) (N := some 22) (v := ?_) (a' := ?_) #[true, true, true, true, false, true, true, false, false, false, false, false, false, false, false, false] rfl rfl (any_of HT_.out (by kernel_rfl)) (fun _ _ _ h => h) (Or.inl ⟨by rfl, ?_⟩) ?_ ?_
              rotate_left
              · intro w'
                go_simp
                with_reducible rfl
              rotate_left
              · simp only [Act.put, List.setIfInBounds_toArray, List.set_cons_zero, List.set_cons_succ, i64_w, i32_w]
                rfl
              refine pure_ (i := 7) (N := some 23) (v := ?_) (a' := ?_) #[true, true, true, true, false, true, true, true, false, false, false, false, false, false, false, false] rfl rfl (any_of HT_.out (by kernel_rfl)) (fun _ _ _ h => h) (Or.inl ⟨by rfl, ?_⟩) ?_ ?_
              rotate_left
              · intro w'
                go_simp
                with_reducible rfl
              rotate_left
              · simp only [Act.put, List.setIfInBounds_toArray, List.set_cons_zero, List.set_cons_succ, i64_w, i32_w]
                rfl
              refine take_ (i := 4) (N := some 20) (v := ?_) (a' := ?_) #[true, true, true, true, true, true, true, true, false, false, false, false, false, false, false, false] rfl rfl (take_ofW HT_.out HW_.out (by kernel_rfl)) (fun _ _ _ h => h) (Or.inl ⟨by rfl, ?_⟩) hHeld ?_ ?_
              rotate_left
              · rintro w' ⟨s0, s1, s2, s3, s4, s5, s6, s7⟩
                go_simp
                with_reducible rfl
              rotate_left
              · simp only [Act.put, List.setIfInBounds_toArray, List.set_cons_zero, List.set_cons_succ, i64_w, i32_w]
                rfl
              refine take_ (i := 8) (N := some 24) (v := ?_) (a' := ?_) #[true, true, true, true, true, true, true, true, true, false, false, false, false, false, false, false] rfl rfl (take_ofW HT_.out HW_.out (by kernel_rfl)) (fun _ _ _ h => h) (Or.inl ⟨by rfl, ?_⟩) hHeld ?_ ?_
              rotate_left
              · rintro w' ⟨s0, s1, s2, s3, s4, s5, s6, s7⟩
                go_simp
                with_reducible rfl
              rotate_left
              · simp only [Act.put, List.setIfInBounds_toArray, List.set_cons_zero, List.set_cons_succ, i64_w, i32_w]
                rfl
              refine one_ (i := 9) (N := some 25) #[true, true, true, true, true, true, true, true, true, true, false, false, false, false, false, false] rfl rfl (one_of HT_.out (by kernel_rfl)) (by decide) (fun K hK => ?_)
              refine goes_ Try.func78 (by kernel_rfl) rfl #[.agg #[.int .i64 ((rd_T57 x0_1 x10_1).f0), .int .i64 ((rd_T57 x0_1 x10_1).f1), .int .i64 ((rd_T57 x0_1 x10_1).f2), .int .i64 ((rd_T57 x0_1 x10_1).f3)]] (by rfl) rfl rfl (by (try simp only [List.map_toArray, List.map_cons, List.map_nil]); first | done | rfl | (simp only [List.length_drop, List.length_take]; rfl)) ?_
              with_reducible refine (impl_Thing_rate.calls ((rd_T57 x0_1 x10_1).f0) ((rd_T57 x0_1 x10_1).f1) ((rd_T57 x0_1 x10_1).f2) ((rd_T57 x0_1 x10_1).f3) t270 _ A9.out).mono ?_
              rintro e w21 ⟨rfl, hb⟩
              have HS0_ := (hb.cell (World.block_lt_of_cell? _ _ (hHeld.1))).trans (hHeld.1)
              have HS1_ := (hb.cell (World.block_lt_of_cell? _ _ (hHeld.2.1))).trans (hHeld.2.1)
              have HS2_ := (hb.cell (World.block_lt_of_cell? _ _ (hHeld.2.2.1))).trans (hHeld.2.2.1)
              have HS3_ := (hb.cell (World.block_lt_of_cell? _ _ (hHeld.2.2.2.1))).trans (hHeld.2.2.2.1)
              have HS4_ := (hb.cell (World.block_lt_of_cell? _ _ (hHeld.2.2.2.2.1))).trans (hHeld.2.2.2.2.1)
              have HS5_ := (hb.cell (World.block_lt_of_cell? _ _ (hHeld.2.2.2.2.2.1))).trans (hHeld.2.2.2.2.2.1)
              have HS6_ := (hb.cell (World.block_lt_of_cell? _ _ (hHeld.2.2.2.2.2.2.1))).trans (hHeld.2.2.2.2.2.2.1)
              have HS7_ := (hb.cell (World.block_lt_of_cell? _ _ (hHeld.2.2.2.2.2.2.2))).trans (hHeld.2.2.2.2.2.2.2)
              refine ⟨_, rfl, ?_⟩
              have n0_ := Aside0.mk (Kd.R_below (by (with_reducible repeat (first | apply Kd.R_alloc | apply Kd.R_drewN | apply Kd.R_drew)); exact HO_0.out) hb)
              have n1_ := Aside0.mk (Kept.below (S := (fun k_ => P0_ k_)) (by repeat (first | (with_reducible first | exact HK.out | apply Kept.alloc | apply Kept.drewN | apply Kept.drew) | exact HK.out)) hb)
              have n2_ := Aside0.mk (below_step (by repeat (first | (with_reducible first | exact HB.out | apply below_alloc | apply pw_below_drewN | apply below_drew1) | exact HB.out)) hb)
              clear HO_0
              clear HK
              clear HB
              have HO_0 := n0_
              have HK := n1_
              have HB := n2_
              clear n0_ n1_ n2_
              (try clear hb)
              (try clear hb2)
              (try clear hk)
              (try clear hi)
              have p11 : 0 ≤ (x10_1 : Int) := of_decide_eq_true (by first | (with_reducible assumption) | assumption)
              have q11 : (x10_1 : Int) < ((x0_1.length : Int) : Int) := of_decide_eq_true (by first | (with_reducible assumption) | assumption)
              obtain ⟨ce11, hcl11, hM11, hcc11, hfr11⟩ := Kd.R_elem HO_0.out z57 (x10_1 : Int) p11 q11
              obtain rfl := k57_openM hM11
              have hx11_0 : World.cell? _ ⟨go8, (x10_1 : Int).toNat * 4, none⟩ = some (.int .i64 ((rd_T57 x0_1 x10_1).f0)) := hcc11 0 _ rfl
              have hx11_1 : World.cell? _ ⟨go8, (x10_1 : Int).toNat * 4 + 1, none⟩ = some (.int .i64 ((rd_T57 x0_1 x10_1).f1)) := hcc11 1 _ rfl
              have hx11_2 : World.cell? _ ⟨go8, (x10_1 : Int).toNat * 4 + 2, none⟩ = some (.int .i64 ((rd_T57 x0_1 x10_1).f2)) := hcc11 2 _ rfl
              have hx11_3 : World.cell? _ ⟨go8, (x10_1 : Int).toNat * 4 + 3, none⟩ = some (.int .i64 ((rd_T57 x0_1 x10_1).f3)) := hcc11 3 _ rfl
              have hf11_0 : World.frozen? _ ⟨go8, (x10_1 : Int).toNat * 4, none⟩ = false := hfr11 0
              have hf11_1 : World.frozen? _ ⟨go8, (x10_1 : Int).toNat * 4 + 1, none⟩ = false := hfr11 1
              have hf11_2 : World.frozen? _ ⟨go8, (x10_1 : Int).toNat * 4 + 2, none⟩ = false := hfr11 2
              have hf11_3 : World.frozen? _ ⟨go8, (x10_1 : Int).toNat * 4 + 3, none⟩ = false := hfr11 3
              clear hcl11 hcc11 hfr11 hM11
              replace p11 := eq_true p11
              replace q11 := eq_true q11
              obtain ⟨ce22, hcl22, hM22, hcc22, hfr22⟩ := Kd.R_elem HO_0.out z57 (x10_1 : Int) (of_decide_eq_true (by first | (with_reducible assumption) | assumption)) (by have h_ : (x10_1 : Int) < ((x0_1.length : Int) : Int) := of_decide_eq_true (by first | (with_reducible assumption) | assumption); first | exact h_ | (have e_ := (Kd.R_reads' HO_0.out).1; omega) | simpa using h_)
              obtain rfl := k57_openM hM22
              have HP22 := (Kd.R_seg HO_0.out (x10_1 : Int) (of_decide_eq_true (by first | (with_reducible assumption) | assumption)) (by have h_ : (x10_1 : Int) < ((x0_1.length : Int) : Int) := of_decide_eq_true (by first | (with_reducible assumption) | assumption); first | exact h_ | (have e_ := (Kd.R_reads' HO_0.out).1; omega) | simpa using h_) (seg := [.int .i64 ji10]) (j := 2) hcl22 hcc22 (show 3 ≤ 4 from by decide) (x' := (⟨(rd_T57 x0_1 x10_1).f0, (rd_T57 x0_1 x10_1).f1, ji10, (rd_T57 x0_1 x10_1).f3⟩ : S57)) (k57_mkM _ _ _ (⟨(rd_T57 x0_1 x10_1).f0, (rd_T57 x0_1 x10_1).f1, ji10, (rd_T57 x0_1 x10_1).f3⟩ : S57) ) (fun _ hk => hk)).1
              rw [← Ny271.out] at HP22
              have HQ22 := Aside0.mk HP22
              clear hcl22 hcc22 hfr22 hM22 HP22
              refine hK.out _ _ ⟨HS0_, HS1_, HS2_, HS3_, HS4_, HS5_, HS6_, HS7_⟩ (fun hHeld => ?_)
              clear hK K
              refine norm_ (a' := ?_) ?_ ?_
              rotate_left
              · show Act.put _ (some 25) _ = _
                simp only [Act.put, List.setIfInBounds_toArray, List.set_cons_zero, List.set_cons_succ, i64_w, i32_w]
                rfl
              refine pure_ (i := 10) (N := some 26) (v := ?_) (a' := ?_) #[true, true, true, true, true, true, true, true, true, true, true, false, false, false, false, false] rfl rfl (any_of HT_.out (by kernel_rfl)) (fun _ _ _ h => h) (Or.inl ⟨by rfl, ?_⟩) ?_ ?_
              rotate_left
              · intro w'
                go_simp
                with_reducible rfl
              rotate_left
              · simp only [Act.put, List.setIfInBounds_toArray, List.set_cons_zero, List.set_cons_succ, i64_w, i32_w]
                rfl
              refine pure_ (i := 11) (N := some 27) (v := ?_) (a' := ?_) #[true, true, true, true, true, true, true, true, true, true, true, true, false, false, false, false] rfl rfl (any_of HT_.out (by kernel_rfl)) (fun _ _ _ h => h) (Or.inl ⟨by rfl, ?_⟩) ?_ ?_
              rotate_left
              · intro w'
                go_simp
                with_reducible rfl
              rotate_left
              · simp only [Act.put, List.setIfInBounds_toArray, List.set_cons_zero, List.set_cons_succ, i64_w, i32_w]
                rfl
              refine pure_ (i := 12) (N := some 28) (v := ?_) (a' := ?_) #[true, true, true, true, true, true, true, true, true, true, true, true, true, false, false, false] rfl rfl (any_of HT_.out (by kernel_rfl)) (fun _ _ _ h => h) (Or.inl ⟨by rfl, ?_⟩) ?_ ?_
              rotate_left
              · intro w'
                go_simp
                with_reducible rfl
              rotate_left
              · simp only [Act.put, List.setIfInBounds_toArray, List.set_cons_zero, List.set_cons_succ, i64_w, i32_w]
                rfl
              refine pure_ (i := 13) (N := some 29) (v := ?_) (a' := ?_) #[true, true, true, true, true, true, true, true, true, true, true, true, true, true, false, false] rfl rfl (any_of HT_.out (by kernel_rfl)) (fun _ _ _ h => h) (Or.inl ⟨by rfl, ?_⟩) ?_ ?_
              rotate_left
              · intro w'
                go_simp
                with_reducible rfl
              rotate_left
              · simp only [Act.put, List.setIfInBounds_toArray, List.set_cons_zero, List.set_cons_succ, i64_w, i32_w]
                rfl
              refine pure_ (i := 14) (N := some 30) (v := ?_) (a' := ?_) #[true, true, true, true, true, true, true, true, true, true, true, true, true, true, true, false] rfl rfl (any_of HT_.out (by kernel_rfl)) (fun _ _ _ h => h) (Or.inl ⟨by rfl, ?_⟩) ?_ ?_
              rotate_left
              · intro w'
                go_simp
                with_reducible rfl
              rotate_left
              · simp only [Act.put, List.setIfInBounds_toArray, List.set_cons_zero, List.set_cons_succ, i64_w, i32_w]
                rfl
              refine last_ (i := 15) (N := none) #[true, true, true, true, true, true, true, true, true, true, true, true, true, true, true, true] rfl rfl (one_of HT_.out (by kernel_rfl)) (by decide) (fun K hK => ?_)
              refine skip_ (w1 := ?_) (by rfl) rfl ?_ ?_
              rotate_left
              · go_simp
                rfl
              refine hK.out _ _ ?_
              clear hK K
              refine done_ (done_of HT_.out (by kernel_rfl)) ?_
              have n0_ : Aside0 (Kd.R k57 57 (w21.setCell ⟨go8, (x10_1 : Int).toNat * 4 + 2, none⟩ (.int .i64 ji10)) w0.heap.size (fun k_ => (P0_ k_ ∨ w.heap.size ≤ k_)) (.slice (some ⟨go8, 0, none⟩) x0_1.length co4) y271) := ⟨by (with_reducible repeat (first | apply Kd.R_alloc | apply Kd.R_drewN | apply Kd.R_drew)); exact HQ22.out⟩
              have n1_ : Aside0 (Kept w (w21.setCell ⟨go8, (x10_1 : Int).toNat * 4 + 2, none⟩ (.int .i64 ji10)) (fun k_ => P0_ k_)) := ⟨by repeat (first | (with_reducible first | exact HK.out | apply Kept.alloc | apply Kept.drewN | apply Kept.drew | refine Kept.setCell ?_ HMgo8.out _) | exact HK.out)⟩
              have n2_ : Aside0 (Below w0.heap.size w0 (w21.setCell ⟨go8, (x10_1 : Int).toNat * 4 + 2, none⟩ (.int .i64 ji10))) := ⟨by repeat (first | (with_reducible first | exact HB.out | apply below_alloc | apply pw_below_drewN | apply below_drew1 | refine below_set ?_ GB8.out) | exact HB.out)⟩
              (try clear HO_0)
              (try clear HK)
              (try clear HB)
              generalize (w21.setCell ⟨go8, (x10_1 : Int).toNat * 4 + 2, none⟩ (.int .i64 ji10)) = w23 at n0_ n1_ n2_ ⊢
              have HO_0 := n0_
              have HK := n1_
              have HB := n2_
              clear n0_ n1_ n2_
              have p272 : 0 ≤ (x10_1 : Int) := of_decide_eq_true (by first | (with_reducible assumption) | assumption)
              have q272 : x10_1 < (y271.length : Int) := (by have h_ : (x10_1 : Int) < ((x0_1.length : Int) : Int) := of_decide_eq_true (by first | (with_reducible assumption) | assumption); first | (have e_ := (Kd.R_reads' HO_0.out).1; omega) | simpa only [Ny271.out, List.length_set] using h_)
              have ql272 : ((x10_1 : Int) < ((x0_1.length : Int) : Int)) = True := eq_true (of_decide_eq_true (by first | (with_reducible assumption) | assumption))
              obtain ⟨ad272, e272, hx272_0, hx272_1, hx272_2, hx272_3⟩ := at_T57 (Kd.R_reads' HO_0.out).2.2 x10_1 p272 q272
              obtain rfl : (⟨go8, 0, none⟩ : Addr) = ad272 := (by injection e272)
              (first | simp only [add_plain] at hx272_0 | simp only [add_at] at hx272_0 | simp only [Addr.add, Nat.zero_add] at hx272_0 | skip)
              (first | simp only [add_plain] at hx272_1 | simp only [add_at] at hx272_1 | simp only [Addr.add, Nat.zero_add] at hx272_1 | skip)
              (first | simp only [add_plain] at hx272_2 | simp only [add_at] at hx272_2 | simp only [Addr.add, Nat.zero_add] at hx272_2 | skip)
              (first | simp only [add_plain] at hx272_3 | simp only [add_at] at hx272_3 | simp only [Addr.add, Nat.zero_add] at hx272_3 | skip)
              replace p272 := eq_true p272
              replace q272 := eq_true q272
              try go_wp2
              (try simp only [← hl0_1])
              go_roundg k1
              case measure => have := HK1.out; omega
              case rel => exact ⟨(y271), (wrap64 (x10_1 + 1)), (by first | rfl | (simp; done) | (simp [*]; done)), H', ⟨by have := HK1.out; omega⟩, ⟨by (try simp only [hl0_1]); (with_reducible repeat (first | apply Kd.R_alloc | apply Kd.R_drewN | apply Kd.R_drew)); exact HO_0.out⟩, ⟨by repeat (first | (with_reducible first | exact HK.out | apply Kept.alloc | apply Kept.drewN | apply Kept.drew) | exact HK.out)⟩, ⟨by repeat (first | (with_reducible first | exact HB.out | apply below_alloc | apply pw_below_drewN | apply below_drew1) | exact HB.out)⟩⟩
          · rw [if_neg c7] at H
            exact absurd H (by simp)
        · rw [if_neg c6] at H
          exact absurd H (by simp)
      · rw [if_neg c5] at H
        have c5b0 : decide (x10_1 < (l0.length : Int)) = false := decide_eq_false c5
        (try (have c5h0 := c5b0; simp only [hl0_1] at c5h0))
        clear c5
        obtain rfl := Option.some.inj H
        go_wp2
        first | go_end0 | ((try simp only [Exit.inBlock, Exit.then]); refine bodyPost_ret (results_none rfl _ _ _) rfl ?_)
        exact ⟨by first | rfl | (simp [errW_none, errW_some] <;> rfl) | (simp only [← hji3]; first | rfl | (simp [errW_none, errW_some] <;> rfl)) | (simp [*, errW_none, errW_some] <;> rfl), (by first | exact (by (with_reducible repeat (first | apply Kd.R_alloc | apply Kd.R_drewN | apply Kd.R_drew)); exact HO_0.out) | (simp only [hl0_1]; exact (by (with_reducible repeat (first | apply Kd.R_alloc | apply Kd.R_drewN | apply Kd.R_drew)); exact HO_0.out))), by repeat (first | (with_reducible first | exact HB.out | apply below_alloc | apply pw_below_drewN | apply below_drew1) | exact HB.out), by repeat (first | (with_reducible first | exact HK.out | apply Kept.alloc | apply Kept.drewN | apply Kept.drew) | exact HK.out)⟩

end Go.Proofs.Ytnajkfdgkghgbaa.PA
