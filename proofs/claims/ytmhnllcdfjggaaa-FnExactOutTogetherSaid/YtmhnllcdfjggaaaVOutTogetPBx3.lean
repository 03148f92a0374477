-- Printed by a program of this session's own.
import Derived.Test.YtmhnllcdfjggaaaVOutTogetPBx0
namespace Go.Proofs.Ytmhnllcdfjggaaa.PB
open Go.RowKit Go.Proofs.YtmhnllcdfjggaaaW.PrintWords Go.Proofs.YtmhnllcdfjggaaaW.PrintLast Go.Proofs.YtmhnllcdfjggaaaW.PrintMore Go.Proofs.YtmhnllcdfjggaaaX
attribute [local go_sem] max2_int min2_int max_two min_two  -- for this text's walks alone
set_option linter.unusedVariables false
set_option linter.unusedSimpArgs false

/-! ### impl_Kit_turn: function 44 -/
mutual
def impl_Kit_turn.j0 : Nat → Int → Int → Int → Int → Int → Int → Int → Int → Int → Option (Int × Int × Int × Int)
  | 0, _, _, _, _, _, _, _, _, _ => none
  | k + 1, x2, x114000, x114001, x114002, x114003, x115000, x115001, x115002, x115003 => if (Go.bits .and .i64 (x2 / 2) 1) = 1 then (impl_Kit_turn.j1 k x2 x114000 x114001 x114002 x114003 x115000 (wrap64 (x114001 - x115001)) x115002 x115003) else (impl_Kit_turn.j1 k x2 x114000 x114001 x114002 x114003 x115000 x115001 x115002 x115003)
def impl_Kit_turn.j1 : Nat → Int → Int → Int → Int → Int → Int → Int → Int → Int → Option (Int × Int × Int × Int)
  | 0, _, _, _, _, _, _, _, _, _ => none
  | k + 1, x2, x114000, x114001, x114002, x114003, x115000, x115001, x115002, x115003 => if (Go.bits .and .i64 (x2 / 4) 1) = 1 then (impl_Kit_turn.j2 k x2 x114000 x114001 x114002 x114003 x115000 x115001 (wrap64 (x114002 - x115002)) x115003) else (impl_Kit_turn.j2 k x2 x114000 x114001 x114002 x114003 x115000 x115001 x115002 x115003)
def impl_Kit_turn.j2 : Nat → Int → Int → Int → Int → Int → Int → Int → Int → Int → Option (Int × Int × Int × Int)
  | 0, _, _, _, _, _, _, _, _, _ => none
  | k + 1, x2, x114000, x114001, x114002, x114003, x115000, x115001, x115002, x115003 => if (Go.bits .and .i64 (x2 / 8) 1) = 1 then (impl_Kit_turn.j3 k x115000 x115001 x115002 (wrap64 (x114003 - x115003))) else (impl_Kit_turn.j3 k x115000 x115001 x115002 x115003)
def impl_Kit_turn.j3 : Nat → Int → Int → Int → Int → Option (Int × Int × Int × Int)
  | 0, _, _, _, _ => none
  | k + 1, x115000, x115001, x115002, x115003 => some (x115000, x115001, x115002, x115003)
end
def impl_Kit_turn.f (k : Nat) (a0_0 : Int) (a0_1 : Int) (a0_2 : Int) (a0_3 : Int) (a1_0 : Int) (a1_1 : Int) (a1_2 : Int) (a1_3 : Int) (a2 : Int) : Option (Int × Int × Int × Int) := if (Go.bits .and .i64 a2 1) = 1 then (impl_Kit_turn.j0 k a2 a0_0 a0_1 a0_2 a0_3 (wrap64 (a0_0 - a1_0)) a1_1 a1_2 a1_3) else (impl_Kit_turn.j0 k a2 a0_0 a0_1 a0_2 a0_3 a1_0 a1_1 a1_2 a1_3)
set_option maxHeartbeats 8000000 in
set_option maxRecDepth 100000 in
theorem impl_Kit_turn.calls (k : Nat) (a0_0 : Int) (a0_1 : Int) (a0_2 : Int) (a0_3 : Int) (a1_0 : Int) (a1_1 : Int) (a1_2 : Int) (a1_3 : Int) (a2 : Int) (r1 : Int) (r2 : Int) (r3 : Int) (r4 : Int) (w : World) (h : impl_Kit_turn.f k a0_0 a0_1 a0_2 a0_3 a1_0 a1_1 a1_2 a1_3 a2 = some (r1, r2, r3, r4)) :
    Calls Try.prog 44 #[.agg #[.int .i64 a0_0, .int .i64 a0_1, .int .i64 a0_2, .int .i64 a0_3], .agg #[.int .i64 a1_0, .int .i64 a1_1, .int .i64 a1_2, .int .i64 a1_3], .int .i64 a2] w fun e w' => e = .returned (.agg #[.int .i64 r1, .int .i64 r2, .int .i64 r3, .int .i64 r4]) ∧ Below w.heap.size w w' := by
 have hu28 := Try.underlying28
 have hu22 := Try.underlying22
 have HB := Aside0.mk (Below.refl w.heap.size w)
 have H : (if (Go.bits .and .i64 a2 1) = 1 then (impl_Kit_turn.j0 k a2 a0_0 a0_1 a0_2 a0_3 (wrap64 (a0_0 - a1_0)) a1_1 a1_2 a1_3) else (impl_Kit_turn.j0 k a2 a0_0 a0_1 a0_2 a0_3 a1_0 a1_1 a1_2 a1_3)) = some (r1, r2, r3, r4) := h
 clear h
 have HC4 := Aside0.mk H
 clear H
 have TK2 := Aside0.mk trivial
 go_enter Try.func44, Try.ntmps44
 go_upto_block 1 with (first | ((with_reducible refine gate_dst (N := 3) rfl ?_); refine box_event ?hg (N := 3) ?hd (cs := #[.int .i64 a0_0, .int .i64 a0_1, .int .i64 a0_2, .int .i64 a0_3]) (t := 28) ?hr ?_; (case hd => rfl); (case hg => rfl); (case hr => first | (go_simp; done) | (go_simp; rfl)); intro gb113 hg w5 hbox hb; have n0_ := Aside0.mk (below_step HB.out hb); have n1_ := Aside0.mk (hbox); have n2_ := Aside0.mk ((by rw [hg]; exact (below_size HB.out) : w.heap.size ≤ gb113)); have n3_ := Aside0.mk ((by rw [hg]; exact (below_size HB.out) : w.heap.size ≤ gb113)); clear HB; have HB := n0_; have BK113 := n1_; have GW113 := n2_; have GE113 := n3_; clear n0_ n1_ n2_ n3_; clear hb hbox hg) | ((with_reducible refine gate_dst (N := 4) rfl ?_); refine box_event ?hg (N := 4) ?hd (cs := #[.int .i64 a1_0, .int .i64 a1_1, .int .i64 a1_2, .int .i64 a1_3]) (t := 22) ?hr ?_; (case hd => rfl); (case hg => rfl); (case hr => first | (go_simp; done) | (go_simp; rfl)); intro gb114 hg w6 hbox hb; have n0_ := Aside0.mk (blk_below BK113.out hb); have n1_ := Aside0.mk (below_step HB.out hb); have n2_ := Aside0.mk (hbox); have n3_ := Aside0.mk ((by rw [hg]; exact (below_size HB.out) : w.heap.size ≤ gb114)); have n4_ := Aside0.mk ((by rw [hg]; exact (below_size HB.out) : w.heap.size ≤ gb114)); have n5_ := Aside0.mk ((by rw [hg]; exact Nat.ne_of_lt (blk_lt BK113.out) : gb113 ≠ gb114)); have n6_ := Aside0.mk ((by rw [hg]; exact Nat.ne_of_gt (blk_lt BK113.out) : gb114 ≠ gb113)); clear BK113; clear HB; have BK113 := n0_; have HB := n1_; have BK114 := n2_; have GW114 := n3_; have GE114 := n4_; have NB113_114 := n5_; have NB114_113 := n6_; clear n0_ n1_ n2_ n3_ n4_ n5_ n6_; clear hb hbox hg) | ((with_reducible refine gate_dst (N := 6) rfl ?_); refine box_event ?hg (N := 6) ?hd (cs := #[.int .i64 0, .int .i64 0, .int .i64 0, .int .i64 0]) (t := 22) ?hr ?_; (case hd => rfl); (case hg => rfl); (case hr => first | (go_simp; done) | (go_simp; rfl)); intro gb115 hg w7 hbox hb; have n0_ := Aside0.mk (blk_below BK113.out hb); have n1_ := Aside0.mk (blk_below BK114.out hb); have n2_ := Aside0.mk (below_step HB.out hb); have n3_ := Aside0.mk (hbox); have n4_ := Aside0.mk ((by rw [hg]; exact (below_size HB.out) : w.heap.size ≤ gb115)); have n5_ := Aside0.mk ((by rw [hg]; exact (below_size HB.out) : w.heap.size ≤ gb115)); have n6_ := Aside0.mk ((by rw [hg]; exact Nat.ne_of_lt (blk_lt BK113.out) : gb113 ≠ gb115)); have n7_ := Aside0.mk ((by rw [hg]; exact Nat.ne_of_gt (blk_lt BK113.out) : gb115 ≠ gb113)); have n8_ := Aside0.mk ((by rw [hg]; exact Nat.ne_of_lt (blk_lt BK114.out) : gb114 ≠ gb115)); have n9_ := Aside0.mk ((by rw [hg]; exact Nat.ne_of_gt (blk_lt BK114.out) : gb115 ≠ gb114)); clear BK113; clear BK114; clear HB; have BK113 := n0_; have BK114 := n1_; have HB := n2_; have BK115 := n3_; have GW115 := n4_; have GE115 := n5_; have NB113_115 := n6_; have NB115_113 := n7_; have NB114_115 := n8_; have NB115_114 := n9_; clear n0_ n1_ n2_ n3_ n4_ n5_ n6_ n7_ n8_ n9_; clear hb hbox hg; have hnb8 := NB113_114.out; have hnc8 := NB114_113.out; have hnb9 := NB113_115.out; have hnc9 := NB115_113.out; have hcz10_0 : w7.cell? ⟨gb113, 0, none⟩ = some (.int .i64 a0_0) := (blk_cell BK113.out 0).trans rfl; have hcz10_1 : w7.cell? ⟨gb113, 1, none⟩ = some (.int .i64 a0_1) := (blk_cell BK113.out 1).trans rfl; have hcz10_2 : w7.cell? ⟨gb113, 2, none⟩ = some (.int .i64 a0_2) := (blk_cell BK113.out 2).trans rfl; have hcz10_3 : w7.cell? ⟨gb113, 3, none⟩ = some (.int .i64 a0_3) := (blk_cell BK113.out 3).trans rfl; have hfz10_0 := blk_frozen BK113.out 0; have hfz10_1 := blk_frozen BK113.out 1; have hfz10_2 := blk_frozen BK113.out 2; have hfz10_3 := blk_frozen BK113.out 3) | (clear TK2; refine wp_loop_rounds 9 ?_; with_reducible refine rounds_go ?_))
 (try simp only [Act.put, List.setIfInBounds_toArray, List.set_cons_zero, List.set_cons_succ])
 go_cut [] (fun wc => ∃ (kq : Nat) (x115000_3 : Int) (x115001_3 : Int) (x115002_3 : Int) (x115003_3 : Int), Aside0 (impl_Kit_turn.j0 kq a2 a0_0 a0_1 a0_2 a0_3 x115000_3 x115001_3 x115002_3 x115003_3 = some (r1, r2, r3, r4)) ∧ Aside0 (kq ≤ k) ∧ Aside0 (wc.heap[gb113]? = some (.cells #[.int .i64 a0_0, .int .i64 a0_1, .int .i64 a0_2, .int .i64 a0_3] 28 (0, 0))) ∧ Aside0 (wc.heap[gb114]? = some (.cells #[.int .i64 x115000_3, .int .i64 x115001_3, .int .i64 x115002_3, .int .i64 x115003_3] 22 (0, 0))) ∧ Aside0 (wc.heap[gb115]? = some (.cells #[.int .i64 0, .int .i64 0, .int .i64 0, .int .i64 0] 22 (0, 0))) ∧ Aside0 (Below w.heap.size w wc))
 case first =>
  have H := HC4.out
  clear HC4
  by_cases c11 : (Go.bits .and .i64 a2 1) = 1
  ·rw [if_pos c11] at H
   have c11b0 : ((Go.bits .and .i64 a2 1) == 1) = true := beq_iff_eq.mpr c11
   have c11b1 : ((Go.bits .and .i64 a2 1) != 1) = false := bne_eq_false_iff_eq.mpr c11
   clear c11
   (first | rw [c11b0] | (simp only [i64_w, i32_w]; rw [c11b0]) | skip)
   have H' := Aside0.mk H
   clear H
   have hnb12 := NB114_113.out
   have hnc12 := NB113_114.out
   have hnb13 := NB114_115.out
   have hnc13 := NB115_114.out
   have hcz14_0 : w7.cell? ⟨gb114, 0, none⟩ = some (.int .i64 a1_0) := (blk_cell BK114.out 0).trans rfl
   have hcz14_1 : w7.cell? ⟨gb114, 1, none⟩ = some (.int .i64 a1_1) := (blk_cell BK114.out 1).trans rfl
   have hcz14_2 : w7.cell? ⟨gb114, 2, none⟩ = some (.int .i64 a1_2) := (blk_cell BK114.out 2).trans rfl
   have hcz14_3 : w7.cell? ⟨gb114, 3, none⟩ = some (.int .i64 a1_3) := (blk_cell BK114.out 3).trans rfl
   have hfz14_0 := blk_frozen BK114.out 0
   have hfz14_1 := blk_frozen BK114.out 1
   have hfz14_2 := blk_frozen BK114.out 2
   have hfz14_3 := blk_frozen BK114.out 3
   go_wp2
   go_meet
   case rel => exact ⟨_, (wrap64 (a0_0 - a1_0)), (a1_1), (a1_2), (a1_3), H', ⟨by first | omega | exact Nat.le_refl _⟩, ⟨by (with_reducible repeat (first | refine blk_drewN ?_ _ | refine blk_drew ?_ | refine blk_alloc ?_ _)); refine blk_far ?_ NB113_114.out _; (with_reducible repeat (first | refine blk_drewN ?_ _ | refine blk_drew ?_ | refine blk_alloc ?_ _)); exact BK113.out⟩, ⟨by (with_reducible repeat (first | refine blk_drewN ?_ _ | refine blk_drew ?_ | refine blk_alloc ?_ _)); refine blk_put (cs := #[.int .i64 a1_0, .int .i64 a1_1, .int .i64 a1_2, .int .i64 a1_3]) ?_ 0 _ rfl; (with_reducible repeat (first | refine blk_drewN ?_ _ | refine blk_drew ?_ | refine blk_alloc ?_ _)); exact BK114.out⟩, ⟨by (with_reducible repeat (first | refine blk_drewN ?_ _ | refine blk_drew ?_ | refine blk_alloc ?_ _)); refine blk_far ?_ NB115_114.out _; (with_reducible repeat (first | refine blk_drewN ?_ _ | refine blk_drew ?_ | refine blk_alloc ?_ _)); exact BK115.out⟩, ⟨by repeat (first | (with_reducible first | exact HB.out | apply below_alloc | apply pw_below_drewN | apply below_drew1 | refine below_set ?_ GE113.out | refine below_set ?_ GE114.out | refine below_set ?_ GE115.out) | exact HB.out)⟩⟩
  ·rw [if_neg c11] at H
   have c11b0 : ((Go.bits .and .i64 a2 1) == 1) = false := beq_eq_false_iff_ne.mpr c11
   have c11b1 : ((Go.bits .and .i64 a2 1) != 1) = true := bne_iff_ne.mpr c11
   (first | rw [c11b0] | (simp only [i64_w, i32_w]; rw [c11b0]) | skip)
   have H' := Aside0.mk H
   clear H
   go_wp2
   go_meet
   case rel => exact ⟨_, (a1_0), (a1_1), (a1_2), (a1_3), H', ⟨by first | omega | exact Nat.le_refl _⟩, ⟨by (with_reducible repeat (first | refine blk_drewN ?_ _ | refine blk_drew ?_ | refine blk_alloc ?_ _)); exact BK113.out⟩, ⟨by (with_reducible repeat (first | refine blk_drewN ?_ _ | refine blk_drew ?_ | refine blk_alloc ?_ _)); exact BK114.out⟩, ⟨by (with_reducible repeat (first | refine blk_drewN ?_ _ | refine blk_drew ?_ | refine blk_alloc ?_ _)); exact BK115.out⟩, ⟨by repeat (first | (with_reducible first | exact HB.out | apply below_alloc | apply pw_below_drewN | apply below_drew1 | refine below_set ?_ GE113.out | refine below_set ?_ GE114.out | refine below_set ?_ GE115.out) | exact HB.out)⟩⟩
 case rest =>
  clear HC4
  (try clear hcz10_0);(try clear hcz10_1);(try clear hcz10_2);(try clear hcz10_3);(try clear hfz10_0);(try clear hfz10_1);(try clear hfz10_2);(try clear hfz10_3)
  obtain ⟨kq, x115000_3, x115001_3, x115002_3, x115003_3, HA, HJ3, BK113, BK114, BK115, HB⟩ := hcut
  cases kq with
  | zero => exact absurd HA.out (by simp [impl_Kit_turn.j0])
  | succ kj3 =>
   have H := HA.out
   clear HA
   simp only [impl_Kit_turn.j0] at H
   have HC15 := Aside0.mk H
   clear H
   go_upto_block 1 with (first | (with_reducible refine rounds_go ?_))
   (try simp only [Act.put, List.setIfInBounds_toArray, List.set_cons_zero, List.set_cons_succ])
   go_cut [] (fun wc => ∃ (kq : Nat) (x115000_14 : Int) (x115001_14 : Int) (x115002_14 : Int) (x115003_14 : Int), Aside0 (impl_Kit_turn.j1 kq a2 a0_0 a0_1 a0_2 a0_3 x115000_14 x115001_14 x115002_14 x115003_14 = some (r1, r2, r3, r4)) ∧ Aside0 (kq ≤ kj3) ∧ Aside0 (wc.heap[gb113]? = some (.cells #[.int .i64 a0_0, .int .i64 a0_1, .int .i64 a0_2, .int .i64 a0_3] 28 (0, 0))) ∧ Aside0 (wc.heap[gb114]? = some (.cells #[.int .i64 x115000_14, .int .i64 x115001_14, .int .i64 x115002_14, .int .i64 x115003_14] 22 (0, 0))) ∧ Aside0 (wc.heap[gb115]? = some (.cells #[.int .i64 0, .int .i64 0, .int .i64 0, .int .i64 0] 22 (0, 0))) ∧ Aside0 (Below w.heap.size w wc))
   case first =>
    have H := HC15.out
    clear HC15
    by_cases c16 : (Go.bits .and .i64 (a2 / 2) 1) = 1
    ·rw [if_pos c16] at H
     have c16b0 : ((Go.bits .and .i64 (a2 / 2) 1) == 1) = true := beq_iff_eq.mpr c16
     have c16b1 : ((Go.bits .and .i64 (a2 / 2) 1) != 1) = false := bne_eq_false_iff_eq.mpr c16
     clear c16
     (first | rw [c16b0] | (simp only [i64_w, i32_w]; rw [c16b0]) | skip)
     have H' := Aside0.mk H
     clear H
     have hnb17 := NB114_113.out
     have hnc17 := NB113_114.out
     have hnb18 := NB114_115.out
     have hnc18 := NB115_114.out
     have hcz19_0 : wc.cell? ⟨gb114, 0, none⟩ = some (.int .i64 x115000_3) := (blk_cell BK114.out 0).trans rfl
     have hcz19_1 : wc.cell? ⟨gb114, 1, none⟩ = some (.int .i64 x115001_3) := (blk_cell BK114.out 1).trans rfl
     have hcz19_2 : wc.cell? ⟨gb114, 2, none⟩ = some (.int .i64 x115002_3) := (blk_cell BK114.out 2).trans rfl
     have hcz19_3 : wc.cell? ⟨gb114, 3, none⟩ = some (.int .i64 x115003_3) := (blk_cell BK114.out 3).trans rfl
     have hfz19_0 := blk_frozen BK114.out 0
     have hfz19_1 := blk_frozen BK114.out 1
     have hfz19_2 := blk_frozen BK114.out 2
     have hfz19_3 := blk_frozen BK114.out 3
     go_wp2
     go_meet
     case rel => exact ⟨_, (x115000_3), (wrap64 (a0_1 - x115001_3)), (x115002_3), (x115003_3), H', ⟨by have := HJ3.out; first | omega | exact Nat.le_refl _⟩, ⟨by (with_reducible repeat (first | refine blk_drewN ?_ _ | refine blk_drew ?_ | refine blk_alloc ?_ _)); refine blk_far ?_ NB113_114.out _; (with_reducible repeat (first | refine blk_drewN ?_ _ | refine blk_drew ?_ | refine blk_alloc ?_ _)); exact BK113.out⟩, ⟨by (with_reducible repeat (first | refine blk_drewN ?_ _ | refine blk_drew ?_ | refine blk_alloc ?_ _)); refine blk_put (cs := #[.int .i64 x115000_3, .int .i64 x115001_3, .int .i64 x115002_3, .int .i64 x115003_3]) ?_ 1 _ rfl; (with_reducible repeat (first | refine blk_drewN ?_ _ | refine blk_drew ?_ | refine blk_alloc ?_ _)); exact BK114.out⟩, ⟨by (with_reducible repeat (first | refine blk_drewN ?_ _ | refine blk_drew ?_ | refine blk_alloc ?_ _)); refine blk_far ?_ NB115_114.out _; (with_reducible repeat (first | refine blk_drewN ?_ _ | refine blk_drew ?_ | refine blk_alloc ?_ _)); exact BK115.out⟩, ⟨by repeat (first | (with_reducible first | exact HB.out | apply below_alloc | apply pw_below_drewN | apply below_drew1 | refine below_set ?_ GE113.out | refine below_set ?_ GE114.out | refine below_set ?_ GE115.out) | exact HB.out)⟩⟩
    ·rw [if_neg c16] at H
     have c16b0 : ((Go.bits .and .i64 (a2 / 2) 1) == 1) = false := beq_eq_false_iff_ne.mpr c16
     have c16b1 : ((Go.bits .and .i64 (a2 / 2) 1) != 1) = true := bne_iff_ne.mpr c16
     (first | rw [c16b0] | (simp only [i64_w, i32_w]; rw [c16b0]) | skip)
     have H' := Aside0.mk H
     clear H
     go_wp2
     go_meet
     case rel => exact ⟨_, (x115000_3), (x115001_3), (x115002_3), (x115003_3), H', ⟨by have := HJ3.out; first | omega | exact Nat.le_refl _⟩, ⟨by (with_reducible repeat (first | refine blk_drewN ?_ _ | refine blk_drew ?_ | refine blk_alloc ?_ _)); exact BK113.out⟩, ⟨by (with_reducible repeat (first | refine blk_drewN ?_ _ | refine blk_drew ?_ | refine blk_alloc ?_ _)); exact BK114.out⟩, ⟨by (with_reducible repeat (first | refine blk_drewN ?_ _ | refine blk_drew ?_ | refine blk_alloc ?_ _)); exact BK115.out⟩, ⟨by repeat (first | (with_reducible first | exact HB.out | apply below_alloc | apply pw_below_drewN | apply below_drew1 | refine below_set ?_ GE113.out | refine below_set ?_ GE114.out | refine below_set ?_ GE115.out) | exact HB.out)⟩⟩
   case rest =>
    clear HC15
    obtain ⟨kq, x115000_14, x115001_14, x115002_14, x115003_14, HA, HJ14, BK113, BK114, BK115, HB⟩ := hcut
    cases kq with
    | zero => exact absurd HA.out (by simp [impl_Kit_turn.j1])
    | succ kj14 =>
     have H := HA.out
     clear HA
     simp only [impl_Kit_turn.j1] at H
     have HC20 := Aside0.mk H
     clear H
     go_upto_block 1 with (first | (with_reducible refine rounds_go ?_))
     (try simp only [Act.put, List.setIfInBounds_toArray, List.set_cons_zero, List.set_cons_succ])
     go_cut [] (fun wc => ∃ (kq : Nat) (x115000_19 : Int) (x115001_19 : Int) (x115002_19 : Int) (x115003_19 : Int), Aside0 (impl_Kit_turn.j2 kq a2 a0_0 a0_1 a0_2 a0_3 x115000_19 x115001_19 x115002_19 x115003_19 = some (r1, r2, r3, r4)) ∧ Aside0 (kq ≤ kj14) ∧ Aside0 (wc.heap[gb113]? = some (.cells #[.int .i64 a0_0, .int .i64 a0_1, .int .i64 a0_2, .int .i64 a0_3] 28 (0, 0))) ∧ Aside0 (wc.heap[gb114]? = some (.cells #[.int .i64 x115000_19, .int .i64 x115001_19, .int .i64 x115002_19, .int .i64 x115003_19] 22 (0, 0))) ∧ Aside0 (wc.heap[gb115]? = some (.cells #[.int .i64 0, .int .i64 0, .int .i64 0, .int .i64 0] 22 (0, 0))) ∧ Aside0 (Below w.heap.size w wc))
     case first =>
      have H := HC20.out
      clear HC20
      by_cases c21 : (Go.bits .and .i64 (a2 / 4) 1) = 1
      ·rw [if_pos c21] at H
       have c21b0 : ((Go.bits .and .i64 (a2 / 4) 1) == 1) = true := beq_iff_eq.mpr c21
       have c21b1 : ((Go.bits .and .i64 (a2 / 4) 1) != 1) = false := bne_eq_false_iff_eq.mpr c21
       clear c21
       (first | rw [c21b0] | (simp only [i64_w, i32_w]; rw [c21b0]) | skip)
       have H' := Aside0.mk H
       clear H
       have hnb22 := NB114_113.out
       have hnc22 := NB113_114.out
       have hnb23 := NB114_115.out
       have hnc23 := NB115_114.out
       have hcz24_0 : wc.cell? ⟨gb114, 0, none⟩ = some (.int .i64 x115000_14) := (blk_cell BK114.out 0).trans rfl
       have hcz24_1 : wc.cell? ⟨gb114, 1, none⟩ = some (.int .i64 x115001_14) := (blk_cell BK114.out 1).trans rfl
       have hcz24_2 : wc.cell? ⟨gb114, 2, none⟩ = some (.int .i64 x115002_14) := (blk_cell BK114.out 2).trans rfl
       have hcz24_3 : wc.cell? ⟨gb114, 3, none⟩ = some (.int .i64 x115003_14) := (blk_cell BK114.out 3).trans rfl
       have hfz24_0 := blk_frozen BK114.out 0
       have hfz24_1 := blk_frozen BK114.out 1
       have hfz24_2 := blk_frozen BK114.out 2
       have hfz24_3 := blk_frozen BK114.out 3
       go_wp2
       go_meet
       case rel => exact ⟨_, (x115000_14), (x115001_14), (wrap64 (a0_2 - x115002_14)), (x115003_14), H', ⟨by have := HJ3.out; have := HJ14.out; first | omega | exact Nat.le_refl _⟩, ⟨by (with_reducible repeat (first | refine blk_drewN ?_ _ | refine blk_drew ?_ | refine blk_alloc ?_ _)); refine blk_far ?_ NB113_114.out _; (with_reducible repeat (first | refine blk_drewN ?_ _ | refine blk_drew ?_ | refine blk_alloc ?_ _)); exact BK113.out⟩, ⟨by (with_reducible repeat (first | refine blk_drewN ?_ _ | refine blk_drew ?_ | refine blk_alloc ?_ _)); refine blk_put (cs := #[.int .i64 x115000_14, .int .i64 x115001_14, .int .i64 x115002_14, .int .i64 x115003_14]) ?_ 2 _ rfl; (with_reducible repeat (first | refine blk_drewN ?_ _ | refine blk_drew ?_ | refine blk_alloc ?_ _)); exact BK114.out⟩, ⟨by (with_reducible repeat (first | refine blk_drewN ?_ _ | refine blk_drew ?_ | refine blk_alloc ?_ _)); refine blk_far ?_ NB115_114.out _; (with_reducible repeat (first | refine blk_drewN ?_ _ | refine blk_drew ?_ | refine blk_alloc ?_ _)); exact BK115.out⟩, ⟨by repeat (first | (with_reducible first | exact HB.out | apply below_alloc | apply pw_below_drewN | apply below_drew1 | refine below_set ?_ GE113.out | refine below_set ?_ GE114.out | refine below_set ?_ GE115.out) | exact HB.out)⟩⟩
      ·rw [if_neg c21] at H
       have c21b0 : ((Go.bits .and .i64 (a2 / 4) 1) == 1) = false := beq_eq_false_iff_ne.mpr c21
       have c21b1 : ((Go.bits .and .i64 (a2 / 4) 1) != 1) = true := bne_iff_ne.mpr c21
       (first | rw [c21b0] | (simp only [i64_w, i32_w]; rw [c21b0]) | skip)
       have H' := Aside0.mk H
       clear H
       go_wp2
       go_meet
       case rel => exact ⟨_, (x115000_14), (x115001_14), (x115002_14), (x115003_14), H', ⟨by have := HJ3.out; have := HJ14.out; first | omega | exact Nat.le_refl _⟩, ⟨by (with_reducible repeat (first | refine blk_drewN ?_ _ | refine blk_drew ?_ | refine blk_alloc ?_ _)); exact BK113.out⟩, ⟨by (with_reducible repeat (first | refine blk_drewN ?_ _ | refine blk_drew ?_ | refine blk_alloc ?_ _)); exact BK114.out⟩, ⟨by (with_reducible repeat (first | refine blk_drewN ?_ _ | refine blk_drew ?_ | refine blk_alloc ?_ _)); exact BK115.out⟩, ⟨by repeat (first | (with_reducible first | exact HB.out | apply below_alloc | apply pw_below_drewN | apply below_drew1 | refine below_set ?_ GE113.out | refine below_set ?_ GE114.out | refine below_set ?_ GE115.out) | exact HB.out)⟩⟩
     case rest =>
      clear HC20
      obtain ⟨kq, x115000_19, x115001_19, x115002_19, x115003_19, HA, HJ19, BK113, BK114, BK115, HB⟩ := hcut
      cases kq with
      | zero => exact absurd HA.out (by simp [impl_Kit_turn.j2])
      | succ kj19 =>
       have H := HA.out
       clear HA
       simp only [impl_Kit_turn.j2] at H
       have HC25 := Aside0.mk H
       clear H
       go_upto_block 1 with (first | (with_reducible refine rounds_go ?_))
       (try simp only [Act.put, List.setIfInBounds_toArray, List.set_cons_zero, List.set_cons_succ])
       go_cut [] (fun wc => ∃ (kq : Nat) (x115000_24 : Int) (x115001_24 : Int) (x115002_24 : Int) (x115003_24 : Int), Aside0 (impl_Kit_turn.j3 kq x115000_24 x115001_24 x115002_24 x115003_24 = some (r1, r2, r3, r4)) ∧ Aside0 (kq ≤ kj19) ∧ Aside0 (wc.heap[gb113]? = some (.cells #[.int .i64 a0_0, .int .i64 a0_1, .int .i64 a0_2, .int .i64 a0_3] 28 (0, 0))) ∧ Aside0 (wc.heap[gb114]? = some (.cells #[.int .i64 x115000_24, .int .i64 x115001_24, .int .i64 x115002_24, .int .i64 x115003_24] 22 (0, 0))) ∧ Aside0 (wc.heap[gb115]? = some (.cells #[.int .i64 0, .int .i64 0, .int .i64 0, .int .i64 0] 22 (0, 0))) ∧ Aside0 (Below w.heap.size w wc))
       case first =>
        have H := HC25.out
        clear HC25
        by_cases c26 : (Go.bits .and .i64 (a2 / 8) 1) = 1
        ·rw [if_pos c26] at H
         have c26b0 : ((Go.bits .and .i64 (a2 / 8) 1) == 1) = true := beq_iff_eq.mpr c26
         have c26b1 : ((Go.bits .and .i64 (a2 / 8) 1) != 1) = false := bne_eq_false_iff_eq.mpr c26
         clear c26
         (first | rw [c26b0] | (simp only [i64_w, i32_w]; rw [c26b0]) | skip)
         have H' := Aside0.mk H
         clear H
         have hnb27 := NB114_113.out
         have hnc27 := NB113_114.out
         have hnb28 := NB114_115.out
         have hnc28 := NB115_114.out
         have hcz29_0 : wc.cell? ⟨gb114, 0, none⟩ = some (.int .i64 x115000_19) := (blk_cell BK114.out 0).trans rfl
         have hcz29_1 : wc.cell? ⟨gb114, 1, none⟩ = some (.int .i64 x115001_19) := (blk_cell BK114.out 1).trans rfl
         have hcz29_2 : wc.cell? ⟨gb114, 2, none⟩ = some (.int .i64 x115002_19) := (blk_cell BK114.out 2).trans rfl
         have hcz29_3 : wc.cell? ⟨gb114, 3, none⟩ = some (.int .i64 x115003_19) := (blk_cell BK114.out 3).trans rfl
         have hfz29_0 := blk_frozen BK114.out 0
         have hfz29_1 := blk_frozen BK114.out 1
         have hfz29_2 := blk_frozen BK114.out 2
         have hfz29_3 := blk_frozen BK114.out 3
         go_wp2
         go_meet
         case rel => exact ⟨_, (x115000_19), (x115001_19), (x115002_19), (wrap64 (a0_3 - x115003_19)), H', ⟨by have := HJ3.out; have := HJ14.out; have := HJ19.out; first | omega | exact Nat.le_refl _⟩, ⟨by (with_reducible repeat (first | refine blk_drewN ?_ _ | refine blk_drew ?_ | refine blk_alloc ?_ _)); refine blk_far ?_ NB113_114.out _; (with_reducible repeat (first | refine blk_drewN ?_ _ | refine blk_drew ?_ | refine blk_alloc ?_ _)); exact BK113.out⟩, ⟨by (with_reducible repeat (first | refine blk_drewN ?_ _ | refine blk_drew ?_ | refine blk_alloc ?_ _)); refine blk_put (cs := #[.int .i64 x115000_19, .int .i64 x115001_19, .int .i64 x115002_19, .int .i64 x115003_19]) ?_ 3 _ rfl; (with_reducible repeat (first | refine blk_drewN ?_ _ | refine blk_drew ?_ | refine blk_alloc ?_ _)); exact BK114.out⟩, ⟨by (with_reducible repeat (first | refine blk_drewN ?_ _ | refine blk_drew ?_ | refine blk_alloc ?_ _)); refine blk_far ?_ NB115_114.out _; (with_reducible repeat (first | refine blk_drewN ?_ _ | refine blk_drew ?_ | refine blk_alloc ?_ _)); exact BK115.out⟩, ⟨by repeat (first | (with_reducible first | exact HB.out | apply below_alloc | apply pw_below_drewN | apply below_drew1 | refine below_set ?_ GE113.out | refine below_set ?_ GE114.out | refine below_set ?_ GE115.out) | exact HB.out)⟩⟩
        ·rw [if_neg c26] at H
         have c26b0 : ((Go.bits .and .i64 (a2 / 8) 1) == 1) = false := beq_eq_false_iff_ne.mpr c26
         have c26b1 : ((Go.bits .and .i64 (a2 / 8) 1) != 1) = true := bne_iff_ne.mpr c26
         (first | rw [c26b0] | (simp only [i64_w, i32_w]; rw [c26b0]) | skip)
         have H' := Aside0.mk H
         clear H
         go_wp2
         go_meet
         case rel => exact ⟨_, (x115000_19), (x115001_19), (x115002_19), (x115003_19), H', ⟨by have := HJ3.out; have := HJ14.out; have := HJ19.out; first | omega | exact Nat.le_refl _⟩, ⟨by (with_reducible repeat (first | refine blk_drewN ?_ _ | refine blk_drew ?_ | refine blk_alloc ?_ _)); exact BK113.out⟩, ⟨by (with_reducible repeat (first | refine blk_drewN ?_ _ | refine blk_drew ?_ | refine blk_alloc ?_ _)); exact BK114.out⟩, ⟨by (with_reducible repeat (first | refine blk_drewN ?_ _ | refine blk_drew ?_ | refine blk_alloc ?_ _)); exact BK115.out⟩, ⟨by repeat (first | (with_reducible first | exact HB.out | apply below_alloc | apply pw_below_drewN | apply below_drew1 | refine below_set ?_ GE113.out | refine below_set ?_ GE114.out | refine below_set ?_ GE115.out) | exact HB.out)⟩⟩
       case rest =>
        clear HC25
        obtain ⟨kq, x115000_24, x115001_24, x115002_24, x115003_24, HA, HJ24, BK113, BK114, BK115, HB⟩ := hcut
        cases kq with
        | zero => exact absurd HA.out (by simp [impl_Kit_turn.j3])
        | succ kj24 =>
         have H := HA.out
         clear HA
         simp only [impl_Kit_turn.j3] at H
         simp only [Option.some.injEq, Prod.mk.injEq] at H
         obtain ⟨rfl, rfl, rfl, rfl⟩ := H
         have hnb30 := NB114_113.out
         have hnc30 := NB113_114.out
         have hnb31 := NB114_115.out
         have hnc31 := NB115_114.out
         have hcz32_0 : wc.cell? ⟨gb114, 0, none⟩ = some (.int .i64 x115000_24) := (blk_cell BK114.out 0).trans rfl
         have hcz32_1 : wc.cell? ⟨gb114, 1, none⟩ = some (.int .i64 x115001_24) := (blk_cell BK114.out 1).trans rfl
         have hcz32_2 : wc.cell? ⟨gb114, 2, none⟩ = some (.int .i64 x115002_24) := (blk_cell BK114.out 2).trans rfl
         have hcz32_3 : wc.cell? ⟨gb114, 3, none⟩ = some (.int .i64 x115003_24) := (blk_cell BK114.out 3).trans rfl
         have hfz32_0 := blk_frozen BK114.out 0
         have hfz32_1 := blk_frozen BK114.out 1
         have hfz32_2 := blk_frozen BK114.out 2
         have hfz32_3 := blk_frozen BK114.out 3
         have hnb33 := NB115_113.out
         have hnc33 := NB113_115.out
         have hcz34_0 : wc.cell? ⟨gb115, 0, none⟩ = some (.int .i64 0) := (blk_cell BK115.out 0).trans rfl
         have hcz34_1 : wc.cell? ⟨gb115, 1, none⟩ = some (.int .i64 0) := (blk_cell BK115.out 1).trans rfl
         have hcz34_2 : wc.cell? ⟨gb115, 2, none⟩ = some (.int .i64 0) := (blk_cell BK115.out 2).trans rfl
         have hcz34_3 : wc.cell? ⟨gb115, 3, none⟩ = some (.int .i64 0) := (blk_cell BK115.out 3).trans rfl
         have hfz34_0 := blk_frozen BK115.out 0
         have hfz34_1 := blk_frozen BK115.out 1
         have hfz34_2 := blk_frozen BK115.out 2
         have hfz34_3 := blk_frozen BK115.out 3
         go_wp2_with (first | (with_reducible refine rounds_go ?_))
         refine bodyPost_ret (results_cell_row rfl _ _ gb115 22 #[.int .i64 x115000_24, .int .i64 x115001_24, .int .i64 x115002_24, .int .i64 x115003_24] (0, 0) _ rfl (by (with_reducible repeat (first | refine blk_drewN ?_ _ | refine blk_drew ?_ | refine blk_alloc ?_ _)); refine blk_put (cs := #[.int .i64 x115000_24, .int .i64 x115001_24, .int .i64 x115002_24, .int .i64 0]) ?_ 3 _ rfl; (with_reducible repeat (first | refine blk_drewN ?_ _ | refine blk_drew ?_ | refine blk_alloc ?_ _)); refine blk_put (cs := #[.int .i64 x115000_24, .int .i64 x115001_24, .int .i64 0, .int .i64 0]) ?_ 2 _ rfl; (with_reducible repeat (first | refine blk_drewN ?_ _ | refine blk_drew ?_ | refine blk_alloc ?_ _)); refine blk_put (cs := #[.int .i64 x115000_24, .int .i64 0, .int .i64 0, .int .i64 0]) ?_ 1 _ rfl; (with_reducible repeat (first | refine blk_drewN ?_ _ | refine blk_drew ?_ | refine blk_alloc ?_ _)); refine blk_put (cs := #[.int .i64 0, .int .i64 0, .int .i64 0, .int .i64 0]) ?_ 0 _ rfl; (with_reducible repeat (first | refine blk_drewN ?_ _ | refine blk_drew ?_ | refine blk_alloc ?_ _)); exact BK115.out) Try.underlying22 rfl (by kernel_rfl)) rfl ?_
         exact ⟨by first | rfl | (simp [errW_none, errW_some] <;> rfl) | (simp [*, errW_none, errW_some] <;> rfl), by repeat (first | (with_reducible first | exact HB.out | apply below_alloc | apply pw_below_drewN | apply below_drew1 | refine below_set ?_ GE113.out | refine below_set ?_ GE114.out | refine below_set ?_ GE115.out) | exact HB.out)⟩

end Go.Proofs.Ytmhnllcdfjggaaa.PB
