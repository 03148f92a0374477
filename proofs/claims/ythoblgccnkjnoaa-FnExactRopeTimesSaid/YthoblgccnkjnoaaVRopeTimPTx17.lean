-- Printed by a program of this session's own.
import Derived.Test.YthoblgccnkjnoaaVRopeTimPTx0
import Derived.Test.YthoblgccnkjnoaaVRopeTimPTx1
import Derived.Test.YthoblgccnkjnoaaVRopeTimPTx15
import Derived.Test.YthoblgccnkjnoaaVRopeTimPTx16
namespace Go.Proofs.Ythoblgccnkjnoaa.PT
open Go.RowKit Go.Proofs.YthoblgccnkjnoaaW.PrintWords Go.Proofs.YthoblgccnkjnoaaW.PrintLast Go.Proofs.YthoblgccnkjnoaaW.PrintMore Go.Proofs.YthoblgccnkjnoaaX
  -- for this text's walks alone
set_option linter.unusedVariables false
set_option linter.unusedSimpArgs false

/-! ### laws_FnExactRopeTimes: function 6 -/
mutual
def laws_FnExactRopeTimes.j0 : Nat → List Int → Bool → List Int → Bool → Int → Int → Int → Int → Int → Int → Option (Bool)
  | 0, _, _, _, _, _, _, _, _, _, _ => none
  | k + 1, x3, x4, x5, x31, x331000, x331001, x331002, x331003, x331004, x331005 => if x31 = true then (some false) else ((laws_markIntS.f k x5 1).bind fun bt352 => ((laws_heldIntS.f k bt352.2 1).bind fun t354 => (if t354 < 0 then (some false) else (if t354 = bt352.1 then ((laws_toRopes.f x331000 x331001 x331002 x331003 x331004 x331005).bind fun bt355 => ((impl_RopeTimes.f k bt355.1 bt355.2.1 bt355.2.2.1 bt355.2.2.2.1 bt355.2.2.2.2.1 bt355.2.2.2.2.2).bind fun bt361 => ((laws_eqIntS.f k bt361.1 x3).bind fun t365 => (if t365 = true then (laws_FnExactRopeTimes.j1 k bt352.2 bt352.1 (bt361.2 != x4)) else (laws_FnExactRopeTimes.j1 k bt352.2 bt352.1 true))))) else (some false)))))
def laws_FnExactRopeTimes.j1 : Nat → List Int → Int → Bool → Option (Bool)
  | 0, _, _, _ => none
  | k + 1, x5, x7, x57 => if x57 = true then (some false) else ((laws_heldIntS.f k x5 1).bind fun t366 => (if t366 < 0 then (some false) else (if t366 = x7 then (some true) else (some false))))
end
def laws_FnExactRopeTimes.f (k : Nat) (a0_0 : Int) (a0_1 : Int) (a0_2 : Int) (a0_3 : Int) (a0_4 : Int) (a0_5 : Int) : Option (Bool) := (laws_toRopes.f a0_0 a0_1 a0_2 a0_3 a0_4 a0_5).bind fun bt331 => ((spec_RopeTimes.f k bt331.1 bt331.2.1 bt331.2.2.1 bt331.2.2.2.1 bt331.2.2.2.2.1 bt331.2.2.2.2.2).bind fun bt337 => ((laws_toRopes.f a0_0 a0_1 a0_2 a0_3 a0_4 a0_5).bind fun bt341 => ((impl_RopeTimes.f k bt341.1 bt341.2.1 bt341.2.2.1 bt341.2.2.2.1 bt341.2.2.2.2.1 bt341.2.2.2.2.2).bind fun bt347 => ((laws_eqIntS.f k bt347.1 bt337.1).bind fun t351 => (if t351 = true then (laws_FnExactRopeTimes.j0 k bt337.1 bt337.2 bt347.1 (bt347.2 != bt337.2) a0_0 a0_1 a0_2 a0_3 a0_4 a0_5) else (laws_FnExactRopeTimes.j0 k bt337.1 bt337.2 bt347.1 true a0_0 a0_1 a0_2 a0_3 a0_4 a0_5))))))
set_option maxHeartbeats 8000000 in
set_option maxRecDepth 100000 in
theorem laws_FnExactRopeTimes.calls (k : Nat) (a0_0 : Int) (a0_1 : Int) (a0_2 : Int) (a0_3 : Int) (a0_4 : Int) (a0_5 : Int) (w : World) (h : laws_FnExactRopeTimes.f k a0_0 a0_1 a0_2 a0_3 a0_4 a0_5 = some true) :
    Calls Try.prog 6 #[.agg #[.int .i64 a0_0, .int .i64 a0_1, .int .i64 a0_2, .int .i64 a0_3, .int .i64 a0_4, .int .i64 a0_5]] w fun e w' => e = .returned (.bool true) ∧ Below w.heap.size w w' := by
  have hu24 := Try.underlying24
  have HB := Aside0.mk (Below.refl w.heap.size w)
  have H : ((laws_toRopes.f a0_0 a0_1 a0_2 a0_3 a0_4 a0_5).bind fun bt331 => ((spec_RopeTimes.f k bt331.1 bt331.2.1 bt331.2.2.1 bt331.2.2.2.1 bt331.2.2.2.2.1 bt331.2.2.2.2.2).bind fun bt337 => ((laws_toRopes.f a0_0 a0_1 a0_2 a0_3 a0_4 a0_5).bind fun bt341 => ((impl_RopeTimes.f k bt341.1 bt341.2.1 bt341.2.2.1 bt341.2.2.2.1 bt341.2.2.2.2.1 bt341.2.2.2.2.2).bind fun bt347 => ((laws_eqIntS.f k bt347.1 bt337.1).bind fun t351 => (if t351 = true then (laws_FnExactRopeTimes.j0 k bt337.1 bt337.2 bt347.1 (bt347.2 != bt337.2) a0_0 a0_1 a0_2 a0_3 a0_4 a0_5) else (laws_FnExactRopeTimes.j0 k bt337.1 bt337.2 bt347.1 true a0_0 a0_1 a0_2 a0_3 a0_4 a0_5))))))) = some true := h
  clear h
  replace H := Option.bind_eq_some_iff.mp H
  obtain ⟨⟨t331, t332, t333, t334, t335, t336⟩, A20, H⟩ := H
  replace H : ((spec_RopeTimes.f k t331 t332 t333 t334 t335 t336).bind fun bt337 => ((laws_toRopes.f a0_0 a0_1 a0_2 a0_3 a0_4 a0_5).bind fun bt341 => ((impl_RopeTimes.f k bt341.1 bt341.2.1 bt341.2.2.1 bt341.2.2.2.1 bt341.2.2.2.2.1 bt341.2.2.2.2.2).bind fun bt347 => ((laws_eqIntS.f k bt347.1 bt337.1).bind fun t351 => (if t351 = true then (laws_FnExactRopeTimes.j0 k bt337.1 bt337.2 bt347.1 (bt347.2 != bt337.2) a0_0 a0_1 a0_2 a0_3 a0_4 a0_5) else (laws_FnExactRopeTimes.j0 k bt337.1 bt337.2 bt347.1 true a0_0 a0_1 a0_2 a0_3 a0_4 a0_5)))))) = some true := H
  have A2 := Aside0.mk A20
  clear A20
  replace H := Option.bind_eq_some_iff.mp H
  obtain ⟨⟨t337, t340⟩, A30, H⟩ := H
  replace H : ((laws_toRopes.f a0_0 a0_1 a0_2 a0_3 a0_4 a0_5).bind fun bt341 => ((impl_RopeTimes.f k bt341.1 bt341.2.1 bt341.2.2.1 bt341.2.2.2.1 bt341.2.2.2.2.1 bt341.2.2.2.2.2).bind fun bt347 => ((laws_eqIntS.f k bt347.1 t337).bind fun t351 => (if t351 = true then (laws_FnExactRopeTimes.j0 k t337 t340 bt347.1 (bt347.2 != t340) a0_0 a0_1 a0_2 a0_3 a0_4 a0_5) else (laws_FnExactRopeTimes.j0 k t337 t340 bt347.1 true a0_0 a0_1 a0_2 a0_3 a0_4 a0_5))))) = some true := H
  have A3 := Aside0.mk A30
  clear A30
  replace H := Option.bind_eq_some_iff.mp H
  obtain ⟨⟨t341, t342, t343, t344, t345, t346⟩, A40, H⟩ := H
  replace H : ((impl_RopeTimes.f k t341 t342 t343 t344 t345 t346).bind fun bt347 => ((laws_eqIntS.f k bt347.1 t337).bind fun t351 => (if t351 = true then (laws_FnExactRopeTimes.j0 k t337 t340 bt347.1 (bt347.2 != t340) a0_0 a0_1 a0_2 a0_3 a0_4 a0_5) else (laws_FnExactRopeTimes.j0 k t337 t340 bt347.1 true a0_0 a0_1 a0_2 a0_3 a0_4 a0_5)))) = some true := H
  have A4 := Aside0.mk A40
  clear A40
  replace H := Option.bind_eq_some_iff.mp H
  obtain ⟨⟨t347, t350⟩, A50, H⟩ := H
  replace H : ((laws_eqIntS.f k t347 t337).bind fun t351 => (if t351 = true then (laws_FnExactRopeTimes.j0 k t337 t340 t347 (t350 != t340) a0_0 a0_1 a0_2 a0_3 a0_4 a0_5) else (laws_FnExactRopeTimes.j0 k t337 t340 t347 true a0_0 a0_1 a0_2 a0_3 a0_4 a0_5))) = some true := H
  have A5 := Aside0.mk A50
  clear A50
  have HC6 := Aside0.mk H
  clear H
  go_enter Try.func6, Try.ntmps6
  go_upto_region 3 with (first | ((with_reducible refine gate_dst (N := 1) rfl ?_); refine box_event ?hg (N := 1) ?hd (cs := #[.int .i64 a0_0, .int .i64 a0_1, .int .i64 a0_2, .int .i64 a0_3, .int .i64 a0_4, .int .i64 a0_5]) (t := 24) ?hr ?_; (case hd => rfl); (case hg => rfl); (case hr => first | (go_simp; done) | (go_simp; rfl)); intro gb330 hg w7 hbox hb; have n0_ := Aside0.mk (below_step (by repeat (first | (with_reducible first | exact HB.out | apply below_alloc | apply pw_below_drewN | apply below_drew1) | exact HB.out)) hb); have n1_ := Aside0.mk (hbox); have n2_ := Aside0.mk ((by rw [hg]; exact (below_size (by repeat (first | (with_reducible first | exact HB.out | apply below_alloc | apply pw_below_drewN | apply below_drew1) | exact HB.out))) : w.heap.size ≤ gb330)); have n3_ := Aside0.mk ((by rw [hg]; exact (below_size (by repeat (first | (with_reducible first | exact HB.out | apply below_alloc | apply pw_below_drewN | apply below_drew1) | exact HB.out))) : w.heap.size ≤ gb330)); clear HB; have HB := n0_; have BK330 := n1_; have GW330 := n2_; have GE330 := n3_; clear n0_ n1_ n2_ n3_; clear hb hbox hg; have hcz8_0 : w7.cell? ⟨gb330, 0, none⟩ = some (.int .i64 a0_0) := (blk_cell BK330.out 0).trans rfl; have hcz8_1 : w7.cell? ⟨gb330, 1, none⟩ = some (.int .i64 a0_1) := (blk_cell BK330.out 1).trans rfl; have hcz8_2 : w7.cell? ⟨gb330, 2, none⟩ = some (.int .i64 a0_2) := (blk_cell BK330.out 2).trans rfl; have hcz8_3 : w7.cell? ⟨gb330, 3, none⟩ = some (.int .i64 a0_3) := (blk_cell BK330.out 3).trans rfl; have hcz8_4 : w7.cell? ⟨gb330, 4, none⟩ = some (.int .i64 a0_4) := (blk_cell BK330.out 4).trans rfl; have hcz8_5 : w7.cell? ⟨gb330, 5, none⟩ = some (.int .i64 a0_5) := (blk_cell BK330.out 5).trans rfl; have hfz8_0 := blk_frozen BK330.out 0; have hfz8_1 := blk_frozen BK330.out 1; have hfz8_2 := blk_frozen BK330.out 2; have hfz8_3 := blk_frozen BK330.out 3; have hfz8_4 := blk_frozen BK330.out 4; have hfz8_5 := blk_frozen BK330.out 5) | ((with_reducible refine gate_callee (f := 8) rfl ?_); refine goesL_ (some 13) rfl rfl Try.func8 (by kernel_rfl) rfl #[.agg #[.int .i64 a0_0, .int .i64 a0_1, .int .i64 a0_2, .int .i64 a0_3, .int .i64 a0_4, .int .i64 a0_5]] rfl (by (try simp only [List.map_toArray, List.map_cons, List.map_nil]); first | done | rfl | (simp only [List.length_drop, List.length_take]; rfl)) ?_; (with_reducible refine (laws_toRopes.calls a0_0 a0_1 a0_2 a0_3 a0_4 a0_5 t331 t332 t333 t334 t335 t336 _ A2.out).mono ?_); rintro e w9 ⟨rfl, hb⟩; refine ⟨_, rfl, ?_⟩; have n0_ := Aside0.mk (blk_below (g := gb330) (o := .cells #[.int .i64 a0_0, .int .i64 a0_1, .int .i64 a0_2, .int .i64 a0_3, .int .i64 a0_4, .int .i64 a0_5] 24 (0, 0)) (by (with_reducible repeat (first | refine blk_drewN ?_ _ | refine blk_drew ?_ | refine blk_alloc ?_ _)); exact BK330.out) hb); have n1_ := Aside0.mk (below_step (by repeat (first | (with_reducible first | exact HB.out | apply below_alloc | apply pw_below_drewN | apply below_drew1 | refine below_set ?_ GE330.out) | exact HB.out)) hb); clear BK330; clear HB; have BK330 := n0_; have HB := n1_; clear n0_ n1_; (try clear hb); (try clear hb2); (try clear hk); (try clear hi)) | ((with_reducible refine gate_callee (f := 18) rfl ?_); refine goesL_ (some 14) rfl rfl Try.func18 (by kernel_rfl) rfl #[.agg #[.int .i64 t331, .int .i64 t332, .int .i64 t333, .int .i64 t334, .int .i64 t335, .int .i64 t336]] rfl (by (try simp only [List.map_toArray, List.map_cons, List.map_nil]); first | done | rfl | (simp only [List.length_drop, List.length_take]; rfl)) ?_; (with_reducible refine (spec_RopeTimes.calls k t331 t332 t333 t334 t335 t336 t337 t340 _ A3.out).mono ?_); rintro e w10 ⟨v338, rfl, ho0, hb⟩; refine ⟨_, rfl, ?_⟩; have n0_ := Aside0.mk (Kd.V_lower (Kd.V_mono (ok' := fun k_ => k_ ≠ gb330) ho0 (fun k_ hk_ => (Kd.freshB (g := gb330) (o := .cells #[.int .i64 a0_0, .int .i64 a0_1, .int .i64 a0_2, .int .i64 a0_3, .int .i64 a0_4, .int .i64 a0_5] 24 (0, 0)) (by (with_reducible repeat (first | refine blk_drewN ?_ _ | refine blk_drew ?_ | refine blk_alloc ?_ _)); exact BK330.out) k_ hk_))) (below_size (by repeat (first | (with_reducible first | exact HB.out | apply below_alloc | apply pw_below_drewN | apply below_drew1 | refine below_set ?_ GE330.out) | exact HB.out)))); have n1_ := Aside0.mk (blk_below (g := gb330) (o := .cells #[.int .i64 a0_0, .int .i64 a0_1, .int .i64 a0_2, .int .i64 a0_3, .int .i64 a0_4, .int .i64 a0_5] 24 (0, 0)) (by (with_reducible repeat (first | refine blk_drewN ?_ _ | refine blk_drew ?_ | refine blk_alloc ?_ _)); exact BK330.out) hb); have n2_ := Aside0.mk (below_step (by repeat (first | (with_reducible first | exact HB.out | apply below_alloc | apply pw_below_drewN | apply below_drew1 | refine below_set ?_ GE330.out) | exact HB.out)) hb); clear BK330; clear HB; have HO339 := n0_; have BK330 := n1_; have HB := n2_; clear n0_ n1_ n2_; (try clear hb); (try clear hb2); (try clear hk); (try clear hi); (try clear ho0); have hcz11_0 : w10.cell? ⟨gb330, 0, none⟩ = some (.int .i64 a0_0) := (blk_cell BK330.out 0).trans rfl; have hcz11_1 : w10.cell? ⟨gb330, 1, none⟩ = some (.int .i64 a0_1) := (blk_cell BK330.out 1).trans rfl; have hcz11_2 : w10.cell? ⟨gb330, 2, none⟩ = some (.int .i64 a0_2) := (blk_cell BK330.out 2).trans rfl; have hcz11_3 : w10.cell? ⟨gb330, 3, none⟩ = some (.int .i64 a0_3) := (blk_cell BK330.out 3).trans rfl; have hcz11_4 : w10.cell? ⟨gb330, 4, none⟩ = some (.int .i64 a0_4) := (blk_cell BK330.out 4).trans rfl; have hcz11_5 : w10.cell? ⟨gb330, 5, none⟩ = some (.int .i64 a0_5) := (blk_cell BK330.out 5).trans rfl; have hfz11_0 := blk_frozen BK330.out 0; have hfz11_1 := blk_frozen BK330.out 1; have hfz11_2 := blk_frozen BK330.out 2; have hfz11_3 := blk_frozen BK330.out 3; have hfz11_4 := blk_frozen BK330.out 4; have hfz11_5 := blk_frozen BK330.out 5) | ((with_reducible refine gate_callee (f := 8) rfl ?_); refine goesL_ (some 19) rfl rfl Try.func8 (by kernel_rfl) rfl #[.agg #[.int .i64 a0_0, .int .i64 a0_1, .int .i64 a0_2, .int .i64 a0_3, .int .i64 a0_4, .int .i64 a0_5]] rfl (by (try simp only [List.map_toArray, List.map_cons, List.map_nil]); first | done | rfl | (simp only [List.length_drop, List.length_take]; rfl)) ?_; (with_reducible refine (laws_toRopes.calls a0_0 a0_1 a0_2 a0_3 a0_4 a0_5 t341 t342 t343 t344 t345 t346 _ A4.out).mono ?_); rintro e w12 ⟨rfl, hb⟩; refine ⟨_, rfl, ?_⟩; have n0_ := Aside0.mk (Kd.V_below (by (with_reducible repeat (first | apply Kd.V_alloc | apply Kd.V_drewN | apply Kd.V_drew)); exact HO339.out) hb); have n1_ := Aside0.mk (blk_below (g := gb330) (o := .cells #[.int .i64 a0_0, .int .i64 a0_1, .int .i64 a0_2, .int .i64 a0_3, .int .i64 a0_4, .int .i64 a0_5] 24 (0, 0)) (by (with_reducible repeat (first | refine blk_drewN ?_ _ | refine blk_drew ?_ | refine blk_alloc ?_ _)); exact BK330.out) hb); have n2_ := Aside0.mk (below_step (by repeat (first | (with_reducible first | exact HB.out | apply below_alloc | apply pw_below_drewN | apply below_drew1 | refine below_set ?_ GE330.out) | exact HB.out)) hb); clear HO339; clear BK330; clear HB; have HO339 := n0_; have BK330 := n1_; have HB := n2_; clear n0_ n1_ n2_; (try clear hb); (try clear hb2); (try clear hk); (try clear hi)) | ((with_reducible refine gate_callee (f := 19) rfl ?_); refine goesL_ (some 20) rfl rfl Try.func19 (by kernel_rfl) rfl #[.agg #[.int .i64 t341, .int .i64 t342, .int .i64 t343, .int .i64 t344, .int .i64 t345, .int .i64 t346]] rfl (by (try simp only [List.map_toArray, List.map_cons, List.map_nil]); first | done | rfl | (simp only [List.length_drop, List.length_take]; rfl)) ?_; (with_reducible refine (impl_RopeTimes.calls k t341 t342 t343 t344 t345 t346 t347 t350 _ A5.out).mono ?_); rintro e w13 ⟨v348, rfl, ho0, hb⟩; refine ⟨_, rfl, ?_⟩; have n0_ := Aside0.mk (Kd.V_elder' (by (with_reducible repeat (first | apply Kd.V_alloc | apply Kd.V_drewN | apply Kd.V_drew)); exact HO339.out) (Kd.R_base ho0) hb); have n1_ := Aside0.mk (Kd.R_lower ho0 (below_size (by repeat (first | (with_reducible first | exact HB.out | apply below_alloc | apply pw_below_drewN | apply below_drew1 | refine below_set ?_ GE330.out) | exact HB.out)))); have n2_ := Aside0.mk (blk_below (g := gb330) (o := .cells #[.int .i64 a0_0, .int .i64 a0_1, .int .i64 a0_2, .int .i64 a0_3, .int .i64 a0_4, .int .i64 a0_5] 24 (0, 0)) (by (with_reducible repeat (first | refine blk_drewN ?_ _ | refine blk_drew ?_ | refine blk_alloc ?_ _)); exact BK330.out) hb); have n3_ := Aside0.mk (below_step (by repeat (first | (with_reducible first | exact HB.out | apply below_alloc | apply pw_below_drewN | apply below_drew1 | refine below_set ?_ GE330.out) | exact HB.out)) hb); clear HO339; clear BK330; clear HB; have HO339 := n0_; have HO349 := n1_; have BK330 := n2_; have HB := n3_; clear n0_ n1_ n2_ n3_; (try clear hb); (try clear hb2); (try clear hk); (try clear hi); (try clear ho0)))
  (try simp only [Act.put, List.setIfInBounds_toArray, List.set_cons_zero, List.set_cons_succ])
  go_cut [31] (fun v31 wc => ∃ (kq : Nat) (x31_5 : Bool), v31 = .bool x31_5 ∧ Aside0 (laws_FnExactRopeTimes.j0 kq t337 t340 t347 x31_5 a0_0 a0_1 a0_2 a0_3 a0_4 a0_5 = some true) ∧ Aside0 (kq ≤ k) ∧ Aside0 (Kd.V (Kd.int .i64) 3 wc w.heap.size (fun k_ => some k_ ≠ (v348 : Value).ownBlock ∧ k_ ≠ gb330) v338 t337) ∧ Aside0 (Kd.R (Kd.int .i64) 3 wc w.heap.size (fun _ => True) v348 t347) ∧ Aside0 (wc.heap[gb330]? = some (.cells #[.int .i64 a0_0, .int .i64 a0_1, .int .i64 a0_2, .int .i64 a0_3, .int .i64 a0_4, .int .i64 a0_5] 24 (0, 0))) ∧ Aside0 (Below w.heap.size w wc))
  case first =>
    have H := HC6.out
    clear HC6
    replace H := Option.bind_eq_some_iff.mp H
    obtain ⟨t351, A140, H⟩ := H
    replace H : (if t351 = true then (laws_FnExactRopeTimes.j0 k t337 t340 t347 (t350 != t340) a0_0 a0_1 a0_2 a0_3 a0_4 a0_5) else (laws_FnExactRopeTimes.j0 k t337 t340 t347 true a0_0 a0_1 a0_2 a0_3 a0_4 a0_5)) = some true := H
    have A14 := Aside0.mk A140
    clear A140
    by_cases c15 : t351 = true
    · subst c15
      have H1 : (laws_FnExactRopeTimes.j0 k t337 t340 t347 (t350 != t340) a0_0 a0_1 a0_2 a0_3 a0_4 a0_5) = some true := by rw [if_pos rfl] at H; exact H
      clear H
      have H := H1
      clear H1
      have H' := Aside0.mk H
      clear H
      obtain ⟨Ao16, co16, eo16⟩ := Kd.R_slice HO349.out
      subst eo16
      obtain ⟨Ao17, co17, eo17⟩ := Kd.V_slice HO339.out
      subst eo17
      go_wp2_with (first | ((with_reducible refine gate_callee (f := 20) rfl ?_); refine goesL_ (some 25) rfl rfl Try.func20 (by kernel_rfl) rfl #[.slice Ao16 t347.length co16, .slice Ao17 t337.length co17] rfl (by (try simp only [List.map_toArray, List.map_cons, List.map_nil]); first | done | rfl | (simp only [List.length_drop, List.length_take]; rfl)) ?_; (with_reducible refine (laws_eqIntS.calls k _ _ t347 _ _ t337 true _ ?side1 ?side2 ?side3 ?side4 A14.out).mono ?_); (case side1 => repeat (first | exact (Kd.R_reads' HO349.out).2.2 | (with_reducible refine Kd.C_alloc ?_ _) | (with_reducible refine Kd.C_drewN ?_ _) | (with_reducible refine Kd.C_drew ?_))); (case side2 => exact (Kd.R_reads' HO349.out).2.1); (case side3 => repeat (first | exact (Kd.V_reads' HO339.out).2.2 | (with_reducible refine Kd.C_alloc ?_ _) | (with_reducible refine Kd.C_drewN ?_ _) | (with_reducible refine Kd.C_drew ?_))); (case side4 => exact (Kd.V_reads' HO339.out).2.1); rintro e w' ⟨rfl, ⟨nd, rfl⟩⟩; refine ⟨_, rfl, ?_⟩))
      go_meet
      case rel => exact ⟨_, ((t350 != t340)), (by first | rfl | (simp; done) | (simp [*]; done)), H', ⟨by first | omega | exact Nat.le_refl _⟩, ⟨by (with_reducible repeat (first | apply Kd.V_alloc | apply Kd.V_drewN | apply Kd.V_drew)); exact Kd.V_mono HO339.out (fun _ hk => ⟨hk.2, hk.1⟩)⟩, ⟨by (with_reducible repeat (first | apply Kd.R_alloc | apply Kd.R_drewN | apply Kd.R_drew)); exact HO349.out⟩, ⟨by (with_reducible repeat (first | refine blk_drewN ?_ _ | refine blk_drew ?_ | refine blk_alloc ?_ _)); exact BK330.out⟩, ⟨by repeat (first | (with_reducible first | exact HB.out | apply below_alloc | apply pw_below_drewN | apply below_drew1 | refine below_set ?_ GE330.out) | exact HB.out)⟩⟩
    · replace c15 := Bool.eq_false_iff.mpr c15
      subst c15
      have H1 : (laws_FnExactRopeTimes.j0 k t337 t340 t347 true a0_0 a0_1 a0_2 a0_3 a0_4 a0_5) = some true := by rw [if_neg (show ¬ (false = true) by decide)] at H; exact H
      clear H
      have H := H1
      clear H1
      have H' := Aside0.mk H
      clear H
      obtain ⟨Ao18, co18, eo18⟩ := Kd.R_slice HO349.out
      subst eo18
      obtain ⟨Ao19, co19, eo19⟩ := Kd.V_slice HO339.out
      subst eo19
      go_wp2_with (first | ((with_reducible refine gate_callee (f := 20) rfl ?_); refine goesL_ (some 25) rfl rfl Try.func20 (by kernel_rfl) rfl #[.slice Ao18 t347.length co18, .slice Ao19 t337.length co19] rfl (by (try simp only [List.map_toArray, List.map_cons, List.map_nil]); first | done | rfl | (simp only [List.length_drop, List.length_take]; rfl)) ?_; (with_reducible refine (laws_eqIntS.calls k _ _ t347 _ _ t337 false _ ?side1 ?side2 ?side3 ?side4 A14.out).mono ?_); (case side1 => repeat (first | exact (Kd.R_reads' HO349.out).2.2 | (with_reducible refine Kd.C_alloc ?_ _) | (with_reducible refine Kd.C_drewN ?_ _) | (with_reducible refine Kd.C_drew ?_))); (case side2 => exact (Kd.R_reads' HO349.out).2.1); (case side3 => repeat (first | exact (Kd.V_reads' HO339.out).2.2 | (with_reducible refine Kd.C_alloc ?_ _) | (with_reducible refine Kd.C_drewN ?_ _) | (with_reducible refine Kd.C_drew ?_))); (case side4 => exact (Kd.V_reads' HO339.out).2.1); rintro e w' ⟨rfl, ⟨nd, rfl⟩⟩; refine ⟨_, rfl, ?_⟩))
      go_meet
      case rel => exact ⟨_, (true), (by first | rfl | (simp; done) | (simp [*]; done)), H', ⟨by first | omega | exact Nat.le_refl _⟩, ⟨by (with_reducible repeat (first | apply Kd.V_alloc | apply Kd.V_drewN | apply Kd.V_drew)); exact Kd.V_mono HO339.out (fun _ hk => ⟨hk.2, hk.1⟩)⟩, ⟨by (with_reducible repeat (first | apply Kd.R_alloc | apply Kd.R_drewN | apply Kd.R_drew)); exact HO349.out⟩, ⟨by (with_reducible repeat (first | refine blk_drewN ?_ _ | refine blk_drew ?_ | refine blk_alloc ?_ _)); exact BK330.out⟩, ⟨by repeat (first | (with_reducible first | exact HB.out | apply below_alloc | apply pw_below_drewN | apply below_drew1 | refine below_set ?_ GE330.out) | exact HB.out)⟩⟩
  case rest =>
    clear HC6
    try clear c1
    try clear c2
    try clear p2
    try clear c6
    try clear c8
    try clear c15
    try clear c18
    try clear c19
    try clear hcz11_0
    try clear hcz11_1
    try clear hcz11_2
    try clear hcz11_3
    try clear hcz11_4
    try clear hcz11_5
    try clear hcz8_0
    try clear hcz8_1
    try clear hcz8_2
    try clear hcz8_3
    try clear hcz8_4
    try clear hcz8_5
    try clear hfz11_0
    try clear hfz11_1
    try clear hfz11_2
    try clear hfz11_3
    try clear hfz11_4
    try clear hfz11_5
    try clear hfz8_0
    try clear hfz8_1
    try clear hfz8_2
    try clear hfz8_3
    try clear hfz8_4
    try clear hfz8_5
    obtain ⟨kq, x31_5, rfl, HA, HJ5, HO_3, HO_5, BK330, HB⟩ := hcut
    cases kq with
    | zero => exact absurd HA.out (by simp [laws_FnExactRopeTimes.j0])
    | succ kj5 =>
      have H := HA.out
      clear HA
      simp only [laws_FnExactRopeTimes.j0] at H
      by_cases c20 : x31_5 = true
      · subst c20
        have H1 : (some false) = some true := by first | (rw [if_pos rfl] at H; exact H) | rfl
        clear H
        have H := H1
        clear H1
        exact absurd H (by simp)
      · replace c20 := Bool.eq_false_iff.mpr c20
        subst c20
        have H1 : ((laws_markIntS.f kj5 t347 1).bind fun bt352 => ((laws_heldIntS.f kj5 bt352.2 1).bind fun t354 => (if t354 < 0 then (some false) else (if t354 = bt352.1 then ((laws_toRopes.f a0_0 a0_1 a0_2 a0_3 a0_4 a0_5).bind fun bt355 => ((impl_RopeTimes.f kj5 bt355.1 bt355.2.1 bt355.2.2.1 bt355.2.2.2.1 bt355.2.2.2.2.1 bt355.2.2.2.2.2).bind fun bt361 => ((laws_eqIntS.f kj5 bt361.1 t337).bind fun t365 => (if t365 = true then (laws_FnExactRopeTimes.j1 kj5 bt352.2 bt352.1 (bt361.2 != t340)) else (laws_FnExactRopeTimes.j1 kj5 bt352.2 bt352.1 true))))) else (some false))))) = some true := by rw [if_neg (show ¬ (false = true) by decide)] at H; exact H
        clear H
        have H := H1
        clear H1
        replace H := Option.bind_eq_some_iff.mp H
        obtain ⟨⟨t352, t353⟩, A210, H⟩ := H
        replace H : ((laws_heldIntS.f kj5 t353 1).bind fun t354 => (if t354 < 0 then (some false) else (if t354 = t352 then ((laws_toRopes.f a0_0 a0_1 a0_2 a0_3 a0_4 a0_5).bind fun bt355 => ((impl_RopeTimes.f kj5 bt355.1 bt355.2.1 bt355.2.2.1 bt355.2.2.2.1 bt355.2.2.2.2.1 bt355.2.2.2.2.2).bind fun bt361 => ((laws_eqIntS.f kj5 bt361.1 t337).bind fun t365 => (if t365 = true then (laws_FnExactRopeTimes.j1 kj5 t353 t352 (bt361.2 != t340)) else (laws_FnExactRopeTimes.j1 kj5 t353 t352 true))))) else (some false)))) = some true := H
        have A21 := Aside0.mk A210
        clear A210
        replace H := Option.bind_eq_some_iff.mp H
        obtain ⟨t354, A220, H⟩ := H
        replace H : (if t354 < 0 then (some false) else (if t354 = t352 then ((laws_toRopes.f a0_0 a0_1 a0_2 a0_3 a0_4 a0_5).bind fun bt355 => ((impl_RopeTimes.f kj5 bt355.1 bt355.2.1 bt355.2.2.1 bt355.2.2.2.1 bt355.2.2.2.2.1 bt355.2.2.2.2.2).bind fun bt361 => ((laws_eqIntS.f kj5 bt361.1 t337).bind fun t365 => (if t365 = true then (laws_FnExactRopeTimes.j1 kj5 t353 t352 (bt361.2 != t340)) else (laws_FnExactRopeTimes.j1 kj5 t353 t352 true))))) else (some false))) = some true := H
        have A22 := Aside0.mk A220
        clear A220
        by_cases c23 : t354 < 0
        · rw [if_pos c23] at H
          have c23b0 : decide (t354 < 0) = true := decide_eq_true c23
          clear c23
          exact absurd H (by simp)
        · rw [if_neg c23] at H
          have c23b0 : decide (t354 < 0) = false := decide_eq_false c23
          clear c23
          by_cases c24 : t354 = t352
          · rw [if_pos c24] at H
            have c24b0 : (t354 == t352) = true := beq_iff_eq.mpr c24
            have c24b1 : (t354 != t352) = false := bne_eq_false_iff_eq.mpr c24
            clear c24
            replace H := Option.bind_eq_some_iff.mp H
            obtain ⟨⟨t355, t356, t357, t358, t359, t360⟩, A250, H⟩ := H
            replace H : ((impl_RopeTimes.f kj5 t355 t356 t357 t358 t359 t360).bind fun bt361 => ((laws_eqIntS.f kj5 bt361.1 t337).bind fun t365 => (if t365 = true then (laws_FnExactRopeTimes.j1 kj5 t353 t352 (bt361.2 != t340)) else (laws_FnExactRopeTimes.j1 kj5 t353 t352 true)))) = some true := H
            have A25 := Aside0.mk A250
            clear A250
            replace H := Option.bind_eq_some_iff.mp H
            obtain ⟨⟨t361, t364⟩, A260, H⟩ := H
            replace H : ((laws_eqIntS.f kj5 t361 t337).bind fun t365 => (if t365 = true then (laws_FnExactRopeTimes.j1 kj5 t353 t352 (t364 != t340)) else (laws_FnExactRopeTimes.j1 kj5 t353 t352 true))) = some true := H
            have A26 := Aside0.mk A260
            clear A260
            have HC27 := Aside0.mk H
            clear H
            obtain ⟨Ao28, co28, eo28⟩ := Kd.R_slice HO_5.out
            subst eo28
            go_upto_region 14 with (first | ((with_reducible refine gate_callee (f := 21) rfl ?_); refine goesL_ (some 34) rfl rfl Try.func21 (by kernel_rfl) rfl #[.slice Ao28 t347.length co28, .int .i64 1] rfl (by (try simp only [List.map_toArray, List.map_cons, List.map_nil]); first | done | rfl | (simp only [List.length_drop, List.length_take]; rfl)) ?_; (with_reducible refine (laws_markIntS.calls kj5 (fun k_ => some k_ = (.slice Ao28 t347.length co28 : Value).ownBlock) (.slice Ao28 t347.length co28) t347 1 t352 t353 w _ ?side1 ?side2 A21.out).mono ?_); (case side1 => repeat (first | (with_reducible first | exact HB.out | apply below_alloc | apply pw_below_drewN | apply below_drew1 | refine below_set ?_ GE330.out) | exact HB.out)); (case side2 => exact Kd.R_tight rfl HO_5.out); rintro e w29 ⟨rfl, hy0, hb, hkp⟩; refine ⟨_, rfl, ?_⟩; have n0_ := Aside0.mk (Kd.V_mono (ok' := fun k_ => some k_ ≠ (.slice Ao28 t347.length co28 : Value).ownBlock ∧ k_ ≠ gb330) (Kd.V_keptB (HO_3.out) hkp (fun k_ hk_ hs_ => (hk_.1) hs_)) (fun k_ hk_ => ⟨hk_.1.1, hk_.1.2⟩)); have n1_ := Aside0.mk (Kd.R_reok rfl hy0 (fun k_ e_ => HO_5.out.1 k_ e_)); have n2_ := Aside0.mk (blk_kept (by (with_reducible repeat (first | refine blk_drewN ?_ _ | refine blk_drew ?_ | refine blk_alloc ?_ _)); exact BK330.out) hkp (fun hs_ => (fun e_ => (Kd.R_ne HO_5.out BK330.out (by decide)) e_) hs_)); have n3_ := Aside0.mk (hb); clear HO_3; clear HO_5; clear BK330; clear HB; have HO_3 := n0_; have HO_5 := n1_; have BK330 := n2_; have HB := n3_; clear n0_ n1_ n2_ n3_; (try clear hb); (try clear hkp); (try clear hy0)) | ((with_reducible refine gate_callee (f := 22) rfl ?_); refine goesL_ (some 37) rfl rfl Try.func22 (by kernel_rfl) rfl #[.slice Ao28 t353.length co28, .int .i64 1] rfl (by (try simp only [List.map_toArray, List.map_cons, List.map_nil]); first | done | (rw [show t353.length = t347.length from (Kd.R_reads' HO_5.out).1.symm] <;> rfl) | rfl | (simp only [List.length_drop, List.length_take]; rfl)) ?_; (with_reducible refine (laws_heldIntS.calls kj5 _ _ t353 1 t354 _ ?side1 ?side2 A22.out).mono ?_); (case side1 => repeat (first | exact (Kd.R_reads' HO_5.out).2.2 | (with_reducible refine Kd.C_alloc ?_ _) | (with_reducible refine Kd.C_drewN ?_ _) | (with_reducible refine Kd.C_drew ?_))); (case side2 => rw [show t353.length = t347.length from (Kd.R_reads' HO_5.out).1.symm]; exact (Kd.R_reads' HO_5.out).2.1); rintro e w' ⟨rfl, ⟨nd, rfl⟩⟩; refine ⟨_, rfl, ?_⟩; have hcz30_0 : w29.cell? ⟨gb330, 0, none⟩ = some (.int .i64 a0_0) := (blk_cell BK330.out 0).trans rfl; have hcz30_1 : w29.cell? ⟨gb330, 1, none⟩ = some (.int .i64 a0_1) := (blk_cell BK330.out 1).trans rfl; have hcz30_2 : w29.cell? ⟨gb330, 2, none⟩ = some (.int .i64 a0_2) := (blk_cell BK330.out 2).trans rfl; have hcz30_3 : w29.cell? ⟨gb330, 3, none⟩ = some (.int .i64 a0_3) := (blk_cell BK330.out 3).trans rfl; have hcz30_4 : w29.cell? ⟨gb330, 4, none⟩ = some (.int .i64 a0_4) := (blk_cell BK330.out 4).trans rfl; have hcz30_5 : w29.cell? ⟨gb330, 5, none⟩ = some (.int .i64 a0_5) := (blk_cell BK330.out 5).trans rfl; have hfz30_0 := blk_frozen BK330.out 0; have hfz30_1 := blk_frozen BK330.out 1; have hfz30_2 := blk_frozen BK330.out 2; have hfz30_3 := blk_frozen BK330.out 3; have hfz30_4 := blk_frozen BK330.out 4; have hfz30_5 := blk_frozen BK330.out 5) | ((with_reducible refine gate_callee (f := 8) rfl ?_); refine goesL_ (some 45) rfl rfl Try.func8 (by kernel_rfl) rfl #[.agg #[.int .i64 a0_0, .int .i64 a0_1, .int .i64 a0_2, .int .i64 a0_3, .int .i64 a0_4, .int .i64 a0_5]] rfl (by (try simp only [List.map_toArray, List.map_cons, List.map_nil]); first | done | rfl | (simp only [List.length_drop, List.length_take]; rfl)) ?_; (with_reducible refine (laws_toRopes.calls a0_0 a0_1 a0_2 a0_3 a0_4 a0_5 t355 t356 t357 t358 t359 t360 _ A25.out).mono ?_); rintro e w31 ⟨rfl, hb⟩; refine ⟨_, rfl, ?_⟩; have n0_ := Aside0.mk (Kd.V_below (by (with_reducible repeat (first | apply Kd.V_alloc | apply Kd.V_drewN | apply Kd.V_drew)); exact HO_3.out) hb); have n1_ := Aside0.mk (Kd.R_below (by (with_reducible repeat (first | apply Kd.R_alloc | apply Kd.R_drewN | apply Kd.R_drew)); exact HO_5.out) hb); have n2_ := Aside0.mk (blk_below (g := gb330) (o := .cells #[.int .i64 a0_0, .int .i64 a0_1, .int .i64 a0_2, .int .i64 a0_3, .int .i64 a0_4, .int .i64 a0_5] 24 (0, 0)) (by (with_reducible repeat (first | refine blk_drewN ?_ _ | refine blk_drew ?_ | refine blk_alloc ?_ _)); exact BK330.out) hb); have n3_ := Aside0.mk (below_step (by repeat (first | (with_reducible first | exact HB.out | apply below_alloc | apply pw_below_drewN | apply below_drew1 | refine below_set ?_ GE330.out) | exact HB.out)) hb); clear HO_3; clear HO_5; clear BK330; clear HB; have HO_3 := n0_; have HO_5 := n1_; have BK330 := n2_; have HB := n3_; clear n0_ n1_ n2_ n3_; (try clear hb); (try clear hb2); (try clear hk); (try clear hi)) | ((with_reducible refine gate_callee (f := 19) rfl ?_); refine goesL_ (some 46) rfl rfl Try.func19 (by kernel_rfl) rfl #[.agg #[.int .i64 t355, .int .i64 t356, .int .i64 t357, .int .i64 t358, .int .i64 t359, .int .i64 t360]] rfl (by (try simp only [List.map_toArray, List.map_cons, List.map_nil]); first | done | rfl | (simp only [List.length_drop, List.length_take]; rfl)) ?_; (with_reducible refine (impl_RopeTimes.calls kj5 t355 t356 t357 t358 t359 t360 t361 t364 _ A26.out).mono ?_); rintro e w32 ⟨v362, rfl, ho0, hb⟩; refine ⟨_, rfl, ?_⟩; have n0_ := Aside0.mk (Kd.V_elder' (by (with_reducible repeat (first | apply Kd.V_alloc | apply Kd.V_drewN | apply Kd.V_drew)); exact HO_3.out) (Kd.R_base ho0) hb); have n1_ := Aside0.mk (Kd.R_elder' (by (with_reducible repeat (first | apply Kd.R_alloc | apply Kd.R_drewN | apply Kd.R_drew)); exact HO_5.out) (Kd.R_base ho0) hb); have n2_ := Aside0.mk (Kd.R_lower (Kd.R_new' ho0 (Kd.R_lt (by (with_reducible repeat (first | apply Kd.R_alloc | apply Kd.R_drewN | apply Kd.R_drew)); exact HO_5.out))) (below_size (by repeat (first | (with_reducible first | exact HB.out | apply below_alloc | apply pw_below_drewN | apply below_drew1 | refine below_set ?_ GE330.out) | exact HB.out)))); have n3_ := Aside0.mk (blk_below (g := gb330) (o := .cells #[.int .i64 a0_0, .int .i64 a0_1, .int .i64 a0_2, .int .i64 a0_3, .int .i64 a0_4, .int .i64 a0_5] 24 (0, 0)) (by (with_reducible repeat (first | refine blk_drewN ?_ _ | refine blk_drew ?_ | refine blk_alloc ?_ _)); exact BK330.out) hb); have n4_ := Aside0.mk (below_step (by repeat (first | (with_reducible first | exact HB.out | apply below_alloc | apply pw_below_drewN | apply below_drew1 | refine below_set ?_ GE330.out) | exact HB.out)) hb); clear HO_3; clear HO_5; clear BK330; clear HB; have HO_3 := n0_; have HO_5 := n1_; have HO363 := n2_; have BK330 := n3_; have HB := n4_; clear n0_ n1_ n2_ n3_ n4_; (try clear hb); (try clear hb2); (try clear hk); (try clear hi); (try clear ho0)))
            (try simp only [Act.put, List.setIfInBounds_toArray, List.set_cons_zero, List.set_cons_succ])
            go_cut [57] (fun v57 wc => ∃ (kq : Nat) (x57_26 : Bool), v57 = .bool x57_26 ∧ Aside0 (laws_FnExactRopeTimes.j1 kq t353 t352 x57_26 = some true) ∧ Aside0 (kq ≤ kj5) ∧ Aside0 (Kd.R (Kd.int .i64) 3 wc w.heap.size (fun _ => True) (.slice Ao28 t347.length co28) t353) ∧ Aside0 (wc.heap[gb330]? = some (.cells #[.int .i64 a0_0, .int .i64 a0_1, .int .i64 a0_2, .int .i64 a0_3, .int .i64 a0_4, .int .i64 a0_5] 24 (0, 0))) ∧ Aside0 (Below w.heap.size w wc))
            case first =>
              have H := HC27.out
              clear HC27
              replace H := Option.bind_eq_some_iff.mp H
              obtain ⟨t365, A330, H⟩ := H
              replace H : (if t365 = true then (laws_FnExactRopeTimes.j1 kj5 t353 t352 (t364 != t340)) else (laws_FnExactRopeTimes.j1 kj5 t353 t352 true)) = some true := H
              have A33 := Aside0.mk A330
              clear A330
              by_cases c34 : t365 = true
              · subst c34
                have H1 : (laws_FnExactRopeTimes.j1 kj5 t353 t352 (t364 != t340)) = some true := by rw [if_pos rfl] at H; exact H
                clear H
                have H := H1
                clear H1
                have H' := Aside0.mk H
                clear H
                obtain ⟨Ao35, co35, eo35⟩ := Kd.R_slice HO363.out
                subst eo35
                obtain ⟨Ao36, co36, eo36⟩ := Kd.V_slice HO_3.out
                subst eo36
                go_wp2_with (first | ((with_reducible refine gate_callee (f := 20) rfl ?_); refine goesL_ (some 51) rfl rfl Try.func20 (by kernel_rfl) rfl #[.slice Ao35 t361.length co35, .slice Ao36 t337.length co36] rfl (by (try simp only [List.map_toArray, List.map_cons, List.map_nil]); first | done | rfl | (simp only [List.length_drop, List.length_take]; rfl)) ?_; (with_reducible refine (laws_eqIntS.calls kj5 _ _ t361 _ _ t337 true _ ?side1 ?side2 ?side3 ?side4 A33.out).mono ?_); (case side1 => repeat (first | exact (Kd.R_reads' HO363.out).2.2 | (with_reducible refine Kd.C_alloc ?_ _) | (with_reducible refine Kd.C_drewN ?_ _) | (with_reducible refine Kd.C_drew ?_))); (case side2 => exact (Kd.R_reads' HO363.out).2.1); (case side3 => repeat (first | exact (Kd.V_reads' HO_3.out).2.2 | (with_reducible refine Kd.C_alloc ?_ _) | (with_reducible refine Kd.C_drewN ?_ _) | (with_reducible refine Kd.C_drew ?_))); (case side4 => exact (Kd.V_reads' HO_3.out).2.1); rintro e w' ⟨rfl, ⟨nd, rfl⟩⟩; refine ⟨_, rfl, ?_⟩))
                go_meet
                case rel => exact ⟨_, ((t364 != t340)), (by first | rfl | (simp; done) | (simp [*]; done)), H', ⟨by have := HJ5.out; first | omega | exact Nat.le_refl _⟩, ⟨by (with_reducible repeat (first | apply Kd.R_alloc | apply Kd.R_drewN | apply Kd.R_drew)); exact Kd.R_mono HO_5.out (fun _ hk => trivial)⟩, ⟨by (with_reducible repeat (first | refine blk_drewN ?_ _ | refine blk_drew ?_ | refine blk_alloc ?_ _)); exact BK330.out⟩, ⟨by repeat (first | (with_reducible first | exact HB.out | apply below_alloc | apply pw_below_drewN | apply below_drew1 | refine below_set ?_ GE330.out) | exact HB.out)⟩⟩
              · replace c34 := Bool.eq_false_iff.mpr c34
                subst c34
                have H1 : (laws_FnExactRopeTimes.j1 kj5 t353 t352 true) = some true := by rw [if_neg (show ¬ (false = true) by decide)] at H; exact H
                clear H
                have H := H1
                clear H1
                have H' := Aside0.mk H
                clear H
                obtain ⟨Ao37, co37, eo37⟩ := Kd.R_slice HO363.out
                subst eo37
                obtain ⟨Ao38, co38, eo38⟩ := Kd.V_slice HO_3.out
                subst eo38
                go_wp2_with (first | ((with_reducible refine gate_callee (f := 20) rfl ?_); refine goesL_ (some 51) rfl rfl Try.func20 (by kernel_rfl) rfl #[.slice Ao37 t361.length co37, .slice Ao38 t337.length co38] rfl (by (try simp only [List.map_toArray, List.map_cons, List.map_nil]); first | done | rfl | (simp only [List.length_drop, List.length_take]; rfl)) ?_; (with_reducible refine (laws_eqIntS.calls kj5 _ _ t361 _ _ t337 false _ ?side1 ?side2 ?side3 ?side4 A33.out).mono ?_); (case side1 => repeat (first | exact (Kd.R_reads' HO363.out).2.2 | (with_reducible refine Kd.C_alloc ?_ _) | (with_reducible refine Kd.C_drewN ?_ _) | (with_reducible refine Kd.C_drew ?_))); (case side2 => exact (Kd.R_reads' HO363.out).2.1); (case side3 => repeat (first | exact (Kd.V_reads' HO_3.out).2.2 | (with_reducible refine Kd.C_alloc ?_ _) | (with_reducible refine Kd.C_drewN ?_ _) | (with_reducible refine Kd.C_drew ?_))); (case side4 => exact (Kd.V_reads' HO_3.out).2.1); rintro e w' ⟨rfl, ⟨nd, rfl⟩⟩; refine ⟨_, rfl, ?_⟩))
                go_meet
                case rel => exact ⟨_, (true), (by first | rfl | (simp; done) | (simp [*]; done)), H', ⟨by have := HJ5.out; first | omega | exact Nat.le_refl _⟩, ⟨by (with_reducible repeat (first | apply Kd.R_alloc | apply Kd.R_drewN | apply Kd.R_drew)); exact Kd.R_mono HO_5.out (fun _ hk => trivial)⟩, ⟨by (with_reducible repeat (first | refine blk_drewN ?_ _ | refine blk_drew ?_ | refine blk_alloc ?_ _)); exact BK330.out⟩, ⟨by repeat (first | (with_reducible first | exact HB.out | apply below_alloc | apply pw_below_drewN | apply below_drew1 | refine below_set ?_ GE330.out) | exact HB.out)⟩⟩
            case rest =>
              clear HC27
              try clear c1
              try clear c2
              try clear p2
              try clear c3
              try clear c6
              try clear c8
              try clear c15
              try clear c18
              try clear c19
              try clear c20
              try clear c21
              try clear c22
              try clear c23
              try clear c23b0
              try clear c24
              try clear c24b0
              try clear c24b1
              try clear c34
              try clear hcz11_0
              try clear hcz11_1
              try clear hcz11_2
              try clear hcz11_3
              try clear hcz11_4
              try clear hcz11_5
              try clear hcz30_0
              try clear hcz30_1
              try clear hcz30_2
              try clear hcz30_3
              try clear hcz30_4
              try clear hcz30_5
              try clear hcz8_0
              try clear hcz8_1
              try clear hcz8_2
              try clear hcz8_3
              try clear hcz8_4
              try clear hcz8_5
              try clear hfz11_0
              try clear hfz11_1
              try clear hfz11_2
              try clear hfz11_3
              try clear hfz11_4
              try clear hfz11_5
              try clear hfz30_0
              try clear hfz30_1
              try clear hfz30_2
              try clear hfz30_3
              try clear hfz30_4
              try clear hfz30_5
              try clear hfz8_0
              try clear hfz8_1
              try clear hfz8_2
              try clear hfz8_3
              try clear hfz8_4
              try clear hfz8_5
              try clear p2
              obtain ⟨kq, x57_26, rfl, HA, HJ26, HO_5, BK330, HB⟩ := hcut
              have hl5_26 := (Kd.R_reads' HO_5.out).1
              rw [hl5_26] at HO_5
              (try simp only [hl5_26])
              (try simp only [hl5_26] at BK330)
              cases kq with
              | zero => exact absurd HA.out (by simp [laws_FnExactRopeTimes.j1])
              | succ kj26 =>
                have H := HA.out
                clear HA
                simp only [laws_FnExactRopeTimes.j1] at H
                by_cases c39 : x57_26 = true
                · subst c39
                  have H1 : (some false) = some true := by first | (rw [if_pos rfl] at H; exact H) | rfl
                  clear H
                  have H := H1
                  clear H1
                  exact absurd H (by simp)
                · replace c39 := Bool.eq_false_iff.mpr c39
                  subst c39
                  have H1 : ((laws_heldIntS.f kj26 t353 1).bind fun t366 => (if t366 < 0 then (some false) else (if t366 = t352 then (some true) else (some false)))) = some true := by rw [if_neg (show ¬ (false = true) by decide)] at H; exact H
                  clear H
                  have H := H1
                  clear H1
                  replace H := Option.bind_eq_some_iff.mp H
                  obtain ⟨t366, A400, H⟩ := H
                  replace H : (if t366 < 0 then (some false) else (if t366 = t352 then (some true) else (some false))) = some true := H
                  have A40 := Aside0.mk A400
                  clear A400
                  by_cases c41 : t366 < 0
                  · rw [if_pos c41] at H
                    have c41b0 : decide (t366 < 0) = true := decide_eq_true c41
                    clear c41
                    exact absurd H (by simp)
                  · rw [if_neg c41] at H
                    have c41b0 : decide (t366 < 0) = false := decide_eq_false c41
                    clear c41
                    by_cases c42 : t366 = t352
                    · rw [if_pos c42] at H
                      have c42b0 : (t366 == t352) = true := beq_iff_eq.mpr c42
                      have c42b1 : (t366 != t352) = false := bne_eq_false_iff_eq.mpr c42
                      clear c42
                      clear H
                      go_wp2_with (first | ((with_reducible refine gate_callee (f := 22) rfl ?_); refine goesL_ (some 60) rfl rfl Try.func22 (by kernel_rfl) rfl #[.slice Ao28 t353.length co28, .int .i64 1] rfl (by (try simp only [List.map_toArray, List.map_cons, List.map_nil]); first | done | rfl | (simp only [List.length_drop, List.length_take]; rfl)) ?_; (with_reducible refine (laws_heldIntS.calls kj26 _ _ t353 1 t366 _ ?side1 ?side2 A40.out).mono ?_); (case side1 => repeat (first | exact (Kd.R_reads' HO_5.out).2.2 | (with_reducible refine Kd.C_alloc ?_ _) | (with_reducible refine Kd.C_drewN ?_ _) | (with_reducible refine Kd.C_drew ?_))); (case side2 => exact (Kd.R_reads' HO_5.out).2.1); rintro e w' ⟨rfl, ⟨nd, rfl⟩⟩; refine ⟨_, rfl, ?_⟩))
                      go_ret
                      exact ⟨by first | rfl | (simp [errW_none, errW_some] <;> rfl) | (simp [*, errW_none, errW_some] <;> rfl), by repeat (first | (with_reducible first | exact HB.out | apply below_alloc | apply pw_below_drewN | apply below_drew1 | refine below_set ?_ GE330.out) | exact HB.out)⟩
                    · rw [if_neg c42] at H
                      have c42b0 : (t366 == t352) = false := beq_eq_false_iff_ne.mpr c42
                      have c42b1 : (t366 != t352) = true := bne_iff_ne.mpr c42
                      exact absurd H (by simp)
          · rw [if_neg c24] at H
            have c24b0 : (t354 == t352) = false := beq_eq_false_iff_ne.mpr c24
            have c24b1 : (t354 != t352) = true := bne_iff_ne.mpr c24
            exact absurd H (by simp)

/-- The one pure statement of laws_FnExactRopeTimes. -/
def laws_FnExactRopeTimes.Pure : Prop := ∀ (a0_0 : Int) (a0_1 : Int) (a0_2 : Int) (a0_3 : Int) (a0_4 : Int) (a0_5 : Int), (Lit.int .i64 a0_0).wf = true → (Lit.int .i64 a0_1).wf = true → (Lit.int .i64 a0_2).wf = true → (Lit.int .i64 a0_3).wf = true → (Lit.int .i64 a0_4).wf = true → (Lit.int .i64 a0_5).wf = true → ∃ k, laws_FnExactRopeTimes.f k a0_0 a0_1 a0_2 a0_3 a0_4 a0_5 = some true

end Go.Proofs.Ythoblgccnkjnoaa.PT
