-- Printed by a program of this session's own.
import Derived.Test.YtkefphfjeodgnaaVMeetingsPAx0
import Derived.Test.YtkefphfjeodgnaaVMeetingsPAx2
import Derived.Test.YtkefphfjeodgnaaVMeetingsPAx17
import Derived.Test.YtkefphfjeodgnaaVMeetingsPAx21
import Derived.Test.YtkefphfjeodgnaaVMeetingsPAx26
namespace Go.Proofs.Ytkefphfjeodgnaa.PA
open Go.RowKit Go.Proofs.YtkefphfjeodgnaaW.PrintWords Go.Proofs.YtkefphfjeodgnaaW.PrintLast Go.Proofs.YtkefphfjeodgnaaW.PrintMore Go.Proofs.YtkefphfjeodgnaaX
attribute [local go_sem] max2_int max_two  -- for this text's walks alone
set_option linter.unusedVariables false
set_option linter.unusedSimpArgs false

/-! ### laws_FnExactMeetingsOf: function 14 -/
mutual
def laws_FnExactMeetingsOf.j0 : Nat → List (S28) → Bool → List (S28) → Bool → Int → Int → Int → Int → Int → Int → Option (Bool)
  | 0, _, _, _, _, _, _, _, _, _, _ => none
  | k + 1, x5, x6, x7, x37, x594000, x594001, x594002, x595000, x595001, x595002 => if x37 = true then (some false) else ((laws_markIntA2S.f k x7 1).bind fun bt616 => ((laws_heldIntA2S.f k bt616.2 1).bind fun t618 => (if t618 < 0 then (some false) else (if t618 = bt616.1 then ((laws_toCandle.f x594000 x594001 x594002).bind fun bt619 => ((laws_toCandle.f x595000 x595001 x595002).bind fun bt622 => ((impl_MeetingsOf.f k bt619.1 bt619.2.1 bt619.2.2 bt622.1 bt622.2.1 bt622.2.2).bind fun bt625 => ((laws_eqIntA2S.f k bt625.1 x5).bind fun t629 => (if t629 = true then (laws_FnExactMeetingsOf.j1 k bt616.2 bt616.1 (bt625.2 != x6)) else (laws_FnExactMeetingsOf.j1 k bt616.2 bt616.1 true)))))) else (some false)))))
def laws_FnExactMeetingsOf.j1 : Nat → List (S28) → Int → Bool → Option (Bool)
  | 0, _, _, _ => none
  | k + 1, x7, x9, x65 => if x65 = true then (some false) else ((laws_heldIntA2S.f k x7 1).bind fun t630 => (if t630 < 0 then (some false) else (if t630 = x9 then (some true) else (some false))))
end
def laws_FnExactMeetingsOf.f (k : Nat) (a0_0 : Int) (a0_1 : Int) (a0_2 : Int) (a1_0 : Int) (a1_1 : Int) (a1_2 : Int) : Option (Bool) := (laws_toCandle.f a0_0 a0_1 a0_2).bind fun bt595 => ((laws_toCandle.f a1_0 a1_1 a1_2).bind fun bt598 => ((spec_MeetingsOf.f k bt595.1 bt595.2.1 bt595.2.2 bt598.1 bt598.2.1 bt598.2.2).bind fun bt601 => ((laws_toCandle.f a0_0 a0_1 a0_2).bind fun bt605 => ((laws_toCandle.f a1_0 a1_1 a1_2).bind fun bt608 => ((impl_MeetingsOf.f k bt605.1 bt605.2.1 bt605.2.2 bt608.1 bt608.2.1 bt608.2.2).bind fun bt611 => ((laws_eqIntA2S.f k bt611.1 bt601.1).bind fun t615 => (if t615 = true then (laws_FnExactMeetingsOf.j0 k bt601.1 bt601.2 bt611.1 (bt611.2 != bt601.2) a0_0 a0_1 a0_2 a1_0 a1_1 a1_2) else (laws_FnExactMeetingsOf.j0 k bt601.1 bt601.2 bt611.1 true a0_0 a0_1 a0_2 a1_0 a1_1 a1_2))))))))
def laws_FnExactMeetingsOf.T1 : Bool × List (List Nat × List Nat) := (true, [([], []), ([0], [0]), ([], []), ([2, 1], [2]), ([1, 3, 3], [1, 3]), ([4], [4]), ([5], [5]), ([5], [5]), ([6, 4, 0, 1, 2, 3, 4, 5, 6], [6]), ([7, 8, 0, 1, 2, 3, 4, 5, 6, 7, 8], [7])])
def laws_FnExactMeetingsOf.B1 : List Nat := [0, 1, 0, 7, 15, 31, 63, 63, 127, 511]
theorem laws_FnExactMeetingsOf.tab1 : rtab .any (opsOf Try.f14 1) = laws_FnExactMeetingsOf.T1 := by kernel_rfl
theorem laws_FnExactMeetingsOf.bits1 : waitsOk laws_FnExactMeetingsOf.T1.2 laws_FnExactMeetingsOf.B1 = true := by kernel_rfl
def laws_FnExactMeetingsOf.T2 : Bool × List (List Nat × List Nat) := (true, [([], []), ([0], [0]), ([], []), ([2, 1], [2]), ([1, 3, 3], [1, 3]), ([4], [4]), ([5], [5]), ([5], [5]), ([6, 4, 0, 1, 2, 3, 4, 5, 6], [6]), ([7, 8, 0, 1, 2, 3, 4, 5, 6, 7, 8], [7])])
def laws_FnExactMeetingsOf.B2 : List Nat := [0, 1, 0, 7, 15, 31, 63, 63, 127, 511]
theorem laws_FnExactMeetingsOf.tab2 : rtab .any (opsOf Try.f14 2) = laws_FnExactMeetingsOf.T2 := by kernel_rfl
theorem laws_FnExactMeetingsOf.bits2 : waitsOk laws_FnExactMeetingsOf.T2.2 laws_FnExactMeetingsOf.B2 = true := by kernel_rfl
def laws_FnExactMeetingsOf.T13 : Bool × List (List Nat × List Nat) := (true, [([], []), ([0], [0]), ([], []), ([2, 1], [2]), ([1, 3, 3], [1, 3]), ([4], [4]), ([5], [5]), ([5], [5]), ([6, 4, 0, 1, 2, 3, 4, 5, 6], [6]), ([7, 8, 0, 1, 2, 3, 4, 5, 6, 7, 8], [7])])
def laws_FnExactMeetingsOf.B13 : List Nat := [0, 1, 0, 7, 15, 31, 63, 63, 127, 511]
theorem laws_FnExactMeetingsOf.tab13 : rtab .any (opsOf Try.f14 13) = laws_FnExactMeetingsOf.T13 := by kernel_rfl
theorem laws_FnExactMeetingsOf.bits13 : waitsOk laws_FnExactMeetingsOf.T13.2 laws_FnExactMeetingsOf.B13 = true := by kernel_rfl
set_option maxHeartbeats 8000000 in
set_option maxRecDepth 100000 in
theorem laws_FnExactMeetingsOf.calls (k : Nat) (a0_0 : Int) (a0_1 : Int) (a0_2 : Int) (a1_0 : Int) (a1_1 : Int) (a1_2 : Int) (w : World) (h : laws_FnExactMeetingsOf.f k a0_0 a0_1 a0_2 a1_0 a1_1 a1_2 = some true) :
    Calls Try.prog 14 #[.agg #[.int .i64 a0_0, .int .i64 a0_1, .int .i64 a0_2], .agg #[.int .i64 a1_0, .int .i64 a1_1, .int .i64 a1_2]] w fun e w' => e = .returned (.bool true) ∧ Below w.heap.size w w' := by
 have hu23 := Try.underlying23
 have HB := Aside0.mk (Below.refl w.heap.size w)
 have H : ((laws_toCandle.f a0_0 a0_1 a0_2).bind fun bt595 => ((laws_toCandle.f a1_0 a1_1 a1_2).bind fun bt598 => ((spec_MeetingsOf.f k bt595.1 bt595.2.1 bt595.2.2 bt598.1 bt598.2.1 bt598.2.2).bind fun bt601 => ((laws_toCandle.f a0_0 a0_1 a0_2).bind fun bt605 => ((laws_toCandle.f a1_0 a1_1 a1_2).bind fun bt608 => ((impl_MeetingsOf.f k bt605.1 bt605.2.1 bt605.2.2 bt608.1 bt608.2.1 bt608.2.2).bind fun bt611 => ((laws_eqIntA2S.f k bt611.1 bt601.1).bind fun t615 => (if t615 = true then (laws_FnExactMeetingsOf.j0 k bt601.1 bt601.2 bt611.1 (bt611.2 != bt601.2) a0_0 a0_1 a0_2 a1_0 a1_1 a1_2) else (laws_FnExactMeetingsOf.j0 k bt601.1 bt601.2 bt611.1 true a0_0 a0_1 a0_2 a1_0 a1_1 a1_2))))))))) = some true := h
 clear h
 replace H := Option.bind_eq_some_iff.mp H
 obtain ⟨⟨t595, t596, t597⟩, A30, H⟩ := H
 replace H : ((laws_toCandle.f a1_0 a1_1 a1_2).bind fun bt598 => ((spec_MeetingsOf.f k t595 t596 t597 bt598.1 bt598.2.1 bt598.2.2).bind fun bt601 => ((laws_toCandle.f a0_0 a0_1 a0_2).bind fun bt605 => ((laws_toCandle.f a1_0 a1_1 a1_2).bind fun bt608 => ((impl_MeetingsOf.f k bt605.1 bt605.2.1 bt605.2.2 bt608.1 bt608.2.1 bt608.2.2).bind fun bt611 => ((laws_eqIntA2S.f k bt611.1 bt601.1).bind fun t615 => (if t615 = true then (laws_FnExactMeetingsOf.j0 k bt601.1 bt601.2 bt611.1 (bt611.2 != bt601.2) a0_0 a0_1 a0_2 a1_0 a1_1 a1_2) else (laws_FnExactMeetingsOf.j0 k bt601.1 bt601.2 bt611.1 true a0_0 a0_1 a0_2 a1_0 a1_1 a1_2)))))))) = some true := H
 have A3 := Aside0.mk A30
 clear A30
 replace H := Option.bind_eq_some_iff.mp H
 obtain ⟨⟨t598, t599, t600⟩, A40, H⟩ := H
 replace H : ((spec_MeetingsOf.f k t595 t596 t597 t598 t599 t600).bind fun bt601 => ((laws_toCandle.f a0_0 a0_1 a0_2).bind fun bt605 => ((laws_toCandle.f a1_0 a1_1 a1_2).bind fun bt608 => ((impl_MeetingsOf.f k bt605.1 bt605.2.1 bt605.2.2 bt608.1 bt608.2.1 bt608.2.2).bind fun bt611 => ((laws_eqIntA2S.f k bt611.1 bt601.1).bind fun t615 => (if t615 = true then (laws_FnExactMeetingsOf.j0 k bt601.1 bt601.2 bt611.1 (bt611.2 != bt601.2) a0_0 a0_1 a0_2 a1_0 a1_1 a1_2) else (laws_FnExactMeetingsOf.j0 k bt601.1 bt601.2 bt611.1 true a0_0 a0_1 a0_2 a1_0 a1_1 a1_2))))))) = some true := H
 have A4 := Aside0.mk A40
 clear A40
 replace H := Option.bind_eq_some_iff.mp H
 obtain ⟨⟨t601, t604⟩, A50, H⟩ := H
 replace H : ((laws_toCandle.f a0_0 a0_1 a0_2).bind fun bt605 => ((laws_toCandle.f a1_0 a1_1 a1_2).bind fun bt608 => ((impl_MeetingsOf.f k bt605.1 bt605.2.1 bt605.2.2 bt608.1 bt608.2.1 bt608.2.2).bind fun bt611 => ((laws_eqIntA2S.f k bt611.1 t601).bind fun t615 => (if t615 = true then (laws_FnExactMeetingsOf.j0 k t601 t604 bt611.1 (bt611.2 != t604) a0_0 a0_1 a0_2 a1_0 a1_1 a1_2) else (laws_FnExactMeetingsOf.j0 k t601 t604 bt611.1 true a0_0 a0_1 a0_2 a1_0 a1_1 a1_2)))))) = some true := H
 have A5 := Aside0.mk A50
 clear A50
 replace H := Option.bind_eq_some_iff.mp H
 obtain ⟨⟨t605, t606, t607⟩, A60, H⟩ := H
 replace H : ((laws_toCandle.f a1_0 a1_1 a1_2).bind fun bt608 => ((impl_MeetingsOf.f k t605 t606 t607 bt608.1 bt608.2.1 bt608.2.2).bind fun bt611 => ((laws_eqIntA2S.f k bt611.1 t601).bind fun t615 => (if t615 = true then (laws_FnExactMeetingsOf.j0 k t601 t604 bt611.1 (bt611.2 != t604) a0_0 a0_1 a0_2 a1_0 a1_1 a1_2) else (laws_FnExactMeetingsOf.j0 k t601 t604 bt611.1 true a0_0 a0_1 a0_2 a1_0 a1_1 a1_2))))) = some true := H
 have A6 := Aside0.mk A60
 clear A60
 replace H := Option.bind_eq_some_iff.mp H
 obtain ⟨⟨t608, t609, t610⟩, A70, H⟩ := H
 replace H : ((impl_MeetingsOf.f k t605 t606 t607 t608 t609 t610).bind fun bt611 => ((laws_eqIntA2S.f k bt611.1 t601).bind fun t615 => (if t615 = true then (laws_FnExactMeetingsOf.j0 k t601 t604 bt611.1 (bt611.2 != t604) a0_0 a0_1 a0_2 a1_0 a1_1 a1_2) else (laws_FnExactMeetingsOf.j0 k t601 t604 bt611.1 true a0_0 a0_1 a0_2 a1_0 a1_1 a1_2)))) = some true := H
 have A7 := Aside0.mk A70
 clear A70
 replace H := Option.bind_eq_some_iff.mp H
 obtain ⟨⟨t611, t614⟩, A80, H⟩ := H
 replace H : ((laws_eqIntA2S.f k t611 t601).bind fun t615 => (if t615 = true then (laws_FnExactMeetingsOf.j0 k t601 t604 t611 (t614 != t604) a0_0 a0_1 a0_2 a1_0 a1_1 a1_2) else (laws_FnExactMeetingsOf.j0 k t601 t604 t611 true a0_0 a0_1 a0_2 a1_0 a1_1 a1_2))) = some true := H
 have A8 := Aside0.mk A80
 clear A80
 have HC9 := Aside0.mk H
 clear H
 go_enter Try.func14, Try.ntmps14
 try go_wp2_with (first | ((with_reducible refine gate_dst (N := 2) rfl ?_); refine box_event ?hg (N := 2) ?hd (cs := #[.int .i64 a0_0, .int .i64 a0_1, .int .i64 a0_2]) (t := 23) ?hr ?_; (case hd => rfl); (case hg => rfl); (case hr => first | (go_simp; done) | (go_simp; rfl)); intro gb593 hg w10 hbox hb; have n0_ := Aside0.mk (below_step (by repeat (first | (with_reducible first | exact HB.out | apply below_alloc | apply pw_below_drewN | apply below_drew1) | exact HB.out)) hb); have n1_ := Aside0.mk (hbox); have n2_ := Aside0.mk ((by rw [hg]; exact (below_size (by repeat (first | (with_reducible first | exact HB.out | apply below_alloc | apply pw_below_drewN | apply below_drew1) | exact HB.out))) : w.heap.size ≤ gb593)); have n3_ := Aside0.mk ((by rw [hg]; exact (below_size (by repeat (first | (with_reducible first | exact HB.out | apply below_alloc | apply pw_below_drewN | apply below_drew1) | exact HB.out))) : w.heap.size ≤ gb593)); clear HB; have HB := n0_; have BK593 := n1_; have GW593 := n2_; have GE593 := n3_; clear n0_ n1_ n2_ n3_; clear hb hbox hg) | ((with_reducible refine gate_dst (N := 3) rfl ?_); refine box_event ?hg (N := 3) ?hd (cs := #[.int .i64 a1_0, .int .i64 a1_1, .int .i64 a1_2]) (t := 23) ?hr ?_; (case hd => rfl); (case hg => rfl); (case hr => first | (go_simp; done) | (go_simp; rfl)); intro gb594 hg w11 hbox hb; have n0_ := Aside0.mk (blk_below (g := gb593) (o := .cells #[.int .i64 a0_0, .int .i64 a0_1, .int .i64 a0_2] 23 (0, 0)) (by (with_reducible repeat (first | refine blk_drewN ?_ _ | refine blk_drew ?_ | refine blk_alloc ?_ _)); exact BK593.out) hb); have n1_ := Aside0.mk (below_step (by repeat (first | (with_reducible first | exact HB.out | apply below_alloc | apply pw_below_drewN | apply below_drew1 | refine below_set ?_ GE593.out) | exact HB.out)) hb); have n2_ := Aside0.mk (hbox); have n3_ := Aside0.mk ((by rw [hg]; exact (below_size (by repeat (first | (with_reducible first | exact HB.out | apply below_alloc | apply pw_below_drewN | apply below_drew1 | refine below_set ?_ GE593.out) | exact HB.out))) : w.heap.size ≤ gb594)); have n4_ := Aside0.mk ((by rw [hg]; exact (below_size (by repeat (first | (with_reducible first | exact HB.out | apply below_alloc | apply pw_below_drewN | apply below_drew1 | refine below_set ?_ GE593.out) | exact HB.out))) : w.heap.size ≤ gb594)); have n5_ := Aside0.mk ((by rw [hg]; exact Nat.ne_of_lt (blk_lt (g := gb593) (o := .cells #[.int .i64 a0_0, .int .i64 a0_1, .int .i64 a0_2] 23 (0, 0)) (by (with_reducible repeat (first | refine blk_drewN ?_ _ | refine blk_drew ?_ | refine blk_alloc ?_ _)); exact BK593.out)) : gb593 ≠ gb594)); have n6_ := Aside0.mk ((by rw [hg]; exact Nat.ne_of_gt (blk_lt (g := gb593) (o := .cells #[.int .i64 a0_0, .int .i64 a0_1, .int .i64 a0_2] 23 (0, 0)) (by (with_reducible repeat (first | refine blk_drewN ?_ _ | refine blk_drew ?_ | refine blk_alloc ?_ _)); exact BK593.out)) : gb594 ≠ gb593)); clear BK593; clear HB; have BK593 := n0_; have HB := n1_; have BK594 := n2_; have GW594 := n3_; have GE594 := n4_; have NB593_594 := n5_; have NB594_593 := n6_; clear n0_ n1_ n2_ n3_ n4_ n5_ n6_; clear hb hbox hg))
 have n0_ := Aside0.mk (blk_drew BK593.out)
 have n1_ := Aside0.mk (blk_drew BK594.out)
 have n2_ := Aside0.mk (below_drew1 HB.out)
 clear BK593
 clear BK594
 clear HB
 have BK593 := n0_
 have BK594 := n1_
 have HB := n2_
 clear n0_ n1_ n2_
 refine start_ (n := 10) (S := fun w' => w'.cell? ⟨gb593, 0, none⟩ = some (.int .i64 a0_0) ∧ w'.cell? ⟨gb593, 1, none⟩ = some (.int .i64 a0_1) ∧ w'.cell? ⟨gb593, 2, none⟩ = some (.int .i64 a0_2) ∧ w'.cell? ⟨gb594, 0, none⟩ = some (.int .i64 a1_0) ∧ w'.cell? ⟨gb594, 1, none⟩ = some (.int .i64 a1_1) ∧ w'.cell? ⟨gb594, 2, none⟩ = some (.int .i64 a1_2)) (ds := []) #[false, false, false, false, false, false, false, false, false, false] (by kernel_rfl) rfl rfl ⟨(blk_cell BK593.out 0).trans rfl, (blk_cell BK593.out 1).trans rfl, (blk_cell BK593.out 2).trans rfl, (blk_cell BK594.out 0).trans rfl, (blk_cell BK594.out 1).trans rfl, (blk_cell BK594.out 2).trans rfl⟩ (fun hHeld => ?_); refine with_tabW laws_FnExactMeetingsOf.tab1 laws_FnExactMeetingsOf.bits1 (fun HT_ HW_ => ?_)
 generalize w11.drew = w12 at BK593 BK594 HB hHeld ⊢
 refine take_ (i := 0) (N := some 14) (v := ?_) (a' := ?_) #[true, false, false, false, false, false, false, false, false, false] rfl rfl (take_ofW HT_.out HW_.out (by kernel_rfl)) (fun _ _ _ h => h) (Or.inl ⟨by rfl, ?_⟩) hHeld ?_ ?_
 rotate_left
 ·rintro w' ⟨s0, s1, s2, s3, s4, s5⟩
  go_simp
  with_reducible rfl
 rotate_left
 ·simp only [Act.put, List.setIfInBounds_toArray, List.set_cons_zero, List.set_cons_succ, i64_w, i32_w]
  rfl
 refine take_ (i := 2) (N := some 16) (v := ?_) (a' := ?_) #[true, false, true, false, false, false, false, false, false, false] rfl rfl (take_ofW HT_.out HW_.out (by kernel_rfl)) (fun _ _ _ h => h) (Or.inl ⟨by rfl, ?_⟩) hHeld ?_ ?_
 rotate_left
 ·rintro w' ⟨s0, s1, s2, s3, s4, s5⟩
  go_simp
  with_reducible rfl
 rotate_left
 ·simp only [Act.put, List.setIfInBounds_toArray, List.set_cons_zero, List.set_cons_succ, i64_w, i32_w]
  rfl
 refine one_ (i := 1) (N := some 15) #[true, true, true, false, false, false, false, false, false, false] rfl rfl (one_of HT_.out (by kernel_rfl)) (by decide) (fun K hK => ?_)
 refine goes_ Try.func18 (by kernel_rfl) rfl #[.agg #[.int .i64 a0_0, .int .i64 a0_1, .int .i64 a0_2]] (by rfl) rfl rfl (by (try simp only [List.map_toArray, List.map_cons, List.map_nil]); first | done | rfl | (simp only [List.length_drop, List.length_take]; rfl)) ?_
 with_reducible refine (laws_toCandle.calls a0_0 a0_1 a0_2 t595 t596 t597 _ A3.out).mono ?_
 rintro e w13 ⟨rfl, hb⟩
 refine ⟨_, rfl, ?_⟩
 have n0_ := Aside0.mk (blk_below BK593.out hb)
 have n1_ := Aside0.mk (blk_below BK594.out hb)
 have n2_ := Aside0.mk (below_step HB.out hb)
 clear BK593
 clear BK594
 clear HB
 have BK593 := n0_
 have BK594 := n1_
 have HB := n2_
 clear n0_ n1_ n2_
 (try clear hb)
 (try clear hb2)
 (try clear hk)
 (try clear hi)
 refine hK.out _ _ ⟨(blk_cell BK593.out 0).trans rfl, (blk_cell BK593.out 1).trans rfl, (blk_cell BK593.out 2).trans rfl, (blk_cell BK594.out 0).trans rfl, (blk_cell BK594.out 1).trans rfl, (blk_cell BK594.out 2).trans rfl⟩ (fun hHeld => ?_)
 clear hK K
 refine norm_ (a' := ?_) ?_ ?_
 rotate_left
 ·show Act.put _ (some 15) _ = _
  simp only [Act.put, List.setIfInBounds_toArray, List.set_cons_zero, List.set_cons_succ, i64_w, i32_w]
  rfl
 refine one_ (i := 3) (N := some 17) #[true, true, true, true, false, false, false, false, false, false] rfl rfl (one_of HT_.out (by kernel_rfl)) (by decide) (fun K hK => ?_)
 refine goes_ Try.func18 (by kernel_rfl) rfl #[.agg #[.int .i64 a1_0, .int .i64 a1_1, .int .i64 a1_2]] (by rfl) rfl rfl (by (try simp only [List.map_toArray, List.map_cons, List.map_nil]); first | done | rfl | (simp only [List.length_drop, List.length_take]; rfl)) ?_
 with_reducible refine (laws_toCandle.calls a1_0 a1_1 a1_2 t598 t599 t600 _ A4.out).mono ?_
 rintro e w14 ⟨rfl, hb⟩
 refine ⟨_, rfl, ?_⟩
 have n0_ := Aside0.mk (blk_below BK593.out hb)
 have n1_ := Aside0.mk (blk_below BK594.out hb)
 have n2_ := Aside0.mk (below_step HB.out hb)
 clear BK593
 clear BK594
 clear HB
 have BK593 := n0_
 have BK594 := n1_
 have HB := n2_
 clear n0_ n1_ n2_
 (try clear hb)
 (try clear hb2)
 (try clear hk)
 (try clear hi)
 refine hK.out _ _ ⟨(blk_cell BK593.out 0).trans rfl, (blk_cell BK593.out 1).trans rfl, (blk_cell BK593.out 2).trans rfl, (blk_cell BK594.out 0).trans rfl, (blk_cell BK594.out 1).trans rfl, (blk_cell BK594.out 2).trans rfl⟩ (fun hHeld => ?_)
 clear hK K
 refine norm_ (a' := ?_) ?_ ?_
 rotate_left
 ·show Act.put _ (some 17) _ = _
  simp only [Act.put, List.setIfInBounds_toArray, List.set_cons_zero, List.set_cons_succ, i64_w, i32_w]
  rfl
 refine one_ (i := 4) (N := some 18) #[true, true, true, true, true, false, false, false, false, false] rfl rfl (one_of HT_.out (by kernel_rfl)) (by decide) (fun K hK => ?_)
 refine goes_ Try.func34 (by kernel_rfl) rfl #[.agg #[.int .i64 t595, .int .i64 t596, .int .i64 t597], .agg #[.int .i64 t598, .int .i64 t599, .int .i64 t600]] (by rfl) rfl rfl (by (try simp only [List.map_toArray, List.map_cons, List.map_nil]); first | done | rfl | (simp only [List.length_drop, List.length_take]; rfl)) ?_
 with_reducible refine (spec_MeetingsOf.calls k t595 t596 t597 t598 t599 t600 t601 t604 _ A5.out).mono ?_
 rintro e w15 ⟨v602, rfl, ho0, hb⟩
 refine ⟨_, rfl, ?_⟩
 have n0_ := Aside0.mk (Kd.V_lower (Kd.V_mono (ok' := fun k_ => k_ ≠ gb593 ∧ k_ ≠ gb594) ho0 (fun k_ hk_ => ⟨(Kd.freshB BK593.out k_ hk_), (Kd.freshB BK594.out k_ hk_)⟩)) (below_size HB.out))
 have n1_ := Aside0.mk (blk_below BK593.out hb)
 have n2_ := Aside0.mk (blk_below BK594.out hb)
 have n3_ := Aside0.mk (below_step HB.out hb)
 clear BK593
 clear BK594
 clear HB
 have HO603 := n0_
 have BK593 := n1_
 have BK594 := n2_
 have HB := n3_
 clear n0_ n1_ n2_ n3_
 (try clear hb)
 (try clear hb2)
 (try clear hk)
 (try clear hi)
 (try clear ho0)
 refine hK.out _ _ ⟨(blk_cell BK593.out 0).trans rfl, (blk_cell BK593.out 1).trans rfl, (blk_cell BK593.out 2).trans rfl, (blk_cell BK594.out 0).trans rfl, (blk_cell BK594.out 1).trans rfl, (blk_cell BK594.out 2).trans rfl⟩ (fun hHeld => ?_)
 clear hK K
 refine norm_ (a' := ?_) ?_ ?_
 rotate_left
 ·show Act.put _ (some 18) _ = _
  simp only [Act.put, List.setIfInBounds_toArray, List.set_cons_zero, List.set_cons_succ, i64_w, i32_w]
  rfl
 refine pure_ (i := 5) (N := some 13) (v := ?_) (a' := ?_) #[true, true, true, true, true, true, false, false, false, false] rfl rfl (any_of HT_.out (by kernel_rfl)) (fun _ _ _ h => h) (Or.inl ⟨by rfl, ?_⟩) ?_ ?_
 rotate_left
 ·intro w'
  go_simp
  with_reducible rfl
 rotate_left
 ·simp only [Act.put, List.setIfInBounds_toArray, List.set_cons_zero, List.set_cons_succ, i64_w, i32_w]
  rfl
 refine pure_ (i := 6) (N := some 19) (v := ?_) (a' := ?_) #[true, true, true, true, true, true, true, false, false, false] rfl rfl (any_of HT_.out (by kernel_rfl)) (fun _ _ _ h => h) (Or.inl ⟨by rfl, ?_⟩) ?_ ?_
 rotate_left
 ·intro w'
  go_simp
  with_reducible rfl
 rotate_left
 ·simp only [Act.put, List.setIfInBounds_toArray, List.set_cons_zero, List.set_cons_succ, i64_w, i32_w]
  rfl
 refine pure_ (i := 7) (N := some 20) (v := ?_) (a' := ?_) #[true, true, true, true, true, true, true, true, false, false] rfl rfl (any_of HT_.out (by kernel_rfl)) (fun _ _ _ h => h) (Or.inl ⟨by rfl, ?_⟩) ?_ ?_
 rotate_left
 ·intro w'
  go_simp
  with_reducible rfl
 rotate_left
 ·simp only [Act.put, List.setIfInBounds_toArray, List.set_cons_zero, List.set_cons_succ, i64_w, i32_w]
  rfl
 refine pure_ (i := 8) (N := some 5) (v := ?_) (a' := ?_) #[true, true, true, true, true, true, true, true, true, false] rfl rfl (any_of HT_.out (by kernel_rfl)) (fun _ _ _ h => h) (Or.inl ⟨by rfl, ?_⟩) ?_ ?_
 rotate_left
 ·intro w'
  go_simp
  with_reducible rfl
 rotate_left
 ·simp only [Act.put, List.setIfInBounds_toArray, List.set_cons_zero, List.set_cons_succ, i64_w, i32_w]
  rfl
 refine pure_ (i := 9) (N := some 6) (v := ?_) (a' := ?_) #[true, true, true, true, true, true, true, true, true, true] rfl rfl (any_of HT_.out (by kernel_rfl)) (fun _ _ _ h => h) (Or.inl ⟨by rfl, ?_⟩) ?_ ?_
 rotate_left
 ·intro w'
  go_simp
  with_reducible rfl
 rotate_left
 ·simp only [Act.put, List.setIfInBounds_toArray, List.set_cons_zero, List.set_cons_succ, i64_w, i32_w]
  rfl
 refine done_ (done_of HT_.out (by kernel_rfl)) ?_
 try go_wp2
 have n0_ := Aside0.mk (Kd.V_drew HO603.out)
 have n1_ := Aside0.mk (blk_drew BK593.out)
 have n2_ := Aside0.mk (blk_drew BK594.out)
 have n3_ := Aside0.mk (below_drew1 HB.out)
 clear HO603
 clear BK593
 clear BK594
 clear HB
 have HO603 := n0_
 have BK593 := n1_
 have BK594 := n2_
 have HB := n3_
 clear n0_ n1_ n2_ n3_
 refine start_ (n := 10) (S := fun w' => w'.cell? ⟨gb593, 0, none⟩ = some (.int .i64 a0_0) ∧ w'.cell? ⟨gb593, 1, none⟩ = some (.int .i64 a0_1) ∧ w'.cell? ⟨gb593, 2, none⟩ = some (.int .i64 a0_2) ∧ w'.cell? ⟨gb594, 0, none⟩ = some (.int .i64 a1_0) ∧ w'.cell? ⟨gb594, 1, none⟩ = some (.int .i64 a1_1) ∧ w'.cell? ⟨gb594, 2, none⟩ = some (.int .i64 a1_2)) (ds := []) #[false, false, false, false, false, false, false, false, false, false] (by kernel_rfl) rfl rfl ⟨(blk_cell BK593.out 0).trans rfl, (blk_cell BK593.out 1).trans rfl, (blk_cell BK593.out 2).trans rfl, (blk_cell BK594.out 0).trans rfl, (blk_cell BK594.out 1).trans rfl, (blk_cell BK594.out 2).trans rfl⟩ (fun hHeld => ?_); refine with_tabW laws_FnExactMeetingsOf.tab2 laws_FnExactMeetingsOf.bits2 (fun HT_ HW_ => ?_)
 generalize w15.drew = w16 at HO603 BK593 BK594 HB hHeld ⊢
 refine take_ (i := 0) (N := some 22) (v := ?_) (a' := ?_) #[true, false, false, false, false, false, false, false, false, false] rfl rfl (take_ofW HT_.out HW_.out (by kernel_rfl)) (fun _ _ _ h => h) (Or.inl ⟨by rfl, ?_⟩) hHeld ?_ ?_
 rotate_left
 ·rintro w' ⟨s0, s1, s2, s3, s4, s5⟩
  go_simp
  with_reducible rfl
 rotate_left
 ·simp only [Act.put, List.setIfInBounds_toArray, List.set_cons_zero, List.set_cons_succ, i64_w, i32_w]
  rfl
 refine take_ (i := 2) (N := some 24) (v := ?_) (a' := ?_) #[true, false, true, false, false, false, false, false, false, false] rfl rfl (take_ofW HT_.out HW_.out (by kernel_rfl)) (fun _ _ _ h => h) (Or.inl ⟨by rfl, ?_⟩) hHeld ?_ ?_
 rotate_left
 ·rintro w' ⟨s0, s1, s2, s3, s4, s5⟩
  go_simp
  with_reducible rfl
 rotate_left
 ·simp only [Act.put, List.setIfInBounds_toArray, List.set_cons_zero, List.set_cons_succ, i64_w, i32_w]
  rfl
 refine one_ (i := 1) (N := some 23) #[true, true, true, false, false, false, false, false, false, false] rfl rfl (one_of HT_.out (by kernel_rfl)) (by decide) (fun K hK => ?_)
 refine goes_ Try.func18 (by kernel_rfl) rfl #[.agg #[.int .i64 a0_0, .int .i64 a0_1, .int .i64 a0_2]] (by rfl) rfl rfl (by (try simp only [List.map_toArray, List.map_cons, List.map_nil]); first | done | rfl | (simp only [List.length_drop, List.length_take]; rfl)) ?_
 with_reducible refine (laws_toCandle.calls a0_0 a0_1 a0_2 t605 t606 t607 _ A6.out).mono ?_
 rintro e w17 ⟨rfl, hb⟩
 refine ⟨_, rfl, ?_⟩
 have n0_ := Aside0.mk (Kd.V_below (by (with_reducible repeat (first | apply Kd.V_alloc | apply Kd.V_drewN | apply Kd.V_drew)); exact HO603.out) hb)
 have n1_ := Aside0.mk (blk_below BK593.out hb)
 have n2_ := Aside0.mk (blk_below BK594.out hb)
 have n3_ := Aside0.mk (below_step HB.out hb)
 clear HO603
 clear BK593
 clear BK594
 clear HB
 have HO603 := n0_
 have BK593 := n1_
 have BK594 := n2_
 have HB := n3_
 clear n0_ n1_ n2_ n3_
 (try clear hb)
 (try clear hb2)
 (try clear hk)
 (try clear hi)
 refine hK.out _ _ ⟨(blk_cell BK593.out 0).trans rfl, (blk_cell BK593.out 1).trans rfl, (blk_cell BK593.out 2).trans rfl, (blk_cell BK594.out 0).trans rfl, (blk_cell BK594.out 1).trans rfl, (blk_cell BK594.out 2).trans rfl⟩ (fun hHeld => ?_)
 clear hK K
 refine norm_ (a' := ?_) ?_ ?_
 rotate_left
 ·show Act.put _ (some 23) _ = _
  simp only [Act.put, List.setIfInBounds_toArray, List.set_cons_zero, List.set_cons_succ, i64_w, i32_w]
  rfl
 refine one_ (i := 3) (N := some 25) #[true, true, true, true, false, false, false, false, false, false] rfl rfl (one_of HT_.out (by kernel_rfl)) (by decide) (fun K hK => ?_)
 refine goes_ Try.func18 (by kernel_rfl) rfl #[.agg #[.int .i64 a1_0, .int .i64 a1_1, .int .i64 a1_2]] (by rfl) rfl rfl (by (try simp only [List.map_toArray, List.map_cons, List.map_nil]); first | done | rfl | (simp only [List.length_drop, List.length_take]; rfl)) ?_
 with_reducible refine (laws_toCandle.calls a1_0 a1_1 a1_2 t608 t609 t610 _ A7.out).mono ?_
 rintro e w18 ⟨rfl, hb⟩
 refine ⟨_, rfl, ?_⟩
 have n0_ := Aside0.mk (Kd.V_below (by (with_reducible repeat (first | apply Kd.V_alloc | apply Kd.V_drewN | apply Kd.V_drew)); exact HO603.out) hb)
 have n1_ := Aside0.mk (blk_below BK593.out hb)
 have n2_ := Aside0.mk (blk_below BK594.out hb)
 have n3_ := Aside0.mk (below_step HB.out hb)
 clear HO603
 clear BK593
 clear BK594
 clear HB
 have HO603 := n0_
 have BK593 := n1_
 have BK594 := n2_
 have HB := n3_
 clear n0_ n1_ n2_ n3_
 (try clear hb)
 (try clear hb2)
 (try clear hk)
 (try clear hi)
 refine hK.out _ _ ⟨(blk_cell BK593.out 0).trans rfl, (blk_cell BK593.out 1).trans rfl, (blk_cell BK593.out 2).trans rfl, (blk_cell BK594.out 0).trans rfl, (blk_cell BK594.out 1).trans rfl, (blk_cell BK594.out 2).trans rfl⟩ (fun hHeld => ?_)
 clear hK K
 refine norm_ (a' := ?_) ?_ ?_
 rotate_left
 ·show Act.put _ (some 25) _ = _
  simp only [Act.put, List.setIfInBounds_toArray, List.set_cons_zero, List.set_cons_succ, i64_w, i32_w]
  rfl
 refine one_ (i := 4) (N := some 26) #[true, true, true, true, true, false, false, false, false, false] rfl rfl (one_of HT_.out (by kernel_rfl)) (by decide) (fun K hK => ?_)
 refine goes_ Try.func33 (by kernel_rfl) rfl #[.agg #[.int .i64 t605, .int .i64 t606, .int .i64 t607], .agg #[.int .i64 t608, .int .i64 t609, .int .i64 t610]] (by rfl) rfl rfl (by (try simp only [List.map_toArray, List.map_cons, List.map_nil]); first | done | rfl | (simp only [List.length_drop, List.length_take]; rfl)) ?_
 with_reducible refine (impl_MeetingsOf.calls k t605 t606 t607 t608 t609 t610 t611 t614 _ A8.out).mono ?_
 rintro e w19 ⟨v612, rfl, ho0, hb⟩
 refine ⟨_, rfl, ?_⟩
 have n0_ := Aside0.mk (Kd.V_elder' (by (with_reducible repeat (first | apply Kd.V_alloc | apply Kd.V_drewN | apply Kd.V_drew)); exact HO603.out) (Kd.R_base ho0) hb)
 have n1_ := Aside0.mk (Kd.R_lower ho0 (below_size HB.out))
 have n2_ := Aside0.mk (blk_below BK593.out hb)
 have n3_ := Aside0.mk (blk_below BK594.out hb)
 have n4_ := Aside0.mk (below_step HB.out hb)
 clear HO603
 clear BK593
 clear BK594
 clear HB
 have HO603 := n0_
 have HO613 := n1_
 have BK593 := n2_
 have BK594 := n3_
 have HB := n4_
 clear n0_ n1_ n2_ n3_ n4_
 (try clear hb)
 (try clear hb2)
 (try clear hk)
 (try clear hi)
 (try clear ho0)
 refine hK.out _ _ ⟨(blk_cell BK593.out 0).trans rfl, (blk_cell BK593.out 1).trans rfl, (blk_cell BK593.out 2).trans rfl, (blk_cell BK594.out 0).trans rfl, (blk_cell BK594.out 1).trans rfl, (blk_cell BK594.out 2).trans rfl⟩ (fun hHeld => ?_)
 clear hK K
 refine norm_ (a' := ?_) ?_ ?_
 rotate_left
 ·show Act.put _ (some 26) _ = _
  simp only [Act.put, List.setIfInBounds_toArray, List.set_cons_zero, List.set_cons_succ, i64_w, i32_w]
  rfl
 refine pure_ (i := 5) (N := some 21) (v := ?_) (a' := ?_) #[true, true, true, true, true, true, false, false, false, false] rfl rfl (any_of HT_.out (by kernel_rfl)) (fun _ _ _ h => h) (Or.inl ⟨by rfl, ?_⟩) ?_ ?_
 rotate_left
 ·intro w'
  go_simp
  with_reducible rfl
 rotate_left
 ·simp only [Act.put, List.setIfInBounds_toArray, List.set_cons_zero, List.set_cons_succ, i64_w, i32_w]
  rfl
 refine pure_ (i := 6) (N := some 27) (v := ?_) (a' := ?_) #[true, true, true, true, true, true, true, false, false, false] rfl rfl (any_of HT_.out (by kernel_rfl)) (fun _ _ _ h => h) (Or.inl ⟨by rfl, ?_⟩) ?_ ?_
 rotate_left
 ·intro w'
  go_simp
  with_reducible rfl
 rotate_left
 ·simp only [Act.put, List.setIfInBounds_toArray, List.set_cons_zero, List.set_cons_succ, i64_w, i32_w]
  rfl
 refine pure_ (i := 7) (N := some 28) (v := ?_) (a' := ?_) #[true, true, true, true, true, true, true, true, false, false] rfl rfl (any_of HT_.out (by kernel_rfl)) (fun _ _ _ h => h) (Or.inl ⟨by rfl, ?_⟩) ?_ ?_
 rotate_left
 ·intro w'
  go_simp
  with_reducible rfl
 rotate_left
 ·simp only [Act.put, List.setIfInBounds_toArray, List.set_cons_zero, List.set_cons_succ, i64_w, i32_w]
  rfl
 refine pure_ (i := 8) (N := some 7) (v := ?_) (a' := ?_) #[true, true, true, true, true, true, true, true, true, false] rfl rfl (any_of HT_.out (by kernel_rfl)) (fun _ _ _ h => h) (Or.inl ⟨by rfl, ?_⟩) ?_ ?_
 rotate_left
 ·intro w'
  go_simp
  with_reducible rfl
 rotate_left
 ·simp only [Act.put, List.setIfInBounds_toArray, List.set_cons_zero, List.set_cons_succ, i64_w, i32_w]
  rfl
 refine pure_ (i := 9) (N := some 8) (v := ?_) (a' := ?_) #[true, true, true, true, true, true, true, true, true, true] rfl rfl (any_of HT_.out (by kernel_rfl)) (fun _ _ _ h => h) (Or.inl ⟨by rfl, ?_⟩) ?_ ?_
 rotate_left
 ·intro w'
  go_simp
  with_reducible rfl
 rotate_left
 ·simp only [Act.put, List.setIfInBounds_toArray, List.set_cons_zero, List.set_cons_succ, i64_w, i32_w]
  rfl
 refine done_ (done_of HT_.out (by kernel_rfl)) ?_
 go_upto_region 3 with (fail)
 go_cut [37] (fun v37 wc => ∃ (kq : Nat) (x37_8 : Bool), v37 = .bool x37_8 ∧ Aside0 (laws_FnExactMeetingsOf.j0 kq t601 t604 t611 x37_8 a0_0 a0_1 a0_2 a1_0 a1_1 a1_2 = some true) ∧ Aside0 (kq ≤ k) ∧ Aside0 (Kd.V k28 28 wc w.heap.size (fun k_ => some k_ ≠ (v612 : Value).ownBlock ∧ k_ ≠ gb593 ∧ k_ ≠ gb594) v602 t601) ∧ Aside0 (Kd.R k28 28 wc w.heap.size (fun _ => True) v612 t611) ∧ Aside0 (wc.heap[gb593]? = some (.cells #[.int .i64 a0_0, .int .i64 a0_1, .int .i64 a0_2] 23 (0, 0))) ∧ Aside0 (wc.heap[gb594]? = some (.cells #[.int .i64 a1_0, .int .i64 a1_1, .int .i64 a1_2] 23 (0, 0))) ∧ Aside0 (Below w.heap.size w wc))
 case first =>
  have H := HC9.out
  clear HC9
  replace H := Option.bind_eq_some_iff.mp H
  obtain ⟨t615, A200, H⟩ := H
  replace H : (if t615 = true then (laws_FnExactMeetingsOf.j0 k t601 t604 t611 (t614 != t604) a0_0 a0_1 a0_2 a1_0 a1_1 a1_2) else (laws_FnExactMeetingsOf.j0 k t601 t604 t611 true a0_0 a0_1 a0_2 a1_0 a1_1 a1_2)) = some true := H
  have A20 := Aside0.mk A200
  clear A200
  by_cases c21 : t615 = true
  ·subst c21
   have H1 : (laws_FnExactMeetingsOf.j0 k t601 t604 t611 (t614 != t604) a0_0 a0_1 a0_2 a1_0 a1_1 a1_2) = some true := by rw [if_pos rfl] at H; exact H
   clear H
   have H := H1
   clear H1
   have H' := Aside0.mk H
   clear H
   obtain ⟨Ao22, co22, eo22⟩ := Kd.R_slice HO613.out
   subst eo22
   obtain ⟨Ao23, co23, eo23⟩ := Kd.V_slice HO603.out
   subst eo23
   go_wp2_with (first | ((with_reducible refine gate_callee (f := 46) rfl ?_); refine goesL_ (some 31) rfl rfl Try.func46 (by kernel_rfl) rfl #[.slice Ao22 t611.length co22, .slice Ao23 t601.length co23] rfl (by (try simp only [List.map_toArray, List.map_cons, List.map_nil]); first | done | rfl | (simp only [List.length_drop, List.length_take]; rfl)) ?_; (with_reducible refine (laws_eqIntA2S.calls k _ _ t611 _ _ t601 true _ ?side1 ?side2 ?side3 ?side4 A20.out).mono ?_); (case side1 => repeat (first | exact (Kd.R_reads' HO613.out).2.2 | (with_reducible refine Kd.C_alloc ?_ _) | (with_reducible refine Kd.C_drewN ?_ _) | (with_reducible refine Kd.C_drew ?_))); (case side2 => exact (Kd.R_reads' HO613.out).2.1); (case side3 => repeat (first | exact (Kd.V_reads' HO603.out).2.2 | (with_reducible refine Kd.C_alloc ?_ _) | (with_reducible refine Kd.C_drewN ?_ _) | (with_reducible refine Kd.C_drew ?_))); (case side4 => exact (Kd.V_reads' HO603.out).2.1); rintro e w24 ⟨rfl, hb⟩; refine ⟨_, rfl, ?_⟩; have n0_ := Aside0.mk (Kd.V_below (by (with_reducible repeat (first | apply Kd.V_alloc | apply Kd.V_drewN | apply Kd.V_drew)); exact HO603.out) hb); have n1_ := Aside0.mk (Kd.R_below (by (with_reducible repeat (first | apply Kd.R_alloc | apply Kd.R_drewN | apply Kd.R_drew)); exact HO613.out) hb); have n2_ := Aside0.mk (blk_below (g := gb593) (o := .cells #[.int .i64 a0_0, .int .i64 a0_1, .int .i64 a0_2] 23 (0, 0)) (by (with_reducible repeat (first | refine blk_drewN ?_ _ | refine blk_drew ?_ | refine blk_alloc ?_ _)); exact BK593.out) hb); have n3_ := Aside0.mk (blk_below (g := gb594) (o := .cells #[.int .i64 a1_0, .int .i64 a1_1, .int .i64 a1_2] 23 (0, 0)) (by (with_reducible repeat (first | refine blk_drewN ?_ _ | refine blk_drew ?_ | refine blk_alloc ?_ _)); exact BK594.out) hb); have n4_ := Aside0.mk (below_step (by repeat (first | (with_reducible first | exact HB.out | apply below_alloc | apply pw_below_drewN | apply below_drew1 | refine below_set ?_ GE593.out | refine below_set ?_ GE594.out) | exact HB.out)) hb); clear HO603; clear HO613; clear BK593; clear BK594; clear HB; have HO603 := n0_; have HO613 := n1_; have BK593 := n2_; have BK594 := n3_; have HB := n4_; clear n0_ n1_ n2_ n3_ n4_; (try clear hb); (try clear hb2); (try clear hk); (try clear hi)))
   go_meet
   case rel => exact ⟨_, ((t614 != t604)), (by first | rfl | (simp; done) | (simp [*]; done)), H', ⟨by first | omega | exact Nat.le_refl _⟩, ⟨by (with_reducible repeat (first | apply Kd.V_alloc | apply Kd.V_drewN | apply Kd.V_drew)); exact Kd.V_mono HO603.out (fun _ hk => ⟨hk.2, ⟨hk.1.1, hk.1.2⟩⟩)⟩, ⟨by (with_reducible repeat (first | apply Kd.R_alloc | apply Kd.R_drewN | apply Kd.R_drew)); exact HO613.out⟩, ⟨by (with_reducible repeat (first | refine blk_drewN ?_ _ | refine blk_drew ?_ | refine blk_alloc ?_ _)); exact BK593.out⟩, ⟨by (with_reducible repeat (first | refine blk_drewN ?_ _ | refine blk_drew ?_ | refine blk_alloc ?_ _)); exact BK594.out⟩, ⟨by repeat (first | (with_reducible first | exact HB.out | apply below_alloc | apply pw_below_drewN | apply below_drew1 | refine below_set ?_ GE593.out | refine below_set ?_ GE594.out) | exact HB.out)⟩⟩
  ·replace c21 := Bool.eq_false_iff.mpr c21
   subst c21
   have H1 : (laws_FnExactMeetingsOf.j0 k t601 t604 t611 true a0_0 a0_1 a0_2 a1_0 a1_1 a1_2) = some true := by rw [if_neg (show ¬ (false = true) by decide)] at H; exact H
   clear H
   have H := H1
   clear H1
   have H' := Aside0.mk H
   clear H
   obtain ⟨Ao25, co25, eo25⟩ := Kd.R_slice HO613.out
   subst eo25
   obtain ⟨Ao26, co26, eo26⟩ := Kd.V_slice HO603.out
   subst eo26
   go_wp2_with (first | ((with_reducible refine gate_callee (f := 46) rfl ?_); refine goesL_ (some 31) rfl rfl Try.func46 (by kernel_rfl) rfl #[.slice Ao25 t611.length co25, .slice Ao26 t601.length co26] rfl (by (try simp only [List.map_toArray, List.map_cons, List.map_nil]); first | done | rfl | (simp only [List.length_drop, List.length_take]; rfl)) ?_; (with_reducible refine (laws_eqIntA2S.calls k _ _ t611 _ _ t601 false _ ?side1 ?side2 ?side3 ?side4 A20.out).mono ?_); (case side1 => repeat (first | exact (Kd.R_reads' HO613.out).2.2 | (with_reducible refine Kd.C_alloc ?_ _) | (with_reducible refine Kd.C_drewN ?_ _) | (with_reducible refine Kd.C_drew ?_))); (case side2 => exact (Kd.R_reads' HO613.out).2.1); (case side3 => repeat (first | exact (Kd.V_reads' HO603.out).2.2 | (with_reducible refine Kd.C_alloc ?_ _) | (with_reducible refine Kd.C_drewN ?_ _) | (with_reducible refine Kd.C_drew ?_))); (case side4 => exact (Kd.V_reads' HO603.out).2.1); rintro e w27 ⟨rfl, hb⟩; refine ⟨_, rfl, ?_⟩; have n0_ := Aside0.mk (Kd.V_below (by (with_reducible repeat (first | apply Kd.V_alloc | apply Kd.V_drewN | apply Kd.V_drew)); exact HO603.out) hb); have n1_ := Aside0.mk (Kd.R_below (by (with_reducible repeat (first | apply Kd.R_alloc | apply Kd.R_drewN | apply Kd.R_drew)); exact HO613.out) hb); have n2_ := Aside0.mk (blk_below (g := gb593) (o := .cells #[.int .i64 a0_0, .int .i64 a0_1, .int .i64 a0_2] 23 (0, 0)) (by (with_reducible repeat (first | refine blk_drewN ?_ _ | refine blk_drew ?_ | refine blk_alloc ?_ _)); exact BK593.out) hb); have n3_ := Aside0.mk (blk_below (g := gb594) (o := .cells #[.int .i64 a1_0, .int .i64 a1_1, .int .i64 a1_2] 23 (0, 0)) (by (with_reducible repeat (first | refine blk_drewN ?_ _ | refine blk_drew ?_ | refine blk_alloc ?_ _)); exact BK594.out) hb); have n4_ := Aside0.mk (below_step (by repeat (first | (with_reducible first | exact HB.out | apply below_alloc | apply pw_below_drewN | apply below_drew1 | refine below_set ?_ GE593.out | refine below_set ?_ GE594.out) | exact HB.out)) hb); clear HO603; clear HO613; clear BK593; clear BK594; clear HB; have HO603 := n0_; have HO613 := n1_; have BK593 := n2_; have BK594 := n3_; have HB := n4_; clear n0_ n1_ n2_ n3_ n4_; (try clear hb); (try clear hb2); (try clear hk); (try clear hi)))
   go_meet
   case rel => exact ⟨_, (true), (by first | rfl | (simp; done) | (simp [*]; done)), H', ⟨by first | omega | exact Nat.le_refl _⟩, ⟨by (with_reducible repeat (first | apply Kd.V_alloc | apply Kd.V_drewN | apply Kd.V_drew)); exact Kd.V_mono HO603.out (fun _ hk => ⟨hk.2, ⟨hk.1.1, hk.1.2⟩⟩)⟩, ⟨by (with_reducible repeat (first | apply Kd.R_alloc | apply Kd.R_drewN | apply Kd.R_drew)); exact HO613.out⟩, ⟨by (with_reducible repeat (first | refine blk_drewN ?_ _ | refine blk_drew ?_ | refine blk_alloc ?_ _)); exact BK593.out⟩, ⟨by (with_reducible repeat (first | refine blk_drewN ?_ _ | refine blk_drew ?_ | refine blk_alloc ?_ _)); exact BK594.out⟩, ⟨by repeat (first | (with_reducible first | exact HB.out | apply below_alloc | apply pw_below_drewN | apply below_drew1 | refine below_set ?_ GE593.out | refine below_set ?_ GE594.out) | exact HB.out)⟩⟩
 case rest =>
  clear HC9
  obtain ⟨kq, x37_8, rfl, HA, HJ8, HO_5, HO_7, BK593, BK594, HB⟩ := hcut
  cases kq with
  | zero => exact absurd HA.out (by simp [laws_FnExactMeetingsOf.j0])
  | succ kj8 =>
   have H := HA.out
   clear HA
   simp only [laws_FnExactMeetingsOf.j0] at H
   by_cases c28 : x37_8 = true
   ·subst c28
    have H1 : (some false) = some true := by first | (rw [if_pos rfl] at H; exact H) | rfl
    clear H
    have H := H1
    clear H1
    exact absurd H (by simp)
   ·replace c28 := Bool.eq_false_iff.mpr c28
    subst c28
    have H1 : ((laws_markIntA2S.f kj8 t611 1).bind fun bt616 => ((laws_heldIntA2S.f kj8 bt616.2 1).bind fun t618 => (if t618 < 0 then (some false) else (if t618 = bt616.1 then ((laws_toCandle.f a0_0 a0_1 a0_2).bind fun bt619 => ((laws_toCandle.f a1_0 a1_1 a1_2).bind fun bt622 => ((impl_MeetingsOf.f kj8 bt619.1 bt619.2.1 bt619.2.2 bt622.1 bt622.2.1 bt622.2.2).bind fun bt625 => ((laws_eqIntA2S.f kj8 bt625.1 t601).bind fun t629 => (if t629 = true then (laws_FnExactMeetingsOf.j1 kj8 bt616.2 bt616.1 (bt625.2 != t604)) else (laws_FnExactMeetingsOf.j1 kj8 bt616.2 bt616.1 true)))))) else (some false))))) = some true := by rw [if_neg (show ¬ (false = true) by decide)] at H; exact H
    clear H
    have H := H1
    clear H1
    replace H := Option.bind_eq_some_iff.mp H
    obtain ⟨⟨t616, t617⟩, A290, H⟩ := H
    replace H : ((laws_heldIntA2S.f kj8 t617 1).bind fun t618 => (if t618 < 0 then (some false) else (if t618 = t616 then ((laws_toCandle.f a0_0 a0_1 a0_2).bind fun bt619 => ((laws_toCandle.f a1_0 a1_1 a1_2).bind fun bt622 => ((impl_MeetingsOf.f kj8 bt619.1 bt619.2.1 bt619.2.2 bt622.1 bt622.2.1 bt622.2.2).bind fun bt625 => ((laws_eqIntA2S.f kj8 bt625.1 t601).bind fun t629 => (if t629 = true then (laws_FnExactMeetingsOf.j1 kj8 t617 t616 (bt625.2 != t604)) else (laws_FnExactMeetingsOf.j1 kj8 t617 t616 true)))))) else (some false)))) = some true := H
    have A29 := Aside0.mk A290
    clear A290
    replace H := Option.bind_eq_some_iff.mp H
    obtain ⟨t618, A300, H⟩ := H
    replace H : (if t618 < 0 then (some false) else (if t618 = t616 then ((laws_toCandle.f a0_0 a0_1 a0_2).bind fun bt619 => ((laws_toCandle.f a1_0 a1_1 a1_2).bind fun bt622 => ((impl_MeetingsOf.f kj8 bt619.1 bt619.2.1 bt619.2.2 bt622.1 bt622.2.1 bt622.2.2).bind fun bt625 => ((laws_eqIntA2S.f kj8 bt625.1 t601).bind fun t629 => (if t629 = true then (laws_FnExactMeetingsOf.j1 kj8 t617 t616 (bt625.2 != t604)) else (laws_FnExactMeetingsOf.j1 kj8 t617 t616 true)))))) else (some false))) = some true := H
    have A30 := Aside0.mk A300
    clear A300
    by_cases c31 : t618 < 0
    ·rw [if_pos c31] at H
     have c31b0 : decide (t618 < 0) = true := decide_eq_true c31
     clear c31
     exact absurd H (by simp)
    ·rw [if_neg c31] at H
     have c31b0 : decide (t618 < 0) = false := decide_eq_false c31
     clear c31
     by_cases c32 : t618 = t616
     ·rw [if_pos c32] at H
      have c32b0 : (t618 == t616) = true := beq_iff_eq.mpr c32
      have c32b1 : (t618 != t616) = false := bne_eq_false_iff_eq.mpr c32
      clear c32
      replace H := Option.bind_eq_some_iff.mp H
      obtain ⟨⟨t619, t620, t621⟩, A330, H⟩ := H
      replace H : ((laws_toCandle.f a1_0 a1_1 a1_2).bind fun bt622 => ((impl_MeetingsOf.f kj8 t619 t620 t621 bt622.1 bt622.2.1 bt622.2.2).bind fun bt625 => ((laws_eqIntA2S.f kj8 bt625.1 t601).bind fun t629 => (if t629 = true then (laws_FnExactMeetingsOf.j1 kj8 t617 t616 (bt625.2 != t604)) else (laws_FnExactMeetingsOf.j1 kj8 t617 t616 true))))) = some true := H
      have A33 := Aside0.mk A330
      clear A330
      replace H := Option.bind_eq_some_iff.mp H
      obtain ⟨⟨t622, t623, t624⟩, A340, H⟩ := H
      replace H : ((impl_MeetingsOf.f kj8 t619 t620 t621 t622 t623 t624).bind fun bt625 => ((laws_eqIntA2S.f kj8 bt625.1 t601).bind fun t629 => (if t629 = true then (laws_FnExactMeetingsOf.j1 kj8 t617 t616 (bt625.2 != t604)) else (laws_FnExactMeetingsOf.j1 kj8 t617 t616 true)))) = some true := H
      have A34 := Aside0.mk A340
      clear A340
      replace H := Option.bind_eq_some_iff.mp H
      obtain ⟨⟨t625, t628⟩, A350, H⟩ := H
      replace H : ((laws_eqIntA2S.f kj8 t625 t601).bind fun t629 => (if t629 = true then (laws_FnExactMeetingsOf.j1 kj8 t617 t616 (t628 != t604)) else (laws_FnExactMeetingsOf.j1 kj8 t617 t616 true))) = some true := H
      have A35 := Aside0.mk A350
      clear A350
      have HC36 := Aside0.mk H
      clear H
      obtain ⟨Ao37, co37, eo37⟩ := Kd.R_slice HO_7.out
      subst eo37
      try go_wp2_with (first | ((with_reducible refine gate_callee (f := 47) rfl ?_); refine goesL_ (some 40) rfl rfl Try.func47 (by kernel_rfl) rfl #[.slice Ao37 t611.length co37, .int .i64 1] rfl (by (try simp only [List.map_toArray, List.map_cons, List.map_nil]); first | done | rfl | (simp only [List.length_drop, List.length_take]; rfl)) ?_; (with_reducible refine (laws_markIntA2S.calls kj8 (fun k_ => some k_ = (.slice Ao37 t611.length co37 : Value).ownBlock) (.slice Ao37 t611.length co37) t611 1 t616 t617 w _ ?side1 ?side2 A29.out).mono ?_); (case side1 => repeat (first | (with_reducible first | exact HB.out | apply below_alloc | apply pw_below_drewN | apply below_drew1 | refine below_set ?_ GE593.out | refine below_set ?_ GE594.out) | exact HB.out)); (case side2 => exact Kd.R_tight rfl HO_7.out); rintro e w38 ⟨rfl, hy0, hb, hkp⟩; refine ⟨_, rfl, ?_⟩; have n0_ := Aside0.mk (Kd.V_mono (ok' := fun k_ => some k_ ≠ (.slice Ao37 t611.length co37 : Value).ownBlock ∧ k_ ≠ gb593 ∧ k_ ≠ gb594) (Kd.V_keptB (HO_5.out) hkp (fun k_ hk_ hs_ => (hk_.1) hs_)) (fun k_ hk_ => ⟨hk_.1.1, hk_.1.2.1, hk_.1.2.2⟩)); have n1_ := Aside0.mk (Kd.R_reok rfl hy0 (fun k_ e_ => HO_7.out.1 k_ e_)); have n2_ := Aside0.mk (blk_kept (by (with_reducible repeat (first | refine blk_drewN ?_ _ | refine blk_drew ?_ | refine blk_alloc ?_ _)); exact BK593.out) hkp (fun hs_ => (fun e_ => (Kd.R_ne HO_7.out BK593.out (by decide)) e_) hs_)); have n3_ := Aside0.mk (blk_kept (by (with_reducible repeat (first | refine blk_drewN ?_ _ | refine blk_drew ?_ | refine blk_alloc ?_ _)); exact BK594.out) hkp (fun hs_ => (fun e_ => (Kd.R_ne HO_7.out BK594.out (by decide)) e_) hs_)); have n4_ := Aside0.mk (hb); clear HO_5; clear HO_7; clear BK593; clear BK594; clear HB; have HO_5 := n0_; have HO_7 := n1_; have BK593 := n2_; have BK594 := n3_; have HB := n4_; clear n0_ n1_ n2_ n3_ n4_; (try clear hb); (try clear hkp); (try clear hy0)) | ((with_reducible refine gate_callee (f := 48) rfl ?_); refine goesL_ (some 43) rfl rfl Try.func48 (by kernel_rfl) rfl #[.slice Ao37 t617.length co37, .int .i64 1] rfl (by (try simp only [List.map_toArray, List.map_cons, List.map_nil]); first | done | (rw [show t617.length = t611.length from (Kd.R_reads' HO_7.out).1.symm] <;> rfl) | rfl | (simp only [List.length_drop, List.length_take]; rfl)) ?_; (with_reducible refine (laws_heldIntA2S.calls kj8 _ _ t617 1 t618 _ ?side1 ?side2 A30.out).mono ?_); (case side1 => repeat (first | exact (Kd.R_reads' HO_7.out).2.2 | (with_reducible refine Kd.C_alloc ?_ _) | (with_reducible refine Kd.C_drewN ?_ _) | (with_reducible refine Kd.C_drew ?_))); (case side2 => rw [show t617.length = t611.length from (Kd.R_reads' HO_7.out).1.symm]; exact (Kd.R_reads' HO_7.out).2.1); rintro e w' ⟨rfl, ⟨nd, rfl⟩⟩; refine ⟨_, rfl, ?_⟩))
      (try (rw [drewN_self w38]; generalize hq_ : World.drewN w38 _ = w38; have n0_ : Aside0 (Kd.V k28 28 w38 w.heap.size (fun k_ => some k_ ≠ (.slice Ao37 t611.length co37 : Value).ownBlock ∧ k_ ≠ gb593 ∧ k_ ≠ gb594) v602 t601) := ⟨by rw [← hq_]; exact (by (with_reducible repeat (first | apply Kd.V_alloc | apply Kd.V_drewN | apply Kd.V_drew)); exact HO_5.out)⟩; have n1_ : Aside0 (Kd.R k28 28 w38 w.heap.size (fun _ => True) (.slice Ao37 t611.length co37) t617) := ⟨by rw [← hq_]; exact (by (with_reducible repeat (first | apply Kd.R_alloc | apply Kd.R_drewN | apply Kd.R_drew)); exact HO_7.out)⟩; have n2_ : Aside0 (w38.heap[gb593]? = some (.cells #[.int .i64 a0_0, .int .i64 a0_1, .int .i64 a0_2] 23 (0, 0))) := ⟨by rw [← hq_]; exact (by (with_reducible repeat (first | refine blk_drewN ?_ _ | refine blk_drew ?_ | refine blk_alloc ?_ _)); exact BK593.out)⟩; have n3_ : Aside0 (w38.heap[gb594]? = some (.cells #[.int .i64 a1_0, .int .i64 a1_1, .int .i64 a1_2] 23 (0, 0))) := ⟨by rw [← hq_]; exact (by (with_reducible repeat (first | refine blk_drewN ?_ _ | refine blk_drew ?_ | refine blk_alloc ?_ _)); exact BK594.out)⟩; have n4_ : Aside0 (Below w.heap.size w w38) := ⟨by rw [← hq_]; exact (by repeat (first | (with_reducible first | exact HB.out | apply below_alloc | apply pw_below_drewN | apply below_drew1 | refine below_set ?_ GE593.out | refine below_set ?_ GE594.out) | exact HB.out))⟩; clear HO_5 HO_7 BK593 BK594 HB hq_; have HO_5 := n0_; have HO_7 := n1_; have BK593 := n2_; have BK594 := n3_; have HB := n4_; clear n0_ n1_ n2_ n3_ n4_))
      have n0_ := Aside0.mk (Kd.V_drew HO_5.out)
      have n1_ := Aside0.mk (Kd.R_drew HO_7.out)
      have n2_ := Aside0.mk (blk_drew BK593.out)
      have n3_ := Aside0.mk (blk_drew BK594.out)
      have n4_ := Aside0.mk (below_drew1 HB.out)
      clear HO_5
      clear HO_7
      clear BK593
      clear BK594
      clear HB
      have HO_5 := n0_
      have HO_7 := n1_
      have BK593 := n2_
      have BK594 := n3_
      have HB := n4_
      clear n0_ n1_ n2_ n3_ n4_
      refine start_ (n := 10) (S := fun w' => w'.cell? ⟨gb593, 0, none⟩ = some (.int .i64 a0_0) ∧ w'.cell? ⟨gb593, 1, none⟩ = some (.int .i64 a0_1) ∧ w'.cell? ⟨gb593, 2, none⟩ = some (.int .i64 a0_2) ∧ w'.cell? ⟨gb594, 0, none⟩ = some (.int .i64 a1_0) ∧ w'.cell? ⟨gb594, 1, none⟩ = some (.int .i64 a1_1) ∧ w'.cell? ⟨gb594, 2, none⟩ = some (.int .i64 a1_2)) (ds := []) #[false, false, false, false, false, false, false, false, false, false] (by kernel_rfl) rfl rfl ⟨(blk_cell BK593.out 0).trans rfl, (blk_cell BK593.out 1).trans rfl, (blk_cell BK593.out 2).trans rfl, (blk_cell BK594.out 0).trans rfl, (blk_cell BK594.out 1).trans rfl, (blk_cell BK594.out 2).trans rfl⟩ (fun hHeld => ?_); refine with_tabW laws_FnExactMeetingsOf.tab13 laws_FnExactMeetingsOf.bits13 (fun HT_ HW_ => ?_)
      generalize w38.drew = w39 at HO_5 HO_7 BK593 BK594 HB hHeld ⊢
      refine take_ (i := 0) (N := some 50) (v := ?_) (a' := ?_) #[true, false, false, false, false, false, false, false, false, false] rfl rfl (take_ofW HT_.out HW_.out (by kernel_rfl)) (fun _ _ _ h => h) (Or.inl ⟨by rfl, ?_⟩) hHeld ?_ ?_
      rotate_left
      ·rintro w' ⟨s0, s1, s2, s3, s4, s5⟩
       go_simp
       with_reducible rfl
      rotate_left
      ·simp only [Act.put, List.setIfInBounds_toArray, List.set_cons_zero, List.set_cons_succ, i64_w, i32_w]
       rfl
      refine take_ (i := 2) (N := some 52) (v := ?_) (a' := ?_) #[true, false, true, false, false, false, false, false, false, false] rfl rfl (take_ofW HT_.out HW_.out (by kernel_rfl)) (fun _ _ _ h => h) (Or.inl ⟨by rfl, ?_⟩) hHeld ?_ ?_
      rotate_left
      ·rintro w' ⟨s0, s1, s2, s3, s4, s5⟩
       go_simp
       with_reducible rfl
      rotate_left
      ·simp only [Act.put, List.setIfInBounds_toArray, List.set_cons_zero, List.set_cons_succ, i64_w, i32_w]
       rfl
      refine one_ (i := 1) (N := some 51) #[true, true, true, false, false, false, false, false, false, false] rfl rfl (one_of HT_.out (by kernel_rfl)) (by decide) (fun K hK => ?_)
      refine goes_ Try.func18 (by kernel_rfl) rfl #[.agg #[.int .i64 a0_0, .int .i64 a0_1, .int .i64 a0_2]] (by rfl) rfl rfl (by (try simp only [List.map_toArray, List.map_cons, List.map_nil]); first | done | rfl | (simp only [List.length_drop, List.length_take]; rfl)) ?_
      with_reducible refine (laws_toCandle.calls a0_0 a0_1 a0_2 t619 t620 t621 _ A33.out).mono ?_
      rintro e w40 ⟨rfl, hb⟩
      refine ⟨_, rfl, ?_⟩
      have n0_ := Aside0.mk (Kd.V_below (by (with_reducible repeat (first | apply Kd.V_alloc | apply Kd.V_drewN | apply Kd.V_drew)); exact HO_5.out) hb)
      have n1_ := Aside0.mk (Kd.R_below HO_7.out hb)
      have n2_ := Aside0.mk (blk_below BK593.out hb)
      have n3_ := Aside0.mk (blk_below BK594.out hb)
      have n4_ := Aside0.mk (below_step HB.out hb)
      clear HO_5
      clear HO_7
      clear BK593
      clear BK594
      clear HB
      have HO_5 := n0_
      have HO_7 := n1_
      have BK593 := n2_
      have BK594 := n3_
      have HB := n4_
      clear n0_ n1_ n2_ n3_ n4_
      (try clear hb)
      (try clear hb2)
      (try clear hk)
      (try clear hi)
      refine hK.out _ _ ⟨(blk_cell BK593.out 0).trans rfl, (blk_cell BK593.out 1).trans rfl, (blk_cell BK593.out 2).trans rfl, (blk_cell BK594.out 0).trans rfl, (blk_cell BK594.out 1).trans rfl, (blk_cell BK594.out 2).trans rfl⟩ (fun hHeld => ?_)
      clear hK K
      refine norm_ (a' := ?_) ?_ ?_
      rotate_left
      ·show Act.put _ (some 51) _ = _
       simp only [Act.put, List.setIfInBounds_toArray, List.set_cons_zero, List.set_cons_succ, i64_w, i32_w]
       rfl
      refine one_ (i := 3) (N := some 53) #[true, true, true, true, false, false, false, false, false, false] rfl rfl (one_of HT_.out (by kernel_rfl)) (by decide) (fun K hK => ?_)
      refine goes_ Try.func18 (by kernel_rfl) rfl #[.agg #[.int .i64 a1_0, .int .i64 a1_1, .int .i64 a1_2]] (by rfl) rfl rfl (by (try simp only [List.map_toArray, List.map_cons, List.map_nil]); first | done | rfl | (simp only [List.length_drop, List.length_take]; rfl)) ?_
      with_reducible refine (laws_toCandle.calls a1_0 a1_1 a1_2 t622 t623 t624 _ A34.out).mono ?_
      rintro e w41 ⟨rfl, hb⟩
      refine ⟨_, rfl, ?_⟩
      have n0_ := Aside0.mk (Kd.V_below (by (with_reducible repeat (first | apply Kd.V_alloc | apply Kd.V_drewN | apply Kd.V_drew)); exact HO_5.out) hb)
      have n1_ := Aside0.mk (Kd.R_below HO_7.out hb)
      have n2_ := Aside0.mk (blk_below BK593.out hb)
      have n3_ := Aside0.mk (blk_below BK594.out hb)
      have n4_ := Aside0.mk (below_step HB.out hb)
      clear HO_5
      clear HO_7
      clear BK593
      clear BK594
      clear HB
      have HO_5 := n0_
      have HO_7 := n1_
      have BK593 := n2_
      have BK594 := n3_
      have HB := n4_
      clear n0_ n1_ n2_ n3_ n4_
      (try clear hb)
      (try clear hb2)
      (try clear hk)
      (try clear hi)
      refine hK.out _ _ ⟨(blk_cell BK593.out 0).trans rfl, (blk_cell BK593.out 1).trans rfl, (blk_cell BK593.out 2).trans rfl, (blk_cell BK594.out 0).trans rfl, (blk_cell BK594.out 1).trans rfl, (blk_cell BK594.out 2).trans rfl⟩ (fun hHeld => ?_)
      clear hK K
      refine norm_ (a' := ?_) ?_ ?_
      rotate_left
      ·show Act.put _ (some 53) _ = _
       simp only [Act.put, List.setIfInBounds_toArray, List.set_cons_zero, List.set_cons_succ, i64_w, i32_w]
       rfl
      refine one_ (i := 4) (N := some 54) #[true, true, true, true, true, false, false, false, false, false] rfl rfl (one_of HT_.out (by kernel_rfl)) (by decide) (fun K hK => ?_)
      refine goes_ Try.func33 (by kernel_rfl) rfl #[.agg #[.int .i64 t619, .int .i64 t620, .int .i64 t621], .agg #[.int .i64 t622, .int .i64 t623, .int .i64 t624]] (by rfl) rfl rfl (by (try simp only [List.map_toArray, List.map_cons, List.map_nil]); first | done | rfl | (simp only [List.length_drop, List.length_take]; rfl)) ?_
      with_reducible refine (impl_MeetingsOf.calls kj8 t619 t620 t621 t622 t623 t624 t625 t628 _ A35.out).mono ?_
      rintro e w42 ⟨v626, rfl, ho0, hb⟩
      refine ⟨_, rfl, ?_⟩
      have n0_ := Aside0.mk (Kd.V_elder' (by (with_reducible repeat (first | apply Kd.V_alloc | apply Kd.V_drewN | apply Kd.V_drew)); exact HO_5.out) (Kd.R_base ho0) hb)
      have n1_ := Aside0.mk (Kd.R_elder' HO_7.out (Kd.R_base ho0) hb)
      have n2_ := Aside0.mk (Kd.R_lower (Kd.R_new' ho0 (Kd.R_lt HO_7.out)) (below_size HB.out))
      have n3_ := Aside0.mk (blk_below BK593.out hb)
      have n4_ := Aside0.mk (blk_below BK594.out hb)
      have n5_ := Aside0.mk (below_step HB.out hb)
      clear HO_5
      clear HO_7
      clear BK593
      clear BK594
      clear HB
      have HO_5 := n0_
      have HO_7 := n1_
      have HO627 := n2_
      have BK593 := n3_
      have BK594 := n4_
      have HB := n5_
      clear n0_ n1_ n2_ n3_ n4_ n5_
      (try clear hb)
      (try clear hb2)
      (try clear hk)
      (try clear hi)
      (try clear ho0)
      refine hK.out _ _ ⟨(blk_cell BK593.out 0).trans rfl, (blk_cell BK593.out 1).trans rfl, (blk_cell BK593.out 2).trans rfl, (blk_cell BK594.out 0).trans rfl, (blk_cell BK594.out 1).trans rfl, (blk_cell BK594.out 2).trans rfl⟩ (fun hHeld => ?_)
      clear hK K
      refine norm_ (a' := ?_) ?_ ?_
      rotate_left
      ·show Act.put _ (some 54) _ = _
       simp only [Act.put, List.setIfInBounds_toArray, List.set_cons_zero, List.set_cons_succ, i64_w, i32_w]
       rfl
      refine pure_ (i := 5) (N := some 49) (v := ?_) (a' := ?_) #[true, true, true, true, true, true, false, false, false, false] rfl rfl (any_of HT_.out (by kernel_rfl)) (fun _ _ _ h => h) (Or.inl ⟨by rfl, ?_⟩) ?_ ?_
      rotate_left
      ·intro w'
       go_simp
       with_reducible rfl
      rotate_left
      ·simp only [Act.put, List.setIfInBounds_toArray, List.set_cons_zero, List.set_cons_succ, i64_w, i32_w]
       rfl
      refine pure_ (i := 6) (N := some 55) (v := ?_) (a' := ?_) #[true, true, true, true, true, true, true, false, false, false] rfl rfl (any_of HT_.out (by kernel_rfl)) (fun _ _ _ h => h) (Or.inl ⟨by rfl, ?_⟩) ?_ ?_
      rotate_left
      ·intro w'
       go_simp
       with_reducible rfl
      rotate_left
      ·simp only [Act.put, List.setIfInBounds_toArray, List.set_cons_zero, List.set_cons_succ, i64_w, i32_w]
       rfl
      refine pure_ (i := 7) (N := some 56) (v := ?_) (a' := ?_) #[true, true, true, true, true, true, true, true, false, false] rfl rfl (any_of HT_.out (by kernel_rfl)) (fun _ _ _ h => h) (Or.inl ⟨by rfl, ?_⟩) ?_ ?_
      rotate_left
      ·intro w'
       go_simp
       with_reducible rfl
      rotate_left
      ·simp only [Act.put, List.setIfInBounds_toArray, List.set_cons_zero, List.set_cons_succ, i64_w, i32_w]
       rfl
      refine pure_ (i := 8) (N := some 11) (v := ?_) (a' := ?_) #[true, true, true, true, true, true, true, true, true, false] rfl rfl (any_of HT_.out (by kernel_rfl)) (fun _ _ _ h => h) (Or.inl ⟨by rfl, ?_⟩) ?_ ?_
      rotate_left
      ·intro w'
       go_simp
       with_reducible rfl
      rotate_left
      ·simp only [Act.put, List.setIfInBounds_toArray, List.set_cons_zero, List.set_cons_succ, i64_w, i32_w]
       rfl
      refine pure_ (i := 9) (N := some 12) (v := ?_) (a' := ?_) #[true, true, true, true, true, true, true, true, true, true] rfl rfl (any_of HT_.out (by kernel_rfl)) (fun _ _ _ h => h) (Or.inl ⟨by rfl, ?_⟩) ?_ ?_
      rotate_left
      ·intro w'
       go_simp
       with_reducible rfl
      rotate_left
      ·simp only [Act.put, List.setIfInBounds_toArray, List.set_cons_zero, List.set_cons_succ, i64_w, i32_w]
       rfl
      refine done_ (done_of HT_.out (by kernel_rfl)) ?_
      go_upto_region 14 with (fail)
      go_cut [65] (fun v65 wc => ∃ (kq : Nat) (x65_35 : Bool), v65 = .bool x65_35 ∧ Aside0 (laws_FnExactMeetingsOf.j1 kq t617 t616 x65_35 = some true) ∧ Aside0 (kq ≤ kj8) ∧ Aside0 (Kd.R k28 28 wc w.heap.size (fun _ => True) (.slice Ao37 t611.length co37) t617) ∧ Aside0 (wc.heap[gb593]? = some (.cells #[.int .i64 a0_0, .int .i64 a0_1, .int .i64 a0_2] 23 (0, 0))) ∧ Aside0 (wc.heap[gb594]? = some (.cells #[.int .i64 a1_0, .int .i64 a1_1, .int .i64 a1_2] 23 (0, 0))) ∧ Aside0 (Below w.heap.size w wc))
      case first =>
       have H := HC36.out
       clear HC36
       replace H := Option.bind_eq_some_iff.mp H
       obtain ⟨t629, A430, H⟩ := H
       replace H : (if t629 = true then (laws_FnExactMeetingsOf.j1 kj8 t617 t616 (t628 != t604)) else (laws_FnExactMeetingsOf.j1 kj8 t617 t616 true)) = some true := H
       have A43 := Aside0.mk A430
       clear A430
       by_cases c44 : t629 = true
       ·subst c44
        have H1 : (laws_FnExactMeetingsOf.j1 kj8 t617 t616 (t628 != t604)) = some true := by rw [if_pos rfl] at H; exact H
        clear H
        have H := H1
        clear H1
        have H' := Aside0.mk H
        clear H
        obtain ⟨Ao45, co45, eo45⟩ := Kd.R_slice HO627.out
        subst eo45
        obtain ⟨Ao46, co46, eo46⟩ := Kd.V_slice HO_5.out
        subst eo46
        go_wp2_with (first | ((with_reducible refine gate_callee (f := 46) rfl ?_); refine goesL_ (some 59) rfl rfl Try.func46 (by kernel_rfl) rfl #[.slice Ao45 t625.length co45, .slice Ao46 t601.length co46] rfl (by (try simp only [List.map_toArray, List.map_cons, List.map_nil]); first | done | rfl | (simp only [List.length_drop, List.length_take]; rfl)) ?_; (with_reducible refine (laws_eqIntA2S.calls kj8 _ _ t625 _ _ t601 true _ ?side1 ?side2 ?side3 ?side4 A43.out).mono ?_); (case side1 => repeat (first | exact (Kd.R_reads' HO627.out).2.2 | (with_reducible refine Kd.C_alloc ?_ _) | (with_reducible refine Kd.C_drewN ?_ _) | (with_reducible refine Kd.C_drew ?_))); (case side2 => exact (Kd.R_reads' HO627.out).2.1); (case side3 => repeat (first | exact (Kd.V_reads' HO_5.out).2.2 | (with_reducible refine Kd.C_alloc ?_ _) | (with_reducible refine Kd.C_drewN ?_ _) | (with_reducible refine Kd.C_drew ?_))); (case side4 => exact (Kd.V_reads' HO_5.out).2.1); rintro e w47 ⟨rfl, hb⟩; refine ⟨_, rfl, ?_⟩; have n0_ := Aside0.mk (Kd.V_below (by (with_reducible repeat (first | apply Kd.V_alloc | apply Kd.V_drewN | apply Kd.V_drew)); exact HO_5.out) hb); have n1_ := Aside0.mk (Kd.R_below (by (with_reducible repeat (first | apply Kd.R_alloc | apply Kd.R_drewN | apply Kd.R_drew)); exact HO_7.out) hb); have n2_ := Aside0.mk (Kd.R_below (by (with_reducible repeat (first | apply Kd.R_alloc | apply Kd.R_drewN | apply Kd.R_drew)); exact HO627.out) hb); have n3_ := Aside0.mk (blk_below (g := gb593) (o := .cells #[.int .i64 a0_0, .int .i64 a0_1, .int .i64 a0_2] 23 (0, 0)) (by (with_reducible repeat (first | refine blk_drewN ?_ _ | refine blk_drew ?_ | refine blk_alloc ?_ _)); exact BK593.out) hb); have n4_ := Aside0.mk (blk_below (g := gb594) (o := .cells #[.int .i64 a1_0, .int .i64 a1_1, .int .i64 a1_2] 23 (0, 0)) (by (with_reducible repeat (first | refine blk_drewN ?_ _ | refine blk_drew ?_ | refine blk_alloc ?_ _)); exact BK594.out) hb); have n5_ := Aside0.mk (below_step (by repeat (first | (with_reducible first | exact HB.out | apply below_alloc | apply pw_below_drewN | apply below_drew1 | refine below_set ?_ GE593.out | refine below_set ?_ GE594.out) | exact HB.out)) hb); clear HO_5; clear HO_7; clear HO627; clear BK593; clear BK594; clear HB; have HO_5 := n0_; have HO_7 := n1_; have HO627 := n2_; have BK593 := n3_; have BK594 := n4_; have HB := n5_; clear n0_ n1_ n2_ n3_ n4_ n5_; (try clear hb); (try clear hb2); (try clear hk); (try clear hi)))
        go_meet
        case rel => exact ⟨_, ((t628 != t604)), (by first | rfl | (simp; done) | (simp [*]; done)), H', ⟨by have := HJ8.out; first | omega | exact Nat.le_refl _⟩, ⟨by (with_reducible repeat (first | apply Kd.R_alloc | apply Kd.R_drewN | apply Kd.R_drew)); exact Kd.R_mono HO_7.out (fun _ hk => trivial)⟩, ⟨by (with_reducible repeat (first | refine blk_drewN ?_ _ | refine blk_drew ?_ | refine blk_alloc ?_ _)); exact BK593.out⟩, ⟨by (with_reducible repeat (first | refine blk_drewN ?_ _ | refine blk_drew ?_ | refine blk_alloc ?_ _)); exact BK594.out⟩, ⟨by repeat (first | (with_reducible first | exact HB.out | apply below_alloc | apply pw_below_drewN | apply below_drew1 | refine below_set ?_ GE593.out | refine below_set ?_ GE594.out) | exact HB.out)⟩⟩
       ·replace c44 := Bool.eq_false_iff.mpr c44
        subst c44
        have H1 : (laws_FnExactMeetingsOf.j1 kj8 t617 t616 true) = some true := by rw [if_neg (show ¬ (false = true) by decide)] at H; exact H
        clear H
        have H := H1
        clear H1
        have H' := Aside0.mk H
        clear H
        obtain ⟨Ao48, co48, eo48⟩ := Kd.R_slice HO627.out
        subst eo48
        obtain ⟨Ao49, co49, eo49⟩ := Kd.V_slice HO_5.out
        subst eo49
        go_wp2_with (first | ((with_reducible refine gate_callee (f := 46) rfl ?_); refine goesL_ (some 59) rfl rfl Try.func46 (by kernel_rfl) rfl #[.slice Ao48 t625.length co48, .slice Ao49 t601.length co49] rfl (by (try simp only [List.map_toArray, List.map_cons, List.map_nil]); first | done | rfl | (simp only [List.length_drop, List.length_take]; rfl)) ?_; (with_reducible refine (laws_eqIntA2S.calls kj8 _ _ t625 _ _ t601 false _ ?side1 ?side2 ?side3 ?side4 A43.out).mono ?_); (case side1 => repeat (first | exact (Kd.R_reads' HO627.out).2.2 | (with_reducible refine Kd.C_alloc ?_ _) | (with_reducible refine Kd.C_drewN ?_ _) | (with_reducible refine Kd.C_drew ?_))); (case side2 => exact (Kd.R_reads' HO627.out).2.1); (case side3 => repeat (first | exact (Kd.V_reads' HO_5.out).2.2 | (with_reducible refine Kd.C_alloc ?_ _) | (with_reducible refine Kd.C_drewN ?_ _) | (with_reducible refine Kd.C_drew ?_))); (case side4 => exact (Kd.V_reads' HO_5.out).2.1); rintro e w50 ⟨rfl, hb⟩; refine ⟨_, rfl, ?_⟩; have n0_ := Aside0.mk (Kd.V_below (by (with_reducible repeat (first | apply Kd.V_alloc | apply Kd.V_drewN | apply Kd.V_drew)); exact HO_5.out) hb); have n1_ := Aside0.mk (Kd.R_below (by (with_reducible repeat (first | apply Kd.R_alloc | apply Kd.R_drewN | apply Kd.R_drew)); exact HO_7.out) hb); have n2_ := Aside0.mk (Kd.R_below (by (with_reducible repeat (first | apply Kd.R_alloc | apply Kd.R_drewN | apply Kd.R_drew)); exact HO627.out) hb); have n3_ := Aside0.mk (blk_below (g := gb593) (o := .cells #[.int .i64 a0_0, .int .i64 a0_1, .int .i64 a0_2] 23 (0, 0)) (by (with_reducible repeat (first | refine blk_drewN ?_ _ | refine blk_drew ?_ | refine blk_alloc ?_ _)); exact BK593.out) hb); have n4_ := Aside0.mk (blk_below (g := gb594) (o := .cells #[.int .i64 a1_0, .int .i64 a1_1, .int .i64 a1_2] 23 (0, 0)) (by (with_reducible repeat (first | refine blk_drewN ?_ _ | refine blk_drew ?_ | refine blk_alloc ?_ _)); exact BK594.out) hb); have n5_ := Aside0.mk (below_step (by repeat (first | (with_reducible first | exact HB.out | apply below_alloc | apply pw_below_drewN | apply below_drew1 | refine below_set ?_ GE593.out | refine below_set ?_ GE594.out) | exact HB.out)) hb); clear HO_5; clear HO_7; clear HO627; clear BK593; clear BK594; clear HB; have HO_5 := n0_; have HO_7 := n1_; have HO627 := n2_; have BK593 := n3_; have BK594 := n4_; have HB := n5_; clear n0_ n1_ n2_ n3_ n4_ n5_; (try clear hb); (try clear hb2); (try clear hk); (try clear hi)))
        go_meet
        case rel => exact ⟨_, (true), (by first | rfl | (simp; done) | (simp [*]; done)), H', ⟨by have := HJ8.out; first | omega | exact Nat.le_refl _⟩, ⟨by (with_reducible repeat (first | apply Kd.R_alloc | apply Kd.R_drewN | apply Kd.R_drew)); exact Kd.R_mono HO_7.out (fun _ hk => trivial)⟩, ⟨by (with_reducible repeat (first | refine blk_drewN ?_ _ | refine blk_drew ?_ | refine blk_alloc ?_ _)); exact BK593.out⟩, ⟨by (with_reducible repeat (first | refine blk_drewN ?_ _ | refine blk_drew ?_ | refine blk_alloc ?_ _)); exact BK594.out⟩, ⟨by repeat (first | (with_reducible first | exact HB.out | apply below_alloc | apply pw_below_drewN | apply below_drew1 | refine below_set ?_ GE593.out | refine below_set ?_ GE594.out) | exact HB.out)⟩⟩
      case rest =>
       clear HC36
       (try clear c28);(try clear c31b0);(try clear c32b0);(try clear c32b1)
       obtain ⟨kq, x65_35, rfl, HA, HJ35, HO_7, BK593, BK594, HB⟩ := hcut
       have hl7_35 := (Kd.R_reads' HO_7.out).1
       rw [hl7_35] at HO_7
       (try simp only [hl7_35])
       (try simp only [hl7_35] at BK593)
       (try simp only [hl7_35] at BK594)
       cases kq with
       | zero => exact absurd HA.out (by simp [laws_FnExactMeetingsOf.j1])
       | succ kj35 =>
        have H := HA.out
        clear HA
        simp only [laws_FnExactMeetingsOf.j1] at H
        by_cases c51 : x65_35 = true
        ·subst c51
         have H1 : (some false) = some true := by first | (rw [if_pos rfl] at H; exact H) | rfl
         clear H
         have H := H1
         clear H1
         exact absurd H (by simp)
        ·replace c51 := Bool.eq_false_iff.mpr c51
         subst c51
         have H1 : ((laws_heldIntA2S.f kj35 t617 1).bind fun t630 => (if t630 < 0 then (some false) else (if t630 = t616 then (some true) else (some false)))) = some true := by rw [if_neg (show ¬ (false = true) by decide)] at H; exact H
         clear H
         have H := H1
         clear H1
         replace H := Option.bind_eq_some_iff.mp H
         obtain ⟨t630, A520, H⟩ := H
         replace H : (if t630 < 0 then (some false) else (if t630 = t616 then (some true) else (some false))) = some true := H
         have A52 := Aside0.mk A520
         clear A520
         by_cases c53 : t630 < 0
         ·rw [if_pos c53] at H
          have c53b0 : decide (t630 < 0) = true := decide_eq_true c53
          clear c53
          exact absurd H (by simp)
         ·rw [if_neg c53] at H
          have c53b0 : decide (t630 < 0) = false := decide_eq_false c53
          clear c53
          by_cases c54 : t630 = t616
          ·rw [if_pos c54] at H
           have c54b0 : (t630 == t616) = true := beq_iff_eq.mpr c54
           have c54b1 : (t630 != t616) = false := bne_eq_false_iff_eq.mpr c54
           clear c54
           clear H
           go_wp2_with (first | ((with_reducible refine gate_callee (f := 48) rfl ?_); refine goesL_ (some 68) rfl rfl Try.func48 (by kernel_rfl) rfl #[.slice Ao37 t617.length co37, .int .i64 1] rfl (by (try simp only [List.map_toArray, List.map_cons, List.map_nil]); first | done | rfl | (simp only [List.length_drop, List.length_take]; rfl)) ?_; (with_reducible refine (laws_heldIntA2S.calls kj35 _ _ t617 1 t630 _ ?side1 ?side2 A52.out).mono ?_); (case side1 => repeat (first | exact (Kd.R_reads' HO_7.out).2.2 | (with_reducible refine Kd.C_alloc ?_ _) | (with_reducible refine Kd.C_drewN ?_ _) | (with_reducible refine Kd.C_drew ?_))); (case side2 => exact (Kd.R_reads' HO_7.out).2.1); rintro e w' ⟨rfl, ⟨nd, rfl⟩⟩; refine ⟨_, rfl, ?_⟩))
           go_ret
           exact ⟨by first | rfl | (simp [errW_none, errW_some] <;> rfl) | (simp [*, errW_none, errW_some] <;> rfl), by repeat (first | (with_reducible first | exact HB.out | apply below_alloc | apply pw_below_drewN | apply below_drew1 | refine below_set ?_ GE593.out | refine below_set ?_ GE594.out) | exact HB.out)⟩
          ·rw [if_neg c54] at H
           have c54b0 : (t630 == t616) = false := beq_eq_false_iff_ne.mpr c54
           have c54b1 : (t630 != t616) = true := bne_iff_ne.mpr c54
           exact absurd H (by simp)
     ·rw [if_neg c32] at H
      have c32b0 : (t618 == t616) = false := beq_eq_false_iff_ne.mpr c32
      have c32b1 : (t618 != t616) = true := bne_iff_ne.mpr c32
      exact absurd H (by simp)

/-- The one pure statement of laws_FnExactMeetingsOf. -/
def laws_FnExactMeetingsOf.Pure : Prop := ∀ (a0_0 : Int) (a0_1 : Int) (a0_2 : Int) (a1_0 : Int) (a1_1 : Int) (a1_2 : Int), (Lit.int .i64 a0_0).wf = true → (Lit.int .i64 a0_1).wf = true → (Lit.int .i64 a0_2).wf = true → (Lit.int .i64 a1_0).wf = true → (Lit.int .i64 a1_1).wf = true → (Lit.int .i64 a1_2).wf = true → ∃ k, laws_FnExactMeetingsOf.f k a0_0 a0_1 a0_2 a1_0 a1_1 a1_2 = some true

end Go.Proofs.Ytkefphfjeodgnaa.PA
