-- Printed by a program of this session's own.
import Derived.Test.YtmhnllcdfjggaaaVOutTogetPAx0
import Derived.Test.YtmhnllcdfjggaaaVOutTogetPAx2
import Derived.Test.YtmhnllcdfjggaaaVOutTogetPAx5
namespace Go.Proofs.Ytmhnllcdfjggaaa.PA
open Go.RowKit Go.Proofs.YtmhnllcdfjggaaaW.PrintWords Go.Proofs.YtmhnllcdfjggaaaW.PrintLast Go.Proofs.YtmhnllcdfjggaaaW.PrintMore Go.Proofs.YtmhnllcdfjggaaaX
attribute [local go_sem] max2_int min2_int max_two min_two  -- for this text's walks alone
set_option linter.unusedVariables false
set_option linter.unusedSimpArgs false

/-! ### spec_l3Next: function 32 -/
mutual
def spec_l3Next.l0 : Nat → List (S45) → Int → Bool → List (S45) → List Int → Int → Int → Int → Int → Int → Option ((List (S45)))
  | 0, _, _, _, _, _, _, _, _, _, _ => none
  | k + 1, x1, x2, x3, x9, x10, x11, x163000, x163001, x163002, x163003 => if x11 < (x1.length : Int) then (spec_l3Next.l1 k x1 x2 x3 x9 x10 x11 0 x163000 x163001 x163002 x163003) else (some x9)
def spec_l3Next.l1 : Nat → List (S45) → Int → Bool → List (S45) → List Int → Int → Int → Int → Int → Int → Int → Option ((List (S45)))
  | 0, _, _, _, _, _, _, _, _, _, _, _ => none
  | k + 1, x1, x2, x3, x9, x10, x11, x12, x163000, x163001, x163002, x163003 => if x12 < 16 then (if 0 ≤ x11 then (if x11 < (x1.length : Int) then ((spec_l2All.f k x163000 x163001 x163002 x163003).bind fun t171 => ((spec_l2Step.f k x163000 x163001 x163002 x163003 ((rd_T45 x1 x11).f1.f0) ((rd_T45 x1 x11).f1.f1) ((rd_T45 x1 x11).f1.f2) ((rd_T45 x1 x11).f1.f3) (Go.bits .and .i64 x12 t171)).bind fun bt172 => ((spec_l2Set.f k x163000 x163001 x163002 x163003 x12).bind fun t180 => (if t180 = true then (if bt172.2.2.2.2 = 0 then (spec_l3Next.j2 k x1 x2 x3 x9 x10 x11 x12 (wrap64 (((rd_T45 x1 x11).f0) + bt172.2.2.2.2)) ((rd_T45 x1 x11).f2) true x163000 x163001 x163002 x163003 bt172.1 bt172.2.1 bt172.2.2.1 bt172.2.2.2.1) else (spec_l3Next.j2 k x1 x2 x3 x9 x10 x11 x12 (wrap64 (((rd_T45 x1 x11).f0) + bt172.2.2.2.2)) ((rd_T45 x1 x11).f2) (decide ((wrap64 (((rd_T45 x1 x11).f0) + bt172.2.2.2.2)) > x2)) x163000 x163001 x163002 x163003 bt172.1 bt172.2.1 bt172.2.2.1 bt172.2.2.2.1)) else (spec_l3Next.j2 k x1 x2 x3 x9 x10 x11 x12 (wrap64 (((rd_T45 x1 x11).f0) + bt172.2.2.2.2)) ((rd_T45 x1 x11).f2) true x163000 x163001 x163002 x163003 bt172.1 bt172.2.1 bt172.2.2.1 bt172.2.2.2.1))))) else (none)) else (none)) else (spec_l3Next.l0 k x1 x2 x3 x9 x10 (wrap64 (x11 + 1)) x163000 x163001 x163002 x163003)
def spec_l3Next.j2 : Nat → List (S45) → Int → Bool → List (S45) → List Int → Int → Int → Int → Int → Bool → Int → Int → Int → Int → Int → Int → Int → Int → Option ((List (S45)))
  | 0, _, _, _, _, _, _, _, _, _, _, _, _, _, _, _, _, _, _ => none
  | k + 1, x1, x2, x3, x9, x10, x11, x12, x15, x16, x73, x163000, x163001, x163002, x163003, x178000, x178001, x178002, x178003 => if x73 = true then (spec_l3Next.l1 k x1 x2 x3 x9 x10 x11 (wrap64 (x12 + 1)) x163000 x163001 x163002 x163003) else (if x3 = true then ((spec_l3Bits.f k x12).bind fun t181 => (spec_l3Next.j3 k x1 x2 x3 x9 x10 x11 x12 x15 (wrap64 (x16 + t181)) x163000 x163001 x163002 x163003 x178000 x178001 x178002 x178003)) else (spec_l3Next.j3 k x1 x2 x3 x9 x10 x11 x12 x15 x16 x163000 x163001 x163002 x163003 x178000 x178001 x178002 x178003))
def spec_l3Next.j3 : Nat → List (S45) → Int → Bool → List (S45) → List Int → Int → Int → Int → Int → Int → Int → Int → Int → Int → Int → Int → Int → Option ((List (S45)))
  | 0, _, _, _, _, _, _, _, _, _, _, _, _, _, _, _, _, _ => none
  | k + 1, x1, x2, x3, x9, x10, x11, x12, x15, x16, x163000, x163001, x163002, x163003, x178000, x178001, x178002, x178003 => (spec_l3Id.f x163000 x163001 x163002 x163003 x15 x178000 x178001 x178002 x178003).bind fun t182 => (if 0 ≤ t182 then (if t182 < (x10.length : Int) then (if (rd x10 t182) = 0 then (if x9.length < 2932031007402 then ((some (x9 ++ [(⟨x15, (⟨x178000, x178001, x178002, x178003⟩ : S22), x16⟩ : S45)] : List (S45))).bind fun y184 => (spec_l3Next.l1 k x1 x2 x3 y184 (x10.set (t182 : Int).toNat (y184.length : Int)) x11 (wrap64 (x12 + 1)) x163000 x163001 x163002 x163003)) else (none)) else (if x3 = true then (if 0 ≤ (wrap64 ((rd x10 t182) - 1)) then (if (wrap64 ((rd x10 t182) - 1)) < (x9.length : Int) then ((spec_l1Least.f ((rd_T45 x9 (wrap64 ((rd x10 t182) - 1))).f2) x16).bind fun t191 => (spec_l3Next.l1 k x1 x2 x3 (x9.set ((wrap64 ((rd x10 t182) - 1)) : Int).toNat (⟨(rd_T45 x9 (wrap64 ((rd x10 t182) - 1))).f0, (⟨(rd_T45 x9 (wrap64 ((rd x10 t182) - 1))).f1.f0, (rd_T45 x9 (wrap64 ((rd x10 t182) - 1))).f1.f1, (rd_T45 x9 (wrap64 ((rd x10 t182) - 1))).f1.f2, (rd_T45 x9 (wrap64 ((rd x10 t182) - 1))).f1.f3⟩ : S22), t191⟩ : S45)) x10 x11 (wrap64 (x12 + 1)) x163000 x163001 x163002 x163003)) else (none)) else (none)) else (if 0 ≤ (wrap64 ((rd x10 t182) - 1)) then (if (wrap64 ((rd x10 t182) - 1)) < (x9.length : Int) then (spec_l3Next.l1 k x1 x2 x3 (x9.set ((wrap64 ((rd x10 t182) - 1)) : Int).toNat (⟨(rd_T45 x9 (wrap64 ((rd x10 t182) - 1))).f0, (⟨(rd_T45 x9 (wrap64 ((rd x10 t182) - 1))).f1.f0, (rd_T45 x9 (wrap64 ((rd x10 t182) - 1))).f1.f1, (rd_T45 x9 (wrap64 ((rd x10 t182) - 1))).f1.f2, (rd_T45 x9 (wrap64 ((rd x10 t182) - 1))).f1.f3⟩ : S22), wrap64 (((rd_T45 x9 (wrap64 ((rd x10 t182) - 1))).f2) + x16)⟩ : S45)) x10 x11 (wrap64 (x12 + 1)) x163000 x163001 x163002 x163003) else (none)) else (none)))) else (none)) else (none))
end
def spec_l3Next.f (k : Nat) (a0_0 : Int) (a0_1 : Int) (a0_2 : Int) (a0_3 : Int) (l1 : List (S45)) (a2 : Int) (a3 : Bool) : Option ((List (S45))) := (spec_l3Many.f a0_0 a0_1 a0_2 a0_3).bind fun t166 => (if 0 ≤ (wrap64 ((wrap64 (a2 + 1)) * t166)) then (if (wrap64 ((wrap64 (a2 + 1)) * t166) : Int).toNat ≤ 35184372088832 then (spec_l3Next.l0 k l1 a2 a3 (([] : List (S45))) (List.replicate (wrap64 ((wrap64 (a2 + 1)) * t166) : Int).toNat 0) 0 a0_0 a0_1 a0_2 a0_3) else (none)) else (none))
def spec_l3Next.T1 : Bool × List (List Nat × List Nat) := (true, [([], []), ([], []), ([1], [1]), ([], []), ([3], [3]), ([2, 4], [2, 4]), ([5, 5], [5]), ([0, 4, 0], [0]), ([6, 7, 0, 1, 2, 3, 4, 5, 6, 7], [6])])
def spec_l3Next.B1 : List Nat := [0, 0, 2, 0, 8, 30, 62, 25, 255]
theorem spec_l3Next.tab1 : rtab .any (opsOf Try.f32 1) = spec_l3Next.T1 := by kernel_rfl
theorem spec_l3Next.bits1 : waitsOk spec_l3Next.T1.2 spec_l3Next.B1 = true := by kernel_rfl
def spec_l3Next.T8 : Bool × List (List Nat × List Nat) := (true, [([], []), ([], []), ([], []), ([1, 2], [1, 2]), ([3], [3]), ([4], [4]), ([], []), ([], []), ([7], [7]), ([6, 8], [6, 8]), ([0, 5, 9, 8], [0, 5, 9]), ([10], [10]), ([11], [11]), ([11], [11]), ([], []), ([14, 12, 10, 0, 1, 2, 3, 4, 5, 6, 7, 8, 9, 10, 11, 12, 14], [12, 14]), ([13, 15, 0, 1, 2, 3, 4, 5, 6, 7, 8, 9, 10, 11, 12, 13, 14, 15], [13])])
def spec_l3Next.B8 : List Nat := [0, 0, 0, 6, 14, 30, 0, 0, 128, 448, 1023, 2047, 4095, 4095, 0, 24575, 65535]
theorem spec_l3Next.tab8 : rtab .any (opsOf Try.f32 8) = spec_l3Next.T8 := by kernel_rfl
theorem spec_l3Next.bits8 : waitsOk spec_l3Next.T8.2 spec_l3Next.B8 = true := by kernel_rfl
def spec_l3Next.T9 : Bool × List (List Nat × List Nat) := (true, [([], []), ([], []), ([0, 1], [0, 1]), ([2], [2]), ([3], [3]), ([], []), ([4, 5], [4, 5]), ([], []), ([], []), ([7, 8], [7, 8]), ([9], [9]), ([10], [10]), ([6, 0, 1, 2, 3, 4, 5, 6], [6]), ([11, 12, 0, 1, 2, 3, 4, 5, 6, 7, 8, 9, 10, 11, 12], [11])])
def spec_l3Next.B9 : List Nat := [0, 0, 3, 7, 15, 0, 63, 0, 0, 384, 896, 1920, 127, 8191]
theorem spec_l3Next.tab9 : rtab .any (opsOf Try.f32 9) = spec_l3Next.T9 := by kernel_rfl
theorem spec_l3Next.bits9 : waitsOk spec_l3Next.T9.2 spec_l3Next.B9 = true := by kernel_rfl
def spec_l3Next.T14 : Bool × List (List Nat × List Nat) := (true, [([], []), ([], []), ([], []), ([1, 2], [1, 2]), ([3], [3]), ([4], [4]), ([], []), ([], []), ([], []), ([7, 8], [7, 8]), ([9], [9]), ([10], [10]), ([6, 11], [6, 11]), ([12], [12]), ([13], [13]), ([], []), ([14, 15], [14, 15]), ([0, 5, 0, 1, 2, 3, 4, 5, 6, 7, 8, 9, 10, 11, 12, 13, 14, 15, 16], [0, 5]), ([17, 0, 1, 2, 3, 4, 5, 6, 7, 8, 9, 10, 11, 12, 13, 14, 15, 16], [17]), ([18, 16, 0, 1, 2, 3, 4, 5, 6, 7, 8, 9, 10, 11, 12, 13, 14, 15, 16], [16, 18])])
def spec_l3Next.B14 : List Nat := [0, 0, 0, 6, 14, 30, 0, 0, 0, 384, 896, 1920, 4032, 8128, 16320, 0, 65472, 131071, 262143, 524287]
theorem spec_l3Next.tab14 : rtab .any (opsOf Try.f32 14) = spec_l3Next.T14 := by kernel_rfl
theorem spec_l3Next.bits14 : waitsOk spec_l3Next.T14.2 spec_l3Next.B14 = true := by kernel_rfl
def spec_l3Next.T19 : Bool × List (List Nat × List Nat) := (true, [([], []), ([], []), ([], []), ([1, 2], [1, 2]), ([3], [3]), ([4], [4]), ([], []), ([], []), ([], []), ([7, 8], [7, 8]), ([9], [9]), ([10], [10]), ([6, 11], [6, 11]), ([12], [12]), ([13], [13]), ([], []), ([14, 15], [14, 15]), ([0, 5, 0, 1, 2, 3, 4, 5, 6, 7, 8, 9, 10, 11, 12, 13, 14, 15, 16], [0, 5]), ([17, 0, 1, 2, 3, 4, 5, 6, 7, 8, 9, 10, 11, 12, 13, 14, 15, 16], [17]), ([18, 16, 16, 0, 1, 2, 3, 4, 5, 6, 7, 8, 9, 10, 11, 12, 13, 14, 15, 16], [16, 18])])
def spec_l3Next.B19 : List Nat := [0, 0, 0, 6, 14, 30, 0, 0, 0, 384, 896, 1920, 4032, 8128, 16320, 0, 65472, 131071, 262143, 524287]
theorem spec_l3Next.tab19 : rtab .any (opsOf Try.f32 19) = spec_l3Next.T19 := by kernel_rfl
theorem spec_l3Next.bits19 : waitsOk spec_l3Next.T19.2 spec_l3Next.B19 = true := by kernel_rfl
set_option maxHeartbeats 8000000 in
set_option maxRecDepth 100000 in
theorem spec_l3Next.calls (k : Nat) (a0_0 : Int) (a0_1 : Int) (a0_2 : Int) (a0_3 : Int) (A1 : Option Addr) (c1 : Nat) (l1 : List (S45)) (a2 : Int) (a3 : Bool) (r : List (S45)) (w : World) (hr1 : Kd.C k45 w A1 l1.length l1) (hc1 : l1.length ≤ c1) (h : spec_l3Next.f k a0_0 a0_1 a0_2 a0_3 l1 a2 a3 = some r) :
 Calls Try.prog 32 #[.agg #[.int .i64 a0_0, .int .i64 a0_1, .int .i64 a0_2, .int .i64 a0_3], .slice A1 l1.length c1, .int .i64 a2, .bool a3] w fun e w' => ∃ v0_ : Value, e = .returned (v0_) ∧ Kd.R k45 45 w' w.heap.size (fun _ => True) v0_ r ∧ Below w.heap.size w w' := by
 have hu28 := Try.underlying28
 have hu22 := Try.underlying22
 have hu45 := Try.underlying45
 have HR1 := Aside0.mk hr1
 have HC1 := Aside0.mk hc1
 clear hr1 hc1
 have HB := Aside0.mk (Below.refl w.heap.size w)
 have H : ((spec_l3Many.f a0_0 a0_1 a0_2 a0_3).bind fun t166 => (if 0 ≤ (wrap64 ((wrap64 (a2 + 1)) * t166)) then (if (wrap64 ((wrap64 (a2 + 1)) * t166) : Int).toNat ≤ 35184372088832 then (spec_l3Next.l0 k l1 a2 a3 (([] : List (S45))) (List.replicate (wrap64 ((wrap64 (a2 + 1)) * t166) : Int).toNat 0) 0 a0_0 a0_1 a0_2 a0_3) else (none)) else (none))) = some r := h
 clear h
 obtain ⟨y163, hy163⟩ : ∃ y_ : List (S45), y_ = (([] : List (S45))) := ⟨_, rfl⟩
 replace H : ((spec_l3Many.f a0_0 a0_1 a0_2 a0_3).bind fun t166 => (if 0 ≤ (wrap64 ((wrap64 (a2 + 1)) * t166)) then (if (wrap64 ((wrap64 (a2 + 1)) * t166) : Int).toNat ≤ 35184372088832 then (spec_l3Next.l0 k l1 a2 a3 y163 (List.replicate (wrap64 ((wrap64 (a2 + 1)) * t166) : Int).toNat 0) 0 a0_0 a0_1 a0_2 a0_3) else (none)) else (none))) = some r := by first | (rw [hy163]; with_reducible exact H) | (have H2_ := (Option.bind_some _ _).symm.trans H; rw [hy163]; with_reducible exact H2_) | (have H2_ := (Option.bind_some _ _).symm.trans H; with_reducible exact H2_) | with_reducible exact H | (rw [hy163]; exact H) | exact H
 have Ny163 := Aside0.mk hy163
 clear hy163
 replace H := Option.bind_eq_some_iff.mp H
 obtain ⟨t166, A50, H⟩ := H
 replace H : (if 0 ≤ (wrap64 ((wrap64 (a2 + 1)) * t166)) then (if (wrap64 ((wrap64 (a2 + 1)) * t166) : Int).toNat ≤ 35184372088832 then (spec_l3Next.l0 k l1 a2 a3 y163 (List.replicate (wrap64 ((wrap64 (a2 + 1)) * t166) : Int).toNat 0) 0 a0_0 a0_1 a0_2 a0_3) else (none)) else (none)) = some r := H
 have A5 := Aside0.mk A50
 clear A50
 obtain ⟨ji6, hji6⟩ : ∃ j_ : Int, (wrap64 ((wrap64 (a2 + 1)) * t166)) = j_ := ⟨_, rfl⟩
 replace H : (if 0 ≤ (ji6) then (if (ji6 : Int).toNat ≤ 35184372088832 then (spec_l3Next.l0 k l1 a2 a3 y163 (List.replicate (ji6 : Int).toNat 0) 0 a0_0 a0_1 a0_2 a0_3) else (none)) else (none)) = some r := by first | (rw [hji6] at H; exact H) | (simp only [hji6] at H ⊢; exact H)
 (try rw [hji6] at A5)
 have hji6w : (IntKind.i64.wrap ((wrap64 (a2 + 1)) * t166)) = ji6 := (i64_w _).trans hji6
 by_cases c7 : 0 ≤ (ji6)
 ·rw [if_pos c7] at H
  have c7b0 := eq_true c7
  have c7b1 : decide (0 ≤ (ji6)) = true := decide_eq_true c7
  clear c7
  by_cases c8 : (ji6 : Int).toNat ≤ 35184372088832
  ·rw [if_pos c8] at H
   have c8b0 := eq_true c8
   have c8b1 : decide ((ji6 : Int).toNat ≤ 35184372088832) = true := decide_eq_true c8
   clear c8
   obtain ⟨y167, hy167⟩ : ∃ y_ : List Int, y_ = (List.replicate (ji6 : Int).toNat 0) := ⟨_, rfl⟩
   replace H : (spec_l3Next.l0 k l1 a2 a3 y163 y167 0 a0_0 a0_1 a0_2 a0_3) = some r := by first | (rw [hy167]; with_reducible exact H) | (have H2_ := (Option.bind_some _ _).symm.trans H; rw [hy167]; with_reducible exact H2_) | (have H2_ := (Option.bind_some _ _).symm.trans H; with_reducible exact H2_) | with_reducible exact H | (rw [hy167]; exact H) | exact H
   have Ny167 := Aside0.mk hy167
   clear hy167
   have H' := Aside0.mk H
   clear H
   go_enter Try.func32, Try.ntmps32
   try go_wp2_with (first | ((with_reducible refine gate_dst (N := 4) rfl ?_); refine box_event ?hg (N := 4) ?hd (cs := #[.int .i64 a0_0, .int .i64 a0_1, .int .i64 a0_2, .int .i64 a0_3]) (t := 28) ?hr ?_; (case hd => rfl); (case hg => rfl); (case hr => first | (go_simp; done) | (go_simp; rfl)); intro gb162 hg w9 hbox hb; have n0_ := Aside0.mk (below_step HB.out hb); have n1_ := Aside0.mk (hbox); have n2_ := Aside0.mk ((by rw [hg]; exact (below_size HB.out) : w.heap.size ≤ gb162)); have n3_ := Aside0.mk ((by rw [hg]; exact (below_size HB.out) : w.heap.size ≤ gb162)); clear HB; have HB := n0_; have BK162 := n1_; have GW162 := n2_; have GE162 := n3_; clear n0_ n1_ n2_ n3_; clear hb hbox hg))
   have n0_ := Aside0.mk (blk_drew BK162.out)
   have n1_ := Aside0.mk (below_drew1 HB.out)
   clear BK162
   clear HB
   have BK162 := n0_
   have HB := n1_
   clear n0_ n1_
   refine start_ (n := 9) (S := fun w' => w'.cell? ⟨gb162, 0, none⟩ = some (.int .i64 a0_0) ∧ w'.cell? ⟨gb162, 1, none⟩ = some (.int .i64 a0_1) ∧ w'.cell? ⟨gb162, 2, none⟩ = some (.int .i64 a0_2) ∧ w'.cell? ⟨gb162, 3, none⟩ = some (.int .i64 a0_3)) (ds := []) #[false, false, false, false, false, false, false, false, false] (by kernel_rfl) rfl rfl ⟨(blk_cell BK162.out 0).trans rfl, (blk_cell BK162.out 1).trans rfl, (blk_cell BK162.out 2).trans rfl, (blk_cell BK162.out 3).trans rfl⟩ (fun hHeld => ?_); refine with_tabW spec_l3Next.tab1 spec_l3Next.bits1 (fun HT_ HW_ => ?_)
   generalize w9.drew = w10 at BK162 HB hHeld ⊢
   refine pure_ (i := 1) (N := some 19) (v := ?_) (a' := ?_) #[false, true, false, false, false, false, false, false, false] rfl rfl (any_of HT_.out (by kernel_rfl)) (fun _ _ _ h => h) (Or.inl ⟨by rfl, ?_⟩) ?_ ?_
   rotate_left
   ·intro w'
    go_simp
    with_reducible rfl
   rotate_left
   ·simp only [Act.put, q1, q2, q3, i64_w, i32_w]
    rfl
   refine pure_ (i := 2) (N := some 20) (v := ?_) (a' := ?_) #[false, true, true, false, false, false, false, false, false] rfl rfl (any_of HT_.out (by kernel_rfl)) (fun _ _ _ h => h) (Or.inl ⟨by rfl, ?_⟩) ?_ ?_
   rotate_left
   ·intro w'
    go_simp
    with_reducible rfl
   rotate_left
   ·simp only [Act.put, q1, q2, q3, i64_w, i32_w]
    rfl
   refine take_ (i := 3) (N := some 21) (v := ?_) (a' := ?_) #[false, true, true, true, false, false, false, false, false] rfl rfl (take_ofW HT_.out HW_.out (by kernel_rfl)) (fun _ _ _ h => h) (Or.inl ⟨by rfl, ?_⟩) hHeld ?_ ?_
   rotate_left
   ·rintro w' ⟨s0, s1, s2, s3⟩
    go_simp
    with_reducible rfl
   rotate_left
   ·simp only [Act.put, q1, q2, q3, i64_w, i32_w]
    rfl
   refine join_ (σ := Value × Value) 1 #[true, true, true, true, true, true, true, true, false] (fun s_ => [(18, s_.1), (22, .int .i64 t166), (24, s_.2), (23, .int .i64 ji6), (9, s_.1)]) (fun s_ w' => (w'.cell? ⟨gb162, 0, none⟩ = some (.int .i64 a0_0) ∧ w'.cell? ⟨gb162, 1, none⟩ = some (.int .i64 a0_1) ∧ w'.cell? ⟨gb162, 2, none⟩ = some (.int .i64 a0_2) ∧ w'.cell? ⟨gb162, 3, none⟩ = some (.int .i64 a0_3)) ∧ (Kd.R k45 45 w' w.heap.size (fun _ => True) s_.1 y163) ∧ (Kd.R (Kd.int .i64) 3 w' w.heap.size (fun _ => True) s_.2 y167) ∧ (w'.heap[gb162]? = some (.cells #[.int .i64 a0_0, .int .i64 a0_1, .int .i64 a0_2, .int .i64 a0_3] 28 (0, 0))) ∧ (Below w.heap.size w w')) ?_ ?_
   rotate_left
   ·intro hCont
    refine two_ (i := 0) (j := 4) (Ni := some 18) (Nj := some 22) #[true, true, true, true, false, false, false, false, false] #[false, true, true, true, true, false, false, false, false] rfl rfl rfl rfl (two_of HT_.out (by kernel_rfl)) (by decide) (by decide) (fun K hK => ?_) (fun K hK => ?_)
    ·skip
     refine Kd.R_lit_step k45 _ 45 ?hg (N := 18) ?hd (xs := ([] : List (S45))) (inner := []) (ok := fun _ => True) (okp := fun _ => True) ?hr ?hp (fun _ hk => hk) trivial (Below.refl _ _) (Nat.le_refl _) (by simp) ?_; (case hd => rfl); (case hg => rfl); (case hr => first | (go_simp; done) | (go_simp; rfl)); (case hp => exact (Reps.none _ _))
     intro v164 w11 ho12 hb hg_ hnew_
     clear hg_ hnew_
     (first | rw [← Ny163.out] at ho12 | (simp only [Int.reduceToNat] at ho12; rw [← Ny163.out] at ho12))
     have n0_ := Aside0.mk (Kd.R_lower ho12 (below_size HB.out))
     have n1_ := Aside0.mk (blk_below BK162.out hb)
     have n2_ := Aside0.mk (below_step HB.out hb)
     clear BK162
     clear HB
     have HO165 := n0_
     have BK162 := n1_
     have HB := n2_
     clear n0_ n1_ n2_
     clear hb ho12
     refine hK.out _ _ ⟨(blk_cell BK162.out 0).trans rfl, (blk_cell BK162.out 1).trans rfl, (blk_cell BK162.out 2).trans rfl, (blk_cell BK162.out 3).trans rfl⟩ (fun hHeld => ?_)
     clear hK K
     refine norm_ (a' := ?_) ?_ ?_
     rotate_left
     ·show Act.put _ (some 18) _ = _
      simp only [Act.put, q1, q2, q3, i64_w, i32_w]
      rfl
     refine one_ (i := 4) (N := some 22) #[true, true, true, true, true, false, false, false, false] rfl rfl (one_of HT_.out (by kernel_rfl)) (by decide) (fun K hK => ?_)
     refine goes_ Try.func21 (by kernel_rfl) rfl #[.agg #[.int .i64 a0_0, .int .i64 a0_1, .int .i64 a0_2, .int .i64 a0_3]] (by rfl) rfl rfl (by (try simp only [List.map_toArray, List.map_cons, List.map_nil]); first | done | rfl | (simp only [List.length_drop, List.length_take]; rfl)) ?_
     with_reducible refine (spec_l3Many.calls a0_0 a0_1 a0_2 a0_3 t166 _ A5.out).mono ?_
     rintro e w13 ⟨rfl, hb⟩
     refine ⟨_, rfl, ?_⟩
     have n0_ := Aside0.mk (Kd.R_below HO165.out hb)
     have n1_ := Aside0.mk (blk_below BK162.out hb)
     have n2_ := Aside0.mk (below_step HB.out hb)
     clear HO165
     clear BK162
     clear HB
     have HO165 := n0_
     have BK162 := n1_
     have HB := n2_
     clear n0_ n1_ n2_
     (try clear hb)
     (try clear hb2)
     (try clear hk)
     (try clear hi)
     refine hK.out _ _ ⟨(blk_cell BK162.out 0).trans rfl, (blk_cell BK162.out 1).trans rfl, (blk_cell BK162.out 2).trans rfl, (blk_cell BK162.out 3).trans rfl⟩ (fun hHeld => ?_)
     clear hK K
     refine norm_ (a' := ?_) ?_ ?_
     rotate_left
     ·show Act.put _ (some 22) _ = _
      simp only [Act.put, q1, q2, q3, i64_w, i32_w]
      rfl
     refine pure_ (i := 5) (N := some 23) (v := ?_) (a' := ?_) #[true, true, true, true, true, true, false, false, false] rfl rfl (any_of HT_.out (by kernel_rfl)) (fun _ _ _ h => h) (Or.inl ⟨by rfl, ?_⟩) ?_ ?_
     rotate_left
     ·intro w'
      go_simp
      with_reducible rfl
     rotate_left
     ·simp only [Act.put, q1, q2, q3, i64_w, i32_w]
      rfl
     refine pure_ (i := 7) (N := some 9) (v := ?_) (a' := ?_) #[true, true, true, true, true, true, false, true, false] rfl rfl (any_of HT_.out (by kernel_rfl)) (fun _ _ _ h => h) (Or.inl ⟨by rfl, ?_⟩) ?_ ?_
     rotate_left
     ·intro w'
      go_simp
      with_reducible rfl
     rotate_left
     ·simp only [Act.put, q1, q2, q3, i64_w, i32_w]
      rfl
     refine one_ (i := 6) (N := some 24) #[true, true, true, true, true, true, true, true, false] rfl rfl (one_of HT_.out (by kernel_rfl)) (by decide) (fun K hK => ?_)
     refine Kd.R_make_step (Kd.int .i64) _ 3 (by rfl) (N := 24) rfl 25 _ _ rfl ji6 rfl rfl Try.underlying25 (.int .i64 0) 8 info3 rfl (by decide) (by omega) 0 (ok := fun _ => True) (okp := fun _ => True) rfl (fun _ hk => hk) trivial (of_decide_eq_true (by first | (with_reducible assumption) | assumption)) (Nat.le_trans (Nat.mul_le_mul_right _ (of_decide_eq_true (by first | (with_reducible assumption) | assumption) : ji6.toNat ≤ 35184372088832)) (by omega)) (Below.refl _ _) (Nat.le_refl _) ?_
     intro v168 w14 ho15 hb hg_ hnew_
     clear hg_ hnew_
     (first | rw [← Ny167.out] at ho15 | (simp only [Int.reduceToNat] at ho15; rw [← Ny167.out] at ho15))
     have n0_ := Aside0.mk (Kd.R_below HO165.out hb)
     have n1_ := Aside0.mk (Kd.R_lower ho15 (below_size HB.out))
     have n2_ := Aside0.mk (blk_below BK162.out hb)
     have n3_ := Aside0.mk (below_step HB.out hb)
     clear HO165
     clear BK162
     clear HB
     have HO165 := n0_
     have HO169 := n1_
     have BK162 := n2_
     have HB := n3_
     clear n0_ n1_ n2_ n3_
     clear hb ho15
     refine hK.out _ _ ⟨(blk_cell BK162.out 0).trans rfl, (blk_cell BK162.out 1).trans rfl, (blk_cell BK162.out 2).trans rfl, (blk_cell BK162.out 3).trans rfl⟩ (fun hHeld => ?_)
     clear hK K
     refine norm_ (a' := ?_) ?_ ?_
     rotate_left
     ·show Act.put _ (some 24) _ = _
      simp only [Act.put, q1, q2, q3, i64_w, i32_w]
      rfl
     exact norm_ (by simp only [putAll, Act.put, q1, q2, q3]) (hCont (v164, v168) _ ⟨hHeld, HO165.out, HO169.out, BK162.out, HB.out⟩)
    ·skip
     refine goes_ Try.func21 (by kernel_rfl) rfl #[.agg #[.int .i64 a0_0, .int .i64 a0_1, .int .i64 a0_2, .int .i64 a0_3]] (by rfl) rfl rfl (by (try simp only [List.map_toArray, List.map_cons, List.map_nil]); first | done | rfl | (simp only [List.length_drop, List.length_take]; rfl)) ?_
     with_reducible refine (spec_l3Many.calls a0_0 a0_1 a0_2 a0_3 t166 _ A5.out).mono ?_
     rintro e w11 ⟨rfl, hb⟩
     refine ⟨_, rfl, ?_⟩
     have n0_ := Aside0.mk (blk_below BK162.out hb)
     have n1_ := Aside0.mk (below_step HB.out hb)
     clear BK162
     clear HB
     have BK162 := n0_
     have HB := n1_
     clear n0_ n1_
     (try clear hb)
     (try clear hb2)
     (try clear hk)
     (try clear hi)
     refine hK.out _ _ ⟨(blk_cell BK162.out 0).trans rfl, (blk_cell BK162.out 1).trans rfl, (blk_cell BK162.out 2).trans rfl, (blk_cell BK162.out 3).trans rfl⟩ (fun hHeld => ?_)
     clear hK K
     refine norm_ (a' := ?_) ?_ ?_
     rotate_left
     ·show Act.put _ (some 22) _ = _
      simp only [Act.put, q1, q2, q3, i64_w, i32_w]
      rfl
     refine pure_ (i := 5) (N := some 23) (v := ?_) (a' := ?_) #[false, true, true, true, true, true, false, false, false] rfl rfl (any_of HT_.out (by kernel_rfl)) (fun _ _ _ h => h) (Or.inl ⟨by rfl, ?_⟩) ?_ ?_
     rotate_left
     ·intro w'
      go_simp
      with_reducible rfl
     rotate_left
     ·simp only [Act.put, q1, q2, q3, i64_w, i32_w]
      rfl
     refine two_ (i := 0) (j := 6) (Ni := some 18) (Nj := some 24) #[true, true, true, true, true, true, false, false, false] #[false, true, true, true, true, true, true, false, false] rfl rfl rfl rfl (two_of HT_.out (by kernel_rfl)) (by decide) (by decide) (fun K hK => ?_) (fun K hK => ?_)
     ·skip
      refine Kd.R_lit_step k45 _ 45 ?hg (N := 18) ?hd (xs := ([] : List (S45))) (inner := []) (ok := fun _ => True) (okp := fun _ => True) ?hr ?hp (fun _ hk => hk) trivial (Below.refl _ _) (Nat.le_refl _) (by simp) ?_; (case hd => rfl); (case hg => rfl); (case hr => first | (go_simp; done) | (go_simp; rfl)); (case hp => exact (Reps.none _ _))
      intro v164 w12 ho13 hb hg_ hnew_
      clear hg_ hnew_
      (first | rw [← Ny163.out] at ho13 | (simp only [Int.reduceToNat] at ho13; rw [← Ny163.out] at ho13))
      have n0_ := Aside0.mk (Kd.R_lower ho13 (below_size HB.out))
      have n1_ := Aside0.mk (blk_below BK162.out hb)
      have n2_ := Aside0.mk (below_step HB.out hb)
      clear BK162
      clear HB
      have HO165 := n0_
      have BK162 := n1_
      have HB := n2_
      clear n0_ n1_ n2_
      clear hb ho13
      refine hK.out _ _ ⟨(blk_cell BK162.out 0).trans rfl, (blk_cell BK162.out 1).trans rfl, (blk_cell BK162.out 2).trans rfl, (blk_cell BK162.out 3).trans rfl⟩ (fun hHeld => ?_)
      clear hK K
      refine norm_ (a' := ?_) ?_ ?_
      rotate_left
      ·show Act.put _ (some 18) _ = _
       simp only [Act.put, q1, q2, q3, i64_w, i32_w]
       rfl
      refine pure_ (i := 7) (N := some 9) (v := ?_) (a' := ?_) #[true, true, true, true, true, true, false, true, false] rfl rfl (any_of HT_.out (by kernel_rfl)) (fun _ _ _ h => h) (Or.inl ⟨by rfl, ?_⟩) ?_ ?_
      rotate_left
      ·intro w'
       go_simp
       with_reducible rfl
      rotate_left
      ·simp only [Act.put, q1, q2, q3, i64_w, i32_w]
       rfl
      refine one_ (i := 6) (N := some 24) #[true, true, true, true, true, true, true, true, false] rfl rfl (one_of HT_.out (by kernel_rfl)) (by decide) (fun K hK => ?_)
      refine Kd.R_make_step (Kd.int .i64) _ 3 (by rfl) (N := 24) rfl 25 _ _ rfl ji6 rfl rfl Try.underlying25 (.int .i64 0) 8 info3 rfl (by decide) (by omega) 0 (ok := fun _ => True) (okp := fun _ => True) rfl (fun _ hk => hk) trivial (of_decide_eq_true (by first | (with_reducible assumption) | assumption)) (Nat.le_trans (Nat.mul_le_mul_right _ (of_decide_eq_true (by first | (with_reducible assumption) | assumption) : ji6.toNat ≤ 35184372088832)) (by omega)) (Below.refl _ _) (Nat.le_refl _) ?_
      intro v168 w14 ho15 hb hg_ hnew_
      clear hg_ hnew_
      (first | rw [← Ny167.out] at ho15 | (simp only [Int.reduceToNat] at ho15; rw [← Ny167.out] at ho15))
      have n0_ := Aside0.mk (Kd.R_below HO165.out hb)
      have n1_ := Aside0.mk (Kd.R_lower ho15 (below_size HB.out))
      have n2_ := Aside0.mk (blk_below BK162.out hb)
      have n3_ := Aside0.mk (below_step HB.out hb)
      clear HO165
      clear BK162
      clear HB
      have HO165 := n0_
      have HO169 := n1_
      have BK162 := n2_
      have HB := n3_
      clear n0_ n1_ n2_ n3_
      clear hb ho15
      refine hK.out _ _ ⟨(blk_cell BK162.out 0).trans rfl, (blk_cell BK162.out 1).trans rfl, (blk_cell BK162.out 2).trans rfl, (blk_cell BK162.out 3).trans rfl⟩ (fun hHeld => ?_)
      clear hK K
      refine norm_ (a' := ?_) ?_ ?_
      rotate_left
      ·show Act.put _ (some 24) _ = _
       simp only [Act.put, q1, q2, q3, i64_w, i32_w]
       rfl
      exact norm_ (by simp only [putAll, Act.put, q1, q2, q3]) (hCont (v164, v168) _ ⟨hHeld, HO165.out, HO169.out, BK162.out, HB.out⟩)
     ·skip
      refine Kd.R_make_step (Kd.int .i64) _ 3 (by rfl) (N := 24) rfl 25 _ _ rfl ji6 rfl rfl Try.underlying25 (.int .i64 0) 8 info3 rfl (by decide) (by omega) 0 (ok := fun _ => True) (okp := fun _ => True) rfl (fun _ hk => hk) trivial (of_decide_eq_true (by first | (with_reducible assumption) | assumption)) (Nat.le_trans (Nat.mul_le_mul_right _ (of_decide_eq_true (by first | (with_reducible assumption) | assumption) : ji6.toNat ≤ 35184372088832)) (by omega)) (Below.refl _ _) (Nat.le_refl _) ?_
      intro v168 w12 ho13 hb hg_ hnew_
      clear hg_ hnew_
      (first | rw [← Ny167.out] at ho13 | (simp only [Int.reduceToNat] at ho13; rw [← Ny167.out] at ho13))
      have n0_ := Aside0.mk (Kd.R_lower ho13 (below_size HB.out))
      have n1_ := Aside0.mk (blk_below BK162.out hb)
      have n2_ := Aside0.mk (below_step HB.out hb)
      clear BK162
      clear HB
      have HO169 := n0_
      have BK162 := n1_
      have HB := n2_
      clear n0_ n1_ n2_
      clear hb ho13
      refine hK.out _ _ ⟨(blk_cell BK162.out 0).trans rfl, (blk_cell BK162.out 1).trans rfl, (blk_cell BK162.out 2).trans rfl, (blk_cell BK162.out 3).trans rfl⟩ (fun hHeld => ?_)
      clear hK K
      refine norm_ (a' := ?_) ?_ ?_
      rotate_left
      ·show Act.put _ (some 24) _ = _
       simp only [Act.put, q1, q2, q3, i64_w, i32_w]
       rfl
      refine one_ (i := 0) (N := some 18) #[true, true, true, true, true, true, true, false, false] rfl rfl (one_of HT_.out (by kernel_rfl)) (by decide) (fun K hK => ?_)
      refine Kd.R_lit_step k45 _ 45 ?hg (N := 18) ?hd (xs := ([] : List (S45))) (inner := []) (ok := fun _ => True) (okp := fun _ => True) ?hr ?hp (fun _ hk => hk) trivial (Below.refl _ _) (Nat.le_refl _) (by simp) ?_; (case hd => rfl); (case hg => rfl); (case hr => first | (go_simp; done) | (go_simp; rfl)); (case hp => exact (Reps.none _ _))
      intro v164 w14 ho15 hb hg_ hnew_
      clear hg_ hnew_
      (first | rw [← Ny163.out] at ho15 | (simp only [Int.reduceToNat] at ho15; rw [← Ny163.out] at ho15))
      have n0_ := Aside0.mk (Kd.R_below HO169.out hb)
      have n1_ := Aside0.mk (Kd.R_lower ho15 (below_size HB.out))
      have n2_ := Aside0.mk (blk_below BK162.out hb)
      have n3_ := Aside0.mk (below_step HB.out hb)
      clear HO169
      clear BK162
      clear HB
      have HO169 := n0_
      have HO165 := n1_
      have BK162 := n2_
      have HB := n3_
      clear n0_ n1_ n2_ n3_
      clear hb ho15
      refine hK.out _ _ ⟨(blk_cell BK162.out 0).trans rfl, (blk_cell BK162.out 1).trans rfl, (blk_cell BK162.out 2).trans rfl, (blk_cell BK162.out 3).trans rfl⟩ (fun hHeld => ?_)
      clear hK K
      refine norm_ (a' := ?_) ?_ ?_
      rotate_left
      ·show Act.put _ (some 18) _ = _
       simp only [Act.put, q1, q2, q3, i64_w, i32_w]
       rfl
      refine pure_ (i := 7) (N := some 9) (v := ?_) (a' := ?_) #[true, true, true, true, true, true, true, true, false] rfl rfl (any_of HT_.out (by kernel_rfl)) (fun _ _ _ h => h) (Or.inl ⟨by rfl, ?_⟩) ?_ ?_
      rotate_left
      ·intro w'
       go_simp
       with_reducible rfl
      rotate_left
      ·simp only [Act.put, q1, q2, q3, i64_w, i32_w]
       rfl
      exact norm_ (by simp only [putAll, Act.put, q1, q2, q3]) (hCont (v164, v168) _ ⟨hHeld, HO165.out, HO169.out, BK162.out, HB.out⟩)
   rintro ⟨v164, v168⟩ w16 ⟨hS_, h0_, h1_, h2_, h3_⟩
   have n0_ : Aside0 (Kd.R k45 45 w16 w.heap.size (fun _ => True) v164 y163) := ⟨h0_⟩
   have n1_ : Aside0 (Kd.R (Kd.int .i64) 3 w16 w.heap.size (fun _ => True) v168 y167) := ⟨h1_⟩
   have n2_ : Aside0 (w16.heap[gb162]? = some (.cells #[.int .i64 a0_0, .int .i64 a0_1, .int .i64 a0_2, .int .i64 a0_3] 28 (0, 0))) := ⟨h2_⟩
   have n3_ : Aside0 (Below w.heap.size w w16) := ⟨h3_⟩
   clear BK162
   clear HB
   clear h0_ h1_ h2_ h3_
   have HO165 := n0_
   have HO169 := n1_
   have BK162 := n2_
   have HB := n3_
   clear n0_ n1_ n2_ n3_
   have hHeld : w16.cell? ⟨gb162, 0, none⟩ = some (.int .i64 a0_0) ∧ w16.cell? ⟨gb162, 1, none⟩ = some (.int .i64 a0_1) ∧ w16.cell? ⟨gb162, 2, none⟩ = some (.int .i64 a0_2) ∧ w16.cell? ⟨gb162, 3, none⟩ = some (.int .i64 a0_3) := hS_
   refine norm_ (a' := ?_) ?_ ?_
   rotate_left
   ·simp only [putAll, Act.put, q1, q2, q3]
    rfl
   refine pure_ (i := 8) (N := some 10) (v := ?_) (a' := ?_) #[true, true, true, true, true, true, true, true, true] rfl rfl (any_of HT_.out (by kernel_rfl)) (fun _ _ _ h => h) (Or.inl ⟨by rfl, ?_⟩) ?_ ?_
   rotate_left
   ·intro w'
    go_simp
    with_reducible rfl
   rotate_left
   ·simp only [Act.put, q1, q2, q3, i64_w, i32_w]
    rfl
   refine done_ (done_of HT_.out (by kernel_rfl)) ?_
   try go_wp2
   go_loopg [9, 11] k (fun kq v9 v11 w' => ∃ (x9_1 : List (S45)) (x10_1 : List Int) (x11_1 : Int), v11 = .int .i64 x11_1 ∧ Aside0 (spec_l3Next.l0 kq l1 a2 a3 x9_1 x10_1 x11_1 a0_0 a0_1 a0_2 a0_3 = some r) ∧ Aside0 (kq ≤ k) ∧ Aside0 (Kd.R k45 45 w' w.heap.size (fun _ => True) v9 x9_1) ∧ Aside0 (Kd.R (Kd.int .i64) 3 w' w.heap.size (fun _ => True) v168 x10_1) ∧ Aside0 (w'.heap[gb162]? = some (.cells #[.int .i64 a0_0, .int .i64 a0_1, .int .i64 a0_2, .int .i64 a0_3] 28 (0, 0))) ∧ Aside0 (Below w.heap.size w w'))
   case atStart => exact ⟨(y163), (y167), (0), (by first | rfl | (simp; done) | (simp [*]; done)), H', ⟨Nat.le_refl _⟩, ⟨by (with_reducible repeat (first | apply Kd.R_alloc | apply Kd.R_drewN | apply Kd.R_drew)); exact HO165.out⟩, ⟨by (with_reducible repeat (first | apply Kd.R_alloc | apply Kd.R_drewN | apply Kd.R_drew)); exact HO169.out⟩, ⟨by (with_reducible repeat (first | refine blk_drewN ?_ _ | refine blk_drew ?_ | refine blk_alloc ?_ _)); exact BK162.out⟩, ⟨by repeat (first | (with_reducible first | exact HB.out | apply below_alloc | apply pw_below_drewN | apply below_drew1 | refine below_set ?_ GE162.out) | exact HB.out)⟩⟩
   case round =>
    clear H'
    try clear c1
    try clear c2
    try clear p2
    try clear c3
    try clear p6
    try clear c7
    try clear c7b0
    try clear c7b1
    try clear c8
    try clear c8b0
    try clear c8b1
    obtain ⟨x9_1, x10_1, x11_1, rfl, HA, HK1, HO_9, HO_10, BK162, HB⟩ := hrel
    cases gk with
    | zero => exact absurd HA.out (by simp [spec_l3Next.l0])
    | succ k1 =>
     have H := HA.out
     clear HA
     simp only [spec_l3Next.l0] at H
     by_cases c17 : x11_1 < (l1.length : Int)
     ·rw [if_pos c17] at H
      have c17b0 : decide (x11_1 < (l1.length : Int)) = true := decide_eq_true c17
      clear c17
      have H' := Aside0.mk H
      clear H
      go_wp2
      go_loopg [9, 12] k1 (fun kq v9 v12 w' => ∃ (x9_2 : List (S45)) (x10_2 : List Int) (x12_2 : Int), v12 = .int .i64 x12_2 ∧ Aside0 (spec_l3Next.l1 kq l1 a2 a3 x9_2 x10_2 x11_1 x12_2 a0_0 a0_1 a0_2 a0_3 = some r) ∧ Aside0 (kq ≤ k1) ∧ Aside0 (Kd.R k45 45 w' w.heap.size (fun _ => True) v9 x9_2) ∧ Aside0 (Kd.R (Kd.int .i64) 3 w' w.heap.size (fun _ => True) v168 x10_2) ∧ Aside0 (w'.heap[gb162]? = some (.cells #[.int .i64 a0_0, .int .i64 a0_1, .int .i64 a0_2, .int .i64 a0_3] 28 (0, 0))) ∧ Aside0 (Below w.heap.size w w'))
      case atStart => exact ⟨(x9_1), (x10_1), (0), (by first | rfl | (simp; done) | (simp [*]; done)), H', ⟨Nat.le_refl _⟩, ⟨by (with_reducible repeat (first | apply Kd.R_alloc | apply Kd.R_drewN | apply Kd.R_drew)); exact HO_9.out⟩, ⟨by (with_reducible repeat (first | apply Kd.R_alloc | apply Kd.R_drewN | apply Kd.R_drew)); exact HO_10.out⟩, ⟨by (with_reducible repeat (first | refine blk_drewN ?_ _ | refine blk_drew ?_ | refine blk_alloc ?_ _)); exact BK162.out⟩, ⟨by repeat (first | (with_reducible first | exact HB.out | apply below_alloc | apply pw_below_drewN | apply below_drew1 | refine below_set ?_ GE162.out) | exact HB.out)⟩⟩
      case round =>
       clear H'
       try clear c1
       try clear c2
       try clear p2
       try clear c3
       try clear p6
       try clear c7
       try clear c7b0
       try clear c7b1
       try clear c8
       try clear c8b0
       try clear c8b1
       try clear c17
       try clear c17b0
       try clear p2
       try clear p6
       obtain ⟨x9_2, x10_2, x12_2, rfl, HA, HK2, HO_9, HO_10, BK162, HB⟩ := hrel
       cases gk with
       | zero => exact absurd HA.out (by simp [spec_l3Next.l1])
       | succ k2 =>
        have H := HA.out
        clear HA
        simp only [spec_l3Next.l1] at H
        by_cases c18 : x12_2 < 16
        ·rw [if_pos c18] at H
         have c18b0 : decide (x12_2 < 16) = true := decide_eq_true c18
         clear c18
         by_cases c19 : 0 ≤ x11_1
         ·rw [if_pos c19] at H
          have c19b0 : decide (0 ≤ x11_1) = true := decide_eq_true c19
          clear c19
          by_cases c20 : x11_1 < (l1.length : Int)
          ·rw [if_pos c20] at H
           have c20b0 : decide (x11_1 < (l1.length : Int)) = true := decide_eq_true c20
           clear c20
           replace H := Option.bind_eq_some_iff.mp H
           obtain ⟨t171, A210, H⟩ := H
           replace H : ((spec_l2Step.f k2 a0_0 a0_1 a0_2 a0_3 ((rd_T45 l1 x11_1).f1.f0) ((rd_T45 l1 x11_1).f1.f1) ((rd_T45 l1 x11_1).f1.f2) ((rd_T45 l1 x11_1).f1.f3) (Go.bits .and .i64 x12_2 t171)).bind fun bt172 => ((spec_l2Set.f k2 a0_0 a0_1 a0_2 a0_3 x12_2).bind fun t180 => (if t180 = true then (if bt172.2.2.2.2 = 0 then (spec_l3Next.j2 k2 l1 a2 a3 x9_2 x10_2 x11_1 x12_2 (wrap64 (((rd_T45 l1 x11_1).f0) + bt172.2.2.2.2)) ((rd_T45 l1 x11_1).f2) true a0_0 a0_1 a0_2 a0_3 bt172.1 bt172.2.1 bt172.2.2.1 bt172.2.2.2.1) else (spec_l3Next.j2 k2 l1 a2 a3 x9_2 x10_2 x11_1 x12_2 (wrap64 (((rd_T45 l1 x11_1).f0) + bt172.2.2.2.2)) ((rd_T45 l1 x11_1).f2) (decide ((wrap64 (((rd_T45 l1 x11_1).f0) + bt172.2.2.2.2)) > a2)) a0_0 a0_1 a0_2 a0_3 bt172.1 bt172.2.1 bt172.2.2.1 bt172.2.2.2.1)) else (spec_l3Next.j2 k2 l1 a2 a3 x9_2 x10_2 x11_1 x12_2 (wrap64 (((rd_T45 l1 x11_1).f0) + bt172.2.2.2.2)) ((rd_T45 l1 x11_1).f2) true a0_0 a0_1 a0_2 a0_3 bt172.1 bt172.2.1 bt172.2.2.1 bt172.2.2.2.1)))) = some r := H
           have A21 := Aside0.mk A210
           clear A210
           replace H := Option.bind_eq_some_iff.mp H
           obtain ⟨⟨t172, t173, t174, t175, t176⟩, A220, H⟩ := H
           replace H : ((spec_l2Set.f k2 a0_0 a0_1 a0_2 a0_3 x12_2).bind fun t180 => (if t180 = true then (if t176 = 0 then (spec_l3Next.j2 k2 l1 a2 a3 x9_2 x10_2 x11_1 x12_2 (wrap64 (((rd_T45 l1 x11_1).f0) + t176)) ((rd_T45 l1 x11_1).f2) true a0_0 a0_1 a0_2 a0_3 t172 t173 t174 t175) else (spec_l3Next.j2 k2 l1 a2 a3 x9_2 x10_2 x11_1 x12_2 (wrap64 (((rd_T45 l1 x11_1).f0) + t176)) ((rd_T45 l1 x11_1).f2) (decide ((wrap64 (((rd_T45 l1 x11_1).f0) + t176)) > a2)) a0_0 a0_1 a0_2 a0_3 t172 t173 t174 t175)) else (spec_l3Next.j2 k2 l1 a2 a3 x9_2 x10_2 x11_1 x12_2 (wrap64 (((rd_T45 l1 x11_1).f0) + t176)) ((rd_T45 l1 x11_1).f2) true a0_0 a0_1 a0_2 a0_3 t172 t173 t174 t175))) = some r := H
           have A22 := Aside0.mk A220
           clear A220
           have HC23 := Aside0.mk H
           clear H
           try go_wp2
           have n0_ := Aside0.mk (Kd.R_drew HO_9.out)
           have n1_ := Aside0.mk (Kd.R_drew HO_10.out)
           have n2_ := Aside0.mk (blk_drew BK162.out)
           have n3_ := Aside0.mk (below_drew1 HB.out)
           clear HO_9
           clear HO_10
           clear BK162
           clear HB
           have HO_9 := n0_
           have HO_10 := n1_
           have BK162 := n2_
           have HB := n3_
           clear n0_ n1_ n2_ n3_
           have p170 : 0 ≤ (x11_1 : Int) := of_decide_eq_true (by first | (with_reducible assumption) | assumption)
           have q170 : x11_1 < (l1.length : Int) := of_decide_eq_true (by first | (with_reducible assumption) | assumption)
           obtain ⟨ad170, e170, hx170_0, hx170_1, hx170_2, hx170_3, hx170_4, hx170_5⟩ := at_T45 HR1.out x11_1 p170 q170
           have hw170_5 := hx170_5
           have hw170_4 := hx170_4
           have hw170_3 := hx170_3
           have hw170_2 := hx170_2
           have hw170_1 := hx170_1
           have hw170_0 := hx170_0
           cases e170
           (try replace hx170_0 := (HB.out.cell (World.block_lt_of_cell? w _ hx170_0)).trans hx170_0)
           (try replace hx170_1 := (HB.out.cell (World.block_lt_of_cell? w _ hx170_1)).trans hx170_1)
           (try replace hx170_2 := (HB.out.cell (World.block_lt_of_cell? w _ hx170_2)).trans hx170_2)
           (try replace hx170_3 := (HB.out.cell (World.block_lt_of_cell? w _ hx170_3)).trans hx170_3)
           (try replace hx170_4 := (HB.out.cell (World.block_lt_of_cell? w _ hx170_4)).trans hx170_4)
           (try replace hx170_5 := (HB.out.cell (World.block_lt_of_cell? w _ hx170_5)).trans hx170_5)
           replace p170 := eq_true p170
           replace q170 := eq_true q170
           refine start_ (n := 17) (S := fun w' => w'.cell? ⟨gb162, 0, none⟩ = some (.int .i64 a0_0) ∧ w'.cell? ⟨gb162, 1, none⟩ = some (.int .i64 a0_1) ∧ w'.cell? ⟨gb162, 2, none⟩ = some (.int .i64 a0_2) ∧ w'.cell? ⟨gb162, 3, none⟩ = some (.int .i64 a0_3) ∧ w'.cell? (ad170.add ((x11_1).toNat * 6)) = some (.int .i64 ((rd_T45 l1 x11_1).f0)) ∧ w'.cell? ⟨(ad170.add ((x11_1).toNat * 6)).block, (ad170.add ((x11_1).toNat * 6)).off + 1, none⟩ = some (.int .i64 ((rd_T45 l1 x11_1).f1.f0)) ∧ w'.cell? ⟨(ad170.add ((x11_1).toNat * 6)).block, (ad170.add ((x11_1).toNat * 6)).off + 2, none⟩ = some (.int .i64 ((rd_T45 l1 x11_1).f1.f1)) ∧ w'.cell? ⟨(ad170.add ((x11_1).toNat * 6)).block, (ad170.add ((x11_1).toNat * 6)).off + 3, none⟩ = some (.int .i64 ((rd_T45 l1 x11_1).f1.f2)) ∧ w'.cell? ⟨(ad170.add ((x11_1).toNat * 6)).block, (ad170.add ((x11_1).toNat * 6)).off + 4, none⟩ = some (.int .i64 ((rd_T45 l1 x11_1).f1.f3)) ∧ w'.cell? ⟨(ad170.add ((x11_1).toNat * 6)).block, (ad170.add ((x11_1).toNat * 6)).off + 5, none⟩ = some (.int .i64 ((rd_T45 l1 x11_1).f2))) (ds := []) #[false, false, false, false, false, false, false, false, false, false, false, false, false, false, false, false, false] (by kernel_rfl) rfl rfl ⟨(blk_cell BK162.out 0).trans rfl, (blk_cell BK162.out 1).trans rfl, (blk_cell BK162.out 2).trans rfl, (blk_cell BK162.out 3).trans rfl, ((HB.out.cell (World.block_lt_of_cell? w _ hw170_0)).trans hw170_0), ((HB.out.cell (World.block_lt_of_cell? w _ hw170_1)).trans hw170_1), ((HB.out.cell (World.block_lt_of_cell? w _ hw170_2)).trans hw170_2), ((HB.out.cell (World.block_lt_of_cell? w _ hw170_3)).trans hw170_3), ((HB.out.cell (World.block_lt_of_cell? w _ hw170_4)).trans hw170_4), ((HB.out.cell (World.block_lt_of_cell? w _ hw170_5)).trans hw170_5)⟩ (fun hHeld => ?_); refine with_tabW spec_l3Next.tab8 spec_l3Next.bits8 (fun HT_ HW_ => ?_)
           generalize wr.drew = w24 at HO_9 HO_10 BK162 HB hx170_0 hx170_1 hx170_2 hx170_3 hx170_4 hx170_5 hHeld ⊢
           refine pure_ (i := 1) (N := some 37) (v := ?_) (a' := ?_) #[false, true, false, false, false, false, false, false, false, false, false, false, false, false, false, false, false] rfl rfl (any_of HT_.out (by kernel_rfl)) (fun _ _ _ h => h) (Or.inl ⟨by rfl, ?_⟩) ?_ ?_
           rotate_left
           ·intro w'
            go_simp
            with_reducible rfl
           rotate_left
           ·simp only [Act.put, q1, q2, q3, i64_w, i32_w]
            rfl
           refine pure_ (i := 2) (N := some 38) (v := ?_) (a' := ?_) #[false, true, true, false, false, false, false, false, false, false, false, false, false, false, false, false, false] rfl rfl (any_of HT_.out (by kernel_rfl)) (fun _ _ _ h => h) (Or.inl ⟨by rfl, ?_⟩) ?_ ?_
           rotate_left
           ·intro w'
            go_simp
            with_reducible rfl
           rotate_left
           ·simp only [Act.put, q1, q2, q3, i64_w, i32_w]
            rfl
           refine pure_ (i := 3) (N := some 39) (v := ?_) (a' := ?_) #[false, true, true, true, false, false, false, false, false, false, false, false, false, false, false, false, false] rfl rfl (any_of HT_.out (by kernel_rfl)) (fun _ _ _ h => h) (Or.inl ⟨by rfl, ?_⟩) ?_ ?_
           rotate_left
           ·intro w'
            go_simp
            with_reducible rfl
           rotate_left
           ·simp only [Act.put, q1, q2, q3, i64_w, i32_w]
            rfl
           refine pure_ (i := 4) (N := some 40) (v := ?_) (a' := ?_) #[false, true, true, true, true, false, false, false, false, false, false, false, false, false, false, false, false] rfl rfl (any_of HT_.out (by kernel_rfl)) (fun _ _ _ h => h) (Or.inl ⟨by rfl, ?_⟩) ?_ ?_
           rotate_left
           ·intro w'
            go_simp
            with_reducible rfl
           rotate_left
           ·simp only [Act.put, q1, q2, q3, i64_w, i32_w]
            rfl
           refine pure_ (i := 6) (N := some 42) (v := ?_) (a' := ?_) #[false, true, true, true, true, false, true, false, false, false, false, false, false, false, false, false, false] rfl rfl (any_of HT_.out (by kernel_rfl)) (fun _ _ _ h => h) (Or.inl ⟨by rfl, ?_⟩) ?_ ?_
           rotate_left
           ·intro w'
            go_simp
            with_reducible rfl
           rotate_left
           ·simp only [Act.put, q1, q2, q3, i64_w, i32_w]
            rfl
           refine take_ (i := 0) (N := some 36) (v := ?_) (a' := ?_) #[true, true, true, true, true, false, true, false, false, false, false, false, false, false, false, false, false] rfl rfl (take_ofW HT_.out HW_.out (by kernel_rfl)) (fun _ _ _ h => h) (Or.inl ⟨by rfl, ?_⟩) hHeld ?_ ?_
           rotate_left
           ·rintro w' ⟨s0, s1, s2, s3, s4, s5, s6, s7, s8, s9⟩
            go_simp
            with_reducible rfl
           rotate_left
           ·simp only [Act.put, q1, q2, q3, i64_w, i32_w]
            rfl
           refine take_ (i := 5) (N := some 41) (v := ?_) (a' := ?_) #[true, true, true, true, true, true, true, false, false, false, false, false, false, false, false, false, false] rfl rfl (take_ofW HT_.out HW_.out (by kernel_rfl)) (fun _ _ _ h => h) (Or.inl ⟨by rfl, ?_⟩) hHeld ?_ ?_
           rotate_left
           ·rintro w' ⟨s0, s1, s2, s3, s4, s5, s6, s7, s8, s9⟩
            go_simp
            with_reducible rfl
           rotate_left
           ·simp only [Act.put, q1, q2, q3, i64_w, i32_w]
            rfl
           refine take_ (i := 7) (N := some 43) (v := ?_) (a' := ?_) #[true, true, true, true, true, true, true, true, false, false, false, false, false, false, false, false, false] rfl rfl (take_ofW HT_.out HW_.out (by kernel_rfl)) (fun _ _ _ h => h) (Or.inl ⟨by rfl, ?_⟩) hHeld ?_ ?_
           rotate_left
           ·rintro w' ⟨s0, s1, s2, s3, s4, s5, s6, s7, s8, s9⟩
            go_simp
            with_reducible rfl
           rotate_left
           ·simp only [Act.put, q1, q2, q3, i64_w, i32_w]
            rfl
           refine join_ (σ := Nat) 2 #[true, true, true, true, true, true, true, true, true, true, true, true, true, true, true, false, false] (fun s_ => [(44, .int .i64 t171), (46, .tuple #[.agg #[.int .i64 t172, .int .i64 t173, .int .i64 t174, .int .i64 t175], .int .i64 t176]), (13, .pointer (some ⟨s_, 0, none⟩)), (45, .int .i64 (Go.bits .and .i64 x12_2 t171)), (35, .tuple #[.agg #[.int .i64 t172, .int .i64 t173, .int .i64 t174, .int .i64 t175], .int .i64 t176]), (47, .agg #[.int .i64 t172, .int .i64 t173, .int .i64 t174, .int .i64 t175]), (48, .int .i64 t176)]) (fun s_ w' => (w'.cell? ⟨gb162, 0, none⟩ = some (.int .i64 a0_0) ∧ w'.cell? ⟨gb162, 1, none⟩ = some (.int .i64 a0_1) ∧ w'.cell? ⟨gb162, 2, none⟩ = some (.int .i64 a0_2) ∧ w'.cell? ⟨gb162, 3, none⟩ = some (.int .i64 a0_3) ∧ w'.cell? (ad170.add ((x11_1).toNat * 6)) = some (.int .i64 ((rd_T45 l1 x11_1).f0)) ∧ w'.cell? ⟨(ad170.add ((x11_1).toNat * 6)).block, (ad170.add ((x11_1).toNat * 6)).off + 1, none⟩ = some (.int .i64 ((rd_T45 l1 x11_1).f1.f0)) ∧ w'.cell? ⟨(ad170.add ((x11_1).toNat * 6)).block, (ad170.add ((x11_1).toNat * 6)).off + 2, none⟩ = some (.int .i64 ((rd_T45 l1 x11_1).f1.f1)) ∧ w'.cell? ⟨(ad170.add ((x11_1).toNat * 6)).block, (ad170.add ((x11_1).toNat * 6)).off + 3, none⟩ = some (.int .i64 ((rd_T45 l1 x11_1).f1.f2)) ∧ w'.cell? ⟨(ad170.add ((x11_1).toNat * 6)).block, (ad170.add ((x11_1).toNat * 6)).off + 4, none⟩ = some (.int .i64 ((rd_T45 l1 x11_1).f1.f3)) ∧ w'.cell? ⟨(ad170.add ((x11_1).toNat * 6)).block, (ad170.add ((x11_1).toNat * 6)).off + 5, none⟩ = some (.int .i64 ((rd_T45 l1 x11_1).f2))) ∧ (Kd.R (Kd.int .i64) 3 w' w.heap.size (fun _ => True) v168 x10_2) ∧ (Kd.R k45 45 w' w.heap.size (fun _ => True) u9 x9_2) ∧ (w'.heap[gb162]? = some (.cells #[.int .i64 a0_0, .int .i64 a0_1, .int .i64 a0_2, .int .i64 a0_3] 28 (0, 0))) ∧ (w'.heap[s_]? = some (.cells #[.int .i64 0, .int .i64 0, .int .i64 0, .int .i64 0] 22 (0, 0))) ∧ (w.heap.size ≤ s_) ∧ (w.heap.size ≤ s_) ∧ (gb162 ≠ s_) ∧ (s_ ≠ gb162) ∧ (Below w.heap.size w w')) ?_ ?_
           rotate_left
           ·intro hCont
            refine two_ (i := 8) (j := 14) (Ni := some 44) (Nj := some 13) #[true, true, true, true, true, true, true, true, true, false, false, false, false, false, false, false, false] #[true, true, true, true, true, true, true, true, false, false, false, false, false, false, true, false, false] rfl rfl rfl rfl (two_of HT_.out (by kernel_rfl)) (by decide) (by decide) (fun K hK => ?_) (fun K hK => ?_)
            ·skip
             refine goes_ Try.func39 (by kernel_rfl) rfl #[.agg #[.int .i64 a0_0, .int .i64 a0_1, .int .i64 a0_2, .int .i64 a0_3]] (by rfl) rfl rfl (by (try simp only [List.map_toArray, List.map_cons, List.map_nil]); first | done | rfl | (simp only [List.length_drop, List.length_take]; rfl)) ?_
             with_reducible refine (spec_l2All.calls k2 a0_0 a0_1 a0_2 a0_3 t171 _ A21.out).mono ?_
             rintro e w25 ⟨rfl, hb⟩
             refine ⟨_, rfl, ?_⟩
             have n0_ := Aside0.mk (Kd.R_below HO_9.out hb)
             have n1_ := Aside0.mk (Kd.R_below HO_10.out hb)
             have n2_ := Aside0.mk (blk_below BK162.out hb)
             have n3_ := Aside0.mk (below_step HB.out hb)
             clear HO_9
             clear HO_10
             clear BK162
             clear HB
             have HO_9 := n0_
             have HO_10 := n1_
             have BK162 := n2_
             have HB := n3_
             clear n0_ n1_ n2_ n3_
             (try clear hb)
             (try clear hb2)
             (try clear hk)
             (try clear hi)
             refine hK.out _ _ ⟨(blk_cell BK162.out 0).trans rfl, (blk_cell BK162.out 1).trans rfl, (blk_cell BK162.out 2).trans rfl, (blk_cell BK162.out 3).trans rfl, ((HB.out.cell (World.block_lt_of_cell? w _ hw170_0)).trans hw170_0), ((HB.out.cell (World.block_lt_of_cell? w _ hw170_1)).trans hw170_1), ((HB.out.cell (World.block_lt_of_cell? w _ hw170_2)).trans hw170_2), ((HB.out.cell (World.block_lt_of_cell? w _ hw170_3)).trans hw170_3), ((HB.out.cell (World.block_lt_of_cell? w _ hw170_4)).trans hw170_4), ((HB.out.cell (World.block_lt_of_cell? w _ hw170_5)).trans hw170_5)⟩ (fun hHeld => ?_)
             clear hK K
             refine norm_ (a' := ?_) ?_ ?_
             rotate_left
             ·show Act.put _ (some 44) _ = _
              simp only [Act.put, q1, q2, q3, i64_w, i32_w]
              rfl
             refine pure_ (i := 9) (N := some 45) (v := ?_) (a' := ?_) #[true, true, true, true, true, true, true, true, true, true, false, false, false, false, false, false, false] rfl rfl (any_of HT_.out (by kernel_rfl)) (fun _ _ _ h => h) (Or.inl ⟨by rfl, ?_⟩) ?_ ?_
             rotate_left
             ·intro w'
              go_simp
              with_reducible rfl
             rotate_left
             ·simp only [Act.put, q1, q2, q3, i64_w, i32_w]
              rfl
             refine two_ (i := 10) (j := 14) (Ni := some 46) (Nj := some 13) #[true, true, true, true, true, true, true, true, true, true, true, false, false, false, false, false, false] #[true, true, true, true, true, true, true, true, true, true, false, false, false, false, true, false, false] rfl rfl rfl rfl (two_of HT_.out (by kernel_rfl)) (by decide) (by decide) (fun K hK => ?_) (fun K hK => ?_)
             ·skip
              refine goes_ Try.func38 (by kernel_rfl) rfl #[.agg #[.int .i64 a0_0, .int .i64 a0_1, .int .i64 a0_2, .int .i64 a0_3], .agg #[.int .i64 ((rd_T45 l1 x11_1).f1.f0), .int .i64 ((rd_T45 l1 x11_1).f1.f1), .int .i64 ((rd_T45 l1 x11_1).f1.f2), .int .i64 ((rd_T45 l1 x11_1).f1.f3)], .int .i64 (Go.bits .and .i64 x12_2 t171)] (by rfl) rfl rfl (by (try simp only [List.map_toArray, List.map_cons, List.map_nil]); first | done | rfl | (simp only [List.length_drop, List.length_take]; rfl)) ?_
              with_reducible refine (spec_l2Step.calls k2 a0_0 a0_1 a0_2 a0_3 ((rd_T45 l1 x11_1).f1.f0) ((rd_T45 l1 x11_1).f1.f1) ((rd_T45 l1 x11_1).f1.f2) ((rd_T45 l1 x11_1).f1.f3) (Go.bits .and .i64 x12_2 t171) t172 t173 t174 t175 t176 _ A22.out).mono ?_
              rintro e w26 ⟨rfl, hb⟩
              refine ⟨_, rfl, ?_⟩
              have n0_ := Aside0.mk (Kd.R_below HO_9.out hb)
              have n1_ := Aside0.mk (Kd.R_below HO_10.out hb)
              have n2_ := Aside0.mk (blk_below BK162.out hb)
              have n3_ := Aside0.mk (below_step HB.out hb)
              clear HO_9
              clear HO_10
              clear BK162
              clear HB
              have HO_9 := n0_
              have HO_10 := n1_
              have BK162 := n2_
              have HB := n3_
              clear n0_ n1_ n2_ n3_
              (try clear hb)
              (try clear hb2)
              (try clear hk)
              (try clear hi)
              refine hK.out _ _ ⟨(blk_cell BK162.out 0).trans rfl, (blk_cell BK162.out 1).trans rfl, (blk_cell BK162.out 2).trans rfl, (blk_cell BK162.out 3).trans rfl, ((HB.out.cell (World.block_lt_of_cell? w _ hw170_0)).trans hw170_0), ((HB.out.cell (World.block_lt_of_cell? w _ hw170_1)).trans hw170_1), ((HB.out.cell (World.block_lt_of_cell? w _ hw170_2)).trans hw170_2), ((HB.out.cell (World.block_lt_of_cell? w _ hw170_3)).trans hw170_3), ((HB.out.cell (World.block_lt_of_cell? w _ hw170_4)).trans hw170_4), ((HB.out.cell (World.block_lt_of_cell? w _ hw170_5)).trans hw170_5)⟩ (fun hHeld => ?_)
              clear hK K
              refine norm_ (a' := ?_) ?_ ?_
              rotate_left
              ·show Act.put _ (some 46) _ = _
               simp only [Act.put, q1, q2, q3, i64_w, i32_w]
               rfl
              refine pure_ (i := 11) (N := some 35) (v := ?_) (a' := ?_) #[true, true, true, true, true, true, true, true, true, true, true, true, false, false, false, false, false] rfl rfl (any_of HT_.out (by kernel_rfl)) (fun _ _ _ h => h) (Or.inl ⟨by rfl, ?_⟩) ?_ ?_
              rotate_left
              ·intro w'
               go_simp
               with_reducible rfl
              rotate_left
              ·simp only [Act.put, q1, q2, q3, i64_w, i32_w]
               rfl
              refine pure_ (i := 12) (N := some 47) (v := ?_) (a' := ?_) #[true, true, true, true, true, true, true, true, true, true, true, true, true, false, false, false, false] rfl rfl (any_of HT_.out (by kernel_rfl)) (fun _ _ _ h => h) (Or.inl ⟨by rfl, ?_⟩) ?_ ?_
              rotate_left
              ·intro w'
               go_simp
               with_reducible rfl
              rotate_left
              ·simp only [Act.put, q1, q2, q3, i64_w, i32_w]
               rfl
              refine pure_ (i := 13) (N := some 48) (v := ?_) (a' := ?_) #[true, true, true, true, true, true, true, true, true, true, true, true, true, true, false, false, false] rfl rfl (any_of HT_.out (by kernel_rfl)) (fun _ _ _ h => h) (Or.inl ⟨by rfl, ?_⟩) ?_ ?_
              rotate_left
              ·intro w'
               go_simp
               with_reducible rfl
              rotate_left
              ·simp only [Act.put, q1, q2, q3, i64_w, i32_w]
               rfl
              refine one_ (i := 14) (N := some 13) #[true, true, true, true, true, true, true, true, true, true, true, true, true, true, true, false, false] rfl rfl (one_of HT_.out (by kernel_rfl)) (by decide) (fun K hK => ?_)
              refine box_step ?hg (N := 13) ?hd (cs := #[.int .i64 0, .int .i64 0, .int .i64 0, .int .i64 0]) (t := 22) ?hr ?_; (case hd => rfl); (case hg => rfl); (case hr => first | (go_simp; done) | (go_simp; rfl))
              intro gb177 hg w27 hbox hb
              have n0_ := Aside0.mk (Kd.R_below HO_9.out hb)
              have n1_ := Aside0.mk (Kd.R_below HO_10.out hb)
              have n2_ := Aside0.mk (blk_below BK162.out hb)
              have n3_ := Aside0.mk (below_step HB.out hb)
              have n4_ := Aside0.mk (hbox)
              have n5_ := Aside0.mk ((by rw [hg]; exact (below_size HB.out) : w.heap.size ≤ gb177))
              have n6_ := Aside0.mk ((by rw [hg]; exact (below_size HB.out) : w.heap.size ≤ gb177))
              have n7_ := Aside0.mk ((by rw [hg]; exact Nat.ne_of_lt (blk_lt BK162.out) : gb162 ≠ gb177))
              have n8_ := Aside0.mk ((by rw [hg]; exact Nat.ne_of_gt (blk_lt BK162.out) : gb177 ≠ gb162))
              clear HO_9
              clear HO_10
              clear BK162
              clear HB
              have HO_9 := n0_
              have HO_10 := n1_
              have BK162 := n2_
              have HB := n3_
              have BK177 := n4_
              have GW177 := n5_
              have GE177 := n6_
              have NB162_177 := n7_
              have NB177_162 := n8_
              clear n0_ n1_ n2_ n3_ n4_ n5_ n6_ n7_ n8_
              clear hb hbox hg
              refine hK.out _ _ ⟨(blk_cell BK162.out 0).trans rfl, (blk_cell BK162.out 1).trans rfl, (blk_cell BK162.out 2).trans rfl, (blk_cell BK162.out 3).trans rfl, ((HB.out.cell (World.block_lt_of_cell? w _ hw170_0)).trans hw170_0), ((HB.out.cell (World.block_lt_of_cell? w _ hw170_1)).trans hw170_1), ((HB.out.cell (World.block_lt_of_cell? w _ hw170_2)).trans hw170_2), ((HB.out.cell (World.block_lt_of_cell? w _ hw170_3)).trans hw170_3), ((HB.out.cell (World.block_lt_of_cell? w _ hw170_4)).trans hw170_4), ((HB.out.cell (World.block_lt_of_cell? w _ hw170_5)).trans hw170_5)⟩ (fun hHeld => ?_)
              clear hK K
              refine norm_ (a' := ?_) ?_ ?_
              rotate_left
              ·show Act.put _ (some 13) _ = _
               simp only [Act.put, q1, q2, q3, i64_w, i32_w]
               rfl
              exact norm_ (by simp only [putAll, Act.put, q1, q2, q3]) (hCont (gb177) _ ⟨hHeld, HO_10.out, HO_9.out, BK162.out, BK177.out, GW177.out, GE177.out, NB162_177.out, NB177_162.out, HB.out⟩)
             ·skip
              refine box_step ?hg (N := 13) ?hd (cs := #[.int .i64 0, .int .i64 0, .int .i64 0, .int .i64 0]) (t := 22) ?hr ?_; (case hd => rfl); (case hg => rfl); (case hr => first | (go_simp; done) | (go_simp; rfl))
              intro gb177 hg w26 hbox hb
              have n0_ := Aside0.mk (Kd.R_below HO_9.out hb)
              have n1_ := Aside0.mk (Kd.R_below HO_10.out hb)
              have n2_ := Aside0.mk (blk_below BK162.out hb)
              have n3_ := Aside0.mk (below_step HB.out hb)
              have n4_ := Aside0.mk (hbox)
              have n5_ := Aside0.mk ((by rw [hg]; exact (below_size HB.out) : w.heap.size ≤ gb177))
              have n6_ := Aside0.mk ((by rw [hg]; exact (below_size HB.out) : w.heap.size ≤ gb177))
              have n7_ := Aside0.mk ((by rw [hg]; exact Nat.ne_of_lt (blk_lt BK162.out) : gb162 ≠ gb177))
              have n8_ := Aside0.mk ((by rw [hg]; exact Nat.ne_of_gt (blk_lt BK162.out) : gb177 ≠ gb162))
              clear HO_9
              clear HO_10
              clear BK162
              clear HB
              have HO_9 := n0_
              have HO_10 := n1_
              have BK162 := n2_
              have HB := n3_
              have BK177 := n4_
              have GW177 := n5_
              have GE177 := n6_
              have NB162_177 := n7_
              have NB177_162 := n8_
              clear n0_ n1_ n2_ n3_ n4_ n5_ n6_ n7_ n8_
              clear hb hbox hg
              refine hK.out _ _ ⟨(blk_cell BK162.out 0).trans rfl, (blk_cell BK162.out 1).trans rfl, (blk_cell BK162.out 2).trans rfl, (blk_cell BK162.out 3).trans rfl, ((HB.out.cell (World.block_lt_of_cell? w _ hw170_0)).trans hw170_0), ((HB.out.cell (World.block_lt_of_cell? w _ hw170_1)).trans hw170_1), ((HB.out.cell (World.block_lt_of_cell? w _ hw170_2)).trans hw170_2), ((HB.out.cell (World.block_lt_of_cell? w _ hw170_3)).trans hw170_3), ((HB.out.cell (World.block_lt_of_cell? w _ hw170_4)).trans hw170_4), ((HB.out.cell (World.block_lt_of_cell? w _ hw170_5)).trans hw170_5)⟩ (fun hHeld => ?_)
              clear hK K
              refine norm_ (a' := ?_) ?_ ?_
              rotate_left
              ·show Act.put _ (some 13) _ = _
               simp only [Act.put, q1, q2, q3, i64_w, i32_w]
               rfl
              refine one_ (i := 10) (N := some 46) #[true, true, true, true, true, true, true, true, true, true, true, false, false, false, true, false, false] rfl rfl (one_of HT_.out (by kernel_rfl)) (by decide) (fun K hK => ?_)
              refine goes_ Try.func38 (by kernel_rfl) rfl #[.agg #[.int .i64 a0_0, .int .i64 a0_1, .int .i64 a0_2, .int .i64 a0_3], .agg #[.int .i64 ((rd_T45 l1 x11_1).f1.f0), .int .i64 ((rd_T45 l1 x11_1).f1.f1), .int .i64 ((rd_T45 l1 x11_1).f1.f2), .int .i64 ((rd_T45 l1 x11_1).f1.f3)], .int .i64 (Go.bits .and .i64 x12_2 t171)] (by rfl) rfl rfl (by (try simp only [List.map_toArray, List.map_cons, List.map_nil]); first | done | rfl | (simp only [List.length_drop, List.length_take]; rfl)) ?_
              with_reducible refine (spec_l2Step.calls k2 a0_0 a0_1 a0_2 a0_3 ((rd_T45 l1 x11_1).f1.f0) ((rd_T45 l1 x11_1).f1.f1) ((rd_T45 l1 x11_1).f1.f2) ((rd_T45 l1 x11_1).f1.f3) (Go.bits .and .i64 x12_2 t171) t172 t173 t174 t175 t176 _ A22.out).mono ?_
              rintro e w27 ⟨rfl, hb⟩
              refine ⟨_, rfl, ?_⟩
              have n0_ := Aside0.mk (Kd.R_below HO_9.out hb)
              have n1_ := Aside0.mk (Kd.R_below HO_10.out hb)
              have n2_ := Aside0.mk (blk_below BK162.out hb)
              have n3_ := Aside0.mk (blk_below BK177.out hb)
              have n4_ := Aside0.mk (below_step HB.out hb)
              clear HO_9
              clear HO_10
              clear BK162
              clear BK177
              clear HB
              have HO_9 := n0_
              have HO_10 := n1_
              have BK162 := n2_
              have BK177 := n3_
              have HB := n4_
              clear n0_ n1_ n2_ n3_ n4_
              (try clear hb)
              (try clear hb2)
              (try clear hk)
              (try clear hi)
              refine hK.out _ _ ⟨(blk_cell BK162.out 0).trans rfl, (blk_cell BK162.out 1).trans rfl, (blk_cell BK162.out 2).trans rfl, (blk_cell BK162.out 3).trans rfl, ((HB.out.cell (World.block_lt_of_cell? w _ hw170_0)).trans hw170_0), ((HB.out.cell (World.block_lt_of_cell? w _ hw170_1)).trans hw170_1), ((HB.out.cell (World.block_lt_of_cell? w _ hw170_2)).trans hw170_2), ((HB.out.cell (World.block_lt_of_cell? w _ hw170_3)).trans hw170_3), ((HB.out.cell (World.block_lt_of_cell? w _ hw170_4)).trans hw170_4), ((HB.out.cell (World.block_lt_of_cell? w _ hw170_5)).trans hw170_5)⟩ (fun hHeld => ?_)
              clear hK K
              refine norm_ (a' := ?_) ?_ ?_
              rotate_left
              ·show Act.put _ (some 46) _ = _
               simp only [Act.put, q1, q2, q3, i64_w, i32_w]
               rfl
              refine pure_ (i := 11) (N := some 35) (v := ?_) (a' := ?_) #[true, true, true, true, true, true, true, true, true, true, true, true, false, false, true, false, false] rfl rfl (any_of HT_.out (by kernel_rfl)) (fun _ _ _ h => h) (Or.inl ⟨by rfl, ?_⟩) ?_ ?_
              rotate_left
              ·intro w'
               go_simp
               with_reducible rfl
              rotate_left
              ·simp only [Act.put, q1, q2, q3, i64_w, i32_w]
               rfl
              refine pure_ (i := 12) (N := some 47) (v := ?_) (a' := ?_) #[true, true, true, true, true, true, true, true, true, true, true, true, true, false, true, false, false] rfl rfl (any_of HT_.out (by kernel_rfl)) (fun _ _ _ h => h) (Or.inl ⟨by rfl, ?_⟩) ?_ ?_
              rotate_left
              ·intro w'
               go_simp
               with_reducible rfl
              rotate_left
              ·simp only [Act.put, q1, q2, q3, i64_w, i32_w]
               rfl
              refine pure_ (i := 13) (N := some 48) (v := ?_) (a' := ?_) #[true, true, true, true, true, true, true, true, true, true, true, true, true, true, true, false, false] rfl rfl (any_of HT_.out (by kernel_rfl)) (fun _ _ _ h => h) (Or.inl ⟨by rfl, ?_⟩) ?_ ?_
              rotate_left
              ·intro w'
               go_simp
               with_reducible rfl
              rotate_left
              ·simp only [Act.put, q1, q2, q3, i64_w, i32_w]
               rfl
              exact norm_ (by simp only [putAll, Act.put, q1, q2, q3]) (hCont (gb177) _ ⟨hHeld, HO_10.out, HO_9.out, BK162.out, BK177.out, GW177.out, GE177.out, NB162_177.out, NB177_162.out, HB.out⟩)
            ·skip
             refine box_step ?hg (N := 13) ?hd (cs := #[.int .i64 0, .int .i64 0, .int .i64 0, .int .i64 0]) (t := 22) ?hr ?_; (case hd => rfl); (case hg => rfl); (case hr => first | (go_simp; done) | (go_simp; rfl))
             intro gb177 hg w25 hbox hb
             have n0_ := Aside0.mk (Kd.R_below HO_9.out hb)
             have n1_ := Aside0.mk (Kd.R_below HO_10.out hb)
             have n2_ := Aside0.mk (blk_below BK162.out hb)
             have n3_ := Aside0.mk (below_step HB.out hb)
             have n4_ := Aside0.mk (hbox)
             have n5_ := Aside0.mk ((by rw [hg]; exact (below_size HB.out) : w.heap.size ≤ gb177))
             have n6_ := Aside0.mk ((by rw [hg]; exact (below_size HB.out) : w.heap.size ≤ gb177))
             have n7_ := Aside0.mk ((by rw [hg]; exact Nat.ne_of_lt (blk_lt BK162.out) : gb162 ≠ gb177))
             have n8_ := Aside0.mk ((by rw [hg]; exact Nat.ne_of_gt (blk_lt BK162.out) : gb177 ≠ gb162))
             clear HO_9
             clear HO_10
             clear BK162
             clear HB
             have HO_9 := n0_
             have HO_10 := n1_
             have BK162 := n2_
             have HB := n3_
             have BK177 := n4_
             have GW177 := n5_
             have GE177 := n6_
             have NB162_177 := n7_
             have NB177_162 := n8_
             clear n0_ n1_ n2_ n3_ n4_ n5_ n6_ n7_ n8_
             clear hb hbox hg
             refine hK.out _ _ ⟨(blk_cell BK162.out 0).trans rfl, (blk_cell BK162.out 1).trans rfl, (blk_cell BK162.out 2).trans rfl, (blk_cell BK162.out 3).trans rfl, ((HB.out.cell (World.block_lt_of_cell? w _ hw170_0)).trans hw170_0), ((HB.out.cell (World.block_lt_of_cell? w _ hw170_1)).trans hw170_1), ((HB.out.cell (World.block_lt_of_cell? w _ hw170_2)).trans hw170_2), ((HB.out.cell (World.block_lt_of_cell? w _ hw170_3)).trans hw170_3), ((HB.out.cell (World.block_lt_of_cell? w _ hw170_4)).trans hw170_4), ((HB.out.cell (World.block_lt_of_cell? w _ hw170_5)).trans hw170_5)⟩ (fun hHeld => ?_)
             clear hK K
             refine norm_ (a' := ?_) ?_ ?_
             rotate_left
             ·show Act.put _ (some 13) _ = _
              simp only [Act.put, q1, q2, q3, i64_w, i32_w]
              rfl
             refine one_ (i := 8) (N := some 44) #[true, true, true, true, true, true, true, true, true, false, false, false, false, false, true, false, false] rfl rfl (one_of HT_.out (by kernel_rfl)) (by decide) (fun K hK => ?_)
             refine goes_ Try.func39 (by kernel_rfl) rfl #[.agg #[.int .i64 a0_0, .int .i64 a0_1, .int .i64 a0_2, .int .i64 a0_3]] (by rfl) rfl rfl (by (try simp only [List.map_toArray, List.map_cons, List.map_nil]); first | done | rfl | (simp only [List.length_drop, List.length_take]; rfl)) ?_
             with_reducible refine (spec_l2All.calls k2 a0_0 a0_1 a0_2 a0_3 t171 _ A21.out).mono ?_
             rintro e w26 ⟨rfl, hb⟩
             refine ⟨_, rfl, ?_⟩
             have n0_ := Aside0.mk (Kd.R_below HO_9.out hb)
             have n1_ := Aside0.mk (Kd.R_below HO_10.out hb)
             have n2_ := Aside0.mk (blk_below BK162.out hb)
             have n3_ := Aside0.mk (blk_below BK177.out hb)
             have n4_ := Aside0.mk (below_step HB.out hb)
             clear HO_9
             clear HO_10
             clear BK162
             clear BK177
             clear HB
             have HO_9 := n0_
             have HO_10 := n1_
             have BK162 := n2_
             have BK177 := n3_
             have HB := n4_
             clear n0_ n1_ n2_ n3_ n4_
             (try clear hb)
             (try clear hb2)
             (try clear hk)
             (try clear hi)
             refine hK.out _ _ ⟨(blk_cell BK162.out 0).trans rfl, (blk_cell BK162.out 1).trans rfl, (blk_cell BK162.out 2).trans rfl, (blk_cell BK162.out 3).trans rfl, ((HB.out.cell (World.block_lt_of_cell? w _ hw170_0)).trans hw170_0), ((HB.out.cell (World.block_lt_of_cell? w _ hw170_1)).trans hw170_1), ((HB.out.cell (World.block_lt_of_cell? w _ hw170_2)).trans hw170_2), ((HB.out.cell (World.block_lt_of_cell? w _ hw170_3)).trans hw170_3), ((HB.out.cell (World.block_lt_of_cell? w _ hw170_4)).trans hw170_4), ((HB.out.cell (World.block_lt_of_cell? w _ hw170_5)).trans hw170_5)⟩ (fun hHeld => ?_)
             clear hK K
             refine norm_ (a' := ?_) ?_ ?_
             rotate_left
             ·show Act.put _ (some 44) _ = _
              simp only [Act.put, q1, q2, q3, i64_w, i32_w]
              rfl
             refine pure_ (i := 9) (N := some 45) (v := ?_) (a' := ?_) #[true, true, true, true, true, true, true, true, true, true, false, false, false, false, true, false, false] rfl rfl (any_of HT_.out (by kernel_rfl)) (fun _ _ _ h => h) (Or.inl ⟨by rfl, ?_⟩) ?_ ?_
             rotate_left
             ·intro w'
              go_simp
              with_reducible rfl
             rotate_left
             ·simp only [Act.put, q1, q2, q3, i64_w, i32_w]
              rfl
             refine one_ (i := 10) (N := some 46) #[true, true, true, true, true, true, true, true, true, true, true, false, false, false, true, false, false] rfl rfl (one_of HT_.out (by kernel_rfl)) (by decide) (fun K hK => ?_)
             refine goes_ Try.func38 (by kernel_rfl) rfl #[.agg #[.int .i64 a0_0, .int .i64 a0_1, .int .i64 a0_2, .int .i64 a0_3], .agg #[.int .i64 ((rd_T45 l1 x11_1).f1.f0), .int .i64 ((rd_T45 l1 x11_1).f1.f1), .int .i64 ((rd_T45 l1 x11_1).f1.f2), .int .i64 ((rd_T45 l1 x11_1).f1.f3)], .int .i64 (Go.bits .and .i64 x12_2 t171)] (by rfl) rfl rfl (by (try simp only [List.map_toArray, List.map_cons, List.map_nil]); first | done | rfl | (simp only [List.length_drop, List.length_take]; rfl)) ?_
             with_reducible refine (spec_l2Step.calls k2 a0_0 a0_1 a0_2 a0_3 ((rd_T45 l1 x11_1).f1.f0) ((rd_T45 l1 x11_1).f1.f1) ((rd_T45 l1 x11_1).f1.f2) ((rd_T45 l1 x11_1).f1.f3) (Go.bits .and .i64 x12_2 t171) t172 t173 t174 t175 t176 _ A22.out).mono ?_
             rintro e w27 ⟨rfl, hb⟩
             refine ⟨_, rfl, ?_⟩
             have n0_ := Aside0.mk (Kd.R_below HO_9.out hb)
             have n1_ := Aside0.mk (Kd.R_below HO_10.out hb)
             have n2_ := Aside0.mk (blk_below BK162.out hb)
             have n3_ := Aside0.mk (blk_below BK177.out hb)
             have n4_ := Aside0.mk (below_step HB.out hb)
             clear HO_9
             clear HO_10
             clear BK162
             clear BK177
             clear HB
             have HO_9 := n0_
             have HO_10 := n1_
             have BK162 := n2_
             have BK177 := n3_
             have HB := n4_
             clear n0_ n1_ n2_ n3_ n4_
             (try clear hb)
             (try clear hb2)
             (try clear hk)
             (try clear hi)
             refine hK.out _ _ ⟨(blk_cell BK162.out 0).trans rfl, (blk_cell BK162.out 1).trans rfl, (blk_cell BK162.out 2).trans rfl, (blk_cell BK162.out 3).trans rfl, ((HB.out.cell (World.block_lt_of_cell? w _ hw170_0)).trans hw170_0), ((HB.out.cell (World.block_lt_of_cell? w _ hw170_1)).trans hw170_1), ((HB.out.cell (World.block_lt_of_cell? w _ hw170_2)).trans hw170_2), ((HB.out.cell (World.block_lt_of_cell? w _ hw170_3)).trans hw170_3), ((HB.out.cell (World.block_lt_of_cell? w _ hw170_4)).trans hw170_4), ((HB.out.cell (World.block_lt_of_cell? w _ hw170_5)).trans hw170_5)⟩ (fun hHeld => ?_)
             clear hK K
             refine norm_ (a' := ?_) ?_ ?_
             rotate_left
             ·show Act.put _ (some 46) _ = _
              simp only [Act.put, q1, q2, q3, i64_w, i32_w]
              rfl
             refine pure_ (i := 11) (N := some 35) (v := ?_) (a' := ?_) #[true, true, true, true, true, true, true, true, true, true, true, true, false, false, true, false, false] rfl rfl (any_of HT_.out (by kernel_rfl)) (fun _ _ _ h => h) (Or.inl ⟨by rfl, ?_⟩) ?_ ?_
             rotate_left
             ·intro w'
              go_simp
              with_reducible rfl
             rotate_left
             ·simp only [Act.put, q1, q2, q3, i64_w, i32_w]
              rfl
             refine pure_ (i := 12) (N := some 47) (v := ?_) (a' := ?_) #[true, true, true, true, true, true, true, true, true, true, true, true, true, false, true, false, false] rfl rfl (any_of HT_.out (by kernel_rfl)) (fun _ _ _ h => h) (Or.inl ⟨by rfl, ?_⟩) ?_ ?_
             rotate_left
             ·intro w'
              go_simp
              with_reducible rfl
             rotate_left
             ·simp only [Act.put, q1, q2, q3, i64_w, i32_w]
              rfl
             refine pure_ (i := 13) (N := some 48) (v := ?_) (a' := ?_) #[true, true, true, true, true, true, true, true, true, true, true, true, true, true, true, false, false] rfl rfl (any_of HT_.out (by kernel_rfl)) (fun _ _ _ h => h) (Or.inl ⟨by rfl, ?_⟩) ?_ ?_
             rotate_left
             ·intro w'
              go_simp
              with_reducible rfl
             rotate_left
             ·simp only [Act.put, q1, q2, q3, i64_w, i32_w]
              rfl
             exact norm_ (by simp only [putAll, Act.put, q1, q2, q3]) (hCont (gb177) _ ⟨hHeld, HO_10.out, HO_9.out, BK162.out, BK177.out, GW177.out, GE177.out, NB162_177.out, NB177_162.out, HB.out⟩)
           rintro gb177 w28 ⟨hS_, h0_, h1_, h2_, h3_, h4_, h5_, h6_, h7_, h8_⟩
           have n0_ : Aside0 (Kd.R (Kd.int .i64) 3 w28 w.heap.size (fun _ => True) v168 x10_2) := ⟨h0_⟩
           have n1_ : Aside0 (Kd.R k45 45 w28 w.heap.size (fun _ => True) u9 x9_2) := ⟨h1_⟩
           have n2_ : Aside0 (w28.heap[gb162]? = some (.cells #[.int .i64 a0_0, .int .i64 a0_1, .int .i64 a0_2, .int .i64 a0_3] 28 (0, 0))) := ⟨h2_⟩
           have n3_ : Aside0 (w28.heap[gb177]? = some (.cells #[.int .i64 0, .int .i64 0, .int .i64 0, .int .i64 0] 22 (0, 0))) := ⟨h3_⟩
           have n4_ : Aside0 (w.heap.size ≤ gb177) := ⟨h4_⟩
           have n5_ : Aside0 (w.heap.size ≤ gb177) := ⟨h5_⟩
           have n6_ : Aside0 (gb162 ≠ gb177) := ⟨h6_⟩
           have n7_ : Aside0 (gb177 ≠ gb162) := ⟨h7_⟩
           have n8_ : Aside0 (Below w.heap.size w w28) := ⟨h8_⟩
           clear HO_9
           clear HO_10
           clear BK162
           clear HB
           clear h0_ h1_ h2_ h3_ h4_ h5_ h6_ h7_ h8_
           have HO_10 := n0_
           have HO_9 := n1_
           have BK162 := n2_
           have BK177 := n3_
           have GW177 := n4_
           have GE177 := n5_
           have NB162_177 := n6_
           have NB177_162 := n7_
           have HB := n8_
           clear n0_ n1_ n2_ n3_ n4_ n5_ n6_ n7_ n8_
           have hHeld : w28.cell? ⟨gb162, 0, none⟩ = some (.int .i64 a0_0) ∧ w28.cell? ⟨gb162, 1, none⟩ = some (.int .i64 a0_1) ∧ w28.cell? ⟨gb162, 2, none⟩ = some (.int .i64 a0_2) ∧ w28.cell? ⟨gb162, 3, none⟩ = some (.int .i64 a0_3) ∧ w28.cell? (ad170.add ((x11_1).toNat * 6)) = some (.int .i64 ((rd_T45 l1 x11_1).f0)) ∧ w28.cell? ⟨(ad170.add ((x11_1).toNat * 6)).block, (ad170.add ((x11_1).toNat * 6)).off + 1, none⟩ = some (.int .i64 ((rd_T45 l1 x11_1).f1.f0)) ∧ w28.cell? ⟨(ad170.add ((x11_1).toNat * 6)).block, (ad170.add ((x11_1).toNat * 6)).off + 2, none⟩ = some (.int .i64 ((rd_T45 l1 x11_1).f1.f1)) ∧ w28.cell? ⟨(ad170.add ((x11_1).toNat * 6)).block, (ad170.add ((x11_1).toNat * 6)).off + 3, none⟩ = some (.int .i64 ((rd_T45 l1 x11_1).f1.f2)) ∧ w28.cell? ⟨(ad170.add ((x11_1).toNat * 6)).block, (ad170.add ((x11_1).toNat * 6)).off + 4, none⟩ = some (.int .i64 ((rd_T45 l1 x11_1).f1.f3)) ∧ w28.cell? ⟨(ad170.add ((x11_1).toNat * 6)).block, (ad170.add ((x11_1).toNat * 6)).off + 5, none⟩ = some (.int .i64 ((rd_T45 l1 x11_1).f2)) := hS_
           refine norm_ (a' := ?_) ?_ ?_
           rotate_left
           ·simp only [putAll, Act.put, q1, q2, q3]
            rfl
           refine one_ (i := 15) (N := none) #[true, true, true, true, true, true, true, true, true, true, true, true, true, true, true, true, false] rfl rfl (one_of HT_.out (by kernel_rfl)) (by decide) (fun K hK => ?_)
           have hs29 : w28.cell? ⟨gb177, 0, none⟩ = some (.int .i64 0) := (blk_cell BK177.out 0).trans rfl
           have hfs29 := blk_frozen BK177.out 0
           have hns29_0 := NB162_177.out
           have hms29_0 := NB177_162.out
           have hs30 : w28.cell? ⟨gb177, 1, none⟩ = some (.int .i64 0) := (blk_cell BK177.out 1).trans rfl
           have hfs30 := blk_frozen BK177.out 1
           have hns30_0 := NB162_177.out
           have hms30_0 := NB177_162.out
           have hs31 : w28.cell? ⟨gb177, 2, none⟩ = some (.int .i64 0) := (blk_cell BK177.out 2).trans rfl
           have hfs31 := blk_frozen BK177.out 2
           have hns31_0 := NB162_177.out
           have hms31_0 := NB177_162.out
           have hs32 : w28.cell? ⟨gb177, 3, none⟩ = some (.int .i64 0) := (blk_cell BK177.out 3).trans rfl
           have hfs32 := blk_frozen BK177.out 3
           have hns32_0 := NB162_177.out
           have hms32_0 := NB177_162.out
           refine skip_ (w1 := ?_) (by rfl) rfl ?_ ?_
           rotate_left
           ·go_simp
            rfl
           refine hK.out _ _ ?_ (fun hHeld => ?_)
           refine ⟨?_, ?_, ?_, ?_, ?_, ?_, ?_, ?_, ?_, ?_⟩
           ·iterate 4 (refine (cell_far (p := ⟨gb177, _, none⟩) NB162_177.out _).trans ?_)
            exact hHeld.1
           ·iterate 4 (refine (cell_far (p := ⟨gb177, _, none⟩) NB162_177.out _).trans ?_)
            exact hHeld.2.1
           ·iterate 4 (refine (cell_far (p := ⟨gb177, _, none⟩) NB162_177.out _).trans ?_)
            exact hHeld.2.2.1
           ·iterate 4 (refine (cell_far (p := ⟨gb177, _, none⟩) NB162_177.out _).trans ?_)
            exact hHeld.2.2.2.1
           ·have e_ := Nat.ne_of_lt (Nat.lt_of_lt_of_le (by have := World.block_lt_of_cell? _ _ hw170_0; first | rwa [add_block] at this | exact this) GW177.out)
            iterate 4 (refine (cell_far (p := ⟨gb177, _, none⟩) (by first | exact e_ | (rw [add_block]; exact e_) | (show (Addr.add _ _).block ≠ _; rw [add_block]; exact e_) | (dsimp only; exact e_)) _).trans ?_)
            exact hHeld.2.2.2.2.1
           ·have e_ := Nat.ne_of_lt (Nat.lt_of_lt_of_le (by have := World.block_lt_of_cell? _ _ hw170_1; first | rwa [add_block] at this | exact this) GW177.out)
            iterate 4 (refine (cell_far (p := ⟨gb177, _, none⟩) (by first | exact e_ | (rw [add_block]; exact e_) | (show (Addr.add _ _).block ≠ _; rw [add_block]; exact e_) | (dsimp only; exact e_)) _).trans ?_)
            exact hHeld.2.2.2.2.2.1
           ·have e_ := Nat.ne_of_lt (Nat.lt_of_lt_of_le (by have := World.block_lt_of_cell? _ _ hw170_2; first | rwa [add_block] at this | exact this) GW177.out)
            iterate 4 (refine (cell_far (p := ⟨gb177, _, none⟩) (by first | exact e_ | (rw [add_block]; exact e_) | (show (Addr.add _ _).block ≠ _; rw [add_block]; exact e_) | (dsimp only; exact e_)) _).trans ?_)
            exact hHeld.2.2.2.2.2.2.1
           ·have e_ := Nat.ne_of_lt (Nat.lt_of_lt_of_le (by have := World.block_lt_of_cell? _ _ hw170_3; first | rwa [add_block] at this | exact this) GW177.out)
            iterate 4 (refine (cell_far (p := ⟨gb177, _, none⟩) (by first | exact e_ | (rw [add_block]; exact e_) | (show (Addr.add _ _).block ≠ _; rw [add_block]; exact e_) | (dsimp only; exact e_)) _).trans ?_)
            exact hHeld.2.2.2.2.2.2.2.1
           ·have e_ := Nat.ne_of_lt (Nat.lt_of_lt_of_le (by have := World.block_lt_of_cell? _ _ hw170_4; first | rwa [add_block] at this | exact this) GW177.out)
            iterate 4 (refine (cell_far (p := ⟨gb177, _, none⟩) (by first | exact e_ | (rw [add_block]; exact e_) | (show (Addr.add _ _).block ≠ _; rw [add_block]; exact e_) | (dsimp only; exact e_)) _).trans ?_)
            exact hHeld.2.2.2.2.2.2.2.2.1
           ·have e_ := Nat.ne_of_lt (Nat.lt_of_lt_of_le (by have := World.block_lt_of_cell? _ _ hw170_5; first | rwa [add_block] at this | exact this) GW177.out)
            iterate 4 (refine (cell_far (p := ⟨gb177, _, none⟩) (by first | exact e_ | (rw [add_block]; exact e_) | (show (Addr.add _ _).block ≠ _; rw [add_block]; exact e_) | (dsimp only; exact e_)) _).trans ?_)
            exact hHeld.2.2.2.2.2.2.2.2.2
           clear hK K
           refine pure_ (i := 16) (N := some 14) (v := ?_) (a' := ?_) #[true, true, true, true, true, true, true, true, true, true, true, true, true, true, true, true, true] rfl rfl (any_of HT_.out (by kernel_rfl)) (fun _ _ _ h => h) (Or.inl ⟨by rfl, ?_⟩) ?_ ?_
           rotate_left
           ·intro w'
            go_simp
            with_reducible rfl
           rotate_left
           ·simp only [Act.put, q1, q2, q3, i64_w, i32_w]
            rfl
           refine done_ (done_of HT_.out (by kernel_rfl)) ?_
           try go_wp2
           have n0_ : Aside0 (Kd.R k45 45 ((((w28.setCell ⟨gb177, 0, none⟩ (.int .i64 t172)).setCell ⟨gb177, 1, none⟩ (.int .i64 t173)).setCell ⟨gb177, 2, none⟩ (.int .i64 t174)).setCell ⟨gb177, 3, none⟩ (.int .i64 t175)) w.heap.size (fun _ => True) u9 x9_2) := ⟨by (with_reducible repeat (first | apply Kd.R_alloc | apply Kd.R_drewN | apply Kd.R_drew)); exact Kd.R_mono (Kd.R_far (p := ⟨gb177, 3, none⟩) (Kd.R_far (p := ⟨gb177, 2, none⟩) (Kd.R_far (p := ⟨gb177, 1, none⟩) (Kd.R_far (p := ⟨gb177, 0, none⟩) (Kd.R_types HO_9.out BK177.out (by decide)) (fun _ hk => hk.2) (.int .i64 t172)) (fun _ hk => hk.2) (.int .i64 t173)) (fun _ hk => hk.2) (.int .i64 t174)) (fun _ hk => hk.2) (.int .i64 t175)) (fun _ hk => trivial)⟩
           have n1_ : Aside0 (Kd.R (Kd.int .i64) 3 ((((w28.setCell ⟨gb177, 0, none⟩ (.int .i64 t172)).setCell ⟨gb177, 1, none⟩ (.int .i64 t173)).setCell ⟨gb177, 2, none⟩ (.int .i64 t174)).setCell ⟨gb177, 3, none⟩ (.int .i64 t175)) w.heap.size (fun _ => True) v168 x10_2) := ⟨by (with_reducible repeat (first | apply Kd.R_alloc | apply Kd.R_drewN | apply Kd.R_drew)); exact Kd.R_mono (Kd.R_far (p := ⟨gb177, 3, none⟩) (Kd.R_far (p := ⟨gb177, 2, none⟩) (Kd.R_far (p := ⟨gb177, 1, none⟩) (Kd.R_far (p := ⟨gb177, 0, none⟩) (Kd.R_types HO_10.out BK177.out (by decide)) (fun _ hk => hk.2) (.int .i64 t172)) (fun _ hk => hk.2) (.int .i64 t173)) (fun _ hk => hk.2) (.int .i64 t174)) (fun _ hk => hk.2) (.int .i64 t175)) (fun _ hk => trivial)⟩
           have n2_ : Aside0 (((((w28.setCell ⟨gb177, 0, none⟩ (.int .i64 t172)).setCell ⟨gb177, 1, none⟩ (.int .i64 t173)).setCell ⟨gb177, 2, none⟩ (.int .i64 t174)).setCell ⟨gb177, 3, none⟩ (.int .i64 t175)).heap[gb162]? = some (.cells #[.int .i64 a0_0, .int .i64 a0_1, .int .i64 a0_2, .int .i64 a0_3] 28 (0, 0))) := ⟨by (with_reducible repeat (first | refine blk_drewN ?_ _ | refine blk_drew ?_ | refine blk_alloc ?_ _)); refine blk_far ?_ NB162_177.out _; (with_reducible repeat (first | refine blk_drewN ?_ _ | refine blk_drew ?_ | refine blk_alloc ?_ _)); refine blk_far ?_ NB162_177.out _; (with_reducible repeat (first | refine blk_drewN ?_ _ | refine blk_drew ?_ | refine blk_alloc ?_ _)); refine blk_far ?_ NB162_177.out _; (with_reducible repeat (first | refine blk_drewN ?_ _ | refine blk_drew ?_ | refine blk_alloc ?_ _)); refine blk_far ?_ NB162_177.out _; (with_reducible repeat (first | refine blk_drewN ?_ _ | refine blk_drew ?_ | refine blk_alloc ?_ _)); exact BK162.out⟩
           have n3_ : Aside0 (((((w28.setCell ⟨gb177, 0, none⟩ (.int .i64 t172)).setCell ⟨gb177, 1, none⟩ (.int .i64 t173)).setCell ⟨gb177, 2, none⟩ (.int .i64 t174)).setCell ⟨gb177, 3, none⟩ (.int .i64 t175)).heap[gb177]? = some (.cells #[.int .i64 t172, .int .i64 t173, .int .i64 t174, .int .i64 t175] 22 (0, 0))) := ⟨by (with_reducible repeat (first | refine blk_drewN ?_ _ | refine blk_drew ?_ | refine blk_alloc ?_ _)); refine blk_put (cs := #[.int .i64 t172, .int .i64 t173, .int .i64 t174, .int .i64 0]) ?_ 3 _ rfl; (with_reducible repeat (first | refine blk_drewN ?_ _ | refine blk_drew ?_ | refine blk_alloc ?_ _)); refine blk_put (cs := #[.int .i64 t172, .int .i64 t173, .int .i64 0, .int .i64 0]) ?_ 2 _ rfl; (with_reducible repeat (first | refine blk_drewN ?_ _ | refine blk_drew ?_ | refine blk_alloc ?_ _)); refine blk_put (cs := #[.int .i64 t172, .int .i64 0, .int .i64 0, .int .i64 0]) ?_ 1 _ rfl; (with_reducible repeat (first | refine blk_drewN ?_ _ | refine blk_drew ?_ | refine blk_alloc ?_ _)); refine blk_put (cs := #[.int .i64 0, .int .i64 0, .int .i64 0, .int .i64 0]) ?_ 0 _ rfl; (with_reducible repeat (first | refine blk_drewN ?_ _ | refine blk_drew ?_ | refine blk_alloc ?_ _)); exact BK177.out⟩
           have n4_ : Aside0 (Below w.heap.size w ((((w28.setCell ⟨gb177, 0, none⟩ (.int .i64 t172)).setCell ⟨gb177, 1, none⟩ (.int .i64 t173)).setCell ⟨gb177, 2, none⟩ (.int .i64 t174)).setCell ⟨gb177, 3, none⟩ (.int .i64 t175))) := ⟨by repeat (first | (with_reducible first | exact HB.out | apply below_alloc | apply pw_below_drewN | apply below_drew1 | refine below_set ?_ GE162.out | refine below_set ?_ GE177.out) | exact HB.out)⟩
           (try clear HO_9)
           (try clear HO_10)
           (try clear BK162)
           (try clear BK177)
           (try clear HB)
           generalize ((((w28.setCell ⟨gb177, 0, none⟩ (.int .i64 t172)).setCell ⟨gb177, 1, none⟩ (.int .i64 t173)).setCell ⟨gb177, 2, none⟩ (.int .i64 t174)).setCell ⟨gb177, 3, none⟩ (.int .i64 t175)) = w33 at n0_ n1_ n2_ n3_ n4_ ⊢
           have HO_9 := n0_
           have HO_10 := n1_
           have BK162 := n2_
           have BK177 := n3_
           have HB := n4_
           clear n0_ n1_ n2_ n3_ n4_
           have n0_ := Aside0.mk (Kd.R_drew HO_9.out)
           have n1_ := Aside0.mk (Kd.R_drew HO_10.out)
           have n2_ := Aside0.mk (blk_drew BK162.out)
           have n3_ := Aside0.mk (blk_drew BK177.out)
           have n4_ := Aside0.mk (below_drew1 HB.out)
           clear HO_9
           clear HO_10
           clear BK162
           clear BK177
           clear HB
           have HO_9 := n0_
           have HO_10 := n1_
           have BK162 := n2_
           have BK177 := n3_
           have HB := n4_
           clear n0_ n1_ n2_ n3_ n4_
           have p178 : 0 ≤ (x11_1 : Int) := of_decide_eq_true (by first | (with_reducible assumption) | assumption)
           have q178 : x11_1 < (l1.length : Int) := of_decide_eq_true (by first | (with_reducible assumption) | assumption)
           obtain ⟨ad178, e178, hx178_0, hx178_1, hx178_2, hx178_3, hx178_4, hx178_5⟩ := at_T45 HR1.out x11_1 p178 q178
           have hw178_5 := hx178_5
           have hw178_4 := hx178_4
           have hw178_3 := hx178_3
           have hw178_2 := hx178_2
           have hw178_1 := hx178_1
           have hw178_0 := hx178_0
           obtain rfl : ad170 = ad178 := (by injection e178)
           (try replace hx178_0 := (HB.out.cell (World.block_lt_of_cell? w _ hx178_0)).trans hx178_0)
           (try replace hx178_1 := (HB.out.cell (World.block_lt_of_cell? w _ hx178_1)).trans hx178_1)
           (try replace hx178_2 := (HB.out.cell (World.block_lt_of_cell? w _ hx178_2)).trans hx178_2)
           (try replace hx178_3 := (HB.out.cell (World.block_lt_of_cell? w _ hx178_3)).trans hx178_3)
           (try replace hx178_4 := (HB.out.cell (World.block_lt_of_cell? w _ hx178_4)).trans hx178_4)
           (try replace hx178_5 := (HB.out.cell (World.block_lt_of_cell? w _ hx178_5)).trans hx178_5)
           replace p178 := eq_true p178
           replace q178 := eq_true q178
           have p179 : 0 ≤ (x11_1 : Int) := of_decide_eq_true (by first | (with_reducible assumption) | assumption)
           have q179 : x11_1 < (l1.length : Int) := of_decide_eq_true (by first | (with_reducible assumption) | assumption)
           obtain ⟨ad179, e179, hx179_0, hx179_1, hx179_2, hx179_3, hx179_4, hx179_5⟩ := at_T45 HR1.out x11_1 p179 q179
           have hw179_5 := hx179_5
           have hw179_4 := hx179_4
           have hw179_3 := hx179_3
           have hw179_2 := hx179_2
           have hw179_1 := hx179_1
           have hw179_0 := hx179_0
           obtain rfl : ad170 = ad179 := (by injection e179)
           (try replace hx179_0 := (HB.out.cell (World.block_lt_of_cell? w _ hx179_0)).trans hx179_0)
           (try replace hx179_1 := (HB.out.cell (World.block_lt_of_cell? w _ hx179_1)).trans hx179_1)
           (try replace hx179_2 := (HB.out.cell (World.block_lt_of_cell? w _ hx179_2)).trans hx179_2)
           (try replace hx179_3 := (HB.out.cell (World.block_lt_of_cell? w _ hx179_3)).trans hx179_3)
           (try replace hx179_4 := (HB.out.cell (World.block_lt_of_cell? w _ hx179_4)).trans hx179_4)
           (try replace hx179_5 := (HB.out.cell (World.block_lt_of_cell? w _ hx179_5)).trans hx179_5)
           replace p179 := eq_true p179
           replace q179 := eq_true q179
           refine start_ (n := 14) (S := fun w' => w'.cell? (ad170.add ((x11_1).toNat * 6)) = some (.int .i64 ((rd_T45 l1 x11_1).f0)) ∧ w'.cell? ⟨(ad170.add ((x11_1).toNat * 6)).block, (ad170.add ((x11_1).toNat * 6)).off + 1, none⟩ = some (.int .i64 ((rd_T45 l1 x11_1).f1.f0)) ∧ w'.cell? ⟨(ad170.add ((x11_1).toNat * 6)).block, (ad170.add ((x11_1).toNat * 6)).off + 2, none⟩ = some (.int .i64 ((rd_T45 l1 x11_1).f1.f1)) ∧ w'.cell? ⟨(ad170.add ((x11_1).toNat * 6)).block, (ad170.add ((x11_1).toNat * 6)).off + 3, none⟩ = some (.int .i64 ((rd_T45 l1 x11_1).f1.f2)) ∧ w'.cell? ⟨(ad170.add ((x11_1).toNat * 6)).block, (ad170.add ((x11_1).toNat * 6)).off + 4, none⟩ = some (.int .i64 ((rd_T45 l1 x11_1).f1.f3)) ∧ w'.cell? ⟨(ad170.add ((x11_1).toNat * 6)).block, (ad170.add ((x11_1).toNat * 6)).off + 5, none⟩ = some (.int .i64 ((rd_T45 l1 x11_1).f2)) ∧ w'.cell? (ad170.add ((x11_1).toNat * 6)) = some (.int .i64 ((rd_T45 l1 x11_1).f0)) ∧ w'.cell? ⟨(ad170.add ((x11_1).toNat * 6)).block, (ad170.add ((x11_1).toNat * 6)).off + 1, none⟩ = some (.int .i64 ((rd_T45 l1 x11_1).f1.f0)) ∧ w'.cell? ⟨(ad170.add ((x11_1).toNat * 6)).block, (ad170.add ((x11_1).toNat * 6)).off + 2, none⟩ = some (.int .i64 ((rd_T45 l1 x11_1).f1.f1)) ∧ w'.cell? ⟨(ad170.add ((x11_1).toNat * 6)).block, (ad170.add ((x11_1).toNat * 6)).off + 3, none⟩ = some (.int .i64 ((rd_T45 l1 x11_1).f1.f2)) ∧ w'.cell? ⟨(ad170.add ((x11_1).toNat * 6)).block, (ad170.add ((x11_1).toNat * 6)).off + 4, none⟩ = some (.int .i64 ((rd_T45 l1 x11_1).f1.f3)) ∧ w'.cell? ⟨(ad170.add ((x11_1).toNat * 6)).block, (ad170.add ((x11_1).toNat * 6)).off + 5, none⟩ = some (.int .i64 ((rd_T45 l1 x11_1).f2))) (ds := []) #[false, false, false, false, false, false, false, false, false, false, false, false, false, false] (by kernel_rfl) rfl rfl ⟨((HB.out.cell (World.block_lt_of_cell? w _ hw178_0)).trans hw178_0), ((HB.out.cell (World.block_lt_of_cell? w _ hw178_1)).trans hw178_1), ((HB.out.cell (World.block_lt_of_cell? w _ hw178_2)).trans hw178_2), ((HB.out.cell (World.block_lt_of_cell? w _ hw178_3)).trans hw178_3), ((HB.out.cell (World.block_lt_of_cell? w _ hw178_4)).trans hw178_4), ((HB.out.cell (World.block_lt_of_cell? w _ hw178_5)).trans hw178_5), ((HB.out.cell (World.block_lt_of_cell? w _ hw179_0)).trans hw179_0), ((HB.out.cell (World.block_lt_of_cell? w _ hw179_1)).trans hw179_1), ((HB.out.cell (World.block_lt_of_cell? w _ hw179_2)).trans hw179_2), ((HB.out.cell (World.block_lt_of_cell? w _ hw179_3)).trans hw179_3), ((HB.out.cell (World.block_lt_of_cell? w _ hw179_4)).trans hw179_4), ((HB.out.cell (World.block_lt_of_cell? w _ hw179_5)).trans hw179_5)⟩ (fun hHeld => ?_); refine with_tabW spec_l3Next.tab9 spec_l3Next.bits9 (fun HT_ HW_ => ?_)
           generalize w33.drew = w34 at HO_9 HO_10 BK162 BK177 HB hx178_0 hx178_1 hx178_2 hx178_3 hx178_4 hx178_5 hx179_0 hx179_1 hx179_2 hx179_3 hx179_4 hx179_5 hHeld ⊢
           refine pure_ (i := 0) (N := some 49) (v := ?_) (a' := ?_) #[true, false, false, false, false, false, false, false, false, false, false, false, false, false] rfl rfl (any_of HT_.out (by kernel_rfl)) (fun _ _ _ h => h) (Or.inl ⟨by rfl, ?_⟩) ?_ ?_
           rotate_left
           ·intro w'
            go_simp
            with_reducible rfl
           rotate_left
           ·simp only [Act.put, q1, q2, q3, i64_w, i32_w]
            rfl
           refine pure_ (i := 1) (N := some 50) (v := ?_) (a' := ?_) #[true, true, false, false, false, false, false, false, false, false, false, false, false, false] rfl rfl (any_of HT_.out (by kernel_rfl)) (fun _ _ _ h => h) (Or.inl ⟨by rfl, ?_⟩) ?_ ?_
           rotate_left
           ·intro w'
            go_simp
            with_reducible rfl
           rotate_left
           ·simp only [Act.put, q1, q2, q3, i64_w, i32_w]
            rfl
           refine pure_ (i := 2) (N := some 51) (v := ?_) (a' := ?_) #[true, true, true, false, false, false, false, false, false, false, false, false, false, false] rfl rfl (any_of HT_.out (by kernel_rfl)) (fun _ _ _ h => h) (Or.inl ⟨by rfl, ?_⟩) ?_ ?_
           rotate_left
           ·intro w'
            go_simp
            with_reducible rfl
           rotate_left
           ·simp only [Act.put, q1, q2, q3, i64_w, i32_w]
            rfl
           refine pure_ (i := 3) (N := some 52) (v := ?_) (a' := ?_) #[true, true, true, true, false, false, false, false, false, false, false, false, false, false] rfl rfl (any_of HT_.out (by kernel_rfl)) (fun _ _ _ h => h) (Or.inl ⟨by rfl, ?_⟩) ?_ ?_
           rotate_left
           ·intro w'
            go_simp
            with_reducible rfl
           rotate_left
           ·simp only [Act.put, q1, q2, q3, i64_w, i32_w]
            rfl
           refine pure_ (i := 5) (N := some 54) (v := ?_) (a' := ?_) #[true, true, true, true, false, true, false, false, false, false, false, false, false, false] rfl rfl (any_of HT_.out (by kernel_rfl)) (fun _ _ _ h => h) (Or.inl ⟨by rfl, ?_⟩) ?_ ?_
           rotate_left
           ·intro w'
            go_simp
            with_reducible rfl
           rotate_left
           ·simp only [Act.put, q1, q2, q3, i64_w, i32_w]
            rfl
           refine pure_ (i := 7) (N := some 56) (v := ?_) (a' := ?_) #[true, true, true, true, false, true, false, true, false, false, false, false, false, false] rfl rfl (any_of HT_.out (by kernel_rfl)) (fun _ _ _ h => h) (Or.inl ⟨by rfl, ?_⟩) ?_ ?_
           rotate_left
           ·intro w'
            go_simp
            with_reducible rfl
           rotate_left
           ·simp only [Act.put, q1, q2, q3, i64_w, i32_w]
            rfl
           refine pure_ (i := 8) (N := some 57) (v := ?_) (a' := ?_) #[true, true, true, true, false, true, false, true, true, false, false, false, false, false] rfl rfl (any_of HT_.out (by kernel_rfl)) (fun _ _ _ h => h) (Or.inl ⟨by rfl, ?_⟩) ?_ ?_
           rotate_left
           ·intro w'
            go_simp
            with_reducible rfl
           rotate_left
           ·simp only [Act.put, q1, q2, q3, i64_w, i32_w]
            rfl
           refine pure_ (i := 9) (N := some 58) (v := ?_) (a' := ?_) #[true, true, true, true, false, true, false, true, true, true, false, false, false, false] rfl rfl (any_of HT_.out (by kernel_rfl)) (fun _ _ _ h => h) (Or.inl ⟨by rfl, ?_⟩) ?_ ?_
           rotate_left
           ·intro w'
            go_simp
            with_reducible rfl
           rotate_left
           ·simp only [Act.put, q1, q2, q3, i64_w, i32_w]
            rfl
           refine pure_ (i := 10) (N := some 59) (v := ?_) (a' := ?_) #[true, true, true, true, false, true, false, true, true, true, true, false, false, false] rfl rfl (any_of HT_.out (by kernel_rfl)) (fun _ _ _ h => h) (Or.inl ⟨by rfl, ?_⟩) ?_ ?_
           rotate_left
           ·intro w'
            go_simp
            with_reducible rfl
           rotate_left
           ·simp only [Act.put, q1, q2, q3, i64_w, i32_w]
            rfl
           refine take_ (i := 4) (N := some 53) (v := ?_) (a' := ?_) #[true, true, true, true, true, true, false, true, true, true, true, false, false, false] rfl rfl (take_ofW HT_.out HW_.out (by kernel_rfl)) (fun _ _ _ h => h) (Or.inl ⟨by rfl, ?_⟩) hHeld ?_ ?_
           rotate_left
           ·rintro w' ⟨s0, s1, s2, s3, s4, s5, s6, s7, s8, s9, s10, s11⟩
            go_simp
            with_reducible rfl
           rotate_left
           ·simp only [Act.put, q1, q2, q3, i64_w, i32_w]
            rfl
           refine pure_ (i := 6) (N := some 55) (v := ?_) (a' := ?_) #[true, true, true, true, true, true, true, true, true, true, true, false, false, false] rfl rfl (any_of HT_.out (by kernel_rfl)) (fun _ _ _ h => h) (Or.inl ⟨by rfl, ?_⟩) ?_ ?_
           rotate_left
           ·intro w'
            go_simp
            with_reducible rfl
           rotate_left
           ·simp only [Act.put, q1, q2, q3, i64_w, i32_w]
            rfl
           refine pure_ (i := 12) (N := some 15) (v := ?_) (a' := ?_) #[true, true, true, true, true, true, true, true, true, true, true, false, true, false] rfl rfl (any_of HT_.out (by kernel_rfl)) (fun _ _ _ h => h) (Or.inl ⟨by rfl, ?_⟩) ?_ ?_
           rotate_left
           ·intro w'
            go_simp
            with_reducible rfl
           rotate_left
           ·simp only [Act.put, q1, q2, q3, i64_w, i32_w]
            rfl
           refine take_ (i := 11) (N := some 60) (v := ?_) (a' := ?_) #[true, true, true, true, true, true, true, true, true, true, true, true, true, false] rfl rfl (take_ofW HT_.out HW_.out (by kernel_rfl)) (fun _ _ _ h => h) (Or.inl ⟨by rfl, ?_⟩) hHeld ?_ ?_
           rotate_left
           ·rintro w' ⟨s0, s1, s2, s3, s4, s5, s6, s7, s8, s9, s10, s11⟩
            go_simp
            with_reducible rfl
           rotate_left
           ·simp only [Act.put, q1, q2, q3, i64_w, i32_w]
            rfl
           refine pure_ (i := 13) (N := some 16) (v := ?_) (a' := ?_) #[true, true, true, true, true, true, true, true, true, true, true, true, true, true] rfl rfl (any_of HT_.out (by kernel_rfl)) (fun _ _ _ h => h) (Or.inl ⟨by rfl, ?_⟩) ?_ ?_
           rotate_left
           ·intro w'
            go_simp
            with_reducible rfl
           rotate_left
           ·simp only [Act.put, q1, q2, q3, i64_w, i32_w]
            rfl
           refine done_ (done_of HT_.out (by kernel_rfl)) ?_
           go_upto_region 10 with (fail)
           go_cut [73] (fun v73 wc => ∃ (kq : Nat) (x73_22 : Bool), v73 = .bool x73_22 ∧ Aside0 (spec_l3Next.j2 kq l1 a2 a3 x9_2 x10_2 x11_1 x12_2 (wrap64 (((rd_T45 l1 x11_1).f0) + t176)) ((rd_T45 l1 x11_1).f2) x73_22 a0_0 a0_1 a0_2 a0_3 t172 t173 t174 t175 = some r) ∧ Aside0 (kq ≤ k2) ∧ Aside0 (Kd.R k45 45 wc w.heap.size (fun _ => True) u9 x9_2) ∧ Aside0 (Kd.R (Kd.int .i64) 3 wc w.heap.size (fun _ => True) v168 x10_2) ∧ Aside0 (wc.heap[gb162]? = some (.cells #[.int .i64 a0_0, .int .i64 a0_1, .int .i64 a0_2, .int .i64 a0_3] 28 (0, 0))) ∧ Aside0 (wc.heap[gb177]? = some (.cells #[.int .i64 t172, .int .i64 t173, .int .i64 t174, .int .i64 t175] 22 (0, 0))) ∧ Aside0 (Below w.heap.size w wc))
           case first =>
            have H := HC23.out
            clear HC23
            replace H := Option.bind_eq_some_iff.mp H
            obtain ⟨t180, A350, H⟩ := H
            replace H : (if t180 = true then (if t176 = 0 then (spec_l3Next.j2 k2 l1 a2 a3 x9_2 x10_2 x11_1 x12_2 (wrap64 (((rd_T45 l1 x11_1).f0) + t176)) ((rd_T45 l1 x11_1).f2) true a0_0 a0_1 a0_2 a0_3 t172 t173 t174 t175) else (spec_l3Next.j2 k2 l1 a2 a3 x9_2 x10_2 x11_1 x12_2 (wrap64 (((rd_T45 l1 x11_1).f0) + t176)) ((rd_T45 l1 x11_1).f2) (decide ((wrap64 (((rd_T45 l1 x11_1).f0) + t176)) > a2)) a0_0 a0_1 a0_2 a0_3 t172 t173 t174 t175)) else (spec_l3Next.j2 k2 l1 a2 a3 x9_2 x10_2 x11_1 x12_2 (wrap64 (((rd_T45 l1 x11_1).f0) + t176)) ((rd_T45 l1 x11_1).f2) true a0_0 a0_1 a0_2 a0_3 t172 t173 t174 t175)) = some r := H
            have A35 := Aside0.mk A350
            clear A350
            by_cases c36 : t180 = true
            ·subst c36
             have H1 : (if t176 = 0 then (spec_l3Next.j2 k2 l1 a2 a3 x9_2 x10_2 x11_1 x12_2 (wrap64 (((rd_T45 l1 x11_1).f0) + t176)) ((rd_T45 l1 x11_1).f2) true a0_0 a0_1 a0_2 a0_3 t172 t173 t174 t175) else (spec_l3Next.j2 k2 l1 a2 a3 x9_2 x10_2 x11_1 x12_2 (wrap64 (((rd_T45 l1 x11_1).f0) + t176)) ((rd_T45 l1 x11_1).f2) (decide ((wrap64 (((rd_T45 l1 x11_1).f0) + t176)) > a2)) a0_0 a0_1 a0_2 a0_3 t172 t173 t174 t175)) = some r := by rw [if_pos rfl] at H; exact H
             clear H
             have H := H1
             clear H1
             by_cases c37 : t176 = 0
             ·rw [if_pos c37] at H
              have c37b0 : (t176 == 0) = true := beq_iff_eq.mpr c37
              have c37b1 : (t176 != 0) = false := bne_eq_false_iff_eq.mpr c37
              clear c37
              (first | rw [c37b0] | (simp only [i64_w, i32_w]; rw [c37b0]) | skip)
              have H' := Aside0.mk H
              clear H
              have hnb38 := NB162_177.out
              have hnc38 := NB177_162.out
              have hcz39_0 : w34.cell? ⟨gb162, 0, none⟩ = some (.int .i64 a0_0) := (blk_cell BK162.out 0).trans rfl
              have hcz39_1 : w34.cell? ⟨gb162, 1, none⟩ = some (.int .i64 a0_1) := (blk_cell BK162.out 1).trans rfl
              have hcz39_2 : w34.cell? ⟨gb162, 2, none⟩ = some (.int .i64 a0_2) := (blk_cell BK162.out 2).trans rfl
              have hcz39_3 : w34.cell? ⟨gb162, 3, none⟩ = some (.int .i64 a0_3) := (blk_cell BK162.out 3).trans rfl
              have hfz39_0 := blk_frozen BK162.out 0
              have hfz39_1 := blk_frozen BK162.out 1
              have hfz39_2 := blk_frozen BK162.out 2
              have hfz39_3 := blk_frozen BK162.out 3
              go_wp2_with (first | ((with_reducible refine gate_callee (f := 40) rfl ?_); refine goesL_ (some 63) rfl rfl Try.func40 (by kernel_rfl) rfl #[.agg #[.int .i64 a0_0, .int .i64 a0_1, .int .i64 a0_2, .int .i64 a0_3], .int .i64 x12_2] rfl (by (try simp only [List.map_toArray, List.map_cons, List.map_nil]); first | done | rfl | (simp only [List.length_drop, List.length_take]; rfl)) ?_; (with_reducible refine (spec_l2Set.calls k2 a0_0 a0_1 a0_2 a0_3 x12_2 true _ A35.out).mono ?_); rintro e w40 ⟨rfl, hb⟩; refine ⟨_, rfl, ?_⟩; have n0_ := Aside0.mk (Kd.R_below HO_9.out hb); have n1_ := Aside0.mk (Kd.R_below HO_10.out hb); have n2_ := Aside0.mk (blk_below BK162.out hb); have n3_ := Aside0.mk (blk_below BK177.out hb); have n4_ := Aside0.mk (below_step HB.out hb); clear HO_9; clear HO_10; clear BK162; clear BK177; clear HB; have HO_9 := n0_; have HO_10 := n1_; have BK162 := n2_; have BK177 := n3_; have HB := n4_; clear n0_ n1_ n2_ n3_ n4_; (try clear hb); (try clear hb2); (try clear hk); (try clear hi)))
              go_meet
              case rel => exact ⟨_, (true), (by first | rfl | (simp; done) | (simp [*]; done)), H', ⟨by have := HK1.out; have := HK2.out; first | omega | exact Nat.le_refl _⟩, ⟨by (with_reducible repeat (first | apply Kd.R_alloc | apply Kd.R_drewN | apply Kd.R_drew)); exact HO_9.out⟩, ⟨by (with_reducible repeat (first | apply Kd.R_alloc | apply Kd.R_drewN | apply Kd.R_drew)); exact HO_10.out⟩, ⟨by (with_reducible repeat (first | refine blk_drewN ?_ _ | refine blk_drew ?_ | refine blk_alloc ?_ _)); exact BK162.out⟩, ⟨by (with_reducible repeat (first | refine blk_drewN ?_ _ | refine blk_drew ?_ | refine blk_alloc ?_ _)); exact BK177.out⟩, ⟨by repeat (first | (with_reducible first | exact HB.out | apply below_alloc | apply pw_below_drewN | apply below_drew1 | refine below_set ?_ GE162.out | refine below_set ?_ GE177.out) | exact HB.out)⟩⟩
             ·rw [if_neg c37] at H
              have c37b0 : (t176 == 0) = false := beq_eq_false_iff_ne.mpr c37
              have c37b1 : (t176 != 0) = true := bne_iff_ne.mpr c37
              (first | rw [c37b0] | (simp only [i64_w, i32_w]; rw [c37b0]) | skip)
              have H' := Aside0.mk H
              clear H
              have hnb41 := NB162_177.out
              have hnc41 := NB177_162.out
              have hcz42_0 : w34.cell? ⟨gb162, 0, none⟩ = some (.int .i64 a0_0) := (blk_cell BK162.out 0).trans rfl
              have hcz42_1 : w34.cell? ⟨gb162, 1, none⟩ = some (.int .i64 a0_1) := (blk_cell BK162.out 1).trans rfl
              have hcz42_2 : w34.cell? ⟨gb162, 2, none⟩ = some (.int .i64 a0_2) := (blk_cell BK162.out 2).trans rfl
              have hcz42_3 : w34.cell? ⟨gb162, 3, none⟩ = some (.int .i64 a0_3) := (blk_cell BK162.out 3).trans rfl
              have hfz42_0 := blk_frozen BK162.out 0
              have hfz42_1 := blk_frozen BK162.out 1
              have hfz42_2 := blk_frozen BK162.out 2
              have hfz42_3 := blk_frozen BK162.out 3
              go_wp2_with (first | ((with_reducible refine gate_callee (f := 40) rfl ?_); refine goesL_ (some 63) rfl rfl Try.func40 (by kernel_rfl) rfl #[.agg #[.int .i64 a0_0, .int .i64 a0_1, .int .i64 a0_2, .int .i64 a0_3], .int .i64 x12_2] rfl (by (try simp only [List.map_toArray, List.map_cons, List.map_nil]); first | done | rfl | (simp only [List.length_drop, List.length_take]; rfl)) ?_; (with_reducible refine (spec_l2Set.calls k2 a0_0 a0_1 a0_2 a0_3 x12_2 true _ A35.out).mono ?_); rintro e w43 ⟨rfl, hb⟩; refine ⟨_, rfl, ?_⟩; have n0_ := Aside0.mk (Kd.R_below HO_9.out hb); have n1_ := Aside0.mk (Kd.R_below HO_10.out hb); have n2_ := Aside0.mk (blk_below BK162.out hb); have n3_ := Aside0.mk (blk_below BK177.out hb); have n4_ := Aside0.mk (below_step HB.out hb); clear HO_9; clear HO_10; clear BK162; clear BK177; clear HB; have HO_9 := n0_; have HO_10 := n1_; have BK162 := n2_; have BK177 := n3_; have HB := n4_; clear n0_ n1_ n2_ n3_ n4_; (try clear hb); (try clear hb2); (try clear hk); (try clear hi)))
              go_meet
              case rel => exact ⟨_, (decide ((wrap64 (((rd_T45 l1 x11_1).f0) + t176)) > a2)), (by first | rfl | (simp; done) | (simp [*]; done)), H', ⟨by have := HK1.out; have := HK2.out; first | omega | exact Nat.le_refl _⟩, ⟨by (with_reducible repeat (first | apply Kd.R_alloc | apply Kd.R_drewN | apply Kd.R_drew)); exact HO_9.out⟩, ⟨by (with_reducible repeat (first | apply Kd.R_alloc | apply Kd.R_drewN | apply Kd.R_drew)); exact HO_10.out⟩, ⟨by (with_reducible repeat (first | refine blk_drewN ?_ _ | refine blk_drew ?_ | refine blk_alloc ?_ _)); exact BK162.out⟩, ⟨by (with_reducible repeat (first | refine blk_drewN ?_ _ | refine blk_drew ?_ | refine blk_alloc ?_ _)); exact BK177.out⟩, ⟨by repeat (first | (with_reducible first | exact HB.out | apply below_alloc | apply pw_below_drewN | apply below_drew1 | refine below_set ?_ GE162.out | refine below_set ?_ GE177.out) | exact HB.out)⟩⟩
            ·replace c36 := Bool.eq_false_iff.mpr c36
             subst c36
             have H1 : (spec_l3Next.j2 k2 l1 a2 a3 x9_2 x10_2 x11_1 x12_2 (wrap64 (((rd_T45 l1 x11_1).f0) + t176)) ((rd_T45 l1 x11_1).f2) true a0_0 a0_1 a0_2 a0_3 t172 t173 t174 t175) = some r := by rw [if_neg (show ¬ (false = true) by decide)] at H; exact H
             clear H
             have H := H1
             clear H1
             have H' := Aside0.mk H
             clear H
             have hnb44 := NB162_177.out
             have hnc44 := NB177_162.out
             have hcz45_0 : w34.cell? ⟨gb162, 0, none⟩ = some (.int .i64 a0_0) := (blk_cell BK162.out 0).trans rfl
             have hcz45_1 : w34.cell? ⟨gb162, 1, none⟩ = some (.int .i64 a0_1) := (blk_cell BK162.out 1).trans rfl
             have hcz45_2 : w34.cell? ⟨gb162, 2, none⟩ = some (.int .i64 a0_2) := (blk_cell BK162.out 2).trans rfl
             have hcz45_3 : w34.cell? ⟨gb162, 3, none⟩ = some (.int .i64 a0_3) := (blk_cell BK162.out 3).trans rfl
             have hfz45_0 := blk_frozen BK162.out 0
             have hfz45_1 := blk_frozen BK162.out 1
             have hfz45_2 := blk_frozen BK162.out 2
             have hfz45_3 := blk_frozen BK162.out 3
             go_wp2_with (first | ((with_reducible refine gate_callee (f := 40) rfl ?_); refine goesL_ (some 63) rfl rfl Try.func40 (by kernel_rfl) rfl #[.agg #[.int .i64 a0_0, .int .i64 a0_1, .int .i64 a0_2, .int .i64 a0_3], .int .i64 x12_2] rfl (by (try simp only [List.map_toArray, List.map_cons, List.map_nil]); first | done | rfl | (simp only [List.length_drop, List.length_take]; rfl)) ?_; (with_reducible refine (spec_l2Set.calls k2 a0_0 a0_1 a0_2 a0_3 x12_2 false _ A35.out).mono ?_); rintro e w46 ⟨rfl, hb⟩; refine ⟨_, rfl, ?_⟩; have n0_ := Aside0.mk (Kd.R_below HO_9.out hb); have n1_ := Aside0.mk (Kd.R_below HO_10.out hb); have n2_ := Aside0.mk (blk_below BK162.out hb); have n3_ := Aside0.mk (blk_below BK177.out hb); have n4_ := Aside0.mk (below_step HB.out hb); clear HO_9; clear HO_10; clear BK162; clear BK177; clear HB; have HO_9 := n0_; have HO_10 := n1_; have BK162 := n2_; have BK177 := n3_; have HB := n4_; clear n0_ n1_ n2_ n3_ n4_; (try clear hb); (try clear hb2); (try clear hk); (try clear hi)))
             go_meet
             case rel => exact ⟨_, (true), (by first | rfl | (simp; done) | (simp [*]; done)), H', ⟨by have := HK1.out; have := HK2.out; first | omega | exact Nat.le_refl _⟩, ⟨by (with_reducible repeat (first | apply Kd.R_alloc | apply Kd.R_drewN | apply Kd.R_drew)); exact HO_9.out⟩, ⟨by (with_reducible repeat (first | apply Kd.R_alloc | apply Kd.R_drewN | apply Kd.R_drew)); exact HO_10.out⟩, ⟨by (with_reducible repeat (first | refine blk_drewN ?_ _ | refine blk_drew ?_ | refine blk_alloc ?_ _)); exact BK162.out⟩, ⟨by (with_reducible repeat (first | refine blk_drewN ?_ _ | refine blk_drew ?_ | refine blk_alloc ?_ _)); exact BK177.out⟩, ⟨by repeat (first | (with_reducible first | exact HB.out | apply below_alloc | apply pw_below_drewN | apply below_drew1 | refine below_set ?_ GE162.out | refine below_set ?_ GE177.out) | exact HB.out)⟩⟩
           case rest =>
            clear HC23
            try clear p1
            try clear q1
            try clear hx1
            try clear p2
            try clear c3
            try clear c4
            try clear p6
            try clear p17
            try clear q17
            try clear hx17
            try clear c36
            try clear c37
            try clear c37b0
            try clear c37b1
            try clear c38
            try clear c39
            try clear c40
            try clear c41
            try clear c44
            try clear hcz39_0
            try clear hcz39_1
            try clear hcz39_2
            try clear hcz39_3
            try clear hcz42_0
            try clear hcz42_1
            try clear hcz42_2
            try clear hcz42_3
            try clear hcz45_0
            try clear hcz45_1
            try clear hcz45_2
            try clear hcz45_3
            try clear hfz39_0
            try clear hfz39_1
            try clear hfz39_2
            try clear hfz39_3
            try clear hfz42_0
            try clear hfz42_1
            try clear hfz42_2
            try clear hfz42_3
            try clear hfz45_0
            try clear hfz45_1
            try clear hfz45_2
            try clear hfz45_3
            try clear hx178_0
            try clear hx178_1
            try clear hx178_2
            try clear hx178_3
            try clear hx178_4
            try clear hx178_5
            try clear hx179_0
            try clear hx179_1
            try clear hx179_2
            try clear hx179_3
            try clear hx179_4
            try clear hx179_5
            try clear p178
            try clear p179
            try clear q178
            try clear q179
            obtain ⟨kq, x73_22, rfl, HA, HJ22, HO_9, HO_10, BK162, BK177, HB⟩ := hcut
            cases kq with
            | zero => exact absurd HA.out (by simp [spec_l3Next.j2])
            | succ kj22 =>
             have H := HA.out
             clear HA
             simp only [spec_l3Next.j2] at H
             by_cases c47 : x73_22 = true
             ·subst c47
              have H1 : (spec_l3Next.l1 kj22 l1 a2 a3 x9_2 x10_2 x11_1 (wrap64 (x12_2 + 1)) a0_0 a0_1 a0_2 a0_3) = some r := by rw [if_pos rfl] at H; exact H
              clear H
              have H := H1
              clear H1
              have H' := Aside0.mk H
              clear H
              go_wp2
              go_roundg kj22
              case measure => have := HK1.out; have := HK2.out; have := HJ22.out; omega
              case rel => exact ⟨(x9_2), (x10_2), (wrap64 (x12_2 + 1)), (by first | rfl | (simp; done) | (simp [*]; done)), H', ⟨by have := HK1.out; have := HK2.out; have := HJ22.out; omega⟩, ⟨by (with_reducible repeat (first | apply Kd.R_alloc | apply Kd.R_drewN | apply Kd.R_drew)); exact HO_9.out⟩, ⟨by (with_reducible repeat (first | apply Kd.R_alloc | apply Kd.R_drewN | apply Kd.R_drew)); exact HO_10.out⟩, ⟨by (with_reducible repeat (first | refine blk_drewN ?_ _ | refine blk_drew ?_ | refine blk_alloc ?_ _)); exact BK162.out⟩, ⟨by repeat (first | (with_reducible first | exact HB.out | apply below_alloc | apply pw_below_drewN | apply below_drew1 | refine below_set ?_ GE162.out | refine below_set ?_ GE177.out) | exact HB.out)⟩⟩
             ·replace c47 := Bool.eq_false_iff.mpr c47
              subst c47
              have H1 : (if a3 = true then ((spec_l3Bits.f kj22 x12_2).bind fun t181 => (spec_l3Next.j3 kj22 l1 a2 a3 x9_2 x10_2 x11_1 x12_2 (wrap64 (((rd_T45 l1 x11_1).f0) + t176)) (wrap64 (((rd_T45 l1 x11_1).f2) + t181)) a0_0 a0_1 a0_2 a0_3 t172 t173 t174 t175)) else (spec_l3Next.j3 kj22 l1 a2 a3 x9_2 x10_2 x11_1 x12_2 (wrap64 (((rd_T45 l1 x11_1).f0) + t176)) ((rd_T45 l1 x11_1).f2) a0_0 a0_1 a0_2 a0_3 t172 t173 t174 t175)) = some r := by rw [if_neg (show ¬ (false = true) by decide)] at H; exact H
              clear H
              have H := H1
              clear H1
              have HC48 := Aside0.mk H
              clear H
              go_upto_if 74 with (fail)
              go_cut [16] (fun v16 wc => ∃ (kq : Nat) (x16_47 : Int), v16 = .int .i64 x16_47 ∧ Aside0 (spec_l3Next.j3 kq l1 a2 a3 x9_2 x10_2 x11_1 x12_2 (wrap64 (((rd_T45 l1 x11_1).f0) + t176)) x16_47 a0_0 a0_1 a0_2 a0_3 t172 t173 t174 t175 = some r) ∧ Aside0 (kq ≤ kj22) ∧ Aside0 (Kd.R k45 45 wc w.heap.size (fun _ => True) u9 x9_2) ∧ Aside0 (Kd.R (Kd.int .i64) 3 wc w.heap.size (fun _ => True) v168 x10_2) ∧ Aside0 (wc.heap[gb162]? = some (.cells #[.int .i64 a0_0, .int .i64 a0_1, .int .i64 a0_2, .int .i64 a0_3] 28 (0, 0))) ∧ Aside0 (wc.heap[gb177]? = some (.cells #[.int .i64 t172, .int .i64 t173, .int .i64 t174, .int .i64 t175] 22 (0, 0))) ∧ Aside0 (Below w.heap.size w wc))
              case first =>
               have H := HC48.out
               clear HC48
               by_cases c49 : a3 = true
               ·subst c49
                have H1 : ((spec_l3Bits.f kj22 x12_2).bind fun t181 => (spec_l3Next.j3 kj22 l1 a2 true x9_2 x10_2 x11_1 x12_2 (wrap64 (((rd_T45 l1 x11_1).f0) + t176)) (wrap64 (((rd_T45 l1 x11_1).f2) + t181)) a0_0 a0_1 a0_2 a0_3 t172 t173 t174 t175)) = some r := by rw [if_pos rfl] at H; exact H
                clear H
                have H := H1
                clear H1
                replace H := Option.bind_eq_some_iff.mp H
                obtain ⟨t181, A500, H⟩ := H
                replace H : (spec_l3Next.j3 kj22 l1 a2 true x9_2 x10_2 x11_1 x12_2 (wrap64 (((rd_T45 l1 x11_1).f0) + t176)) (wrap64 (((rd_T45 l1 x11_1).f2) + t181)) a0_0 a0_1 a0_2 a0_3 t172 t173 t174 t175) = some r := H
                have A50 := Aside0.mk A500
                clear A500
                have H' := Aside0.mk H
                clear H
                go_wp2_with (first | ((with_reducible refine gate_callee (f := 41) rfl ?_); refine goesL_ (some 77) rfl rfl Try.func41 (by kernel_rfl) rfl #[.int .i64 x12_2] rfl (by (try simp only [List.map_toArray, List.map_cons, List.map_nil]); first | done | rfl | (simp only [List.length_drop, List.length_take]; rfl)) ?_; (with_reducible refine (spec_l3Bits.calls kj22 x12_2 t181 _ A50.out).mono ?_); rintro e w' ⟨rfl, ⟨nd, rfl⟩⟩; refine ⟨_, rfl, ?_⟩))
                go_meet
                case rel => exact ⟨_, (wrap64 (((rd_T45 l1 x11_1).f2) + t181)), (by first | rfl | (simp; done) | (simp [*]; done)), H', ⟨by have := HK1.out; have := HK2.out; have := HJ22.out; first | omega | exact Nat.le_refl _⟩, ⟨by (with_reducible repeat (first | apply Kd.R_alloc | apply Kd.R_drewN | apply Kd.R_drew)); exact HO_9.out⟩, ⟨by (with_reducible repeat (first | apply Kd.R_alloc | apply Kd.R_drewN | apply Kd.R_drew)); exact HO_10.out⟩, ⟨by (with_reducible repeat (first | refine blk_drewN ?_ _ | refine blk_drew ?_ | refine blk_alloc ?_ _)); exact BK162.out⟩, ⟨by (with_reducible repeat (first | refine blk_drewN ?_ _ | refine blk_drew ?_ | refine blk_alloc ?_ _)); exact BK177.out⟩, ⟨by repeat (first | (with_reducible first | exact HB.out | apply below_alloc | apply pw_below_drewN | apply below_drew1 | refine below_set ?_ GE162.out | refine below_set ?_ GE177.out) | exact HB.out)⟩⟩
               ·replace c49 := Bool.eq_false_iff.mpr c49
                subst c49
                have H1 : (spec_l3Next.j3 kj22 l1 a2 false x9_2 x10_2 x11_1 x12_2 (wrap64 (((rd_T45 l1 x11_1).f0) + t176)) ((rd_T45 l1 x11_1).f2) a0_0 a0_1 a0_2 a0_3 t172 t173 t174 t175) = some r := by rw [if_neg (show ¬ (false = true) by decide)] at H; exact H
                clear H
                have H := H1
                clear H1
                have H' := Aside0.mk H
                clear H
                go_wp2
                go_meet
                case rel => exact ⟨_, (((rd_T45 l1 x11_1).f2)), (by first | rfl | (simp; done) | (simp [*]; done)), H', ⟨by have := HK1.out; have := HK2.out; have := HJ22.out; first | omega | exact Nat.le_refl _⟩, ⟨by (with_reducible repeat (first | apply Kd.R_alloc | apply Kd.R_drewN | apply Kd.R_drew)); exact HO_9.out⟩, ⟨by (with_reducible repeat (first | apply Kd.R_alloc | apply Kd.R_drewN | apply Kd.R_drew)); exact HO_10.out⟩, ⟨by (with_reducible repeat (first | refine blk_drewN ?_ _ | refine blk_drew ?_ | refine blk_alloc ?_ _)); exact BK162.out⟩, ⟨by (with_reducible repeat (first | refine blk_drewN ?_ _ | refine blk_drew ?_ | refine blk_alloc ?_ _)); exact BK177.out⟩, ⟨by repeat (first | (with_reducible first | exact HB.out | apply below_alloc | apply pw_below_drewN | apply below_drew1 | refine below_set ?_ GE162.out | refine below_set ?_ GE177.out) | exact HB.out)⟩⟩
              case rest =>
               clear HC48
               try clear p1
               try clear q1
               try clear hx1
               try clear p2
               try clear c3
               try clear c4
               try clear p6
               try clear p17
               try clear q17
               try clear hx17
               try clear c36
               try clear c37
               try clear c37b0
               try clear c37b1
               try clear c38
               try clear c39
               try clear c40
               try clear c41
               try clear c44
               try clear c47
               try clear c49
               try clear hcz39_0
               try clear hcz39_1
               try clear hcz39_2
               try clear hcz39_3
               try clear hcz42_0
               try clear hcz42_1
               try clear hcz42_2
               try clear hcz42_3
               try clear hcz45_0
               try clear hcz45_1
               try clear hcz45_2
               try clear hcz45_3
               try clear hfz39_0
               try clear hfz39_1
               try clear hfz39_2
               try clear hfz39_3
               try clear hfz42_0
               try clear hfz42_1
               try clear hfz42_2
               try clear hfz42_3
               try clear hfz45_0
               try clear hfz45_1
               try clear hfz45_2
               try clear hfz45_3
               try clear hx178_0
               try clear hx178_1
               try clear hx178_2
               try clear hx178_3
               try clear hx178_4
               try clear hx178_5
               try clear hx179_0
               try clear hx179_1
               try clear hx179_2
               try clear hx179_3
               try clear hx179_4
               try clear hx179_5
               try clear p1
               try clear p17
               try clear p178
               try clear p179
               try clear p2
               try clear p6
               try clear q1
               try clear q17
               try clear q178
               try clear q179
               obtain ⟨kq, x16_47, rfl, HA, HJ47, HO_9, HO_10, BK162, BK177, HB⟩ := hcut
               cases kq with
               | zero => exact absurd HA.out (by simp [spec_l3Next.j3])
               | succ kj47 =>
                have H := HA.out
                clear HA
                simp only [spec_l3Next.j3] at H
                replace H := Option.bind_eq_some_iff.mp H
                obtain ⟨t182, A510, H⟩ := H
                replace H : (if 0 ≤ t182 then (if t182 < (x10_2.length : Int) then (if (rd x10_2 t182) = 0 then (if x9_2.length < 2932031007402 then ((some (x9_2 ++ [(⟨(wrap64 (((rd_T45 l1 x11_1).f0) + t176)), (⟨t172, t173, t174, t175⟩ : S22), x16_47⟩ : S45)] : List (S45))).bind fun y184 => (spec_l3Next.l1 kj47 l1 a2 a3 y184 (x10_2.set (t182 : Int).toNat (y184.length : Int)) x11_1 (wrap64 (x12_2 + 1)) a0_0 a0_1 a0_2 a0_3)) else (none)) else (if a3 = true then (if 0 ≤ (wrap64 ((rd x10_2 t182) - 1)) then (if (wrap64 ((rd x10_2 t182) - 1)) < (x9_2.length : Int) then ((spec_l1Least.f ((rd_T45 x9_2 (wrap64 ((rd x10_2 t182) - 1))).f2) x16_47).bind fun t191 => (spec_l3Next.l1 kj47 l1 a2 a3 (x9_2.set ((wrap64 ((rd x10_2 t182) - 1)) : Int).toNat (⟨(rd_T45 x9_2 (wrap64 ((rd x10_2 t182) - 1))).f0, (⟨(rd_T45 x9_2 (wrap64 ((rd x10_2 t182) - 1))).f1.f0, (rd_T45 x9_2 (wrap64 ((rd x10_2 t182) - 1))).f1.f1, (rd_T45 x9_2 (wrap64 ((rd x10_2 t182) - 1))).f1.f2, (rd_T45 x9_2 (wrap64 ((rd x10_2 t182) - 1))).f1.f3⟩ : S22), t191⟩ : S45)) x10_2 x11_1 (wrap64 (x12_2 + 1)) a0_0 a0_1 a0_2 a0_3)) else (none)) else (none)) else (if 0 ≤ (wrap64 ((rd x10_2 t182) - 1)) then (if (wrap64 ((rd x10_2 t182) - 1)) < (x9_2.length : Int) then (spec_l3Next.l1 kj47 l1 a2 a3 (x9_2.set ((wrap64 ((rd x10_2 t182) - 1)) : Int).toNat (⟨(rd_T45 x9_2 (wrap64 ((rd x10_2 t182) - 1))).f0, (⟨(rd_T45 x9_2 (wrap64 ((rd x10_2 t182) - 1))).f1.f0, (rd_T45 x9_2 (wrap64 ((rd x10_2 t182) - 1))).f1.f1, (rd_T45 x9_2 (wrap64 ((rd x10_2 t182) - 1))).f1.f2, (rd_T45 x9_2 (wrap64 ((rd x10_2 t182) - 1))).f1.f3⟩ : S22), wrap64 (((rd_T45 x9_2 (wrap64 ((rd x10_2 t182) - 1))).f2) + x16_47)⟩ : S45)) x10_2 x11_1 (wrap64 (x12_2 + 1)) a0_0 a0_1 a0_2 a0_3) else (none)) else (none)))) else (none)) else (none)) = some r := H
                have A51 := Aside0.mk A510
                clear A510
                by_cases c52 : 0 ≤ t182
                ·rw [if_pos c52] at H
                 have c52b0 : decide (0 ≤ t182) = true := decide_eq_true c52
                 clear c52
                 by_cases c53 : t182 < (x10_2.length : Int)
                 ·rw [if_pos c53] at H
                  have c53b0 : decide (t182 < (x10_2.length : Int)) = true := decide_eq_true c53
                  clear c53
                  by_cases c54 : (rd x10_2 t182) = 0
                  ·rw [if_pos c54] at H
                   have c54b0 : ((rd x10_2 t182) == 0) = true := beq_iff_eq.mpr c54
                   have c54b1 : ((rd x10_2 t182) != 0) = false := bne_eq_false_iff_eq.mpr c54
                   clear c54
                   by_cases c55 : x9_2.length < 2932031007402
                   ·rw [if_pos c55] at H
                    have LMc55 := Aside0.mk c55
                    clear c55
                    obtain ⟨y184, hy184⟩ : ∃ y_ : List (S45), y_ = (x9_2 ++ [(⟨(wrap64 (((rd_T45 l1 x11_1).f0) + t176)), (⟨t172, t173, t174, t175⟩ : S22), x16_47⟩ : S45)]) := ⟨_, rfl⟩
                    replace H : (spec_l3Next.l1 kj47 l1 a2 a3 y184 (x10_2.set (t182 : Int).toNat (y184.length : Int)) x11_1 (wrap64 (x12_2 + 1)) a0_0 a0_1 a0_2 a0_3) = some r := by first | (rw [hy184]; with_reducible exact H) | (have H2_ := (Option.bind_some _ _).symm.trans H; rw [hy184]; with_reducible exact H2_) | (have H2_ := (Option.bind_some _ _).symm.trans H; with_reducible exact H2_) | with_reducible exact H | (rw [hy184]; exact H) | exact H
                    have Ny184 := Aside0.mk hy184
                    clear hy184
                    obtain ⟨y187, hy187⟩ : ∃ y_ : List Int, y_ = (x10_2.set (t182 : Int).toNat (y184.length : Int)) := ⟨_, rfl⟩
                    replace H : (spec_l3Next.l1 kj47 l1 a2 a3 y184 y187 x11_1 (wrap64 (x12_2 + 1)) a0_0 a0_1 a0_2 a0_3) = some r := by first | (rw [hy187]; with_reducible exact H) | (have H2_ := (Option.bind_some _ _).symm.trans H; rw [hy187]; with_reducible exact H2_) | (have H2_ := (Option.bind_some _ _).symm.trans H; with_reducible exact H2_) | with_reducible exact H | (rw [hy187]; exact H) | exact H
                    have Ny187 := Aside0.mk hy187
                    clear hy187
                    have H' := Aside0.mk H
                    clear H
                    have hnb57 := NB162_177.out
                    have hnc57 := NB177_162.out
                    have hcz58_0 : wc.cell? ⟨gb162, 0, none⟩ = some (.int .i64 a0_0) := (blk_cell BK162.out 0).trans rfl
                    have hcz58_1 : wc.cell? ⟨gb162, 1, none⟩ = some (.int .i64 a0_1) := (blk_cell BK162.out 1).trans rfl
                    have hcz58_2 : wc.cell? ⟨gb162, 2, none⟩ = some (.int .i64 a0_2) := (blk_cell BK162.out 2).trans rfl
                    have hcz58_3 : wc.cell? ⟨gb162, 3, none⟩ = some (.int .i64 a0_3) := (blk_cell BK162.out 3).trans rfl
                    have hfz58_0 := blk_frozen BK162.out 0
                    have hfz58_1 := blk_frozen BK162.out 1
                    have hfz58_2 := blk_frozen BK162.out 2
                    have hfz58_3 := blk_frozen BK162.out 3
                    have hcz59_0 : wc.cell? ⟨gb177, 0, none⟩ = some (.int .i64 t172) := (blk_cell BK177.out 0).trans rfl
                    have hcz59_1 : wc.cell? ⟨gb177, 1, none⟩ = some (.int .i64 t173) := (blk_cell BK177.out 1).trans rfl
                    have hcz59_2 : wc.cell? ⟨gb177, 2, none⟩ = some (.int .i64 t174) := (blk_cell BK177.out 2).trans rfl
                    have hcz59_3 : wc.cell? ⟨gb177, 3, none⟩ = some (.int .i64 t175) := (blk_cell BK177.out 3).trans rfl
                    have hfz59_0 := blk_frozen BK177.out 0
                    have hfz59_1 := blk_frozen BK177.out 1
                    have hfz59_2 := blk_frozen BK177.out 2
                    have hfz59_3 := blk_frozen BK177.out 3
                    go_wp2_with (first | ((with_reducible refine gate_callee (f := 31) rfl ?_); refine goesL_ (some 82) rfl rfl Try.func31 (by kernel_rfl) rfl #[.agg #[.int .i64 a0_0, .int .i64 a0_1, .int .i64 a0_2, .int .i64 a0_3], .int .i64 (wrap64 (((rd_T45 l1 x11_1).f0) + t176)), .agg #[.int .i64 t172, .int .i64 t173, .int .i64 t174, .int .i64 t175]] rfl (by (try simp only [List.map_toArray, List.map_cons, List.map_nil]); first | done | rfl | (simp only [List.length_drop, List.length_take]; rfl)) ?_; (with_reducible refine (spec_l3Id.calls a0_0 a0_1 a0_2 a0_3 (wrap64 (((rd_T45 l1 x11_1).f0) + t176)) t172 t173 t174 t175 t182 _ A51.out).mono ?_); rintro e w60 ⟨rfl, hb⟩; refine ⟨_, rfl, ?_⟩; have n0_ := Aside0.mk (Kd.R_below HO_9.out hb); have n1_ := Aside0.mk (Kd.R_below HO_10.out hb); have n2_ := Aside0.mk (blk_below BK162.out hb); have n3_ := Aside0.mk (blk_below BK177.out hb); have n4_ := Aside0.mk (below_step HB.out hb); clear HO_9; clear HO_10; clear BK162; clear BK177; clear HB; have HO_9 := n0_; have HO_10 := n1_; have BK162 := n2_; have BK177 := n3_; have HB := n4_; clear n0_ n1_ n2_ n3_ n4_; (try clear hb); (try clear hb2); (try clear hk); (try clear hi); obtain ⟨Ao61, co61, eo61⟩ := Kd.R_slice HO_10.out; subst eo61; have p183 : 0 ≤ (t182 : Int) := of_decide_eq_true (by first | (with_reducible assumption) | assumption); have q183 : t182 < (x10_2.length : Int) := of_decide_eq_true (by first | (with_reducible assumption) | assumption); obtain ⟨ad183, e183, hx183_0⟩ := Kd.at_int (Kd.R_reads' HO_10.out).2.2 t182 p183 q183; cases e183; replace p183 := eq_true p183; replace q183 := eq_true q183; have hcz62_0 : w60.cell? ⟨gb177, 0, none⟩ = some (.int .i64 t172) := (blk_cell BK177.out 0).trans rfl; have hcz62_1 : w60.cell? ⟨gb177, 1, none⟩ = some (.int .i64 t173) := (blk_cell BK177.out 1).trans rfl; have hcz62_2 : w60.cell? ⟨gb177, 2, none⟩ = some (.int .i64 t174) := (blk_cell BK177.out 2).trans rfl; have hcz62_3 : w60.cell? ⟨gb177, 3, none⟩ = some (.int .i64 t175) := (blk_cell BK177.out 3).trans rfl; have hfz62_0 := blk_frozen BK177.out 0; have hfz62_1 := blk_frozen BK177.out 1; have hfz62_2 := blk_frozen BK177.out 2; have hfz62_3 := blk_frozen BK177.out 3) | ((with_reducible refine gate_builtin (b := .append) (xs := #[.tmp 108, .tmp 113]) rfl ?_); at_builtin; refine Kd.R_append k45 (w0 := w) w.heap.size rfl (.tmp 108) (.tmp 113) 43 45 (.agg #[(.int .i64 0), (.int .i64 0), (.int .i64 0), (.int .i64 0), (.int .i64 0), (.int .i64 0)]) 48 rfl Try.underlying43 info45 rfl (by decide) (by omega) u9 x9_2 (⟨(wrap64 (((rd_T45 l1 x11_1).f0) + t176)), (⟨t172, t173, t174, t175⟩ : S22), x16_47⟩ : S45) [.int .i64 (wrap64 (((rd_T45 l1 x11_1).f0) + t176)), .int .i64 t172, .int .i64 t173, .int .i64 t174, .int .i64 t175, .int .i64 x16_47] (fun _ => True) (fun _ => False) rfl rfl ?aP (fun _ hk => hk.elim) ?aF ?aO ?aB ?aS ?aL ?_; (case aP => exact k45_mkM _ _ _ (⟨(wrap64 (((rd_T45 l1 x11_1).f0) + t176)), (⟨t172, t173, t174, t175⟩ : S22), x16_47⟩ : S45)); (case aB => exact HB.out); (case aF => exact (fun _ _ => trivial)); (case aO => exact HO_9.out); (case aS => exact (below_size HB.out)); (case aL => have := LMc55.out; omega); intro v185 w63 ho hb hg hat; rw [← Ny184.out] at ho; have n0_ := Aside0.mk (Kd.R_over' HO_10.out (Kd.R_typed HO_9.out) (by decide) hg); have n1_ := Aside0.mk (blk_grown BK162.out hg (Kd.R_ne HO_9.out BK162.out (by decide))); have n2_ := Aside0.mk (blk_grown BK177.out hg (Kd.R_ne HO_9.out BK177.out (by decide))); have n3_ := Aside0.mk (hb); have n4_ := Aside0.mk (ho); clear HO_10; clear BK162; clear BK177; clear HB; clear HO_9; have HO_10 := n0_; have BK162 := n1_; have BK177 := n2_; have HB := n3_; have HO186 := n4_; clear n0_ n1_ n2_ n3_ n4_; clear ho hb hg hat; obtain ⟨Ao64, co64, eo64⟩ := Kd.R_slice HO186.out; subst eo64; have p56 : 0 ≤ (t182 : Int) := of_decide_eq_true (by first | (with_reducible assumption) | assumption); have q56 : (t182 : Int) < ((x10_2.length : Int) : Int) := of_decide_eq_true (by first | (with_reducible assumption) | assumption); obtain ⟨go56, co56, eo56, gb56, gl56, cl56, HG56⟩ := Kd.R_form HO_10.out (by omega); (first | cases eo56 | (injection eo56 with ea_ en_ ec_; (first | subst ea_ | (injection ea_ with ea_; subst ea_)); subst ec_; clear en_)); have GB56 := Aside0.mk gb56; have GG56 := Aside0.mk HG56; clear gb56 gl56 HG56; (first | simp only [add_plain] at hx183_0 | skip); obtain ⟨hx56_0, hf56_0⟩ := Kd.R_celln 0 HO_10.out (t182 : Int) p56 q56; replace p56 := eq_true p56; replace q56 := eq_true q56; obtain ⟨hy65_, hz65_⟩ := Kd.R_celln 0 HO_10.out (t182 : Int) (of_decide_eq_true (by first | (with_reducible assumption) | assumption)) (of_decide_eq_true (by first | (with_reducible assumption) | assumption)); have HP65 := Kd.R_putg HO_10.out (t182 : Int) (y184.length : Int)) | ((with_reducible refine gate_store (t := 3) (p := 119) rfl ?_); refine store_event (t := 3) (p := 119) (v := ?vo_w66) (w1 := (w63.setCell ⟨go56, (t182 : Int).toNat, none⟩ (.int .i64 (y184.length : Int)))) ?hg ?ho ?hn ?hr ?_; (case ho => rfl); (case hg => rfl); (case hn => rfl); (case hr => first | (go_simp; done) | (go_simp; rfl)); intro w66 hw; have hg : w63.grownBy w66 (some go56) := (by rw [hw]; exact HP65.2); have hp_ : Kd.R (Kd.int .i64) 3 w66 w.heap.size (fun _ => True) (.slice (some ⟨go56, 0, none⟩) x10_2.length co61) y187 := (by rw [hw, Ny187.out]; exact HP65.1); clear HP65; have n0_ := Aside0.mk (hp_); have n1_ := Aside0.mk (blk_grown BK162.out hg (Kd.R_ne HO_10.out BK162.out (by decide))); have n2_ := Aside0.mk (blk_grown BK177.out hg (Kd.R_ne HO_10.out BK177.out (by decide))); have n3_ := Aside0.mk (Kd.R_over' (v := (.slice (some ⟨go56, 0, none⟩) x10_2.length co61)) HO186.out (Kd.R_typed HO_10.out) (by decide) hg); have n4_ := Aside0.mk ((by rw [hw]; exact below_set (HB.out) GB56.out : Below w.heap.size w w66)); clear HO_10; clear BK162; clear BK177; clear HO186; clear HB; have HO_10 := n0_; have BK162 := n1_; have BK177 := n2_; have HO186 := n3_; have HB := n4_; clear n0_ n1_ n2_ n3_ n4_; clear hg hw hp_))
                    go_roundg kj47
                    case measure => have := HK1.out; have := HK2.out; have := HJ22.out; have := HJ47.out; omega
                    case rel => exact ⟨(y184), (y187), (wrap64 (x12_2 + 1)), (by first | rfl | (simp; done) | (simp [*]; done)), H', ⟨by have := HK1.out; have := HK2.out; have := HJ22.out; have := HJ47.out; omega⟩, ⟨by (with_reducible repeat (first | apply Kd.R_alloc | apply Kd.R_drewN | apply Kd.R_drew)); exact HO186.out⟩, ⟨by (with_reducible repeat (first | apply Kd.R_alloc | apply Kd.R_drewN | apply Kd.R_drew)); exact HO_10.out⟩, ⟨by (with_reducible repeat (first | refine blk_drewN ?_ _ | refine blk_drew ?_ | refine blk_alloc ?_ _)); exact BK162.out⟩, ⟨by repeat (first | (with_reducible first | exact HB.out | apply below_alloc | apply pw_below_drewN | apply below_drew1 | refine below_set ?_ GE162.out | refine below_set ?_ GE177.out) | exact HB.out)⟩⟩
                   ·rw [if_neg c55] at H
                    exact absurd H (by simp)
                  ·rw [if_neg c54] at H
                   have c54b0 : ((rd x10_2 t182) == 0) = false := beq_eq_false_iff_ne.mpr c54
                   have c54b1 : ((rd x10_2 t182) != 0) = true := bne_iff_ne.mpr c54
                   by_cases c67 : a3 = true
                   ·subst c67
                    have H1 : (if 0 ≤ (wrap64 ((rd x10_2 t182) - 1)) then (if (wrap64 ((rd x10_2 t182) - 1)) < (x9_2.length : Int) then ((spec_l1Least.f ((rd_T45 x9_2 (wrap64 ((rd x10_2 t182) - 1))).f2) x16_47).bind fun t191 => (spec_l3Next.l1 kj47 l1 a2 true (x9_2.set ((wrap64 ((rd x10_2 t182) - 1)) : Int).toNat (⟨(rd_T45 x9_2 (wrap64 ((rd x10_2 t182) - 1))).f0, (⟨(rd_T45 x9_2 (wrap64 ((rd x10_2 t182) - 1))).f1.f0, (rd_T45 x9_2 (wrap64 ((rd x10_2 t182) - 1))).f1.f1, (rd_T45 x9_2 (wrap64 ((rd x10_2 t182) - 1))).f1.f2, (rd_T45 x9_2 (wrap64 ((rd x10_2 t182) - 1))).f1.f3⟩ : S22), t191⟩ : S45)) x10_2 x11_1 (wrap64 (x12_2 + 1)) a0_0 a0_1 a0_2 a0_3)) else (none)) else (none)) = some r := by rw [if_pos rfl] at H; exact H
                    clear H
                    have H := H1
                    clear H1
                    obtain ⟨ji68, hji68⟩ : ∃ j_ : Int, (wrap64 ((rd x10_2 t182) - 1)) = j_ := ⟨_, rfl⟩
                    replace H : (if 0 ≤ (ji68) then (if (ji68) < (x9_2.length : Int) then ((spec_l1Least.f ((rd_T45 x9_2 (ji68)).f2) x16_47).bind fun t191 => (spec_l3Next.l1 kj47 l1 a2 true (x9_2.set ((ji68) : Int).toNat (⟨(rd_T45 x9_2 (ji68)).f0, (⟨(rd_T45 x9_2 (ji68)).f1.f0, (rd_T45 x9_2 (ji68)).f1.f1, (rd_T45 x9_2 (ji68)).f1.f2, (rd_T45 x9_2 (ji68)).f1.f3⟩ : S22), t191⟩ : S45)) x10_2 x11_1 (wrap64 (x12_2 + 1)) a0_0 a0_1 a0_2 a0_3)) else (none)) else (none)) = some r := by first | (rw [hji68] at H; exact H) | (simp only [hji68] at H ⊢; exact H)
                    (try rw [hji68] at A51)
                    have hji68w : (IntKind.i64.wrap ((rd x10_2 t182) - 1)) = ji68 := (i64_w _).trans hji68
                    by_cases c69 : 0 ≤ (ji68)
                    ·rw [if_pos c69] at H
                     have c69b0 : decide (0 ≤ (ji68)) = true := decide_eq_true c69
                     clear c69
                     by_cases c70 : (ji68) < (x9_2.length : Int)
                     ·rw [if_pos c70] at H
                      have c70b0 : decide ((ji68) < (x9_2.length : Int)) = true := decide_eq_true c70
                      clear c70
                      replace H := Option.bind_eq_some_iff.mp H
                      obtain ⟨t191, A710, H⟩ := H
                      replace H : (spec_l3Next.l1 kj47 l1 a2 true (x9_2.set ((ji68) : Int).toNat (⟨(rd_T45 x9_2 (ji68)).f0, (⟨(rd_T45 x9_2 (ji68)).f1.f0, (rd_T45 x9_2 (ji68)).f1.f1, (rd_T45 x9_2 (ji68)).f1.f2, (rd_T45 x9_2 (ji68)).f1.f3⟩ : S22), t191⟩ : S45)) x10_2 x11_1 (wrap64 (x12_2 + 1)) a0_0 a0_1 a0_2 a0_3) = some r := H
                      have A71 := Aside0.mk A710
                      clear A710
                      obtain ⟨y192, hy192⟩ : ∃ y_ : List (S45), y_ = (x9_2.set ((ji68) : Int).toNat (⟨(rd_T45 x9_2 (ji68)).f0, (⟨(rd_T45 x9_2 (ji68)).f1.f0, (rd_T45 x9_2 (ji68)).f1.f1, (rd_T45 x9_2 (ji68)).f1.f2, (rd_T45 x9_2 (ji68)).f1.f3⟩ : S22), t191⟩ : S45)) := ⟨_, rfl⟩
                      replace H : (spec_l3Next.l1 kj47 l1 a2 true y192 x10_2 x11_1 (wrap64 (x12_2 + 1)) a0_0 a0_1 a0_2 a0_3) = some r := by first | (rw [hy192]; with_reducible exact H) | (have H2_ := (Option.bind_some _ _).symm.trans H; rw [hy192]; with_reducible exact H2_) | (have H2_ := (Option.bind_some _ _).symm.trans H; with_reducible exact H2_) | with_reducible exact H | (rw [hy192]; exact H) | exact H
                      have Ny192 := Aside0.mk hy192
                      clear hy192
                      have H' := Aside0.mk H
                      clear H
                      have hnb73 := NB162_177.out
                      have hnc73 := NB177_162.out
                      have hcz74_0 : wc.cell? ⟨gb162, 0, none⟩ = some (.int .i64 a0_0) := (blk_cell BK162.out 0).trans rfl
                      have hcz74_1 : wc.cell? ⟨gb162, 1, none⟩ = some (.int .i64 a0_1) := (blk_cell BK162.out 1).trans rfl
                      have hcz74_2 : wc.cell? ⟨gb162, 2, none⟩ = some (.int .i64 a0_2) := (blk_cell BK162.out 2).trans rfl
                      have hcz74_3 : wc.cell? ⟨gb162, 3, none⟩ = some (.int .i64 a0_3) := (blk_cell BK162.out 3).trans rfl
                      have hfz74_0 := blk_frozen BK162.out 0
                      have hfz74_1 := blk_frozen BK162.out 1
                      have hfz74_2 := blk_frozen BK162.out 2
                      have hfz74_3 := blk_frozen BK162.out 3
                      have hcz75_0 : wc.cell? ⟨gb177, 0, none⟩ = some (.int .i64 t172) := (blk_cell BK177.out 0).trans rfl
                      have hcz75_1 : wc.cell? ⟨gb177, 1, none⟩ = some (.int .i64 t173) := (blk_cell BK177.out 1).trans rfl
                      have hcz75_2 : wc.cell? ⟨gb177, 2, none⟩ = some (.int .i64 t174) := (blk_cell BK177.out 2).trans rfl
                      have hcz75_3 : wc.cell? ⟨gb177, 3, none⟩ = some (.int .i64 t175) := (blk_cell BK177.out 3).trans rfl
                      have hfz75_0 := blk_frozen BK177.out 0
                      have hfz75_1 := blk_frozen BK177.out 1
                      have hfz75_2 := blk_frozen BK177.out 2
                      have hfz75_3 := blk_frozen BK177.out 3
                      try go_wp2_with (first | ((with_reducible refine gate_callee (f := 31) rfl ?_); refine goesL_ (some 82) rfl rfl Try.func31 (by kernel_rfl) rfl #[.agg #[.int .i64 a0_0, .int .i64 a0_1, .int .i64 a0_2, .int .i64 a0_3], .int .i64 (wrap64 (((rd_T45 l1 x11_1).f0) + t176)), .agg #[.int .i64 t172, .int .i64 t173, .int .i64 t174, .int .i64 t175]] rfl (by (try simp only [List.map_toArray, List.map_cons, List.map_nil]); first | done | rfl | (simp only [List.length_drop, List.length_take]; rfl)) ?_; (with_reducible refine (spec_l3Id.calls a0_0 a0_1 a0_2 a0_3 (wrap64 (((rd_T45 l1 x11_1).f0) + t176)) t172 t173 t174 t175 t182 _ A51.out).mono ?_); rintro e w76 ⟨rfl, hb⟩; refine ⟨_, rfl, ?_⟩; have n0_ := Aside0.mk (Kd.R_below HO_9.out hb); have n1_ := Aside0.mk (Kd.R_below HO_10.out hb); have n2_ := Aside0.mk (blk_below BK162.out hb); have n3_ := Aside0.mk (blk_below BK177.out hb); have n4_ := Aside0.mk (below_step HB.out hb); clear HO_9; clear HO_10; clear BK162; clear BK177; clear HB; have HO_9 := n0_; have HO_10 := n1_; have BK162 := n2_; have BK177 := n3_; have HB := n4_; clear n0_ n1_ n2_ n3_ n4_; (try clear hb); (try clear hb2); (try clear hk); (try clear hi); obtain ⟨Ao77, co77, eo77⟩ := Kd.R_slice HO_10.out; subst eo77; have p183 : 0 ≤ (t182 : Int) := of_decide_eq_true (by first | (with_reducible assumption) | assumption); have q183 : t182 < (x10_2.length : Int) := of_decide_eq_true (by first | (with_reducible assumption) | assumption); obtain ⟨ad183, e183, hx183_0⟩ := Kd.at_int (Kd.R_reads' HO_10.out).2.2 t182 p183 q183; cases e183; replace p183 := eq_true p183; replace q183 := eq_true q183))
                      have n0_ := Aside0.mk (Kd.R_drew HO_9.out)
                      have n1_ := Aside0.mk (Kd.R_drew HO_10.out)
                      have n2_ := Aside0.mk (blk_drew BK162.out)
                      have n3_ := Aside0.mk (blk_drew BK177.out)
                      have n4_ := Aside0.mk (below_drew1 HB.out)
                      clear HO_9
                      clear HO_10
                      clear BK162
                      clear BK177
                      clear HB
                      have HO_9 := n0_
                      have HO_10 := n1_
                      have BK162 := n2_
                      have BK177 := n3_
                      have HB := n4_
                      clear n0_ n1_ n2_ n3_ n4_
                      have p188 : 0 ≤ (t182 : Int) := of_decide_eq_true (by first | (with_reducible assumption) | assumption)
                      have q188 : t182 < (x10_2.length : Int) := of_decide_eq_true (by first | (with_reducible assumption) | assumption)
                      obtain ⟨ad188, e188, hx188_0⟩ := Kd.at_int (Kd.R_reads' HO_10.out).2.2 t182 p188 q188
                      obtain rfl : ad183 = ad188 := (by injection e188)
                      replace p188 := eq_true p188
                      replace q188 := eq_true q188
                      have p189 : 0 ≤ (t182 : Int) := of_decide_eq_true (by first | (with_reducible assumption) | assumption)
                      have q189 : t182 < (x10_2.length : Int) := of_decide_eq_true (by first | (with_reducible assumption) | assumption)
                      obtain ⟨ad189, e189, hx189_0⟩ := Kd.at_int (Kd.R_reads' HO_10.out).2.2 t182 p189 q189
                      obtain rfl : ad183 = ad189 := (by injection e189)
                      replace p189 := eq_true p189
                      replace q189 := eq_true q189
                      obtain ⟨Ao79, co79, eo79⟩ := Kd.R_slice HO_9.out
                      (first | subst eo79 | (injection eo79 with f1_ f2_ f3_; have f4_ := f1_.symm; have f5_ := f3_.symm; clear f1_ f2_ f3_; subst f4_; subst f5_))
                      have p190 : 0 ≤ ((ji68) : Int) := of_decide_eq_true (by first | (with_reducible assumption) | assumption)
                      have q190 : (ji68) < (x9_2.length : Int) := of_decide_eq_true (by first | (with_reducible assumption) | assumption)
                      obtain ⟨ad190, e190, hx190_0, hx190_1, hx190_2, hx190_3, hx190_4, hx190_5⟩ := at_T45 (Kd.R_reads' HO_9.out).2.2 (ji68) p190 q190
                      cases e190
                      replace p190 := eq_true p190
                      replace q190 := eq_true q190
                      refine start_ (n := 20) (S := fun w' => w'.cell? (ad183.add (t182).toNat) = some (.int .i64 (rd x10_2 t182)) ∧ w'.cell? (ad183.add (t182).toNat) = some (.int .i64 (rd x10_2 t182)) ∧ w'.cell? (ad190.add (((ji68)).toNat * 6)) = some (.int .i64 ((rd_T45 x9_2 (ji68)).f0)) ∧ w'.cell? ⟨(ad190.add (((ji68)).toNat * 6)).block, (ad190.add (((ji68)).toNat * 6)).off + 1, none⟩ = some (.int .i64 ((rd_T45 x9_2 (ji68)).f1.f0)) ∧ w'.cell? ⟨(ad190.add (((ji68)).toNat * 6)).block, (ad190.add (((ji68)).toNat * 6)).off + 2, none⟩ = some (.int .i64 ((rd_T45 x9_2 (ji68)).f1.f1)) ∧ w'.cell? ⟨(ad190.add (((ji68)).toNat * 6)).block, (ad190.add (((ji68)).toNat * 6)).off + 3, none⟩ = some (.int .i64 ((rd_T45 x9_2 (ji68)).f1.f2)) ∧ w'.cell? ⟨(ad190.add (((ji68)).toNat * 6)).block, (ad190.add (((ji68)).toNat * 6)).off + 4, none⟩ = some (.int .i64 ((rd_T45 x9_2 (ji68)).f1.f3)) ∧ w'.cell? ⟨(ad190.add (((ji68)).toNat * 6)).block, (ad190.add (((ji68)).toNat * 6)).off + 5, none⟩ = some (.int .i64 ((rd_T45 x9_2 (ji68)).f2))) (ds := [19]) #[false, false, false, false, false, false, false, false, false, false, false, false, false, false, false, false, false, false, false, false] (by kernel_rfl) rfl rfl ⟨hx188_0, hx189_0, hx190_0, hx190_1, hx190_2, hx190_3, hx190_4, hx190_5⟩ (fun hHeld => ?_); refine with_tabW spec_l3Next.tab19 spec_l3Next.bits19 (fun HT_ HW_ => ?_)
                      generalize w76.drew = w78 at HO_9 HO_10 BK162 BK177 HB hx188_0 hx189_0 hx190_0 hx190_1 hx190_2 hx190_3 hx190_4 hx190_5 hHeld ⊢
                      refine pure_ (i := 0) (N := some 122) (v := ?_) (a' := ?_) #[true, false, false, false, false, false, false, false, false, false, false, false, false, false, false, false, false, false, false, false] rfl rfl (any_of HT_.out (by kernel_rfl)) (fun _ _ _ h => h) (Or.inl ⟨by rfl, ?_⟩) ?_ ?_
                      rotate_left
                      ·intro w'
                       go_simp
                       with_reducible rfl
                      rotate_left
                      ·simp only [Act.put, q1, q2, q3, i64_w, i32_w]
                       rfl
                      refine pure_ (i := 1) (N := some 123) (v := ?_) (a' := ?_) #[true, true, false, false, false, false, false, false, false, false, false, false, false, false, false, false, false, false, false, false] rfl rfl (any_of HT_.out (by kernel_rfl)) (fun _ _ _ h => h) (Or.inl ⟨by rfl, ?_⟩) ?_ ?_
                      rotate_left
                      ·intro w'
                       go_simp
                       with_reducible rfl
                      rotate_left
                      ·simp only [Act.put, q1, q2, q3, i64_w, i32_w]
                       rfl
                      refine pure_ (i := 2) (N := some 124) (v := ?_) (a' := ?_) #[true, true, true, false, false, false, false, false, false, false, false, false, false, false, false, false, false, false, false, false] rfl rfl (any_of HT_.out (by kernel_rfl)) (fun _ _ _ h => h) (Or.inl ⟨by rfl, ?_⟩) ?_ ?_
                      rotate_left
                      ·intro w'
                       go_simp
                       with_reducible rfl
                      rotate_left
                      ·simp only [Act.put, q1, q2, q3, i64_w, i32_w]
                       rfl
                      refine pure_ (i := 3) (N := some 125) (v := ?_) (a' := ?_) #[true, true, true, true, false, false, false, false, false, false, false, false, false, false, false, false, false, false, false, false] rfl rfl (any_of HT_.out (by kernel_rfl)) (fun _ _ _ h => h) (Or.inl ⟨by rfl, ?_⟩) ?_ ?_
                      rotate_left
                      ·intro w'
                       go_simp
                       with_reducible rfl
                      rotate_left
                      ·simp only [Act.put, q1, q2, q3, i64_w, i32_w]
                       rfl
                      refine pure_ (i := 6) (N := some 128) (v := ?_) (a' := ?_) #[true, true, true, true, false, false, true, false, false, false, false, false, false, false, false, false, false, false, false, false] rfl rfl (any_of HT_.out (by kernel_rfl)) (fun _ _ _ h => h) (Or.inl ⟨by rfl, ?_⟩) ?_ ?_
                      rotate_left
                      ·intro w'
                       go_simp
                       with_reducible rfl
                      rotate_left
                      ·simp only [Act.put, q1, q2, q3, i64_w, i32_w]
                       rfl
                      refine pure_ (i := 7) (N := some 129) (v := ?_) (a' := ?_) #[true, true, true, true, false, false, true, true, false, false, false, false, false, false, false, false, false, false, false, false] rfl rfl (any_of HT_.out (by kernel_rfl)) (fun _ _ _ h => h) (Or.inl ⟨by rfl, ?_⟩) ?_ ?_
                      rotate_left
                      ·intro w'
                       go_simp
                       with_reducible rfl
                      rotate_left
                      ·simp only [Act.put, q1, q2, q3, i64_w, i32_w]
                       rfl
                      refine pure_ (i := 8) (N := some 130) (v := ?_) (a' := ?_) #[true, true, true, true, false, false, true, true, true, false, false, false, false, false, false, false, false, false, false, false] rfl rfl (any_of HT_.out (by kernel_rfl)) (fun _ _ _ h => h) (Or.inl ⟨by rfl, ?_⟩) ?_ ?_
                      rotate_left
                      ·intro w'
                       go_simp
                       with_reducible rfl
                      rotate_left
                      ·simp only [Act.put, q1, q2, q3, i64_w, i32_w]
                       rfl
                      refine pure_ (i := 9) (N := some 131) (v := ?_) (a' := ?_) #[true, true, true, true, false, false, true, true, true, true, false, false, false, false, false, false, false, false, false, false] rfl rfl (any_of HT_.out (by kernel_rfl)) (fun _ _ _ h => h) (Or.inl ⟨by rfl, ?_⟩) ?_ ?_
                      rotate_left
                      ·intro w'
                       go_simp
                       with_reducible rfl
                      rotate_left
                      ·simp only [Act.put, q1, q2, q3, i64_w, i32_w]
                       rfl
                      refine pure_ (i := 15) (N := some 137) (v := ?_) (a' := ?_) #[true, true, true, true, false, false, true, true, true, true, false, false, false, false, false, true, false, false, false, false] rfl rfl (any_of HT_.out (by kernel_rfl)) (fun _ _ _ h => h) (Or.inl ⟨by rfl, ?_⟩) ?_ ?_
                      rotate_left
                      ·intro w'
                       go_simp
                       with_reducible rfl
                      rotate_left
                      ·simp only [Act.put, q1, q2, q3, i64_w, i32_w]
                       rfl
                      refine take_ (i := 4) (N := some 126) (v := ?_) (a' := ?_) #[true, true, true, true, true, false, true, true, true, true, false, false, false, false, false, true, false, false, false, false] rfl rfl (take_ofW HT_.out HW_.out (by kernel_rfl)) (fun _ _ _ h => h) (Or.inl ⟨by rfl, ?_⟩) hHeld ?_ ?_
                      rotate_left
                      ·rintro w' ⟨s0, s1, s2, s3, s4, s5, s6, s7⟩
                       go_simp
                       with_reducible rfl
                      rotate_left
                      ·simp only [Act.put, q1, q2, q3, i64_w, i32_w]
                       rfl
                      refine pure_ (i := 5) (N := some 127) (v := ?_) (a' := ?_) #[true, true, true, true, true, true, true, true, true, true, false, false, false, false, false, true, false, false, false, false] rfl rfl (any_of HT_.out (by kernel_rfl)) (fun _ _ _ h => h) (Or.inl ⟨by rfl, ?_⟩) ?_ ?_
                      rotate_left
                      ·intro w'
                       go_simp
                       with_reducible rfl
                      rotate_left
                      ·simp only [Act.put, q1, q2, q3, i64_w, i32_w]
                       rfl
                      refine take_ (i := 10) (N := some 132) (v := ?_) (a' := ?_) #[true, true, true, true, true, true, true, true, true, true, true, false, false, false, false, true, false, false, false, false] rfl rfl (take_ofW HT_.out HW_.out (by kernel_rfl)) (fun _ _ _ h => h) (Or.inl ⟨by rfl, ?_⟩) hHeld ?_ ?_
                      rotate_left
                      ·rintro w' ⟨s0, s1, s2, s3, s4, s5, s6, s7⟩
                       go_simp
                       with_reducible rfl
                      rotate_left
                      ·simp only [Act.put, q1, q2, q3, i64_w, i32_w]
                       rfl
                      refine pure_ (i := 11) (N := some 133) (v := ?_) (a' := ?_) #[true, true, true, true, true, true, true, true, true, true, true, true, false, false, false, true, false, false, false, false] rfl rfl (any_of HT_.out (by kernel_rfl)) (fun _ _ _ h => h) (Or.inl ⟨by rfl, ?_⟩) ?_ ?_
                      rotate_left
                      ·intro w'
                       go_simp
                       with_reducible rfl
                      rotate_left
                      ·simp only [Act.put, q1, q2, q3, i64_w, i32_w]
                       rfl
                      refine pure_ (i := 12) (N := some 134) (v := ?_) (a' := ?_) #[true, true, true, true, true, true, true, true, true, true, true, true, true, false, false, true, false, false, false, false] rfl rfl (any_of HT_.out (by kernel_rfl)) (fun _ _ _ h => h) (Or.inl ⟨by rfl, ?_⟩) ?_ ?_
                      rotate_left
                      ·intro w'
                       go_simp
                       with_reducible rfl
                      rotate_left
                      ·simp only [Act.put, q1, q2, q3, i64_w, i32_w]
                       rfl
                      refine pure_ (i := 13) (N := some 135) (v := ?_) (a' := ?_) #[true, true, true, true, true, true, true, true, true, true, true, true, true, true, false, true, false, false, false, false] rfl rfl (any_of HT_.out (by kernel_rfl)) (fun _ _ _ h => h) (Or.inl ⟨by rfl, ?_⟩) ?_ ?_
                      rotate_left
                      ·intro w'
                       go_simp
                       with_reducible rfl
                      rotate_left
                      ·simp only [Act.put, q1, q2, q3, i64_w, i32_w]
                       rfl
                      refine take_ (i := 14) (N := some 136) (v := ?_) (a' := ?_) #[true, true, true, true, true, true, true, true, true, true, true, true, true, true, true, true, false, false, false, false] rfl rfl (take_ofW HT_.out HW_.out (by kernel_rfl)) (fun _ _ _ h => h) (Or.inl ⟨by rfl, ?_⟩) hHeld ?_ ?_
                      rotate_left
                      ·rintro w' ⟨s0, s1, s2, s3, s4, s5, s6, s7⟩
                       go_simp
                       with_reducible rfl
                      rotate_left
                      ·simp only [Act.put, q1, q2, q3, i64_w, i32_w]
                       rfl
                      refine one_ (i := 16) (N := some 138) #[true, true, true, true, true, true, true, true, true, true, true, true, true, true, true, true, true, false, false, false] rfl rfl (one_of HT_.out (by kernel_rfl)) (by decide) (fun K hK => ?_)
                      refine goes_ Try.func42 (by kernel_rfl) rfl #[.int .i64 ((rd_T45 x9_2 (ji68)).f2), .int .i64 x16_47] (by rfl) rfl rfl (by (try simp only [List.map_toArray, List.map_cons, List.map_nil]); first | done | (simp only [hji68]; rfl) | rfl | (simp only [List.length_drop, List.length_take]; rfl)) ?_
                      with_reducible refine (spec_l1Least.calls ((rd_T45 x9_2 (ji68)).f2) x16_47 t191 _ A71.out).mono ?_
                      rintro e w' ⟨rfl, ⟨nd, rfl⟩⟩
                      refine ⟨_, rfl, ?_⟩
                      have p72 : 0 ≤ ((ji68) : Int) := of_decide_eq_true (by first | (with_reducible assumption) | assumption)
                      have q72 : ((ji68) : Int) < ((x9_2.length : Int) : Int) := of_decide_eq_true (by first | (with_reducible assumption) | assumption)
                      obtain ⟨go72, co72, eo72, gb72, gl72, cl72, HG72⟩ := Kd.R_form HO_9.out (by omega)
                      (first | cases eo72 | (injection eo72 with ea_ en_ ec_; (first | subst ea_ | (injection ea_ with ea_; subst ea_)); subst ec_; clear en_))
                      have GB72 := Aside0.mk gb72
                      have GG72 := Aside0.mk HG72
                      clear gb72 gl72 HG72
                      (first | simp only [add_plain] at hx190_0 | skip)
                      (first | simp only [add_plain] at hx190_1 | skip)
                      (first | simp only [add_plain] at hx190_2 | skip)
                      (first | simp only [add_plain] at hx190_3 | skip)
                      (first | simp only [add_plain] at hx190_4 | skip)
                      (first | simp only [add_plain] at hx190_5 | skip)
                      obtain ⟨ce72, hcl72, hM72, hcc72, hfr72⟩ := Kd.R_elem HO_9.out z45 ((ji68) : Int) p72 q72
                      obtain rfl := k45_openM hM72
                      have hx72_0 : World.cell? _ ⟨go72, ((ji68) : Int).toNat * 6, none⟩ = some (.int .i64 ((rd_T45 x9_2 (ji68)).f0)) := hcc72 0 _ rfl
                      have hx72_1 : World.cell? _ ⟨go72, ((ji68) : Int).toNat * 6 + 1, none⟩ = some (.int .i64 ((rd_T45 x9_2 (ji68)).f1.f0)) := hcc72 1 _ rfl
                      have hx72_2 : World.cell? _ ⟨go72, ((ji68) : Int).toNat * 6 + 2, none⟩ = some (.int .i64 ((rd_T45 x9_2 (ji68)).f1.f1)) := hcc72 2 _ rfl
                      have hx72_3 : World.cell? _ ⟨go72, ((ji68) : Int).toNat * 6 + 3, none⟩ = some (.int .i64 ((rd_T45 x9_2 (ji68)).f1.f2)) := hcc72 3 _ rfl
                      have hx72_4 : World.cell? _ ⟨go72, ((ji68) : Int).toNat * 6 + 4, none⟩ = some (.int .i64 ((rd_T45 x9_2 (ji68)).f1.f3)) := hcc72 4 _ rfl
                      have hx72_5 : World.cell? _ ⟨go72, ((ji68) : Int).toNat * 6 + 5, none⟩ = some (.int .i64 ((rd_T45 x9_2 (ji68)).f2)) := hcc72 5 _ rfl
                      have hf72_0 : World.frozen? _ ⟨go72, ((ji68) : Int).toNat * 6, none⟩ = false := hfr72 0
                      have hf72_1 : World.frozen? _ ⟨go72, ((ji68) : Int).toNat * 6 + 1, none⟩ = false := hfr72 1
                      have hf72_2 : World.frozen? _ ⟨go72, ((ji68) : Int).toNat * 6 + 2, none⟩ = false := hfr72 2
                      have hf72_3 : World.frozen? _ ⟨go72, ((ji68) : Int).toNat * 6 + 3, none⟩ = false := hfr72 3
                      have hf72_4 : World.frozen? _ ⟨go72, ((ji68) : Int).toNat * 6 + 4, none⟩ = false := hfr72 4
                      have hf72_5 : World.frozen? _ ⟨go72, ((ji68) : Int).toNat * 6 + 5, none⟩ = false := hfr72 5
                      clear hcl72 hcc72 hfr72 hM72
                      replace p72 := eq_true p72
                      replace q72 := eq_true q72
                      obtain ⟨ce80, hcl80, hM80, hcc80, hfr80⟩ := Kd.R_elem HO_9.out z45 ((ji68) : Int) (of_decide_eq_true (by first | (with_reducible assumption) | assumption)) (by have h_ : ((ji68) : Int) < ((x9_2.length : Int) : Int) := of_decide_eq_true (by first | (with_reducible assumption) | assumption); first | exact h_ | (have e_ := (Kd.R_reads' HO_9.out).1; omega) | simpa using h_)
                      obtain rfl := k45_openM hM80
                      have HP80 := (Kd.R_seg HO_9.out ((ji68) : Int) (of_decide_eq_true (by first | (with_reducible assumption) | assumption)) (by have h_ : ((ji68) : Int) < ((x9_2.length : Int) : Int) := of_decide_eq_true (by first | (with_reducible assumption) | assumption); first | exact h_ | (have e_ := (Kd.R_reads' HO_9.out).1; omega) | simpa using h_) (seg := [.int .i64 t191]) (j := 5) hcl80 hcc80 (show 6 ≤ 6 from by decide) (x' := (⟨(rd_T45 x9_2 (ji68)).f0, (⟨(rd_T45 x9_2 (ji68)).f1.f0, (rd_T45 x9_2 (ji68)).f1.f1, (rd_T45 x9_2 (ji68)).f1.f2, (rd_T45 x9_2 (ji68)).f1.f3⟩ : S22), t191⟩ : S45)) (k45_mkM _ _ _ (⟨(rd_T45 x9_2 (ji68)).f0, (⟨(rd_T45 x9_2 (ji68)).f1.f0, (rd_T45 x9_2 (ji68)).f1.f1, (rd_T45 x9_2 (ji68)).f1.f2, (rd_T45 x9_2 (ji68)).f1.f3⟩ : S22), t191⟩ : S45) ) (fun _ hk => hk)).1
                      rw [← Ny192.out] at HP80
                      have HQ80 := Aside0.mk HP80
                      clear hcl80 hcc80 hfr80 hM80 HP80
                      refine hK.out _ _ ⟨hHeld.1, hHeld.2.1, hHeld.2.2.1, hHeld.2.2.2.1, hHeld.2.2.2.2.1, hHeld.2.2.2.2.2.1, hHeld.2.2.2.2.2.2.1, hHeld.2.2.2.2.2.2.2⟩ (fun hHeld => ?_)
                      clear hK K
                      refine norm_ (a' := ?_) ?_ ?_
                      rotate_left
                      ·show Act.put _ (some 138) _ = _
                       simp only [Act.put, q1, q2, q3, i64_w, i32_w]
                       rfl
                      refine pure_ (i := 17) (N := some 139) (v := ?_) (a' := ?_) #[true, true, true, true, true, true, true, true, true, true, true, true, true, true, true, true, true, true, false, false] rfl rfl (any_of HT_.out (by kernel_rfl)) (fun _ _ _ h => h) (Or.inl ⟨by rfl, ?_⟩) ?_ ?_
                      rotate_left
                      ·intro w'
                       go_simp
                       with_reducible rfl
                      rotate_left
                      ·simp only [Act.put, q1, q2, q3, i64_w, i32_w]
                       rfl
                      refine pure_ (i := 18) (N := some 140) (v := ?_) (a' := ?_) #[true, true, true, true, true, true, true, true, true, true, true, true, true, true, true, true, true, true, true, false] rfl rfl (any_of HT_.out (by kernel_rfl)) (fun _ _ _ h => h) (Or.inl ⟨by rfl, ?_⟩) ?_ ?_
                      rotate_left
                      ·intro w'
                       go_simp
                       with_reducible rfl
                      rotate_left
                      ·simp only [Act.put, q1, q2, q3, i64_w, i32_w]
                       rfl
                      refine last_ (i := 19) (N := none) #[true, true, true, true, true, true, true, true, true, true, true, true, true, true, true, true, true, true, true, true] rfl rfl (one_of HT_.out (by kernel_rfl)) (by decide) (fun K hK => ?_)
                      refine skip_ (w1 := ?_) (by rfl) rfl ?_ ?_
                      rotate_left
                      ·go_simp
                       rfl
                      refine hK.out _ _ ?_
                      clear hK K
                      refine done_ (done_of HT_.out (by kernel_rfl)) ?_
                      try go_wp2
                      go_roundg kj47
                      case measure => have := HK1.out; have := HK2.out; have := HJ22.out; have := HJ47.out; omega
                      case rel => exact ⟨(y192), (x10_2), (wrap64 (x12_2 + 1)), (by first | rfl | (simp; done) | (simp [*]; done)), H', ⟨by have := HK1.out; have := HK2.out; have := HJ22.out; have := HJ47.out; omega⟩, ⟨by (with_reducible repeat (first | apply Kd.R_alloc | apply Kd.R_drewN | apply Kd.R_drew)); exact HQ80.out⟩, ⟨by (with_reducible repeat (first | apply Kd.R_alloc | apply Kd.R_drewN | apply Kd.R_drew)); exact Kd.R_mono (Kd.R_far (p := ⟨go72, ((ji68) : Int).toNat * 6 + 5, none⟩) (Kd.R_types HO_10.out GG72.out (by decide)) (fun _ hk => hk.2) (.int .i64 t191)) (fun _ hk => trivial)⟩, ⟨by (with_reducible repeat (first | refine blk_drewN ?_ _ | refine blk_drew ?_ | refine blk_alloc ?_ _)); refine blk_far ?_ (by have h_ := Kd.R_ne HO_9.out BK162.out (by decide); intro e_; exact h_ (by rw [e_]; rfl)) _; (with_reducible repeat (first | refine blk_drewN ?_ _ | refine blk_drew ?_ | refine blk_alloc ?_ _)); exact BK162.out⟩, ⟨by repeat (first | (with_reducible first | exact HB.out | apply below_alloc | apply pw_below_drewN | apply below_drew1 | refine below_set ?_ GB72.out | refine below_set ?_ GE162.out | refine below_set ?_ GE177.out) | exact HB.out)⟩⟩
                     ·rw [if_neg c70] at H
                      exact absurd H (by simp)
                    ·rw [if_neg c69] at H
                     exact absurd H (by simp)
                   ·replace c67 := Bool.eq_false_iff.mpr c67
                    subst c67
                    have H1 : (if 0 ≤ (wrap64 ((rd x10_2 t182) - 1)) then (if (wrap64 ((rd x10_2 t182) - 1)) < (x9_2.length : Int) then (spec_l3Next.l1 kj47 l1 a2 false (x9_2.set ((wrap64 ((rd x10_2 t182) - 1)) : Int).toNat (⟨(rd_T45 x9_2 (wrap64 ((rd x10_2 t182) - 1))).f0, (⟨(rd_T45 x9_2 (wrap64 ((rd x10_2 t182) - 1))).f1.f0, (rd_T45 x9_2 (wrap64 ((rd x10_2 t182) - 1))).f1.f1, (rd_T45 x9_2 (wrap64 ((rd x10_2 t182) - 1))).f1.f2, (rd_T45 x9_2 (wrap64 ((rd x10_2 t182) - 1))).f1.f3⟩ : S22), wrap64 (((rd_T45 x9_2 (wrap64 ((rd x10_2 t182) - 1))).f2) + x16_47)⟩ : S45)) x10_2 x11_1 (wrap64 (x12_2 + 1)) a0_0 a0_1 a0_2 a0_3) else (none)) else (none)) = some r := by rw [if_neg (show ¬ (false = true) by decide)] at H; exact H
                    clear H
                    have H := H1
                    clear H1
                    obtain ⟨ji81, hji81⟩ : ∃ j_ : Int, (wrap64 ((rd x10_2 t182) - 1)) = j_ := ⟨_, rfl⟩
                    replace H : (if 0 ≤ (ji81) then (if (ji81) < (x9_2.length : Int) then (spec_l3Next.l1 kj47 l1 a2 false (x9_2.set ((ji81) : Int).toNat (⟨(rd_T45 x9_2 (ji81)).f0, (⟨(rd_T45 x9_2 (ji81)).f1.f0, (rd_T45 x9_2 (ji81)).f1.f1, (rd_T45 x9_2 (ji81)).f1.f2, (rd_T45 x9_2 (ji81)).f1.f3⟩ : S22), wrap64 (((rd_T45 x9_2 (ji81)).f2) + x16_47)⟩ : S45)) x10_2 x11_1 (wrap64 (x12_2 + 1)) a0_0 a0_1 a0_2 a0_3) else (none)) else (none)) = some r := by first | (rw [hji81] at H; exact H) | (simp only [hji81] at H ⊢; exact H)
                    (try rw [hji81] at A51)
                    have hji81w : (IntKind.i64.wrap ((rd x10_2 t182) - 1)) = ji81 := (i64_w _).trans hji81
                    by_cases c82 : 0 ≤ (ji81)
                    ·rw [if_pos c82] at H
                     have c82b0 : decide (0 ≤ (ji81)) = true := decide_eq_true c82
                     clear c82
                     by_cases c83 : (ji81) < (x9_2.length : Int)
                     ·rw [if_pos c83] at H
                      have c83b0 : decide ((ji81) < (x9_2.length : Int)) = true := decide_eq_true c83
                      clear c83
                      obtain ⟨y196, hy196⟩ : ∃ y_ : List (S45), y_ = (x9_2.set ((ji81) : Int).toNat (⟨(rd_T45 x9_2 (ji81)).f0, (⟨(rd_T45 x9_2 (ji81)).f1.f0, (rd_T45 x9_2 (ji81)).f1.f1, (rd_T45 x9_2 (ji81)).f1.f2, (rd_T45 x9_2 (ji81)).f1.f3⟩ : S22), wrap64 (((rd_T45 x9_2 (ji81)).f2) + x16_47)⟩ : S45)) := ⟨_, rfl⟩
                      replace H : (spec_l3Next.l1 kj47 l1 a2 false y196 x10_2 x11_1 (wrap64 (x12_2 + 1)) a0_0 a0_1 a0_2 a0_3) = some r := by first | (rw [hy196]; with_reducible exact H) | (have H2_ := (Option.bind_some _ _).symm.trans H; rw [hy196]; with_reducible exact H2_) | (have H2_ := (Option.bind_some _ _).symm.trans H; with_reducible exact H2_) | with_reducible exact H | (rw [hy196]; exact H) | exact H
                      have Ny196 := Aside0.mk hy196
                      clear hy196
                      have H' := Aside0.mk H
                      clear H
                      have hnb85 := NB162_177.out
                      have hnc85 := NB177_162.out
                      have hcz86_0 : wc.cell? ⟨gb162, 0, none⟩ = some (.int .i64 a0_0) := (blk_cell BK162.out 0).trans rfl
                      have hcz86_1 : wc.cell? ⟨gb162, 1, none⟩ = some (.int .i64 a0_1) := (blk_cell BK162.out 1).trans rfl
                      have hcz86_2 : wc.cell? ⟨gb162, 2, none⟩ = some (.int .i64 a0_2) := (blk_cell BK162.out 2).trans rfl
                      have hcz86_3 : wc.cell? ⟨gb162, 3, none⟩ = some (.int .i64 a0_3) := (blk_cell BK162.out 3).trans rfl
                      have hfz86_0 := blk_frozen BK162.out 0
                      have hfz86_1 := blk_frozen BK162.out 1
                      have hfz86_2 := blk_frozen BK162.out 2
                      have hfz86_3 := blk_frozen BK162.out 3
                      have hcz87_0 : wc.cell? ⟨gb177, 0, none⟩ = some (.int .i64 t172) := (blk_cell BK177.out 0).trans rfl
                      have hcz87_1 : wc.cell? ⟨gb177, 1, none⟩ = some (.int .i64 t173) := (blk_cell BK177.out 1).trans rfl
                      have hcz87_2 : wc.cell? ⟨gb177, 2, none⟩ = some (.int .i64 t174) := (blk_cell BK177.out 2).trans rfl
                      have hcz87_3 : wc.cell? ⟨gb177, 3, none⟩ = some (.int .i64 t175) := (blk_cell BK177.out 3).trans rfl
                      have hfz87_0 := blk_frozen BK177.out 0
                      have hfz87_1 := blk_frozen BK177.out 1
                      have hfz87_2 := blk_frozen BK177.out 2
                      have hfz87_3 := blk_frozen BK177.out 3
                      try go_wp2_with (first | ((with_reducible refine gate_callee (f := 31) rfl ?_); refine goesL_ (some 82) rfl rfl Try.func31 (by kernel_rfl) rfl #[.agg #[.int .i64 a0_0, .int .i64 a0_1, .int .i64 a0_2, .int .i64 a0_3], .int .i64 (wrap64 (((rd_T45 l1 x11_1).f0) + t176)), .agg #[.int .i64 t172, .int .i64 t173, .int .i64 t174, .int .i64 t175]] rfl (by (try simp only [List.map_toArray, List.map_cons, List.map_nil]); first | done | rfl | (simp only [List.length_drop, List.length_take]; rfl)) ?_; (with_reducible refine (spec_l3Id.calls a0_0 a0_1 a0_2 a0_3 (wrap64 (((rd_T45 l1 x11_1).f0) + t176)) t172 t173 t174 t175 t182 _ A51.out).mono ?_); rintro e w88 ⟨rfl, hb⟩; refine ⟨_, rfl, ?_⟩; have n0_ := Aside0.mk (Kd.R_below HO_9.out hb); have n1_ := Aside0.mk (Kd.R_below HO_10.out hb); have n2_ := Aside0.mk (blk_below BK162.out hb); have n3_ := Aside0.mk (blk_below BK177.out hb); have n4_ := Aside0.mk (below_step HB.out hb); clear HO_9; clear HO_10; clear BK162; clear BK177; clear HB; have HO_9 := n0_; have HO_10 := n1_; have BK162 := n2_; have BK177 := n3_; have HB := n4_; clear n0_ n1_ n2_ n3_ n4_; (try clear hb); (try clear hb2); (try clear hk); (try clear hi); obtain ⟨Ao89, co89, eo89⟩ := Kd.R_slice HO_10.out; subst eo89; have p183 : 0 ≤ (t182 : Int) := of_decide_eq_true (by first | (with_reducible assumption) | assumption); have q183 : t182 < (x10_2.length : Int) := of_decide_eq_true (by first | (with_reducible assumption) | assumption); obtain ⟨ad183, e183, hx183_0⟩ := Kd.at_int (Kd.R_reads' HO_10.out).2.2 t182 p183 q183; cases e183; replace p183 := eq_true p183; replace q183 := eq_true q183))
                      have n0_ := Aside0.mk (Kd.R_drew HO_9.out)
                      have n1_ := Aside0.mk (Kd.R_drew HO_10.out)
                      have n2_ := Aside0.mk (blk_drew BK162.out)
                      have n3_ := Aside0.mk (blk_drew BK177.out)
                      have n4_ := Aside0.mk (below_drew1 HB.out)
                      clear HO_9
                      clear HO_10
                      clear BK162
                      clear BK177
                      clear HB
                      have HO_9 := n0_
                      have HO_10 := n1_
                      have BK162 := n2_
                      have BK177 := n3_
                      have HB := n4_
                      clear n0_ n1_ n2_ n3_ n4_
                      have p193 : 0 ≤ (t182 : Int) := of_decide_eq_true (by first | (with_reducible assumption) | assumption)
                      have q193 : t182 < (x10_2.length : Int) := of_decide_eq_true (by first | (with_reducible assumption) | assumption)
                      obtain ⟨ad193, e193, hx193_0⟩ := Kd.at_int (Kd.R_reads' HO_10.out).2.2 t182 p193 q193
                      obtain rfl : ad183 = ad193 := (by injection e193)
                      replace p193 := eq_true p193
                      replace q193 := eq_true q193
                      have p194 : 0 ≤ (t182 : Int) := of_decide_eq_true (by first | (with_reducible assumption) | assumption)
                      have q194 : t182 < (x10_2.length : Int) := of_decide_eq_true (by first | (with_reducible assumption) | assumption)
                      obtain ⟨ad194, e194, hx194_0⟩ := Kd.at_int (Kd.R_reads' HO_10.out).2.2 t182 p194 q194
                      obtain rfl : ad183 = ad194 := (by injection e194)
                      replace p194 := eq_true p194
                      replace q194 := eq_true q194
                      obtain ⟨Ao91, co91, eo91⟩ := Kd.R_slice HO_9.out
                      (first | subst eo91 | (injection eo91 with f1_ f2_ f3_; have f4_ := f1_.symm; have f5_ := f3_.symm; clear f1_ f2_ f3_; subst f4_; subst f5_))
                      have p195 : 0 ≤ ((ji81) : Int) := of_decide_eq_true (by first | (with_reducible assumption) | assumption)
                      have q195 : (ji81) < (x9_2.length : Int) := of_decide_eq_true (by first | (with_reducible assumption) | assumption)
                      obtain ⟨ad195, e195, hx195_0, hx195_1, hx195_2, hx195_3, hx195_4, hx195_5⟩ := at_T45 (Kd.R_reads' HO_9.out).2.2 (ji81) p195 q195
                      cases e195
                      replace p195 := eq_true p195
                      replace q195 := eq_true q195
                      have p84 : 0 ≤ ((ji81) : Int) := of_decide_eq_true (by first | (with_reducible assumption) | assumption)
                      have q84 : ((ji81) : Int) < ((x9_2.length : Int) : Int) := of_decide_eq_true (by first | (with_reducible assumption) | assumption)
                      obtain ⟨go84, co84, eo84, gb84, gl84, cl84, HG84⟩ := Kd.R_form HO_9.out (by omega)
                      (first | cases eo84 | (injection eo84 with ea_ en_ ec_; (first | subst ea_ | (injection ea_ with ea_; subst ea_)); subst ec_; clear en_))
                      have GB84 := Aside0.mk gb84
                      have GG84 := Aside0.mk HG84
                      clear gb84 gl84 HG84
                      (first | simp only [add_plain] at hx195_0 | skip)
                      (first | simp only [add_plain] at hx195_1 | skip)
                      (first | simp only [add_plain] at hx195_2 | skip)
                      (first | simp only [add_plain] at hx195_3 | skip)
                      (first | simp only [add_plain] at hx195_4 | skip)
                      (first | simp only [add_plain] at hx195_5 | skip)
                      obtain ⟨ce84, hcl84, hM84, hcc84, hfr84⟩ := Kd.R_elem HO_9.out z45 ((ji81) : Int) p84 q84
                      obtain rfl := k45_openM hM84
                      have hx84_0 : World.cell? _ ⟨go84, ((ji81) : Int).toNat * 6, none⟩ = some (.int .i64 ((rd_T45 x9_2 (ji81)).f0)) := hcc84 0 _ rfl
                      have hx84_1 : World.cell? _ ⟨go84, ((ji81) : Int).toNat * 6 + 1, none⟩ = some (.int .i64 ((rd_T45 x9_2 (ji81)).f1.f0)) := hcc84 1 _ rfl
                      have hx84_2 : World.cell? _ ⟨go84, ((ji81) : Int).toNat * 6 + 2, none⟩ = some (.int .i64 ((rd_T45 x9_2 (ji81)).f1.f1)) := hcc84 2 _ rfl
                      have hx84_3 : World.cell? _ ⟨go84, ((ji81) : Int).toNat * 6 + 3, none⟩ = some (.int .i64 ((rd_T45 x9_2 (ji81)).f1.f2)) := hcc84 3 _ rfl
                      have hx84_4 : World.cell? _ ⟨go84, ((ji81) : Int).toNat * 6 + 4, none⟩ = some (.int .i64 ((rd_T45 x9_2 (ji81)).f1.f3)) := hcc84 4 _ rfl
                      have hx84_5 : World.cell? _ ⟨go84, ((ji81) : Int).toNat * 6 + 5, none⟩ = some (.int .i64 ((rd_T45 x9_2 (ji81)).f2)) := hcc84 5 _ rfl
                      have hf84_0 : World.frozen? _ ⟨go84, ((ji81) : Int).toNat * 6, none⟩ = false := hfr84 0
                      have hf84_1 : World.frozen? _ ⟨go84, ((ji81) : Int).toNat * 6 + 1, none⟩ = false := hfr84 1
                      have hf84_2 : World.frozen? _ ⟨go84, ((ji81) : Int).toNat * 6 + 2, none⟩ = false := hfr84 2
                      have hf84_3 : World.frozen? _ ⟨go84, ((ji81) : Int).toNat * 6 + 3, none⟩ = false := hfr84 3
                      have hf84_4 : World.frozen? _ ⟨go84, ((ji81) : Int).toNat * 6 + 4, none⟩ = false := hfr84 4
                      have hf84_5 : World.frozen? _ ⟨go84, ((ji81) : Int).toNat * 6 + 5, none⟩ = false := hfr84 5
                      clear hcl84 hcc84 hfr84 hM84
                      replace p84 := eq_true p84
                      replace q84 := eq_true q84
                      obtain ⟨ce92, hcl92, hM92, hcc92, hfr92⟩ := Kd.R_elem HO_9.out z45 ((ji81) : Int) (of_decide_eq_true (by first | (with_reducible assumption) | assumption)) (by have h_ : ((ji81) : Int) < ((x9_2.length : Int) : Int) := of_decide_eq_true (by first | (with_reducible assumption) | assumption); first | exact h_ | (have e_ := (Kd.R_reads' HO_9.out).1; omega) | simpa using h_)
                      obtain rfl := k45_openM hM92
                      have HP92 := (Kd.R_seg HO_9.out ((ji81) : Int) (of_decide_eq_true (by first | (with_reducible assumption) | assumption)) (by have h_ : ((ji81) : Int) < ((x9_2.length : Int) : Int) := of_decide_eq_true (by first | (with_reducible assumption) | assumption); first | exact h_ | (have e_ := (Kd.R_reads' HO_9.out).1; omega) | simpa using h_) (seg := [.int .i64 (wrap64 (((rd_T45 x9_2 (ji81)).f2) + x16_47))]) (j := 5) hcl92 hcc92 (show 6 ≤ 6 from by decide) (x' := (⟨(rd_T45 x9_2 (ji81)).f0, (⟨(rd_T45 x9_2 (ji81)).f1.f0, (rd_T45 x9_2 (ji81)).f1.f1, (rd_T45 x9_2 (ji81)).f1.f2, (rd_T45 x9_2 (ji81)).f1.f3⟩ : S22), wrap64 (((rd_T45 x9_2 (ji81)).f2) + x16_47)⟩ : S45)) (k45_mkM _ _ _ (⟨(rd_T45 x9_2 (ji81)).f0, (⟨(rd_T45 x9_2 (ji81)).f1.f0, (rd_T45 x9_2 (ji81)).f1.f1, (rd_T45 x9_2 (ji81)).f1.f2, (rd_T45 x9_2 (ji81)).f1.f3⟩ : S22), wrap64 (((rd_T45 x9_2 (ji81)).f2) + x16_47)⟩ : S45) ) (fun _ hk => hk)).1
                      rw [← Ny196.out] at HP92
                      have HQ92 := Aside0.mk HP92
                      clear hcl92 hcc92 hfr92 hM92 HP92
                      refine start_ (n := 20) (S := fun w' => w'.cell? (ad183.add (t182).toNat) = some (.int .i64 (rd x10_2 t182)) ∧ w'.cell? (ad183.add (t182).toNat) = some (.int .i64 (rd x10_2 t182)) ∧ w'.cell? ⟨go84, ((ji81)).toNat * 6, none⟩ = some (.int .i64 ((rd_T45 x9_2 (ji81)).f0)) ∧ w'.cell? ⟨go84, ((ji81)).toNat * 6 + 1, none⟩ = some (.int .i64 ((rd_T45 x9_2 (ji81)).f1.f0)) ∧ w'.cell? ⟨go84, ((ji81)).toNat * 6 + 2, none⟩ = some (.int .i64 ((rd_T45 x9_2 (ji81)).f1.f1)) ∧ w'.cell? ⟨go84, ((ji81)).toNat * 6 + 3, none⟩ = some (.int .i64 ((rd_T45 x9_2 (ji81)).f1.f2)) ∧ w'.cell? ⟨go84, ((ji81)).toNat * 6 + 4, none⟩ = some (.int .i64 ((rd_T45 x9_2 (ji81)).f1.f3)) ∧ w'.cell? ⟨go84, ((ji81)).toNat * 6 + 5, none⟩ = some (.int .i64 ((rd_T45 x9_2 (ji81)).f2))) (ds := [19]) #[false, false, false, false, false, false, false, false, false, false, false, false, false, false, false, false, false, false, false, false] (by kernel_rfl) rfl rfl ⟨hx193_0, hx194_0, hx195_0, hx195_1, hx195_2, hx195_3, hx195_4, hx195_5⟩ (fun hHeld => ?_); refine with_tabW spec_l3Next.tab14 spec_l3Next.bits14 (fun HT_ HW_ => ?_)
                      generalize w88.drew = w90 at HO_9 HO_10 BK162 BK177 HB GG84 HQ92 hf84_0 hf84_1 hf84_2 hf84_3 hf84_4 hf84_5 hx193_0 hx194_0 hx195_0 hx195_1 hx195_2 hx195_3 hx195_4 hx195_5 hx84_0 hx84_1 hx84_2 hx84_3 hx84_4 hx84_5 hHeld ⊢
                      refine pure_ (i := 0) (N := some 83) (v := ?_) (a' := ?_) #[true, false, false, false, false, false, false, false, false, false, false, false, false, false, false, false, false, false, false, false] rfl rfl (any_of HT_.out (by kernel_rfl)) (fun _ _ _ h => h) (Or.inl ⟨by rfl, ?_⟩) ?_ ?_
                      rotate_left
                      ·intro w'
                       go_simp
                       with_reducible rfl
                      rotate_left
                      ·simp only [Act.put, q1, q2, q3, i64_w, i32_w]
                       rfl
                      refine pure_ (i := 1) (N := some 84) (v := ?_) (a' := ?_) #[true, true, false, false, false, false, false, false, false, false, false, false, false, false, false, false, false, false, false, false] rfl rfl (any_of HT_.out (by kernel_rfl)) (fun _ _ _ h => h) (Or.inl ⟨by rfl, ?_⟩) ?_ ?_
                      rotate_left
                      ·intro w'
                       go_simp
                       with_reducible rfl
                      rotate_left
                      ·simp only [Act.put, q1, q2, q3, i64_w, i32_w]
                       rfl
                      refine pure_ (i := 2) (N := some 85) (v := ?_) (a' := ?_) #[true, true, true, false, false, false, false, false, false, false, false, false, false, false, false, false, false, false, false, false] rfl rfl (any_of HT_.out (by kernel_rfl)) (fun _ _ _ h => h) (Or.inl ⟨by rfl, ?_⟩) ?_ ?_
                      rotate_left
                      ·intro w'
                       go_simp
                       with_reducible rfl
                      rotate_left
                      ·simp only [Act.put, q1, q2, q3, i64_w, i32_w]
                       rfl
                      refine pure_ (i := 3) (N := some 86) (v := ?_) (a' := ?_) #[true, true, true, true, false, false, false, false, false, false, false, false, false, false, false, false, false, false, false, false] rfl rfl (any_of HT_.out (by kernel_rfl)) (fun _ _ _ h => h) (Or.inl ⟨by rfl, ?_⟩) ?_ ?_
                      rotate_left
                      ·intro w'
                       go_simp
                       with_reducible rfl
                      rotate_left
                      ·simp only [Act.put, q1, q2, q3, i64_w, i32_w]
                       rfl
                      refine pure_ (i := 6) (N := some 89) (v := ?_) (a' := ?_) #[true, true, true, true, false, false, true, false, false, false, false, false, false, false, false, false, false, false, false, false] rfl rfl (any_of HT_.out (by kernel_rfl)) (fun _ _ _ h => h) (Or.inl ⟨by rfl, ?_⟩) ?_ ?_
                      rotate_left
                      ·intro w'
                       go_simp
                       with_reducible rfl
                      rotate_left
                      ·simp only [Act.put, q1, q2, q3, i64_w, i32_w]
                       rfl
                      refine pure_ (i := 7) (N := some 90) (v := ?_) (a' := ?_) #[true, true, true, true, false, false, true, true, false, false, false, false, false, false, false, false, false, false, false, false] rfl rfl (any_of HT_.out (by kernel_rfl)) (fun _ _ _ h => h) (Or.inl ⟨by rfl, ?_⟩) ?_ ?_
                      rotate_left
                      ·intro w'
                       go_simp
                       with_reducible rfl
                      rotate_left
                      ·simp only [Act.put, q1, q2, q3, i64_w, i32_w]
                       rfl
                      refine pure_ (i := 8) (N := some 91) (v := ?_) (a' := ?_) #[true, true, true, true, false, false, true, true, true, false, false, false, false, false, false, false, false, false, false, false] rfl rfl (any_of HT_.out (by kernel_rfl)) (fun _ _ _ h => h) (Or.inl ⟨by rfl, ?_⟩) ?_ ?_
                      rotate_left
                      ·intro w'
                       go_simp
                       with_reducible rfl
                      rotate_left
                      ·simp only [Act.put, q1, q2, q3, i64_w, i32_w]
                       rfl
                      refine pure_ (i := 9) (N := some 92) (v := ?_) (a' := ?_) #[true, true, true, true, false, false, true, true, true, true, false, false, false, false, false, false, false, false, false, false] rfl rfl (any_of HT_.out (by kernel_rfl)) (fun _ _ _ h => h) (Or.inl ⟨by rfl, ?_⟩) ?_ ?_
                      rotate_left
                      ·intro w'
                       go_simp
                       with_reducible rfl
                      rotate_left
                      ·simp only [Act.put, q1, q2, q3, i64_w, i32_w]
                       rfl
                      refine pure_ (i := 15) (N := some 98) (v := ?_) (a' := ?_) #[true, true, true, true, false, false, true, true, true, true, false, false, false, false, false, true, false, false, false, false] rfl rfl (any_of HT_.out (by kernel_rfl)) (fun _ _ _ h => h) (Or.inl ⟨by rfl, ?_⟩) ?_ ?_
                      rotate_left
                      ·intro w'
                       go_simp
                       with_reducible rfl
                      rotate_left
                      ·simp only [Act.put, q1, q2, q3, i64_w, i32_w]
                       rfl
                      refine take_ (i := 4) (N := some 87) (v := ?_) (a' := ?_) #[true, true, true, true, true, false, true, true, true, true, false, false, false, false, false, true, false, false, false, false] rfl rfl (take_ofW HT_.out HW_.out (by kernel_rfl)) (fun _ _ _ h => h) (Or.inl ⟨by rfl, ?_⟩) hHeld ?_ ?_
                      rotate_left
                      ·rintro w' ⟨s0, s1, s2, s3, s4, s5, s6, s7⟩
                       go_simp
                       with_reducible rfl
                      rotate_left
                      ·simp only [Act.put, q1, q2, q3, i64_w, i32_w]
                       rfl
                      refine pure_ (i := 5) (N := some 88) (v := ?_) (a' := ?_) #[true, true, true, true, true, true, true, true, true, true, false, false, false, false, false, true, false, false, false, false] rfl rfl (any_of HT_.out (by kernel_rfl)) (fun _ _ _ h => h) (Or.inl ⟨by rfl, ?_⟩) ?_ ?_
                      rotate_left
                      ·intro w'
                       go_simp
                       with_reducible rfl
                      rotate_left
                      ·simp only [Act.put, q1, q2, q3, i64_w, i32_w]
                       rfl
                      refine take_ (i := 10) (N := some 93) (v := ?_) (a' := ?_) #[true, true, true, true, true, true, true, true, true, true, true, false, false, false, false, true, false, false, false, false] rfl rfl (take_ofW HT_.out HW_.out (by kernel_rfl)) (fun _ _ _ h => h) (Or.inl ⟨by rfl, ?_⟩) hHeld ?_ ?_
                      rotate_left
                      ·rintro w' ⟨s0, s1, s2, s3, s4, s5, s6, s7⟩
                       go_simp
                       with_reducible rfl
                      rotate_left
                      ·simp only [Act.put, q1, q2, q3, i64_w, i32_w]
                       rfl
                      refine pure_ (i := 11) (N := some 94) (v := ?_) (a' := ?_) #[true, true, true, true, true, true, true, true, true, true, true, true, false, false, false, true, false, false, false, false] rfl rfl (any_of HT_.out (by kernel_rfl)) (fun _ _ _ h => h) (Or.inl ⟨by rfl, ?_⟩) ?_ ?_
                      rotate_left
                      ·intro w'
                       go_simp
                       with_reducible rfl
                      rotate_left
                      ·simp only [Act.put, q1, q2, q3, i64_w, i32_w]
                       rfl
                      refine pure_ (i := 12) (N := some 95) (v := ?_) (a' := ?_) #[true, true, true, true, true, true, true, true, true, true, true, true, true, false, false, true, false, false, false, false] rfl rfl (any_of HT_.out (by kernel_rfl)) (fun _ _ _ h => h) (Or.inl ⟨by rfl, ?_⟩) ?_ ?_
                      rotate_left
                      ·intro w'
                       go_simp
                       with_reducible rfl
                      rotate_left
                      ·simp only [Act.put, q1, q2, q3, i64_w, i32_w]
                       rfl
                      refine pure_ (i := 13) (N := some 96) (v := ?_) (a' := ?_) #[true, true, true, true, true, true, true, true, true, true, true, true, true, true, false, true, false, false, false, false] rfl rfl (any_of HT_.out (by kernel_rfl)) (fun _ _ _ h => h) (Or.inl ⟨by rfl, ?_⟩) ?_ ?_
                      rotate_left
                      ·intro w'
                       go_simp
                       with_reducible rfl
                      rotate_left
                      ·simp only [Act.put, q1, q2, q3, i64_w, i32_w]
                       rfl
                      refine take_ (i := 14) (N := some 97) (v := ?_) (a' := ?_) #[true, true, true, true, true, true, true, true, true, true, true, true, true, true, true, true, false, false, false, false] rfl rfl (take_ofW HT_.out HW_.out (by kernel_rfl)) (fun _ _ _ h => h) (Or.inl ⟨by rfl, ?_⟩) hHeld ?_ ?_
                      rotate_left
                      ·rintro w' ⟨s0, s1, s2, s3, s4, s5, s6, s7⟩
                       go_simp
                       with_reducible rfl
                      rotate_left
                      ·simp only [Act.put, q1, q2, q3, i64_w, i32_w]
                       rfl
                      refine pure_ (i := 16) (N := some 99) (v := ?_) (a' := ?_) #[true, true, true, true, true, true, true, true, true, true, true, true, true, true, true, true, true, false, false, false] rfl rfl (any_of HT_.out (by kernel_rfl)) (fun _ _ _ h => h) (Or.inl ⟨by rfl, ?_⟩) ?_ ?_
                      rotate_left
                      ·intro w'
                       go_simp
                       with_reducible rfl
                      rotate_left
                      ·simp only [Act.put, q1, q2, q3, i64_w, i32_w]
                       rfl
                      refine pure_ (i := 17) (N := some 100) (v := ?_) (a' := ?_) #[true, true, true, true, true, true, true, true, true, true, true, true, true, true, true, true, true, true, false, false] rfl rfl (any_of HT_.out (by kernel_rfl)) (fun _ _ _ h => h) (Or.inl ⟨by rfl, ?_⟩) ?_ ?_
                      rotate_left
                      ·intro w'
                       go_simp
                       with_reducible rfl
                      rotate_left
                      ·simp only [Act.put, q1, q2, q3, i64_w, i32_w]
                       rfl
                      refine pure_ (i := 18) (N := some 101) (v := ?_) (a' := ?_) #[true, true, true, true, true, true, true, true, true, true, true, true, true, true, true, true, true, true, true, false] rfl rfl (any_of HT_.out (by kernel_rfl)) (fun _ _ _ h => h) (Or.inl ⟨by rfl, ?_⟩) ?_ ?_
                      rotate_left
                      ·intro w'
                       go_simp
                       with_reducible rfl
                      rotate_left
                      ·simp only [Act.put, q1, q2, q3, i64_w, i32_w]
                       rfl
                      refine last_ (i := 19) (N := none) #[true, true, true, true, true, true, true, true, true, true, true, true, true, true, true, true, true, true, true, true] rfl rfl (one_of HT_.out (by kernel_rfl)) (by decide) (fun K hK => ?_)
                      refine skip_ (w1 := ?_) (by rfl) rfl ?_ ?_
                      rotate_left
                      ·go_simp
                       rfl
                      refine hK.out _ _ ?_
                      clear hK K
                      refine done_ (done_of HT_.out (by kernel_rfl)) ?_
                      try go_wp2
                      go_roundg kj47
                      case measure => have := HK1.out; have := HK2.out; have := HJ22.out; have := HJ47.out; omega
                      case rel => exact ⟨(y196), (x10_2), (wrap64 (x12_2 + 1)), (by first | rfl | (simp; done) | (simp [*]; done)), H', ⟨by have := HK1.out; have := HK2.out; have := HJ22.out; have := HJ47.out; omega⟩, ⟨by (with_reducible repeat (first | apply Kd.R_alloc | apply Kd.R_drewN | apply Kd.R_drew)); exact HQ92.out⟩, ⟨by (with_reducible repeat (first | apply Kd.R_alloc | apply Kd.R_drewN | apply Kd.R_drew)); exact Kd.R_mono (Kd.R_far (p := ⟨go84, ((ji81) : Int).toNat * 6 + 5, none⟩) (Kd.R_types HO_10.out GG84.out (by decide)) (fun _ hk => hk.2) (.int .i64 (wrap64 (((rd_T45 x9_2 (ji81)).f2) + x16_47)))) (fun _ hk => trivial)⟩, ⟨by (with_reducible repeat (first | refine blk_drewN ?_ _ | refine blk_drew ?_ | refine blk_alloc ?_ _)); refine blk_far ?_ (by have h_ := Kd.R_ne HO_9.out BK162.out (by decide); intro e_; exact h_ (by rw [e_]; rfl)) _; (with_reducible repeat (first | refine blk_drewN ?_ _ | refine blk_drew ?_ | refine blk_alloc ?_ _)); exact BK162.out⟩, ⟨by repeat (first | (with_reducible first | exact HB.out | apply below_alloc | apply pw_below_drewN | apply below_drew1 | refine below_set ?_ GB84.out | refine below_set ?_ GE162.out | refine below_set ?_ GE177.out) | exact HB.out)⟩⟩
                     ·rw [if_neg c83] at H
                      exact absurd H (by simp)
                    ·rw [if_neg c82] at H
                     exact absurd H (by simp)
                 ·rw [if_neg c53] at H
                  exact absurd H (by simp)
                ·rw [if_neg c52] at H
                 exact absurd H (by simp)
          ·rw [if_neg c20] at H
           exact absurd H (by simp)
         ·rw [if_neg c19] at H
          exact absurd H (by simp)
        ·rw [if_neg c18] at H
         have c18b0 : decide (x12_2 < 16) = false := decide_eq_false c18
         clear c18
         have H' := Aside0.mk H
         clear H
         go_wp2
         go_roundg k2
         case measure => have := HK1.out; have := HK2.out; omega
         case rel => exact ⟨(x9_2), (x10_2), (wrap64 (x11_1 + 1)), (by first | rfl | (simp; done) | (simp [*]; done)), H', ⟨by have := HK1.out; have := HK2.out; omega⟩, ⟨by (with_reducible repeat (first | apply Kd.R_alloc | apply Kd.R_drewN | apply Kd.R_drew)); exact HO_9.out⟩, ⟨by (with_reducible repeat (first | apply Kd.R_alloc | apply Kd.R_drewN | apply Kd.R_drew)); exact HO_10.out⟩, ⟨by (with_reducible repeat (first | refine blk_drewN ?_ _ | refine blk_drew ?_ | refine blk_alloc ?_ _)); exact BK162.out⟩, ⟨by repeat (first | (with_reducible first | exact HB.out | apply below_alloc | apply pw_below_drewN | apply below_drew1 | refine below_set ?_ GE162.out) | exact HB.out)⟩⟩
     ·rw [if_neg c17] at H
      have c17b0 : decide (x11_1 < (l1.length : Int)) = false := decide_eq_false c17
      clear c17
      obtain rfl := Option.some.inj H
      go_wp2
      go_ret
      exact ⟨_, by first | rfl | (simp [errW_none, errW_some] <;> rfl) | (simp only [← hji6]; first | rfl | (simp [errW_none, errW_some] <;> rfl)) | (simp [*, errW_none, errW_some] <;> rfl), by (with_reducible repeat (first | apply Kd.R_alloc | apply Kd.R_drewN | apply Kd.R_drew)); exact HO_9.out, by repeat (first | (with_reducible first | exact HB.out | apply below_alloc | apply pw_below_drewN | apply below_drew1 | refine below_set ?_ GE162.out) | exact HB.out)⟩
  ·rw [if_neg c8] at H
   exact absurd H (by simp)
 ·rw [if_neg c7] at H
  exact absurd H (by simp)

end Go.Proofs.Ytmhnllcdfjggaaa.PA
