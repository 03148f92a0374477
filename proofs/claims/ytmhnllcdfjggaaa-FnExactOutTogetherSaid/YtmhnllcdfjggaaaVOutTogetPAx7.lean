-- Printed by a program of this session's own.
import Derived.Test.YtmhnllcdfjggaaaVOutTogetPAx0
import Derived.Test.YtmhnllcdfjggaaaVOutTogetPAx2
import Derived.Test.YtmhnllcdfjggaaaVOutTogetPAx6
namespace Go.Proofs.Ytmhnllcdfjggaaa.PA
open Go.RowKit Go.Proofs.YtmhnllcdfjggaaaW.PrintWords Go.Proofs.YtmhnllcdfjggaaaW.PrintLast Go.Proofs.YtmhnllcdfjggaaaW.PrintMore Go.Proofs.YtmhnllcdfjggaaaX
attribute [local go_sem] max2_int min2_int max_two min_two  -- for this text's walks alone
set_option linter.unusedVariables false
set_option linter.unusedSimpArgs false

/-! ### spec_l3Levels: function 23 -/
mutual
def spec_l3Levels.l0 : Nat → Int → Bool → List Bool → List (List (S45)) → Int → Int → Int → Int → Int → Option ((List (List (S45))))
  | 0, _, _, _, _, _, _, _, _, _ => none
  | k + 1, x2, x3, x9, x10, x11, x198000, x198001, x198002, x198003 => if x11 ≤ 12 then (if 0 ≤ (wrap64 (x11 - 1)) then (if (wrap64 (x11 - 1)) < (x10.length : Int) then ((spec_l3Next.f k x198000 x198001 x198002 x198003 (rd_L3 x10 (wrap64 (x11 - 1))) x2 true).bind fun t215 => (spec_l3Levels.l1 k x2 x3 x9 x10 x11 (([] : List (S45))) t215 0 x198000 x198001 x198002 x198003)) else (none)) else (none)) else (some x10)
def spec_l3Levels.l1 : Nat → Int → Bool → List Bool → List (List (S45)) → Int → List (S45) → List (S45) → Int → Int → Int → Int → Int → Option ((List (List (S45))))
  | 0, _, _, _, _, _, _, _, _, _, _, _, _ => none
  | k + 1, x2, x3, x9, x10, x11, x12, x13, x14, x198000, x198001, x198002, x198003 => if x14 < (x13.length : Int) then (if 0 ≤ x14 then ((spec_l3Id.f x198000 x198001 x198002 x198003 ((rd_T45 x13 x14).f0) ((rd_T45 x13 x14).f1.f0) ((rd_T45 x13 x14).f1.f1) ((rd_T45 x13 x14).f1.f2) ((rd_T45 x13 x14).f1.f3)).bind fun t223 => (if x3 = true then (if 0 ≤ t223 then (if t223 < (x9.length : Int) then (spec_l3Levels.j2 k x2 x3 x9 x10 x11 x12 x13 x14 t223 (!(rdOf false x9 t223)) x198000 x198001 x198002 x198003) else (none)) else (none)) else (spec_l3Levels.j2 k x2 x3 x9 x10 x11 x12 x13 x14 t223 true x198000 x198001 x198002 x198003))) else (none)) else (if x10.length < 5864062014805 then (spec_l3Levels.l0 k x2 x3 x9 (x10 ++ [x12]) (wrap64 (x11 + 1)) x198000 x198001 x198002 x198003) else (none))
def spec_l3Levels.j2 : Nat → Int → Bool → List Bool → List (List (S45)) → Int → List (S45) → List (S45) → Int → Int → Bool → Int → Int → Int → Int → Option ((List (List (S45))))
  | 0, _, _, _, _, _, _, _, _, _, _, _, _, _, _ => none
  | k + 1, x2, x3, x9, x10, x11, x12, x13, x14, x15, x70, x198000, x198001, x198002, x198003 => if x70 = true then (if 0 ≤ x14 then (if x14 < (x13.length : Int) then (if x12.length < 2932031007402 then (if 0 ≤ x15 then (if x15 < (x9.length : Int) then (spec_l3Levels.l1 k x2 x3 (x9.set (x15 : Int).toNat true) x10 x11 (x12 ++ [(⟨(rd_T45 x13 x14).f0, (⟨(rd_T45 x13 x14).f1.f0, (rd_T45 x13 x14).f1.f1, (rd_T45 x13 x14).f1.f2, (rd_T45 x13 x14).f1.f3⟩ : S22), (rd_T45 x13 x14).f2⟩ : S45)]) x13 (wrap64 (x14 + 1)) x198000 x198001 x198002 x198003) else (none)) else (none)) else (none)) else (none)) else (none)) else (if 0 ≤ x15 then (if x15 < (x9.length : Int) then (spec_l3Levels.l1 k x2 x3 (x9.set (x15 : Int).toNat true) x10 x11 x12 x13 (wrap64 (x14 + 1)) x198000 x198001 x198002 x198003) else (none)) else (none))
end
def spec_l3Levels.f (k : Nat) (a0_0 : Int) (a0_1 : Int) (a0_2 : Int) (a0_3 : Int) (a1_0 : Int) (a1_1 : Int) (a1_2 : Int) (a1_3 : Int) (a2 : Int) (a3 : Bool) : Option ((List (List (S45)))) := (spec_l3Many.f a0_0 a0_1 a0_2 a0_3).bind fun t199 => (if 0 ≤ (wrap64 ((wrap64 (a2 + 1)) * t199)) then (if (wrap64 ((wrap64 (a2 + 1)) * t199) : Int).toNat ≤ 281474976710656 then ((some (List.replicate (wrap64 ((wrap64 (a2 + 1)) * t199) : Int).toNat false : List Bool)).bind fun y200 => ((spec_l3Id.f a0_0 a0_1 a0_2 a0_3 0 a1_0 a1_1 a1_2 a1_3).bind fun t203 => (if 0 ≤ t203 then (if t203 < (y200.length : Int) then (spec_l3Levels.l0 k a2 a3 (y200.set (t203 : Int).toNat true) (([(([(⟨0, (⟨a1_0, a1_1, a1_2, a1_3⟩ : S22), 0⟩ : S45)] : List (S45)))] : List (List (S45)))) 1 a0_0 a0_1 a0_2 a0_3) else (none)) else (none)))) else (none)) else (none))
def spec_l3Levels.T8 : Bool × List (List Nat × List Nat) := (true, [([], []), ([], []), ([], []), ([2], [2]), ([1, 3], [1, 3]), ([4], [4]), ([], []), ([0, 5, 6], [0, 5, 6]), ([7, 7, 0, 1, 2, 3, 4, 5, 6, 7], [7])])
def spec_l3Levels.B8 : List Nat := [0, 0, 0, 4, 14, 30, 0, 127, 255]
theorem spec_l3Levels.tab8 : rtab .any (opsOf Try.f23 8) = spec_l3Levels.T8 := by kernel_rfl
theorem spec_l3Levels.bits8 : waitsOk spec_l3Levels.T8.2 spec_l3Levels.B8 = true := by kernel_rfl
def spec_l3Levels.T12 : Bool × List (List Nat × List Nat) := (true, [([], []), ([], []), ([], []), ([1, 2], [1, 2]), ([3], [3]), ([4], [4]), ([], []), ([], []), ([6, 7], [6, 7]), ([8], [8]), ([9], [9]), ([0, 5, 10], [0, 5, 10]), ([11, 11, 0, 1, 2, 3, 4, 5, 6, 7, 8, 9, 10, 11], [11])])
def spec_l3Levels.B12 : List Nat := [0, 0, 0, 6, 14, 30, 0, 0, 192, 448, 960, 2047, 4095]
theorem spec_l3Levels.tab12 : rtab .any (opsOf Try.f23 12) = spec_l3Levels.T12 := by kernel_rfl
theorem spec_l3Levels.bits12 : waitsOk spec_l3Levels.T12.2 spec_l3Levels.B12 = true := by kernel_rfl
set_option maxHeartbeats 8000000 in
set_option maxRecDepth 100000 in
theorem spec_l3Levels.calls (k : Nat) (a0_0 : Int) (a0_1 : Int) (a0_2 : Int) (a0_3 : Int) (a1_0 : Int) (a1_1 : Int) (a1_2 : Int) (a1_3 : Int) (a2 : Int) (a3 : Bool) (r : List (List (S45))) (w : World) (h : spec_l3Levels.f k a0_0 a0_1 a0_2 a0_3 a1_0 a1_1 a1_2 a1_3 a2 a3 = some r) :
    Calls Try.prog 23 #[.agg #[.int .i64 a0_0, .int .i64 a0_1, .int .i64 a0_2, .int .i64 a0_3], .agg #[.int .i64 a1_0, .int .i64 a1_1, .int .i64 a1_2, .int .i64 a1_3], .int .i64 a2, .bool a3] w fun e w' => ∃ v0_ : Value, e = .returned (v0_) ∧ Kd.N (Kd.slice 45 k45) 43 w' w.heap.size (fun k_ => (w.heap.size ≤ k_)) v0_ r ∧ Below w.heap.size w w' := by
 have hu28 := Try.underlying28
 have hu22 := Try.underlying22
 have hu45 := Try.underlying45
 have HB := Aside0.mk (Below.refl w.heap.size w)
 have H : ((spec_l3Many.f a0_0 a0_1 a0_2 a0_3).bind fun t199 => (if 0 ≤ (wrap64 ((wrap64 (a2 + 1)) * t199)) then (if (wrap64 ((wrap64 (a2 + 1)) * t199) : Int).toNat ≤ 281474976710656 then ((some (List.replicate (wrap64 ((wrap64 (a2 + 1)) * t199) : Int).toNat false : List Bool)).bind fun y200 => ((spec_l3Id.f a0_0 a0_1 a0_2 a0_3 0 a1_0 a1_1 a1_2 a1_3).bind fun t203 => (if 0 ≤ t203 then (if t203 < (y200.length : Int) then (spec_l3Levels.l0 k a2 a3 (y200.set (t203 : Int).toNat true) (([(([(⟨0, (⟨a1_0, a1_1, a1_2, a1_3⟩ : S22), 0⟩ : S45)] : List (S45)))] : List (List (S45)))) 1 a0_0 a0_1 a0_2 a0_3) else (none)) else (none)))) else (none)) else (none))) = some r := h
 clear h
 replace H := Option.bind_eq_some_iff.mp H
 obtain ⟨t199, A50, H⟩ := H
 replace H : (if 0 ≤ (wrap64 ((wrap64 (a2 + 1)) * t199)) then (if (wrap64 ((wrap64 (a2 + 1)) * t199) : Int).toNat ≤ 281474976710656 then ((some (List.replicate (wrap64 ((wrap64 (a2 + 1)) * t199) : Int).toNat false : List Bool)).bind fun y200 => ((spec_l3Id.f a0_0 a0_1 a0_2 a0_3 0 a1_0 a1_1 a1_2 a1_3).bind fun t203 => (if 0 ≤ t203 then (if t203 < (y200.length : Int) then (spec_l3Levels.l0 k a2 a3 (y200.set (t203 : Int).toNat true) (([(([(⟨0, (⟨a1_0, a1_1, a1_2, a1_3⟩ : S22), 0⟩ : S45)] : List (S45)))] : List (List (S45)))) 1 a0_0 a0_1 a0_2 a0_3) else (none)) else (none)))) else (none)) else (none)) = some r := H
 have A5 := Aside0.mk A50
 clear A50
 obtain ⟨ji6, hji6⟩ : ∃ j_ : Int, (wrap64 ((wrap64 (a2 + 1)) * t199)) = j_ := ⟨_, rfl⟩
 replace H : (if 0 ≤ (ji6) then (if (ji6 : Int).toNat ≤ 281474976710656 then ((some (List.replicate (ji6 : Int).toNat false : List Bool)).bind fun y200 => ((spec_l3Id.f a0_0 a0_1 a0_2 a0_3 0 a1_0 a1_1 a1_2 a1_3).bind fun t203 => (if 0 ≤ t203 then (if t203 < (y200.length : Int) then (spec_l3Levels.l0 k a2 a3 (y200.set (t203 : Int).toNat true) (([(([(⟨0, (⟨a1_0, a1_1, a1_2, a1_3⟩ : S22), 0⟩ : S45)] : List (S45)))] : List (List (S45)))) 1 a0_0 a0_1 a0_2 a0_3) else (none)) else (none)))) else (none)) else (none)) = some r := by first | (rw [hji6] at H; exact H) | (simp only [hji6] at H ⊢; exact H)
 (try rw [hji6] at A5)
 have hji6w : (IntKind.i64.wrap ((wrap64 (a2 + 1)) * t199)) = ji6 := (i64_w _).trans hji6
 by_cases c7 : 0 ≤ (ji6)
 ·rw [if_pos c7] at H
  have c7b0 := eq_true c7
  have c7b1 : decide (0 ≤ (ji6)) = true := decide_eq_true c7
  clear c7
  by_cases c8 : (ji6 : Int).toNat ≤ 281474976710656
  ·rw [if_pos c8] at H
   have c8b0 := eq_true c8
   have c8b1 : decide ((ji6 : Int).toNat ≤ 281474976710656) = true := decide_eq_true c8
   clear c8
   obtain ⟨y200, hy200⟩ : ∃ y_ : List Bool, y_ = (List.replicate (ji6 : Int).toNat false) := ⟨_, rfl⟩
   replace H : ((spec_l3Id.f a0_0 a0_1 a0_2 a0_3 0 a1_0 a1_1 a1_2 a1_3).bind fun t203 => (if 0 ≤ t203 then (if t203 < (y200.length : Int) then (spec_l3Levels.l0 k a2 a3 (y200.set (t203 : Int).toNat true) (([(([(⟨0, (⟨a1_0, a1_1, a1_2, a1_3⟩ : S22), 0⟩ : S45)] : List (S45)))] : List (List (S45)))) 1 a0_0 a0_1 a0_2 a0_3) else (none)) else (none))) = some r := by first | (rw [hy200]; with_reducible exact H) | (have H2_ := (Option.bind_some _ _).symm.trans H; rw [hy200]; with_reducible exact H2_) | (have H2_ := (Option.bind_some _ _).symm.trans H; with_reducible exact H2_) | with_reducible exact H | (rw [hy200]; exact H) | exact H
   have Ny200 := Aside0.mk hy200
   clear hy200
   replace H := Option.bind_eq_some_iff.mp H
   obtain ⟨t203, A90, H⟩ := H
   replace H : (if 0 ≤ t203 then (if t203 < (y200.length : Int) then (spec_l3Levels.l0 k a2 a3 (y200.set (t203 : Int).toNat true) (([(([(⟨0, (⟨a1_0, a1_1, a1_2, a1_3⟩ : S22), 0⟩ : S45)] : List (S45)))] : List (List (S45)))) 1 a0_0 a0_1 a0_2 a0_3) else (none)) else (none)) = some r := H
   have A9 := Aside0.mk A90
   clear A90
   by_cases c10 : 0 ≤ t203
   ·rw [if_pos c10] at H
    have c10b0 : decide (0 ≤ t203) = true := decide_eq_true c10
    clear c10
    by_cases c11 : t203 < (y200.length : Int)
    ·rw [if_pos c11] at H
     have c11b0 : decide (t203 < (y200.length : Int)) = true := decide_eq_true c11
     clear c11
     obtain ⟨y204, hy204⟩ : ∃ y_ : List Bool, y_ = (y200.set (t203 : Int).toNat true) := ⟨_, rfl⟩
     replace H : (spec_l3Levels.l0 k a2 a3 y204 (([(([(⟨0, (⟨a1_0, a1_1, a1_2, a1_3⟩ : S22), 0⟩ : S45)] : List (S45)))] : List (List (S45)))) 1 a0_0 a0_1 a0_2 a0_3) = some r := by first | (rw [hy204]; with_reducible exact H) | (have H2_ := (Option.bind_some _ _).symm.trans H; rw [hy204]; with_reducible exact H2_) | (have H2_ := (Option.bind_some _ _).symm.trans H; with_reducible exact H2_) | with_reducible exact H | (rw [hy204]; exact H) | exact H
     have Ny204 := Aside0.mk hy204
     clear hy204
     obtain ⟨y205, hy205⟩ : ∃ y_ : List (S45), y_ = (([(⟨0, (⟨a1_0, a1_1, a1_2, a1_3⟩ : S22), 0⟩ : S45)] : List (S45))) := ⟨_, rfl⟩
     replace H : (spec_l3Levels.l0 k a2 a3 y204 (([y205] : List (List (S45)))) 1 a0_0 a0_1 a0_2 a0_3) = some r := by first | (rw [hy205]; with_reducible exact H) | (have H2_ := (Option.bind_some _ _).symm.trans H; rw [hy205]; with_reducible exact H2_) | (have H2_ := (Option.bind_some _ _).symm.trans H; with_reducible exact H2_) | with_reducible exact H | (rw [hy205]; exact H) | exact H
     have Ny205 := Aside0.mk hy205
     clear hy205
     obtain ⟨y208, hy208⟩ : ∃ y_ : List (List (S45)), y_ = (([y205] : List (List (S45)))) := ⟨_, rfl⟩
     replace H : (spec_l3Levels.l0 k a2 a3 y204 y208 1 a0_0 a0_1 a0_2 a0_3) = some r := by first | (rw [hy208]; with_reducible exact H) | (have H2_ := (Option.bind_some _ _).symm.trans H; rw [hy208]; with_reducible exact H2_) | (have H2_ := (Option.bind_some _ _).symm.trans H; with_reducible exact H2_) | with_reducible exact H | (rw [hy208]; exact H) | exact H
     have Ny208 := Aside0.mk hy208
     clear hy208
     have H' := Aside0.mk H
     clear H
     go_enter Try.func23, Try.ntmps23
     go_wp2_with (first | ((with_reducible refine gate_dst (N := 4) rfl ?_); refine box_event ?hg (N := 4) ?hd (cs := #[.int .i64 a0_0, .int .i64 a0_1, .int .i64 a0_2, .int .i64 a0_3]) (t := 28) ?hr ?_; (case hd => rfl); (case hg => rfl); (case hr => first | (go_simp; done) | (go_simp; rfl)); intro gb197 hg w13 hbox hb; have n0_ := Aside0.mk (below_step HB.out hb); have n1_ := Aside0.mk (hbox); have n2_ := Aside0.mk ((by rw [hg]; exact (below_size HB.out) : w.heap.size ≤ gb197)); have n3_ := Aside0.mk ((by rw [hg]; exact (below_size HB.out) : w.heap.size ≤ gb197)); clear HB; have HB := n0_; have BK197 := n1_; have GW197 := n2_; have GE197 := n3_; clear n0_ n1_ n2_ n3_; clear hb hbox hg) | ((with_reducible refine gate_dst (N := 5) rfl ?_); refine box_event ?hg (N := 5) ?hd (cs := #[.int .i64 a1_0, .int .i64 a1_1, .int .i64 a1_2, .int .i64 a1_3]) (t := 22) ?hr ?_; (case hd => rfl); (case hg => rfl); (case hr => first | (go_simp; done) | (go_simp; rfl)); intro gb198 hg w14 hbox hb; have n0_ := Aside0.mk (blk_below BK197.out hb); have n1_ := Aside0.mk (below_step HB.out hb); have n2_ := Aside0.mk (hbox); have n3_ := Aside0.mk ((by rw [hg]; exact (below_size HB.out) : w.heap.size ≤ gb198)); have n4_ := Aside0.mk ((by rw [hg]; exact (below_size HB.out) : w.heap.size ≤ gb198)); have n5_ := Aside0.mk ((by rw [hg]; exact Nat.ne_of_lt (blk_lt BK197.out) : gb197 ≠ gb198)); have n6_ := Aside0.mk ((by rw [hg]; exact Nat.ne_of_gt (blk_lt BK197.out) : gb198 ≠ gb197)); clear BK197; clear HB; have BK197 := n0_; have HB := n1_; have BK198 := n2_; have GW198 := n3_; have GE198 := n4_; have NB197_198 := n5_; have NB198_197 := n6_; clear n0_ n1_ n2_ n3_ n4_ n5_ n6_; clear hb hbox hg; have hnb15 := NB197_198.out; have hnc15 := NB198_197.out; have hcz16_0 : w14.cell? ⟨gb197, 0, none⟩ = some (.int .i64 a0_0) := (blk_cell BK197.out 0).trans rfl; have hcz16_1 : w14.cell? ⟨gb197, 1, none⟩ = some (.int .i64 a0_1) := (blk_cell BK197.out 1).trans rfl; have hcz16_2 : w14.cell? ⟨gb197, 2, none⟩ = some (.int .i64 a0_2) := (blk_cell BK197.out 2).trans rfl; have hcz16_3 : w14.cell? ⟨gb197, 3, none⟩ = some (.int .i64 a0_3) := (blk_cell BK197.out 3).trans rfl; have hfz16_0 := blk_frozen BK197.out 0; have hfz16_1 := blk_frozen BK197.out 1; have hfz16_2 := blk_frozen BK197.out 2; have hfz16_3 := blk_frozen BK197.out 3) | ((with_reducible refine gate_callee (f := 21) rfl ?_); refine goesL_ (some 19) rfl rfl Try.func21 (by kernel_rfl) rfl #[.agg #[.int .i64 a0_0, .int .i64 a0_1, .int .i64 a0_2, .int .i64 a0_3]] rfl (by (try simp only [List.map_toArray, List.map_cons, List.map_nil]); first | done | rfl | (simp only [List.length_drop, List.length_take]; rfl)) ?_; (with_reducible refine (spec_l3Many.calls a0_0 a0_1 a0_2 a0_3 t199 _ A5.out).mono ?_); rintro e w17 ⟨rfl, hb⟩; refine ⟨_, rfl, ?_⟩; have n0_ := Aside0.mk (blk_below BK197.out hb); have n1_ := Aside0.mk (blk_below BK198.out hb); have n2_ := Aside0.mk (below_step HB.out hb); clear BK197; clear BK198; clear HB; have BK197 := n0_; have BK198 := n1_; have HB := n2_; clear n0_ n1_ n2_; (try clear hb); (try clear hb2); (try clear hk); (try clear hi)) | ((with_reducible refine gate_dst (N := 21) rfl ?_); refine Kd.R_make Kd.bool _ 4 rfl (N := 21) rfl 49 _ _ rfl ji6 rfl rfl Try.underlying49 (.bool false) 1 info4 rfl (by decide) (by omega) false (ok := fun _ => True) (okp := fun _ => True) rfl (fun _ hk => hk) trivial (of_decide_eq_true (by first | (with_reducible assumption) | assumption)) (Nat.le_trans (Nat.mul_le_mul_right _ (of_decide_eq_true (by first | (with_reducible assumption) | assumption) : ji6.toNat ≤ 281474976710656)) (by omega)) (Below.refl _ _) (Nat.le_refl _) ?_; intro v201 w18 ho19 hb hg_ hnew_; clear hg_ hnew_; (first | rw [← Ny200.out] at ho19 | (simp only [Int.reduceToNat] at ho19; rw [← Ny200.out] at ho19)); have n0_ := Aside0.mk (Kd.R_lower (Kd.R_newM (M := fun k_ => (w.heap.size ≤ k_)) ho19 (below_size HB.out) (fun k_ h_ => h_)) (below_size HB.out)); have n1_ := Aside0.mk (blk_below BK197.out hb); have n2_ := Aside0.mk (blk_below BK198.out hb); have n3_ := Aside0.mk (below_step HB.out hb); clear BK197; clear BK198; clear HB; have HO202 := n0_; have BK197 := n1_; have BK198 := n2_; have HB := n3_; clear n0_ n1_ n2_ n3_; clear hb ho19; have hcz20_0 : w18.cell? ⟨gb197, 0, none⟩ = some (.int .i64 a0_0) := (blk_cell BK197.out 0).trans rfl; have hcz20_1 : w18.cell? ⟨gb197, 1, none⟩ = some (.int .i64 a0_1) := (blk_cell BK197.out 1).trans rfl; have hcz20_2 : w18.cell? ⟨gb197, 2, none⟩ = some (.int .i64 a0_2) := (blk_cell BK197.out 2).trans rfl; have hcz20_3 : w18.cell? ⟨gb197, 3, none⟩ = some (.int .i64 a0_3) := (blk_cell BK197.out 3).trans rfl; have hfz20_0 := blk_frozen BK197.out 0; have hfz20_1 := blk_frozen BK197.out 1; have hfz20_2 := blk_frozen BK197.out 2; have hfz20_3 := blk_frozen BK197.out 3; have hcz21_0 : w18.cell? ⟨gb198, 0, none⟩ = some (.int .i64 a1_0) := (blk_cell BK198.out 0).trans rfl; have hcz21_1 : w18.cell? ⟨gb198, 1, none⟩ = some (.int .i64 a1_1) := (blk_cell BK198.out 1).trans rfl; have hcz21_2 : w18.cell? ⟨gb198, 2, none⟩ = some (.int .i64 a1_2) := (blk_cell BK198.out 2).trans rfl; have hcz21_3 : w18.cell? ⟨gb198, 3, none⟩ = some (.int .i64 a1_3) := (blk_cell BK198.out 3).trans rfl; have hfz21_0 := blk_frozen BK198.out 0; have hfz21_1 := blk_frozen BK198.out 1; have hfz21_2 := blk_frozen BK198.out 2; have hfz21_3 := blk_frozen BK198.out 3) | ((with_reducible refine gate_callee (f := 31) rfl ?_); refine goesL_ (some 25) rfl rfl Try.func31 (by kernel_rfl) rfl #[.agg #[.int .i64 a0_0, .int .i64 a0_1, .int .i64 a0_2, .int .i64 a0_3], .int .i64 0, .agg #[.int .i64 a1_0, .int .i64 a1_1, .int .i64 a1_2, .int .i64 a1_3]] rfl (by (try simp only [List.map_toArray, List.map_cons, List.map_nil]); first | done | rfl | (simp only [List.length_drop, List.length_take]; rfl)) ?_; (with_reducible refine (spec_l3Id.calls a0_0 a0_1 a0_2 a0_3 0 a1_0 a1_1 a1_2 a1_3 t203 _ A9.out).mono ?_); rintro e w22 ⟨rfl, hb⟩; refine ⟨_, rfl, ?_⟩; have n0_ := Aside0.mk (Kd.R_below HO202.out hb); have n1_ := Aside0.mk (blk_below BK197.out hb); have n2_ := Aside0.mk (blk_below BK198.out hb); have n3_ := Aside0.mk (below_step HB.out hb); clear HO202; clear BK197; clear BK198; clear HB; have HO202 := n0_; have BK197 := n1_; have BK198 := n2_; have HB := n3_; clear n0_ n1_ n2_ n3_; (try clear hb); (try clear hb2); (try clear hk); (try clear hi); have p12 : 0 ≤ (t203 : Int) := of_decide_eq_true (by first | (with_reducible assumption) | assumption); have q12 : (t203 : Int) < ((y200.length : Int) : Int) := of_decide_eq_true (by first | (with_reducible assumption) | assumption); obtain ⟨go12, co12, eo12, gb12, gl12, cl12, HG12⟩ := Kd.R_form HO202.out (by omega); (first | cases eo12 | (injection eo12 with ea_ en_ ec_; (first | subst ea_ | (injection ea_ with ea_; subst ea_)); subst ec_; clear en_)); have GB12 := Aside0.mk gb12; have GG12 := Aside0.mk HG12; clear gb12 gl12 HG12; obtain ⟨hx12_0, hf12_0⟩ := Kd.R_celln false HO202.out (t203 : Int) p12 q12; replace p12 := eq_true p12; replace q12 := eq_true q12; have n_ := Aside0.mk (Kd.R_mono (ok' := (fun k_ => (w.heap.size ≤ k_))) HO202.out (fun k_ hk => hk.1)); clear HO202; have HO202 := n_; clear n_; obtain ⟨hy23_, hz23_⟩ := Kd.R_celln false HO202.out (t203 : Int) (of_decide_eq_true (by first | (with_reducible assumption) | assumption)) (of_decide_eq_true (by first | (with_reducible assumption) | assumption)); have HP23 := Kd.R_putg HO202.out (t203 : Int) true) | ((with_reducible refine gate_store (t := 4) (p := 26) rfl ?_); refine store_event (t := 4) (p := 26) (v := ?vo_w24) (w1 := (w22.setCell ⟨go12, (t203 : Int).toNat, none⟩ (.bool true))) ?hg ?ho ?hn ?hr ?_; (case ho => rfl); (case hg => rfl); (case hn => rfl); (case hr => first | (go_simp; done) | (go_simp; rfl)); intro w24 hw; have hg : w22.grownBy w24 (some go12) := (by rw [hw]; exact HP23.2); have hp_ : Kd.R Kd.bool 4 w24 w.heap.size (fun k_ => (w.heap.size ≤ k_)) (.slice (some ⟨go12, 0, none⟩) y200.length co12) y204 := (by rw [hw, Ny204.out]; exact HP23.1); clear HP23; have n0_ := Aside0.mk (blk_grown BK197.out hg (Kd.R_ne HO202.out BK197.out (by decide))); have n1_ := Aside0.mk (blk_grown BK198.out hg (Kd.R_ne HO202.out BK198.out (by decide))); have n2_ := Aside0.mk (hp_); have n3_ := Aside0.mk ((by rw [hw]; exact below_set (HB.out) GB12.out : Below w.heap.size w w24)); clear BK197; clear BK198; clear HO202; clear HB; have BK197 := n0_; have BK198 := n1_; have HO202 := n2_; have HB := n3_; clear n0_ n1_ n2_ n3_; clear hg hw hp_; have hcz25_0 : w24.cell? ⟨gb198, 0, none⟩ = some (.int .i64 a1_0) := (blk_cell BK198.out 0).trans rfl; have hcz25_1 : w24.cell? ⟨gb198, 1, none⟩ = some (.int .i64 a1_1) := (blk_cell BK198.out 1).trans rfl; have hcz25_2 : w24.cell? ⟨gb198, 2, none⟩ = some (.int .i64 a1_2) := (blk_cell BK198.out 2).trans rfl; have hcz25_3 : w24.cell? ⟨gb198, 3, none⟩ = some (.int .i64 a1_3) := (blk_cell BK198.out 3).trans rfl; have hfz25_0 := blk_frozen BK198.out 0; have hfz25_1 := blk_frozen BK198.out 1; have hfz25_2 := blk_frozen BK198.out 2; have hfz25_3 := blk_frozen BK198.out 3) | ((with_reducible refine gate_dst (N := 29) rfl ?_); refine Kd.R_lit k45 _ 45 ?hg (N := 29) ?hd (xs := ([(⟨0, (⟨a1_0, a1_1, a1_2, a1_3⟩ : S22), 0⟩ : S45)] : List (S45))) (inner := [.int .i64 0, .int .i64 a1_0, .int .i64 a1_1, .int .i64 a1_2, .int .i64 a1_3, .int .i64 0]) (ok := fun _ => True) (okp := fun _ => True) ?hr ?hp (fun _ hk => hk) trivial (Below.refl _ _) (Nat.le_refl _) (by simp) ?_; (case hd => rfl); (case hg => rfl); (case hr => first | (go_simp; done) | (go_simp; rfl)); (case hp => exact (Reps.c6 (show Kd.M k45 _ _ _ (⟨0, (⟨a1_0, a1_1, a1_2, a1_3⟩ : S22), 0⟩ : S45) [.int .i64 0, .int .i64 a1_0, .int .i64 a1_1, .int .i64 a1_2, .int .i64 a1_3, .int .i64 0] from (k45_mkM _ _ _ (⟨0, (⟨a1_0, a1_1, a1_2, a1_3⟩ : S22), 0⟩ : S45) )) (Reps.none _ _))); intro v206 w26 ho27 hb hg_ hnew_; clear hg_ hnew_; (first | rw [← Ny205.out] at ho27 | (simp only [Int.reduceToNat] at ho27; rw [← Ny205.out] at ho27)); have n0_ := Aside0.mk (Kd.R_below HO202.out hb); have n1_ := Aside0.mk (Kd.R_lower (Kd.R_newM (M := fun k_ => (w.heap.size ≤ k_)) ho27 (below_size HB.out) (fun k_ h_ => h_)) (below_size HB.out)); have n2_ := Aside0.mk (blk_below BK197.out hb); have n3_ := Aside0.mk (blk_below BK198.out hb); have n4_ := Aside0.mk (below_step HB.out hb); clear HO202; clear BK197; clear BK198; clear HB; have HO202 := n0_; have HO207 := n1_; have BK197 := n2_; have BK198 := n3_; have HB := n4_; clear n0_ n1_ n2_ n3_ n4_; clear hb ho27; obtain ⟨Ao28, co28, eo28⟩ := Kd.R_slice HO207.out; subst eo28) | ((with_reducible refine gate_dst (N := 30) rfl ?_); refine Kd.N_lit (Kd.slice 45 k45) _ 43 ?hg (N' := 30) ?hd (xs := ([y205] : List (List (S45)))) (inner := [.slice Ao28 y205.length co28]) (ok := (fun k_ => (w.heap.size ≤ k_) ∧ some k_ ≠ (.slice (some ⟨go12, 0, none⟩) y200.length co12 : Value).ownBlock ∧ k_ ≠ gb197 ∧ k_ ≠ gb198)) (okp := (fun k_ => (w.heap.size ≤ k_) ∧ some k_ ≠ (.slice (some ⟨go12, 0, none⟩) y200.length co12 : Value).ownBlock ∧ k_ ≠ gb197 ∧ k_ ≠ gb198)) ?hr ?hp (fun _ hk => hk) ((show ∀ k_, w26.heap.size ≤ k_ → (fun k_ => (w.heap.size ≤ k_) ∧ some k_ ≠ (.slice (some ⟨go12, 0, none⟩) y200.length co12 : Value).ownBlock ∧ k_ ≠ gb197 ∧ k_ ≠ gb198) k_ from fun k_ hk => ⟨(Nat.le_trans (below_size HB.out) hk), Kd.fresh' (Kd.R_lt HO202.out) k_ hk, Kd.freshB BK197.out k_ hk, Kd.freshB BK198.out k_ hk⟩) _ (Nat.le_refl _)) (Below.refl _ _) (Nat.le_refl _) (by simp) ?_; (case hd => rfl); (case hg => rfl); (case hr => first | (go_simp; done) | (go_simp; rfl)); (case hp => exact (Reps.one (show Kd.FK (Kd.slice 45 k45) _ _ y205 [.slice Ao28 y205.length co28] from (Kd.FK_slice_mk (Kd.R_reads' (Kd.R_mono (ok' := (fun k_ => (w.heap.size ≤ k_) ∧ some k_ ≠ (.slice (some ⟨go12, 0, none⟩) y200.length co12 : Value).ownBlock ∧ k_ ≠ gb197 ∧ k_ ≠ gb198)) (Kd.R_types (Kd.R_types (Kd.R_apart' (HO207.out) (Kd.R_typed HO202.out) (by decide)) BK197.out (by decide)) BK198.out (by decide)) (fun k_ hk => ⟨hk.1.1.1.1, ⟨hk.1.1.2, ⟨hk.1.2, hk.2⟩⟩⟩))).2.1 (Kd.R_F (Kd.R_mono (ok' := (fun k_ => (w.heap.size ≤ k_) ∧ some k_ ≠ (.slice (some ⟨go12, 0, none⟩) y200.length co12 : Value).ownBlock ∧ k_ ≠ gb197 ∧ k_ ≠ gb198)) (Kd.R_types (Kd.R_types (Kd.R_apart' (HO207.out) (Kd.R_typed HO202.out) (by decide)) BK197.out (by decide)) BK198.out (by decide)) (fun k_ hk => ⟨hk.1.1.1.1, ⟨hk.1.1.2, ⟨hk.1.2, hk.2⟩⟩⟩))))) (Reps.none _ _))); intro v209 w29 ho30 hb hg_ hnew_; clear hg_ hnew_; (first | rw [← Ny208.out] at ho30 | (simp only [Int.reduceToNat] at ho30; rw [← Ny208.out] at ho30)); have n0_ := Aside0.mk (Kd.R_below HO202.out hb); have n1_ := Aside0.mk (Kd.N_lower ho30 (below_size HB.out)); have n2_ := Aside0.mk (blk_below BK197.out hb); have n3_ := Aside0.mk (blk_below BK198.out hb); have n4_ := Aside0.mk (below_step HB.out hb); clear HO202; clear BK197; clear BK198; clear HB; clear HO207; have HO202 := n0_; have HO210 := n1_; have BK197 := n2_; have BK198 := n3_; have HB := n4_; clear n0_ n1_ n2_ n3_ n4_; clear hb ho30))
     go_loopg [10, 11] k (fun kq v10 v11 w' => ∃ (x9_1 : List Bool) (x10_1 : List (List (S45))) (x11_1 : Int), v11 = .int .i64 x11_1 ∧ Aside0 (spec_l3Levels.l0 kq a2 a3 x9_1 x10_1 x11_1 a0_0 a0_1 a0_2 a0_3 = some r) ∧ Aside0 (kq ≤ k) ∧ Aside0 (Kd.R Kd.bool 4 w' w.heap.size (fun k_ => (w.heap.size ≤ k_)) (.slice (some ⟨go12, 0, none⟩) y200.length co12) x9_1) ∧ Aside0 (Kd.N (Kd.slice 45 k45) 43 w' w.heap.size (fun k_ => (w.heap.size ≤ k_) ∧ some k_ ≠ ((.slice (some ⟨go12, 0, none⟩) y200.length co12) : Value).ownBlock ∧ k_ ≠ gb197 ∧ k_ ≠ gb198) v10 x10_1) ∧ Aside0 (w'.heap[gb197]? = some (.cells #[.int .i64 a0_0, .int .i64 a0_1, .int .i64 a0_2, .int .i64 a0_3] 28 (0, 0))) ∧ Aside0 (w'.heap[gb198]? = some (.cells #[.int .i64 a1_0, .int .i64 a1_1, .int .i64 a1_2, .int .i64 a1_3] 22 (0, 0))) ∧ Aside0 (Below w.heap.size w w'))
     case atStart => exact ⟨(y204), (y208), (1), (by first | rfl | (simp; done) | (simp [*]; done)), H', ⟨Nat.le_refl _⟩, ⟨by (with_reducible repeat (first | apply Kd.R_alloc | apply Kd.R_drewN | apply Kd.R_drew)); exact HO202.out⟩, ⟨by (with_reducible repeat (first | apply Kd.N_alloc | apply Kd.N_drewN | apply Kd.N_drew)); exact HO210.out⟩, ⟨by (with_reducible repeat (first | refine blk_drewN ?_ _ | refine blk_drew ?_ | refine blk_alloc ?_ _)); exact BK197.out⟩, ⟨by (with_reducible repeat (first | refine blk_drewN ?_ _ | refine blk_drew ?_ | refine blk_alloc ?_ _)); exact BK198.out⟩, ⟨by repeat (first | (with_reducible first | exact HB.out | apply below_alloc | apply pw_below_drewN | apply below_drew1 | refine below_set ?_ GE197.out | refine below_set ?_ GE198.out) | exact HB.out)⟩⟩
     case round =>
      clear H'
      (try clear c7b0);(try clear c7b1);(try clear c8b0);(try clear c8b1);(try clear c10b0);(try clear c11b0);(try clear p12);(try clear q12);(try clear hcz16_0);(try clear hcz16_1);(try clear hcz16_2);(try clear hcz16_3);(try clear hcz20_0);(try clear hcz20_1);(try clear hcz20_2);(try clear hcz20_3);(try clear hcz21_0);(try clear hcz21_1);(try clear hcz21_2);(try clear hcz21_3);(try clear hcz25_0);(try clear hcz25_1);(try clear hcz25_2);(try clear hcz25_3);(try clear hfz16_0);(try clear hfz16_1);(try clear hfz16_2);(try clear hfz16_3);(try clear hfz20_0);(try clear hfz20_1);(try clear hfz20_2);(try clear hfz20_3);(try clear hfz21_0);(try clear hfz21_1);(try clear hfz21_2);(try clear hfz21_3);(try clear hfz25_0);(try clear hfz25_1);(try clear hfz25_2);(try clear hfz25_3);(try clear hx12_0)
      obtain ⟨x9_1, x10_1, x11_1, rfl, HA, HK1, HO_9, HO_10, BK197, BK198, HB⟩ := hrel
      have hl9_1 := (Kd.R_reads' HO_9.out).1
      rw [hl9_1] at HO_9
      (try simp only [hl9_1])
      (try simp only [hl9_1] at BK197)
      (try simp only [hl9_1] at BK198)
      (try simp only [hl9_1] at HO_10)
      cases gk with
      | zero => exact absurd HA.out (by simp [spec_l3Levels.l0])
      | succ k1 =>
       have H := HA.out
       clear HA
       simp only [spec_l3Levels.l0] at H
       by_cases c31 : x11_1 ≤ 12
       ·rw [if_pos c31] at H
        have c31b0 : decide (x11_1 ≤ 12) = true := decide_eq_true c31
        clear c31
        obtain ⟨y211, hy211⟩ : ∃ y_ : List (S45), y_ = (([] : List (S45))) := ⟨_, rfl⟩
        replace H : (if 0 ≤ (wrap64 (x11_1 - 1)) then (if (wrap64 (x11_1 - 1)) < (x10_1.length : Int) then ((spec_l3Next.f k1 a0_0 a0_1 a0_2 a0_3 (rd_L3 x10_1 (wrap64 (x11_1 - 1))) a2 true).bind fun t215 => (spec_l3Levels.l1 k1 a2 a3 x9_1 x10_1 x11_1 y211 t215 0 a0_0 a0_1 a0_2 a0_3)) else (none)) else (none)) = some r := by first | (rw [hy211]; with_reducible exact H) | (have H2_ := (Option.bind_some _ _).symm.trans H; rw [hy211]; with_reducible exact H2_) | (have H2_ := (Option.bind_some _ _).symm.trans H; with_reducible exact H2_) | with_reducible exact H | (rw [hy211]; exact H) | exact H
        have Ny211 := Aside0.mk hy211
        clear hy211
        obtain ⟨ji32, hji32⟩ : ∃ j_ : Int, (wrap64 (x11_1 - 1)) = j_ := ⟨_, rfl⟩
        replace H : (if 0 ≤ (ji32) then (if (ji32) < (x10_1.length : Int) then ((spec_l3Next.f k1 a0_0 a0_1 a0_2 a0_3 (rd_L3 x10_1 (ji32)) a2 true).bind fun t215 => (spec_l3Levels.l1 k1 a2 a3 x9_1 x10_1 x11_1 y211 t215 0 a0_0 a0_1 a0_2 a0_3)) else (none)) else (none)) = some r := by first | (rw [hji32] at H; exact H) | (simp only [hji32] at H ⊢; exact H)
        have hji32w : (IntKind.i64.wrap (x11_1 - 1)) = ji32 := (i64_w _).trans hji32
        by_cases c33 : 0 ≤ (ji32)
        ·rw [if_pos c33] at H
         have c33b0 : decide (0 ≤ (ji32)) = true := decide_eq_true c33
         clear c33
         by_cases c34 : (ji32) < (x10_1.length : Int)
         ·rw [if_pos c34] at H
          have c34b0 : decide ((ji32) < (x10_1.length : Int)) = true := decide_eq_true c34
          clear c34
          replace H := Option.bind_eq_some_iff.mp H
          obtain ⟨t215, A350, H⟩ := H
          replace H : (spec_l3Levels.l1 k1 a2 a3 x9_1 x10_1 x11_1 y211 t215 0 a0_0 a0_1 a0_2 a0_3) = some r := H
          have A35 := Aside0.mk A350
          clear A350
          have H' := Aside0.mk H
          clear H
          try go_wp2_with (first | ((with_reducible refine gate_dst (N := 35) rfl ?_); refine Kd.R_lit k45 _ 45 ?hg (N := 35) ?hd (xs := ([] : List (S45))) (inner := []) (ok := fun _ => True) (okp := fun _ => True) ?hr ?hp (fun _ hk => hk) trivial (Below.refl _ _) (Nat.le_refl _) (by simp) ?_; (case hd => rfl); (case hg => rfl); (case hr => first | (go_simp; done) | (go_simp; rfl)); (case hp => exact (Reps.none _ _)); intro v212 w36 ho37 hb hg_ hnew_; clear hg_ hnew_; (first | rw [← Ny211.out] at ho37 | (simp only [Int.reduceToNat] at ho37; rw [← Ny211.out] at ho37)); have n0_ := Aside0.mk (Kd.R_below HO_9.out hb); have n1_ := Aside0.mk (Kd.N_elder' (by (with_reducible repeat (first | apply Kd.N_alloc | apply Kd.N_drewN | apply Kd.N_drew)); exact HO_10.out) (Kd.R_base ho37) hb); have n2_ := Aside0.mk (Kd.R_lower (Kd.R_newM (M := fun k_ => (w.heap.size ≤ k_)) ho37 (below_size HB.out) (fun k_ h_ => h_)) (below_size HB.out)); have n3_ := Aside0.mk (blk_below BK197.out hb); have n4_ := Aside0.mk (blk_below BK198.out hb); have n5_ := Aside0.mk (below_step HB.out hb); clear HO_9; clear HO_10; clear BK197; clear BK198; clear HB; have HO_9 := n0_; have HO_10 := n1_; have HO213 := n2_; have BK197 := n3_; have BK198 := n4_; have HB := n5_; clear n0_ n1_ n2_ n3_ n4_ n5_; clear hb ho37))
          have n0_ := Aside0.mk (Kd.R_drew HO_9.out)
          have n1_ := Aside0.mk (Kd.N_drew HO_10.out)
          have n2_ := Aside0.mk (Kd.R_drew HO213.out)
          have n3_ := Aside0.mk (blk_drew BK197.out)
          have n4_ := Aside0.mk (blk_drew BK198.out)
          have n5_ := Aside0.mk (below_drew1 HB.out)
          clear HO_9
          clear HO_10
          clear HO213
          clear BK197
          clear BK198
          clear HB
          have HO_9 := n0_
          have HO_10 := n1_
          have HO213 := n2_
          have BK197 := n3_
          have BK198 := n4_
          have HB := n5_
          clear n0_ n1_ n2_ n3_ n4_ n5_
          obtain ⟨Ao39, co39, eo39⟩ := Kd.N_slice HO_10.out
          (first | subst eo39 | (injection eo39 with f1_ f2_ f3_; have f4_ := f1_.symm; have f5_ := f3_.symm; clear f1_ f2_ f3_; subst f4_; subst f5_))
          have p214 : 0 ≤ ((ji32) : Int) := of_decide_eq_true (by first | (with_reducible assumption) | assumption)
          have q214 : (ji32) < (x10_1.length : Int) := of_decide_eq_true (by first | (with_reducible assumption) | assumption)
          obtain ⟨ad214, A214_0, c214_0, e214, hx214_0, hl214_0, hi214_0⟩ := at_L3 (Kd.N_reads' HO_10.out).2.2 (ji32) p214 q214
          cases e214
          obtain ⟨ce214, hce214, hMe214, hcc214⟩ := Kd.N_get HO_10.out [] (ji32) p214 (by first | exact q214 | exact of_decide_eq_true (by first | (with_reducible assumption) | assumption) | (have e_ := (Kd.N_reads' HO_10.out).1; omega))
          obtain ⟨ua214_0, uc214_0, rfl, ul214_0, ge214_0⟩ := Kd.FK_slice_open hMe214
          have hv214_0 := hcc214 0 _ rfl
          rw [Nat.add_zero, show ((Kd.slice 45 k45)).sz = 1 from rfl, Nat.mul_one] at hv214_0
          replace hv214_0 := Option.some.inj (hv214_0.symm.trans hx214_0)
          injection hv214_0 with hva_ hvn_ hvc_
          rw [hva_] at ge214_0
          rw [hvc_] at ul214_0
          have HL214_0 := Aside0.mk (show Kd.V k45 45 _ w.heap.size _ _ (rd_L3 x10_1 (ji32)) from Kd.V_mk ul214_0 ge214_0)
          clear hva_ hvn_ hvc_ ge214_0 ul214_0
          clear hcc214 hce214
          have HR214_0 := Aside0.mk hi214_0
          have HC214_0 := Aside0.mk hl214_0
          clear hi214_0 hl214_0
          replace p214 := eq_true p214
          replace q214 := eq_true q214
          refine start_ (n := 9) (S := fun w' => w'.cell? ⟨gb197, 0, none⟩ = some (.int .i64 a0_0) ∧ w'.cell? ⟨gb197, 1, none⟩ = some (.int .i64 a0_1) ∧ w'.cell? ⟨gb197, 2, none⟩ = some (.int .i64 a0_2) ∧ w'.cell? ⟨gb197, 3, none⟩ = some (.int .i64 a0_3) ∧ w'.cell? (ad214.add ((ji32)).toNat) = some (.slice A214_0 (rd_L3 x10_1 (ji32)).length c214_0)) (ds := []) #[false, false, false, false, false, false, false, false, false] (by kernel_rfl) rfl rfl ⟨(blk_cell BK197.out 0).trans rfl, (blk_cell BK197.out 1).trans rfl, (blk_cell BK197.out 2).trans rfl, (blk_cell BK197.out 3).trans rfl, hx214_0⟩ (fun hHeld => ?_); refine with_tabW spec_l3Levels.tab8 spec_l3Levels.bits8 (fun HT_ HW_ => ?_)
          generalize w36.drew = w38 at HO_9 HO_10 HO213 BK197 BK198 HB HL214_0 HR214_0 hx214_0 hHeld ⊢
          refine pure_ (i := 1) (N := some 37) (v := ?_) (a' := ?_) #[false, true, false, false, false, false, false, false, false] rfl rfl (any_of HT_.out (by kernel_rfl)) (fun _ _ _ h => h) (Or.inl ⟨by rfl, ?_⟩) ?_ ?_
          rotate_left
          ·intro w'
           go_simp
           with_reducible rfl
          rotate_left
          ·simp only [Act.put, q1, q2, q3, i64_w, i32_w]
           rfl
          refine pure_ (i := 2) (N := some 38) (v := ?_) (a' := ?_) #[false, true, true, false, false, false, false, false, false] rfl rfl (any_of HT_.out (by kernel_rfl)) (fun _ _ _ h => h) (Or.inl ⟨by rfl, ?_⟩) ?_ ?_
          rotate_left
          ·intro w'
           go_simp
           with_reducible rfl
          rotate_left
          ·simp only [Act.put, q1, q2, q3, i64_w, i32_w]
           rfl
          refine pure_ (i := 3) (N := some 39) (v := ?_) (a' := ?_) #[false, true, true, true, false, false, false, false, false] rfl rfl (any_of HT_.out (by kernel_rfl)) (fun _ _ _ h => h) (Or.inl ⟨by rfl, ?_⟩) ?_ ?_
          rotate_left
          ·intro w'
           go_simp
           with_reducible rfl
          rotate_left
          ·simp only [Act.put, q1, q2, q3, i64_w, i32_w]
           rfl
          refine pure_ (i := 4) (N := some 40) (v := ?_) (a' := ?_) #[false, true, true, true, true, false, false, false, false] rfl rfl (any_of HT_.out (by kernel_rfl)) (fun _ _ _ h => h) (Or.inl ⟨by rfl, ?_⟩) ?_ ?_
          rotate_left
          ·intro w'
           go_simp
           with_reducible rfl
          rotate_left
          ·simp only [Act.put, q1, q2, q3, i64_w, i32_w]
           rfl
          refine pure_ (i := 6) (N := some 42) (v := ?_) (a' := ?_) #[false, true, true, true, true, false, true, false, false] rfl rfl (any_of HT_.out (by kernel_rfl)) (fun _ _ _ h => h) (Or.inl ⟨by rfl, ?_⟩) ?_ ?_
          rotate_left
          ·intro w'
           go_simp
           with_reducible rfl
          rotate_left
          ·simp only [Act.put, q1, q2, q3, i64_w, i32_w]
           rfl
          refine take_ (i := 0) (N := some 36) (v := ?_) (a' := ?_) #[true, true, true, true, true, false, true, false, false] rfl rfl (take_ofW HT_.out HW_.out (by kernel_rfl)) (fun _ _ _ h => h) (Or.inl ⟨by rfl, ?_⟩) hHeld ?_ ?_
          rotate_left
          ·rintro w' ⟨s0, s1, s2, s3, s4⟩
           go_simp
           with_reducible rfl
          rotate_left
          ·simp only [Act.put, q1, q2, q3, i64_w, i32_w]
           rfl
          refine take_ (i := 5) (N := some 41) (v := ?_) (a' := ?_) #[true, true, true, true, true, true, true, false, false] rfl rfl (take_ofW HT_.out HW_.out (by kernel_rfl)) (fun _ _ _ h => h) (Or.inl ⟨by rfl, ?_⟩) hHeld ?_ ?_
          rotate_left
          ·rintro w' ⟨s0, s1, s2, s3, s4⟩
           go_simp
           with_reducible rfl
          rotate_left
          ·simp only [Act.put, q1, q2, q3, i64_w, i32_w]
           rfl
          refine one_ (i := 7) (N := some 43) #[true, true, true, true, true, true, true, true, false] rfl rfl (one_of HT_.out (by kernel_rfl)) (by decide) (fun K hK => ?_)
          refine goes_ Try.func32 (by kernel_rfl) rfl #[.agg #[.int .i64 a0_0, .int .i64 a0_1, .int .i64 a0_2, .int .i64 a0_3], .slice A214_0 (rd_L3 x10_1 (ji32)).length c214_0, .int .i64 a2, .bool true] (by rfl) rfl rfl (by (try simp only [List.map_toArray, List.map_cons, List.map_nil]); first | done | (simp only [hji32]; rfl) | rfl | (simp only [List.length_drop, List.length_take]; rfl)) ?_
          with_reducible refine (spec_l3Next.calls k1 a0_0 a0_1 a0_2 a0_3 _ _ (rd_L3 x10_1 (ji32)) a2 true t215 _ ?side1 ?side2 A35.out).mono ?_
          (case side1 => repeat (first | exact (by repeat (first | (with_reducible exact HR214_0.out) | (with_reducible refine Kd.C_alloc ?_ _) | (with_reducible refine Kd.C_drewN ?_ _) | (with_reducible refine Kd.C_drew ?_) | exact HR214_0.out)) | (with_reducible refine Kd.C_alloc ?_ _) | (with_reducible refine Kd.C_drewN ?_ _) | (with_reducible refine Kd.C_drew ?_)))
          (case side2 => exact HC214_0.out)
          rintro e w40 ⟨v216, rfl, ho0, hb⟩
          have HS4_ := (hb.cell (World.block_lt_of_cell? _ _ (hHeld.2.2.2.2))).trans (hHeld.2.2.2.2)
          refine ⟨_, rfl, ?_⟩
          have n0_ := Aside0.mk (Kd.R_below HO_9.out hb)
          have n1_ := Aside0.mk (Kd.N_elder' (by (with_reducible repeat (first | apply Kd.N_alloc | apply Kd.N_drewN | apply Kd.N_drew)); exact HO_10.out) (Kd.R_base ho0) hb)
          have n2_ := Aside0.mk (Kd.R_elder' HO213.out (Kd.R_base ho0) hb)
          have n3_ := Aside0.mk (Kd.V_elder' (by (with_reducible repeat (first | apply Kd.V_alloc | apply Kd.V_drewN | apply Kd.V_drew)); exact HL214_0.out) (Kd.R_base ho0) hb)
          have n4_ := Aside0.mk (Kd.R_lower (Kd.R_new' (Kd.R_newM (M := fun k_ => (w.heap.size ≤ k_)) ho0 (below_size HB.out) (fun k_ h_ => h_)) (Kd.R_lt HO213.out)) (below_size HB.out))
          have n5_ := Aside0.mk (blk_below BK197.out hb)
          have n6_ := Aside0.mk (blk_below BK198.out hb)
          have n7_ := Aside0.mk (Kd.C_below (by repeat (first | (with_reducible exact HR214_0.out) | (with_reducible refine Kd.C_alloc ?_ _) | (with_reducible refine Kd.C_drewN ?_ _) | (with_reducible refine Kd.C_drew ?_) | exact HR214_0.out)) hb)
          have n8_ := Aside0.mk (below_step HB.out hb)
          clear HO_9
          clear HO_10
          clear HO213
          clear HL214_0
          clear BK197
          clear BK198
          clear HR214_0
          clear HB
          have HO_9 := n0_
          have HO_10 := n1_
          have HO213 := n2_
          have HL214_0 := n3_
          have HO217 := n4_
          have BK197 := n5_
          have BK198 := n6_
          have HR214_0 := n7_
          have HB := n8_
          clear n0_ n1_ n2_ n3_ n4_ n5_ n6_ n7_ n8_
          (try clear hb)
          (try clear hb2)
          (try clear hk)
          (try clear hi)
          (try clear ho0)
          refine hK.out _ _ ⟨(blk_cell BK197.out 0).trans rfl, (blk_cell BK197.out 1).trans rfl, (blk_cell BK197.out 2).trans rfl, (blk_cell BK197.out 3).trans rfl, HS4_⟩ (fun hHeld => ?_)
          clear hK K
          refine norm_ (a' := ?_) ?_ ?_
          rotate_left
          ·show Act.put _ (some 43) _ = _
           simp only [Act.put, q1, q2, q3, i64_w, i32_w]
           rfl
          refine pure_ (i := 8) (N := some 13) (v := ?_) (a' := ?_) #[true, true, true, true, true, true, true, true, true] rfl rfl (any_of HT_.out (by kernel_rfl)) (fun _ _ _ h => h) (Or.inl ⟨by rfl, ?_⟩) ?_ ?_
          rotate_left
          ·intro w'
           go_simp
           with_reducible rfl
          rotate_left
          ·simp only [Act.put, q1, q2, q3, i64_w, i32_w]
           rfl
          refine done_ (done_of HT_.out (by kernel_rfl)) ?_
          try go_wp2
          go_loopg [12, 14] k1 (fun kq v12 v14 w' => ∃ (x9_2 : List Bool) (x12_2 : List (S45)) (x14_2 : Int), v14 = .int .i64 x14_2 ∧ Aside0 (spec_l3Levels.l1 kq a2 a3 x9_2 x10_1 x11_1 x12_2 t215 x14_2 a0_0 a0_1 a0_2 a0_3 = some r) ∧ Aside0 (kq ≤ k1) ∧ Aside0 (Kd.R Kd.bool 4 w' w.heap.size (fun k_ => (w.heap.size ≤ k_)) (.slice (some ⟨go12, 0, none⟩) x9_1.length co12) x9_2) ∧ Aside0 (Kd.N (Kd.slice 45 k45) 43 w' w.heap.size (fun k_ => (w.heap.size ≤ k_) ∧ some k_ ≠ ((.slice (some ⟨go12, 0, none⟩) x9_1.length co12) : Value).ownBlock ∧ some k_ ≠ (v12 : Value).ownBlock ∧ some k_ ≠ (v216 : Value).ownBlock ∧ k_ ≠ gb197 ∧ k_ ≠ gb198) (.slice (some ad214) x10_1.length co39) x10_1) ∧ Aside0 (Kd.R k45 45 w' w.heap.size (fun k_ => (w.heap.size ≤ k_) ∧ some k_ ≠ (v216 : Value).ownBlock) v12 x12_2) ∧ Aside0 (Kd.R k45 45 w' w.heap.size (fun k_ => (w.heap.size ≤ k_) ∧ some k_ ≠ (v12 : Value).ownBlock) v216 t215) ∧ Aside0 (w'.heap[gb197]? = some (.cells #[.int .i64 a0_0, .int .i64 a0_1, .int .i64 a0_2, .int .i64 a0_3] 28 (0, 0))) ∧ Aside0 (w'.heap[gb198]? = some (.cells #[.int .i64 a1_0, .int .i64 a1_1, .int .i64 a1_2, .int .i64 a1_3] 22 (0, 0))) ∧ Aside0 (Below w.heap.size w w'))
          case atStart => exact ⟨(x9_1), (y211), (0), (by first | rfl | (simp; done) | (simp [*]; done)), H', ⟨Nat.le_refl _⟩, ⟨by (try simp only [hl9_1]); (with_reducible repeat (first | apply Kd.R_alloc | apply Kd.R_drewN | apply Kd.R_drew)); exact HO_9.out⟩, ⟨by (try simp only [hl9_1]); (with_reducible repeat (first | apply Kd.N_alloc | apply Kd.N_drewN | apply Kd.N_drew)); exact Kd.N_mono HO_10.out (fun _ hk => ⟨hk.1.1.1, ⟨hk.1.1.2.1, ⟨hk.1.2, ⟨hk.2, ⟨hk.1.1.2.2.1, hk.1.1.2.2.2⟩⟩⟩⟩⟩)⟩, ⟨by (try simp only [hl9_1]); (with_reducible repeat (first | apply Kd.R_alloc | apply Kd.R_drewN | apply Kd.R_drew)); exact Kd.R_mono HO213.out (fun _ hk => ⟨hk.1.1, hk.2⟩)⟩, ⟨by (try simp only [hl9_1]); (with_reducible repeat (first | apply Kd.R_alloc | apply Kd.R_drewN | apply Kd.R_drew)); exact Kd.R_mono HO217.out (fun _ hk => ⟨hk.1.1, hk.2⟩)⟩, ⟨by (try simp only [hl9_1]); (with_reducible repeat (first | refine blk_drewN ?_ _ | refine blk_drew ?_ | refine blk_alloc ?_ _)); exact BK197.out⟩, ⟨by (try simp only [hl9_1]); (with_reducible repeat (first | refine blk_drewN ?_ _ | refine blk_drew ?_ | refine blk_alloc ?_ _)); exact BK198.out⟩, ⟨by repeat (first | (with_reducible first | exact HB.out | apply below_alloc | apply pw_below_drewN | apply below_drew1 | refine below_set ?_ GE197.out | refine below_set ?_ GE198.out) | exact HB.out)⟩⟩
          case round =>
           clear H'
           (try clear c31b0);(try clear c33b0);(try clear c34b0);(try clear hx214_0);(try clear p214);(try clear q214)
           obtain ⟨x9_2, x12_2, x14_2, rfl, HA, HK2, HO_9, HO_10, HO_12, HO_13, BK197, BK198, HB⟩ := hrel
           have hl9_2 := (Kd.R_reads' HO_9.out).1
           rw [hl9_2] at HO_9
           (try simp only [hl9_2])
           (try simp only [hl9_2] at BK197)
           (try simp only [hl9_2] at BK198)
           (try simp only [hl9_2] at HO_10)
           (try simp only [hl9_2] at HO_12)
           (try simp only [hl9_2] at HO_13)
           cases gk with
           | zero => exact absurd HA.out (by simp [spec_l3Levels.l1])
           | succ k2 =>
            have H := HA.out
            clear HA
            simp only [spec_l3Levels.l1] at H
            by_cases c41 : x14_2 < (t215.length : Int)
            ·rw [if_pos c41] at H
             have c41b0 : decide (x14_2 < (t215.length : Int)) = true := decide_eq_true c41
             clear c41
             by_cases c42 : 0 ≤ x14_2
             ·rw [if_pos c42] at H
              have c42b0 : decide (0 ≤ x14_2) = true := decide_eq_true c42
              clear c42
              replace H := Option.bind_eq_some_iff.mp H
              obtain ⟨t223, A430, H⟩ := H
              replace H : (if a3 = true then (if 0 ≤ t223 then (if t223 < (x9_2.length : Int) then (spec_l3Levels.j2 k2 a2 a3 x9_2 x10_1 x11_1 x12_2 t215 x14_2 t223 (!(rdOf false x9_2 t223)) a0_0 a0_1 a0_2 a0_3) else (none)) else (none)) else (spec_l3Levels.j2 k2 a2 a3 x9_2 x10_1 x11_1 x12_2 t215 x14_2 t223 true a0_0 a0_1 a0_2 a0_3)) = some r := H
              have A43 := Aside0.mk A430
              clear A430
              have HC44 := Aside0.mk H
              clear H
              obtain ⟨Ao45, co45, eo45⟩ := Kd.R_slice HO_13.out
              subst eo45
              try go_wp2
              have n0_ := Aside0.mk (Kd.R_drew HO_9.out)
              have n1_ := Aside0.mk (Kd.N_drew HO_10.out)
              have n2_ := Aside0.mk (Kd.R_drew HO_12.out)
              have n3_ := Aside0.mk (Kd.R_drew HO_13.out)
              have n4_ := Aside0.mk (blk_drew BK197.out)
              have n5_ := Aside0.mk (blk_drew BK198.out)
              have n6_ := Aside0.mk (below_drew1 HB.out)
              clear HO_9
              clear HO_10
              clear HO_12
              clear HO_13
              clear BK197
              clear BK198
              clear HB
              have HO_9 := n0_
              have HO_10 := n1_
              have HO_12 := n2_
              have HO_13 := n3_
              have BK197 := n4_
              have BK198 := n5_
              have HB := n6_
              clear n0_ n1_ n2_ n3_ n4_ n5_ n6_
              have p221 : 0 ≤ (x14_2 : Int) := of_decide_eq_true (by first | (with_reducible assumption) | assumption)
              have q221 : x14_2 < (t215.length : Int) := of_decide_eq_true (by first | (with_reducible assumption) | assumption)
              obtain ⟨ad221, e221, hx221_0, hx221_1, hx221_2, hx221_3, hx221_4, hx221_5⟩ := at_T45 (Kd.R_reads' HO_13.out).2.2 x14_2 p221 q221
              cases e221
              replace p221 := eq_true p221
              replace q221 := eq_true q221
              have p222 : 0 ≤ (x14_2 : Int) := of_decide_eq_true (by first | (with_reducible assumption) | assumption)
              have q222 : x14_2 < (t215.length : Int) := of_decide_eq_true (by first | (with_reducible assumption) | assumption)
              obtain ⟨ad222, e222, hx222_0, hx222_1, hx222_2, hx222_3, hx222_4, hx222_5⟩ := at_T45 (Kd.R_reads' HO_13.out).2.2 x14_2 p222 q222
              obtain rfl : ad221 = ad222 := (by injection e222)
              replace p222 := eq_true p222
              replace q222 := eq_true q222
              refine start_ (n := 13) (S := fun w' => w'.cell? ⟨gb197, 0, none⟩ = some (.int .i64 a0_0) ∧ w'.cell? ⟨gb197, 1, none⟩ = some (.int .i64 a0_1) ∧ w'.cell? ⟨gb197, 2, none⟩ = some (.int .i64 a0_2) ∧ w'.cell? ⟨gb197, 3, none⟩ = some (.int .i64 a0_3) ∧ w'.cell? (ad221.add ((x14_2).toNat * 6)) = some (.int .i64 ((rd_T45 t215 x14_2).f0)) ∧ w'.cell? ⟨(ad221.add ((x14_2).toNat * 6)).block, (ad221.add ((x14_2).toNat * 6)).off + 1, none⟩ = some (.int .i64 ((rd_T45 t215 x14_2).f1.f0)) ∧ w'.cell? ⟨(ad221.add ((x14_2).toNat * 6)).block, (ad221.add ((x14_2).toNat * 6)).off + 2, none⟩ = some (.int .i64 ((rd_T45 t215 x14_2).f1.f1)) ∧ w'.cell? ⟨(ad221.add ((x14_2).toNat * 6)).block, (ad221.add ((x14_2).toNat * 6)).off + 3, none⟩ = some (.int .i64 ((rd_T45 t215 x14_2).f1.f2)) ∧ w'.cell? ⟨(ad221.add ((x14_2).toNat * 6)).block, (ad221.add ((x14_2).toNat * 6)).off + 4, none⟩ = some (.int .i64 ((rd_T45 t215 x14_2).f1.f3)) ∧ w'.cell? ⟨(ad221.add ((x14_2).toNat * 6)).block, (ad221.add ((x14_2).toNat * 6)).off + 5, none⟩ = some (.int .i64 ((rd_T45 t215 x14_2).f2)) ∧ w'.cell? (ad221.add ((x14_2).toNat * 6)) = some (.int .i64 ((rd_T45 t215 x14_2).f0)) ∧ w'.cell? ⟨(ad221.add ((x14_2).toNat * 6)).block, (ad221.add ((x14_2).toNat * 6)).off + 1, none⟩ = some (.int .i64 ((rd_T45 t215 x14_2).f1.f0)) ∧ w'.cell? ⟨(ad221.add ((x14_2).toNat * 6)).block, (ad221.add ((x14_2).toNat * 6)).off + 2, none⟩ = some (.int .i64 ((rd_T45 t215 x14_2).f1.f1)) ∧ w'.cell? ⟨(ad221.add ((x14_2).toNat * 6)).block, (ad221.add ((x14_2).toNat * 6)).off + 3, none⟩ = some (.int .i64 ((rd_T45 t215 x14_2).f1.f2)) ∧ w'.cell? ⟨(ad221.add ((x14_2).toNat * 6)).block, (ad221.add ((x14_2).toNat * 6)).off + 4, none⟩ = some (.int .i64 ((rd_T45 t215 x14_2).f1.f3)) ∧ w'.cell? ⟨(ad221.add ((x14_2).toNat * 6)).block, (ad221.add ((x14_2).toNat * 6)).off + 5, none⟩ = some (.int .i64 ((rd_T45 t215 x14_2).f2))) (ds := []) #[false, false, false, false, false, false, false, false, false, false, false, false, false] (by kernel_rfl) rfl rfl ⟨(blk_cell BK197.out 0).trans rfl, (blk_cell BK197.out 1).trans rfl, (blk_cell BK197.out 2).trans rfl, (blk_cell BK197.out 3).trans rfl, hx221_0, hx221_1, hx221_2, hx221_3, hx221_4, hx221_5, hx222_0, hx222_1, hx222_2, hx222_3, hx222_4, hx222_5⟩ (fun hHeld => ?_); refine with_tabW spec_l3Levels.tab12 spec_l3Levels.bits12 (fun HT_ HW_ => ?_)
              generalize wr.drew = w46 at HO_9 HO_10 HO_12 HO_13 BK197 BK198 HB hx221_0 hx221_1 hx221_2 hx221_3 hx221_4 hx221_5 hx222_0 hx222_1 hx222_2 hx222_3 hx222_4 hx222_5 hHeld ⊢
              refine pure_ (i := 1) (N := some 51) (v := ?_) (a' := ?_) #[false, true, false, false, false, false, false, false, false, false, false, false, false] rfl rfl (any_of HT_.out (by kernel_rfl)) (fun _ _ _ h => h) (Or.inl ⟨by rfl, ?_⟩) ?_ ?_
              rotate_left
              ·intro w'
               go_simp
               with_reducible rfl
              rotate_left
              ·simp only [Act.put, q1, q2, q3, i64_w, i32_w]
               rfl
              refine pure_ (i := 2) (N := some 52) (v := ?_) (a' := ?_) #[false, true, true, false, false, false, false, false, false, false, false, false, false] rfl rfl (any_of HT_.out (by kernel_rfl)) (fun _ _ _ h => h) (Or.inl ⟨by rfl, ?_⟩) ?_ ?_
              rotate_left
              ·intro w'
               go_simp
               with_reducible rfl
              rotate_left
              ·simp only [Act.put, q1, q2, q3, i64_w, i32_w]
               rfl
              refine pure_ (i := 3) (N := some 53) (v := ?_) (a' := ?_) #[false, true, true, true, false, false, false, false, false, false, false, false, false] rfl rfl (any_of HT_.out (by kernel_rfl)) (fun _ _ _ h => h) (Or.inl ⟨by rfl, ?_⟩) ?_ ?_
              rotate_left
              ·intro w'
               go_simp
               with_reducible rfl
              rotate_left
              ·simp only [Act.put, q1, q2, q3, i64_w, i32_w]
               rfl
              refine pure_ (i := 4) (N := some 54) (v := ?_) (a' := ?_) #[false, true, true, true, true, false, false, false, false, false, false, false, false] rfl rfl (any_of HT_.out (by kernel_rfl)) (fun _ _ _ h => h) (Or.inl ⟨by rfl, ?_⟩) ?_ ?_
              rotate_left
              ·intro w'
               go_simp
               with_reducible rfl
              rotate_left
              ·simp only [Act.put, q1, q2, q3, i64_w, i32_w]
               rfl
              refine pure_ (i := 6) (N := some 56) (v := ?_) (a' := ?_) #[false, true, true, true, true, false, true, false, false, false, false, false, false] rfl rfl (any_of HT_.out (by kernel_rfl)) (fun _ _ _ h => h) (Or.inl ⟨by rfl, ?_⟩) ?_ ?_
              rotate_left
              ·intro w'
               go_simp
               with_reducible rfl
              rotate_left
              ·simp only [Act.put, q1, q2, q3, i64_w, i32_w]
               rfl
              refine pure_ (i := 7) (N := some 57) (v := ?_) (a' := ?_) #[false, true, true, true, true, false, true, true, false, false, false, false, false] rfl rfl (any_of HT_.out (by kernel_rfl)) (fun _ _ _ h => h) (Or.inl ⟨by rfl, ?_⟩) ?_ ?_
              rotate_left
              ·intro w'
               go_simp
               with_reducible rfl
              rotate_left
              ·simp only [Act.put, q1, q2, q3, i64_w, i32_w]
               rfl
              refine pure_ (i := 8) (N := some 58) (v := ?_) (a' := ?_) #[false, true, true, true, true, false, true, true, true, false, false, false, false] rfl rfl (any_of HT_.out (by kernel_rfl)) (fun _ _ _ h => h) (Or.inl ⟨by rfl, ?_⟩) ?_ ?_
              rotate_left
              ·intro w'
               go_simp
               with_reducible rfl
              rotate_left
              ·simp only [Act.put, q1, q2, q3, i64_w, i32_w]
               rfl
              refine pure_ (i := 9) (N := some 59) (v := ?_) (a' := ?_) #[false, true, true, true, true, false, true, true, true, true, false, false, false] rfl rfl (any_of HT_.out (by kernel_rfl)) (fun _ _ _ h => h) (Or.inl ⟨by rfl, ?_⟩) ?_ ?_
              rotate_left
              ·intro w'
               go_simp
               with_reducible rfl
              rotate_left
              ·simp only [Act.put, q1, q2, q3, i64_w, i32_w]
               rfl
              refine take_ (i := 0) (N := some 50) (v := ?_) (a' := ?_) #[true, true, true, true, true, false, true, true, true, true, false, false, false] rfl rfl (take_ofW HT_.out HW_.out (by kernel_rfl)) (fun _ _ _ h => h) (Or.inl ⟨by rfl, ?_⟩) hHeld ?_ ?_
              rotate_left
              ·rintro w' ⟨s0, s1, s2, s3, s4, s5, s6, s7, s8, s9, s10, s11, s12, s13, s14, s15⟩
               go_simp
               with_reducible rfl
              rotate_left
              ·simp only [Act.put, q1, q2, q3, i64_w, i32_w]
               rfl
              refine take_ (i := 5) (N := some 55) (v := ?_) (a' := ?_) #[true, true, true, true, true, true, true, true, true, true, false, false, false] rfl rfl (take_ofW HT_.out HW_.out (by kernel_rfl)) (fun _ _ _ h => h) (Or.inl ⟨by rfl, ?_⟩) hHeld ?_ ?_
              rotate_left
              ·rintro w' ⟨s0, s1, s2, s3, s4, s5, s6, s7, s8, s9, s10, s11, s12, s13, s14, s15⟩
               go_simp
               with_reducible rfl
              rotate_left
              ·simp only [Act.put, q1, q2, q3, i64_w, i32_w]
               rfl
              refine take_ (i := 10) (N := some 60) (v := ?_) (a' := ?_) #[true, true, true, true, true, true, true, true, true, true, true, false, false] rfl rfl (take_ofW HT_.out HW_.out (by kernel_rfl)) (fun _ _ _ h => h) (Or.inl ⟨by rfl, ?_⟩) hHeld ?_ ?_
              rotate_left
              ·rintro w' ⟨s0, s1, s2, s3, s4, s5, s6, s7, s8, s9, s10, s11, s12, s13, s14, s15⟩
               go_simp
               with_reducible rfl
              rotate_left
              ·simp only [Act.put, q1, q2, q3, i64_w, i32_w]
               rfl
              refine one_ (i := 11) (N := some 61) #[true, true, true, true, true, true, true, true, true, true, true, true, false] rfl rfl (one_of HT_.out (by kernel_rfl)) (by decide) (fun K hK => ?_)
              refine goes_ Try.func31 (by kernel_rfl) rfl #[.agg #[.int .i64 a0_0, .int .i64 a0_1, .int .i64 a0_2, .int .i64 a0_3], .int .i64 ((rd_T45 t215 x14_2).f0), .agg #[.int .i64 ((rd_T45 t215 x14_2).f1.f0), .int .i64 ((rd_T45 t215 x14_2).f1.f1), .int .i64 ((rd_T45 t215 x14_2).f1.f2), .int .i64 ((rd_T45 t215 x14_2).f1.f3)]] (by rfl) rfl rfl (by (try simp only [List.map_toArray, List.map_cons, List.map_nil]); first | done | rfl | (simp only [List.length_drop, List.length_take]; rfl)) ?_
              with_reducible refine (spec_l3Id.calls a0_0 a0_1 a0_2 a0_3 ((rd_T45 t215 x14_2).f0) ((rd_T45 t215 x14_2).f1.f0) ((rd_T45 t215 x14_2).f1.f1) ((rd_T45 t215 x14_2).f1.f2) ((rd_T45 t215 x14_2).f1.f3) t223 _ A43.out).mono ?_
              rintro e w47 ⟨rfl, hb⟩
              have HS4_ := (hb.cell (World.block_lt_of_cell? _ _ (hHeld.2.2.2.2.1))).trans (hHeld.2.2.2.2.1)
              have HS5_ := (hb.cell (World.block_lt_of_cell? _ _ (hHeld.2.2.2.2.2.1))).trans (hHeld.2.2.2.2.2.1)
              have HS6_ := (hb.cell (World.block_lt_of_cell? _ _ (hHeld.2.2.2.2.2.2.1))).trans (hHeld.2.2.2.2.2.2.1)
              have HS7_ := (hb.cell (World.block_lt_of_cell? _ _ (hHeld.2.2.2.2.2.2.2.1))).trans (hHeld.2.2.2.2.2.2.2.1)
              have HS8_ := (hb.cell (World.block_lt_of_cell? _ _ (hHeld.2.2.2.2.2.2.2.2.1))).trans (hHeld.2.2.2.2.2.2.2.2.1)
              have HS9_ := (hb.cell (World.block_lt_of_cell? _ _ (hHeld.2.2.2.2.2.2.2.2.2.1))).trans (hHeld.2.2.2.2.2.2.2.2.2.1)
              have HS10_ := (hb.cell (World.block_lt_of_cell? _ _ (hHeld.2.2.2.2.2.2.2.2.2.2.1))).trans (hHeld.2.2.2.2.2.2.2.2.2.2.1)
              have HS11_ := (hb.cell (World.block_lt_of_cell? _ _ (hHeld.2.2.2.2.2.2.2.2.2.2.2.1))).trans (hHeld.2.2.2.2.2.2.2.2.2.2.2.1)
              have HS12_ := (hb.cell (World.block_lt_of_cell? _ _ (hHeld.2.2.2.2.2.2.2.2.2.2.2.2.1))).trans (hHeld.2.2.2.2.2.2.2.2.2.2.2.2.1)
              have HS13_ := (hb.cell (World.block_lt_of_cell? _ _ (hHeld.2.2.2.2.2.2.2.2.2.2.2.2.2.1))).trans (hHeld.2.2.2.2.2.2.2.2.2.2.2.2.2.1)
              have HS14_ := (hb.cell (World.block_lt_of_cell? _ _ (hHeld.2.2.2.2.2.2.2.2.2.2.2.2.2.2.1))).trans (hHeld.2.2.2.2.2.2.2.2.2.2.2.2.2.2.1)
              have HS15_ := (hb.cell (World.block_lt_of_cell? _ _ (hHeld.2.2.2.2.2.2.2.2.2.2.2.2.2.2.2))).trans (hHeld.2.2.2.2.2.2.2.2.2.2.2.2.2.2.2)
              refine ⟨_, rfl, ?_⟩
              have n0_ := Aside0.mk (Kd.R_below HO_9.out hb)
              have n1_ := Aside0.mk (Kd.N_below (by (with_reducible repeat (first | apply Kd.N_alloc | apply Kd.N_drewN | apply Kd.N_drew)); exact HO_10.out) hb)
              have n2_ := Aside0.mk (Kd.R_below HO_12.out hb)
              have n3_ := Aside0.mk (Kd.R_below HO_13.out hb)
              have n4_ := Aside0.mk (blk_below BK197.out hb)
              have n5_ := Aside0.mk (blk_below BK198.out hb)
              have n6_ := Aside0.mk (below_step HB.out hb)
              clear HO_9
              clear HO_10
              clear HO_12
              clear HO_13
              clear BK197
              clear BK198
              clear HB
              have HO_9 := n0_
              have HO_10 := n1_
              have HO_12 := n2_
              have HO_13 := n3_
              have BK197 := n4_
              have BK198 := n5_
              have HB := n6_
              clear n0_ n1_ n2_ n3_ n4_ n5_ n6_
              (try clear hb)
              (try clear hb2)
              (try clear hk)
              (try clear hi)
              refine hK.out _ _ ⟨(blk_cell BK197.out 0).trans rfl, (blk_cell BK197.out 1).trans rfl, (blk_cell BK197.out 2).trans rfl, (blk_cell BK197.out 3).trans rfl, HS4_, HS5_, HS6_, HS7_, HS8_, HS9_, HS10_, HS11_, HS12_, HS13_, HS14_, HS15_⟩ (fun hHeld => ?_)
              clear hK K
              refine norm_ (a' := ?_) ?_ ?_
              rotate_left
              ·show Act.put _ (some 61) _ = _
               simp only [Act.put, q1, q2, q3, i64_w, i32_w]
               rfl
              refine pure_ (i := 12) (N := some 15) (v := ?_) (a' := ?_) #[true, true, true, true, true, true, true, true, true, true, true, true, true] rfl rfl (any_of HT_.out (by kernel_rfl)) (fun _ _ _ h => h) (Or.inl ⟨by rfl, ?_⟩) ?_ ?_
              rotate_left
              ·intro w'
               go_simp
               with_reducible rfl
              rotate_left
              ·simp only [Act.put, q1, q2, q3, i64_w, i32_w]
               rfl
              refine done_ (done_of HT_.out (by kernel_rfl)) ?_
              go_upto_region 13 with (fail)
              go_cut [70] (fun v70 wc => ∃ (kq : Nat) (x70_43 : Bool), v70 = .bool x70_43 ∧ Aside0 (spec_l3Levels.j2 kq a2 a3 x9_2 x10_1 x11_1 x12_2 t215 x14_2 t223 x70_43 a0_0 a0_1 a0_2 a0_3 = some r) ∧ Aside0 (kq ≤ k2) ∧ Aside0 (Kd.R Kd.bool 4 wc w.heap.size (fun k_ => (w.heap.size ≤ k_)) (.slice (some ⟨go12, 0, none⟩) x9_2.length co12) x9_2) ∧ Aside0 (Kd.N (Kd.slice 45 k45) 43 wc w.heap.size (fun k_ => (w.heap.size ≤ k_) ∧ some k_ ≠ ((.slice (some ⟨go12, 0, none⟩) x9_2.length co12) : Value).ownBlock ∧ some k_ ≠ (u12 : Value).ownBlock ∧ some k_ ≠ ((.slice (some ad221) t215.length co45) : Value).ownBlock ∧ k_ ≠ gb197 ∧ k_ ≠ gb198) (.slice (some ad214) x10_1.length co39) x10_1) ∧ Aside0 (Kd.R k45 45 wc w.heap.size (fun k_ => (w.heap.size ≤ k_) ∧ some k_ ≠ ((.slice (some ad221) t215.length co45) : Value).ownBlock) u12 x12_2) ∧ Aside0 (Kd.R k45 45 wc w.heap.size (fun k_ => (w.heap.size ≤ k_) ∧ some k_ ≠ (u12 : Value).ownBlock) (.slice (some ad221) t215.length co45) t215) ∧ Aside0 (wc.heap[gb197]? = some (.cells #[.int .i64 a0_0, .int .i64 a0_1, .int .i64 a0_2, .int .i64 a0_3] 28 (0, 0))) ∧ Aside0 (wc.heap[gb198]? = some (.cells #[.int .i64 a1_0, .int .i64 a1_1, .int .i64 a1_2, .int .i64 a1_3] 22 (0, 0))) ∧ Aside0 (Below w.heap.size w wc))
              case first =>
               have H := HC44.out
               clear HC44
               by_cases c48 : a3 = true
               ·subst c48
                have H1 : (if 0 ≤ t223 then (if t223 < (x9_2.length : Int) then (spec_l3Levels.j2 k2 a2 true x9_2 x10_1 x11_1 x12_2 t215 x14_2 t223 (!(rdOf false x9_2 t223)) a0_0 a0_1 a0_2 a0_3) else (none)) else (none)) = some r := by rw [if_pos rfl] at H; exact H
                clear H
                have H := H1
                clear H1
                by_cases c49 : 0 ≤ t223
                ·rw [if_pos c49] at H
                 have c49b0 : decide (0 ≤ t223) = true := decide_eq_true c49
                 clear c49
                 (first | rw [c49b0] | (simp only [i64_w, i32_w]; rw [c49b0]) | skip)
                 by_cases c50 : t223 < (x9_2.length : Int)
                 ·rw [if_pos c50] at H
                  have c50b0 : decide (t223 < (x9_2.length : Int)) = true := decide_eq_true c50
                  clear c50
                  have H' := Aside0.mk H
                  clear H
                  have p224 : 0 ≤ (t223 : Int) := of_decide_eq_true (by first | (with_reducible assumption) | assumption)
                  have q224 : t223 < (x9_2.length : Int) := of_decide_eq_true (by first | (with_reducible assumption) | assumption)
                  obtain ⟨ad224, e224, hx224_0⟩ := Kd.at_bool (Kd.R_reads' HO_9.out).2.2 t223 p224 q224
                  obtain rfl : (⟨go12, 0, none⟩ : Addr) = ad224 := (by injection e224)
                  (first | simp only [add_plain] at hx224_0 | simp only [add_at] at hx224_0 | simp only [Addr.add, Nat.zero_add] at hx224_0 | skip)
                  replace p224 := eq_true p224
                  replace q224 := eq_true q224
                  go_wp2
                  go_meet
                  case rel => exact ⟨_, (!(rdOf false x9_2 t223)), (by first | rfl | (simp; done) | (simp [*]; done)), H', ⟨by have := HK1.out; have := HK2.out; first | omega | exact Nat.le_refl _⟩, ⟨by (try simp only [hl9_1]); (try simp only [hl9_2]); (with_reducible repeat (first | apply Kd.R_alloc | apply Kd.R_drewN | apply Kd.R_drew)); exact HO_9.out⟩, ⟨by (try simp only [hl9_1]); (try simp only [hl9_2]); (with_reducible repeat (first | apply Kd.N_alloc | apply Kd.N_drewN | apply Kd.N_drew)); exact HO_10.out⟩, ⟨by (try simp only [hl9_1]); (try simp only [hl9_2]); (with_reducible repeat (first | apply Kd.R_alloc | apply Kd.R_drewN | apply Kd.R_drew)); exact HO_12.out⟩, ⟨by (try simp only [hl9_1]); (try simp only [hl9_2]); (with_reducible repeat (first | apply Kd.R_alloc | apply Kd.R_drewN | apply Kd.R_drew)); exact HO_13.out⟩, ⟨by (try simp only [hl9_1]); (try simp only [hl9_2]); (with_reducible repeat (first | refine blk_drewN ?_ _ | refine blk_drew ?_ | refine blk_alloc ?_ _)); exact BK197.out⟩, ⟨by (try simp only [hl9_1]); (try simp only [hl9_2]); (with_reducible repeat (first | refine blk_drewN ?_ _ | refine blk_drew ?_ | refine blk_alloc ?_ _)); exact BK198.out⟩, ⟨by repeat (first | (with_reducible first | exact HB.out | apply below_alloc | apply pw_below_drewN | apply below_drew1 | refine below_set ?_ GE197.out | refine below_set ?_ GE198.out) | exact HB.out)⟩⟩
                 ·rw [if_neg c50] at H
                  exact absurd H (by simp)
                ·rw [if_neg c49] at H
                 exact absurd H (by simp)
               ·replace c48 := Bool.eq_false_iff.mpr c48
                subst c48
                have H1 : (spec_l3Levels.j2 k2 a2 false x9_2 x10_1 x11_1 x12_2 t215 x14_2 t223 true a0_0 a0_1 a0_2 a0_3) = some r := by rw [if_neg (show ¬ (false = true) by decide)] at H; exact H
                clear H
                have H := H1
                clear H1
                have H' := Aside0.mk H
                clear H
                go_wp2
                go_meet
                case rel => exact ⟨_, (true), (by first | rfl | (simp; done) | (simp [*]; done)), H', ⟨by have := HK1.out; have := HK2.out; first | omega | exact Nat.le_refl _⟩, ⟨by (try simp only [hl9_1]); (try simp only [hl9_2]); (with_reducible repeat (first | apply Kd.R_alloc | apply Kd.R_drewN | apply Kd.R_drew)); exact HO_9.out⟩, ⟨by (try simp only [hl9_1]); (try simp only [hl9_2]); (with_reducible repeat (first | apply Kd.N_alloc | apply Kd.N_drewN | apply Kd.N_drew)); exact HO_10.out⟩, ⟨by (try simp only [hl9_1]); (try simp only [hl9_2]); (with_reducible repeat (first | apply Kd.R_alloc | apply Kd.R_drewN | apply Kd.R_drew)); exact HO_12.out⟩, ⟨by (try simp only [hl9_1]); (try simp only [hl9_2]); (with_reducible repeat (first | apply Kd.R_alloc | apply Kd.R_drewN | apply Kd.R_drew)); exact HO_13.out⟩, ⟨by (try simp only [hl9_1]); (try simp only [hl9_2]); (with_reducible repeat (first | refine blk_drewN ?_ _ | refine blk_drew ?_ | refine blk_alloc ?_ _)); exact BK197.out⟩, ⟨by (try simp only [hl9_1]); (try simp only [hl9_2]); (with_reducible repeat (first | refine blk_drewN ?_ _ | refine blk_drew ?_ | refine blk_alloc ?_ _)); exact BK198.out⟩, ⟨by repeat (first | (with_reducible first | exact HB.out | apply below_alloc | apply pw_below_drewN | apply below_drew1 | refine below_set ?_ GE197.out | refine below_set ?_ GE198.out) | exact HB.out)⟩⟩
              case rest =>
               clear HC44
               (try clear c41b0);(try clear c42b0);(try clear hx221_0);(try clear hx221_1);(try clear hx221_2);(try clear hx221_3);(try clear hx221_4);(try clear hx221_5);(try clear hx222_0);(try clear hx222_1);(try clear hx222_2);(try clear hx222_3);(try clear hx222_4);(try clear hx222_5);(try clear p221);(try clear p222);(try clear q221);(try clear q222)
               obtain ⟨kq, x70_43, rfl, HA, HJ43, HO_9, HO_10, HO_12, HO_13, BK197, BK198, HB⟩ := hcut
               cases kq with
               | zero => exact absurd HA.out (by simp [spec_l3Levels.j2])
               | succ kj43 =>
                have H := HA.out
                clear HA
                simp only [spec_l3Levels.j2] at H
                by_cases c51 : x70_43 = true
                ·subst c51
                 have H1 : (if 0 ≤ x14_2 then (if x14_2 < (t215.length : Int) then (if x12_2.length < 2932031007402 then (if 0 ≤ t223 then (if t223 < (x9_2.length : Int) then (spec_l3Levels.l1 kj43 a2 a3 (x9_2.set (t223 : Int).toNat true) x10_1 x11_1 (x12_2 ++ [(⟨(rd_T45 t215 x14_2).f0, (⟨(rd_T45 t215 x14_2).f1.f0, (rd_T45 t215 x14_2).f1.f1, (rd_T45 t215 x14_2).f1.f2, (rd_T45 t215 x14_2).f1.f3⟩ : S22), (rd_T45 t215 x14_2).f2⟩ : S45)]) t215 (wrap64 (x14_2 + 1)) a0_0 a0_1 a0_2 a0_3) else (none)) else (none)) else (none)) else (none)) else (none)) = some r := by rw [if_pos rfl] at H; exact H
                 clear H
                 have H := H1
                 clear H1
                 by_cases c52 : 0 ≤ x14_2
                 ·rw [if_pos c52] at H
                  have c52b0 : decide (0 ≤ x14_2) = true := decide_eq_true c52
                  clear c52
                  by_cases c53 : x14_2 < (t215.length : Int)
                  ·rw [if_pos c53] at H
                   have c53b0 : decide (x14_2 < (t215.length : Int)) = true := decide_eq_true c53
                   clear c53
                   by_cases c54 : x12_2.length < 2932031007402
                   ·rw [if_pos c54] at H
                    have LMc54 := Aside0.mk c54
                    clear c54
                    obtain ⟨y226, hy226⟩ : ∃ y_ : List (S45), y_ = (x12_2 ++ [(⟨(rd_T45 t215 x14_2).f0, (⟨(rd_T45 t215 x14_2).f1.f0, (rd_T45 t215 x14_2).f1.f1, (rd_T45 t215 x14_2).f1.f2, (rd_T45 t215 x14_2).f1.f3⟩ : S22), (rd_T45 t215 x14_2).f2⟩ : S45)]) := ⟨_, rfl⟩
                    replace H : (if 0 ≤ t223 then (if t223 < (x9_2.length : Int) then (spec_l3Levels.l1 kj43 a2 a3 (x9_2.set (t223 : Int).toNat true) x10_1 x11_1 y226 t215 (wrap64 (x14_2 + 1)) a0_0 a0_1 a0_2 a0_3) else (none)) else (none)) = some r := by first | (rw [hy226]; with_reducible exact H) | (have H2_ := (Option.bind_some _ _).symm.trans H; rw [hy226]; with_reducible exact H2_) | (have H2_ := (Option.bind_some _ _).symm.trans H; with_reducible exact H2_) | with_reducible exact H | (rw [hy226]; exact H) | exact H
                    have Ny226 := Aside0.mk hy226
                    clear hy226
                    by_cases c55 : 0 ≤ t223
                    ·rw [if_pos c55] at H
                     have c55b0 : decide (0 ≤ t223) = true := decide_eq_true c55
                     clear c55
                     by_cases c56 : t223 < (x9_2.length : Int)
                     ·rw [if_pos c56] at H
                      have c56b0 : decide (t223 < (x9_2.length : Int)) = true := decide_eq_true c56
                      clear c56
                      obtain ⟨y229, hy229⟩ : ∃ y_ : List Bool, y_ = (x9_2.set (t223 : Int).toNat true) := ⟨_, rfl⟩
                      replace H : (spec_l3Levels.l1 kj43 a2 a3 y229 x10_1 x11_1 y226 t215 (wrap64 (x14_2 + 1)) a0_0 a0_1 a0_2 a0_3) = some r := by first | (rw [hy229]; with_reducible exact H) | (have H2_ := (Option.bind_some _ _).symm.trans H; rw [hy229]; with_reducible exact H2_) | (have H2_ := (Option.bind_some _ _).symm.trans H; with_reducible exact H2_) | with_reducible exact H | (rw [hy229]; exact H) | exact H
                      have Ny229 := Aside0.mk hy229
                      clear hy229
                      have H' := Aside0.mk H
                      clear H
                      have p225 : 0 ≤ (x14_2 : Int) := of_decide_eq_true (by first | (with_reducible assumption) | assumption)
                      have q225 : x14_2 < (t215.length : Int) := of_decide_eq_true (by first | (with_reducible assumption) | assumption)
                      obtain ⟨ad225, e225, hx225_0, hx225_1, hx225_2, hx225_3, hx225_4, hx225_5⟩ := at_T45 (Kd.R_reads' HO_13.out).2.2 x14_2 p225 q225
                      obtain rfl : ad221 = ad225 := (by injection e225)
                      replace p225 := eq_true p225
                      replace q225 := eq_true q225
                      go_wp2_with (first | ((with_reducible refine gate_builtin (b := .append) (xs := #[.tmp 71, .tmp 76]) rfl ?_); at_builtin; refine Kd.R_append k45 (w0 := w) w.heap.size rfl (.tmp 71) (.tmp 76) 43 45 (.agg #[(.int .i64 0), (.int .i64 0), (.int .i64 0), (.int .i64 0), (.int .i64 0), (.int .i64 0)]) 48 rfl Try.underlying43 info45 rfl (by decide) (by omega) u12 x12_2 (⟨(rd_T45 t215 x14_2).f0, (⟨(rd_T45 t215 x14_2).f1.f0, (rd_T45 t215 x14_2).f1.f1, (rd_T45 t215 x14_2).f1.f2, (rd_T45 t215 x14_2).f1.f3⟩ : S22), (rd_T45 t215 x14_2).f2⟩ : S45) [.int .i64 ((rd_T45 t215 x14_2).f0), .int .i64 ((rd_T45 t215 x14_2).f1.f0), .int .i64 ((rd_T45 t215 x14_2).f1.f1), .int .i64 ((rd_T45 t215 x14_2).f1.f2), .int .i64 ((rd_T45 t215 x14_2).f1.f3), .int .i64 ((rd_T45 t215 x14_2).f2)] (fun k_ => (w.heap.size ≤ k_) ∧ some k_ ≠ (.slice (some ad221) t215.length co45 : Value).ownBlock) (fun _ => False) rfl rfl ?aP (fun _ hk => hk.elim) ?aF ?aO ?aB ?aS ?aL ?_; (case aP => exact k45_mkM _ _ _ (⟨(rd_T45 t215 x14_2).f0, (⟨(rd_T45 t215 x14_2).f1.f0, (rd_T45 t215 x14_2).f1.f1, (rd_T45 t215 x14_2).f1.f2, (rd_T45 t215 x14_2).f1.f3⟩ : S22), (rd_T45 t215 x14_2).f2⟩ : S45)); (case aB => exact HB.out); (case aF => exact (fun k_ hk => ⟨(Nat.le_trans (below_size HB.out) hk), Kd.fresh' (Kd.R_lt HO_13.out) k_ hk⟩)); (case aO => exact HO_12.out); (case aS => exact (below_size HB.out)); (case aL => have := LMc54.out; omega); intro v227 w58 ho hb hg hat; rw [← Ny226.out] at ho; have n0_ := Aside0.mk (Kd.R_over' HO_9.out (Kd.R_typed HO_12.out) (by decide) hg); have n1_ := Aside0.mk (Kd.N_afterv (ok := (fun k_ => (w.heap.size ≤ k_) ∧ some k_ ≠ (.slice (some ⟨go12, 0, none⟩) x9_2.length co12 : Value).ownBlock ∧ some k_ ≠ (.slice (some ad221) t215.length co45 : Value).ownBlock ∧ k_ ≠ gb197 ∧ k_ ≠ gb198)) (by (with_reducible repeat (first | apply Kd.N_alloc | apply Kd.N_drewN | apply Kd.N_drew)); exact Kd.N_mono HO_10.out (fun _ hk => ⟨⟨hk.1, ⟨hk.2.1, ⟨hk.2.2.2.1, ⟨hk.2.2.2.2.1, hk.2.2.2.2.2⟩⟩⟩⟩, hk.2.2.1⟩)) hg hat); have n2_ := Aside0.mk (Kd.R_after (ok := (fun k_ => (w.heap.size ≤ k_))) HO_13.out hg hat); have n3_ := Aside0.mk (blk_grown BK197.out hg (Kd.R_ne HO_12.out BK197.out (by decide))); have n4_ := Aside0.mk (blk_grown BK198.out hg (Kd.R_ne HO_12.out BK198.out (by decide))); have n5_ := Aside0.mk (hb); have n6_ := Aside0.mk (ho); clear HO_9; clear HO_10; clear HO_13; clear BK197; clear BK198; clear HB; clear HO_12; have HO_9 := n0_; have HO_10 := n1_; have HO_13 := n2_; have BK197 := n3_; have BK198 := n4_; have HB := n5_; have HO228 := n6_; clear n0_ n1_ n2_ n3_ n4_ n5_ n6_; clear ho hb hg hat; have p57 : 0 ≤ (t223 : Int) := of_decide_eq_true (by first | (with_reducible assumption) | assumption); have q57 : (t223 : Int) < ((x9_2.length : Int) : Int) := of_decide_eq_true (by first | (with_reducible assumption) | assumption); obtain ⟨hx57_0, hf57_0⟩ := Kd.R_celln false HO_9.out (t223 : Int) p57 q57; replace p57 := eq_true p57; replace q57 := eq_true q57; obtain ⟨hy59_, hz59_⟩ := Kd.R_celln false HO_9.out (t223 : Int) (of_decide_eq_true (by first | (with_reducible assumption) | assumption)) (of_decide_eq_true (by first | (with_reducible assumption) | assumption)); have HP59 := Kd.R_putg HO_9.out (t223 : Int) true) | ((with_reducible refine gate_store (t := 4) (p := 80) rfl ?_); refine store_event (t := 4) (p := 80) (v := ?vo_w60) (w1 := (w58.setCell ⟨go12, (t223 : Int).toNat, none⟩ (.bool true))) ?hg ?ho ?hn ?hr ?_; (case ho => rfl); (case hg => rfl); (case hn => rfl); (case hr => first | (go_simp; done) | (go_simp; rfl)); intro w60 hw; have hg : w58.grownBy w60 (some go12) := (by rw [hw]; exact HP59.2); have hp_ : Kd.R Kd.bool 4 w60 w.heap.size (fun k_ => (w.heap.size ≤ k_)) (.slice (some ⟨go12, 0, none⟩) x9_2.length co12) y229 := (by rw [hw, Ny229.out]; exact HP59.1); clear HP59; have n0_ := Aside0.mk (hp_); have n1_ := Aside0.mk (Kd.N_afterv (v := (.slice (some ⟨go12, 0, none⟩) x9_2.length co12)) (v1 := (.slice (some ⟨go12, 0, none⟩) x9_2.length co12)) (ok := (fun k_ => (w.heap.size ≤ k_) ∧ some k_ ≠ (.slice (some ad221) t215.length co45 : Value).ownBlock ∧ some k_ ≠ (v227 : Value).ownBlock ∧ k_ ≠ gb197 ∧ k_ ≠ gb198)) (by (with_reducible repeat (first | apply Kd.N_alloc | apply Kd.N_drewN | apply Kd.N_drew)); exact Kd.N_mono HO_10.out (fun _ hk => ⟨⟨hk.1.1, ⟨hk.1.2.2.1, ⟨hk.2, ⟨hk.1.2.2.2.1, hk.1.2.2.2.2⟩⟩⟩⟩, hk.1.2.1⟩)) hg (.inl rfl)); have n2_ := Aside0.mk (Kd.R_over' (v := (.slice (some ⟨go12, 0, none⟩) x9_2.length co12)) HO_13.out (Kd.R_typed HO_9.out) (by decide) hg); have n3_ := Aside0.mk (blk_grown BK197.out hg (Kd.R_ne HO_9.out BK197.out (by decide))); have n4_ := Aside0.mk (blk_grown BK198.out hg (Kd.R_ne HO_9.out BK198.out (by decide))); have n5_ := Aside0.mk (Kd.R_over' (v := (.slice (some ⟨go12, 0, none⟩) x9_2.length co12)) HO228.out (Kd.R_typed HO_9.out) (by decide) hg); have n6_ := Aside0.mk ((by rw [hw]; exact below_set (HB.out) GB12.out : Below w.heap.size w w60)); clear HO_9; clear HO_10; clear HO_13; clear BK197; clear BK198; clear HO228; clear HB; have HO_9 := n0_; have HO_10 := n1_; have HO_13 := n2_; have BK197 := n3_; have BK198 := n4_; have HO228 := n5_; have HB := n6_; clear n0_ n1_ n2_ n3_ n4_ n5_ n6_; clear hg hw hp_))
                      (try simp only [← hl9_2])
                      go_roundg kj43
                      case measure => have := HK1.out; have := HK2.out; have := HJ43.out; omega
                      case rel => exact ⟨(y229), (y226), (wrap64 (x14_2 + 1)), (by first | rfl | (simp; done) | (simp [*]; done)), H', ⟨by have := HK1.out; have := HK2.out; have := HJ43.out; omega⟩, ⟨by (try simp only [hl9_1]); (try simp only [hl9_2]); (with_reducible repeat (first | apply Kd.R_alloc | apply Kd.R_drewN | apply Kd.R_drew)); exact HO_9.out⟩, ⟨by (try simp only [hl9_1]); (try simp only [hl9_2]); (with_reducible repeat (first | apply Kd.N_alloc | apply Kd.N_drewN | apply Kd.N_drew)); exact Kd.N_mono HO_10.out (fun _ hk => ⟨hk.1.1, ⟨hk.2, ⟨hk.1.2.2.1, ⟨hk.1.2.1, ⟨hk.1.2.2.2.1, hk.1.2.2.2.2⟩⟩⟩⟩⟩)⟩, ⟨by (try simp only [hl9_1]); (try simp only [hl9_2]); (with_reducible repeat (first | apply Kd.R_alloc | apply Kd.R_drewN | apply Kd.R_drew)); exact HO228.out⟩, ⟨by (try simp only [hl9_1]); (try simp only [hl9_2]); (with_reducible repeat (first | apply Kd.R_alloc | apply Kd.R_drewN | apply Kd.R_drew)); exact HO_13.out⟩, ⟨by (try simp only [hl9_1]); (try simp only [hl9_2]); (with_reducible repeat (first | refine blk_drewN ?_ _ | refine blk_drew ?_ | refine blk_alloc ?_ _)); exact BK197.out⟩, ⟨by (try simp only [hl9_1]); (try simp only [hl9_2]); (with_reducible repeat (first | refine blk_drewN ?_ _ | refine blk_drew ?_ | refine blk_alloc ?_ _)); exact BK198.out⟩, ⟨by repeat (first | (with_reducible first | exact HB.out | apply below_alloc | apply pw_below_drewN | apply below_drew1 | refine below_set ?_ GE197.out | refine below_set ?_ GE198.out) | exact HB.out)⟩⟩
                     ·rw [if_neg c56] at H
                      exact absurd H (by simp)
                    ·rw [if_neg c55] at H
                     exact absurd H (by simp)
                   ·rw [if_neg c54] at H
                    exact absurd H (by simp)
                  ·rw [if_neg c53] at H
                   exact absurd H (by simp)
                 ·rw [if_neg c52] at H
                  exact absurd H (by simp)
                ·replace c51 := Bool.eq_false_iff.mpr c51
                 subst c51
                 have H1 : (if 0 ≤ t223 then (if t223 < (x9_2.length : Int) then (spec_l3Levels.l1 kj43 a2 a3 (x9_2.set (t223 : Int).toNat true) x10_1 x11_1 x12_2 t215 (wrap64 (x14_2 + 1)) a0_0 a0_1 a0_2 a0_3) else (none)) else (none)) = some r := by rw [if_neg (show ¬ (false = true) by decide)] at H; exact H
                 clear H
                 have H := H1
                 clear H1
                 by_cases c61 : 0 ≤ t223
                 ·rw [if_pos c61] at H
                  have c61b0 : decide (0 ≤ t223) = true := decide_eq_true c61
                  clear c61
                  by_cases c62 : t223 < (x9_2.length : Int)
                  ·rw [if_pos c62] at H
                   have c62b0 : decide (t223 < (x9_2.length : Int)) = true := decide_eq_true c62
                   clear c62
                   obtain ⟨y230, hy230⟩ : ∃ y_ : List Bool, y_ = (x9_2.set (t223 : Int).toNat true) := ⟨_, rfl⟩
                   replace H : (spec_l3Levels.l1 kj43 a2 a3 y230 x10_1 x11_1 x12_2 t215 (wrap64 (x14_2 + 1)) a0_0 a0_1 a0_2 a0_3) = some r := by first | (rw [hy230]; with_reducible exact H) | (have H2_ := (Option.bind_some _ _).symm.trans H; rw [hy230]; with_reducible exact H2_) | (have H2_ := (Option.bind_some _ _).symm.trans H; with_reducible exact H2_) | with_reducible exact H | (rw [hy230]; exact H) | exact H
                   have Ny230 := Aside0.mk hy230
                   clear hy230
                   have H' := Aside0.mk H
                   clear H
                   have p63 : 0 ≤ (t223 : Int) := of_decide_eq_true (by first | (with_reducible assumption) | assumption)
                   have q63 : (t223 : Int) < ((x9_2.length : Int) : Int) := of_decide_eq_true (by first | (with_reducible assumption) | assumption)
                   obtain ⟨hx63_0, hf63_0⟩ := Kd.R_celln false HO_9.out (t223 : Int) p63 q63
                   replace p63 := eq_true p63
                   replace q63 := eq_true q63
                   have HP64 := Kd.R_putg HO_9.out (t223 : Int) true
                   go_wp2_with (first | ((with_reducible refine gate_store (t := 4) (p := 80) rfl ?_); refine store_event (t := 4) (p := 80) (v := ?vo_w65) (w1 := (wc.setCell ⟨go12, (t223 : Int).toNat, none⟩ (.bool true))) ?hg ?ho ?hn ?hr ?_; (case ho => rfl); (case hg => rfl); (case hn => rfl); (case hr => first | (go_simp; done) | (go_simp; rfl)); intro w65 hw; have hg : wc.grownBy w65 (some go12) := (by rw [hw]; exact HP64.2); have hp_ : Kd.R Kd.bool 4 w65 w.heap.size (fun k_ => (w.heap.size ≤ k_)) (.slice (some ⟨go12, 0, none⟩) x9_2.length co12) y230 := (by rw [hw, Ny230.out]; exact HP64.1); clear HP64; have n0_ := Aside0.mk (hp_); have n1_ := Aside0.mk (Kd.N_afterv (v := (.slice (some ⟨go12, 0, none⟩) x9_2.length co12)) (v1 := (.slice (some ⟨go12, 0, none⟩) x9_2.length co12)) (ok := (fun k_ => (w.heap.size ≤ k_) ∧ some k_ ≠ (u12 : Value).ownBlock ∧ some k_ ≠ (.slice (some ad221) t215.length co45 : Value).ownBlock ∧ k_ ≠ gb197 ∧ k_ ≠ gb198)) (by (with_reducible repeat (first | apply Kd.N_alloc | apply Kd.N_drewN | apply Kd.N_drew)); exact Kd.N_mono HO_10.out (fun _ hk => ⟨⟨hk.1, ⟨hk.2.2.1, ⟨hk.2.2.2.1, ⟨hk.2.2.2.2.1, hk.2.2.2.2.2⟩⟩⟩⟩, hk.2.1⟩)) hg (.inl rfl)); have n2_ := Aside0.mk (Kd.R_over' (v := (.slice (some ⟨go12, 0, none⟩) x9_2.length co12)) HO_12.out (Kd.R_typed HO_9.out) (by decide) hg); have n3_ := Aside0.mk (Kd.R_over' (v := (.slice (some ⟨go12, 0, none⟩) x9_2.length co12)) HO_13.out (Kd.R_typed HO_9.out) (by decide) hg); have n4_ := Aside0.mk (blk_grown BK197.out hg (Kd.R_ne HO_9.out BK197.out (by decide))); have n5_ := Aside0.mk (blk_grown BK198.out hg (Kd.R_ne HO_9.out BK198.out (by decide))); have n6_ := Aside0.mk ((by rw [hw]; exact below_set (HB.out) GB12.out : Below w.heap.size w w65)); clear HO_9; clear HO_10; clear HO_12; clear HO_13; clear BK197; clear BK198; clear HB; have HO_9 := n0_; have HO_10 := n1_; have HO_12 := n2_; have HO_13 := n3_; have BK197 := n4_; have BK198 := n5_; have HB := n6_; clear n0_ n1_ n2_ n3_ n4_ n5_ n6_; clear hg hw hp_))
                   (try simp only [← hl9_2])
                   go_roundg kj43
                   case measure => have := HK1.out; have := HK2.out; have := HJ43.out; omega
                   case rel => exact ⟨(y230), (x12_2), (wrap64 (x14_2 + 1)), (by first | rfl | (simp; done) | (simp [*]; done)), H', ⟨by have := HK1.out; have := HK2.out; have := HJ43.out; omega⟩, ⟨by (try simp only [hl9_1]); (try simp only [hl9_2]); (with_reducible repeat (first | apply Kd.R_alloc | apply Kd.R_drewN | apply Kd.R_drew)); exact HO_9.out⟩, ⟨by (try simp only [hl9_1]); (try simp only [hl9_2]); (with_reducible repeat (first | apply Kd.N_alloc | apply Kd.N_drewN | apply Kd.N_drew)); exact Kd.N_mono HO_10.out (fun _ hk => ⟨hk.1.1, ⟨hk.2, ⟨hk.1.2.1, ⟨hk.1.2.2.1, ⟨hk.1.2.2.2.1, hk.1.2.2.2.2⟩⟩⟩⟩⟩)⟩, ⟨by (try simp only [hl9_1]); (try simp only [hl9_2]); (with_reducible repeat (first | apply Kd.R_alloc | apply Kd.R_drewN | apply Kd.R_drew)); exact HO_12.out⟩, ⟨by (try simp only [hl9_1]); (try simp only [hl9_2]); (with_reducible repeat (first | apply Kd.R_alloc | apply Kd.R_drewN | apply Kd.R_drew)); exact HO_13.out⟩, ⟨by (try simp only [hl9_1]); (try simp only [hl9_2]); (with_reducible repeat (first | refine blk_drewN ?_ _ | refine blk_drew ?_ | refine blk_alloc ?_ _)); exact BK197.out⟩, ⟨by (try simp only [hl9_1]); (try simp only [hl9_2]); (with_reducible repeat (first | refine blk_drewN ?_ _ | refine blk_drew ?_ | refine blk_alloc ?_ _)); exact BK198.out⟩, ⟨by repeat (first | (with_reducible first | exact HB.out | apply below_alloc | apply pw_below_drewN | apply below_drew1 | refine below_set ?_ GE197.out | refine below_set ?_ GE198.out) | exact HB.out)⟩⟩
                  ·rw [if_neg c62] at H
                   exact absurd H (by simp)
                 ·rw [if_neg c61] at H
                  exact absurd H (by simp)
             ·rw [if_neg c42] at H
              exact absurd H (by simp)
            ·rw [if_neg c41] at H
             have c41b0 : decide (x14_2 < (t215.length : Int)) = false := decide_eq_false c41
             clear c41
             by_cases c66 : x10_1.length < 5864062014805
             ·rw [if_pos c66] at H
              have LMc66 := Aside0.mk c66
              clear c66
              obtain ⟨y218, hy218⟩ : ∃ y_ : List (List (S45)), y_ = (x10_1 ++ [x12_2]) := ⟨_, rfl⟩
              replace H : (spec_l3Levels.l0 k2 a2 a3 x9_2 y218 (wrap64 (x11_1 + 1)) a0_0 a0_1 a0_2 a0_3) = some r := by first | (rw [hy218]; with_reducible exact H) | (have H2_ := (Option.bind_some _ _).symm.trans H; rw [hy218]; with_reducible exact H2_) | (have H2_ := (Option.bind_some _ _).symm.trans H; with_reducible exact H2_) | with_reducible exact H | (rw [hy218]; exact H) | exact H
              have Ny218 := Aside0.mk hy218
              clear hy218
              have H' := Aside0.mk H
              clear H
              obtain ⟨Ao67, co67, eo67⟩ := Kd.R_slice HO_13.out
              subst eo67
              obtain ⟨Ao69, co69, eo69⟩ := Kd.R_slice HO_12.out
              subst eo69
              go_wp2_with (first | ((with_reducible refine gate_builtin (b := .append) (xs := #[.tmp 81, .tmp 83]) rfl ?_); at_builtin; refine Kd.N_append (Kd.slice 45 k45) (w0 := w) w.heap.size rfl (.tmp 81) (.tmp 83) 41 43 (.slice none 0 0) 24 rfl Try.underlying41 info43 rfl (by decide) (by omega) (.slice (some ad214) x10_1.length co39) x10_1 x12_2 [.slice Ao69 x12_2.length co69] (fun k_ => (w.heap.size ≤ k_) ∧ some k_ ≠ (.slice (some ⟨go12, 0, none⟩) x9_2.length co12 : Value).ownBlock ∧ some k_ ≠ (.slice Ao67 t215.length co67 : Value).ownBlock ∧ k_ ≠ gb197 ∧ k_ ≠ gb198) (fun k_ => ((fun k_ => (w.heap.size ≤ k_) ∧ some k_ ≠ (.slice (some ⟨go12, 0, none⟩) x9_2.length co12 : Value).ownBlock ∧ some k_ ≠ (.slice Ao67 t215.length co67 : Value).ownBlock ∧ k_ ≠ gb197 ∧ k_ ≠ gb198)) k_ ∧ some k_ ≠ (.slice (some ad214) x10_1.length co39 : Value).ownBlock) rfl rfl ?aP (fun _ hk => hk) ?aF ?aO ?aB ?aS ?aL ?_; (case aP => exact (Kd.FK_slice_mk (Kd.R_reads' (Kd.R_mono (ok' := (fun k_ => ((fun k_ => (w.heap.size ≤ k_) ∧ some k_ ≠ (.slice (some ⟨go12, 0, none⟩) x9_2.length co12 : Value).ownBlock ∧ some k_ ≠ (.slice Ao67 t215.length co67 : Value).ownBlock ∧ k_ ≠ gb197 ∧ k_ ≠ gb198)) k_ ∧ some k_ ≠ (.slice (some ad214) x10_1.length co39 : Value).ownBlock)) (Kd.R_types (Kd.R_types (Kd.R_apart' (Kd.R_apart' (HO_12.out) (Kd.R_typed HO_9.out) (by decide)) (Kd.N_typed HO_10.out) (by decide)) BK197.out (by decide)) BK198.out (by decide)) (fun k_ hk => ⟨⟨hk.1.1.1.1.1, ⟨hk.1.1.1.2, ⟨hk.1.1.1.1.2, ⟨hk.1.2, hk.2⟩⟩⟩⟩, hk.1.1.2⟩))).2.1 (Kd.R_F (Kd.R_mono (ok' := (fun k_ => ((fun k_ => (w.heap.size ≤ k_) ∧ some k_ ≠ (.slice (some ⟨go12, 0, none⟩) x9_2.length co12 : Value).ownBlock ∧ some k_ ≠ (.slice Ao67 t215.length co67 : Value).ownBlock ∧ k_ ≠ gb197 ∧ k_ ≠ gb198)) k_ ∧ some k_ ≠ (.slice (some ad214) x10_1.length co39 : Value).ownBlock)) (Kd.R_types (Kd.R_types (Kd.R_apart' (Kd.R_apart' (HO_12.out) (Kd.R_typed HO_9.out) (by decide)) (Kd.N_typed HO_10.out) (by decide)) BK197.out (by decide)) BK198.out (by decide)) (fun k_ hk => ⟨⟨hk.1.1.1.1.1, ⟨hk.1.1.1.2, ⟨hk.1.1.1.1.2, ⟨hk.1.2, hk.2⟩⟩⟩⟩, hk.1.1.2⟩))))); (case aB => exact HB.out); (case aF => exact (fun k_ hk => ⟨(Nat.le_trans (below_size HB.out) hk), Kd.fresh' (Kd.R_lt HO_9.out) k_ hk, Kd.fresh' (Kd.R_lt HO_13.out) k_ hk, Kd.freshB BK197.out k_ hk, Kd.freshB BK198.out k_ hk⟩)); (case aO => exact (by (with_reducible repeat (first | apply Kd.N_alloc | apply Kd.N_drewN | apply Kd.N_drew)); exact Kd.N_mono HO_10.out (fun _ hk => ⟨hk.1, ⟨hk.2.1, ⟨hk.2.2.2.1, ⟨hk.2.2.2.2.1, hk.2.2.2.2.2⟩⟩⟩⟩))); (case aS => exact (below_size HB.out)); (case aL => have := LMc66.out; omega); intro v219 w68 ho hb hg hat; rw [← Ny218.out] at ho; have n0_ := Aside0.mk (Kd.R_over' HO_9.out (Kd.N_typed (by (with_reducible repeat (first | apply Kd.N_alloc | apply Kd.N_drewN | apply Kd.N_drew)); exact HO_10.out)) (by decide) hg); have n1_ := Aside0.mk (Kd.R_over' HO_13.out (Kd.N_typed (by (with_reducible repeat (first | apply Kd.N_alloc | apply Kd.N_drewN | apply Kd.N_drew)); exact HO_10.out)) (by decide) hg); have n2_ := Aside0.mk (blk_grown BK197.out hg (Kd.N_ne HO_10.out BK197.out (by decide))); have n3_ := Aside0.mk (blk_grown BK198.out hg (Kd.N_ne HO_10.out BK198.out (by decide))); have n4_ := Aside0.mk (hb); have n5_ := Aside0.mk (ho); clear HO_9; clear HO_13; clear BK197; clear BK198; clear HB; clear HO_10; clear HO_12; have HO_9 := n0_; have HO_13 := n1_; have BK197 := n2_; have BK198 := n3_; have HB := n4_; have HO220 := n5_; clear n0_ n1_ n2_ n3_ n4_ n5_; clear ho hb hg hat))
              (try simp only [← hl9_1, ← hl9_2])
              go_roundg k2
              case measure => have := HK1.out; have := HK2.out; omega
              case rel => exact ⟨(x9_2), (y218), (wrap64 (x11_1 + 1)), (by first | rfl | (simp; done) | (simp [*]; done)), H', ⟨by have := HK1.out; have := HK2.out; omega⟩, ⟨by (try simp only [hl9_1]); (try simp only [hl9_2]); (with_reducible repeat (first | apply Kd.R_alloc | apply Kd.R_drewN | apply Kd.R_drew)); exact HO_9.out⟩, ⟨by (try simp only [hl9_1]); (try simp only [hl9_2]); (with_reducible repeat (first | apply Kd.N_alloc | apply Kd.N_drewN | apply Kd.N_drew)); exact Kd.N_mono HO220.out (fun _ hk => ⟨hk.1, ⟨hk.2.1, ⟨hk.2.2.2.1, hk.2.2.2.2⟩⟩⟩)⟩, ⟨by (try simp only [hl9_1]); (try simp only [hl9_2]); (with_reducible repeat (first | refine blk_drewN ?_ _ | refine blk_drew ?_ | refine blk_alloc ?_ _)); exact BK197.out⟩, ⟨by (try simp only [hl9_1]); (try simp only [hl9_2]); (with_reducible repeat (first | refine blk_drewN ?_ _ | refine blk_drew ?_ | refine blk_alloc ?_ _)); exact BK198.out⟩, ⟨by repeat (first | (with_reducible first | exact HB.out | apply below_alloc | apply pw_below_drewN | apply below_drew1 | refine below_set ?_ GE197.out | refine below_set ?_ GE198.out) | exact HB.out)⟩⟩
             ·rw [if_neg c66] at H
              exact absurd H (by simp)
         ·rw [if_neg c34] at H
          exact absurd H (by simp)
        ·rw [if_neg c33] at H
         exact absurd H (by simp)
       ·rw [if_neg c31] at H
        have c31b0 : decide (x11_1 ≤ 12) = false := decide_eq_false c31
        clear c31
        obtain rfl := Option.some.inj H
        go_wp2
        go_ret
        exact ⟨_, by first | rfl | (simp [errW_none, errW_some] <;> rfl) | (simp only [← hji6]; first | rfl | (simp [errW_none, errW_some] <;> rfl)) | (simp [*, errW_none, errW_some] <;> rfl), by (with_reducible repeat (first | apply Kd.N_alloc | apply Kd.N_drewN | apply Kd.N_drew)); exact Kd.N_mono HO_10.out (fun _ hk => hk.1), by repeat (first | (with_reducible first | exact HB.out | apply below_alloc | apply pw_below_drewN | apply below_drew1 | refine below_set ?_ GE197.out | refine below_set ?_ GE198.out) | exact HB.out)⟩
    ·rw [if_neg c11] at H
     exact absurd H (by simp)
   ·rw [if_neg c10] at H
    exact absurd H (by simp)
  ·rw [if_neg c8] at H
   exact absurd H (by simp)
 ·rw [if_neg c7] at H
  exact absurd H (by simp)

end Go.Proofs.Ytmhnllcdfjggaaa.PA
