-- Printed by a program of this session's own.
import Derived.Test.YthloakjlpblakaaVNextTimePHx0
import Derived.Test.YthloakjlpblakaaVNextTimePHx4
import Derived.Test.YthloakjlpblakaaVNextTimePHx5
namespace Go.Proofs.Ythloakjlpblakaa.PH
open Go.RowKit Go.Proofs.YthloakjlpblakaaW.PrintWords Go.Proofs.YthloakjlpblakaaW.PrintLast Go.Proofs.YthloakjlpblakaaW.PrintMore Go.Proofs.YthloakjlpblakaaX
attribute [local go_sem] max2_int max_two  -- for this text's walks alone
set_option linter.unusedVariables false
set_option linter.unusedSimpArgs false

/-- The block in which a row that is only read lies is one of those that it leads to. -/
theorem V_ne_ {α : Type} {d : Kd α} {e base n c g : Nat} {ok : Nat → Prop} {W : World} {ad : Addr} {xs : List α} (h : Kd.V d e W base ok (.slice (some ad) n c) xs) (hs : 0 < d.sz) (z : 0 < xs.length) (hok : ∀ k, ok k → k ≠ g) : ad.block ≠ g := by
  rintro rfl
  have hf := (Kd.V_at h).2.2
  have hC := hf { W with heap := W.heap.setIfInBounds ad.block (.cells #[] 0 (0, 0)) } (fun k hk _ => by
    show (W.heap.setIfInBounds ad.block _)[k]? = _
    rw [Array.getElem?_setIfInBounds_ne (fun e => hok k hk e.symm)])
  dsimp only at hC
  obtain ⟨ad2, cs, e2, hl, _, hc⟩ := Kd.C_get hC (xs[0]'z) 0 (by omega) (by omega)
  obtain rfl := Option.some.inj e2
  have h0 := hc 0 (cs[0]'(by omega)) (List.getElem?_eq_getElem _)
  have hF := (Kd.C_get (Foot.now hf) (xs[0]'z) 0 (by omega) (by omega))
  obtain ⟨ad3, cs3, e3, hl3, _, hc3⟩ := hF
  obtain rfl := Option.some.inj e3
  have h3 := hc3 0 (cs3[0]'(by omega)) (List.getElem?_eq_getElem _)
  have hb : ad.block < W.heap.size := by have := World.block_lt_of_cell? _ _ h3; simpa [add_block] using this
  simp [World.cell?, add_block, hb] at h0
/-! ### spec_l6Table: function 48 -/
mutual
def spec_l6Table.l0 : Nat → Int → List (List (S54)) → Int → Option ((List (List (S54))))
  | 0, _, _, _ => none
  | k + 1, x0, x3, x4 => if x4 ≤ x0 then (spec_l6Table.l1 k x0 x3 x4 (([] : List (S54))) 0) else (some x3)
def spec_l6Table.l1 : Nat → Int → List (List (S54)) → Int → List (S54) → Int → Option ((List (List (S54))))
  | 0, _, _, _, _, _ => none
  | k + 1, x0, x3, x4, x5, x6 => if x6 < x4 then (spec_l6Table.l2 k x0 x3 x4 x5 x6 0) else (if x3.length < 5864062014805 then (spec_l6Table.l0 k x0 (x3 ++ [x5]) (wrap64 (x4 + 1))) else (none))
def spec_l6Table.l2 : Nat → Int → List (List (S54)) → Int → List (S54) → Int → Int → Option ((List (List (S54))))
  | 0, _, _, _, _, _, _ => none
  | k + 1, x0, x3, x4, x5, x6, x7 => if 0 ≤ x6 then (if x6 < (x3.length : Int) then (if x7 < ((rd_L4 x3 x6).length : Int) then (spec_l6Table.l3 k x0 x3 x4 x5 x6 x7 0) else (spec_l6Table.l1 k x0 x3 x4 x5 (wrap64 (x6 + 1)))) else (none)) else (none)
def spec_l6Table.l3 : Nat → Int → List (List (S54)) → Int → List (S54) → Int → Int → Int → Option ((List (List (S54))))
  | 0, _, _, _, _, _, _, _ => none
  | k + 1, x0, x3, x4, x5, x6, x7, x8 => if 0 ≤ (wrap64 ((wrap64 (x4 - 1)) - x6)) then (if (wrap64 ((wrap64 (x4 - 1)) - x6)) < (x3.length : Int) then (if x8 < ((rd_L4 x3 (wrap64 ((wrap64 (x4 - 1)) - x6))).length : Int) then (if 0 ≤ x6 then (if x6 < (x3.length : Int) then (if 0 ≤ x7 then (if x7 < ((rd_L4 x3 x6).length : Int) then (if 0 ≤ x8 then ((spec_l6Half.f k ((rd_T54 (rd_L4 x3 x6) x7).f0.f0) ((rd_T54 (rd_L4 x3 x6) x7).f0.f1) ((rd_T54 (rd_L4 x3 (wrap64 ((wrap64 (x4 - 1)) - x6))) x8).f0.f0) ((rd_T54 (rd_L4 x3 (wrap64 ((wrap64 (x4 - 1)) - x6))) x8).f0.f1)).bind fun bt193 => (if bt193.2.2 = true then (if 1 + ((rd_T54 (rd_L4 x3 x6) x7).f2).size ≤ 9223372036854775807 then (if ((⟨#[40]⟩ : ByteArray) ++ ((rd_T54 (rd_L4 x3 x6) x7).f2)).size + ((rd_T54 (rd_L4 x3 (wrap64 ((wrap64 (x4 - 1)) - x6))) x8).f2).size ≤ 9223372036854775807 then (if (((⟨#[40]⟩ : ByteArray) ++ ((rd_T54 (rd_L4 x3 x6) x7).f2)) ++ ((rd_T54 (rd_L4 x3 (wrap64 ((wrap64 (x4 - 1)) - x6))) x8).f2)).size + 1 ≤ 9223372036854775807 then ((spec_l6Add.f k x5 bt193.1 bt193.2.1 (wrap64 (((rd_T54 (rd_L4 x3 x6) x7).f1) * ((rd_T54 (rd_L4 x3 (wrap64 ((wrap64 (x4 - 1)) - x6))) x8).f1))) ((((⟨#[40]⟩ : ByteArray) ++ ((rd_T54 (rd_L4 x3 x6) x7).f2)) ++ ((rd_T54 (rd_L4 x3 (wrap64 ((wrap64 (x4 - 1)) - x6))) x8).f2)) ++ (⟨#[41]⟩ : ByteArray))).bind fun t197 => (spec_l6Table.l3 k x0 x3 x4 t197 x6 x7 (wrap64 (x8 + 1)))) else (none)) else (none)) else (none)) else (spec_l6Table.l3 k x0 x3 x4 x5 x6 x7 (wrap64 (x8 + 1))))) else (none)) else (none)) else (none)) else (none)) else (none)) else (spec_l6Table.l2 k x0 x3 x4 x5 x6 (wrap64 (x7 + 1)))) else (none)) else (none)
end
def spec_l6Table.f (k : Nat) (a0 : Int) : Option ((List (List (S54)))) := spec_l6Table.l0 k a0 (([(([(⟨(⟨0, 1⟩ : S27), 1, (⟨#[46]⟩ : ByteArray)⟩ : S54)] : List (S54)))] : List (List (S54)))) 1
theorem spec_l6Table.mono_l : ∀ k, (∀ y0 y1 y2, LeO (spec_l6Table.l0 k y0 y1 y2) (spec_l6Table.l0 (k + 1) y0 y1 y2)) ∧ (∀ y0 y1 y2 y3 y4, LeO (spec_l6Table.l1 k y0 y1 y2 y3 y4) (spec_l6Table.l1 (k + 1) y0 y1 y2 y3 y4)) ∧ (∀ y0 y1 y2 y3 y4 y5, LeO (spec_l6Table.l2 k y0 y1 y2 y3 y4 y5) (spec_l6Table.l2 (k + 1) y0 y1 y2 y3 y4 y5)) ∧ (∀ y0 y1 y2 y3 y4 y5 y6, LeO (spec_l6Table.l3 k y0 y1 y2 y3 y4 y5 y6) (spec_l6Table.l3 (k + 1) y0 y1 y2 y3 y4 y5 y6))
  | 0 => ⟨fun _ _ _ r h => by simp [spec_l6Table.l0] at h, fun _ _ _ _ _ r h => by simp [spec_l6Table.l1] at h, fun _ _ _ _ _ _ r h => by simp [spec_l6Table.l2] at h, fun _ _ _ _ _ _ _ r h => by simp [spec_l6Table.l3] at h⟩
  | k + 1 => by
    obtain ⟨ih0, ih1, ih2, ih3⟩ := spec_l6Table.mono_l k
    refine ⟨?_, ?_, ?_, ?_⟩
    · intro y0 y1 y2
      unfold spec_l6Table.l0
      repeat' first
      | (with_reducible exact ih0 _ _ _)
      | (with_reducible exact ih1 _ _ _ _ _)
      | (with_reducible exact ih2 _ _ _ _ _ _)
      | (with_reducible exact ih3 _ _ _ _ _ _ _)
      | (with_reducible exact spec_l6Add.mono _ _ _ _ _ _)
      | (with_reducible exact spec_l6Half.mono _ _ _ _ _)
      | (with_reducible exact LeO.refl _)
      | (with_reducible exact LeO.none _)
      | (with_reducible refine LeO.ite ?_ ?_)
      | (with_reducible refine LeO.bind ?_ (fun _ => ?_))
      | exact ih0 _ _ _
      | exact ih1 _ _ _ _ _
      | exact ih2 _ _ _ _ _ _
      | exact ih3 _ _ _ _ _ _ _
      | exact spec_l6Add.mono _ _ _ _ _ _
      | exact spec_l6Half.mono _ _ _ _ _
      | exact LeO.none _
      | refine LeO.ite ?_ ?_
      | refine LeO.bind ?_ (fun _ => ?_)
    · intro y0 y1 y2 y3 y4
      unfold spec_l6Table.l1
      repeat' first
      | (with_reducible exact ih0 _ _ _)
      | (with_reducible exact ih1 _ _ _ _ _)
      | (with_reducible exact ih2 _ _ _ _ _ _)
      | (with_reducible exact ih3 _ _ _ _ _ _ _)
      | (with_reducible exact spec_l6Add.mono _ _ _ _ _ _)
      | (with_reducible exact spec_l6Half.mono _ _ _ _ _)
      | (with_reducible exact LeO.refl _)
      | (with_reducible exact LeO.none _)
      | (with_reducible refine LeO.ite ?_ ?_)
      | (with_reducible refine LeO.bind ?_ (fun _ => ?_))
      | exact ih0 _ _ _
      | exact ih1 _ _ _ _ _
      | exact ih2 _ _ _ _ _ _
      | exact ih3 _ _ _ _ _ _ _
      | exact spec_l6Add.mono _ _ _ _ _ _
      | exact spec_l6Half.mono _ _ _ _ _
      | exact LeO.none _
      | refine LeO.ite ?_ ?_
      | refine LeO.bind ?_ (fun _ => ?_)
    · intro y0 y1 y2 y3 y4 y5
      unfold spec_l6Table.l2
      repeat' first
      | (with_reducible exact ih0 _ _ _)
      | (with_reducible exact ih1 _ _ _ _ _)
      | (with_reducible exact ih2 _ _ _ _ _ _)
      | (with_reducible exact ih3 _ _ _ _ _ _ _)
      | (with_reducible exact spec_l6Add.mono _ _ _ _ _ _)
      | (with_reducible exact spec_l6Half.mono _ _ _ _ _)
      | (with_reducible exact LeO.refl _)
      | (with_reducible exact LeO.none _)
      | (with_reducible refine LeO.ite ?_ ?_)
      | (with_reducible refine LeO.bind ?_ (fun _ => ?_))
      | exact ih0 _ _ _
      | exact ih1 _ _ _ _ _
      | exact ih2 _ _ _ _ _ _
      | exact ih3 _ _ _ _ _ _ _
      | exact spec_l6Add.mono _ _ _ _ _ _
      | exact spec_l6Half.mono _ _ _ _ _
      | exact LeO.none _
      | refine LeO.ite ?_ ?_
      | refine LeO.bind ?_ (fun _ => ?_)
    · intro y0 y1 y2 y3 y4 y5 y6
      unfold spec_l6Table.l3
      repeat' first
      | (with_reducible exact ih0 _ _ _)
      | (with_reducible exact ih1 _ _ _ _ _)
      | (with_reducible exact ih2 _ _ _ _ _ _)
      | (with_reducible exact ih3 _ _ _ _ _ _ _)
      | (with_reducible exact spec_l6Add.mono _ _ _ _ _ _)
      | (with_reducible exact spec_l6Half.mono _ _ _ _ _)
      | (with_reducible exact LeO.refl _)
      | (with_reducible exact LeO.none _)
      | (with_reducible refine LeO.ite ?_ ?_)
      | (with_reducible refine LeO.bind ?_ (fun _ => ?_))
      | exact ih0 _ _ _
      | exact ih1 _ _ _ _ _
      | exact ih2 _ _ _ _ _ _
      | exact ih3 _ _ _ _ _ _ _
      | exact spec_l6Add.mono _ _ _ _ _ _
      | exact spec_l6Half.mono _ _ _ _ _
      | exact LeO.none _
      | refine LeO.ite ?_ ?_
      | refine LeO.bind ?_ (fun _ => ?_)
theorem spec_l6Table.mono : ∀ a0 k, LeO (spec_l6Table.f k a0) (spec_l6Table.f (k + 1) a0) := by
  intro a0 k
  obtain ⟨ih0, ih1, ih2, ih3⟩ := spec_l6Table.mono_l k
  unfold spec_l6Table.f
  repeat' first
      | (with_reducible exact ih0 _ _ _)
      | (with_reducible exact ih1 _ _ _ _ _)
      | (with_reducible exact ih2 _ _ _ _ _ _)
      | (with_reducible exact ih3 _ _ _ _ _ _ _)
      | (with_reducible exact spec_l6Add.mono _ _ _ _ _ _)
      | (with_reducible exact spec_l6Half.mono _ _ _ _ _)
      | (with_reducible exact LeO.refl _)
      | (with_reducible exact LeO.none _)
      | (with_reducible refine LeO.ite ?_ ?_)
      | (with_reducible refine LeO.bind ?_ (fun _ => ?_))
      | exact ih0 _ _ _
      | exact ih1 _ _ _ _ _
      | exact ih2 _ _ _ _ _ _
      | exact ih3 _ _ _ _ _ _ _
      | exact spec_l6Add.mono _ _ _ _ _ _
      | exact spec_l6Half.mono _ _ _ _ _
      | exact LeO.none _
      | refine LeO.ite ?_ ?_
      | refine LeO.bind ?_ (fun _ => ?_)
def spec_l6Table.T15 : Bool × List (List Nat × List Nat) := (true, [([], []), ([], []), ([0, 1], [0, 1]), ([2], [2]), ([], []), ([3, 4], [3, 4]), ([5], [5]), ([], []), ([], []), ([8], [8]), ([], []), ([9, 10], [9, 10]), ([7, 11], [7, 11]), ([12], [12]), ([], []), ([13, 14], [13, 14]), ([15], [15]), ([], []), ([], []), ([17, 6, 0, 1, 2, 3, 4, 5, 6, 17, 18], [6, 17]), ([18, 16, 19, 0, 1, 2, 3, 4, 5, 6, 7, 8, 9, 10, 11, 12, 13, 14, 15, 16, 17, 18, 19], [16, 18])])
def spec_l6Table.B15 : List Nat := [0, 0, 3, 7, 0, 31, 63, 0, 0, 256, 0, 1792, 3968, 8064, 0, 32640, 65408, 0, 0, 393343, 1048575]
theorem spec_l6Table.tab15 : rtab .any (opsOf Try.f48 15) = spec_l6Table.T15 := by kernel_rfl
theorem spec_l6Table.bits15 : waitsOk spec_l6Table.T15.2 spec_l6Table.B15 = true := by kernel_rfl
set_option maxHeartbeats 8000000 in
set_option maxRecDepth 100000 in
theorem spec_l6Table.calls (k : Nat) (a0 : Int) (r : List (List (S54))) (w : World) (h : spec_l6Table.f k a0 = some r) :
    Calls Try.prog 48 #[.int .i64 a0] w fun e w' => ∃ v0_ : Value, e = .returned (v0_) ∧ Kd.N (Kd.slice 54 k54) 50 w' w.heap.size (fun k_ => (w.heap.size ≤ k_)) v0_ r ∧ Below w.heap.size w w' := by
  have hu27 := Try.underlying27
  have hu54 := Try.underlying54
  have HB := Aside0.mk (Below.refl w.heap.size w)
  have H : (spec_l6Table.l0 k a0 (([(([(⟨(⟨0, 1⟩ : S27), 1, (⟨#[46]⟩ : ByteArray)⟩ : S54)] : List (S54)))] : List (List (S54)))) 1) = some r := h
  clear h
  obtain ⟨y173, hy173⟩ : ∃ y_ : List (S54), y_ = (([(⟨(⟨0, 1⟩ : S27), 1, (⟨#[46]⟩ : ByteArray)⟩ : S54)] : List (S54))) := ⟨_, rfl⟩
  replace H : (spec_l6Table.l0 k a0 (([y173] : List (List (S54)))) 1) = some r := by first | (rw [hy173]; with_reducible exact H) | (have H2_ := (Option.bind_some _ _).symm.trans H; rw [hy173]; with_reducible exact H2_) | (have H2_ := (Option.bind_some _ _).symm.trans H; with_reducible exact H2_) | with_reducible exact H | (rw [hy173]; exact H) | exact H
  have Ny173 := Aside0.mk hy173
  clear hy173
  obtain ⟨y176, hy176⟩ : ∃ y_ : List (List (S54)), y_ = (([y173] : List (List (S54)))) := ⟨_, rfl⟩
  replace H : (spec_l6Table.l0 k a0 y176 1) = some r := by first | (rw [hy176]; with_reducible exact H) | (have H2_ := (Option.bind_some _ _).symm.trans H; rw [hy176]; with_reducible exact H2_) | (have H2_ := (Option.bind_some _ _).symm.trans H; with_reducible exact H2_) | with_reducible exact H | (rw [hy176]; exact H) | exact H
  have Ny176 := Aside0.mk hy176
  clear hy176
  have H' := Aside0.mk H
  clear H
  go_enter Try.func48, Try.ntmps48
  go_wp2_with (first | ((with_reducible refine gate_dst (N := 15) rfl ?_); refine Kd.R_lit k54 _ 54 ?hg (N := 15) ?hd (xs := ([(⟨(⟨0, 1⟩ : S27), 1, (⟨#[46]⟩ : ByteArray)⟩ : S54)] : List (S54))) (inner := [.int .i64 0, .int .i64 1, .int .i64 1, .string (⟨#[46]⟩ : ByteArray)]) (ok := fun _ => True) (okp := fun _ => True) ?hr ?hp (fun _ hk => hk) trivial (Below.refl _ _) (Nat.le_refl _) (by simp) ?_; (case hd => rfl); (case hg => rfl); (case hr => first | (go_simp; done) | (go_simp; rfl)); (case hp => exact (Reps.c4 (show Kd.M k54 _ _ _ (⟨(⟨0, 1⟩ : S27), 1, (⟨#[46]⟩ : ByteArray)⟩ : S54) [.int .i64 0, .int .i64 1, .int .i64 1, .string (⟨#[46]⟩ : ByteArray)] from (k54_mkM _ _ _ (⟨(⟨0, 1⟩ : S27), 1, (⟨#[46]⟩ : ByteArray)⟩ : S54) )) (Reps.none _ _))); intro v174 w2 ho3 hb hg_ hnew_; clear hg_ hnew_; (first | rw [← Ny173.out] at ho3 | (simp only [Int.reduceToNat] at ho3; rw [← Ny173.out] at ho3)); have n0_ := Aside0.mk (Kd.R_lower (Kd.R_newM (M := fun k_ => (w.heap.size ≤ k_)) ho3 (below_size (by repeat (first | (with_reducible first | exact HB.out | apply below_alloc | apply pw_below_drewN | apply below_drew1) | exact HB.out))) (fun k_ h_ => h_)) (below_size (by repeat (first | (with_reducible first | exact HB.out | apply below_alloc | apply pw_below_drewN | apply below_drew1) | exact HB.out)))); have n1_ := Aside0.mk (below_step (by repeat (first | (with_reducible first | exact HB.out | apply below_alloc | apply pw_below_drewN | apply below_drew1) | exact HB.out)) hb); clear HB; have HO175 := n0_; have HB := n1_; clear n0_ n1_; clear hb ho3; obtain ⟨Ao4, co4, eo4⟩ := Kd.R_slice HO175.out; subst eo4) | ((with_reducible refine gate_dst (N := 16) rfl ?_); refine Kd.N_lit (Kd.slice 54 k54) _ 50 ?hg (N' := 16) ?hd (xs := ([y173] : List (List (S54)))) (inner := [.slice Ao4 y173.length co4]) (ok := (fun k_ => (w.heap.size ≤ k_))) (okp := (fun k_ => (w.heap.size ≤ k_))) ?hr ?hp (fun _ hk => hk) ((show ∀ k_, w2.heap.size ≤ k_ → (fun k_ => (w.heap.size ≤ k_)) k_ from fun k_ hk => (Nat.le_trans (below_size (by repeat (first | (with_reducible first | exact HB.out | apply below_alloc | apply pw_below_drewN | apply below_drew1) | exact HB.out))) hk)) _ (Nat.le_refl _)) (Below.refl _ _) (Nat.le_refl _) (by simp) ?_; (case hd => rfl); (case hg => rfl); (case hr => first | (go_simp; done) | (go_simp; rfl)); (case hp => exact (Reps.one (show Kd.FK (Kd.slice 54 k54) _ _ y173 [.slice Ao4 y173.length co4] from (Kd.FK_slice_mk (Kd.R_reads' (Kd.R_mono (ok' := (fun k_ => (w.heap.size ≤ k_))) (HO175.out) (fun k_ hk => hk.1))).2.1 (Kd.R_F (Kd.R_mono (ok' := (fun k_ => (w.heap.size ≤ k_))) (HO175.out) (fun k_ hk => hk.1))))) (Reps.none _ _))); intro v177 w5 ho6 hb hg_ hnew_; clear hg_ hnew_; (first | rw [← Ny176.out] at ho6 | (simp only [Int.reduceToNat] at ho6; rw [← Ny176.out] at ho6)); have n0_ := Aside0.mk (Kd.N_lower ho6 (below_size (by repeat (first | (with_reducible first | exact HB.out | apply below_alloc | apply pw_below_drewN | apply below_drew1) | exact HB.out)))); have n1_ := Aside0.mk (below_step (by repeat (first | (with_reducible first | exact HB.out | apply below_alloc | apply pw_below_drewN | apply below_drew1) | exact HB.out)) hb); clear HB; clear HO175; have HO178 := n0_; have HB := n1_; clear n0_ n1_; clear hb ho6))
  go_loopg [3, 4] k (fun kq v3 v4 w' => ∃ (x3_1 : List (List (S54))) (x4_1 : Int), v4 = .int .i64 x4_1 ∧ Aside0 (spec_l6Table.l0 kq a0 x3_1 x4_1 = some r) ∧ Aside0 (kq ≤ k) ∧ Aside0 (Kd.N (Kd.slice 54 k54) 50 w' w.heap.size (fun k_ => (w.heap.size ≤ k_)) v3 x3_1) ∧ Aside0 (Below w.heap.size w w'))
  case atStart => exact ⟨(y176), (1), (by first | rfl | (simp; done) | (simp [*]; done)), H', ⟨Nat.le_refl _⟩, ⟨by (with_reducible repeat (first | apply Kd.N_alloc | apply Kd.N_drewN | apply Kd.N_drew)); exact HO178.out⟩, ⟨by repeat (first | (with_reducible first | exact HB.out | apply below_alloc | apply pw_below_drewN | apply below_drew1) | exact HB.out)⟩⟩
  case round =>
    clear H'
    try clear p2
    try clear c4
    obtain ⟨x3_1, x4_1, rfl, HA, HK1, HO_3, HB⟩ := hrel
    cases gk with
    | zero => exact absurd HA.out (by simp [spec_l6Table.l0])
    | succ k1 =>
      have H := HA.out
      clear HA
      simp only [spec_l6Table.l0] at H
      by_cases c7 : x4_1 ≤ a0
      · rw [if_pos c7] at H
        have c7b0 : decide (x4_1 ≤ a0) = true := decide_eq_true c7
        clear c7
        obtain ⟨y179, hy179⟩ : ∃ y_ : List (S54), y_ = (([] : List (S54))) := ⟨_, rfl⟩
        replace H : (spec_l6Table.l1 k1 a0 x3_1 x4_1 y179 0) = some r := by first | (rw [hy179]; with_reducible exact H) | (have H2_ := (Option.bind_some _ _).symm.trans H; rw [hy179]; with_reducible exact H2_) | (have H2_ := (Option.bind_some _ _).symm.trans H; with_reducible exact H2_) | with_reducible exact H | (rw [hy179]; exact H) | exact H
        have Ny179 := Aside0.mk hy179
        clear hy179
        have H' := Aside0.mk H
        clear H
        go_wp2_with (first | ((with_reducible refine gate_dst (N := 22) rfl ?_); refine Kd.R_lit k54 _ 54 ?hg (N := 22) ?hd (xs := ([] : List (S54))) (inner := []) (ok := fun _ => True) (okp := fun _ => True) ?hr ?hp (fun _ hk => hk) trivial (Below.refl _ _) (Nat.le_refl _) (by simp) ?_; (case hd => rfl); (case hg => rfl); (case hr => first | (go_simp; done) | (go_simp; rfl)); (case hp => exact (Reps.none _ _)); intro v180 w8 ho9 hb hg_ hnew_; clear hg_ hnew_; (first | rw [← Ny179.out] at ho9 | (simp only [Int.reduceToNat] at ho9; rw [← Ny179.out] at ho9)); have n0_ := Aside0.mk (Kd.N_elder' (by (with_reducible repeat (first | apply Kd.N_alloc | apply Kd.N_drewN | apply Kd.N_drew)); exact HO_3.out) (Kd.R_base ho9) hb); have n1_ := Aside0.mk (Kd.R_lower (Kd.R_newM (M := fun k_ => (w.heap.size ≤ k_)) ho9 (below_size (by repeat (first | (with_reducible first | exact HB.out | apply below_alloc | apply pw_below_drewN | apply below_drew1) | exact HB.out))) (fun k_ h_ => h_)) (below_size (by repeat (first | (with_reducible first | exact HB.out | apply below_alloc | apply pw_below_drewN | apply below_drew1) | exact HB.out)))); have n2_ := Aside0.mk (below_step (by repeat (first | (with_reducible first | exact HB.out | apply below_alloc | apply pw_below_drewN | apply below_drew1) | exact HB.out)) hb); clear HO_3; clear HB; have HO_3 := n0_; have HO181 := n1_; have HB := n2_; clear n0_ n1_ n2_; clear hb ho9))
        go_loopg [5, 6] k1 (fun kq v5 v6 w' => ∃ (x5_2 : List (S54)) (x6_2 : Int), v6 = .int .i64 x6_2 ∧ Aside0 (spec_l6Table.l1 kq a0 x3_1 x4_1 x5_2 x6_2 = some r) ∧ Aside0 (kq ≤ k1) ∧ Aside0 (Kd.N (Kd.slice 54 k54) 50 w' w.heap.size (fun k_ => (w.heap.size ≤ k_) ∧ some k_ ≠ (v5 : Value).ownBlock) u3 x3_1) ∧ Aside0 (Kd.R k54 54 w' w.heap.size (fun k_ => (w.heap.size ≤ k_)) v5 x5_2) ∧ Aside0 (Below w.heap.size w w'))
        case atStart => exact ⟨(y179), (0), (by first | rfl | (simp; done) | (simp [*]; done)), H', ⟨Nat.le_refl _⟩, ⟨by (with_reducible repeat (first | apply Kd.N_alloc | apply Kd.N_drewN | apply Kd.N_drew)); exact HO_3.out⟩, ⟨by (with_reducible repeat (first | apply Kd.R_alloc | apply Kd.R_drewN | apply Kd.R_drew)); exact Kd.R_mono HO181.out (fun _ hk => hk.1)⟩, ⟨by repeat (first | (with_reducible first | exact HB.out | apply below_alloc | apply pw_below_drewN | apply below_drew1) | exact HB.out)⟩⟩
        case round =>
          clear H'
          try clear p2
          try clear c4
          try clear c7
          try clear c7b0
          try clear p2
          obtain ⟨x5_2, x6_2, rfl, HA, HK2, HO_3, HO_5, HB⟩ := hrel
          cases gk with
          | zero => exact absurd HA.out (by simp [spec_l6Table.l1])
          | succ k2 =>
            have H := HA.out
            clear HA
            simp only [spec_l6Table.l1] at H
            by_cases c10 : x6_2 < x4_1
            · rw [if_pos c10] at H
              have c10b0 : decide (x6_2 < x4_1) = true := decide_eq_true c10
              clear c10
              have H' := Aside0.mk H
              clear H
              go_wp2
              go_loopg [5, 7] k2 (fun kq v5 v7 w' => ∃ (x5_3 : List (S54)) (x7_3 : Int), v7 = .int .i64 x7_3 ∧ Aside0 (spec_l6Table.l2 kq a0 x3_1 x4_1 x5_3 x6_2 x7_3 = some r) ∧ Aside0 (kq ≤ k2) ∧ Aside0 (Kd.N (Kd.slice 54 k54) 50 w' w.heap.size (fun k_ => (w.heap.size ≤ k_) ∧ some k_ ≠ (v5 : Value).ownBlock) u3 x3_1) ∧ Aside0 (Kd.R k54 54 w' w.heap.size (fun k_ => (w.heap.size ≤ k_)) v5 x5_3) ∧ Aside0 (Below w.heap.size w w'))
              case atStart => exact ⟨(x5_2), (0), (by first | rfl | (simp; done) | (simp [*]; done)), H', ⟨Nat.le_refl _⟩, ⟨by (with_reducible repeat (first | apply Kd.N_alloc | apply Kd.N_drewN | apply Kd.N_drew)); exact HO_3.out⟩, ⟨by (with_reducible repeat (first | apply Kd.R_alloc | apply Kd.R_drewN | apply Kd.R_drew)); exact HO_5.out⟩, ⟨by repeat (first | (with_reducible first | exact HB.out | apply below_alloc | apply pw_below_drewN | apply below_drew1) | exact HB.out)⟩⟩
              case round =>
                clear H'
                try clear c1
                try clear p2
                try clear c4
                try clear c7
                try clear c7b0
                try clear c10
                try clear c10b0
                try clear p2
                obtain ⟨x5_3, x7_3, rfl, HA, HK3, HO_3, HO_5, HB⟩ := hrel
                cases gk with
                | zero => exact absurd HA.out (by simp [spec_l6Table.l2])
                | succ k3 =>
                  have H := HA.out
                  clear HA
                  simp only [spec_l6Table.l2] at H
                  by_cases c11 : 0 ≤ x6_2
                  · rw [if_pos c11] at H
                    have c11b0 : decide (0 ≤ x6_2) = true := decide_eq_true c11
                    clear c11
                    by_cases c12 : x6_2 < (x3_1.length : Int)
                    · rw [if_pos c12] at H
                      have c12b0 : decide (x6_2 < (x3_1.length : Int)) = true := decide_eq_true c12
                      clear c12
                      by_cases c13 : x7_3 < ((rd_L4 x3_1 x6_2).length : Int)
                      · rw [if_pos c13] at H
                        have c13b0 : decide (x7_3 < ((rd_L4 x3_1 x6_2).length : Int)) = true := decide_eq_true c13
                        clear c13
                        have H' := Aside0.mk H
                        clear H
                        obtain ⟨Ao14, co14, eo14⟩ := Kd.N_slice HO_3.out
                        subst eo14
                        have p185 : 0 ≤ (x6_2 : Int) := of_decide_eq_true (by first | (with_reducible assumption) | assumption)
                        have q185 : x6_2 < (x3_1.length : Int) := of_decide_eq_true (by first | (with_reducible assumption) | assumption)
                        obtain ⟨ad185, A185_0, c185_0, e185, hx185_0, hl185_0, hi185_0⟩ := at_L4 (Kd.N_reads' HO_3.out).2.2 x6_2 p185 q185
                        cases e185
                        obtain ⟨ce185, hce185, hMe185, hcc185⟩ := Kd.N_get HO_3.out [] x6_2 p185 (by first | exact q185 | exact of_decide_eq_true (by first | (with_reducible assumption) | assumption) | (have e_ := (Kd.N_reads' HO_3.out).1; omega))
                        obtain ⟨ua185_0, uc185_0, rfl, ul185_0, ge185_0⟩ := Kd.FK_slice_open hMe185
                        have hv185_0 := hcc185 0 _ rfl
                        rw [Nat.add_zero, show ((Kd.slice 54 k54)).sz = 1 from rfl, Nat.mul_one] at hv185_0
                        replace hv185_0 := Option.some.inj (hv185_0.symm.trans hx185_0)
                        injection hv185_0 with hva_ hvn_ hvc_
                        rw [hva_] at ge185_0
                        rw [hvc_] at ul185_0
                        have HL185_0 := Aside0.mk (show Kd.V k54 54 _ w.heap.size _ _ (rd_L4 x3_1 x6_2) from Kd.V_mk ul185_0 ge185_0)
                        clear hva_ hvn_ hvc_ ge185_0 ul185_0
                        clear hcc185 hce185
                        have HR185_0 := Aside0.mk hi185_0
                        have HC185_0 := Aside0.mk hl185_0
                        clear hi185_0 hl185_0
                        replace p185 := eq_true p185
                        replace q185 := eq_true q185
                        go_wp2
                        go_loopg [5, 8] k3 (fun kq v5 v8 w' => ∃ (x5_4 : List (S54)) (x8_4 : Int), v8 = .int .i64 x8_4 ∧ Aside0 (spec_l6Table.l3 kq a0 x3_1 x4_1 x5_4 x6_2 x7_3 x8_4 = some r) ∧ Aside0 (kq ≤ k3) ∧ Aside0 (Kd.N (Kd.slice 54 k54) 50 w' w.heap.size (fun k_ => (w.heap.size ≤ k_) ∧ some k_ ≠ (v5 : Value).ownBlock) (.slice (some ad185) x3_1.length co14) x3_1) ∧ Aside0 (Kd.R k54 54 w' w.heap.size (fun k_ => (w.heap.size ≤ k_)) v5 x5_4) ∧ Aside0 (Below w.heap.size w w'))
                        case atStart => exact ⟨(x5_3), (0), (by first | rfl | (simp; done) | (simp [*]; done)), H', ⟨Nat.le_refl _⟩, ⟨by (with_reducible repeat (first | apply Kd.N_alloc | apply Kd.N_drewN | apply Kd.N_drew)); exact HO_3.out⟩, ⟨by (with_reducible repeat (first | apply Kd.R_alloc | apply Kd.R_drewN | apply Kd.R_drew)); exact HO_5.out⟩, ⟨by repeat (first | (with_reducible first | exact HB.out | apply below_alloc | apply pw_below_drewN | apply below_drew1) | exact HB.out)⟩⟩
                        case round =>
                          clear H'
                          try clear c1
                          try clear p1
                          try clear q1
                          try clear hx1
                          try clear p2
                          try clear c4
                          try clear c7
                          try clear c7b0
                          try clear c10
                          try clear c10b0
                          try clear c11
                          try clear c11b0
                          try clear c12
                          try clear c12b0
                          try clear c13
                          try clear c13b0
                          try clear hx185_0
                          try clear p185
                          try clear p2
                          try clear q185
                          obtain ⟨x5_4, x8_4, rfl, HA, HK4, HO_3, HO_5, HB⟩ := hrel
                          cases gk with
                          | zero => exact absurd HA.out (by simp [spec_l6Table.l3])
                          | succ k4 =>
                            have H := HA.out
                            clear HA
                            simp only [spec_l6Table.l3] at H
                            obtain ⟨ji15, hji15⟩ : ∃ j_ : Int, (wrap64 ((wrap64 (x4_1 - 1)) - x6_2)) = j_ := ⟨_, rfl⟩
                            replace H : (if 0 ≤ (ji15) then (if (ji15) < (x3_1.length : Int) then (if x8_4 < ((rd_L4 x3_1 (ji15)).length : Int) then (if 0 ≤ x6_2 then (if x6_2 < (x3_1.length : Int) then (if 0 ≤ x7_3 then (if x7_3 < ((rd_L4 x3_1 x6_2).length : Int) then (if 0 ≤ x8_4 then ((spec_l6Half.f k4 ((rd_T54 (rd_L4 x3_1 x6_2) x7_3).f0.f0) ((rd_T54 (rd_L4 x3_1 x6_2) x7_3).f0.f1) ((rd_T54 (rd_L4 x3_1 (ji15)) x8_4).f0.f0) ((rd_T54 (rd_L4 x3_1 (ji15)) x8_4).f0.f1)).bind fun bt193 => (if bt193.2.2 = true then (if 1 + ((rd_T54 (rd_L4 x3_1 x6_2) x7_3).f2).size ≤ 9223372036854775807 then (if ((⟨#[40]⟩ : ByteArray) ++ ((rd_T54 (rd_L4 x3_1 x6_2) x7_3).f2)).size + ((rd_T54 (rd_L4 x3_1 (ji15)) x8_4).f2).size ≤ 9223372036854775807 then (if (((⟨#[40]⟩ : ByteArray) ++ ((rd_T54 (rd_L4 x3_1 x6_2) x7_3).f2)) ++ ((rd_T54 (rd_L4 x3_1 (ji15)) x8_4).f2)).size + 1 ≤ 9223372036854775807 then ((spec_l6Add.f k4 x5_4 bt193.1 bt193.2.1 (wrap64 (((rd_T54 (rd_L4 x3_1 x6_2) x7_3).f1) * ((rd_T54 (rd_L4 x3_1 (ji15)) x8_4).f1))) ((((⟨#[40]⟩ : ByteArray) ++ ((rd_T54 (rd_L4 x3_1 x6_2) x7_3).f2)) ++ ((rd_T54 (rd_L4 x3_1 (ji15)) x8_4).f2)) ++ (⟨#[41]⟩ : ByteArray))).bind fun t197 => (spec_l6Table.l3 k4 a0 x3_1 x4_1 t197 x6_2 x7_3 (wrap64 (x8_4 + 1)))) else (none)) else (none)) else (none)) else (spec_l6Table.l3 k4 a0 x3_1 x4_1 x5_4 x6_2 x7_3 (wrap64 (x8_4 + 1))))) else (none)) else (none)) else (none)) else (none)) else (none)) else (spec_l6Table.l2 k4 a0 x3_1 x4_1 x5_4 x6_2 (wrap64 (x7_3 + 1)))) else (none)) else (none)) = some r := by first | (rw [hji15] at H; exact H) | (simp only [hji15] at H ⊢; exact H)
                            have hji15w : (IntKind.i64.wrap ((wrap64 (x4_1 - 1)) - x6_2)) = ji15 := (i64_w _).trans hji15
                            by_cases c16 : 0 ≤ (ji15)
                            · rw [if_pos c16] at H
                              have c16b0 : decide (0 ≤ (ji15)) = true := decide_eq_true c16
                              clear c16
                              by_cases c17 : (ji15) < (x3_1.length : Int)
                              · rw [if_pos c17] at H
                                have c17b0 : decide ((ji15) < (x3_1.length : Int)) = true := decide_eq_true c17
                                clear c17
                                by_cases c18 : x8_4 < ((rd_L4 x3_1 (ji15)).length : Int)
                                · rw [if_pos c18] at H
                                  have c18b0 : decide (x8_4 < ((rd_L4 x3_1 (ji15)).length : Int)) = true := decide_eq_true c18
                                  clear c18
                                  by_cases c19 : 0 ≤ x6_2
                                  · rw [if_pos c19] at H
                                    have c19b0 : decide (0 ≤ x6_2) = true := decide_eq_true c19
                                    clear c19
                                    by_cases c20 : x6_2 < (x3_1.length : Int)
                                    · rw [if_pos c20] at H
                                      have c20b0 : decide (x6_2 < (x3_1.length : Int)) = true := decide_eq_true c20
                                      clear c20
                                      by_cases c21 : 0 ≤ x7_3
                                      · rw [if_pos c21] at H
                                        have c21b0 : decide (0 ≤ x7_3) = true := decide_eq_true c21
                                        clear c21
                                        by_cases c22 : x7_3 < ((rd_L4 x3_1 x6_2).length : Int)
                                        · rw [if_pos c22] at H
                                          have c22b0 : decide (x7_3 < ((rd_L4 x3_1 x6_2).length : Int)) = true := decide_eq_true c22
                                          clear c22
                                          by_cases c23 : 0 ≤ x8_4
                                          · rw [if_pos c23] at H
                                            have c23b0 : decide (0 ≤ x8_4) = true := decide_eq_true c23
                                            clear c23
                                            replace H := Option.bind_eq_some_iff.mp H
                                            obtain ⟨⟨t193, t194, t195⟩, A240, H⟩ := H
                                            replace H : (if t195 = true then (if 1 + ((rd_T54 (rd_L4 x3_1 x6_2) x7_3).f2).size ≤ 9223372036854775807 then (if ((⟨#[40]⟩ : ByteArray) ++ ((rd_T54 (rd_L4 x3_1 x6_2) x7_3).f2)).size + ((rd_T54 (rd_L4 x3_1 (ji15)) x8_4).f2).size ≤ 9223372036854775807 then (if (((⟨#[40]⟩ : ByteArray) ++ ((rd_T54 (rd_L4 x3_1 x6_2) x7_3).f2)) ++ ((rd_T54 (rd_L4 x3_1 (ji15)) x8_4).f2)).size + 1 ≤ 9223372036854775807 then ((spec_l6Add.f k4 x5_4 t193 t194 (wrap64 (((rd_T54 (rd_L4 x3_1 x6_2) x7_3).f1) * ((rd_T54 (rd_L4 x3_1 (ji15)) x8_4).f1))) ((((⟨#[40]⟩ : ByteArray) ++ ((rd_T54 (rd_L4 x3_1 x6_2) x7_3).f2)) ++ ((rd_T54 (rd_L4 x3_1 (ji15)) x8_4).f2)) ++ (⟨#[41]⟩ : ByteArray))).bind fun t197 => (spec_l6Table.l3 k4 a0 x3_1 x4_1 t197 x6_2 x7_3 (wrap64 (x8_4 + 1)))) else (none)) else (none)) else (none)) else (spec_l6Table.l3 k4 a0 x3_1 x4_1 x5_4 x6_2 x7_3 (wrap64 (x8_4 + 1)))) = some r := H
                                            have A24 := Aside0.mk A240
                                            clear A240
                                            by_cases c25 : t195 = true
                                            · subst c25
                                              have H1 : (if 1 + ((rd_T54 (rd_L4 x3_1 x6_2) x7_3).f2).size ≤ 9223372036854775807 then (if ((⟨#[40]⟩ : ByteArray) ++ ((rd_T54 (rd_L4 x3_1 x6_2) x7_3).f2)).size + ((rd_T54 (rd_L4 x3_1 (ji15)) x8_4).f2).size ≤ 9223372036854775807 then (if (((⟨#[40]⟩ : ByteArray) ++ ((rd_T54 (rd_L4 x3_1 x6_2) x7_3).f2)) ++ ((rd_T54 (rd_L4 x3_1 (ji15)) x8_4).f2)).size + 1 ≤ 9223372036854775807 then ((spec_l6Add.f k4 x5_4 t193 t194 (wrap64 (((rd_T54 (rd_L4 x3_1 x6_2) x7_3).f1) * ((rd_T54 (rd_L4 x3_1 (ji15)) x8_4).f1))) ((((⟨#[40]⟩ : ByteArray) ++ ((rd_T54 (rd_L4 x3_1 x6_2) x7_3).f2)) ++ ((rd_T54 (rd_L4 x3_1 (ji15)) x8_4).f2)) ++ (⟨#[41]⟩ : ByteArray))).bind fun t197 => (spec_l6Table.l3 k4 a0 x3_1 x4_1 t197 x6_2 x7_3 (wrap64 (x8_4 + 1)))) else (none)) else (none)) else (none)) = some r := by rw [if_pos rfl] at H; exact H
                                              clear H
                                              have H := H1
                                              clear H1
                                              by_cases c26 : 1 + ((rd_T54 (rd_L4 x3_1 x6_2) x7_3).f2).size ≤ 9223372036854775807
                                              · rw [if_pos c26] at H
                                                have c26b0 := eq_true c26
                                                have c26b1 : decide (1 + ((rd_T54 (rd_L4 x3_1 x6_2) x7_3).f2).size ≤ 9223372036854775807) = true := decide_eq_true c26
                                                try have c26b2 : (9223372036854775807 < 1 + ((rd_T54 (rd_L4 x3_1 x6_2) x7_3).f2).size) = False := eq_false (Nat.not_lt.2 c26)
                                                by_cases c27 : ((⟨#[40]⟩ : ByteArray) ++ ((rd_T54 (rd_L4 x3_1 x6_2) x7_3).f2)).size + ((rd_T54 (rd_L4 x3_1 (ji15)) x8_4).f2).size ≤ 9223372036854775807
                                                · rw [if_pos c27] at H
                                                  have c27b0 := eq_true c27
                                                  have c27b1 : decide (((⟨#[40]⟩ : ByteArray) ++ ((rd_T54 (rd_L4 x3_1 x6_2) x7_3).f2)).size + ((rd_T54 (rd_L4 x3_1 (ji15)) x8_4).f2).size ≤ 9223372036854775807) = true := decide_eq_true c27
                                                  try have c27b2 : (9223372036854775807 < ((⟨#[40]⟩ : ByteArray) ++ ((rd_T54 (rd_L4 x3_1 x6_2) x7_3).f2)).size + ((rd_T54 (rd_L4 x3_1 (ji15)) x8_4).f2).size) = False := eq_false (Nat.not_lt.2 c27)
                                                  (try (have c27b3 := Nat.not_lt.2 c27; simp only [ByteArray.size_append, show ((⟨#[40]⟩ : ByteArray)).size = 1 from rfl] at c27b3; replace c27b3 := eq_false c27b3))
                                                  by_cases c28 : (((⟨#[40]⟩ : ByteArray) ++ ((rd_T54 (rd_L4 x3_1 x6_2) x7_3).f2)) ++ ((rd_T54 (rd_L4 x3_1 (ji15)) x8_4).f2)).size + 1 ≤ 9223372036854775807
                                                  · rw [if_pos c28] at H
                                                    have c28b0 := eq_true c28
                                                    have c28b1 : decide ((((⟨#[40]⟩ : ByteArray) ++ ((rd_T54 (rd_L4 x3_1 x6_2) x7_3).f2)) ++ ((rd_T54 (rd_L4 x3_1 (ji15)) x8_4).f2)).size + 1 ≤ 9223372036854775807) = true := decide_eq_true c28
                                                    try have c28b2 : (9223372036854775807 < (((⟨#[40]⟩ : ByteArray) ++ ((rd_T54 (rd_L4 x3_1 x6_2) x7_3).f2)) ++ ((rd_T54 (rd_L4 x3_1 (ji15)) x8_4).f2)).size + 1) = False := eq_false (Nat.not_lt.2 c28)
                                                    (try (have c28b3 := Nat.not_lt.2 c28; simp only [ByteArray.size_append, show ((⟨#[40]⟩ : ByteArray)).size = 1 from rfl] at c28b3; replace c28b3 := eq_false c28b3))
                                                    replace H := Option.bind_eq_some_iff.mp H
                                                    obtain ⟨t197, A290, H⟩ := H
                                                    replace H : (spec_l6Table.l3 k4 a0 x3_1 x4_1 t197 x6_2 x7_3 (wrap64 (x8_4 + 1))) = some r := H
                                                    have A29 := Aside0.mk A290
                                                    clear A290
                                                    have H' := Aside0.mk H
                                                    clear H
                                                    have p186 : 0 ≤ ((ji15) : Int) := of_decide_eq_true (by first | (with_reducible assumption) | assumption)
                                                    have q186 : (ji15) < (x3_1.length : Int) := of_decide_eq_true (by first | (with_reducible assumption) | assumption)
                                                    obtain ⟨ad186, A186_0, c186_0, e186, hx186_0, hl186_0, hi186_0⟩ := at_L4 (Kd.N_reads' HO_3.out).2.2 (ji15) p186 q186
                                                    obtain rfl : ad185 = ad186 := (by injection e186)
                                                    obtain ⟨ce186, hce186, hMe186, hcc186⟩ := Kd.N_get HO_3.out [] (ji15) p186 (by first | exact q186 | exact of_decide_eq_true (by first | (with_reducible assumption) | assumption) | (have e_ := (Kd.N_reads' HO_3.out).1; omega))
                                                    obtain ⟨ua186_0, uc186_0, rfl, ul186_0, ge186_0⟩ := Kd.FK_slice_open hMe186
                                                    have hv186_0 := hcc186 0 _ rfl
                                                    rw [Nat.add_zero, show ((Kd.slice 54 k54)).sz = 1 from rfl, Nat.mul_one] at hv186_0
                                                    replace hv186_0 := Option.some.inj (hv186_0.symm.trans hx186_0)
                                                    injection hv186_0 with hva_ hvn_ hvc_
                                                    rw [hva_] at ge186_0
                                                    rw [hvc_] at ul186_0
                                                    have HL186_0 := Aside0.mk (show Kd.V k54 54 _ w.heap.size _ _ (rd_L4 x3_1 (ji15)) from Kd.V_mk ul186_0 ge186_0)
                                                    clear hva_ hvn_ hvc_ ge186_0 ul186_0
                                                    clear hcc186 hce186
                                                    have HR186_0 := Aside0.mk hi186_0
                                                    have HC186_0 := Aside0.mk hl186_0
                                                    clear hi186_0 hl186_0
                                                    replace p186 := eq_true p186
                                                    replace q186 := eq_true q186
                                                    try go_wp2
                                                    have n0_ := Aside0.mk (Kd.N_drew HO_3.out)
                                                    have n1_ := Aside0.mk (Kd.R_drew HO_5.out)
                                                    have n2_ := Aside0.mk (Kd.V_drew HL186_0.out)
                                                    have n3_ := Aside0.mk (Kd.C_drew HR186_0.out)
                                                    have n4_ := Aside0.mk (below_drew1 HB.out)
                                                    clear HO_3
                                                    clear HO_5
                                                    clear HL186_0
                                                    clear HR186_0
                                                    clear HB
                                                    have HO_3 := n0_
                                                    have HO_5 := n1_
                                                    have HL186_0 := n2_
                                                    have HR186_0 := n3_
                                                    have HB := n4_
                                                    clear n0_ n1_ n2_ n3_ n4_
                                                    have p187 : 0 ≤ (x6_2 : Int) := of_decide_eq_true (by first | (with_reducible assumption) | assumption)
                                                    have q187 : x6_2 < (x3_1.length : Int) := of_decide_eq_true (by first | (with_reducible assumption) | assumption)
                                                    obtain ⟨ad187, A187_0, c187_0, e187, hx187_0, hl187_0, hi187_0⟩ := at_L4 (Kd.N_reads' HO_3.out).2.2 x6_2 p187 q187
                                                    obtain rfl : ad185 = ad187 := (by injection e187)
                                                    obtain ⟨ce187, hce187, hMe187, hcc187⟩ := Kd.N_get HO_3.out [] x6_2 p187 (by first | exact q187 | exact of_decide_eq_true (by first | (with_reducible assumption) | assumption) | (have e_ := (Kd.N_reads' HO_3.out).1; omega))
                                                    obtain ⟨ua187_0, uc187_0, rfl, ul187_0, ge187_0⟩ := Kd.FK_slice_open hMe187
                                                    have hv187_0 := hcc187 0 _ rfl
                                                    rw [Nat.add_zero, show ((Kd.slice 54 k54)).sz = 1 from rfl, Nat.mul_one] at hv187_0
                                                    replace hv187_0 := Option.some.inj (hv187_0.symm.trans hx187_0)
                                                    injection hv187_0 with hva_ hvn_ hvc_
                                                    rw [hva_] at ge187_0
                                                    rw [hvc_] at ul187_0
                                                    have HL187_0 := Aside0.mk (show Kd.V k54 54 _ w.heap.size _ _ (rd_L4 x3_1 x6_2) from Kd.V_mk ul187_0 ge187_0)
                                                    clear hva_ hvn_ hvc_ ge187_0 ul187_0
                                                    clear hcc187 hce187
                                                    have HR187_0 := Aside0.mk hi187_0
                                                    have HC187_0 := Aside0.mk hl187_0
                                                    clear hi187_0 hl187_0
                                                    replace p187 := eq_true p187
                                                    replace q187 := eq_true q187
                                                    have p188 : 0 ≤ (x7_3 : Int) := of_decide_eq_true (by first | (with_reducible assumption) | assumption)
                                                    have q188 : x7_3 < ((rd_L4 x3_1 x6_2).length : Int) := of_decide_eq_true (by first | (with_reducible assumption) | assumption)
                                                    obtain ⟨ad188, e188, hx188_0, hx188_1, hx188_2, hx188_3⟩ := at_T54 (by repeat (first | (with_reducible exact HR187_0.out) | (with_reducible refine Kd.C_alloc ?_ _) | (with_reducible refine Kd.C_drewN ?_ _) | (with_reducible refine Kd.C_drew ?_) | exact HR187_0.out)) x7_3 p188 q188
                                                    have PL188 : Aside0 (0 < (rd_L4 x3_1 x6_2).length) := ⟨by have h1_ := p188; have h2_ := q188; omega⟩
                                                    cases e188
                                                    replace p188 := eq_true p188
                                                    replace q188 := eq_true q188
                                                    have p189 : 0 ≤ ((ji15) : Int) := of_decide_eq_true (by first | (with_reducible assumption) | assumption)
                                                    have q189 : (ji15) < (x3_1.length : Int) := of_decide_eq_true (by first | (with_reducible assumption) | assumption)
                                                    obtain ⟨ad189, A189_0, c189_0, e189, hx189_0, hl189_0, hi189_0⟩ := at_L4 (Kd.N_reads' HO_3.out).2.2 (ji15) p189 q189
                                                    obtain rfl : ad185 = ad189 := (by injection e189)
                                                    obtain ⟨ce189, hce189, hMe189, hcc189⟩ := Kd.N_get HO_3.out [] (ji15) p189 (by first | exact q189 | exact of_decide_eq_true (by first | (with_reducible assumption) | assumption) | (have e_ := (Kd.N_reads' HO_3.out).1; omega))
                                                    obtain ⟨ua189_0, uc189_0, rfl, ul189_0, ge189_0⟩ := Kd.FK_slice_open hMe189
                                                    have hv189_0 := hcc189 0 _ rfl
                                                    rw [Nat.add_zero, show ((Kd.slice 54 k54)).sz = 1 from rfl, Nat.mul_one] at hv189_0
                                                    replace hv189_0 := Option.some.inj (hv189_0.symm.trans hx189_0)
                                                    injection hv189_0 with hva_ hvn_ hvc_
                                                    rw [hva_] at ge189_0
                                                    rw [hvc_] at ul189_0
                                                    have HL189_0 := Aside0.mk (show Kd.V k54 54 _ w.heap.size _ _ (rd_L4 x3_1 (ji15)) from Kd.V_mk ul189_0 ge189_0)
                                                    clear hva_ hvn_ hvc_ ge189_0 ul189_0
                                                    clear hcc189 hce189
                                                    have HR189_0 := Aside0.mk hi189_0
                                                    have HC189_0 := Aside0.mk hl189_0
                                                    clear hi189_0 hl189_0
                                                    replace p189 := eq_true p189
                                                    replace q189 := eq_true q189
                                                    have p190 : 0 ≤ (x8_4 : Int) := of_decide_eq_true (by first | (with_reducible assumption) | assumption)
                                                    have q190 : x8_4 < ((rd_L4 x3_1 (ji15)).length : Int) := of_decide_eq_true (by first | (with_reducible assumption) | assumption)
                                                    obtain ⟨ad190, e190, hx190_0, hx190_1, hx190_2, hx190_3⟩ := at_T54 (by repeat (first | (with_reducible exact HR189_0.out) | (with_reducible refine Kd.C_alloc ?_ _) | (with_reducible refine Kd.C_drewN ?_ _) | (with_reducible refine Kd.C_drew ?_) | exact HR189_0.out)) x8_4 p190 q190
                                                    have PL190 : Aside0 (0 < (rd_L4 x3_1 (ji15)).length) := ⟨by have h1_ := p190; have h2_ := q190; omega⟩
                                                    cases e190
                                                    replace p190 := eq_true p190
                                                    replace q190 := eq_true q190
                                                    refine start_ (n := 21) (S := fun w' => w'.cell? (ad185.add (x6_2).toNat) = some (.slice (some ad188) (rd_L4 x3_1 x6_2).length c187_0) ∧ w'.cell? (ad188.add ((x7_3).toNat * 4)) = some (.int .i64 ((rd_T54 (rd_L4 x3_1 x6_2) x7_3).f0.f0)) ∧ w'.cell? ⟨(ad188.add ((x7_3).toNat * 4)).block, (ad188.add ((x7_3).toNat * 4)).off + 1, none⟩ = some (.int .i64 ((rd_T54 (rd_L4 x3_1 x6_2) x7_3).f0.f1)) ∧ w'.cell? ⟨(ad188.add ((x7_3).toNat * 4)).block, (ad188.add ((x7_3).toNat * 4)).off + 2, none⟩ = some (.int .i64 ((rd_T54 (rd_L4 x3_1 x6_2) x7_3).f1)) ∧ w'.cell? ⟨(ad188.add ((x7_3).toNat * 4)).block, (ad188.add ((x7_3).toNat * 4)).off + 3, none⟩ = some (.string ((rd_T54 (rd_L4 x3_1 x6_2) x7_3).f2)) ∧ w'.cell? (ad185.add ((ji15)).toNat) = some (.slice (some ad190) (rd_L4 x3_1 (ji15)).length c189_0) ∧ w'.cell? (ad190.add ((x8_4).toNat * 4)) = some (.int .i64 ((rd_T54 (rd_L4 x3_1 (ji15)) x8_4).f0.f0)) ∧ w'.cell? ⟨(ad190.add ((x8_4).toNat * 4)).block, (ad190.add ((x8_4).toNat * 4)).off + 1, none⟩ = some (.int .i64 ((rd_T54 (rd_L4 x3_1 (ji15)) x8_4).f0.f1)) ∧ w'.cell? ⟨(ad190.add ((x8_4).toNat * 4)).block, (ad190.add ((x8_4).toNat * 4)).off + 2, none⟩ = some (.int .i64 ((rd_T54 (rd_L4 x3_1 (ji15)) x8_4).f1)) ∧ w'.cell? ⟨(ad190.add ((x8_4).toNat * 4)).block, (ad190.add ((x8_4).toNat * 4)).off + 3, none⟩ = some (.string ((rd_T54 (rd_L4 x3_1 (ji15)) x8_4).f2))) (ds := []) #[false, false, false, false, false, false, false, false, false, false, false, false, false, false, false, false, false, false, false, false, false] (by kernel_rfl) rfl rfl ⟨hx187_0, hx188_0, hx188_1, hx188_2, hx188_3, hx189_0, hx190_0, hx190_1, hx190_2, hx190_3⟩ (fun hHeld => ?_); refine with_tabW spec_l6Table.tab15 spec_l6Table.bits15 (fun HT_ HW_ => ?_)
                                                    generalize wr.drew = w30 at HO_3 HO_5 HL186_0 HR186_0 HB HL187_0 HL189_0 HR187_0 HR189_0 hx187_0 hx188_0 hx188_1 hx188_2 hx188_3 hx189_0 hx190_0 hx190_1 hx190_2 hx190_3 hHeld ⊢
                                                    refine pure_ (i := 0) (N := some 49) (v := ?_) (a' := ?_) #[true, false, false, false, false, false, false, false, false, false, false, false, false, false, false, false, false, false, false, false, false] rfl rfl (any_of HT_.out (by kernel_rfl)) (fun _ _ _ h => h) (Or.inl ⟨by rfl, ?_⟩) ?_ ?_
                                                    rotate_left
                                                    · intro w'
                                                      go_simp
                                                      with_reducible rfl
                                                    rotate_left
                                                    · simp only [Act.put, List.setIfInBounds_toArray, List.set_cons_zero, List.set_cons_succ, i64_w, i32_w]
                                                      rfl
                                                    refine pure_ (i := 1) (N := some 50) (v := ?_) (a' := ?_) #[true, true, false, false, false, false, false, false, false, false, false, false, false, false, false, false, false, false, false, false, false] rfl rfl (any_of HT_.out (by kernel_rfl)) (fun _ _ _ h => h) (Or.inl ⟨by rfl, ?_⟩) ?_ ?_
                                                    rotate_left
                                                    · intro w'
                                                      go_simp
                                                      with_reducible rfl
                                                    rotate_left
                                                    · simp only [Act.put, List.setIfInBounds_toArray, List.set_cons_zero, List.set_cons_succ, i64_w, i32_w]
                                                      rfl
                                                    refine pure_ (i := 2) (N := some 51) (v := ?_) (a' := ?_) #[true, true, true, false, false, false, false, false, false, false, false, false, false, false, false, false, false, false, false, false, false] rfl rfl (any_of HT_.out (by kernel_rfl)) (fun _ _ _ h => h) (Or.inl ⟨by rfl, ?_⟩) ?_ ?_
                                                    rotate_left
                                                    · intro w'
                                                      go_simp
                                                      with_reducible rfl
                                                    rotate_left
                                                    · simp only [Act.put, List.setIfInBounds_toArray, List.set_cons_zero, List.set_cons_succ, i64_w, i32_w]
                                                      rfl
                                                    refine pure_ (i := 4) (N := some 53) (v := ?_) (a' := ?_) #[true, true, true, false, true, false, false, false, false, false, false, false, false, false, false, false, false, false, false, false, false] rfl rfl (any_of HT_.out (by kernel_rfl)) (fun _ _ _ h => h) (Or.inl ⟨by rfl, ?_⟩) ?_ ?_
                                                    rotate_left
                                                    · intro w'
                                                      go_simp
                                                      with_reducible rfl
                                                    rotate_left
                                                    · simp only [Act.put, List.setIfInBounds_toArray, List.set_cons_zero, List.set_cons_succ, i64_w, i32_w]
                                                      rfl
                                                    refine pure_ (i := 7) (N := some 56) (v := ?_) (a' := ?_) #[true, true, true, false, true, false, false, true, false, false, false, false, false, false, false, false, false, false, false, false, false] rfl rfl (any_of HT_.out (by kernel_rfl)) (fun _ _ _ h => h) (Or.inl ⟨by rfl, ?_⟩) ?_ ?_
                                                    rotate_left
                                                    · intro w'
                                                      go_simp
                                                      with_reducible rfl
                                                    rotate_left
                                                    · simp only [Act.put, List.setIfInBounds_toArray, List.set_cons_zero, List.set_cons_succ, i64_w, i32_w]
                                                      rfl
                                                    refine pure_ (i := 8) (N := some 57) (v := ?_) (a' := ?_) #[true, true, true, false, true, false, false, true, true, false, false, false, false, false, false, false, false, false, false, false, false] rfl rfl (any_of HT_.out (by kernel_rfl)) (fun _ _ _ h => h) (Or.inl ⟨by rfl, ?_⟩) ?_ ?_
                                                    rotate_left
                                                    · intro w'
                                                      go_simp
                                                      with_reducible rfl
                                                    rotate_left
                                                    · simp only [Act.put, List.setIfInBounds_toArray, List.set_cons_zero, List.set_cons_succ, i64_w, i32_w]
                                                      rfl
                                                    refine pure_ (i := 9) (N := some 58) (v := ?_) (a' := ?_) #[true, true, true, false, true, false, false, true, true, true, false, false, false, false, false, false, false, false, false, false, false] rfl rfl (any_of HT_.out (by kernel_rfl)) (fun _ _ _ h => h) (Or.inl ⟨by rfl, ?_⟩) ?_ ?_
                                                    rotate_left
                                                    · intro w'
                                                      go_simp
                                                      with_reducible rfl
                                                    rotate_left
                                                    · simp only [Act.put, List.setIfInBounds_toArray, List.set_cons_zero, List.set_cons_succ, i64_w, i32_w]
                                                      rfl
                                                    refine pure_ (i := 10) (N := some 59) (v := ?_) (a' := ?_) #[true, true, true, false, true, false, false, true, true, true, true, false, false, false, false, false, false, false, false, false, false] rfl rfl (any_of HT_.out (by kernel_rfl)) (fun _ _ _ h => h) (Or.inl ⟨by rfl, ?_⟩) ?_ ?_
                                                    rotate_left
                                                    · intro w'
                                                      go_simp
                                                      with_reducible rfl
                                                    rotate_left
                                                    · simp only [Act.put, List.setIfInBounds_toArray, List.set_cons_zero, List.set_cons_succ, i64_w, i32_w]
                                                      rfl
                                                    refine pure_ (i := 11) (N := some 60) (v := ?_) (a' := ?_) #[true, true, true, false, true, false, false, true, true, true, true, true, false, false, false, false, false, false, false, false, false] rfl rfl (any_of HT_.out (by kernel_rfl)) (fun _ _ _ h => h) (Or.inl ⟨by rfl, ?_⟩) ?_ ?_
                                                    rotate_left
                                                    · intro w'
                                                      go_simp
                                                      with_reducible rfl
                                                    rotate_left
                                                    · simp only [Act.put, List.setIfInBounds_toArray, List.set_cons_zero, List.set_cons_succ, i64_w, i32_w]
                                                      rfl
                                                    refine pure_ (i := 12) (N := some 61) (v := ?_) (a' := ?_) #[true, true, true, false, true, false, false, true, true, true, true, true, true, false, false, false, false, false, false, false, false] rfl rfl (any_of HT_.out (by kernel_rfl)) (fun _ _ _ h => h) (Or.inl ⟨by rfl, ?_⟩) ?_ ?_
                                                    rotate_left
                                                    · intro w'
                                                      go_simp
                                                      with_reducible rfl
                                                    rotate_left
                                                    · simp only [Act.put, List.setIfInBounds_toArray, List.set_cons_zero, List.set_cons_succ, i64_w, i32_w]
                                                      rfl
                                                    refine pure_ (i := 14) (N := some 63) (v := ?_) (a' := ?_) #[true, true, true, false, true, false, false, true, true, true, true, true, true, false, true, false, false, false, false, false, false] rfl rfl (any_of HT_.out (by kernel_rfl)) (fun _ _ _ h => h) (Or.inl ⟨by rfl, ?_⟩) ?_ ?_
                                                    rotate_left
                                                    · intro w'
                                                      go_simp
                                                      with_reducible rfl
                                                    rotate_left
                                                    · simp only [Act.put, List.setIfInBounds_toArray, List.set_cons_zero, List.set_cons_succ, i64_w, i32_w]
                                                      rfl
                                                    refine take_ (i := 3) (N := some 52) (v := ?_) (a' := ?_) #[true, true, true, true, true, false, false, true, true, true, true, true, true, false, true, false, false, false, false, false, false] rfl rfl (take_ofW HT_.out HW_.out (by kernel_rfl)) (fun _ _ _ h => h) (Or.inl ⟨by rfl, ?_⟩) hHeld ?_ ?_
                                                    rotate_left
                                                    · rintro w' ⟨s0, s1, s2, s3, s4, s5, s6, s7, s8, s9⟩
                                                      go_simp
                                                      with_reducible rfl
                                                    rotate_left
                                                    · simp only [Act.put, List.setIfInBounds_toArray, List.set_cons_zero, List.set_cons_succ, i64_w, i32_w]
                                                      rfl
                                                    refine pure_ (i := 5) (N := some 54) (v := ?_) (a' := ?_) #[true, true, true, true, true, true, false, true, true, true, true, true, true, false, true, false, false, false, false, false, false] rfl rfl (any_of HT_.out (by kernel_rfl)) (fun _ _ _ h => h) (Or.inl ⟨by rfl, ?_⟩) ?_ ?_
                                                    rotate_left
                                                    · intro w'
                                                      go_simp
                                                      with_reducible rfl
                                                    rotate_left
                                                    · simp only [Act.put, List.setIfInBounds_toArray, List.set_cons_zero, List.set_cons_succ, i64_w, i32_w]
                                                      rfl
                                                    refine take_ (i := 6) (N := some 55) (v := ?_) (a' := ?_) #[true, true, true, true, true, true, true, true, true, true, true, true, true, false, true, false, false, false, false, false, false] rfl rfl (take_ofW HT_.out HW_.out (by kernel_rfl)) (fun _ _ _ h => h) (Or.inl ⟨by rfl, ?_⟩) hHeld ?_ ?_
                                                    rotate_left
                                                    · rintro w' ⟨s0, s1, s2, s3, s4, s5, s6, s7, s8, s9⟩
                                                      go_simp
                                                      with_reducible rfl
                                                    rotate_left
                                                    · simp only [Act.put, List.setIfInBounds_toArray, List.set_cons_zero, List.set_cons_succ, i64_w, i32_w]
                                                      rfl
                                                    refine take_ (i := 13) (N := some 62) (v := ?_) (a' := ?_) #[true, true, true, true, true, true, true, true, true, true, true, true, true, true, true, false, false, false, false, false, false] rfl rfl (take_ofW HT_.out HW_.out (by kernel_rfl)) (fun _ _ _ h => h) (Or.inl ⟨by rfl, ?_⟩) hHeld ?_ ?_
                                                    rotate_left
                                                    · rintro w' ⟨s0, s1, s2, s3, s4, s5, s6, s7, s8, s9⟩
                                                      go_simp
                                                      with_reducible rfl
                                                    rotate_left
                                                    · simp only [Act.put, List.setIfInBounds_toArray, List.set_cons_zero, List.set_cons_succ, i64_w, i32_w]
                                                      rfl
                                                    refine pure_ (i := 15) (N := some 64) (v := ?_) (a' := ?_) #[true, true, true, true, true, true, true, true, true, true, true, true, true, true, true, true, false, false, false, false, false] rfl rfl (any_of HT_.out (by kernel_rfl)) (fun _ _ _ h => h) (Or.inl ⟨by rfl, ?_⟩) ?_ ?_
                                                    rotate_left
                                                    · intro w'
                                                      go_simp
                                                      with_reducible rfl
                                                    rotate_left
                                                    · simp only [Act.put, List.setIfInBounds_toArray, List.set_cons_zero, List.set_cons_succ, i64_w, i32_w]
                                                      rfl
                                                    refine take_ (i := 16) (N := some 65) (v := ?_) (a' := ?_) #[true, true, true, true, true, true, true, true, true, true, true, true, true, true, true, true, true, false, false, false, false] rfl rfl (take_ofW HT_.out HW_.out (by kernel_rfl)) (fun _ _ _ h => h) (Or.inl ⟨by rfl, ?_⟩) hHeld ?_ ?_
                                                    rotate_left
                                                    · rintro w' ⟨s0, s1, s2, s3, s4, s5, s6, s7, s8, s9⟩
                                                      go_simp
                                                      with_reducible rfl
                                                    rotate_left
                                                    · simp only [Act.put, List.setIfInBounds_toArray, List.set_cons_zero, List.set_cons_succ, i64_w, i32_w]
                                                      rfl
                                                    refine join_ (σ := Nat × Nat) 2 #[true, true, true, true, true, true, true, true, true, true, true, true, true, true, true, true, true, true, true, false, false] (fun s_ => [(9, .pointer (some ⟨s_.1, 0, none⟩)), (10, .pointer (some ⟨s_.2, 0, none⟩))]) (fun s_ w' => (w'.cell? (ad185.add (x6_2).toNat) = some (.slice (some ad188) (rd_L4 x3_1 x6_2).length c187_0) ∧ w'.cell? (ad188.add ((x7_3).toNat * 4)) = some (.int .i64 ((rd_T54 (rd_L4 x3_1 x6_2) x7_3).f0.f0)) ∧ w'.cell? ⟨(ad188.add ((x7_3).toNat * 4)).block, (ad188.add ((x7_3).toNat * 4)).off + 1, none⟩ = some (.int .i64 ((rd_T54 (rd_L4 x3_1 x6_2) x7_3).f0.f1)) ∧ w'.cell? ⟨(ad188.add ((x7_3).toNat * 4)).block, (ad188.add ((x7_3).toNat * 4)).off + 2, none⟩ = some (.int .i64 ((rd_T54 (rd_L4 x3_1 x6_2) x7_3).f1)) ∧ w'.cell? ⟨(ad188.add ((x7_3).toNat * 4)).block, (ad188.add ((x7_3).toNat * 4)).off + 3, none⟩ = some (.string ((rd_T54 (rd_L4 x3_1 x6_2) x7_3).f2)) ∧ w'.cell? (ad185.add ((ji15)).toNat) = some (.slice (some ad190) (rd_L4 x3_1 (ji15)).length c189_0) ∧ w'.cell? (ad190.add ((x8_4).toNat * 4)) = some (.int .i64 ((rd_T54 (rd_L4 x3_1 (ji15)) x8_4).f0.f0)) ∧ w'.cell? ⟨(ad190.add ((x8_4).toNat * 4)).block, (ad190.add ((x8_4).toNat * 4)).off + 1, none⟩ = some (.int .i64 ((rd_T54 (rd_L4 x3_1 (ji15)) x8_4).f0.f1)) ∧ w'.cell? ⟨(ad190.add ((x8_4).toNat * 4)).block, (ad190.add ((x8_4).toNat * 4)).off + 2, none⟩ = some (.int .i64 ((rd_T54 (rd_L4 x3_1 (ji15)) x8_4).f1)) ∧ w'.cell? ⟨(ad190.add ((x8_4).toNat * 4)).block, (ad190.add ((x8_4).toNat * 4)).off + 3, none⟩ = some (.string ((rd_T54 (rd_L4 x3_1 (ji15)) x8_4).f2))) ∧ (Kd.V k54 54 w' w.heap.size (fun k_ => (w.heap.size ≤ k_) ∧ some k_ ≠ (.slice (some ad185) x3_1.length co14 : Value).ownBlock ∧ some k_ ≠ (u5 : Value).ownBlock ∧ k_ ≠ s_.1 ∧ k_ ≠ s_.2) (.slice A186_0 (rd_L4 x3_1 (ji15)).length c186_0) (rd_L4 x3_1 (ji15))) ∧ (Kd.V k54 54 w' w.heap.size (fun k_ => (w.heap.size ≤ k_) ∧ some k_ ≠ (.slice (some ad185) x3_1.length co14 : Value).ownBlock ∧ some k_ ≠ (u5 : Value).ownBlock ∧ k_ ≠ s_.1 ∧ k_ ≠ s_.2) (.slice (some ad188) (rd_L4 x3_1 x6_2).length c187_0) (rd_L4 x3_1 x6_2)) ∧ (Kd.V k54 54 w' w.heap.size (fun k_ => (w.heap.size ≤ k_) ∧ some k_ ≠ (.slice (some ad185) x3_1.length co14 : Value).ownBlock ∧ some k_ ≠ (u5 : Value).ownBlock ∧ k_ ≠ s_.1 ∧ k_ ≠ s_.2) (.slice (some ad190) (rd_L4 x3_1 (ji15)).length c189_0) (rd_L4 x3_1 (ji15))) ∧ (Kd.N (Kd.slice 54 k54) 50 w' w.heap.size (fun k_ => (w.heap.size ≤ k_) ∧ some k_ ≠ (u5 : Value).ownBlock ∧ k_ ≠ s_.1 ∧ k_ ≠ s_.2) (.slice (some ad185) x3_1.length co14) x3_1) ∧ (Kd.R k54 54 w' w.heap.size (fun k_ => (w.heap.size ≤ k_) ∧ k_ ≠ s_.1 ∧ k_ ≠ s_.2) u5 x5_4) ∧ (w'.heap[s_.1]? = some (.cells #[.int .i64 0, .int .i64 0, .int .i64 0, .string (⟨#[]⟩ : ByteArray)] 54 (0, 0))) ∧ (w'.heap[s_.2]? = some (.cells #[.int .i64 0, .int .i64 0, .int .i64 0, .string (⟨#[]⟩ : ByteArray)] 54 (0, 0))) ∧ (w.heap.size ≤ s_.1) ∧ (w.heap.size ≤ s_.1) ∧ (s_.2 ≠ s_.1) ∧ (s_.1 ≠ s_.2) ∧ (w.heap.size ≤ s_.2) ∧ (w.heap.size ≤ s_.2) ∧ (Below w.heap.size w w')) ?_ ?_
                                                    rotate_left
                                                    · intro hCont
                                                      refine two_ (i := 17) (j := 18) (Ni := some 9) (Nj := some 10) #[true, true, true, true, true, true, true, true, true, true, true, true, true, true, true, true, true, true, false, false, false] #[true, true, true, true, true, true, true, true, true, true, true, true, true, true, true, true, true, false, true, false, false] rfl rfl rfl rfl (two_of HT_.out (by kernel_rfl)) (by decide) (by decide) (fun K hK => ?_) (fun K hK => ?_)
                                                      · skip
                                                        refine box_step ?hg (N := 9) ?hd (cs := #[.int .i64 0, .int .i64 0, .int .i64 0, .string (⟨#[]⟩ : ByteArray)]) (t := 54) ?hr ?_; (case hd => rfl); (case hg => rfl); (case hr => first | (go_simp; done) | (go_simp; rfl))
                                                        intro gb191 hg w31 hbox hb
                                                        have HS0_ := (hb.cell (World.block_lt_of_cell? _ _ (hHeld.1))).trans (hHeld.1)
                                                        have HS1_ := (hb.cell (World.block_lt_of_cell? _ _ (hHeld.2.1))).trans (hHeld.2.1)
                                                        have HS2_ := (hb.cell (World.block_lt_of_cell? _ _ (hHeld.2.2.1))).trans (hHeld.2.2.1)
                                                        have HS3_ := (hb.cell (World.block_lt_of_cell? _ _ (hHeld.2.2.2.1))).trans (hHeld.2.2.2.1)
                                                        have HS4_ := (hb.cell (World.block_lt_of_cell? _ _ (hHeld.2.2.2.2.1))).trans (hHeld.2.2.2.2.1)
                                                        have HS5_ := (hb.cell (World.block_lt_of_cell? _ _ (hHeld.2.2.2.2.2.1))).trans (hHeld.2.2.2.2.2.1)
                                                        have HS6_ := (hb.cell (World.block_lt_of_cell? _ _ (hHeld.2.2.2.2.2.2.1))).trans (hHeld.2.2.2.2.2.2.1)
                                                        have HS7_ := (hb.cell (World.block_lt_of_cell? _ _ (hHeld.2.2.2.2.2.2.2.1))).trans (hHeld.2.2.2.2.2.2.2.1)
                                                        have HS8_ := (hb.cell (World.block_lt_of_cell? _ _ (hHeld.2.2.2.2.2.2.2.2.1))).trans (hHeld.2.2.2.2.2.2.2.2.1)
                                                        have HS9_ := (hb.cell (World.block_lt_of_cell? _ _ (hHeld.2.2.2.2.2.2.2.2.2))).trans (hHeld.2.2.2.2.2.2.2.2.2)
                                                        have n0_ := Aside0.mk (Kd.N_below (Kd.N_elderB (by (with_reducible repeat (first | apply Kd.N_alloc | apply Kd.N_drewN | apply Kd.N_drew)); exact HO_3.out) gb191 (Nat.le_of_eq hg.symm)) hb)
                                                        have n1_ := Aside0.mk (Kd.R_below (Kd.R_elderB (by (with_reducible repeat (first | apply Kd.R_alloc | apply Kd.R_drewN | apply Kd.R_drew)); exact HO_5.out) gb191 (Nat.le_of_eq hg.symm)) hb)
                                                        have n2_ := Aside0.mk (Kd.V_below (Kd.V_elderB (by (with_reducible repeat (first | apply Kd.V_alloc | apply Kd.V_drewN | apply Kd.V_drew)); exact HL186_0.out) gb191 (Nat.le_of_eq hg.symm)) hb)
                                                        have n3_ := Aside0.mk (Kd.V_below (Kd.V_elderB (by (with_reducible repeat (first | apply Kd.V_alloc | apply Kd.V_drewN | apply Kd.V_drew)); exact HL187_0.out) gb191 (Nat.le_of_eq hg.symm)) hb)
                                                        have n4_ := Aside0.mk (Kd.V_below (Kd.V_elderB (by (with_reducible repeat (first | apply Kd.V_alloc | apply Kd.V_drewN | apply Kd.V_drew)); exact HL189_0.out) gb191 (Nat.le_of_eq hg.symm)) hb)
                                                        have n5_ := Aside0.mk (Kd.C_below (by repeat (first | (with_reducible exact HR186_0.out) | (with_reducible refine Kd.C_alloc ?_ _) | (with_reducible refine Kd.C_drewN ?_ _) | (with_reducible refine Kd.C_drew ?_) | exact HR186_0.out)) hb)
                                                        have n6_ := Aside0.mk (Kd.C_below (by repeat (first | (with_reducible exact HR187_0.out) | (with_reducible refine Kd.C_alloc ?_ _) | (with_reducible refine Kd.C_drewN ?_ _) | (with_reducible refine Kd.C_drew ?_) | exact HR187_0.out)) hb)
                                                        have n7_ := Aside0.mk (Kd.C_below (by repeat (first | (with_reducible exact HR189_0.out) | (with_reducible refine Kd.C_alloc ?_ _) | (with_reducible refine Kd.C_drewN ?_ _) | (with_reducible refine Kd.C_drew ?_) | exact HR189_0.out)) hb)
                                                        have n8_ := Aside0.mk (below_step (by repeat (first | (with_reducible first | exact HB.out | apply below_alloc | apply pw_below_drewN | apply below_drew1) | exact HB.out)) hb)
                                                        have n9_ := Aside0.mk (hbox)
                                                        have n10_ := Aside0.mk ((by rw [hg]; exact (below_size (by repeat (first | (with_reducible first | exact HB.out | apply below_alloc | apply pw_below_drewN | apply below_drew1) | exact HB.out))) : w.heap.size ≤ gb191))
                                                        have n11_ := Aside0.mk ((by rw [hg]; exact (below_size (by repeat (first | (with_reducible first | exact HB.out | apply below_alloc | apply pw_below_drewN | apply below_drew1) | exact HB.out))) : w.heap.size ≤ gb191))
                                                        clear HO_3
                                                        clear HO_5
                                                        clear HL186_0
                                                        clear HL187_0
                                                        clear HL189_0
                                                        clear HR186_0
                                                        clear HR187_0
                                                        clear HR189_0
                                                        clear HB
                                                        have HO_3 := n0_
                                                        have HO_5 := n1_
                                                        have HL186_0 := n2_
                                                        have HL187_0 := n3_
                                                        have HL189_0 := n4_
                                                        have HR186_0 := n5_
                                                        have HR187_0 := n6_
                                                        have HR189_0 := n7_
                                                        have HB := n8_
                                                        have BK191 := n9_
                                                        have GW191 := n10_
                                                        have GE191 := n11_
                                                        clear n0_ n1_ n2_ n3_ n4_ n5_ n6_ n7_ n8_ n9_ n10_ n11_
                                                        clear hb hbox hg
                                                        refine hK.out _ _ ⟨HS0_, HS1_, HS2_, HS3_, HS4_, HS5_, HS6_, HS7_, HS8_, HS9_⟩ (fun hHeld => ?_)
                                                        clear hK K
                                                        refine norm_ (a' := ?_) ?_ ?_
                                                        rotate_left
                                                        · show Act.put _ (some 9) _ = _
                                                          simp only [Act.put, List.setIfInBounds_toArray, List.set_cons_zero, List.set_cons_succ, i64_w, i32_w]
                                                          rfl
                                                        refine one_ (i := 18) (N := some 10) #[true, true, true, true, true, true, true, true, true, true, true, true, true, true, true, true, true, true, true, false, false] rfl rfl (one_of HT_.out (by kernel_rfl)) (by decide) (fun K hK => ?_)
                                                        refine box_step ?hg (N := 10) ?hd (cs := #[.int .i64 0, .int .i64 0, .int .i64 0, .string (⟨#[]⟩ : ByteArray)]) (t := 54) ?hr ?_; (case hd => rfl); (case hg => rfl); (case hr => first | (go_simp; done) | (go_simp; rfl))
                                                        intro gb192 hg w32 hbox hb
                                                        have HS0_ := (hb.cell (World.block_lt_of_cell? _ _ (hHeld.1))).trans (hHeld.1)
                                                        have HS1_ := (hb.cell (World.block_lt_of_cell? _ _ (hHeld.2.1))).trans (hHeld.2.1)
                                                        have HS2_ := (hb.cell (World.block_lt_of_cell? _ _ (hHeld.2.2.1))).trans (hHeld.2.2.1)
                                                        have HS3_ := (hb.cell (World.block_lt_of_cell? _ _ (hHeld.2.2.2.1))).trans (hHeld.2.2.2.1)
                                                        have HS4_ := (hb.cell (World.block_lt_of_cell? _ _ (hHeld.2.2.2.2.1))).trans (hHeld.2.2.2.2.1)
                                                        have HS5_ := (hb.cell (World.block_lt_of_cell? _ _ (hHeld.2.2.2.2.2.1))).trans (hHeld.2.2.2.2.2.1)
                                                        have HS6_ := (hb.cell (World.block_lt_of_cell? _ _ (hHeld.2.2.2.2.2.2.1))).trans (hHeld.2.2.2.2.2.2.1)
                                                        have HS7_ := (hb.cell (World.block_lt_of_cell? _ _ (hHeld.2.2.2.2.2.2.2.1))).trans (hHeld.2.2.2.2.2.2.2.1)
                                                        have HS8_ := (hb.cell (World.block_lt_of_cell? _ _ (hHeld.2.2.2.2.2.2.2.2.1))).trans (hHeld.2.2.2.2.2.2.2.2.1)
                                                        have HS9_ := (hb.cell (World.block_lt_of_cell? _ _ (hHeld.2.2.2.2.2.2.2.2.2))).trans (hHeld.2.2.2.2.2.2.2.2.2)
                                                        have n0_ := Aside0.mk (Kd.N_below (Kd.N_elderB (by (with_reducible repeat (first | apply Kd.N_alloc | apply Kd.N_drewN | apply Kd.N_drew)); exact HO_3.out) gb192 (Nat.le_of_eq hg.symm)) hb)
                                                        have n1_ := Aside0.mk (Kd.R_below (Kd.R_elderB (by (with_reducible repeat (first | apply Kd.R_alloc | apply Kd.R_drewN | apply Kd.R_drew)); exact HO_5.out) gb192 (Nat.le_of_eq hg.symm)) hb)
                                                        have n2_ := Aside0.mk (Kd.V_below (Kd.V_elderB (by (with_reducible repeat (first | apply Kd.V_alloc | apply Kd.V_drewN | apply Kd.V_drew)); exact HL186_0.out) gb192 (Nat.le_of_eq hg.symm)) hb)
                                                        have n3_ := Aside0.mk (Kd.V_below (Kd.V_elderB (by (with_reducible repeat (first | apply Kd.V_alloc | apply Kd.V_drewN | apply Kd.V_drew)); exact HL187_0.out) gb192 (Nat.le_of_eq hg.symm)) hb)
                                                        have n4_ := Aside0.mk (Kd.V_below (Kd.V_elderB (by (with_reducible repeat (first | apply Kd.V_alloc | apply Kd.V_drewN | apply Kd.V_drew)); exact HL189_0.out) gb192 (Nat.le_of_eq hg.symm)) hb)
                                                        have n5_ := Aside0.mk (Kd.C_below (by repeat (first | (with_reducible exact HR186_0.out) | (with_reducible refine Kd.C_alloc ?_ _) | (with_reducible refine Kd.C_drewN ?_ _) | (with_reducible refine Kd.C_drew ?_) | exact HR186_0.out)) hb)
                                                        have n6_ := Aside0.mk (Kd.C_below (by repeat (first | (with_reducible exact HR187_0.out) | (with_reducible refine Kd.C_alloc ?_ _) | (with_reducible refine Kd.C_drewN ?_ _) | (with_reducible refine Kd.C_drew ?_) | exact HR187_0.out)) hb)
                                                        have n7_ := Aside0.mk (Kd.C_below (by repeat (first | (with_reducible exact HR189_0.out) | (with_reducible refine Kd.C_alloc ?_ _) | (with_reducible refine Kd.C_drewN ?_ _) | (with_reducible refine Kd.C_drew ?_) | exact HR189_0.out)) hb)
                                                        have n8_ := Aside0.mk (blk_below (g := gb191) (o := .cells #[.int .i64 0, .int .i64 0, .int .i64 0, .string (⟨#[]⟩ : ByteArray)] 54 (0, 0)) (by (with_reducible repeat (first | refine blk_drewN ?_ _ | refine blk_drew ?_ | refine blk_alloc ?_ _)); exact BK191.out) hb)
                                                        have n9_ := Aside0.mk (below_step (by repeat (first | (with_reducible first | exact HB.out | apply below_alloc | apply pw_below_drewN | apply below_drew1 | refine below_set ?_ GE191.out) | exact HB.out)) hb)
                                                        have n10_ := Aside0.mk (hbox)
                                                        have n11_ := Aside0.mk ((by rw [hg]; exact (below_size (by repeat (first | (with_reducible first | exact HB.out | apply below_alloc | apply pw_below_drewN | apply below_drew1 | refine below_set ?_ GE191.out) | exact HB.out))) : w.heap.size ≤ gb192))
                                                        have n12_ := Aside0.mk ((by rw [hg]; exact (below_size (by repeat (first | (with_reducible first | exact HB.out | apply below_alloc | apply pw_below_drewN | apply below_drew1 | refine below_set ?_ GE191.out) | exact HB.out))) : w.heap.size ≤ gb192))
                                                        have n13_ := Aside0.mk ((by rw [hg]; exact Nat.ne_of_lt (blk_lt (g := gb191) (o := .cells #[.int .i64 0, .int .i64 0, .int .i64 0, .string (⟨#[]⟩ : ByteArray)] 54 (0, 0)) (by (with_reducible repeat (first | refine blk_drewN ?_ _ | refine blk_drew ?_ | refine blk_alloc ?_ _)); exact BK191.out)) : gb191 ≠ gb192))
                                                        have n14_ := Aside0.mk ((by rw [hg]; exact Nat.ne_of_gt (blk_lt (g := gb191) (o := .cells #[.int .i64 0, .int .i64 0, .int .i64 0, .string (⟨#[]⟩ : ByteArray)] 54 (0, 0)) (by (with_reducible repeat (first | refine blk_drewN ?_ _ | refine blk_drew ?_ | refine blk_alloc ?_ _)); exact BK191.out)) : gb192 ≠ gb191))
                                                        clear HO_3
                                                        clear HO_5
                                                        clear HL186_0
                                                        clear HL187_0
                                                        clear HL189_0
                                                        clear HR186_0
                                                        clear HR187_0
                                                        clear HR189_0
                                                        clear BK191
                                                        clear HB
                                                        have HO_3 := n0_
                                                        have HO_5 := n1_
                                                        have HL186_0 := n2_
                                                        have HL187_0 := n3_
                                                        have HL189_0 := n4_
                                                        have HR186_0 := n5_
                                                        have HR187_0 := n6_
                                                        have HR189_0 := n7_
                                                        have BK191 := n8_
                                                        have HB := n9_
                                                        have BK192 := n10_
                                                        have GW192 := n11_
                                                        have GE192 := n12_
                                                        have NB191_192 := n13_
                                                        have NB192_191 := n14_
                                                        clear n0_ n1_ n2_ n3_ n4_ n5_ n6_ n7_ n8_ n9_ n10_ n11_ n12_ n13_ n14_
                                                        clear hb hbox hg
                                                        refine hK.out _ _ ⟨HS0_, HS1_, HS2_, HS3_, HS4_, HS5_, HS6_, HS7_, HS8_, HS9_⟩ (fun hHeld => ?_)
                                                        clear hK K
                                                        refine norm_ (a' := ?_) ?_ ?_
                                                        rotate_left
                                                        · show Act.put _ (some 10) _ = _
                                                          simp only [Act.put, List.setIfInBounds_toArray, List.set_cons_zero, List.set_cons_succ, i64_w, i32_w]
                                                          rfl
                                                        exact norm_ (by simp only [putAll, Act.put, List.setIfInBounds_toArray, List.set_cons_zero, List.set_cons_succ]) (hCont (gb191, gb192) _ ⟨hHeld, (by (with_reducible repeat (first | apply Kd.V_alloc | apply Kd.V_drewN | apply Kd.V_drew)); exact Kd.V_mono HL186_0.out (fun _ hk => ⟨hk.1.1.1.1, ⟨hk.1.1.2, ⟨hk.1.1.1.2, ⟨hk.1.2, hk.2⟩⟩⟩⟩)), (by (with_reducible repeat (first | apply Kd.V_alloc | apply Kd.V_drewN | apply Kd.V_drew)); exact Kd.V_mono HL187_0.out (fun _ hk => ⟨hk.1.1.1.1, ⟨hk.1.1.2, ⟨hk.1.1.1.2, ⟨hk.1.2, hk.2⟩⟩⟩⟩)), (by (with_reducible repeat (first | apply Kd.V_alloc | apply Kd.V_drewN | apply Kd.V_drew)); exact Kd.V_mono HL189_0.out (fun _ hk => ⟨hk.1.1.1.1, ⟨hk.1.1.2, ⟨hk.1.1.1.2, ⟨hk.1.2, hk.2⟩⟩⟩⟩)), (by (with_reducible repeat (first | apply Kd.N_alloc | apply Kd.N_drewN | apply Kd.N_drew)); exact Kd.N_mono HO_3.out (fun _ hk => ⟨hk.1.1.1, ⟨hk.1.1.2, ⟨hk.1.2, hk.2⟩⟩⟩)), (by (with_reducible repeat (first | apply Kd.R_alloc | apply Kd.R_drewN | apply Kd.R_drew)); exact Kd.R_mono HO_5.out (fun _ hk => ⟨hk.1.1, ⟨hk.1.2, hk.2⟩⟩)), (by (with_reducible repeat (first | refine blk_drewN ?_ _ | refine blk_drew ?_ | refine blk_alloc ?_ _)); exact BK191.out), (by (with_reducible repeat (first | refine blk_drewN ?_ _ | refine blk_drew ?_ | refine blk_alloc ?_ _)); exact BK192.out), GW191.out, GE191.out, NB192_191.out, NB191_192.out, GW192.out, GE192.out, (by repeat (first | (with_reducible first | exact HB.out | apply below_alloc | apply pw_below_drewN | apply below_drew1 | refine below_set ?_ GE191.out | refine below_set ?_ GE192.out) | exact HB.out))⟩)
                                                      · skip
                                                        refine box_step ?hg (N := 10) ?hd (cs := #[.int .i64 0, .int .i64 0, .int .i64 0, .string (⟨#[]⟩ : ByteArray)]) (t := 54) ?hr ?_; (case hd => rfl); (case hg => rfl); (case hr => first | (go_simp; done) | (go_simp; rfl))
                                                        intro gb192 hg w31 hbox hb
                                                        have HS0_ := (hb.cell (World.block_lt_of_cell? _ _ (hHeld.1))).trans (hHeld.1)
                                                        have HS1_ := (hb.cell (World.block_lt_of_cell? _ _ (hHeld.2.1))).trans (hHeld.2.1)
                                                        have HS2_ := (hb.cell (World.block_lt_of_cell? _ _ (hHeld.2.2.1))).trans (hHeld.2.2.1)
                                                        have HS3_ := (hb.cell (World.block_lt_of_cell? _ _ (hHeld.2.2.2.1))).trans (hHeld.2.2.2.1)
                                                        have HS4_ := (hb.cell (World.block_lt_of_cell? _ _ (hHeld.2.2.2.2.1))).trans (hHeld.2.2.2.2.1)
                                                        have HS5_ := (hb.cell (World.block_lt_of_cell? _ _ (hHeld.2.2.2.2.2.1))).trans (hHeld.2.2.2.2.2.1)
                                                        have HS6_ := (hb.cell (World.block_lt_of_cell? _ _ (hHeld.2.2.2.2.2.2.1))).trans (hHeld.2.2.2.2.2.2.1)
                                                        have HS7_ := (hb.cell (World.block_lt_of_cell? _ _ (hHeld.2.2.2.2.2.2.2.1))).trans (hHeld.2.2.2.2.2.2.2.1)
                                                        have HS8_ := (hb.cell (World.block_lt_of_cell? _ _ (hHeld.2.2.2.2.2.2.2.2.1))).trans (hHeld.2.2.2.2.2.2.2.2.1)
                                                        have HS9_ := (hb.cell (World.block_lt_of_cell? _ _ (hHeld.2.2.2.2.2.2.2.2.2))).trans (hHeld.2.2.2.2.2.2.2.2.2)
                                                        have n0_ := Aside0.mk (Kd.N_below (Kd.N_elderB (by (with_reducible repeat (first | apply Kd.N_alloc | apply Kd.N_drewN | apply Kd.N_drew)); exact HO_3.out) gb192 (Nat.le_of_eq hg.symm)) hb)
                                                        have n1_ := Aside0.mk (Kd.R_below (Kd.R_elderB (by (with_reducible repeat (first | apply Kd.R_alloc | apply Kd.R_drewN | apply Kd.R_drew)); exact HO_5.out) gb192 (Nat.le_of_eq hg.symm)) hb)
                                                        have n2_ := Aside0.mk (Kd.V_below (Kd.V_elderB (by (with_reducible repeat (first | apply Kd.V_alloc | apply Kd.V_drewN | apply Kd.V_drew)); exact HL186_0.out) gb192 (Nat.le_of_eq hg.symm)) hb)
                                                        have n3_ := Aside0.mk (Kd.V_below (Kd.V_elderB (by (with_reducible repeat (first | apply Kd.V_alloc | apply Kd.V_drewN | apply Kd.V_drew)); exact HL187_0.out) gb192 (Nat.le_of_eq hg.symm)) hb)
                                                        have n4_ := Aside0.mk (Kd.V_below (Kd.V_elderB (by (with_reducible repeat (first | apply Kd.V_alloc | apply Kd.V_drewN | apply Kd.V_drew)); exact HL189_0.out) gb192 (Nat.le_of_eq hg.symm)) hb)
                                                        have n5_ := Aside0.mk (Kd.C_below (by repeat (first | (with_reducible exact HR186_0.out) | (with_reducible refine Kd.C_alloc ?_ _) | (with_reducible refine Kd.C_drewN ?_ _) | (with_reducible refine Kd.C_drew ?_) | exact HR186_0.out)) hb)
                                                        have n6_ := Aside0.mk (Kd.C_below (by repeat (first | (with_reducible exact HR187_0.out) | (with_reducible refine Kd.C_alloc ?_ _) | (with_reducible refine Kd.C_drewN ?_ _) | (with_reducible refine Kd.C_drew ?_) | exact HR187_0.out)) hb)
                                                        have n7_ := Aside0.mk (Kd.C_below (by repeat (first | (with_reducible exact HR189_0.out) | (with_reducible refine Kd.C_alloc ?_ _) | (with_reducible refine Kd.C_drewN ?_ _) | (with_reducible refine Kd.C_drew ?_) | exact HR189_0.out)) hb)
                                                        have n8_ := Aside0.mk (below_step (by repeat (first | (with_reducible first | exact HB.out | apply below_alloc | apply pw_below_drewN | apply below_drew1) | exact HB.out)) hb)
                                                        have n9_ := Aside0.mk (hbox)
                                                        have n10_ := Aside0.mk ((by rw [hg]; exact (below_size (by repeat (first | (with_reducible first | exact HB.out | apply below_alloc | apply pw_below_drewN | apply below_drew1) | exact HB.out))) : w.heap.size ≤ gb192))
                                                        have n11_ := Aside0.mk ((by rw [hg]; exact (below_size (by repeat (first | (with_reducible first | exact HB.out | apply below_alloc | apply pw_below_drewN | apply below_drew1) | exact HB.out))) : w.heap.size ≤ gb192))
                                                        clear HO_3
                                                        clear HO_5
                                                        clear HL186_0
                                                        clear HL187_0
                                                        clear HL189_0
                                                        clear HR186_0
                                                        clear HR187_0
                                                        clear HR189_0
                                                        clear HB
                                                        have HO_3 := n0_
                                                        have HO_5 := n1_
                                                        have HL186_0 := n2_
                                                        have HL187_0 := n3_
                                                        have HL189_0 := n4_
                                                        have HR186_0 := n5_
                                                        have HR187_0 := n6_
                                                        have HR189_0 := n7_
                                                        have HB := n8_
                                                        have BK192 := n9_
                                                        have GW192 := n10_
                                                        have GE192 := n11_
                                                        clear n0_ n1_ n2_ n3_ n4_ n5_ n6_ n7_ n8_ n9_ n10_ n11_
                                                        clear hb hbox hg
                                                        refine hK.out _ _ ⟨HS0_, HS1_, HS2_, HS3_, HS4_, HS5_, HS6_, HS7_, HS8_, HS9_⟩ (fun hHeld => ?_)
                                                        clear hK K
                                                        refine norm_ (a' := ?_) ?_ ?_
                                                        rotate_left
                                                        · show Act.put _ (some 10) _ = _
                                                          simp only [Act.put, List.setIfInBounds_toArray, List.set_cons_zero, List.set_cons_succ, i64_w, i32_w]
                                                          rfl
                                                        refine one_ (i := 17) (N := some 9) #[true, true, true, true, true, true, true, true, true, true, true, true, true, true, true, true, true, true, true, false, false] rfl rfl (one_of HT_.out (by kernel_rfl)) (by decide) (fun K hK => ?_)
                                                        refine box_step ?hg (N := 9) ?hd (cs := #[.int .i64 0, .int .i64 0, .int .i64 0, .string (⟨#[]⟩ : ByteArray)]) (t := 54) ?hr ?_; (case hd => rfl); (case hg => rfl); (case hr => first | (go_simp; done) | (go_simp; rfl))
                                                        intro gb191 hg w32 hbox hb
                                                        have HS0_ := (hb.cell (World.block_lt_of_cell? _ _ (hHeld.1))).trans (hHeld.1)
                                                        have HS1_ := (hb.cell (World.block_lt_of_cell? _ _ (hHeld.2.1))).trans (hHeld.2.1)
                                                        have HS2_ := (hb.cell (World.block_lt_of_cell? _ _ (hHeld.2.2.1))).trans (hHeld.2.2.1)
                                                        have HS3_ := (hb.cell (World.block_lt_of_cell? _ _ (hHeld.2.2.2.1))).trans (hHeld.2.2.2.1)
                                                        have HS4_ := (hb.cell (World.block_lt_of_cell? _ _ (hHeld.2.2.2.2.1))).trans (hHeld.2.2.2.2.1)
                                                        have HS5_ := (hb.cell (World.block_lt_of_cell? _ _ (hHeld.2.2.2.2.2.1))).trans (hHeld.2.2.2.2.2.1)
                                                        have HS6_ := (hb.cell (World.block_lt_of_cell? _ _ (hHeld.2.2.2.2.2.2.1))).trans (hHeld.2.2.2.2.2.2.1)
                                                        have HS7_ := (hb.cell (World.block_lt_of_cell? _ _ (hHeld.2.2.2.2.2.2.2.1))).trans (hHeld.2.2.2.2.2.2.2.1)
                                                        have HS8_ := (hb.cell (World.block_lt_of_cell? _ _ (hHeld.2.2.2.2.2.2.2.2.1))).trans (hHeld.2.2.2.2.2.2.2.2.1)
                                                        have HS9_ := (hb.cell (World.block_lt_of_cell? _ _ (hHeld.2.2.2.2.2.2.2.2.2))).trans (hHeld.2.2.2.2.2.2.2.2.2)
                                                        have n0_ := Aside0.mk (Kd.N_below (Kd.N_elderB (by (with_reducible repeat (first | apply Kd.N_alloc | apply Kd.N_drewN | apply Kd.N_drew)); exact HO_3.out) gb191 (Nat.le_of_eq hg.symm)) hb)
                                                        have n1_ := Aside0.mk (Kd.R_below (Kd.R_elderB (by (with_reducible repeat (first | apply Kd.R_alloc | apply Kd.R_drewN | apply Kd.R_drew)); exact HO_5.out) gb191 (Nat.le_of_eq hg.symm)) hb)
                                                        have n2_ := Aside0.mk (Kd.V_below (Kd.V_elderB (by (with_reducible repeat (first | apply Kd.V_alloc | apply Kd.V_drewN | apply Kd.V_drew)); exact HL186_0.out) gb191 (Nat.le_of_eq hg.symm)) hb)
                                                        have n3_ := Aside0.mk (Kd.V_below (Kd.V_elderB (by (with_reducible repeat (first | apply Kd.V_alloc | apply Kd.V_drewN | apply Kd.V_drew)); exact HL187_0.out) gb191 (Nat.le_of_eq hg.symm)) hb)
                                                        have n4_ := Aside0.mk (Kd.V_below (Kd.V_elderB (by (with_reducible repeat (first | apply Kd.V_alloc | apply Kd.V_drewN | apply Kd.V_drew)); exact HL189_0.out) gb191 (Nat.le_of_eq hg.symm)) hb)
                                                        have n5_ := Aside0.mk (Kd.C_below (by repeat (first | (with_reducible exact HR186_0.out) | (with_reducible refine Kd.C_alloc ?_ _) | (with_reducible refine Kd.C_drewN ?_ _) | (with_reducible refine Kd.C_drew ?_) | exact HR186_0.out)) hb)
                                                        have n6_ := Aside0.mk (Kd.C_below (by repeat (first | (with_reducible exact HR187_0.out) | (with_reducible refine Kd.C_alloc ?_ _) | (with_reducible refine Kd.C_drewN ?_ _) | (with_reducible refine Kd.C_drew ?_) | exact HR187_0.out)) hb)
                                                        have n7_ := Aside0.mk (Kd.C_below (by repeat (first | (with_reducible exact HR189_0.out) | (with_reducible refine Kd.C_alloc ?_ _) | (with_reducible refine Kd.C_drewN ?_ _) | (with_reducible refine Kd.C_drew ?_) | exact HR189_0.out)) hb)
                                                        have n8_ := Aside0.mk (blk_below (g := gb192) (o := .cells #[.int .i64 0, .int .i64 0, .int .i64 0, .string (⟨#[]⟩ : ByteArray)] 54 (0, 0)) (by (with_reducible repeat (first | refine blk_drewN ?_ _ | refine blk_drew ?_ | refine blk_alloc ?_ _)); exact BK192.out) hb)
                                                        have n9_ := Aside0.mk (below_step (by repeat (first | (with_reducible first | exact HB.out | apply below_alloc | apply pw_below_drewN | apply below_drew1 | refine below_set ?_ GE192.out) | exact HB.out)) hb)
                                                        have n10_ := Aside0.mk (hbox)
                                                        have n11_ := Aside0.mk ((by rw [hg]; exact (below_size (by repeat (first | (with_reducible first | exact HB.out | apply below_alloc | apply pw_below_drewN | apply below_drew1 | refine below_set ?_ GE192.out) | exact HB.out))) : w.heap.size ≤ gb191))
                                                        have n12_ := Aside0.mk ((by rw [hg]; exact (below_size (by repeat (first | (with_reducible first | exact HB.out | apply below_alloc | apply pw_below_drewN | apply below_drew1 | refine below_set ?_ GE192.out) | exact HB.out))) : w.heap.size ≤ gb191))
                                                        have n13_ := Aside0.mk ((by rw [hg]; exact Nat.ne_of_lt (blk_lt (g := gb192) (o := .cells #[.int .i64 0, .int .i64 0, .int .i64 0, .string (⟨#[]⟩ : ByteArray)] 54 (0, 0)) (by (with_reducible repeat (first | refine blk_drewN ?_ _ | refine blk_drew ?_ | refine blk_alloc ?_ _)); exact BK192.out)) : gb192 ≠ gb191))
                                                        have n14_ := Aside0.mk ((by rw [hg]; exact Nat.ne_of_gt (blk_lt (g := gb192) (o := .cells #[.int .i64 0, .int .i64 0, .int .i64 0, .string (⟨#[]⟩ : ByteArray)] 54 (0, 0)) (by (with_reducible repeat (first | refine blk_drewN ?_ _ | refine blk_drew ?_ | refine blk_alloc ?_ _)); exact BK192.out)) : gb191 ≠ gb192))
                                                        clear HO_3
                                                        clear HO_5
                                                        clear HL186_0
                                                        clear HL187_0
                                                        clear HL189_0
                                                        clear HR186_0
                                                        clear HR187_0
                                                        clear HR189_0
                                                        clear BK192
                                                        clear HB
                                                        have HO_3 := n0_
                                                        have HO_5 := n1_
                                                        have HL186_0 := n2_
                                                        have HL187_0 := n3_
                                                        have HL189_0 := n4_
                                                        have HR186_0 := n5_
                                                        have HR187_0 := n6_
                                                        have HR189_0 := n7_
                                                        have BK192 := n8_
                                                        have HB := n9_
                                                        have BK191 := n10_
                                                        have GW191 := n11_
                                                        have GE191 := n12_
                                                        have NB192_191 := n13_
                                                        have NB191_192 := n14_
                                                        clear n0_ n1_ n2_ n3_ n4_ n5_ n6_ n7_ n8_ n9_ n10_ n11_ n12_ n13_ n14_
                                                        clear hb hbox hg
                                                        refine hK.out _ _ ⟨HS0_, HS1_, HS2_, HS3_, HS4_, HS5_, HS6_, HS7_, HS8_, HS9_⟩ (fun hHeld => ?_)
                                                        clear hK K
                                                        refine norm_ (a' := ?_) ?_ ?_
                                                        rotate_left
                                                        · show Act.put _ (some 9) _ = _
                                                          simp only [Act.put, List.setIfInBounds_toArray, List.set_cons_zero, List.set_cons_succ, i64_w, i32_w]
                                                          rfl
                                                        exact norm_ (by simp only [putAll, Act.put, List.setIfInBounds_toArray, List.set_cons_zero, List.set_cons_succ]) (hCont (gb191, gb192) _ ⟨hHeld, (by (with_reducible repeat (first | apply Kd.V_alloc | apply Kd.V_drewN | apply Kd.V_drew)); exact Kd.V_mono HL186_0.out (fun _ hk => ⟨hk.1.1.1.1, ⟨hk.1.1.2, ⟨hk.1.1.1.2, ⟨hk.2, hk.1.2⟩⟩⟩⟩)), (by (with_reducible repeat (first | apply Kd.V_alloc | apply Kd.V_drewN | apply Kd.V_drew)); exact Kd.V_mono HL187_0.out (fun _ hk => ⟨hk.1.1.1.1, ⟨hk.1.1.2, ⟨hk.1.1.1.2, ⟨hk.2, hk.1.2⟩⟩⟩⟩)), (by (with_reducible repeat (first | apply Kd.V_alloc | apply Kd.V_drewN | apply Kd.V_drew)); exact Kd.V_mono HL189_0.out (fun _ hk => ⟨hk.1.1.1.1, ⟨hk.1.1.2, ⟨hk.1.1.1.2, ⟨hk.2, hk.1.2⟩⟩⟩⟩)), (by (with_reducible repeat (first | apply Kd.N_alloc | apply Kd.N_drewN | apply Kd.N_drew)); exact Kd.N_mono HO_3.out (fun _ hk => ⟨hk.1.1.1, ⟨hk.1.1.2, ⟨hk.2, hk.1.2⟩⟩⟩)), (by (with_reducible repeat (first | apply Kd.R_alloc | apply Kd.R_drewN | apply Kd.R_drew)); exact Kd.R_mono HO_5.out (fun _ hk => ⟨hk.1.1, ⟨hk.2, hk.1.2⟩⟩)), (by (with_reducible repeat (first | refine blk_drewN ?_ _ | refine blk_drew ?_ | refine blk_alloc ?_ _)); exact BK191.out), (by (with_reducible repeat (first | refine blk_drewN ?_ _ | refine blk_drew ?_ | refine blk_alloc ?_ _)); exact BK192.out), GW191.out, GE191.out, NB192_191.out, NB191_192.out, GW192.out, GE192.out, (by repeat (first | (with_reducible first | exact HB.out | apply below_alloc | apply pw_below_drewN | apply below_drew1 | refine below_set ?_ GE192.out | refine below_set ?_ GE191.out) | exact HB.out))⟩)
                                                    rintro ⟨gb191, gb192⟩ w33 ⟨hS_, h0_, h1_, h2_, h3_, h4_, h5_, h6_, h7_, h8_, h9_, h10_, h11_, h12_, h13_⟩
                                                    have n0_ : Aside0 (Kd.V k54 54 w33 w.heap.size (fun k_ => (w.heap.size ≤ k_) ∧ some k_ ≠ (.slice (some ad185) x3_1.length co14 : Value).ownBlock ∧ some k_ ≠ (u5 : Value).ownBlock ∧ k_ ≠ gb191 ∧ k_ ≠ gb192) (.slice A186_0 (rd_L4 x3_1 (ji15)).length c186_0) (rd_L4 x3_1 (ji15))) := ⟨h0_⟩
                                                    have n1_ : Aside0 (Kd.V k54 54 w33 w.heap.size (fun k_ => (w.heap.size ≤ k_) ∧ some k_ ≠ (.slice (some ad185) x3_1.length co14 : Value).ownBlock ∧ some k_ ≠ (u5 : Value).ownBlock ∧ k_ ≠ gb191 ∧ k_ ≠ gb192) (.slice (some ad188) (rd_L4 x3_1 x6_2).length c187_0) (rd_L4 x3_1 x6_2)) := ⟨h1_⟩
                                                    have n2_ : Aside0 (Kd.V k54 54 w33 w.heap.size (fun k_ => (w.heap.size ≤ k_) ∧ some k_ ≠ (.slice (some ad185) x3_1.length co14 : Value).ownBlock ∧ some k_ ≠ (u5 : Value).ownBlock ∧ k_ ≠ gb191 ∧ k_ ≠ gb192) (.slice (some ad190) (rd_L4 x3_1 (ji15)).length c189_0) (rd_L4 x3_1 (ji15))) := ⟨h2_⟩
                                                    have n3_ : Aside0 (Kd.N (Kd.slice 54 k54) 50 w33 w.heap.size (fun k_ => (w.heap.size ≤ k_) ∧ some k_ ≠ (u5 : Value).ownBlock ∧ k_ ≠ gb191 ∧ k_ ≠ gb192) (.slice (some ad185) x3_1.length co14) x3_1) := ⟨h3_⟩
                                                    have n4_ : Aside0 (Kd.R k54 54 w33 w.heap.size (fun k_ => (w.heap.size ≤ k_) ∧ k_ ≠ gb191 ∧ k_ ≠ gb192) u5 x5_4) := ⟨h4_⟩
                                                    have n5_ : Aside0 (w33.heap[gb191]? = some (.cells #[.int .i64 0, .int .i64 0, .int .i64 0, .string (⟨#[]⟩ : ByteArray)] 54 (0, 0))) := ⟨h5_⟩
                                                    have n6_ : Aside0 (w33.heap[gb192]? = some (.cells #[.int .i64 0, .int .i64 0, .int .i64 0, .string (⟨#[]⟩ : ByteArray)] 54 (0, 0))) := ⟨h6_⟩
                                                    have n7_ : Aside0 (w.heap.size ≤ gb191) := ⟨h7_⟩
                                                    have n8_ : Aside0 (w.heap.size ≤ gb191) := ⟨h8_⟩
                                                    have n9_ : Aside0 (gb192 ≠ gb191) := ⟨h9_⟩
                                                    have n10_ : Aside0 (gb191 ≠ gb192) := ⟨h10_⟩
                                                    have n11_ : Aside0 (w.heap.size ≤ gb192) := ⟨h11_⟩
                                                    have n12_ : Aside0 (w.heap.size ≤ gb192) := ⟨h12_⟩
                                                    have n13_ : Aside0 (Below w.heap.size w w33) := ⟨h13_⟩
                                                    clear HO_3
                                                    clear HO_5
                                                    clear HL186_0
                                                    clear HR186_0
                                                    clear HB
                                                    clear h0_ h1_ h2_ h3_ h4_ h5_ h6_ h7_ h8_ h9_ h10_ h11_ h12_ h13_
                                                    have HL186_0 := n0_
                                                    have HL187_0 := n1_
                                                    have HL189_0 := n2_
                                                    have HO_3 := n3_
                                                    have HO_5 := n4_
                                                    have BK191 := n5_
                                                    have BK192 := n6_
                                                    have GW191 := n7_
                                                    have GE191 := n8_
                                                    have NB192_191 := n9_
                                                    have NB191_192 := n10_
                                                    have GW192 := n11_
                                                    have GE192 := n12_
                                                    have HB := n13_
                                                    clear n0_ n1_ n2_ n3_ n4_ n5_ n6_ n7_ n8_ n9_ n10_ n11_ n12_ n13_
                                                    have hHeld : w33.cell? (ad185.add (x6_2).toNat) = some (.slice (some ad188) (rd_L4 x3_1 x6_2).length c187_0) ∧ w33.cell? (ad188.add ((x7_3).toNat * 4)) = some (.int .i64 ((rd_T54 (rd_L4 x3_1 x6_2) x7_3).f0.f0)) ∧ w33.cell? ⟨(ad188.add ((x7_3).toNat * 4)).block, (ad188.add ((x7_3).toNat * 4)).off + 1, none⟩ = some (.int .i64 ((rd_T54 (rd_L4 x3_1 x6_2) x7_3).f0.f1)) ∧ w33.cell? ⟨(ad188.add ((x7_3).toNat * 4)).block, (ad188.add ((x7_3).toNat * 4)).off + 2, none⟩ = some (.int .i64 ((rd_T54 (rd_L4 x3_1 x6_2) x7_3).f1)) ∧ w33.cell? ⟨(ad188.add ((x7_3).toNat * 4)).block, (ad188.add ((x7_3).toNat * 4)).off + 3, none⟩ = some (.string ((rd_T54 (rd_L4 x3_1 x6_2) x7_3).f2)) ∧ w33.cell? (ad185.add ((ji15)).toNat) = some (.slice (some ad190) (rd_L4 x3_1 (ji15)).length c189_0) ∧ w33.cell? (ad190.add ((x8_4).toNat * 4)) = some (.int .i64 ((rd_T54 (rd_L4 x3_1 (ji15)) x8_4).f0.f0)) ∧ w33.cell? ⟨(ad190.add ((x8_4).toNat * 4)).block, (ad190.add ((x8_4).toNat * 4)).off + 1, none⟩ = some (.int .i64 ((rd_T54 (rd_L4 x3_1 (ji15)) x8_4).f0.f1)) ∧ w33.cell? ⟨(ad190.add ((x8_4).toNat * 4)).block, (ad190.add ((x8_4).toNat * 4)).off + 2, none⟩ = some (.int .i64 ((rd_T54 (rd_L4 x3_1 (ji15)) x8_4).f1)) ∧ w33.cell? ⟨(ad190.add ((x8_4).toNat * 4)).block, (ad190.add ((x8_4).toNat * 4)).off + 3, none⟩ = some (.string ((rd_T54 (rd_L4 x3_1 (ji15)) x8_4).f2)) := hS_
                                                    refine norm_ (a' := ?_) ?_ ?_
                                                    rotate_left
                                                    · simp only [putAll, Act.put, List.setIfInBounds_toArray, List.set_cons_zero, List.set_cons_succ]
                                                      rfl
                                                    refine one_ (i := 19) (N := none) #[true, true, true, true, true, true, true, true, true, true, true, true, true, true, true, true, true, true, true, true, false] rfl rfl (one_of HT_.out (by kernel_rfl)) (by decide) (fun K hK => ?_)
                                                    have hs34 : w33.cell? ⟨gb191, 0, none⟩ = some (.int .i64 0) := (blk_cell BK191.out 0).trans rfl
                                                    have hfs34 := blk_frozen BK191.out 0
                                                    have hns34_1 := NB192_191.out
                                                    have hms34_1 := NB191_192.out
                                                    have hs35 : w33.cell? ⟨gb191, 1, none⟩ = some (.int .i64 0) := (blk_cell BK191.out 1).trans rfl
                                                    have hfs35 := blk_frozen BK191.out 1
                                                    have hns35_1 := NB192_191.out
                                                    have hms35_1 := NB191_192.out
                                                    have hs36 : w33.cell? ⟨gb191, 2, none⟩ = some (.int .i64 0) := (blk_cell BK191.out 2).trans rfl
                                                    have hfs36 := blk_frozen BK191.out 2
                                                    have hns36_1 := NB192_191.out
                                                    have hms36_1 := NB191_192.out
                                                    have hs37 : w33.cell? ⟨gb191, 3, none⟩ = some (.string (⟨#[]⟩ : ByteArray)) := (blk_cell BK191.out 3).trans rfl
                                                    have hfs37 := blk_frozen BK191.out 3
                                                    have hns37_1 := NB192_191.out
                                                    have hms37_1 := NB191_192.out
                                                    refine skip_ (w1 := ?_) (by rfl) rfl ?_ ?_
                                                    rotate_left
                                                    · go_simp
                                                      rfl
                                                    refine hK.out _ _ ?_ (fun hHeld => ?_)
                                                    refine ⟨?_, ?_, ?_, ?_, ?_, ?_, ?_, ?_, ?_, ?_⟩
                                                    ·have e_ := Kd.own_blk (Kd.N_away HO_3.out (fun _ hk => hk.2.2.1))
                                                     iterate 4 (refine (cell_far (p := ⟨gb191, _, none⟩) (by first | exact e_ | (rw [add_block]; exact e_) | (show (Addr.add _ _).block ≠ _; rw [add_block]; exact e_) | (dsimp only; exact e_)) _).trans ?_)
                                                     exact hHeld.1
                                                    ·have e_ := V_ne_ HL187_0.out (by decide) (by first | exact PL188.out | exact PL190.out) (fun _ hk => hk.2.2.2.1)
                                                     iterate 4 (refine (cell_far (p := ⟨gb191, _, none⟩) (by first | exact e_ | (rw [add_block]; exact e_) | (show (Addr.add _ _).block ≠ _; rw [add_block]; exact e_) | (dsimp only; exact e_)) _).trans ?_)
                                                     exact hHeld.2.1
                                                    ·have e_ := V_ne_ HL187_0.out (by decide) (by first | exact PL188.out | exact PL190.out) (fun _ hk => hk.2.2.2.1)
                                                     iterate 4 (refine (cell_far (p := ⟨gb191, _, none⟩) (by first | exact e_ | (rw [add_block]; exact e_) | (show (Addr.add _ _).block ≠ _; rw [add_block]; exact e_) | (dsimp only; exact e_)) _).trans ?_)
                                                     exact hHeld.2.2.1
                                                    ·have e_ := V_ne_ HL187_0.out (by decide) (by first | exact PL188.out | exact PL190.out) (fun _ hk => hk.2.2.2.1)
                                                     iterate 4 (refine (cell_far (p := ⟨gb191, _, none⟩) (by first | exact e_ | (rw [add_block]; exact e_) | (show (Addr.add _ _).block ≠ _; rw [add_block]; exact e_) | (dsimp only; exact e_)) _).trans ?_)
                                                     exact hHeld.2.2.2.1
                                                    ·have e_ := V_ne_ HL187_0.out (by decide) (by first | exact PL188.out | exact PL190.out) (fun _ hk => hk.2.2.2.1)
                                                     iterate 4 (refine (cell_far (p := ⟨gb191, _, none⟩) (by first | exact e_ | (rw [add_block]; exact e_) | (show (Addr.add _ _).block ≠ _; rw [add_block]; exact e_) | (dsimp only; exact e_)) _).trans ?_)
                                                     exact hHeld.2.2.2.2.1
                                                    ·have e_ := Kd.own_blk (Kd.N_away HO_3.out (fun _ hk => hk.2.2.1))
                                                     iterate 4 (refine (cell_far (p := ⟨gb191, _, none⟩) (by first | exact e_ | (rw [add_block]; exact e_) | (show (Addr.add _ _).block ≠ _; rw [add_block]; exact e_) | (dsimp only; exact e_)) _).trans ?_)
                                                     exact hHeld.2.2.2.2.2.1
                                                    ·have e_ := V_ne_ HL189_0.out (by decide) (by first | exact PL188.out | exact PL190.out) (fun _ hk => hk.2.2.2.1)
                                                     iterate 4 (refine (cell_far (p := ⟨gb191, _, none⟩) (by first | exact e_ | (rw [add_block]; exact e_) | (show (Addr.add _ _).block ≠ _; rw [add_block]; exact e_) | (dsimp only; exact e_)) _).trans ?_)
                                                     exact hHeld.2.2.2.2.2.2.1
                                                    ·have e_ := V_ne_ HL189_0.out (by decide) (by first | exact PL188.out | exact PL190.out) (fun _ hk => hk.2.2.2.1)
                                                     iterate 4 (refine (cell_far (p := ⟨gb191, _, none⟩) (by first | exact e_ | (rw [add_block]; exact e_) | (show (Addr.add _ _).block ≠ _; rw [add_block]; exact e_) | (dsimp only; exact e_)) _).trans ?_)
                                                     exact hHeld.2.2.2.2.2.2.2.1
                                                    ·have e_ := V_ne_ HL189_0.out (by decide) (by first | exact PL188.out | exact PL190.out) (fun _ hk => hk.2.2.2.1)
                                                     iterate 4 (refine (cell_far (p := ⟨gb191, _, none⟩) (by first | exact e_ | (rw [add_block]; exact e_) | (show (Addr.add _ _).block ≠ _; rw [add_block]; exact e_) | (dsimp only; exact e_)) _).trans ?_)
                                                     exact hHeld.2.2.2.2.2.2.2.2.1
                                                    ·have e_ := V_ne_ HL189_0.out (by decide) (by first | exact PL188.out | exact PL190.out) (fun _ hk => hk.2.2.2.1)
                                                     iterate 4 (refine (cell_far (p := ⟨gb191, _, none⟩) (by first | exact e_ | (rw [add_block]; exact e_) | (show (Addr.add _ _).block ≠ _; rw [add_block]; exact e_) | (dsimp only; exact e_)) _).trans ?_)
                                                     exact hHeld.2.2.2.2.2.2.2.2.2
                                                    clear hK K
                                                    refine one_ (i := 20) (N := none) #[true, true, true, true, true, true, true, true, true, true, true, true, true, true, true, true, true, true, true, true, true] rfl rfl (one_of HT_.out (by kernel_rfl)) (by decide) (fun K hK => ?_)
                                                    have hs38 : w33.cell? ⟨gb192, 0, none⟩ = some (.int .i64 0) := (blk_cell BK192.out 0).trans rfl
                                                    have hfs38 := blk_frozen BK192.out 0
                                                    have hns38_0 := NB191_192.out
                                                    have hms38_0 := NB192_191.out
                                                    have hs39 : w33.cell? ⟨gb192, 1, none⟩ = some (.int .i64 0) := (blk_cell BK192.out 1).trans rfl
                                                    have hfs39 := blk_frozen BK192.out 1
                                                    have hns39_0 := NB191_192.out
                                                    have hms39_0 := NB192_191.out
                                                    have hs40 : w33.cell? ⟨gb192, 2, none⟩ = some (.int .i64 0) := (blk_cell BK192.out 2).trans rfl
                                                    have hfs40 := blk_frozen BK192.out 2
                                                    have hns40_0 := NB191_192.out
                                                    have hms40_0 := NB192_191.out
                                                    have hs41 : w33.cell? ⟨gb192, 3, none⟩ = some (.string (⟨#[]⟩ : ByteArray)) := (blk_cell BK192.out 3).trans rfl
                                                    have hfs41 := blk_frozen BK192.out 3
                                                    have hns41_0 := NB191_192.out
                                                    have hms41_0 := NB192_191.out
                                                    refine skip_ (w1 := ?_) (by rfl) rfl ?_ ?_
                                                    rotate_left
                                                    · go_simp
                                                      rfl
                                                    refine hK.out _ _ ?_ (fun hHeld => ?_)
                                                    refine ⟨?_, ?_, ?_, ?_, ?_, ?_, ?_, ?_, ?_, ?_⟩
                                                    ·have e_ := Kd.own_blk (Kd.N_away HO_3.out (fun _ hk => hk.2.2.2))
                                                     iterate 4 (refine (cell_far (p := ⟨gb192, _, none⟩) (by first | exact e_ | (rw [add_block]; exact e_) | (show (Addr.add _ _).block ≠ _; rw [add_block]; exact e_) | (dsimp only; exact e_)) _).trans ?_)
                                                     exact hHeld.1
                                                    ·have e_ := V_ne_ HL187_0.out (by decide) (by first | exact PL188.out | exact PL190.out) (fun _ hk => hk.2.2.2.2)
                                                     iterate 4 (refine (cell_far (p := ⟨gb192, _, none⟩) (by first | exact e_ | (rw [add_block]; exact e_) | (show (Addr.add _ _).block ≠ _; rw [add_block]; exact e_) | (dsimp only; exact e_)) _).trans ?_)
                                                     exact hHeld.2.1
                                                    ·have e_ := V_ne_ HL187_0.out (by decide) (by first | exact PL188.out | exact PL190.out) (fun _ hk => hk.2.2.2.2)
                                                     iterate 4 (refine (cell_far (p := ⟨gb192, _, none⟩) (by first | exact e_ | (rw [add_block]; exact e_) | (show (Addr.add _ _).block ≠ _; rw [add_block]; exact e_) | (dsimp only; exact e_)) _).trans ?_)
                                                     exact hHeld.2.2.1
                                                    ·have e_ := V_ne_ HL187_0.out (by decide) (by first | exact PL188.out | exact PL190.out) (fun _ hk => hk.2.2.2.2)
                                                     iterate 4 (refine (cell_far (p := ⟨gb192, _, none⟩) (by first | exact e_ | (rw [add_block]; exact e_) | (show (Addr.add _ _).block ≠ _; rw [add_block]; exact e_) | (dsimp only; exact e_)) _).trans ?_)
                                                     exact hHeld.2.2.2.1
                                                    ·have e_ := V_ne_ HL187_0.out (by decide) (by first | exact PL188.out | exact PL190.out) (fun _ hk => hk.2.2.2.2)
                                                     iterate 4 (refine (cell_far (p := ⟨gb192, _, none⟩) (by first | exact e_ | (rw [add_block]; exact e_) | (show (Addr.add _ _).block ≠ _; rw [add_block]; exact e_) | (dsimp only; exact e_)) _).trans ?_)
                                                     exact hHeld.2.2.2.2.1
                                                    ·have e_ := Kd.own_blk (Kd.N_away HO_3.out (fun _ hk => hk.2.2.2))
                                                     iterate 4 (refine (cell_far (p := ⟨gb192, _, none⟩) (by first | exact e_ | (rw [add_block]; exact e_) | (show (Addr.add _ _).block ≠ _; rw [add_block]; exact e_) | (dsimp only; exact e_)) _).trans ?_)
                                                     exact hHeld.2.2.2.2.2.1
                                                    ·have e_ := V_ne_ HL189_0.out (by decide) (by first | exact PL188.out | exact PL190.out) (fun _ hk => hk.2.2.2.2)
                                                     iterate 4 (refine (cell_far (p := ⟨gb192, _, none⟩) (by first | exact e_ | (rw [add_block]; exact e_) | (show (Addr.add _ _).block ≠ _; rw [add_block]; exact e_) | (dsimp only; exact e_)) _).trans ?_)
                                                     exact hHeld.2.2.2.2.2.2.1
                                                    ·have e_ := V_ne_ HL189_0.out (by decide) (by first | exact PL188.out | exact PL190.out) (fun _ hk => hk.2.2.2.2)
                                                     iterate 4 (refine (cell_far (p := ⟨gb192, _, none⟩) (by first | exact e_ | (rw [add_block]; exact e_) | (show (Addr.add _ _).block ≠ _; rw [add_block]; exact e_) | (dsimp only; exact e_)) _).trans ?_)
                                                     exact hHeld.2.2.2.2.2.2.2.1
                                                    ·have e_ := V_ne_ HL189_0.out (by decide) (by first | exact PL188.out | exact PL190.out) (fun _ hk => hk.2.2.2.2)
                                                     iterate 4 (refine (cell_far (p := ⟨gb192, _, none⟩) (by first | exact e_ | (rw [add_block]; exact e_) | (show (Addr.add _ _).block ≠ _; rw [add_block]; exact e_) | (dsimp only; exact e_)) _).trans ?_)
                                                     exact hHeld.2.2.2.2.2.2.2.2.1
                                                    ·have e_ := V_ne_ HL189_0.out (by decide) (by first | exact PL188.out | exact PL190.out) (fun _ hk => hk.2.2.2.2)
                                                     iterate 4 (refine (cell_far (p := ⟨gb192, _, none⟩) (by first | exact e_ | (rw [add_block]; exact e_) | (show (Addr.add _ _).block ≠ _; rw [add_block]; exact e_) | (dsimp only; exact e_)) _).trans ?_)
                                                     exact hHeld.2.2.2.2.2.2.2.2.2
                                                    clear hK K
                                                    refine done_ (done_of HT_.out (by kernel_rfl)) ?_
                                                    have hnb42 := NB191_192.out
                                                    have hnc42 := NB192_191.out
                                                    have hcz43_0 : w33.cell? ⟨gb191, 0, none⟩ = some (.int .i64 0) := (blk_cell BK191.out 0).trans rfl
                                                    have hcz43_1 : w33.cell? ⟨gb191, 1, none⟩ = some (.int .i64 0) := (blk_cell BK191.out 1).trans rfl
                                                    have hcz43_2 : w33.cell? ⟨gb191, 2, none⟩ = some (.int .i64 0) := (blk_cell BK191.out 2).trans rfl
                                                    have hcz43_3 : w33.cell? ⟨gb191, 3, none⟩ = some (.string (⟨#[]⟩ : ByteArray)) := (blk_cell BK191.out 3).trans rfl
                                                    have hfz43_0 := blk_frozen BK191.out 0
                                                    have hfz43_1 := blk_frozen BK191.out 1
                                                    have hfz43_2 := blk_frozen BK191.out 2
                                                    have hfz43_3 := blk_frozen BK191.out 3
                                                    have hcz44_0 : w33.cell? ⟨gb192, 0, none⟩ = some (.int .i64 0) := (blk_cell BK192.out 0).trans rfl
                                                    have hcz44_1 : w33.cell? ⟨gb192, 1, none⟩ = some (.int .i64 0) := (blk_cell BK192.out 1).trans rfl
                                                    have hcz44_2 : w33.cell? ⟨gb192, 2, none⟩ = some (.int .i64 0) := (blk_cell BK192.out 2).trans rfl
                                                    have hcz44_3 : w33.cell? ⟨gb192, 3, none⟩ = some (.string (⟨#[]⟩ : ByteArray)) := (blk_cell BK192.out 3).trans rfl
                                                    have hfz44_0 := blk_frozen BK192.out 0
                                                    have hfz44_1 := blk_frozen BK192.out 1
                                                    have hfz44_2 := blk_frozen BK192.out 2
                                                    have hfz44_3 := blk_frozen BK192.out 3
                                                    try go_wp2_with (first | ((with_reducible refine gate_callee (f := 72) rfl ?_); refine goesL_ (some 71) rfl rfl Try.func72 (by kernel_rfl) rfl #[.agg #[.int .i64 ((rd_T54 (rd_L4 x3_1 x6_2) x7_3).f0.f0), .int .i64 ((rd_T54 (rd_L4 x3_1 x6_2) x7_3).f0.f1)], .agg #[.int .i64 ((rd_T54 (rd_L4 x3_1 (ji15)) x8_4).f0.f0), .int .i64 ((rd_T54 (rd_L4 x3_1 (ji15)) x8_4).f0.f1)]] rfl (by (try simp only [List.map_toArray, List.map_cons, List.map_nil]); first | done | (simp only [hji15]; rfl) | rfl | (simp only [List.length_drop, List.length_take]; rfl)) ?_; (with_reducible refine (spec_l6Half.calls k4 ((rd_T54 (rd_L4 x3_1 x6_2) x7_3).f0.f0) ((rd_T54 (rd_L4 x3_1 x6_2) x7_3).f0.f1) ((rd_T54 (rd_L4 x3_1 (ji15)) x8_4).f0.f0) ((rd_T54 (rd_L4 x3_1 (ji15)) x8_4).f0.f1) t193 t194 true _ A24.out).mono ?_); rintro e w45 ⟨rfl, hb⟩; refine ⟨_, rfl, ?_⟩; have n0_ := Aside0.mk (Kd.N_below (by (with_reducible repeat (first | apply Kd.N_alloc | apply Kd.N_drewN | apply Kd.N_drew)); exact (Kd.N_mono (Kd.N_mono (Kd.N_far (p := ⟨gb192, 3, none⟩) (Kd.N_far (p := ⟨gb192, 2, none⟩) (Kd.N_far (p := ⟨gb192, 1, none⟩) (Kd.N_far (p := ⟨gb192, 0, none⟩) (Kd.N_far (p := ⟨gb191, 3, none⟩) (Kd.N_far (p := ⟨gb191, 2, none⟩) (Kd.N_far (p := ⟨gb191, 1, none⟩) (Kd.N_far (p := ⟨gb191, 0, none⟩) (Kd.N_mono (Kd.N_mono HO_3.out (fun k_ hk => (⟨hk, hk.2.2.1⟩ : _ ∧ k_ ≠ gb191))) (fun k_ hk => (⟨hk, hk.1.2.2.2⟩ : _ ∧ k_ ≠ gb192))) (fun _ hk => hk.1.2) (.int .i64 ((rd_T54 (rd_L4 x3_1 x6_2) x7_3).f0.f0))) (fun _ hk => hk.1.2) (.int .i64 ((rd_T54 (rd_L4 x3_1 x6_2) x7_3).f0.f1))) (fun _ hk => hk.1.2) (.int .i64 ((rd_T54 (rd_L4 x3_1 x6_2) x7_3).f1))) (fun _ hk => hk.1.2) (.string ((rd_T54 (rd_L4 x3_1 x6_2) x7_3).f2))) (fun _ hk => hk.2) (.int .i64 ((rd_T54 (rd_L4 x3_1 (ji15)) x8_4).f0.f0))) (fun _ hk => hk.2) (.int .i64 ((rd_T54 (rd_L4 x3_1 (ji15)) x8_4).f0.f1))) (fun _ hk => hk.2) (.int .i64 ((rd_T54 (rd_L4 x3_1 (ji15)) x8_4).f1))) (fun _ hk => hk.2) (.string ((rd_T54 (rd_L4 x3_1 (ji15)) x8_4).f2))) (fun _ h_ => h_.1)) (fun _ h_ => h_.1))) hb); have n1_ := Aside0.mk (Kd.R_below (by (with_reducible repeat (first | apply Kd.R_alloc | apply Kd.R_drewN | apply Kd.R_drew)); exact (Kd.R_mono (Kd.R_mono (Kd.R_far (p := ⟨gb192, 3, none⟩) (Kd.R_far (p := ⟨gb192, 2, none⟩) (Kd.R_far (p := ⟨gb192, 1, none⟩) (Kd.R_far (p := ⟨gb192, 0, none⟩) (Kd.R_far (p := ⟨gb191, 3, none⟩) (Kd.R_far (p := ⟨gb191, 2, none⟩) (Kd.R_far (p := ⟨gb191, 1, none⟩) (Kd.R_far (p := ⟨gb191, 0, none⟩) (Kd.R_mono (Kd.R_mono HO_5.out (fun k_ hk => (⟨hk, hk.2.1⟩ : _ ∧ k_ ≠ gb191))) (fun k_ hk => (⟨hk, hk.1.2.2⟩ : _ ∧ k_ ≠ gb192))) (fun _ hk => hk.1.2) (.int .i64 ((rd_T54 (rd_L4 x3_1 x6_2) x7_3).f0.f0))) (fun _ hk => hk.1.2) (.int .i64 ((rd_T54 (rd_L4 x3_1 x6_2) x7_3).f0.f1))) (fun _ hk => hk.1.2) (.int .i64 ((rd_T54 (rd_L4 x3_1 x6_2) x7_3).f1))) (fun _ hk => hk.1.2) (.string ((rd_T54 (rd_L4 x3_1 x6_2) x7_3).f2))) (fun _ hk => hk.2) (.int .i64 ((rd_T54 (rd_L4 x3_1 (ji15)) x8_4).f0.f0))) (fun _ hk => hk.2) (.int .i64 ((rd_T54 (rd_L4 x3_1 (ji15)) x8_4).f0.f1))) (fun _ hk => hk.2) (.int .i64 ((rd_T54 (rd_L4 x3_1 (ji15)) x8_4).f1))) (fun _ hk => hk.2) (.string ((rd_T54 (rd_L4 x3_1 (ji15)) x8_4).f2))) (fun _ h_ => h_.1)) (fun _ h_ => h_.1))) hb); have n2_ := Aside0.mk (Kd.V_below (by (with_reducible repeat (first | apply Kd.V_alloc | apply Kd.V_drewN | apply Kd.V_drew)); exact (Kd.V_mono (Kd.V_mono (Kd.V_far (p := ⟨gb192, 3, none⟩) (Kd.V_far (p := ⟨gb192, 2, none⟩) (Kd.V_far (p := ⟨gb192, 1, none⟩) (Kd.V_far (p := ⟨gb192, 0, none⟩) (Kd.V_far (p := ⟨gb191, 3, none⟩) (Kd.V_far (p := ⟨gb191, 2, none⟩) (Kd.V_far (p := ⟨gb191, 1, none⟩) (Kd.V_far (p := ⟨gb191, 0, none⟩) (Kd.V_mono (Kd.V_mono HL186_0.out (fun k_ hk => (⟨hk, hk.2.2.2.1⟩ : _ ∧ k_ ≠ gb191))) (fun k_ hk => (⟨hk, hk.1.2.2.2.2⟩ : _ ∧ k_ ≠ gb192))) (fun _ hk => hk.1.2) (.int .i64 ((rd_T54 (rd_L4 x3_1 x6_2) x7_3).f0.f0))) (fun _ hk => hk.1.2) (.int .i64 ((rd_T54 (rd_L4 x3_1 x6_2) x7_3).f0.f1))) (fun _ hk => hk.1.2) (.int .i64 ((rd_T54 (rd_L4 x3_1 x6_2) x7_3).f1))) (fun _ hk => hk.1.2) (.string ((rd_T54 (rd_L4 x3_1 x6_2) x7_3).f2))) (fun _ hk => hk.2) (.int .i64 ((rd_T54 (rd_L4 x3_1 (ji15)) x8_4).f0.f0))) (fun _ hk => hk.2) (.int .i64 ((rd_T54 (rd_L4 x3_1 (ji15)) x8_4).f0.f1))) (fun _ hk => hk.2) (.int .i64 ((rd_T54 (rd_L4 x3_1 (ji15)) x8_4).f1))) (fun _ hk => hk.2) (.string ((rd_T54 (rd_L4 x3_1 (ji15)) x8_4).f2))) (fun _ h_ => h_.1)) (fun _ h_ => h_.1))) hb); have n3_ := Aside0.mk (Kd.V_below (by (with_reducible repeat (first | apply Kd.V_alloc | apply Kd.V_drewN | apply Kd.V_drew)); exact (Kd.V_mono (Kd.V_mono (Kd.V_far (p := ⟨gb192, 3, none⟩) (Kd.V_far (p := ⟨gb192, 2, none⟩) (Kd.V_far (p := ⟨gb192, 1, none⟩) (Kd.V_far (p := ⟨gb192, 0, none⟩) (Kd.V_far (p := ⟨gb191, 3, none⟩) (Kd.V_far (p := ⟨gb191, 2, none⟩) (Kd.V_far (p := ⟨gb191, 1, none⟩) (Kd.V_far (p := ⟨gb191, 0, none⟩) (Kd.V_mono (Kd.V_mono HL187_0.out (fun k_ hk => (⟨hk, hk.2.2.2.1⟩ : _ ∧ k_ ≠ gb191))) (fun k_ hk => (⟨hk, hk.1.2.2.2.2⟩ : _ ∧ k_ ≠ gb192))) (fun _ hk => hk.1.2) (.int .i64 ((rd_T54 (rd_L4 x3_1 x6_2) x7_3).f0.f0))) (fun _ hk => hk.1.2) (.int .i64 ((rd_T54 (rd_L4 x3_1 x6_2) x7_3).f0.f1))) (fun _ hk => hk.1.2) (.int .i64 ((rd_T54 (rd_L4 x3_1 x6_2) x7_3).f1))) (fun _ hk => hk.1.2) (.string ((rd_T54 (rd_L4 x3_1 x6_2) x7_3).f2))) (fun _ hk => hk.2) (.int .i64 ((rd_T54 (rd_L4 x3_1 (ji15)) x8_4).f0.f0))) (fun _ hk => hk.2) (.int .i64 ((rd_T54 (rd_L4 x3_1 (ji15)) x8_4).f0.f1))) (fun _ hk => hk.2) (.int .i64 ((rd_T54 (rd_L4 x3_1 (ji15)) x8_4).f1))) (fun _ hk => hk.2) (.string ((rd_T54 (rd_L4 x3_1 (ji15)) x8_4).f2))) (fun _ h_ => h_.1)) (fun _ h_ => h_.1))) hb); have n4_ := Aside0.mk (Kd.V_below (by (with_reducible repeat (first | apply Kd.V_alloc | apply Kd.V_drewN | apply Kd.V_drew)); exact (Kd.V_mono (Kd.V_mono (Kd.V_far (p := ⟨gb192, 3, none⟩) (Kd.V_far (p := ⟨gb192, 2, none⟩) (Kd.V_far (p := ⟨gb192, 1, none⟩) (Kd.V_far (p := ⟨gb192, 0, none⟩) (Kd.V_far (p := ⟨gb191, 3, none⟩) (Kd.V_far (p := ⟨gb191, 2, none⟩) (Kd.V_far (p := ⟨gb191, 1, none⟩) (Kd.V_far (p := ⟨gb191, 0, none⟩) (Kd.V_mono (Kd.V_mono HL189_0.out (fun k_ hk => (⟨hk, hk.2.2.2.1⟩ : _ ∧ k_ ≠ gb191))) (fun k_ hk => (⟨hk, hk.1.2.2.2.2⟩ : _ ∧ k_ ≠ gb192))) (fun _ hk => hk.1.2) (.int .i64 ((rd_T54 (rd_L4 x3_1 x6_2) x7_3).f0.f0))) (fun _ hk => hk.1.2) (.int .i64 ((rd_T54 (rd_L4 x3_1 x6_2) x7_3).f0.f1))) (fun _ hk => hk.1.2) (.int .i64 ((rd_T54 (rd_L4 x3_1 x6_2) x7_3).f1))) (fun _ hk => hk.1.2) (.string ((rd_T54 (rd_L4 x3_1 x6_2) x7_3).f2))) (fun _ hk => hk.2) (.int .i64 ((rd_T54 (rd_L4 x3_1 (ji15)) x8_4).f0.f0))) (fun _ hk => hk.2) (.int .i64 ((rd_T54 (rd_L4 x3_1 (ji15)) x8_4).f0.f1))) (fun _ hk => hk.2) (.int .i64 ((rd_T54 (rd_L4 x3_1 (ji15)) x8_4).f1))) (fun _ hk => hk.2) (.string ((rd_T54 (rd_L4 x3_1 (ji15)) x8_4).f2))) (fun _ h_ => h_.1)) (fun _ h_ => h_.1))) hb); have n5_ := Aside0.mk (blk_below (g := gb191) (o := .cells #[.int .i64 ((rd_T54 (rd_L4 x3_1 x6_2) x7_3).f0.f0), .int .i64 ((rd_T54 (rd_L4 x3_1 x6_2) x7_3).f0.f1), .int .i64 ((rd_T54 (rd_L4 x3_1 x6_2) x7_3).f1), .string ((rd_T54 (rd_L4 x3_1 x6_2) x7_3).f2)] 54 (0, 0)) (by (with_reducible repeat (first | refine blk_drewN ?_ _ | refine blk_drew ?_ | refine blk_alloc ?_ _)); refine blk_far ?_ NB191_192.out _; (with_reducible repeat (first | refine blk_drewN ?_ _ | refine blk_drew ?_ | refine blk_alloc ?_ _)); refine blk_far ?_ NB191_192.out _; (with_reducible repeat (first | refine blk_drewN ?_ _ | refine blk_drew ?_ | refine blk_alloc ?_ _)); refine blk_far ?_ NB191_192.out _; (with_reducible repeat (first | refine blk_drewN ?_ _ | refine blk_drew ?_ | refine blk_alloc ?_ _)); refine blk_far ?_ NB191_192.out _; (with_reducible repeat (first | refine blk_drewN ?_ _ | refine blk_drew ?_ | refine blk_alloc ?_ _)); refine blk_put (cs := #[.int .i64 ((rd_T54 (rd_L4 x3_1 x6_2) x7_3).f0.f0), .int .i64 ((rd_T54 (rd_L4 x3_1 x6_2) x7_3).f0.f1), .int .i64 ((rd_T54 (rd_L4 x3_1 x6_2) x7_3).f1), .string (⟨#[]⟩ : ByteArray)]) ?_ 3 _ rfl; (with_reducible repeat (first | refine blk_drewN ?_ _ | refine blk_drew ?_ | refine blk_alloc ?_ _)); refine blk_put (cs := #[.int .i64 ((rd_T54 (rd_L4 x3_1 x6_2) x7_3).f0.f0), .int .i64 ((rd_T54 (rd_L4 x3_1 x6_2) x7_3).f0.f1), .int .i64 0, .string (⟨#[]⟩ : ByteArray)]) ?_ 2 _ rfl; (with_reducible repeat (first | refine blk_drewN ?_ _ | refine blk_drew ?_ | refine blk_alloc ?_ _)); refine blk_put (cs := #[.int .i64 ((rd_T54 (rd_L4 x3_1 x6_2) x7_3).f0.f0), .int .i64 0, .int .i64 0, .string (⟨#[]⟩ : ByteArray)]) ?_ 1 _ rfl; (with_reducible repeat (first | refine blk_drewN ?_ _ | refine blk_drew ?_ | refine blk_alloc ?_ _)); refine blk_put (cs := #[.int .i64 0, .int .i64 0, .int .i64 0, .string (⟨#[]⟩ : ByteArray)]) ?_ 0 _ rfl; (with_reducible repeat (first | refine blk_drewN ?_ _ | refine blk_drew ?_ | refine blk_alloc ?_ _)); exact BK191.out) hb); have n6_ := Aside0.mk (blk_below (g := gb192) (o := .cells #[.int .i64 ((rd_T54 (rd_L4 x3_1 (ji15)) x8_4).f0.f0), .int .i64 ((rd_T54 (rd_L4 x3_1 (ji15)) x8_4).f0.f1), .int .i64 ((rd_T54 (rd_L4 x3_1 (ji15)) x8_4).f1), .string ((rd_T54 (rd_L4 x3_1 (ji15)) x8_4).f2)] 54 (0, 0)) (by (with_reducible repeat (first | refine blk_drewN ?_ _ | refine blk_drew ?_ | refine blk_alloc ?_ _)); refine blk_put (cs := #[.int .i64 ((rd_T54 (rd_L4 x3_1 (ji15)) x8_4).f0.f0), .int .i64 ((rd_T54 (rd_L4 x3_1 (ji15)) x8_4).f0.f1), .int .i64 ((rd_T54 (rd_L4 x3_1 (ji15)) x8_4).f1), .string (⟨#[]⟩ : ByteArray)]) ?_ 3 _ rfl; (with_reducible repeat (first | refine blk_drewN ?_ _ | refine blk_drew ?_ | refine blk_alloc ?_ _)); refine blk_put (cs := #[.int .i64 ((rd_T54 (rd_L4 x3_1 (ji15)) x8_4).f0.f0), .int .i64 ((rd_T54 (rd_L4 x3_1 (ji15)) x8_4).f0.f1), .int .i64 0, .string (⟨#[]⟩ : ByteArray)]) ?_ 2 _ rfl; (with_reducible repeat (first | refine blk_drewN ?_ _ | refine blk_drew ?_ | refine blk_alloc ?_ _)); refine blk_put (cs := #[.int .i64 ((rd_T54 (rd_L4 x3_1 (ji15)) x8_4).f0.f0), .int .i64 0, .int .i64 0, .string (⟨#[]⟩ : ByteArray)]) ?_ 1 _ rfl; (with_reducible repeat (first | refine blk_drewN ?_ _ | refine blk_drew ?_ | refine blk_alloc ?_ _)); refine blk_put (cs := #[.int .i64 0, .int .i64 0, .int .i64 0, .string (⟨#[]⟩ : ByteArray)]) ?_ 0 _ rfl; (with_reducible repeat (first | refine blk_drewN ?_ _ | refine blk_drew ?_ | refine blk_alloc ?_ _)); refine blk_far ?_ NB192_191.out _; (with_reducible repeat (first | refine blk_drewN ?_ _ | refine blk_drew ?_ | refine blk_alloc ?_ _)); refine blk_far ?_ NB192_191.out _; (with_reducible repeat (first | refine blk_drewN ?_ _ | refine blk_drew ?_ | refine blk_alloc ?_ _)); refine blk_far ?_ NB192_191.out _; (with_reducible repeat (first | refine blk_drewN ?_ _ | refine blk_drew ?_ | refine blk_alloc ?_ _)); refine blk_far ?_ NB192_191.out _; (with_reducible repeat (first | refine blk_drewN ?_ _ | refine blk_drew ?_ | refine blk_alloc ?_ _)); exact BK192.out) hb); have n7_ := Aside0.mk (below_step (by repeat (first | (with_reducible first | exact HB.out | apply below_alloc | apply pw_below_drewN | apply below_drew1 | refine below_set ?_ GE191.out | refine below_set ?_ GE192.out) | exact HB.out)) hb); clear HO_3; clear HO_5; clear HL186_0; clear HL187_0; clear HL189_0; clear BK191; clear BK192; clear HB; have HO_3 := n0_; have HO_5 := n1_; have HL186_0 := n2_; have HL187_0 := n3_; have HL189_0 := n4_; have BK191 := n5_; have BK192 := n6_; have HB := n7_; clear n0_ n1_ n2_ n3_ n4_ n5_ n6_ n7_; (try clear hb); (try clear hb2); (try clear hk); (try clear hi)) | ((with_reducible refine gate_dst (N := 11) rfl ?_); refine box_event ?hg (N := 11) ?hd (cs := #[.int .i64 0, .int .i64 0]) (t := 27) ?hr ?_; (case hd => rfl); (case hg => rfl); (case hr => first | (go_simp; done) | (go_simp; rfl)); intro gb196 hg w46 hbox hb; have n0_ := Aside0.mk (Kd.N_below (Kd.N_elderB (by (with_reducible repeat (first | apply Kd.N_alloc | apply Kd.N_drewN | apply Kd.N_drew)); exact HO_3.out) gb196 (Nat.le_of_eq hg.symm)) hb); have n1_ := Aside0.mk (Kd.R_below (by (with_reducible repeat (first | apply Kd.R_alloc | apply Kd.R_drewN | apply Kd.R_drew)); exact HO_5.out) hb); have n2_ := Aside0.mk (Kd.V_below (Kd.V_elderB (by (with_reducible repeat (first | apply Kd.V_alloc | apply Kd.V_drewN | apply Kd.V_drew)); exact HL186_0.out) gb196 (Nat.le_of_eq hg.symm)) hb); have n3_ := Aside0.mk (Kd.V_below (Kd.V_elderB (by (with_reducible repeat (first | apply Kd.V_alloc | apply Kd.V_drewN | apply Kd.V_drew)); exact HL187_0.out) gb196 (Nat.le_of_eq hg.symm)) hb); have n4_ := Aside0.mk (Kd.V_below (Kd.V_elderB (by (with_reducible repeat (first | apply Kd.V_alloc | apply Kd.V_drewN | apply Kd.V_drew)); exact HL189_0.out) gb196 (Nat.le_of_eq hg.symm)) hb); have n5_ := Aside0.mk (blk_below (g := gb191) (o := .cells #[.int .i64 ((rd_T54 (rd_L4 x3_1 x6_2) x7_3).f0.f0), .int .i64 ((rd_T54 (rd_L4 x3_1 x6_2) x7_3).f0.f1), .int .i64 ((rd_T54 (rd_L4 x3_1 x6_2) x7_3).f1), .string ((rd_T54 (rd_L4 x3_1 x6_2) x7_3).f2)] 54 (0, 0)) (by (with_reducible repeat (first | refine blk_drewN ?_ _ | refine blk_drew ?_ | refine blk_alloc ?_ _)); exact BK191.out) hb); have n6_ := Aside0.mk (blk_below (g := gb192) (o := .cells #[.int .i64 ((rd_T54 (rd_L4 x3_1 (ji15)) x8_4).f0.f0), .int .i64 ((rd_T54 (rd_L4 x3_1 (ji15)) x8_4).f0.f1), .int .i64 ((rd_T54 (rd_L4 x3_1 (ji15)) x8_4).f1), .string ((rd_T54 (rd_L4 x3_1 (ji15)) x8_4).f2)] 54 (0, 0)) (by (with_reducible repeat (first | refine blk_drewN ?_ _ | refine blk_drew ?_ | refine blk_alloc ?_ _)); exact BK192.out) hb); have n7_ := Aside0.mk (below_step (by repeat (first | (with_reducible first | exact HB.out | apply below_alloc | apply pw_below_drewN | apply below_drew1 | refine below_set ?_ GE191.out | refine below_set ?_ GE192.out) | exact HB.out)) hb); have n8_ := Aside0.mk (hbox); have n9_ := Aside0.mk ((by rw [hg]; exact (below_size (by repeat (first | (with_reducible first | exact HB.out | apply below_alloc | apply pw_below_drewN | apply below_drew1 | refine below_set ?_ GE191.out | refine below_set ?_ GE192.out) | exact HB.out))) : w.heap.size ≤ gb196)); have n10_ := Aside0.mk ((by rw [hg]; exact (below_size (by repeat (first | (with_reducible first | exact HB.out | apply below_alloc | apply pw_below_drewN | apply below_drew1 | refine below_set ?_ GE191.out | refine below_set ?_ GE192.out) | exact HB.out))) : w.heap.size ≤ gb196)); have n11_ := Aside0.mk ((by rw [hg]; exact Nat.ne_of_lt (blk_lt (g := gb191) (o := .cells #[.int .i64 ((rd_T54 (rd_L4 x3_1 x6_2) x7_3).f0.f0), .int .i64 ((rd_T54 (rd_L4 x3_1 x6_2) x7_3).f0.f1), .int .i64 ((rd_T54 (rd_L4 x3_1 x6_2) x7_3).f1), .string ((rd_T54 (rd_L4 x3_1 x6_2) x7_3).f2)] 54 (0, 0)) (by (with_reducible repeat (first | refine blk_drewN ?_ _ | refine blk_drew ?_ | refine blk_alloc ?_ _)); exact BK191.out)) : gb191 ≠ gb196)); have n12_ := Aside0.mk ((by rw [hg]; exact Nat.ne_of_gt (blk_lt (g := gb191) (o := .cells #[.int .i64 ((rd_T54 (rd_L4 x3_1 x6_2) x7_3).f0.f0), .int .i64 ((rd_T54 (rd_L4 x3_1 x6_2) x7_3).f0.f1), .int .i64 ((rd_T54 (rd_L4 x3_1 x6_2) x7_3).f1), .string ((rd_T54 (rd_L4 x3_1 x6_2) x7_3).f2)] 54 (0, 0)) (by (with_reducible repeat (first | refine blk_drewN ?_ _ | refine blk_drew ?_ | refine blk_alloc ?_ _)); exact BK191.out)) : gb196 ≠ gb191)); have n13_ := Aside0.mk ((by rw [hg]; exact Nat.ne_of_lt (blk_lt (g := gb192) (o := .cells #[.int .i64 ((rd_T54 (rd_L4 x3_1 (ji15)) x8_4).f0.f0), .int .i64 ((rd_T54 (rd_L4 x3_1 (ji15)) x8_4).f0.f1), .int .i64 ((rd_T54 (rd_L4 x3_1 (ji15)) x8_4).f1), .string ((rd_T54 (rd_L4 x3_1 (ji15)) x8_4).f2)] 54 (0, 0)) (by (with_reducible repeat (first | refine blk_drewN ?_ _ | refine blk_drew ?_ | refine blk_alloc ?_ _)); exact BK192.out)) : gb192 ≠ gb196)); have n14_ := Aside0.mk ((by rw [hg]; exact Nat.ne_of_gt (blk_lt (g := gb192) (o := .cells #[.int .i64 ((rd_T54 (rd_L4 x3_1 (ji15)) x8_4).f0.f0), .int .i64 ((rd_T54 (rd_L4 x3_1 (ji15)) x8_4).f0.f1), .int .i64 ((rd_T54 (rd_L4 x3_1 (ji15)) x8_4).f1), .string ((rd_T54 (rd_L4 x3_1 (ji15)) x8_4).f2)] 54 (0, 0)) (by (with_reducible repeat (first | refine blk_drewN ?_ _ | refine blk_drew ?_ | refine blk_alloc ?_ _)); exact BK192.out)) : gb196 ≠ gb192)); clear HO_3; clear HO_5; clear HL186_0; clear HL187_0; clear HL189_0; clear BK191; clear BK192; clear HB; have HO_3 := n0_; have HO_5 := n1_; have HL186_0 := n2_; have HL187_0 := n3_; have HL189_0 := n4_; have BK191 := n5_; have BK192 := n6_; have HB := n7_; have BK196 := n8_; have GW196 := n9_; have GE196 := n10_; have NB191_196 := n11_; have NB196_191 := n12_; have NB192_196 := n13_; have NB196_192 := n14_; clear n0_ n1_ n2_ n3_ n4_ n5_ n6_ n7_ n8_ n9_ n10_ n11_ n12_ n13_ n14_; clear hb hbox hg; have hnb47 := NB196_191.out; have hnc47 := NB191_196.out; have hnb48 := NB196_192.out; have hnc48 := NB192_196.out; have hcz49_0 : w46.cell? ⟨gb196, 0, none⟩ = some (.int .i64 0) := (blk_cell BK196.out 0).trans rfl; have hcz49_1 : w46.cell? ⟨gb196, 1, none⟩ = some (.int .i64 0) := (blk_cell BK196.out 1).trans rfl; have hfz49_0 := blk_frozen BK196.out 0; have hfz49_1 := blk_frozen BK196.out 1) | ((with_reducible refine gate_store (t := 27) (p := 11) rfl ?_); refine store_event (t := 27) (p := 11) (v := ?vo_w50) (w1 := ((w46.setCell ⟨gb196, 0, none⟩ (.int .i64 t193)).setCell ⟨gb196, 1, none⟩ (.int .i64 t194))) ?hg ?ho ?hn ?hr ?_; (case ho => rfl); (case hg => rfl); (case hn => rfl); (case hr => first | (go_simp; done) | (go_simp; rfl)); intro w50 hw; have n0_ : Aside0 (Kd.N (Kd.slice 54 k54) 50 w50 w.heap.size (fun k_ => (w.heap.size ≤ k_) ∧ some k_ ≠ (u5 : Value).ownBlock ∧ k_ ≠ gb191 ∧ k_ ≠ gb192 ∧ k_ ≠ gb196) (.slice (some ad185) x3_1.length co14) x3_1) := ⟨(by rw [hw]; exact (by (with_reducible repeat (first | apply Kd.N_alloc | apply Kd.N_drewN | apply Kd.N_drew)); exact Kd.N_mono (Kd.N_far (p := ⟨gb196, 1, none⟩) (Kd.N_far (p := ⟨gb196, 0, none⟩) (Kd.N_mono HO_3.out (fun k_ hk => (⟨hk, hk.2⟩ : _ ∧ k_ ≠ gb196))) (fun _ hk => hk.2) (.int .i64 t193)) (fun _ hk => hk.2) (.int .i64 t194)) (fun _ hk => ⟨hk.1.1.1, ⟨hk.1.1.2.1, ⟨hk.1.1.2.2.1, ⟨hk.1.1.2.2.2, hk.1.2⟩⟩⟩⟩)))⟩; have n1_ : Aside0 (Kd.R k54 54 w50 w.heap.size (fun k_ => (w.heap.size ≤ k_) ∧ k_ ≠ gb191 ∧ k_ ≠ gb192) u5 x5_4) := ⟨(by rw [hw]; exact (by (with_reducible repeat (first | apply Kd.R_alloc | apply Kd.R_drewN | apply Kd.R_drew)); exact Kd.R_mono (Kd.R_far (p := ⟨gb196, 1, none⟩) (Kd.R_far (p := ⟨gb196, 0, none⟩) (Kd.R_types HO_5.out BK196.out (by decide)) (fun _ hk => hk.2) (.int .i64 t193)) (fun _ hk => hk.2) (.int .i64 t194)) (fun _ hk => ⟨hk.1.1, ⟨hk.1.2.1, hk.1.2.2⟩⟩)))⟩; have n2_ : Aside0 (Kd.V k54 54 w50 w.heap.size (fun k_ => (w.heap.size ≤ k_) ∧ some k_ ≠ (.slice (some ad185) x3_1.length co14 : Value).ownBlock ∧ some k_ ≠ (u5 : Value).ownBlock ∧ k_ ≠ gb191 ∧ k_ ≠ gb192 ∧ k_ ≠ gb196) (.slice A186_0 (rd_L4 x3_1 (ji15)).length c186_0) (rd_L4 x3_1 (ji15))) := ⟨(by rw [hw]; exact (by (with_reducible repeat (first | apply Kd.V_alloc | apply Kd.V_drewN | apply Kd.V_drew)); exact Kd.V_mono (Kd.V_far (p := ⟨gb196, 1, none⟩) (Kd.V_far (p := ⟨gb196, 0, none⟩) (Kd.V_mono HL186_0.out (fun k_ hk => (⟨hk, hk.2⟩ : _ ∧ k_ ≠ gb196))) (fun _ hk => hk.2) (.int .i64 t193)) (fun _ hk => hk.2) (.int .i64 t194)) (fun _ hk => ⟨hk.1.1.1, ⟨hk.1.1.2.1, ⟨hk.1.1.2.2.1, ⟨hk.1.1.2.2.2.1, ⟨hk.1.1.2.2.2.2, hk.1.2⟩⟩⟩⟩⟩)))⟩; have n3_ : Aside0 (Kd.V k54 54 w50 w.heap.size (fun k_ => (w.heap.size ≤ k_) ∧ some k_ ≠ (.slice (some ad185) x3_1.length co14 : Value).ownBlock ∧ some k_ ≠ (u5 : Value).ownBlock ∧ k_ ≠ gb191 ∧ k_ ≠ gb192 ∧ k_ ≠ gb196) (.slice (some ad188) (rd_L4 x3_1 x6_2).length c187_0) (rd_L4 x3_1 x6_2)) := ⟨(by rw [hw]; exact (by (with_reducible repeat (first | apply Kd.V_alloc | apply Kd.V_drewN | apply Kd.V_drew)); exact Kd.V_mono (Kd.V_far (p := ⟨gb196, 1, none⟩) (Kd.V_far (p := ⟨gb196, 0, none⟩) (Kd.V_mono HL187_0.out (fun k_ hk => (⟨hk, hk.2⟩ : _ ∧ k_ ≠ gb196))) (fun _ hk => hk.2) (.int .i64 t193)) (fun _ hk => hk.2) (.int .i64 t194)) (fun _ hk => ⟨hk.1.1.1, ⟨hk.1.1.2.1, ⟨hk.1.1.2.2.1, ⟨hk.1.1.2.2.2.1, ⟨hk.1.1.2.2.2.2, hk.1.2⟩⟩⟩⟩⟩)))⟩; have n4_ : Aside0 (Kd.V k54 54 w50 w.heap.size (fun k_ => (w.heap.size ≤ k_) ∧ some k_ ≠ (.slice (some ad185) x3_1.length co14 : Value).ownBlock ∧ some k_ ≠ (u5 : Value).ownBlock ∧ k_ ≠ gb191 ∧ k_ ≠ gb192 ∧ k_ ≠ gb196) (.slice (some ad190) (rd_L4 x3_1 (ji15)).length c189_0) (rd_L4 x3_1 (ji15))) := ⟨(by rw [hw]; exact (by (with_reducible repeat (first | apply Kd.V_alloc | apply Kd.V_drewN | apply Kd.V_drew)); exact Kd.V_mono (Kd.V_far (p := ⟨gb196, 1, none⟩) (Kd.V_far (p := ⟨gb196, 0, none⟩) (Kd.V_mono HL189_0.out (fun k_ hk => (⟨hk, hk.2⟩ : _ ∧ k_ ≠ gb196))) (fun _ hk => hk.2) (.int .i64 t193)) (fun _ hk => hk.2) (.int .i64 t194)) (fun _ hk => ⟨hk.1.1.1, ⟨hk.1.1.2.1, ⟨hk.1.1.2.2.1, ⟨hk.1.1.2.2.2.1, ⟨hk.1.1.2.2.2.2, hk.1.2⟩⟩⟩⟩⟩)))⟩; have n5_ : Aside0 (w50.heap[gb191]? = some (.cells #[.int .i64 ((rd_T54 (rd_L4 x3_1 x6_2) x7_3).f0.f0), .int .i64 ((rd_T54 (rd_L4 x3_1 x6_2) x7_3).f0.f1), .int .i64 ((rd_T54 (rd_L4 x3_1 x6_2) x7_3).f1), .string ((rd_T54 (rd_L4 x3_1 x6_2) x7_3).f2)] 54 (0, 0))) := ⟨(by rw [hw]; exact (by (with_reducible repeat (first | refine blk_drewN ?_ _ | refine blk_drew ?_ | refine blk_alloc ?_ _)); refine blk_far ?_ NB191_196.out _; (with_reducible repeat (first | refine blk_drewN ?_ _ | refine blk_drew ?_ | refine blk_alloc ?_ _)); refine blk_far ?_ NB191_196.out _; (with_reducible repeat (first | refine blk_drewN ?_ _ | refine blk_drew ?_ | refine blk_alloc ?_ _)); exact BK191.out))⟩; have n6_ : Aside0 (w50.heap[gb192]? = some (.cells #[.int .i64 ((rd_T54 (rd_L4 x3_1 (ji15)) x8_4).f0.f0), .int .i64 ((rd_T54 (rd_L4 x3_1 (ji15)) x8_4).f0.f1), .int .i64 ((rd_T54 (rd_L4 x3_1 (ji15)) x8_4).f1), .string ((rd_T54 (rd_L4 x3_1 (ji15)) x8_4).f2)] 54 (0, 0))) := ⟨(by rw [hw]; exact (by (with_reducible repeat (first | refine blk_drewN ?_ _ | refine blk_drew ?_ | refine blk_alloc ?_ _)); refine blk_far ?_ NB192_196.out _; (with_reducible repeat (first | refine blk_drewN ?_ _ | refine blk_drew ?_ | refine blk_alloc ?_ _)); refine blk_far ?_ NB192_196.out _; (with_reducible repeat (first | refine blk_drewN ?_ _ | refine blk_drew ?_ | refine blk_alloc ?_ _)); exact BK192.out))⟩; have n7_ : Aside0 (w50.heap[gb196]? = some (.cells #[.int .i64 t193, .int .i64 t194] 27 (0, 0))) := ⟨(by rw [hw]; exact (by (with_reducible repeat (first | refine blk_drewN ?_ _ | refine blk_drew ?_ | refine blk_alloc ?_ _)); refine blk_put (cs := #[.int .i64 t193, .int .i64 0]) ?_ 1 _ rfl; (with_reducible repeat (first | refine blk_drewN ?_ _ | refine blk_drew ?_ | refine blk_alloc ?_ _)); refine blk_put (cs := #[.int .i64 0, .int .i64 0]) ?_ 0 _ rfl; (with_reducible repeat (first | refine blk_drewN ?_ _ | refine blk_drew ?_ | refine blk_alloc ?_ _)); exact BK196.out))⟩; have n8_ : Aside0 (Below w.heap.size w w50) := ⟨(by rw [hw]; exact (by repeat (first | (with_reducible first | exact HB.out | apply below_alloc | apply pw_below_drewN | apply below_drew1 | refine below_set ?_ GE191.out | refine below_set ?_ GE192.out | refine below_set ?_ GE196.out) | exact HB.out)))⟩; clear hw; clear HO_3; clear HO_5; clear HL186_0; clear HL187_0; clear HL189_0; clear BK191; clear BK192; clear BK196; clear HB; have HO_3 := n0_; have HO_5 := n1_; have HL186_0 := n2_; have HL187_0 := n3_; have HL189_0 := n4_; have BK191 := n5_; have BK192 := n6_; have BK196 := n7_; have HB := n8_; clear n0_ n1_ n2_ n3_ n4_ n5_ n6_ n7_ n8_; have hcz51_0 : w50.cell? ⟨gb196, 0, none⟩ = some (.int .i64 t193) := (blk_cell BK196.out 0).trans rfl; have hcz51_1 : w50.cell? ⟨gb196, 1, none⟩ = some (.int .i64 t194) := (blk_cell BK196.out 1).trans rfl; have hfz51_0 := blk_frozen BK196.out 0; have hfz51_1 := blk_frozen BK196.out 1; have hcz52_0 : w50.cell? ⟨gb191, 0, none⟩ = some (.int .i64 ((rd_T54 (rd_L4 x3_1 x6_2) x7_3).f0.f0)) := (blk_cell BK191.out 0).trans rfl; have hcz52_1 : w50.cell? ⟨gb191, 1, none⟩ = some (.int .i64 ((rd_T54 (rd_L4 x3_1 x6_2) x7_3).f0.f1)) := (blk_cell BK191.out 1).trans rfl; have hcz52_2 : w50.cell? ⟨gb191, 2, none⟩ = some (.int .i64 ((rd_T54 (rd_L4 x3_1 x6_2) x7_3).f1)) := (blk_cell BK191.out 2).trans rfl; have hcz52_3 : w50.cell? ⟨gb191, 3, none⟩ = some (.string ((rd_T54 (rd_L4 x3_1 x6_2) x7_3).f2)) := (blk_cell BK191.out 3).trans rfl; have hfz52_0 := blk_frozen BK191.out 0; have hfz52_1 := blk_frozen BK191.out 1; have hfz52_2 := blk_frozen BK191.out 2; have hfz52_3 := blk_frozen BK191.out 3; have hcz53_0 : w50.cell? ⟨gb192, 0, none⟩ = some (.int .i64 ((rd_T54 (rd_L4 x3_1 (ji15)) x8_4).f0.f0)) := (blk_cell BK192.out 0).trans rfl; have hcz53_1 : w50.cell? ⟨gb192, 1, none⟩ = some (.int .i64 ((rd_T54 (rd_L4 x3_1 (ji15)) x8_4).f0.f1)) := (blk_cell BK192.out 1).trans rfl; have hcz53_2 : w50.cell? ⟨gb192, 2, none⟩ = some (.int .i64 ((rd_T54 (rd_L4 x3_1 (ji15)) x8_4).f1)) := (blk_cell BK192.out 2).trans rfl; have hcz53_3 : w50.cell? ⟨gb192, 3, none⟩ = some (.string ((rd_T54 (rd_L4 x3_1 (ji15)) x8_4).f2)) := (blk_cell BK192.out 3).trans rfl; have hfz53_0 := blk_frozen BK192.out 0; have hfz53_1 := blk_frozen BK192.out 1; have hfz53_2 := blk_frozen BK192.out 2; have hfz53_3 := blk_frozen BK192.out 3; obtain ⟨Ao54, co54, eo54⟩ := Kd.R_slice HO_5.out; subst eo54) | ((with_reducible refine gate_callee (f := 73) rfl ?_); refine goesL_ (some 90) rfl rfl Try.func73 (by kernel_rfl) rfl #[.slice Ao54 x5_4.length co54, .agg #[.int .i64 t193, .int .i64 t194, .int .i64 (wrap64 (((rd_T54 (rd_L4 x3_1 x6_2) x7_3).f1) * ((rd_T54 (rd_L4 x3_1 (ji15)) x8_4).f1))), .string ((((⟨#[40]⟩ : ByteArray) ++ ((rd_T54 (rd_L4 x3_1 x6_2) x7_3).f2)) ++ ((rd_T54 (rd_L4 x3_1 (ji15)) x8_4).f2)) ++ (⟨#[41]⟩ : ByteArray))]] rfl (by (try simp only [List.map_toArray, List.map_cons, List.map_nil]); first | done | (simp only [hji15]; rfl) | rfl | (simp only [List.length_drop, List.length_take]; rfl)) ?_; (with_reducible refine (spec_l6Add.calls k4 (fun k_ => some k_ = (.slice Ao54 x5_4.length co54 : Value).ownBlock) (.slice Ao54 x5_4.length co54) x5_4 t193 t194 (wrap64 (((rd_T54 (rd_L4 x3_1 x6_2) x7_3).f1) * ((rd_T54 (rd_L4 x3_1 (ji15)) x8_4).f1))) ((((⟨#[40]⟩ : ByteArray) ++ ((rd_T54 (rd_L4 x3_1 x6_2) x7_3).f2)) ++ ((rd_T54 (rd_L4 x3_1 (ji15)) x8_4).f2)) ++ (⟨#[41]⟩ : ByteArray)) t197 w _ ?side1 ?side2 A29.out).mono ?_); (case side1 => repeat (first | (with_reducible first | exact HB.out | apply below_alloc | apply pw_below_drewN | apply below_drew1 | refine below_set ?_ GE191.out | refine below_set ?_ GE192.out | refine below_set ?_ GE196.out) | exact HB.out)); (case side2 => exact Kd.R_tight rfl HO_5.out); rintro e w55 ⟨v198, rfl, ho0, hb, hkp⟩; refine ⟨_, rfl, ?_⟩; have n0_ := Aside0.mk (Kd.N_mono (ok' := fun k_ => (w.heap.size ≤ k_) ∧ k_ ≠ gb191 ∧ k_ ≠ gb192 ∧ k_ ≠ gb196 ∧ some k_ ≠ (v198 : Value).ownBlock) (Kd.N_keptB (HO_3.out) hkp (fun k_ hk_ hs_ => (hk_.2.1) hs_)) (fun k_ hk_ => ⟨hk_.1.1, hk_.1.2.2.1, hk_.1.2.2.2.1, hk_.1.2.2.2.2, fun e_ => Or.elim (ho0.1 k_ e_.symm) (fun hs_ => hk_.2.1 hs_) (fun hn_ => Nat.not_le.2 hk_.2.2 hn_)⟩)); have n1_ := Aside0.mk (blk_kept (by (with_reducible repeat (first | refine blk_drewN ?_ _ | refine blk_drew ?_ | refine blk_alloc ?_ _)); exact BK191.out) hkp (fun hs_ => (fun e_ => (Kd.R_away HO_5.out (fun _ hk => hk.2.1)) e_) hs_)); have n2_ := Aside0.mk (blk_kept (by (with_reducible repeat (first | refine blk_drewN ?_ _ | refine blk_drew ?_ | refine blk_alloc ?_ _)); exact BK192.out) hkp (fun hs_ => (fun e_ => (Kd.R_away HO_5.out (fun _ hk => hk.2.2)) e_) hs_)); have n3_ := Aside0.mk (blk_kept (by (with_reducible repeat (first | refine blk_drewN ?_ _ | refine blk_drew ?_ | refine blk_alloc ?_ _)); exact BK196.out) hkp (fun hs_ => (fun e_ => (Kd.R_ne HO_5.out BK196.out (by decide)) e_) hs_)); have n4_ := Aside0.mk (Kd.R_mono (ok' := fun k_ => (w.heap.size ≤ k_) ∧ k_ ≠ gb191 ∧ k_ ≠ gb192) ho0 (fun k_ hk_ => ⟨Or.elim hk_ (fun hs_ => (HO_5.out.1 k_ (hs_).symm).1) (fun hn_ => (Nat.le_trans (below_size (by repeat (first | (with_reducible first | exact HB.out | apply below_alloc | apply pw_below_drewN | apply below_drew1 | refine below_set ?_ GE191.out | refine below_set ?_ GE192.out | refine below_set ?_ GE196.out) | exact HB.out))) hn_)), Or.elim hk_ (fun hs_ => fun e_ => (Kd.R_away HO_5.out (fun _ hk => hk.2.1)) (by rw [← e_]; exact hs_)) (fun hn_ => (Kd.freshB (g := gb191) (o := .cells #[.int .i64 ((rd_T54 (rd_L4 x3_1 x6_2) x7_3).f0.f0), .int .i64 ((rd_T54 (rd_L4 x3_1 x6_2) x7_3).f0.f1), .int .i64 ((rd_T54 (rd_L4 x3_1 x6_2) x7_3).f1), .string ((rd_T54 (rd_L4 x3_1 x6_2) x7_3).f2)] 54 (0, 0)) (by (with_reducible repeat (first | refine blk_drewN ?_ _ | refine blk_drew ?_ | refine blk_alloc ?_ _)); exact BK191.out) k_ hn_)), Or.elim hk_ (fun hs_ => fun e_ => (Kd.R_away HO_5.out (fun _ hk => hk.2.2)) (by rw [← e_]; exact hs_)) (fun hn_ => (Kd.freshB (g := gb192) (o := .cells #[.int .i64 ((rd_T54 (rd_L4 x3_1 (ji15)) x8_4).f0.f0), .int .i64 ((rd_T54 (rd_L4 x3_1 (ji15)) x8_4).f0.f1), .int .i64 ((rd_T54 (rd_L4 x3_1 (ji15)) x8_4).f1), .string ((rd_T54 (rd_L4 x3_1 (ji15)) x8_4).f2)] 54 (0, 0)) (by (with_reducible repeat (first | refine blk_drewN ?_ _ | refine blk_drew ?_ | refine blk_alloc ?_ _)); exact BK192.out) k_ hn_))⟩)); have n5_ := Aside0.mk (hb); clear HO_3; clear BK191; clear BK192; clear BK196; clear HB; clear HO_5; clear HL186_0; clear HL187_0; clear HL189_0; have HO_3 := n0_; have BK191 := n1_; have BK192 := n2_; have BK196 := n3_; have HO199 := n4_; have HB := n5_; clear n0_ n1_ n2_ n3_ n4_ n5_; (try clear hb); (try clear hkp); (try clear ho0)))
                                                    go_roundg k4
                                                    case measure => have := HK1.out; have := HK2.out; have := HK3.out; have := HK4.out; omega
                                                    case rel => exact ⟨(t197), (wrap64 (x8_4 + 1)), (by first | rfl | (simp; done) | (simp [*]; done)), H', ⟨by have := HK1.out; have := HK2.out; have := HK3.out; have := HK4.out; omega⟩, ⟨by (with_reducible repeat (first | apply Kd.N_alloc | apply Kd.N_drewN | apply Kd.N_drew)); exact Kd.N_mono HO_3.out (fun _ hk => ⟨hk.1, hk.2.2.2.2⟩)⟩, ⟨by (with_reducible repeat (first | apply Kd.R_alloc | apply Kd.R_drewN | apply Kd.R_drew)); exact Kd.R_mono HO199.out (fun _ hk => hk.1)⟩, ⟨by repeat (first | (with_reducible first | exact HB.out | apply below_alloc | apply pw_below_drewN | apply below_drew1 | refine below_set ?_ GE191.out | refine below_set ?_ GE192.out | refine below_set ?_ GE196.out) | exact HB.out)⟩⟩
                                                  · rw [if_neg c28] at H
                                                    exact absurd H (by simp)
                                                · rw [if_neg c27] at H
                                                  exact absurd H (by simp)
                                              · rw [if_neg c26] at H
                                                exact absurd H (by simp)
                                            · replace c25 := Bool.eq_false_iff.mpr c25
                                              subst c25
                                              have H1 : (spec_l6Table.l3 k4 a0 x3_1 x4_1 x5_4 x6_2 x7_3 (wrap64 (x8_4 + 1))) = some r := by rw [if_neg (show ¬ (false = true) by decide)] at H; exact H
                                              clear H
                                              have H := H1
                                              clear H1
                                              have H' := Aside0.mk H
                                              clear H
                                              have p186 : 0 ≤ ((ji15) : Int) := of_decide_eq_true (by first | (with_reducible assumption) | assumption)
                                              have q186 : (ji15) < (x3_1.length : Int) := of_decide_eq_true (by first | (with_reducible assumption) | assumption)
                                              obtain ⟨ad186, A186_0, c186_0, e186, hx186_0, hl186_0, hi186_0⟩ := at_L4 (Kd.N_reads' HO_3.out).2.2 (ji15) p186 q186
                                              obtain rfl : ad185 = ad186 := (by injection e186)
                                              obtain ⟨ce186, hce186, hMe186, hcc186⟩ := Kd.N_get HO_3.out [] (ji15) p186 (by first | exact q186 | exact of_decide_eq_true (by first | (with_reducible assumption) | assumption) | (have e_ := (Kd.N_reads' HO_3.out).1; omega))
                                              obtain ⟨ua186_0, uc186_0, rfl, ul186_0, ge186_0⟩ := Kd.FK_slice_open hMe186
                                              have hv186_0 := hcc186 0 _ rfl
                                              rw [Nat.add_zero, show ((Kd.slice 54 k54)).sz = 1 from rfl, Nat.mul_one] at hv186_0
                                              replace hv186_0 := Option.some.inj (hv186_0.symm.trans hx186_0)
                                              injection hv186_0 with hva_ hvn_ hvc_
                                              rw [hva_] at ge186_0
                                              rw [hvc_] at ul186_0
                                              have HL186_0 := Aside0.mk (show Kd.V k54 54 _ w.heap.size _ _ (rd_L4 x3_1 (ji15)) from Kd.V_mk ul186_0 ge186_0)
                                              clear hva_ hvn_ hvc_ ge186_0 ul186_0
                                              clear hcc186 hce186
                                              have HR186_0 := Aside0.mk hi186_0
                                              have HC186_0 := Aside0.mk hl186_0
                                              clear hi186_0 hl186_0
                                              replace p186 := eq_true p186
                                              replace q186 := eq_true q186
                                              try go_wp2
                                              have n0_ := Aside0.mk (Kd.N_drew HO_3.out)
                                              have n1_ := Aside0.mk (Kd.R_drew HO_5.out)
                                              have n2_ := Aside0.mk (Kd.V_drew HL186_0.out)
                                              have n3_ := Aside0.mk (Kd.C_drew HR186_0.out)
                                              have n4_ := Aside0.mk (below_drew1 HB.out)
                                              clear HO_3
                                              clear HO_5
                                              clear HL186_0
                                              clear HR186_0
                                              clear HB
                                              have HO_3 := n0_
                                              have HO_5 := n1_
                                              have HL186_0 := n2_
                                              have HR186_0 := n3_
                                              have HB := n4_
                                              clear n0_ n1_ n2_ n3_ n4_
                                              have p187 : 0 ≤ (x6_2 : Int) := of_decide_eq_true (by first | (with_reducible assumption) | assumption)
                                              have q187 : x6_2 < (x3_1.length : Int) := of_decide_eq_true (by first | (with_reducible assumption) | assumption)
                                              obtain ⟨ad187, A187_0, c187_0, e187, hx187_0, hl187_0, hi187_0⟩ := at_L4 (Kd.N_reads' HO_3.out).2.2 x6_2 p187 q187
                                              obtain rfl : ad185 = ad187 := (by injection e187)
                                              obtain ⟨ce187, hce187, hMe187, hcc187⟩ := Kd.N_get HO_3.out [] x6_2 p187 (by first | exact q187 | exact of_decide_eq_true (by first | (with_reducible assumption) | assumption) | (have e_ := (Kd.N_reads' HO_3.out).1; omega))
                                              obtain ⟨ua187_0, uc187_0, rfl, ul187_0, ge187_0⟩ := Kd.FK_slice_open hMe187
                                              have hv187_0 := hcc187 0 _ rfl
                                              rw [Nat.add_zero, show ((Kd.slice 54 k54)).sz = 1 from rfl, Nat.mul_one] at hv187_0
                                              replace hv187_0 := Option.some.inj (hv187_0.symm.trans hx187_0)
                                              injection hv187_0 with hva_ hvn_ hvc_
                                              rw [hva_] at ge187_0
                                              rw [hvc_] at ul187_0
                                              have HL187_0 := Aside0.mk (show Kd.V k54 54 _ w.heap.size _ _ (rd_L4 x3_1 x6_2) from Kd.V_mk ul187_0 ge187_0)
                                              clear hva_ hvn_ hvc_ ge187_0 ul187_0
                                              clear hcc187 hce187
                                              have HR187_0 := Aside0.mk hi187_0
                                              have HC187_0 := Aside0.mk hl187_0
                                              clear hi187_0 hl187_0
                                              replace p187 := eq_true p187
                                              replace q187 := eq_true q187
                                              have p188 : 0 ≤ (x7_3 : Int) := of_decide_eq_true (by first | (with_reducible assumption) | assumption)
                                              have q188 : x7_3 < ((rd_L4 x3_1 x6_2).length : Int) := of_decide_eq_true (by first | (with_reducible assumption) | assumption)
                                              obtain ⟨ad188, e188, hx188_0, hx188_1, hx188_2, hx188_3⟩ := at_T54 (by repeat (first | (with_reducible exact HR187_0.out) | (with_reducible refine Kd.C_alloc ?_ _) | (with_reducible refine Kd.C_drewN ?_ _) | (with_reducible refine Kd.C_drew ?_) | exact HR187_0.out)) x7_3 p188 q188
                                              have PL188 : Aside0 (0 < (rd_L4 x3_1 x6_2).length) := ⟨by have h1_ := p188; have h2_ := q188; omega⟩
                                              cases e188
                                              replace p188 := eq_true p188
                                              replace q188 := eq_true q188
                                              have p189 : 0 ≤ ((ji15) : Int) := of_decide_eq_true (by first | (with_reducible assumption) | assumption)
                                              have q189 : (ji15) < (x3_1.length : Int) := of_decide_eq_true (by first | (with_reducible assumption) | assumption)
                                              obtain ⟨ad189, A189_0, c189_0, e189, hx189_0, hl189_0, hi189_0⟩ := at_L4 (Kd.N_reads' HO_3.out).2.2 (ji15) p189 q189
                                              obtain rfl : ad185 = ad189 := (by injection e189)
                                              obtain ⟨ce189, hce189, hMe189, hcc189⟩ := Kd.N_get HO_3.out [] (ji15) p189 (by first | exact q189 | exact of_decide_eq_true (by first | (with_reducible assumption) | assumption) | (have e_ := (Kd.N_reads' HO_3.out).1; omega))
                                              obtain ⟨ua189_0, uc189_0, rfl, ul189_0, ge189_0⟩ := Kd.FK_slice_open hMe189
                                              have hv189_0 := hcc189 0 _ rfl
                                              rw [Nat.add_zero, show ((Kd.slice 54 k54)).sz = 1 from rfl, Nat.mul_one] at hv189_0
                                              replace hv189_0 := Option.some.inj (hv189_0.symm.trans hx189_0)
                                              injection hv189_0 with hva_ hvn_ hvc_
                                              rw [hva_] at ge189_0
                                              rw [hvc_] at ul189_0
                                              have HL189_0 := Aside0.mk (show Kd.V k54 54 _ w.heap.size _ _ (rd_L4 x3_1 (ji15)) from Kd.V_mk ul189_0 ge189_0)
                                              clear hva_ hvn_ hvc_ ge189_0 ul189_0
                                              clear hcc189 hce189
                                              have HR189_0 := Aside0.mk hi189_0
                                              have HC189_0 := Aside0.mk hl189_0
                                              clear hi189_0 hl189_0
                                              replace p189 := eq_true p189
                                              replace q189 := eq_true q189
                                              have p190 : 0 ≤ (x8_4 : Int) := of_decide_eq_true (by first | (with_reducible assumption) | assumption)
                                              have q190 : x8_4 < ((rd_L4 x3_1 (ji15)).length : Int) := of_decide_eq_true (by first | (with_reducible assumption) | assumption)
                                              obtain ⟨ad190, e190, hx190_0, hx190_1, hx190_2, hx190_3⟩ := at_T54 (by repeat (first | (with_reducible exact HR189_0.out) | (with_reducible refine Kd.C_alloc ?_ _) | (with_reducible refine Kd.C_drewN ?_ _) | (with_reducible refine Kd.C_drew ?_) | exact HR189_0.out)) x8_4 p190 q190
                                              have PL190 : Aside0 (0 < (rd_L4 x3_1 (ji15)).length) := ⟨by have h1_ := p190; have h2_ := q190; omega⟩
                                              cases e190
                                              replace p190 := eq_true p190
                                              replace q190 := eq_true q190
                                              refine start_ (n := 21) (S := fun w' => w'.cell? (ad185.add (x6_2).toNat) = some (.slice (some ad188) (rd_L4 x3_1 x6_2).length c187_0) ∧ w'.cell? (ad188.add ((x7_3).toNat * 4)) = some (.int .i64 ((rd_T54 (rd_L4 x3_1 x6_2) x7_3).f0.f0)) ∧ w'.cell? ⟨(ad188.add ((x7_3).toNat * 4)).block, (ad188.add ((x7_3).toNat * 4)).off + 1, none⟩ = some (.int .i64 ((rd_T54 (rd_L4 x3_1 x6_2) x7_3).f0.f1)) ∧ w'.cell? ⟨(ad188.add ((x7_3).toNat * 4)).block, (ad188.add ((x7_3).toNat * 4)).off + 2, none⟩ = some (.int .i64 ((rd_T54 (rd_L4 x3_1 x6_2) x7_3).f1)) ∧ w'.cell? ⟨(ad188.add ((x7_3).toNat * 4)).block, (ad188.add ((x7_3).toNat * 4)).off + 3, none⟩ = some (.string ((rd_T54 (rd_L4 x3_1 x6_2) x7_3).f2)) ∧ w'.cell? (ad185.add ((ji15)).toNat) = some (.slice (some ad190) (rd_L4 x3_1 (ji15)).length c189_0) ∧ w'.cell? (ad190.add ((x8_4).toNat * 4)) = some (.int .i64 ((rd_T54 (rd_L4 x3_1 (ji15)) x8_4).f0.f0)) ∧ w'.cell? ⟨(ad190.add ((x8_4).toNat * 4)).block, (ad190.add ((x8_4).toNat * 4)).off + 1, none⟩ = some (.int .i64 ((rd_T54 (rd_L4 x3_1 (ji15)) x8_4).f0.f1)) ∧ w'.cell? ⟨(ad190.add ((x8_4).toNat * 4)).block, (ad190.add ((x8_4).toNat * 4)).off + 2, none⟩ = some (.int .i64 ((rd_T54 (rd_L4 x3_1 (ji15)) x8_4).f1)) ∧ w'.cell? ⟨(ad190.add ((x8_4).toNat * 4)).block, (ad190.add ((x8_4).toNat * 4)).off + 3, none⟩ = some (.string ((rd_T54 (rd_L4 x3_1 (ji15)) x8_4).f2))) (ds := []) #[false, false, false, false, false, false, false, false, false, false, false, false, false, false, false, false, false, false, false, false, false] (by kernel_rfl) rfl rfl ⟨hx187_0, hx188_0, hx188_1, hx188_2, hx188_3, hx189_0, hx190_0, hx190_1, hx190_2, hx190_3⟩ (fun hHeld => ?_); refine with_tabW spec_l6Table.tab15 spec_l6Table.bits15 (fun HT_ HW_ => ?_)
                                              generalize wr.drew = w56 at HO_3 HO_5 HL186_0 HR186_0 HB HL187_0 HL189_0 HR187_0 HR189_0 hx187_0 hx188_0 hx188_1 hx188_2 hx188_3 hx189_0 hx190_0 hx190_1 hx190_2 hx190_3 hHeld ⊢
                                              refine pure_ (i := 0) (N := some 49) (v := ?_) (a' := ?_) #[true, false, false, false, false, false, false, false, false, false, false, false, false, false, false, false, false, false, false, false, false] rfl rfl (any_of HT_.out (by kernel_rfl)) (fun _ _ _ h => h) (Or.inl ⟨by rfl, ?_⟩) ?_ ?_
                                              rotate_left
                                              · intro w'
                                                go_simp
                                                with_reducible rfl
                                              rotate_left
                                              · simp only [Act.put, List.setIfInBounds_toArray, List.set_cons_zero, List.set_cons_succ, i64_w, i32_w]
                                                rfl
                                              refine pure_ (i := 1) (N := some 50) (v := ?_) (a' := ?_) #[true, true, false, false, false, false, false, false, false, false, false, false, false, false, false, false, false, false, false, false, false] rfl rfl (any_of HT_.out (by kernel_rfl)) (fun _ _ _ h => h) (Or.inl ⟨by rfl, ?_⟩) ?_ ?_
                                              rotate_left
                                              · intro w'
                                                go_simp
                                                with_reducible rfl
                                              rotate_left
                                              · simp only [Act.put, List.setIfInBounds_toArray, List.set_cons_zero, List.set_cons_succ, i64_w, i32_w]
                                                rfl
                                              refine pure_ (i := 2) (N := some 51) (v := ?_) (a' := ?_) #[true, true, true, false, false, false, false, false, false, false, false, false, false, false, false, false, false, false, false, false, false] rfl rfl (any_of HT_.out (by kernel_rfl)) (fun _ _ _ h => h) (Or.inl ⟨by rfl, ?_⟩) ?_ ?_
                                              rotate_left
                                              · intro w'
                                                go_simp
                                                with_reducible rfl
                                              rotate_left
                                              · simp only [Act.put, List.setIfInBounds_toArray, List.set_cons_zero, List.set_cons_succ, i64_w, i32_w]
                                                rfl
                                              refine pure_ (i := 4) (N := some 53) (v := ?_) (a' := ?_) #[true, true, true, false, true, false, false, false, false, false, false, false, false, false, false, false, false, false, false, false, false] rfl rfl (any_of HT_.out (by kernel_rfl)) (fun _ _ _ h => h) (Or.inl ⟨by rfl, ?_⟩) ?_ ?_
                                              rotate_left
                                              · intro w'
                                                go_simp
                                                with_reducible rfl
                                              rotate_left
                                              · simp only [Act.put, List.setIfInBounds_toArray, List.set_cons_zero, List.set_cons_succ, i64_w, i32_w]
                                                rfl
                                              refine pure_ (i := 7) (N := some 56) (v := ?_) (a' := ?_) #[true, true, true, false, true, false, false, true, false, false, false, false, false, false, false, false, false, false, false, false, false] rfl rfl (any_of HT_.out (by kernel_rfl)) (fun _ _ _ h => h) (Or.inl ⟨by rfl, ?_⟩) ?_ ?_
                                              rotate_left
                                              · intro w'
                                                go_simp
                                                with_reducible rfl
                                              rotate_left
                                              · simp only [Act.put, List.setIfInBounds_toArray, List.set_cons_zero, List.set_cons_succ, i64_w, i32_w]
                                                rfl
                                              refine pure_ (i := 8) (N := some 57) (v := ?_) (a' := ?_) #[true, true, true, false, true, false, false, true, true, false, false, false, false, false, false, false, false, false, false, false, false] rfl rfl (any_of HT_.out (by kernel_rfl)) (fun _ _ _ h => h) (Or.inl ⟨by rfl, ?_⟩) ?_ ?_
                                              rotate_left
                                              · intro w'
                                                go_simp
                                                with_reducible rfl
                                              rotate_left
                                              · simp only [Act.put, List.setIfInBounds_toArray, List.set_cons_zero, List.set_cons_succ, i64_w, i32_w]
                                                rfl
                                              refine pure_ (i := 9) (N := some 58) (v := ?_) (a' := ?_) #[true, true, true, false, true, false, false, true, true, true, false, false, false, false, false, false, false, false, false, false, false] rfl rfl (any_of HT_.out (by kernel_rfl)) (fun _ _ _ h => h) (Or.inl ⟨by rfl, ?_⟩) ?_ ?_
                                              rotate_left
                                              · intro w'
                                                go_simp
                                                with_reducible rfl
                                              rotate_left
                                              · simp only [Act.put, List.setIfInBounds_toArray, List.set_cons_zero, List.set_cons_succ, i64_w, i32_w]
                                                rfl
                                              refine pure_ (i := 10) (N := some 59) (v := ?_) (a' := ?_) #[true, true, true, false, true, false, false, true, true, true, true, false, false, false, false, false, false, false, false, false, false] rfl rfl (any_of HT_.out (by kernel_rfl)) (fun _ _ _ h => h) (Or.inl ⟨by rfl, ?_⟩) ?_ ?_
                                              rotate_left
                                              · intro w'
                                                go_simp
                                                with_reducible rfl
                                              rotate_left
                                              · simp only [Act.put, List.setIfInBounds_toArray, List.set_cons_zero, List.set_cons_succ, i64_w, i32_w]
                                                rfl
                                              refine pure_ (i := 11) (N := some 60) (v := ?_) (a' := ?_) #[true, true, true, false, true, false, false, true, true, true, true, true, false, false, false, false, false, false, false, false, false] rfl rfl (any_of HT_.out (by kernel_rfl)) (fun _ _ _ h => h) (Or.inl ⟨by rfl, ?_⟩) ?_ ?_
                                              rotate_left
                                              · intro w'
                                                go_simp
                                                with_reducible rfl
                                              rotate_left
                                              · simp only [Act.put, List.setIfInBounds_toArray, List.set_cons_zero, List.set_cons_succ, i64_w, i32_w]
                                                rfl
                                              refine pure_ (i := 12) (N := some 61) (v := ?_) (a' := ?_) #[true, true, true, false, true, false, false, true, true, true, true, true, true, false, false, false, false, false, false, false, false] rfl rfl (any_of HT_.out (by kernel_rfl)) (fun _ _ _ h => h) (Or.inl ⟨by rfl, ?_⟩) ?_ ?_
                                              rotate_left
                                              · intro w'
                                                go_simp
                                                with_reducible rfl
                                              rotate_left
                                              · simp only [Act.put, List.setIfInBounds_toArray, List.set_cons_zero, List.set_cons_succ, i64_w, i32_w]
                                                rfl
                                              refine pure_ (i := 14) (N := some 63) (v := ?_) (a' := ?_) #[true, true, true, false, true, false, false, true, true, true, true, true, true, false, true, false, false, false, false, false, false] rfl rfl (any_of HT_.out (by kernel_rfl)) (fun _ _ _ h => h) (Or.inl ⟨by rfl, ?_⟩) ?_ ?_
                                              rotate_left
                                              · intro w'
                                                go_simp
                                                with_reducible rfl
                                              rotate_left
                                              · simp only [Act.put, List.setIfInBounds_toArray, List.set_cons_zero, List.set_cons_succ, i64_w, i32_w]
                                                rfl
                                              refine take_ (i := 3) (N := some 52) (v := ?_) (a' := ?_) #[true, true, true, true, true, false, false, true, true, true, true, true, true, false, true, false, false, false, false, false, false] rfl rfl (take_ofW HT_.out HW_.out (by kernel_rfl)) (fun _ _ _ h => h) (Or.inl ⟨by rfl, ?_⟩) hHeld ?_ ?_
                                              rotate_left
                                              · rintro w' ⟨s0, s1, s2, s3, s4, s5, s6, s7, s8, s9⟩
                                                go_simp
                                                with_reducible rfl
                                              rotate_left
                                              · simp only [Act.put, List.setIfInBounds_toArray, List.set_cons_zero, List.set_cons_succ, i64_w, i32_w]
                                                rfl
                                              refine pure_ (i := 5) (N := some 54) (v := ?_) (a' := ?_) #[true, true, true, true, true, true, false, true, true, true, true, true, true, false, true, false, false, false, false, false, false] rfl rfl (any_of HT_.out (by kernel_rfl)) (fun _ _ _ h => h) (Or.inl ⟨by rfl, ?_⟩) ?_ ?_
                                              rotate_left
                                              · intro w'
                                                go_simp
                                                with_reducible rfl
                                              rotate_left
                                              · simp only [Act.put, List.setIfInBounds_toArray, List.set_cons_zero, List.set_cons_succ, i64_w, i32_w]
                                                rfl
                                              refine take_ (i := 6) (N := some 55) (v := ?_) (a' := ?_) #[true, true, true, true, true, true, true, true, true, true, true, true, true, false, true, false, false, false, false, false, false] rfl rfl (take_ofW HT_.out HW_.out (by kernel_rfl)) (fun _ _ _ h => h) (Or.inl ⟨by rfl, ?_⟩) hHeld ?_ ?_
                                              rotate_left
                                              · rintro w' ⟨s0, s1, s2, s3, s4, s5, s6, s7, s8, s9⟩
                                                go_simp
                                                with_reducible rfl
                                              rotate_left
                                              · simp only [Act.put, List.setIfInBounds_toArray, List.set_cons_zero, List.set_cons_succ, i64_w, i32_w]
                                                rfl
                                              refine take_ (i := 13) (N := some 62) (v := ?_) (a' := ?_) #[true, true, true, true, true, true, true, true, true, true, true, true, true, true, true, false, false, false, false, false, false] rfl rfl (take_ofW HT_.out HW_.out (by kernel_rfl)) (fun _ _ _ h => h) (Or.inl ⟨by rfl, ?_⟩) hHeld ?_ ?_
                                              rotate_left
                                              · rintro w' ⟨s0, s1, s2, s3, s4, s5, s6, s7, s8, s9⟩
                                                go_simp
                                                with_reducible rfl
                                              rotate_left
                                              · simp only [Act.put, List.setIfInBounds_toArray, List.set_cons_zero, List.set_cons_succ, i64_w, i32_w]
                                                rfl
                                              refine pure_ (i := 15) (N := some 64) (v := ?_) (a' := ?_) #[true, true, true, true, true, true, true, true, true, true, true, true, true, true, true, true, false, false, false, false, false] rfl rfl (any_of HT_.out (by kernel_rfl)) (fun _ _ _ h => h) (Or.inl ⟨by rfl, ?_⟩) ?_ ?_
                                              rotate_left
                                              · intro w'
                                                go_simp
                                                with_reducible rfl
                                              rotate_left
                                              · simp only [Act.put, List.setIfInBounds_toArray, List.set_cons_zero, List.set_cons_succ, i64_w, i32_w]
                                                rfl
                                              refine take_ (i := 16) (N := some 65) (v := ?_) (a' := ?_) #[true, true, true, true, true, true, true, true, true, true, true, true, true, true, true, true, true, false, false, false, false] rfl rfl (take_ofW HT_.out HW_.out (by kernel_rfl)) (fun _ _ _ h => h) (Or.inl ⟨by rfl, ?_⟩) hHeld ?_ ?_
                                              rotate_left
                                              · rintro w' ⟨s0, s1, s2, s3, s4, s5, s6, s7, s8, s9⟩
                                                go_simp
                                                with_reducible rfl
                                              rotate_left
                                              · simp only [Act.put, List.setIfInBounds_toArray, List.set_cons_zero, List.set_cons_succ, i64_w, i32_w]
                                                rfl
                                              refine join_ (σ := Nat × Nat) 2 #[true, true, true, true, true, true, true, true, true, true, true, true, true, true, true, true, true, true, true, false, false] (fun s_ => [(9, .pointer (some ⟨s_.1, 0, none⟩)), (10, .pointer (some ⟨s_.2, 0, none⟩))]) (fun s_ w' => (w'.cell? (ad185.add (x6_2).toNat) = some (.slice (some ad188) (rd_L4 x3_1 x6_2).length c187_0) ∧ w'.cell? (ad188.add ((x7_3).toNat * 4)) = some (.int .i64 ((rd_T54 (rd_L4 x3_1 x6_2) x7_3).f0.f0)) ∧ w'.cell? ⟨(ad188.add ((x7_3).toNat * 4)).block, (ad188.add ((x7_3).toNat * 4)).off + 1, none⟩ = some (.int .i64 ((rd_T54 (rd_L4 x3_1 x6_2) x7_3).f0.f1)) ∧ w'.cell? ⟨(ad188.add ((x7_3).toNat * 4)).block, (ad188.add ((x7_3).toNat * 4)).off + 2, none⟩ = some (.int .i64 ((rd_T54 (rd_L4 x3_1 x6_2) x7_3).f1)) ∧ w'.cell? ⟨(ad188.add ((x7_3).toNat * 4)).block, (ad188.add ((x7_3).toNat * 4)).off + 3, none⟩ = some (.string ((rd_T54 (rd_L4 x3_1 x6_2) x7_3).f2)) ∧ w'.cell? (ad185.add ((ji15)).toNat) = some (.slice (some ad190) (rd_L4 x3_1 (ji15)).length c189_0) ∧ w'.cell? (ad190.add ((x8_4).toNat * 4)) = some (.int .i64 ((rd_T54 (rd_L4 x3_1 (ji15)) x8_4).f0.f0)) ∧ w'.cell? ⟨(ad190.add ((x8_4).toNat * 4)).block, (ad190.add ((x8_4).toNat * 4)).off + 1, none⟩ = some (.int .i64 ((rd_T54 (rd_L4 x3_1 (ji15)) x8_4).f0.f1)) ∧ w'.cell? ⟨(ad190.add ((x8_4).toNat * 4)).block, (ad190.add ((x8_4).toNat * 4)).off + 2, none⟩ = some (.int .i64 ((rd_T54 (rd_L4 x3_1 (ji15)) x8_4).f1)) ∧ w'.cell? ⟨(ad190.add ((x8_4).toNat * 4)).block, (ad190.add ((x8_4).toNat * 4)).off + 3, none⟩ = some (.string ((rd_T54 (rd_L4 x3_1 (ji15)) x8_4).f2))) ∧ (Kd.V k54 54 w' w.heap.size (fun k_ => (w.heap.size ≤ k_) ∧ some k_ ≠ (.slice (some ad185) x3_1.length co14 : Value).ownBlock ∧ some k_ ≠ (u5 : Value).ownBlock ∧ k_ ≠ s_.1 ∧ k_ ≠ s_.2) (.slice A186_0 (rd_L4 x3_1 (ji15)).length c186_0) (rd_L4 x3_1 (ji15))) ∧ (Kd.V k54 54 w' w.heap.size (fun k_ => (w.heap.size ≤ k_) ∧ some k_ ≠ (.slice (some ad185) x3_1.length co14 : Value).ownBlock ∧ some k_ ≠ (u5 : Value).ownBlock ∧ k_ ≠ s_.1 ∧ k_ ≠ s_.2) (.slice (some ad188) (rd_L4 x3_1 x6_2).length c187_0) (rd_L4 x3_1 x6_2)) ∧ (Kd.V k54 54 w' w.heap.size (fun k_ => (w.heap.size ≤ k_) ∧ some k_ ≠ (.slice (some ad185) x3_1.length co14 : Value).ownBlock ∧ some k_ ≠ (u5 : Value).ownBlock ∧ k_ ≠ s_.1 ∧ k_ ≠ s_.2) (.slice (some ad190) (rd_L4 x3_1 (ji15)).length c189_0) (rd_L4 x3_1 (ji15))) ∧ (Kd.N (Kd.slice 54 k54) 50 w' w.heap.size (fun k_ => (w.heap.size ≤ k_) ∧ some k_ ≠ (u5 : Value).ownBlock ∧ k_ ≠ s_.1 ∧ k_ ≠ s_.2) (.slice (some ad185) x3_1.length co14) x3_1) ∧ (Kd.R k54 54 w' w.heap.size (fun k_ => (w.heap.size ≤ k_) ∧ k_ ≠ s_.1 ∧ k_ ≠ s_.2) u5 x5_4) ∧ (w'.heap[s_.1]? = some (.cells #[.int .i64 0, .int .i64 0, .int .i64 0, .string (⟨#[]⟩ : ByteArray)] 54 (0, 0))) ∧ (w'.heap[s_.2]? = some (.cells #[.int .i64 0, .int .i64 0, .int .i64 0, .string (⟨#[]⟩ : ByteArray)] 54 (0, 0))) ∧ (w.heap.size ≤ s_.1) ∧ (w.heap.size ≤ s_.1) ∧ (s_.2 ≠ s_.1) ∧ (s_.1 ≠ s_.2) ∧ (w.heap.size ≤ s_.2) ∧ (w.heap.size ≤ s_.2) ∧ (Below w.heap.size w w')) ?_ ?_
                                              rotate_left
                                              · intro hCont
                                                refine two_ (i := 17) (j := 18) (Ni := some 9) (Nj := some 10) #[true, true, true, true, true, true, true, true, true, true, true, true, true, true, true, true, true, true, false, false, false] #[true, true, true, true, true, true, true, true, true, true, true, true, true, true, true, true, true, false, true, false, false] rfl rfl rfl rfl (two_of HT_.out (by kernel_rfl)) (by decide) (by decide) (fun K hK => ?_) (fun K hK => ?_)
                                                · skip
                                                  refine box_step ?hg (N := 9) ?hd (cs := #[.int .i64 0, .int .i64 0, .int .i64 0, .string (⟨#[]⟩ : ByteArray)]) (t := 54) ?hr ?_; (case hd => rfl); (case hg => rfl); (case hr => first | (go_simp; done) | (go_simp; rfl))
                                                  intro gb191 hg w57 hbox hb
                                                  have HS0_ := (hb.cell (World.block_lt_of_cell? _ _ (hHeld.1))).trans (hHeld.1)
                                                  have HS1_ := (hb.cell (World.block_lt_of_cell? _ _ (hHeld.2.1))).trans (hHeld.2.1)
                                                  have HS2_ := (hb.cell (World.block_lt_of_cell? _ _ (hHeld.2.2.1))).trans (hHeld.2.2.1)
                                                  have HS3_ := (hb.cell (World.block_lt_of_cell? _ _ (hHeld.2.2.2.1))).trans (hHeld.2.2.2.1)
                                                  have HS4_ := (hb.cell (World.block_lt_of_cell? _ _ (hHeld.2.2.2.2.1))).trans (hHeld.2.2.2.2.1)
                                                  have HS5_ := (hb.cell (World.block_lt_of_cell? _ _ (hHeld.2.2.2.2.2.1))).trans (hHeld.2.2.2.2.2.1)
                                                  have HS6_ := (hb.cell (World.block_lt_of_cell? _ _ (hHeld.2.2.2.2.2.2.1))).trans (hHeld.2.2.2.2.2.2.1)
                                                  have HS7_ := (hb.cell (World.block_lt_of_cell? _ _ (hHeld.2.2.2.2.2.2.2.1))).trans (hHeld.2.2.2.2.2.2.2.1)
                                                  have HS8_ := (hb.cell (World.block_lt_of_cell? _ _ (hHeld.2.2.2.2.2.2.2.2.1))).trans (hHeld.2.2.2.2.2.2.2.2.1)
                                                  have HS9_ := (hb.cell (World.block_lt_of_cell? _ _ (hHeld.2.2.2.2.2.2.2.2.2))).trans (hHeld.2.2.2.2.2.2.2.2.2)
                                                  have n0_ := Aside0.mk (Kd.N_below (Kd.N_elderB (by (with_reducible repeat (first | apply Kd.N_alloc | apply Kd.N_drewN | apply Kd.N_drew)); exact HO_3.out) gb191 (Nat.le_of_eq hg.symm)) hb)
                                                  have n1_ := Aside0.mk (Kd.R_below (Kd.R_elderB (by (with_reducible repeat (first | apply Kd.R_alloc | apply Kd.R_drewN | apply Kd.R_drew)); exact HO_5.out) gb191 (Nat.le_of_eq hg.symm)) hb)
                                                  have n2_ := Aside0.mk (Kd.V_below (Kd.V_elderB (by (with_reducible repeat (first | apply Kd.V_alloc | apply Kd.V_drewN | apply Kd.V_drew)); exact HL186_0.out) gb191 (Nat.le_of_eq hg.symm)) hb)
                                                  have n3_ := Aside0.mk (Kd.V_below (Kd.V_elderB (by (with_reducible repeat (first | apply Kd.V_alloc | apply Kd.V_drewN | apply Kd.V_drew)); exact HL187_0.out) gb191 (Nat.le_of_eq hg.symm)) hb)
                                                  have n4_ := Aside0.mk (Kd.V_below (Kd.V_elderB (by (with_reducible repeat (first | apply Kd.V_alloc | apply Kd.V_drewN | apply Kd.V_drew)); exact HL189_0.out) gb191 (Nat.le_of_eq hg.symm)) hb)
                                                  have n5_ := Aside0.mk (Kd.C_below (by repeat (first | (with_reducible exact HR186_0.out) | (with_reducible refine Kd.C_alloc ?_ _) | (with_reducible refine Kd.C_drewN ?_ _) | (with_reducible refine Kd.C_drew ?_) | exact HR186_0.out)) hb)
                                                  have n6_ := Aside0.mk (Kd.C_below (by repeat (first | (with_reducible exact HR187_0.out) | (with_reducible refine Kd.C_alloc ?_ _) | (with_reducible refine Kd.C_drewN ?_ _) | (with_reducible refine Kd.C_drew ?_) | exact HR187_0.out)) hb)
                                                  have n7_ := Aside0.mk (Kd.C_below (by repeat (first | (with_reducible exact HR189_0.out) | (with_reducible refine Kd.C_alloc ?_ _) | (with_reducible refine Kd.C_drewN ?_ _) | (with_reducible refine Kd.C_drew ?_) | exact HR189_0.out)) hb)
                                                  have n8_ := Aside0.mk (below_step (by repeat (first | (with_reducible first | exact HB.out | apply below_alloc | apply pw_below_drewN | apply below_drew1) | exact HB.out)) hb)
                                                  have n9_ := Aside0.mk (hbox)
                                                  have n10_ := Aside0.mk ((by rw [hg]; exact (below_size (by repeat (first | (with_reducible first | exact HB.out | apply below_alloc | apply pw_below_drewN | apply below_drew1) | exact HB.out))) : w.heap.size ≤ gb191))
                                                  have n11_ := Aside0.mk ((by rw [hg]; exact (below_size (by repeat (first | (with_reducible first | exact HB.out | apply below_alloc | apply pw_below_drewN | apply below_drew1) | exact HB.out))) : w.heap.size ≤ gb191))
                                                  clear HO_3
                                                  clear HO_5
                                                  clear HL186_0
                                                  clear HL187_0
                                                  clear HL189_0
                                                  clear HR186_0
                                                  clear HR187_0
                                                  clear HR189_0
                                                  clear HB
                                                  have HO_3 := n0_
                                                  have HO_5 := n1_
                                                  have HL186_0 := n2_
                                                  have HL187_0 := n3_
                                                  have HL189_0 := n4_
                                                  have HR186_0 := n5_
                                                  have HR187_0 := n6_
                                                  have HR189_0 := n7_
                                                  have HB := n8_
                                                  have BK191 := n9_
                                                  have GW191 := n10_
                                                  have GE191 := n11_
                                                  clear n0_ n1_ n2_ n3_ n4_ n5_ n6_ n7_ n8_ n9_ n10_ n11_
                                                  clear hb hbox hg
                                                  refine hK.out _ _ ⟨HS0_, HS1_, HS2_, HS3_, HS4_, HS5_, HS6_, HS7_, HS8_, HS9_⟩ (fun hHeld => ?_)
                                                  clear hK K
                                                  refine norm_ (a' := ?_) ?_ ?_
                                                  rotate_left
                                                  · show Act.put _ (some 9) _ = _
                                                    simp only [Act.put, List.setIfInBounds_toArray, List.set_cons_zero, List.set_cons_succ, i64_w, i32_w]
                                                    rfl
                                                  refine one_ (i := 18) (N := some 10) #[true, true, true, true, true, true, true, true, true, true, true, true, true, true, true, true, true, true, true, false, false] rfl rfl (one_of HT_.out (by kernel_rfl)) (by decide) (fun K hK => ?_)
                                                  refine box_step ?hg (N := 10) ?hd (cs := #[.int .i64 0, .int .i64 0, .int .i64 0, .string (⟨#[]⟩ : ByteArray)]) (t := 54) ?hr ?_; (case hd => rfl); (case hg => rfl); (case hr => first | (go_simp; done) | (go_simp; rfl))
                                                  intro gb192 hg w58 hbox hb
                                                  have HS0_ := (hb.cell (World.block_lt_of_cell? _ _ (hHeld.1))).trans (hHeld.1)
                                                  have HS1_ := (hb.cell (World.block_lt_of_cell? _ _ (hHeld.2.1))).trans (hHeld.2.1)
                                                  have HS2_ := (hb.cell (World.block_lt_of_cell? _ _ (hHeld.2.2.1))).trans (hHeld.2.2.1)
                                                  have HS3_ := (hb.cell (World.block_lt_of_cell? _ _ (hHeld.2.2.2.1))).trans (hHeld.2.2.2.1)
                                                  have HS4_ := (hb.cell (World.block_lt_of_cell? _ _ (hHeld.2.2.2.2.1))).trans (hHeld.2.2.2.2.1)
                                                  have HS5_ := (hb.cell (World.block_lt_of_cell? _ _ (hHeld.2.2.2.2.2.1))).trans (hHeld.2.2.2.2.2.1)
                                                  have HS6_ := (hb.cell (World.block_lt_of_cell? _ _ (hHeld.2.2.2.2.2.2.1))).trans (hHeld.2.2.2.2.2.2.1)
                                                  have HS7_ := (hb.cell (World.block_lt_of_cell? _ _ (hHeld.2.2.2.2.2.2.2.1))).trans (hHeld.2.2.2.2.2.2.2.1)
                                                  have HS8_ := (hb.cell (World.block_lt_of_cell? _ _ (hHeld.2.2.2.2.2.2.2.2.1))).trans (hHeld.2.2.2.2.2.2.2.2.1)
                                                  have HS9_ := (hb.cell (World.block_lt_of_cell? _ _ (hHeld.2.2.2.2.2.2.2.2.2))).trans (hHeld.2.2.2.2.2.2.2.2.2)
                                                  have n0_ := Aside0.mk (Kd.N_below (Kd.N_elderB (by (with_reducible repeat (first | apply Kd.N_alloc | apply Kd.N_drewN | apply Kd.N_drew)); exact HO_3.out) gb192 (Nat.le_of_eq hg.symm)) hb)
                                                  have n1_ := Aside0.mk (Kd.R_below (Kd.R_elderB (by (with_reducible repeat (first | apply Kd.R_alloc | apply Kd.R_drewN | apply Kd.R_drew)); exact HO_5.out) gb192 (Nat.le_of_eq hg.symm)) hb)
                                                  have n2_ := Aside0.mk (Kd.V_below (Kd.V_elderB (by (with_reducible repeat (first | apply Kd.V_alloc | apply Kd.V_drewN | apply Kd.V_drew)); exact HL186_0.out) gb192 (Nat.le_of_eq hg.symm)) hb)
                                                  have n3_ := Aside0.mk (Kd.V_below (Kd.V_elderB (by (with_reducible repeat (first | apply Kd.V_alloc | apply Kd.V_drewN | apply Kd.V_drew)); exact HL187_0.out) gb192 (Nat.le_of_eq hg.symm)) hb)
                                                  have n4_ := Aside0.mk (Kd.V_below (Kd.V_elderB (by (with_reducible repeat (first | apply Kd.V_alloc | apply Kd.V_drewN | apply Kd.V_drew)); exact HL189_0.out) gb192 (Nat.le_of_eq hg.symm)) hb)
                                                  have n5_ := Aside0.mk (Kd.C_below (by repeat (first | (with_reducible exact HR186_0.out) | (with_reducible refine Kd.C_alloc ?_ _) | (with_reducible refine Kd.C_drewN ?_ _) | (with_reducible refine Kd.C_drew ?_) | exact HR186_0.out)) hb)
                                                  have n6_ := Aside0.mk (Kd.C_below (by repeat (first | (with_reducible exact HR187_0.out) | (with_reducible refine Kd.C_alloc ?_ _) | (with_reducible refine Kd.C_drewN ?_ _) | (with_reducible refine Kd.C_drew ?_) | exact HR187_0.out)) hb)
                                                  have n7_ := Aside0.mk (Kd.C_below (by repeat (first | (with_reducible exact HR189_0.out) | (with_reducible refine Kd.C_alloc ?_ _) | (with_reducible refine Kd.C_drewN ?_ _) | (with_reducible refine Kd.C_drew ?_) | exact HR189_0.out)) hb)
                                                  have n8_ := Aside0.mk (blk_below (g := gb191) (o := .cells #[.int .i64 0, .int .i64 0, .int .i64 0, .string (⟨#[]⟩ : ByteArray)] 54 (0, 0)) (by (with_reducible repeat (first | refine blk_drewN ?_ _ | refine blk_drew ?_ | refine blk_alloc ?_ _)); exact BK191.out) hb)
                                                  have n9_ := Aside0.mk (below_step (by repeat (first | (with_reducible first | exact HB.out | apply below_alloc | apply pw_below_drewN | apply below_drew1 | refine below_set ?_ GE191.out) | exact HB.out)) hb)
                                                  have n10_ := Aside0.mk (hbox)
                                                  have n11_ := Aside0.mk ((by rw [hg]; exact (below_size (by repeat (first | (with_reducible first | exact HB.out | apply below_alloc | apply pw_below_drewN | apply below_drew1 | refine below_set ?_ GE191.out) | exact HB.out))) : w.heap.size ≤ gb192))
                                                  have n12_ := Aside0.mk ((by rw [hg]; exact (below_size (by repeat (first | (with_reducible first | exact HB.out | apply below_alloc | apply pw_below_drewN | apply below_drew1 | refine below_set ?_ GE191.out) | exact HB.out))) : w.heap.size ≤ gb192))
                                                  have n13_ := Aside0.mk ((by rw [hg]; exact Nat.ne_of_lt (blk_lt (g := gb191) (o := .cells #[.int .i64 0, .int .i64 0, .int .i64 0, .string (⟨#[]⟩ : ByteArray)] 54 (0, 0)) (by (with_reducible repeat (first | refine blk_drewN ?_ _ | refine blk_drew ?_ | refine blk_alloc ?_ _)); exact BK191.out)) : gb191 ≠ gb192))
                                                  have n14_ := Aside0.mk ((by rw [hg]; exact Nat.ne_of_gt (blk_lt (g := gb191) (o := .cells #[.int .i64 0, .int .i64 0, .int .i64 0, .string (⟨#[]⟩ : ByteArray)] 54 (0, 0)) (by (with_reducible repeat (first | refine blk_drewN ?_ _ | refine blk_drew ?_ | refine blk_alloc ?_ _)); exact BK191.out)) : gb192 ≠ gb191))
                                                  clear HO_3
                                                  clear HO_5
                                                  clear HL186_0
                                                  clear HL187_0
                                                  clear HL189_0
                                                  clear HR186_0
                                                  clear HR187_0
                                                  clear HR189_0
                                                  clear BK191
                                                  clear HB
                                                  have HO_3 := n0_
                                                  have HO_5 := n1_
                                                  have HL186_0 := n2_
                                                  have HL187_0 := n3_
                                                  have HL189_0 := n4_
                                                  have HR186_0 := n5_
                                                  have HR187_0 := n6_
                                                  have HR189_0 := n7_
                                                  have BK191 := n8_
                                                  have HB := n9_
                                                  have BK192 := n10_
                                                  have GW192 := n11_
                                                  have GE192 := n12_
                                                  have NB191_192 := n13_
                                                  have NB192_191 := n14_
                                                  clear n0_ n1_ n2_ n3_ n4_ n5_ n6_ n7_ n8_ n9_ n10_ n11_ n12_ n13_ n14_
                                                  clear hb hbox hg
                                                  refine hK.out _ _ ⟨HS0_, HS1_, HS2_, HS3_, HS4_, HS5_, HS6_, HS7_, HS8_, HS9_⟩ (fun hHeld => ?_)
                                                  clear hK K
                                                  refine norm_ (a' := ?_) ?_ ?_
                                                  rotate_left
                                                  · show Act.put _ (some 10) _ = _
                                                    simp only [Act.put, List.setIfInBounds_toArray, List.set_cons_zero, List.set_cons_succ, i64_w, i32_w]
                                                    rfl
                                                  exact norm_ (by simp only [putAll, Act.put, List.setIfInBounds_toArray, List.set_cons_zero, List.set_cons_succ]) (hCont (gb191, gb192) _ ⟨hHeld, (by (with_reducible repeat (first | apply Kd.V_alloc | apply Kd.V_drewN | apply Kd.V_drew)); exact Kd.V_mono HL186_0.out (fun _ hk => ⟨hk.1.1.1.1, ⟨hk.1.1.2, ⟨hk.1.1.1.2, ⟨hk.1.2, hk.2⟩⟩⟩⟩)), (by (with_reducible repeat (first | apply Kd.V_alloc | apply Kd.V_drewN | apply Kd.V_drew)); exact Kd.V_mono HL187_0.out (fun _ hk => ⟨hk.1.1.1.1, ⟨hk.1.1.2, ⟨hk.1.1.1.2, ⟨hk.1.2, hk.2⟩⟩⟩⟩)), (by (with_reducible repeat (first | apply Kd.V_alloc | apply Kd.V_drewN | apply Kd.V_drew)); exact Kd.V_mono HL189_0.out (fun _ hk => ⟨hk.1.1.1.1, ⟨hk.1.1.2, ⟨hk.1.1.1.2, ⟨hk.1.2, hk.2⟩⟩⟩⟩)), (by (with_reducible repeat (first | apply Kd.N_alloc | apply Kd.N_drewN | apply Kd.N_drew)); exact Kd.N_mono HO_3.out (fun _ hk => ⟨hk.1.1.1, ⟨hk.1.1.2, ⟨hk.1.2, hk.2⟩⟩⟩)), (by (with_reducible repeat (first | apply Kd.R_alloc | apply Kd.R_drewN | apply Kd.R_drew)); exact Kd.R_mono HO_5.out (fun _ hk => ⟨hk.1.1, ⟨hk.1.2, hk.2⟩⟩)), (by (with_reducible repeat (first | refine blk_drewN ?_ _ | refine blk_drew ?_ | refine blk_alloc ?_ _)); exact BK191.out), (by (with_reducible repeat (first | refine blk_drewN ?_ _ | refine blk_drew ?_ | refine blk_alloc ?_ _)); exact BK192.out), GW191.out, GE191.out, NB192_191.out, NB191_192.out, GW192.out, GE192.out, (by repeat (first | (with_reducible first | exact HB.out | apply below_alloc | apply pw_below_drewN | apply below_drew1 | refine below_set ?_ GE191.out | refine below_set ?_ GE192.out) | exact HB.out))⟩)
                                                · skip
                                                  refine box_step ?hg (N := 10) ?hd (cs := #[.int .i64 0, .int .i64 0, .int .i64 0, .string (⟨#[]⟩ : ByteArray)]) (t := 54) ?hr ?_; (case hd => rfl); (case hg => rfl); (case hr => first | (go_simp; done) | (go_simp; rfl))
                                                  intro gb192 hg w57 hbox hb
                                                  have HS0_ := (hb.cell (World.block_lt_of_cell? _ _ (hHeld.1))).trans (hHeld.1)
                                                  have HS1_ := (hb.cell (World.block_lt_of_cell? _ _ (hHeld.2.1))).trans (hHeld.2.1)
                                                  have HS2_ := (hb.cell (World.block_lt_of_cell? _ _ (hHeld.2.2.1))).trans (hHeld.2.2.1)
                                                  have HS3_ := (hb.cell (World.block_lt_of_cell? _ _ (hHeld.2.2.2.1))).trans (hHeld.2.2.2.1)
                                                  have HS4_ := (hb.cell (World.block_lt_of_cell? _ _ (hHeld.2.2.2.2.1))).trans (hHeld.2.2.2.2.1)
                                                  have HS5_ := (hb.cell (World.block_lt_of_cell? _ _ (hHeld.2.2.2.2.2.1))).trans (hHeld.2.2.2.2.2.1)
                                                  have HS6_ := (hb.cell (World.block_lt_of_cell? _ _ (hHeld.2.2.2.2.2.2.1))).trans (hHeld.2.2.2.2.2.2.1)
                                                  have HS7_ := (hb.cell (World.block_lt_of_cell? _ _ (hHeld.2.2.2.2.2.2.2.1))).trans (hHeld.2.2.2.2.2.2.2.1)
                                                  have HS8_ := (hb.cell (World.block_lt_of_cell? _ _ (hHeld.2.2.2.2.2.2.2.2.1))).trans (hHeld.2.2.2.2.2.2.2.2.1)
                                                  have HS9_ := (hb.cell (World.block_lt_of_cell? _ _ (hHeld.2.2.2.2.2.2.2.2.2))).trans (hHeld.2.2.2.2.2.2.2.2.2)
                                                  have n0_ := Aside0.mk (Kd.N_below (Kd.N_elderB (by (with_reducible repeat (first | apply Kd.N_alloc | apply Kd.N_drewN | apply Kd.N_drew)); exact HO_3.out) gb192 (Nat.le_of_eq hg.symm)) hb)
                                                  have n1_ := Aside0.mk (Kd.R_below (Kd.R_elderB (by (with_reducible repeat (first | apply Kd.R_alloc | apply Kd.R_drewN | apply Kd.R_drew)); exact HO_5.out) gb192 (Nat.le_of_eq hg.symm)) hb)
                                                  have n2_ := Aside0.mk (Kd.V_below (Kd.V_elderB (by (with_reducible repeat (first | apply Kd.V_alloc | apply Kd.V_drewN | apply Kd.V_drew)); exact HL186_0.out) gb192 (Nat.le_of_eq hg.symm)) hb)
                                                  have n3_ := Aside0.mk (Kd.V_below (Kd.V_elderB (by (with_reducible repeat (first | apply Kd.V_alloc | apply Kd.V_drewN | apply Kd.V_drew)); exact HL187_0.out) gb192 (Nat.le_of_eq hg.symm)) hb)
                                                  have n4_ := Aside0.mk (Kd.V_below (Kd.V_elderB (by (with_reducible repeat (first | apply Kd.V_alloc | apply Kd.V_drewN | apply Kd.V_drew)); exact HL189_0.out) gb192 (Nat.le_of_eq hg.symm)) hb)
                                                  have n5_ := Aside0.mk (Kd.C_below (by repeat (first | (with_reducible exact HR186_0.out) | (with_reducible refine Kd.C_alloc ?_ _) | (with_reducible refine Kd.C_drewN ?_ _) | (with_reducible refine Kd.C_drew ?_) | exact HR186_0.out)) hb)
                                                  have n6_ := Aside0.mk (Kd.C_below (by repeat (first | (with_reducible exact HR187_0.out) | (with_reducible refine Kd.C_alloc ?_ _) | (with_reducible refine Kd.C_drewN ?_ _) | (with_reducible refine Kd.C_drew ?_) | exact HR187_0.out)) hb)
                                                  have n7_ := Aside0.mk (Kd.C_below (by repeat (first | (with_reducible exact HR189_0.out) | (with_reducible refine Kd.C_alloc ?_ _) | (with_reducible refine Kd.C_drewN ?_ _) | (with_reducible refine Kd.C_drew ?_) | exact HR189_0.out)) hb)
                                                  have n8_ := Aside0.mk (below_step (by repeat (first | (with_reducible first | exact HB.out | apply below_alloc | apply pw_below_drewN | apply below_drew1) | exact HB.out)) hb)
                                                  have n9_ := Aside0.mk (hbox)
                                                  have n10_ := Aside0.mk ((by rw [hg]; exact (below_size (by repeat (first | (with_reducible first | exact HB.out | apply below_alloc | apply pw_below_drewN | apply below_drew1) | exact HB.out))) : w.heap.size ≤ gb192))
                                                  have n11_ := Aside0.mk ((by rw [hg]; exact (below_size (by repeat (first | (with_reducible first | exact HB.out | apply below_alloc | apply pw_below_drewN | apply below_drew1) | exact HB.out))) : w.heap.size ≤ gb192))
                                                  clear HO_3
                                                  clear HO_5
                                                  clear HL186_0
                                                  clear HL187_0
                                                  clear HL189_0
                                                  clear HR186_0
                                                  clear HR187_0
                                                  clear HR189_0
                                                  clear HB
                                                  have HO_3 := n0_
                                                  have HO_5 := n1_
                                                  have HL186_0 := n2_
                                                  have HL187_0 := n3_
                                                  have HL189_0 := n4_
                                                  have HR186_0 := n5_
                                                  have HR187_0 := n6_
                                                  have HR189_0 := n7_
                                                  have HB := n8_
                                                  have BK192 := n9_
                                                  have GW192 := n10_
                                                  have GE192 := n11_
                                                  clear n0_ n1_ n2_ n3_ n4_ n5_ n6_ n7_ n8_ n9_ n10_ n11_
                                                  clear hb hbox hg
                                                  refine hK.out _ _ ⟨HS0_, HS1_, HS2_, HS3_, HS4_, HS5_, HS6_, HS7_, HS8_, HS9_⟩ (fun hHeld => ?_)
                                                  clear hK K
                                                  refine norm_ (a' := ?_) ?_ ?_
                                                  rotate_left
                                                  · show Act.put _ (some 10) _ = _
                                                    simp only [Act.put, List.setIfInBounds_toArray, List.set_cons_zero, List.set_cons_succ, i64_w, i32_w]
                                                    rfl
                                                  refine one_ (i := 17) (N := some 9) #[true, true, true, true, true, true, true, true, true, true, true, true, true, true, true, true, true, true, true, false, false] rfl rfl (one_of HT_.out (by kernel_rfl)) (by decide) (fun K hK => ?_)
                                                  refine box_step ?hg (N := 9) ?hd (cs := #[.int .i64 0, .int .i64 0, .int .i64 0, .string (⟨#[]⟩ : ByteArray)]) (t := 54) ?hr ?_; (case hd => rfl); (case hg => rfl); (case hr => first | (go_simp; done) | (go_simp; rfl))
                                                  intro gb191 hg w58 hbox hb
                                                  have HS0_ := (hb.cell (World.block_lt_of_cell? _ _ (hHeld.1))).trans (hHeld.1)
                                                  have HS1_ := (hb.cell (World.block_lt_of_cell? _ _ (hHeld.2.1))).trans (hHeld.2.1)
                                                  have HS2_ := (hb.cell (World.block_lt_of_cell? _ _ (hHeld.2.2.1))).trans (hHeld.2.2.1)
                                                  have HS3_ := (hb.cell (World.block_lt_of_cell? _ _ (hHeld.2.2.2.1))).trans (hHeld.2.2.2.1)
                                                  have HS4_ := (hb.cell (World.block_lt_of_cell? _ _ (hHeld.2.2.2.2.1))).trans (hHeld.2.2.2.2.1)
                                                  have HS5_ := (hb.cell (World.block_lt_of_cell? _ _ (hHeld.2.2.2.2.2.1))).trans (hHeld.2.2.2.2.2.1)
                                                  have HS6_ := (hb.cell (World.block_lt_of_cell? _ _ (hHeld.2.2.2.2.2.2.1))).trans (hHeld.2.2.2.2.2.2.1)
                                                  have HS7_ := (hb.cell (World.block_lt_of_cell? _ _ (hHeld.2.2.2.2.2.2.2.1))).trans (hHeld.2.2.2.2.2.2.2.1)
                                                  have HS8_ := (hb.cell (World.block_lt_of_cell? _ _ (hHeld.2.2.2.2.2.2.2.2.1))).trans (hHeld.2.2.2.2.2.2.2.2.1)
                                                  have HS9_ := (hb.cell (World.block_lt_of_cell? _ _ (hHeld.2.2.2.2.2.2.2.2.2))).trans (hHeld.2.2.2.2.2.2.2.2.2)
                                                  have n0_ := Aside0.mk (Kd.N_below (Kd.N_elderB (by (with_reducible repeat (first | apply Kd.N_alloc | apply Kd.N_drewN | apply Kd.N_drew)); exact HO_3.out) gb191 (Nat.le_of_eq hg.symm)) hb)
                                                  have n1_ := Aside0.mk (Kd.R_below (Kd.R_elderB (by (with_reducible repeat (first | apply Kd.R_alloc | apply Kd.R_drewN | apply Kd.R_drew)); exact HO_5.out) gb191 (Nat.le_of_eq hg.symm)) hb)
                                                  have n2_ := Aside0.mk (Kd.V_below (Kd.V_elderB (by (with_reducible repeat (first | apply Kd.V_alloc | apply Kd.V_drewN | apply Kd.V_drew)); exact HL186_0.out) gb191 (Nat.le_of_eq hg.symm)) hb)
                                                  have n3_ := Aside0.mk (Kd.V_below (Kd.V_elderB (by (with_reducible repeat (first | apply Kd.V_alloc | apply Kd.V_drewN | apply Kd.V_drew)); exact HL187_0.out) gb191 (Nat.le_of_eq hg.symm)) hb)
                                                  have n4_ := Aside0.mk (Kd.V_below (Kd.V_elderB (by (with_reducible repeat (first | apply Kd.V_alloc | apply Kd.V_drewN | apply Kd.V_drew)); exact HL189_0.out) gb191 (Nat.le_of_eq hg.symm)) hb)
                                                  have n5_ := Aside0.mk (Kd.C_below (by repeat (first | (with_reducible exact HR186_0.out) | (with_reducible refine Kd.C_alloc ?_ _) | (with_reducible refine Kd.C_drewN ?_ _) | (with_reducible refine Kd.C_drew ?_) | exact HR186_0.out)) hb)
                                                  have n6_ := Aside0.mk (Kd.C_below (by repeat (first | (with_reducible exact HR187_0.out) | (with_reducible refine Kd.C_alloc ?_ _) | (with_reducible refine Kd.C_drewN ?_ _) | (with_reducible refine Kd.C_drew ?_) | exact HR187_0.out)) hb)
                                                  have n7_ := Aside0.mk (Kd.C_below (by repeat (first | (with_reducible exact HR189_0.out) | (with_reducible refine Kd.C_alloc ?_ _) | (with_reducible refine Kd.C_drewN ?_ _) | (with_reducible refine Kd.C_drew ?_) | exact HR189_0.out)) hb)
                                                  have n8_ := Aside0.mk (blk_below (g := gb192) (o := .cells #[.int .i64 0, .int .i64 0, .int .i64 0, .string (⟨#[]⟩ : ByteArray)] 54 (0, 0)) (by (with_reducible repeat (first | refine blk_drewN ?_ _ | refine blk_drew ?_ | refine blk_alloc ?_ _)); exact BK192.out) hb)
                                                  have n9_ := Aside0.mk (below_step (by repeat (first | (with_reducible first | exact HB.out | apply below_alloc | apply pw_below_drewN | apply below_drew1 | refine below_set ?_ GE192.out) | exact HB.out)) hb)
                                                  have n10_ := Aside0.mk (hbox)
                                                  have n11_ := Aside0.mk ((by rw [hg]; exact (below_size (by repeat (first | (with_reducible first | exact HB.out | apply below_alloc | apply pw_below_drewN | apply below_drew1 | refine below_set ?_ GE192.out) | exact HB.out))) : w.heap.size ≤ gb191))
                                                  have n12_ := Aside0.mk ((by rw [hg]; exact (below_size (by repeat (first | (with_reducible first | exact HB.out | apply below_alloc | apply pw_below_drewN | apply below_drew1 | refine below_set ?_ GE192.out) | exact HB.out))) : w.heap.size ≤ gb191))
                                                  have n13_ := Aside0.mk ((by rw [hg]; exact Nat.ne_of_lt (blk_lt (g := gb192) (o := .cells #[.int .i64 0, .int .i64 0, .int .i64 0, .string (⟨#[]⟩ : ByteArray)] 54 (0, 0)) (by (with_reducible repeat (first | refine blk_drewN ?_ _ | refine blk_drew ?_ | refine blk_alloc ?_ _)); exact BK192.out)) : gb192 ≠ gb191))
                                                  have n14_ := Aside0.mk ((by rw [hg]; exact Nat.ne_of_gt (blk_lt (g := gb192) (o := .cells #[.int .i64 0, .int .i64 0, .int .i64 0, .string (⟨#[]⟩ : ByteArray)] 54 (0, 0)) (by (with_reducible repeat (first | refine blk_drewN ?_ _ | refine blk_drew ?_ | refine blk_alloc ?_ _)); exact BK192.out)) : gb191 ≠ gb192))
                                                  clear HO_3
                                                  clear HO_5
                                                  clear HL186_0
                                                  clear HL187_0
                                                  clear HL189_0
                                                  clear HR186_0
                                                  clear HR187_0
                                                  clear HR189_0
                                                  clear BK192
                                                  clear HB
                                                  have HO_3 := n0_
                                                  have HO_5 := n1_
                                                  have HL186_0 := n2_
                                                  have HL187_0 := n3_
                                                  have HL189_0 := n4_
                                                  have HR186_0 := n5_
                                                  have HR187_0 := n6_
                                                  have HR189_0 := n7_
                                                  have BK192 := n8_
                                                  have HB := n9_
                                                  have BK191 := n10_
                                                  have GW191 := n11_
                                                  have GE191 := n12_
                                                  have NB192_191 := n13_
                                                  have NB191_192 := n14_
                                                  clear n0_ n1_ n2_ n3_ n4_ n5_ n6_ n7_ n8_ n9_ n10_ n11_ n12_ n13_ n14_
                                                  clear hb hbox hg
                                                  refine hK.out _ _ ⟨HS0_, HS1_, HS2_, HS3_, HS4_, HS5_, HS6_, HS7_, HS8_, HS9_⟩ (fun hHeld => ?_)
                                                  clear hK K
                                                  refine norm_ (a' := ?_) ?_ ?_
                                                  rotate_left
                                                  · show Act.put _ (some 9) _ = _
                                                    simp only [Act.put, List.setIfInBounds_toArray, List.set_cons_zero, List.set_cons_succ, i64_w, i32_w]
                                                    rfl
                                                  exact norm_ (by simp only [putAll, Act.put, List.setIfInBounds_toArray, List.set_cons_zero, List.set_cons_succ]) (hCont (gb191, gb192) _ ⟨hHeld, (by (with_reducible repeat (first | apply Kd.V_alloc | apply Kd.V_drewN | apply Kd.V_drew)); exact Kd.V_mono HL186_0.out (fun _ hk => ⟨hk.1.1.1.1, ⟨hk.1.1.2, ⟨hk.1.1.1.2, ⟨hk.2, hk.1.2⟩⟩⟩⟩)), (by (with_reducible repeat (first | apply Kd.V_alloc | apply Kd.V_drewN | apply Kd.V_drew)); exact Kd.V_mono HL187_0.out (fun _ hk => ⟨hk.1.1.1.1, ⟨hk.1.1.2, ⟨hk.1.1.1.2, ⟨hk.2, hk.1.2⟩⟩⟩⟩)), (by (with_reducible repeat (first | apply Kd.V_alloc | apply Kd.V_drewN | apply Kd.V_drew)); exact Kd.V_mono HL189_0.out (fun _ hk => ⟨hk.1.1.1.1, ⟨hk.1.1.2, ⟨hk.1.1.1.2, ⟨hk.2, hk.1.2⟩⟩⟩⟩)), (by (with_reducible repeat (first | apply Kd.N_alloc | apply Kd.N_drewN | apply Kd.N_drew)); exact Kd.N_mono HO_3.out (fun _ hk => ⟨hk.1.1.1, ⟨hk.1.1.2, ⟨hk.2, hk.1.2⟩⟩⟩)), (by (with_reducible repeat (first | apply Kd.R_alloc | apply Kd.R_drewN | apply Kd.R_drew)); exact Kd.R_mono HO_5.out (fun _ hk => ⟨hk.1.1, ⟨hk.2, hk.1.2⟩⟩)), (by (with_reducible repeat (first | refine blk_drewN ?_ _ | refine blk_drew ?_ | refine blk_alloc ?_ _)); exact BK191.out), (by (with_reducible repeat (first | refine blk_drewN ?_ _ | refine blk_drew ?_ | refine blk_alloc ?_ _)); exact BK192.out), GW191.out, GE191.out, NB192_191.out, NB191_192.out, GW192.out, GE192.out, (by repeat (first | (with_reducible first | exact HB.out | apply below_alloc | apply pw_below_drewN | apply below_drew1 | refine below_set ?_ GE192.out | refine below_set ?_ GE191.out) | exact HB.out))⟩)
                                              rintro ⟨gb191, gb192⟩ w59 ⟨hS_, h0_, h1_, h2_, h3_, h4_, h5_, h6_, h7_, h8_, h9_, h10_, h11_, h12_, h13_⟩
                                              have n0_ : Aside0 (Kd.V k54 54 w59 w.heap.size (fun k_ => (w.heap.size ≤ k_) ∧ some k_ ≠ (.slice (some ad185) x3_1.length co14 : Value).ownBlock ∧ some k_ ≠ (u5 : Value).ownBlock ∧ k_ ≠ gb191 ∧ k_ ≠ gb192) (.slice A186_0 (rd_L4 x3_1 (ji15)).length c186_0) (rd_L4 x3_1 (ji15))) := ⟨h0_⟩
                                              have n1_ : Aside0 (Kd.V k54 54 w59 w.heap.size (fun k_ => (w.heap.size ≤ k_) ∧ some k_ ≠ (.slice (some ad185) x3_1.length co14 : Value).ownBlock ∧ some k_ ≠ (u5 : Value).ownBlock ∧ k_ ≠ gb191 ∧ k_ ≠ gb192) (.slice (some ad188) (rd_L4 x3_1 x6_2).length c187_0) (rd_L4 x3_1 x6_2)) := ⟨h1_⟩
                                              have n2_ : Aside0 (Kd.V k54 54 w59 w.heap.size (fun k_ => (w.heap.size ≤ k_) ∧ some k_ ≠ (.slice (some ad185) x3_1.length co14 : Value).ownBlock ∧ some k_ ≠ (u5 : Value).ownBlock ∧ k_ ≠ gb191 ∧ k_ ≠ gb192) (.slice (some ad190) (rd_L4 x3_1 (ji15)).length c189_0) (rd_L4 x3_1 (ji15))) := ⟨h2_⟩
                                              have n3_ : Aside0 (Kd.N (Kd.slice 54 k54) 50 w59 w.heap.size (fun k_ => (w.heap.size ≤ k_) ∧ some k_ ≠ (u5 : Value).ownBlock ∧ k_ ≠ gb191 ∧ k_ ≠ gb192) (.slice (some ad185) x3_1.length co14) x3_1) := ⟨h3_⟩
                                              have n4_ : Aside0 (Kd.R k54 54 w59 w.heap.size (fun k_ => (w.heap.size ≤ k_) ∧ k_ ≠ gb191 ∧ k_ ≠ gb192) u5 x5_4) := ⟨h4_⟩
                                              have n5_ : Aside0 (w59.heap[gb191]? = some (.cells #[.int .i64 0, .int .i64 0, .int .i64 0, .string (⟨#[]⟩ : ByteArray)] 54 (0, 0))) := ⟨h5_⟩
                                              have n6_ : Aside0 (w59.heap[gb192]? = some (.cells #[.int .i64 0, .int .i64 0, .int .i64 0, .string (⟨#[]⟩ : ByteArray)] 54 (0, 0))) := ⟨h6_⟩
                                              have n7_ : Aside0 (w.heap.size ≤ gb191) := ⟨h7_⟩
                                              have n8_ : Aside0 (w.heap.size ≤ gb191) := ⟨h8_⟩
                                              have n9_ : Aside0 (gb192 ≠ gb191) := ⟨h9_⟩
                                              have n10_ : Aside0 (gb191 ≠ gb192) := ⟨h10_⟩
                                              have n11_ : Aside0 (w.heap.size ≤ gb192) := ⟨h11_⟩
                                              have n12_ : Aside0 (w.heap.size ≤ gb192) := ⟨h12_⟩
                                              have n13_ : Aside0 (Below w.heap.size w w59) := ⟨h13_⟩
                                              clear HO_3
                                              clear HO_5
                                              clear HL186_0
                                              clear HR186_0
                                              clear HB
                                              clear h0_ h1_ h2_ h3_ h4_ h5_ h6_ h7_ h8_ h9_ h10_ h11_ h12_ h13_
                                              have HL186_0 := n0_
                                              have HL187_0 := n1_
                                              have HL189_0 := n2_
                                              have HO_3 := n3_
                                              have HO_5 := n4_
                                              have BK191 := n5_
                                              have BK192 := n6_
                                              have GW191 := n7_
                                              have GE191 := n8_
                                              have NB192_191 := n9_
                                              have NB191_192 := n10_
                                              have GW192 := n11_
                                              have GE192 := n12_
                                              have HB := n13_
                                              clear n0_ n1_ n2_ n3_ n4_ n5_ n6_ n7_ n8_ n9_ n10_ n11_ n12_ n13_
                                              have hHeld : w59.cell? (ad185.add (x6_2).toNat) = some (.slice (some ad188) (rd_L4 x3_1 x6_2).length c187_0) ∧ w59.cell? (ad188.add ((x7_3).toNat * 4)) = some (.int .i64 ((rd_T54 (rd_L4 x3_1 x6_2) x7_3).f0.f0)) ∧ w59.cell? ⟨(ad188.add ((x7_3).toNat * 4)).block, (ad188.add ((x7_3).toNat * 4)).off + 1, none⟩ = some (.int .i64 ((rd_T54 (rd_L4 x3_1 x6_2) x7_3).f0.f1)) ∧ w59.cell? ⟨(ad188.add ((x7_3).toNat * 4)).block, (ad188.add ((x7_3).toNat * 4)).off + 2, none⟩ = some (.int .i64 ((rd_T54 (rd_L4 x3_1 x6_2) x7_3).f1)) ∧ w59.cell? ⟨(ad188.add ((x7_3).toNat * 4)).block, (ad188.add ((x7_3).toNat * 4)).off + 3, none⟩ = some (.string ((rd_T54 (rd_L4 x3_1 x6_2) x7_3).f2)) ∧ w59.cell? (ad185.add ((ji15)).toNat) = some (.slice (some ad190) (rd_L4 x3_1 (ji15)).length c189_0) ∧ w59.cell? (ad190.add ((x8_4).toNat * 4)) = some (.int .i64 ((rd_T54 (rd_L4 x3_1 (ji15)) x8_4).f0.f0)) ∧ w59.cell? ⟨(ad190.add ((x8_4).toNat * 4)).block, (ad190.add ((x8_4).toNat * 4)).off + 1, none⟩ = some (.int .i64 ((rd_T54 (rd_L4 x3_1 (ji15)) x8_4).f0.f1)) ∧ w59.cell? ⟨(ad190.add ((x8_4).toNat * 4)).block, (ad190.add ((x8_4).toNat * 4)).off + 2, none⟩ = some (.int .i64 ((rd_T54 (rd_L4 x3_1 (ji15)) x8_4).f1)) ∧ w59.cell? ⟨(ad190.add ((x8_4).toNat * 4)).block, (ad190.add ((x8_4).toNat * 4)).off + 3, none⟩ = some (.string ((rd_T54 (rd_L4 x3_1 (ji15)) x8_4).f2)) := hS_
                                              refine norm_ (a' := ?_) ?_ ?_
                                              rotate_left
                                              · simp only [putAll, Act.put, List.setIfInBounds_toArray, List.set_cons_zero, List.set_cons_succ]
                                                rfl
                                              refine one_ (i := 19) (N := none) #[true, true, true, true, true, true, true, true, true, true, true, true, true, true, true, true, true, true, true, true, false] rfl rfl (one_of HT_.out (by kernel_rfl)) (by decide) (fun K hK => ?_)
                                              have hs60 : w59.cell? ⟨gb191, 0, none⟩ = some (.int .i64 0) := (blk_cell BK191.out 0).trans rfl
                                              have hfs60 := blk_frozen BK191.out 0
                                              have hns60_1 := NB192_191.out
                                              have hms60_1 := NB191_192.out
                                              have hs61 : w59.cell? ⟨gb191, 1, none⟩ = some (.int .i64 0) := (blk_cell BK191.out 1).trans rfl
                                              have hfs61 := blk_frozen BK191.out 1
                                              have hns61_1 := NB192_191.out
                                              have hms61_1 := NB191_192.out
                                              have hs62 : w59.cell? ⟨gb191, 2, none⟩ = some (.int .i64 0) := (blk_cell BK191.out 2).trans rfl
                                              have hfs62 := blk_frozen BK191.out 2
                                              have hns62_1 := NB192_191.out
                                              have hms62_1 := NB191_192.out
                                              have hs63 : w59.cell? ⟨gb191, 3, none⟩ = some (.string (⟨#[]⟩ : ByteArray)) := (blk_cell BK191.out 3).trans rfl
                                              have hfs63 := blk_frozen BK191.out 3
                                              have hns63_1 := NB192_191.out
                                              have hms63_1 := NB191_192.out
                                              refine skip_ (w1 := ?_) (by rfl) rfl ?_ ?_
                                              rotate_left
                                              · go_simp
                                                rfl
                                              refine hK.out _ _ ?_ (fun hHeld => ?_)
                                              refine ⟨?_, ?_, ?_, ?_, ?_, ?_, ?_, ?_, ?_, ?_⟩
                                              ·have e_ := Kd.own_blk (Kd.N_away HO_3.out (fun _ hk => hk.2.2.1))
                                               iterate 4 (refine (cell_far (p := ⟨gb191, _, none⟩) (by first | exact e_ | (rw [add_block]; exact e_) | (show (Addr.add _ _).block ≠ _; rw [add_block]; exact e_) | (dsimp only; exact e_)) _).trans ?_)
                                               exact hHeld.1
                                              ·have e_ := V_ne_ HL187_0.out (by decide) (by first | exact PL188.out | exact PL190.out) (fun _ hk => hk.2.2.2.1)
                                               iterate 4 (refine (cell_far (p := ⟨gb191, _, none⟩) (by first | exact e_ | (rw [add_block]; exact e_) | (show (Addr.add _ _).block ≠ _; rw [add_block]; exact e_) | (dsimp only; exact e_)) _).trans ?_)
                                               exact hHeld.2.1
                                              ·have e_ := V_ne_ HL187_0.out (by decide) (by first | exact PL188.out | exact PL190.out) (fun _ hk => hk.2.2.2.1)
                                               iterate 4 (refine (cell_far (p := ⟨gb191, _, none⟩) (by first | exact e_ | (rw [add_block]; exact e_) | (show (Addr.add _ _).block ≠ _; rw [add_block]; exact e_) | (dsimp only; exact e_)) _).trans ?_)
                                               exact hHeld.2.2.1
                                              ·have e_ := V_ne_ HL187_0.out (by decide) (by first | exact PL188.out | exact PL190.out) (fun _ hk => hk.2.2.2.1)
                                               iterate 4 (refine (cell_far (p := ⟨gb191, _, none⟩) (by first | exact e_ | (rw [add_block]; exact e_) | (show (Addr.add _ _).block ≠ _; rw [add_block]; exact e_) | (dsimp only; exact e_)) _).trans ?_)
                                               exact hHeld.2.2.2.1
                                              ·have e_ := V_ne_ HL187_0.out (by decide) (by first | exact PL188.out | exact PL190.out) (fun _ hk => hk.2.2.2.1)
                                               iterate 4 (refine (cell_far (p := ⟨gb191, _, none⟩) (by first | exact e_ | (rw [add_block]; exact e_) | (show (Addr.add _ _).block ≠ _; rw [add_block]; exact e_) | (dsimp only; exact e_)) _).trans ?_)
                                               exact hHeld.2.2.2.2.1
                                              ·have e_ := Kd.own_blk (Kd.N_away HO_3.out (fun _ hk => hk.2.2.1))
                                               iterate 4 (refine (cell_far (p := ⟨gb191, _, none⟩) (by first | exact e_ | (rw [add_block]; exact e_) | (show (Addr.add _ _).block ≠ _; rw [add_block]; exact e_) | (dsimp only; exact e_)) _).trans ?_)
                                               exact hHeld.2.2.2.2.2.1
                                              ·have e_ := V_ne_ HL189_0.out (by decide) (by first | exact PL188.out | exact PL190.out) (fun _ hk => hk.2.2.2.1)
                                               iterate 4 (refine (cell_far (p := ⟨gb191, _, none⟩) (by first | exact e_ | (rw [add_block]; exact e_) | (show (Addr.add _ _).block ≠ _; rw [add_block]; exact e_) | (dsimp only; exact e_)) _).trans ?_)
                                               exact hHeld.2.2.2.2.2.2.1
                                              ·have e_ := V_ne_ HL189_0.out (by decide) (by first | exact PL188.out | exact PL190.out) (fun _ hk => hk.2.2.2.1)
                                               iterate 4 (refine (cell_far (p := ⟨gb191, _, none⟩) (by first | exact e_ | (rw [add_block]; exact e_) | (show (Addr.add _ _).block ≠ _; rw [add_block]; exact e_) | (dsimp only; exact e_)) _).trans ?_)
                                               exact hHeld.2.2.2.2.2.2.2.1
                                              ·have e_ := V_ne_ HL189_0.out (by decide) (by first | exact PL188.out | exact PL190.out) (fun _ hk => hk.2.2.2.1)
                                               iterate 4 (refine (cell_far (p := ⟨gb191, _, none⟩) (by first | exact e_ | (rw [add_block]; exact e_) | (show (Addr.add _ _).block ≠ _; rw [add_block]; exact e_) | (dsimp only; exact e_)) _).trans ?_)
                                               exact hHeld.2.2.2.2.2.2.2.2.1
                                              ·have e_ := V_ne_ HL189_0.out (by decide) (by first | exact PL188.out | exact PL190.out) (fun _ hk => hk.2.2.2.1)
                                               iterate 4 (refine (cell_far (p := ⟨gb191, _, none⟩) (by first | exact e_ | (rw [add_block]; exact e_) | (show (Addr.add _ _).block ≠ _; rw [add_block]; exact e_) | (dsimp only; exact e_)) _).trans ?_)
                                               exact hHeld.2.2.2.2.2.2.2.2.2
                                              clear hK K
                                              refine one_ (i := 20) (N := none) #[true, true, true, true, true, true, true, true, true, true, true, true, true, true, true, true, true, true, true, true, true] rfl rfl (one_of HT_.out (by kernel_rfl)) (by decide) (fun K hK => ?_)
                                              have hs64 : w59.cell? ⟨gb192, 0, none⟩ = some (.int .i64 0) := (blk_cell BK192.out 0).trans rfl
                                              have hfs64 := blk_frozen BK192.out 0
                                              have hns64_0 := NB191_192.out
                                              have hms64_0 := NB192_191.out
                                              have hs65 : w59.cell? ⟨gb192, 1, none⟩ = some (.int .i64 0) := (blk_cell BK192.out 1).trans rfl
                                              have hfs65 := blk_frozen BK192.out 1
                                              have hns65_0 := NB191_192.out
                                              have hms65_0 := NB192_191.out
                                              have hs66 : w59.cell? ⟨gb192, 2, none⟩ = some (.int .i64 0) := (blk_cell BK192.out 2).trans rfl
                                              have hfs66 := blk_frozen BK192.out 2
                                              have hns66_0 := NB191_192.out
                                              have hms66_0 := NB192_191.out
                                              have hs67 : w59.cell? ⟨gb192, 3, none⟩ = some (.string (⟨#[]⟩ : ByteArray)) := (blk_cell BK192.out 3).trans rfl
                                              have hfs67 := blk_frozen BK192.out 3
                                              have hns67_0 := NB191_192.out
                                              have hms67_0 := NB192_191.out
                                              refine skip_ (w1 := ?_) (by rfl) rfl ?_ ?_
                                              rotate_left
                                              · go_simp
                                                rfl
                                              refine hK.out _ _ ?_ (fun hHeld => ?_)
                                              refine ⟨?_, ?_, ?_, ?_, ?_, ?_, ?_, ?_, ?_, ?_⟩
                                              ·have e_ := Kd.own_blk (Kd.N_away HO_3.out (fun _ hk => hk.2.2.2))
                                               iterate 4 (refine (cell_far (p := ⟨gb192, _, none⟩) (by first | exact e_ | (rw [add_block]; exact e_) | (show (Addr.add _ _).block ≠ _; rw [add_block]; exact e_) | (dsimp only; exact e_)) _).trans ?_)
                                               exact hHeld.1
                                              ·have e_ := V_ne_ HL187_0.out (by decide) (by first | exact PL188.out | exact PL190.out) (fun _ hk => hk.2.2.2.2)
                                               iterate 4 (refine (cell_far (p := ⟨gb192, _, none⟩) (by first | exact e_ | (rw [add_block]; exact e_) | (show (Addr.add _ _).block ≠ _; rw [add_block]; exact e_) | (dsimp only; exact e_)) _).trans ?_)
                                               exact hHeld.2.1
                                              ·have e_ := V_ne_ HL187_0.out (by decide) (by first | exact PL188.out | exact PL190.out) (fun _ hk => hk.2.2.2.2)
                                               iterate 4 (refine (cell_far (p := ⟨gb192, _, none⟩) (by first | exact e_ | (rw [add_block]; exact e_) | (show (Addr.add _ _).block ≠ _; rw [add_block]; exact e_) | (dsimp only; exact e_)) _).trans ?_)
                                               exact hHeld.2.2.1
                                              ·have e_ := V_ne_ HL187_0.out (by decide) (by first | exact PL188.out | exact PL190.out) (fun _ hk => hk.2.2.2.2)
                                               iterate 4 (refine (cell_far (p := ⟨gb192, _, none⟩) (by first | exact e_ | (rw [add_block]; exact e_) | (show (Addr.add _ _).block ≠ _; rw [add_block]; exact e_) | (dsimp only; exact e_)) _).trans ?_)
                                               exact hHeld.2.2.2.1
                                              ·have e_ := V_ne_ HL187_0.out (by decide) (by first | exact PL188.out | exact PL190.out) (fun _ hk => hk.2.2.2.2)
                                               iterate 4 (refine (cell_far (p := ⟨gb192, _, none⟩) (by first | exact e_ | (rw [add_block]; exact e_) | (show (Addr.add _ _).block ≠ _; rw [add_block]; exact e_) | (dsimp only; exact e_)) _).trans ?_)
                                               exact hHeld.2.2.2.2.1
                                              ·have e_ := Kd.own_blk (Kd.N_away HO_3.out (fun _ hk => hk.2.2.2))
                                               iterate 4 (refine (cell_far (p := ⟨gb192, _, none⟩) (by first | exact e_ | (rw [add_block]; exact e_) | (show (Addr.add _ _).block ≠ _; rw [add_block]; exact e_) | (dsimp only; exact e_)) _).trans ?_)
                                               exact hHeld.2.2.2.2.2.1
                                              ·have e_ := V_ne_ HL189_0.out (by decide) (by first | exact PL188.out | exact PL190.out) (fun _ hk => hk.2.2.2.2)
                                               iterate 4 (refine (cell_far (p := ⟨gb192, _, none⟩) (by first | exact e_ | (rw [add_block]; exact e_) | (show (Addr.add _ _).block ≠ _; rw [add_block]; exact e_) | (dsimp only; exact e_)) _).trans ?_)
                                               exact hHeld.2.2.2.2.2.2.1
                                              ·have e_ := V_ne_ HL189_0.out (by decide) (by first | exact PL188.out | exact PL190.out) (fun _ hk => hk.2.2.2.2)
                                               iterate 4 (refine (cell_far (p := ⟨gb192, _, none⟩) (by first | exact e_ | (rw [add_block]; exact e_) | (show (Addr.add _ _).block ≠ _; rw [add_block]; exact e_) | (dsimp only; exact e_)) _).trans ?_)
                                               exact hHeld.2.2.2.2.2.2.2.1
                                              ·have e_ := V_ne_ HL189_0.out (by decide) (by first | exact PL188.out | exact PL190.out) (fun _ hk => hk.2.2.2.2)
                                               iterate 4 (refine (cell_far (p := ⟨gb192, _, none⟩) (by first | exact e_ | (rw [add_block]; exact e_) | (show (Addr.add _ _).block ≠ _; rw [add_block]; exact e_) | (dsimp only; exact e_)) _).trans ?_)
                                               exact hHeld.2.2.2.2.2.2.2.2.1
                                              ·have e_ := V_ne_ HL189_0.out (by decide) (by first | exact PL188.out | exact PL190.out) (fun _ hk => hk.2.2.2.2)
                                               iterate 4 (refine (cell_far (p := ⟨gb192, _, none⟩) (by first | exact e_ | (rw [add_block]; exact e_) | (show (Addr.add _ _).block ≠ _; rw [add_block]; exact e_) | (dsimp only; exact e_)) _).trans ?_)
                                               exact hHeld.2.2.2.2.2.2.2.2.2
                                              clear hK K
                                              refine done_ (done_of HT_.out (by kernel_rfl)) ?_
                                              have hnb68 := NB191_192.out
                                              have hnc68 := NB192_191.out
                                              have hcz69_0 : w59.cell? ⟨gb191, 0, none⟩ = some (.int .i64 0) := (blk_cell BK191.out 0).trans rfl
                                              have hcz69_1 : w59.cell? ⟨gb191, 1, none⟩ = some (.int .i64 0) := (blk_cell BK191.out 1).trans rfl
                                              have hcz69_2 : w59.cell? ⟨gb191, 2, none⟩ = some (.int .i64 0) := (blk_cell BK191.out 2).trans rfl
                                              have hcz69_3 : w59.cell? ⟨gb191, 3, none⟩ = some (.string (⟨#[]⟩ : ByteArray)) := (blk_cell BK191.out 3).trans rfl
                                              have hfz69_0 := blk_frozen BK191.out 0
                                              have hfz69_1 := blk_frozen BK191.out 1
                                              have hfz69_2 := blk_frozen BK191.out 2
                                              have hfz69_3 := blk_frozen BK191.out 3
                                              have hcz70_0 : w59.cell? ⟨gb192, 0, none⟩ = some (.int .i64 0) := (blk_cell BK192.out 0).trans rfl
                                              have hcz70_1 : w59.cell? ⟨gb192, 1, none⟩ = some (.int .i64 0) := (blk_cell BK192.out 1).trans rfl
                                              have hcz70_2 : w59.cell? ⟨gb192, 2, none⟩ = some (.int .i64 0) := (blk_cell BK192.out 2).trans rfl
                                              have hcz70_3 : w59.cell? ⟨gb192, 3, none⟩ = some (.string (⟨#[]⟩ : ByteArray)) := (blk_cell BK192.out 3).trans rfl
                                              have hfz70_0 := blk_frozen BK192.out 0
                                              have hfz70_1 := blk_frozen BK192.out 1
                                              have hfz70_2 := blk_frozen BK192.out 2
                                              have hfz70_3 := blk_frozen BK192.out 3
                                              try go_wp2_with (first | ((with_reducible refine gate_callee (f := 72) rfl ?_); refine goesL_ (some 71) rfl rfl Try.func72 (by kernel_rfl) rfl #[.agg #[.int .i64 ((rd_T54 (rd_L4 x3_1 x6_2) x7_3).f0.f0), .int .i64 ((rd_T54 (rd_L4 x3_1 x6_2) x7_3).f0.f1)], .agg #[.int .i64 ((rd_T54 (rd_L4 x3_1 (ji15)) x8_4).f0.f0), .int .i64 ((rd_T54 (rd_L4 x3_1 (ji15)) x8_4).f0.f1)]] rfl (by (try simp only [List.map_toArray, List.map_cons, List.map_nil]); first | done | (simp only [hji15]; rfl) | rfl | (simp only [List.length_drop, List.length_take]; rfl)) ?_; (with_reducible refine (spec_l6Half.calls k4 ((rd_T54 (rd_L4 x3_1 x6_2) x7_3).f0.f0) ((rd_T54 (rd_L4 x3_1 x6_2) x7_3).f0.f1) ((rd_T54 (rd_L4 x3_1 (ji15)) x8_4).f0.f0) ((rd_T54 (rd_L4 x3_1 (ji15)) x8_4).f0.f1) t193 t194 false _ A24.out).mono ?_); rintro e w71 ⟨rfl, hb⟩; refine ⟨_, rfl, ?_⟩; have n0_ := Aside0.mk (Kd.N_below (by (with_reducible repeat (first | apply Kd.N_alloc | apply Kd.N_drewN | apply Kd.N_drew)); exact (Kd.N_mono (Kd.N_mono (Kd.N_far (p := ⟨gb192, 3, none⟩) (Kd.N_far (p := ⟨gb192, 2, none⟩) (Kd.N_far (p := ⟨gb192, 1, none⟩) (Kd.N_far (p := ⟨gb192, 0, none⟩) (Kd.N_far (p := ⟨gb191, 3, none⟩) (Kd.N_far (p := ⟨gb191, 2, none⟩) (Kd.N_far (p := ⟨gb191, 1, none⟩) (Kd.N_far (p := ⟨gb191, 0, none⟩) (Kd.N_mono (Kd.N_mono HO_3.out (fun k_ hk => (⟨hk, hk.2.2.1⟩ : _ ∧ k_ ≠ gb191))) (fun k_ hk => (⟨hk, hk.1.2.2.2⟩ : _ ∧ k_ ≠ gb192))) (fun _ hk => hk.1.2) (.int .i64 ((rd_T54 (rd_L4 x3_1 x6_2) x7_3).f0.f0))) (fun _ hk => hk.1.2) (.int .i64 ((rd_T54 (rd_L4 x3_1 x6_2) x7_3).f0.f1))) (fun _ hk => hk.1.2) (.int .i64 ((rd_T54 (rd_L4 x3_1 x6_2) x7_3).f1))) (fun _ hk => hk.1.2) (.string ((rd_T54 (rd_L4 x3_1 x6_2) x7_3).f2))) (fun _ hk => hk.2) (.int .i64 ((rd_T54 (rd_L4 x3_1 (ji15)) x8_4).f0.f0))) (fun _ hk => hk.2) (.int .i64 ((rd_T54 (rd_L4 x3_1 (ji15)) x8_4).f0.f1))) (fun _ hk => hk.2) (.int .i64 ((rd_T54 (rd_L4 x3_1 (ji15)) x8_4).f1))) (fun _ hk => hk.2) (.string ((rd_T54 (rd_L4 x3_1 (ji15)) x8_4).f2))) (fun _ h_ => h_.1)) (fun _ h_ => h_.1))) hb); have n1_ := Aside0.mk (Kd.R_below (by (with_reducible repeat (first | apply Kd.R_alloc | apply Kd.R_drewN | apply Kd.R_drew)); exact (Kd.R_mono (Kd.R_mono (Kd.R_far (p := ⟨gb192, 3, none⟩) (Kd.R_far (p := ⟨gb192, 2, none⟩) (Kd.R_far (p := ⟨gb192, 1, none⟩) (Kd.R_far (p := ⟨gb192, 0, none⟩) (Kd.R_far (p := ⟨gb191, 3, none⟩) (Kd.R_far (p := ⟨gb191, 2, none⟩) (Kd.R_far (p := ⟨gb191, 1, none⟩) (Kd.R_far (p := ⟨gb191, 0, none⟩) (Kd.R_mono (Kd.R_mono HO_5.out (fun k_ hk => (⟨hk, hk.2.1⟩ : _ ∧ k_ ≠ gb191))) (fun k_ hk => (⟨hk, hk.1.2.2⟩ : _ ∧ k_ ≠ gb192))) (fun _ hk => hk.1.2) (.int .i64 ((rd_T54 (rd_L4 x3_1 x6_2) x7_3).f0.f0))) (fun _ hk => hk.1.2) (.int .i64 ((rd_T54 (rd_L4 x3_1 x6_2) x7_3).f0.f1))) (fun _ hk => hk.1.2) (.int .i64 ((rd_T54 (rd_L4 x3_1 x6_2) x7_3).f1))) (fun _ hk => hk.1.2) (.string ((rd_T54 (rd_L4 x3_1 x6_2) x7_3).f2))) (fun _ hk => hk.2) (.int .i64 ((rd_T54 (rd_L4 x3_1 (ji15)) x8_4).f0.f0))) (fun _ hk => hk.2) (.int .i64 ((rd_T54 (rd_L4 x3_1 (ji15)) x8_4).f0.f1))) (fun _ hk => hk.2) (.int .i64 ((rd_T54 (rd_L4 x3_1 (ji15)) x8_4).f1))) (fun _ hk => hk.2) (.string ((rd_T54 (rd_L4 x3_1 (ji15)) x8_4).f2))) (fun _ h_ => h_.1)) (fun _ h_ => h_.1))) hb); have n2_ := Aside0.mk (Kd.V_below (by (with_reducible repeat (first | apply Kd.V_alloc | apply Kd.V_drewN | apply Kd.V_drew)); exact (Kd.V_mono (Kd.V_mono (Kd.V_far (p := ⟨gb192, 3, none⟩) (Kd.V_far (p := ⟨gb192, 2, none⟩) (Kd.V_far (p := ⟨gb192, 1, none⟩) (Kd.V_far (p := ⟨gb192, 0, none⟩) (Kd.V_far (p := ⟨gb191, 3, none⟩) (Kd.V_far (p := ⟨gb191, 2, none⟩) (Kd.V_far (p := ⟨gb191, 1, none⟩) (Kd.V_far (p := ⟨gb191, 0, none⟩) (Kd.V_mono (Kd.V_mono HL186_0.out (fun k_ hk => (⟨hk, hk.2.2.2.1⟩ : _ ∧ k_ ≠ gb191))) (fun k_ hk => (⟨hk, hk.1.2.2.2.2⟩ : _ ∧ k_ ≠ gb192))) (fun _ hk => hk.1.2) (.int .i64 ((rd_T54 (rd_L4 x3_1 x6_2) x7_3).f0.f0))) (fun _ hk => hk.1.2) (.int .i64 ((rd_T54 (rd_L4 x3_1 x6_2) x7_3).f0.f1))) (fun _ hk => hk.1.2) (.int .i64 ((rd_T54 (rd_L4 x3_1 x6_2) x7_3).f1))) (fun _ hk => hk.1.2) (.string ((rd_T54 (rd_L4 x3_1 x6_2) x7_3).f2))) (fun _ hk => hk.2) (.int .i64 ((rd_T54 (rd_L4 x3_1 (ji15)) x8_4).f0.f0))) (fun _ hk => hk.2) (.int .i64 ((rd_T54 (rd_L4 x3_1 (ji15)) x8_4).f0.f1))) (fun _ hk => hk.2) (.int .i64 ((rd_T54 (rd_L4 x3_1 (ji15)) x8_4).f1))) (fun _ hk => hk.2) (.string ((rd_T54 (rd_L4 x3_1 (ji15)) x8_4).f2))) (fun _ h_ => h_.1)) (fun _ h_ => h_.1))) hb); have n3_ := Aside0.mk (Kd.V_below (by (with_reducible repeat (first | apply Kd.V_alloc | apply Kd.V_drewN | apply Kd.V_drew)); exact (Kd.V_mono (Kd.V_mono (Kd.V_far (p := ⟨gb192, 3, none⟩) (Kd.V_far (p := ⟨gb192, 2, none⟩) (Kd.V_far (p := ⟨gb192, 1, none⟩) (Kd.V_far (p := ⟨gb192, 0, none⟩) (Kd.V_far (p := ⟨gb191, 3, none⟩) (Kd.V_far (p := ⟨gb191, 2, none⟩) (Kd.V_far (p := ⟨gb191, 1, none⟩) (Kd.V_far (p := ⟨gb191, 0, none⟩) (Kd.V_mono (Kd.V_mono HL187_0.out (fun k_ hk => (⟨hk, hk.2.2.2.1⟩ : _ ∧ k_ ≠ gb191))) (fun k_ hk => (⟨hk, hk.1.2.2.2.2⟩ : _ ∧ k_ ≠ gb192))) (fun _ hk => hk.1.2) (.int .i64 ((rd_T54 (rd_L4 x3_1 x6_2) x7_3).f0.f0))) (fun _ hk => hk.1.2) (.int .i64 ((rd_T54 (rd_L4 x3_1 x6_2) x7_3).f0.f1))) (fun _ hk => hk.1.2) (.int .i64 ((rd_T54 (rd_L4 x3_1 x6_2) x7_3).f1))) (fun _ hk => hk.1.2) (.string ((rd_T54 (rd_L4 x3_1 x6_2) x7_3).f2))) (fun _ hk => hk.2) (.int .i64 ((rd_T54 (rd_L4 x3_1 (ji15)) x8_4).f0.f0))) (fun _ hk => hk.2) (.int .i64 ((rd_T54 (rd_L4 x3_1 (ji15)) x8_4).f0.f1))) (fun _ hk => hk.2) (.int .i64 ((rd_T54 (rd_L4 x3_1 (ji15)) x8_4).f1))) (fun _ hk => hk.2) (.string ((rd_T54 (rd_L4 x3_1 (ji15)) x8_4).f2))) (fun _ h_ => h_.1)) (fun _ h_ => h_.1))) hb); have n4_ := Aside0.mk (Kd.V_below (by (with_reducible repeat (first | apply Kd.V_alloc | apply Kd.V_drewN | apply Kd.V_drew)); exact (Kd.V_mono (Kd.V_mono (Kd.V_far (p := ⟨gb192, 3, none⟩) (Kd.V_far (p := ⟨gb192, 2, none⟩) (Kd.V_far (p := ⟨gb192, 1, none⟩) (Kd.V_far (p := ⟨gb192, 0, none⟩) (Kd.V_far (p := ⟨gb191, 3, none⟩) (Kd.V_far (p := ⟨gb191, 2, none⟩) (Kd.V_far (p := ⟨gb191, 1, none⟩) (Kd.V_far (p := ⟨gb191, 0, none⟩) (Kd.V_mono (Kd.V_mono HL189_0.out (fun k_ hk => (⟨hk, hk.2.2.2.1⟩ : _ ∧ k_ ≠ gb191))) (fun k_ hk => (⟨hk, hk.1.2.2.2.2⟩ : _ ∧ k_ ≠ gb192))) (fun _ hk => hk.1.2) (.int .i64 ((rd_T54 (rd_L4 x3_1 x6_2) x7_3).f0.f0))) (fun _ hk => hk.1.2) (.int .i64 ((rd_T54 (rd_L4 x3_1 x6_2) x7_3).f0.f1))) (fun _ hk => hk.1.2) (.int .i64 ((rd_T54 (rd_L4 x3_1 x6_2) x7_3).f1))) (fun _ hk => hk.1.2) (.string ((rd_T54 (rd_L4 x3_1 x6_2) x7_3).f2))) (fun _ hk => hk.2) (.int .i64 ((rd_T54 (rd_L4 x3_1 (ji15)) x8_4).f0.f0))) (fun _ hk => hk.2) (.int .i64 ((rd_T54 (rd_L4 x3_1 (ji15)) x8_4).f0.f1))) (fun _ hk => hk.2) (.int .i64 ((rd_T54 (rd_L4 x3_1 (ji15)) x8_4).f1))) (fun _ hk => hk.2) (.string ((rd_T54 (rd_L4 x3_1 (ji15)) x8_4).f2))) (fun _ h_ => h_.1)) (fun _ h_ => h_.1))) hb); have n5_ := Aside0.mk (blk_below (g := gb191) (o := .cells #[.int .i64 ((rd_T54 (rd_L4 x3_1 x6_2) x7_3).f0.f0), .int .i64 ((rd_T54 (rd_L4 x3_1 x6_2) x7_3).f0.f1), .int .i64 ((rd_T54 (rd_L4 x3_1 x6_2) x7_3).f1), .string ((rd_T54 (rd_L4 x3_1 x6_2) x7_3).f2)] 54 (0, 0)) (by (with_reducible repeat (first | refine blk_drewN ?_ _ | refine blk_drew ?_ | refine blk_alloc ?_ _)); refine blk_far ?_ NB191_192.out _; (with_reducible repeat (first | refine blk_drewN ?_ _ | refine blk_drew ?_ | refine blk_alloc ?_ _)); refine blk_far ?_ NB191_192.out _; (with_reducible repeat (first | refine blk_drewN ?_ _ | refine blk_drew ?_ | refine blk_alloc ?_ _)); refine blk_far ?_ NB191_192.out _; (with_reducible repeat (first | refine blk_drewN ?_ _ | refine blk_drew ?_ | refine blk_alloc ?_ _)); refine blk_far ?_ NB191_192.out _; (with_reducible repeat (first | refine blk_drewN ?_ _ | refine blk_drew ?_ | refine blk_alloc ?_ _)); refine blk_put (cs := #[.int .i64 ((rd_T54 (rd_L4 x3_1 x6_2) x7_3).f0.f0), .int .i64 ((rd_T54 (rd_L4 x3_1 x6_2) x7_3).f0.f1), .int .i64 ((rd_T54 (rd_L4 x3_1 x6_2) x7_3).f1), .string (⟨#[]⟩ : ByteArray)]) ?_ 3 _ rfl; (with_reducible repeat (first | refine blk_drewN ?_ _ | refine blk_drew ?_ | refine blk_alloc ?_ _)); refine blk_put (cs := #[.int .i64 ((rd_T54 (rd_L4 x3_1 x6_2) x7_3).f0.f0), .int .i64 ((rd_T54 (rd_L4 x3_1 x6_2) x7_3).f0.f1), .int .i64 0, .string (⟨#[]⟩ : ByteArray)]) ?_ 2 _ rfl; (with_reducible repeat (first | refine blk_drewN ?_ _ | refine blk_drew ?_ | refine blk_alloc ?_ _)); refine blk_put (cs := #[.int .i64 ((rd_T54 (rd_L4 x3_1 x6_2) x7_3).f0.f0), .int .i64 0, .int .i64 0, .string (⟨#[]⟩ : ByteArray)]) ?_ 1 _ rfl; (with_reducible repeat (first | refine blk_drewN ?_ _ | refine blk_drew ?_ | refine blk_alloc ?_ _)); refine blk_put (cs := #[.int .i64 0, .int .i64 0, .int .i64 0, .string (⟨#[]⟩ : ByteArray)]) ?_ 0 _ rfl; (with_reducible repeat (first | refine blk_drewN ?_ _ | refine blk_drew ?_ | refine blk_alloc ?_ _)); exact BK191.out) hb); have n6_ := Aside0.mk (blk_below (g := gb192) (o := .cells #[.int .i64 ((rd_T54 (rd_L4 x3_1 (ji15)) x8_4).f0.f0), .int .i64 ((rd_T54 (rd_L4 x3_1 (ji15)) x8_4).f0.f1), .int .i64 ((rd_T54 (rd_L4 x3_1 (ji15)) x8_4).f1), .string ((rd_T54 (rd_L4 x3_1 (ji15)) x8_4).f2)] 54 (0, 0)) (by (with_reducible repeat (first | refine blk_drewN ?_ _ | refine blk_drew ?_ | refine blk_alloc ?_ _)); refine blk_put (cs := #[.int .i64 ((rd_T54 (rd_L4 x3_1 (ji15)) x8_4).f0.f0), .int .i64 ((rd_T54 (rd_L4 x3_1 (ji15)) x8_4).f0.f1), .int .i64 ((rd_T54 (rd_L4 x3_1 (ji15)) x8_4).f1), .string (⟨#[]⟩ : ByteArray)]) ?_ 3 _ rfl; (with_reducible repeat (first | refine blk_drewN ?_ _ | refine blk_drew ?_ | refine blk_alloc ?_ _)); refine blk_put (cs := #[.int .i64 ((rd_T54 (rd_L4 x3_1 (ji15)) x8_4).f0.f0), .int .i64 ((rd_T54 (rd_L4 x3_1 (ji15)) x8_4).f0.f1), .int .i64 0, .string (⟨#[]⟩ : ByteArray)]) ?_ 2 _ rfl; (with_reducible repeat (first | refine blk_drewN ?_ _ | refine blk_drew ?_ | refine blk_alloc ?_ _)); refine blk_put (cs := #[.int .i64 ((rd_T54 (rd_L4 x3_1 (ji15)) x8_4).f0.f0), .int .i64 0, .int .i64 0, .string (⟨#[]⟩ : ByteArray)]) ?_ 1 _ rfl; (with_reducible repeat (first | refine blk_drewN ?_ _ | refine blk_drew ?_ | refine blk_alloc ?_ _)); refine blk_put (cs := #[.int .i64 0, .int .i64 0, .int .i64 0, .string (⟨#[]⟩ : ByteArray)]) ?_ 0 _ rfl; (with_reducible repeat (first | refine blk_drewN ?_ _ | refine blk_drew ?_ | refine blk_alloc ?_ _)); refine blk_far ?_ NB192_191.out _; (with_reducible repeat (first | refine blk_drewN ?_ _ | refine blk_drew ?_ | refine blk_alloc ?_ _)); refine blk_far ?_ NB192_191.out _; (with_reducible repeat (first | refine blk_drewN ?_ _ | refine blk_drew ?_ | refine blk_alloc ?_ _)); refine blk_far ?_ NB192_191.out _; (with_reducible repeat (first | refine blk_drewN ?_ _ | refine blk_drew ?_ | refine blk_alloc ?_ _)); refine blk_far ?_ NB192_191.out _; (with_reducible repeat (first | refine blk_drewN ?_ _ | refine blk_drew ?_ | refine blk_alloc ?_ _)); exact BK192.out) hb); have n7_ := Aside0.mk (below_step (by repeat (first | (with_reducible first | exact HB.out | apply below_alloc | apply pw_below_drewN | apply below_drew1 | refine below_set ?_ GE191.out | refine below_set ?_ GE192.out) | exact HB.out)) hb); clear HO_3; clear HO_5; clear HL186_0; clear HL187_0; clear HL189_0; clear BK191; clear BK192; clear HB; have HO_3 := n0_; have HO_5 := n1_; have HL186_0 := n2_; have HL187_0 := n3_; have HL189_0 := n4_; have BK191 := n5_; have BK192 := n6_; have HB := n7_; clear n0_ n1_ n2_ n3_ n4_ n5_ n6_ n7_; (try clear hb); (try clear hb2); (try clear hk); (try clear hi)) | ((with_reducible refine gate_dst (N := 11) rfl ?_); refine box_event ?hg (N := 11) ?hd (cs := #[.int .i64 0, .int .i64 0]) (t := 27) ?hr ?_; (case hd => rfl); (case hg => rfl); (case hr => first | (go_simp; done) | (go_simp; rfl)); intro gb196 hg w72 hbox hb; have n0_ := Aside0.mk (Kd.N_below (Kd.N_elderB (by (with_reducible repeat (first | apply Kd.N_alloc | apply Kd.N_drewN | apply Kd.N_drew)); exact HO_3.out) gb196 (Nat.le_of_eq hg.symm)) hb); have n1_ := Aside0.mk (Kd.R_below (by (with_reducible repeat (first | apply Kd.R_alloc | apply Kd.R_drewN | apply Kd.R_drew)); exact HO_5.out) hb); have n2_ := Aside0.mk (Kd.V_below (Kd.V_elderB (by (with_reducible repeat (first | apply Kd.V_alloc | apply Kd.V_drewN | apply Kd.V_drew)); exact HL186_0.out) gb196 (Nat.le_of_eq hg.symm)) hb); have n3_ := Aside0.mk (Kd.V_below (Kd.V_elderB (by (with_reducible repeat (first | apply Kd.V_alloc | apply Kd.V_drewN | apply Kd.V_drew)); exact HL187_0.out) gb196 (Nat.le_of_eq hg.symm)) hb); have n4_ := Aside0.mk (Kd.V_below (Kd.V_elderB (by (with_reducible repeat (first | apply Kd.V_alloc | apply Kd.V_drewN | apply Kd.V_drew)); exact HL189_0.out) gb196 (Nat.le_of_eq hg.symm)) hb); have n5_ := Aside0.mk (blk_below (g := gb191) (o := .cells #[.int .i64 ((rd_T54 (rd_L4 x3_1 x6_2) x7_3).f0.f0), .int .i64 ((rd_T54 (rd_L4 x3_1 x6_2) x7_3).f0.f1), .int .i64 ((rd_T54 (rd_L4 x3_1 x6_2) x7_3).f1), .string ((rd_T54 (rd_L4 x3_1 x6_2) x7_3).f2)] 54 (0, 0)) (by (with_reducible repeat (first | refine blk_drewN ?_ _ | refine blk_drew ?_ | refine blk_alloc ?_ _)); exact BK191.out) hb); have n6_ := Aside0.mk (blk_below (g := gb192) (o := .cells #[.int .i64 ((rd_T54 (rd_L4 x3_1 (ji15)) x8_4).f0.f0), .int .i64 ((rd_T54 (rd_L4 x3_1 (ji15)) x8_4).f0.f1), .int .i64 ((rd_T54 (rd_L4 x3_1 (ji15)) x8_4).f1), .string ((rd_T54 (rd_L4 x3_1 (ji15)) x8_4).f2)] 54 (0, 0)) (by (with_reducible repeat (first | refine blk_drewN ?_ _ | refine blk_drew ?_ | refine blk_alloc ?_ _)); exact BK192.out) hb); have n7_ := Aside0.mk (below_step (by repeat (first | (with_reducible first | exact HB.out | apply below_alloc | apply pw_below_drewN | apply below_drew1 | refine below_set ?_ GE191.out | refine below_set ?_ GE192.out) | exact HB.out)) hb); have n8_ := Aside0.mk (hbox); have n9_ := Aside0.mk ((by rw [hg]; exact (below_size (by repeat (first | (with_reducible first | exact HB.out | apply below_alloc | apply pw_below_drewN | apply below_drew1 | refine below_set ?_ GE191.out | refine below_set ?_ GE192.out) | exact HB.out))) : w.heap.size ≤ gb196)); have n10_ := Aside0.mk ((by rw [hg]; exact (below_size (by repeat (first | (with_reducible first | exact HB.out | apply below_alloc | apply pw_below_drewN | apply below_drew1 | refine below_set ?_ GE191.out | refine below_set ?_ GE192.out) | exact HB.out))) : w.heap.size ≤ gb196)); have n11_ := Aside0.mk ((by rw [hg]; exact Nat.ne_of_lt (blk_lt (g := gb191) (o := .cells #[.int .i64 ((rd_T54 (rd_L4 x3_1 x6_2) x7_3).f0.f0), .int .i64 ((rd_T54 (rd_L4 x3_1 x6_2) x7_3).f0.f1), .int .i64 ((rd_T54 (rd_L4 x3_1 x6_2) x7_3).f1), .string ((rd_T54 (rd_L4 x3_1 x6_2) x7_3).f2)] 54 (0, 0)) (by (with_reducible repeat (first | refine blk_drewN ?_ _ | refine blk_drew ?_ | refine blk_alloc ?_ _)); exact BK191.out)) : gb191 ≠ gb196)); have n12_ := Aside0.mk ((by rw [hg]; exact Nat.ne_of_gt (blk_lt (g := gb191) (o := .cells #[.int .i64 ((rd_T54 (rd_L4 x3_1 x6_2) x7_3).f0.f0), .int .i64 ((rd_T54 (rd_L4 x3_1 x6_2) x7_3).f0.f1), .int .i64 ((rd_T54 (rd_L4 x3_1 x6_2) x7_3).f1), .string ((rd_T54 (rd_L4 x3_1 x6_2) x7_3).f2)] 54 (0, 0)) (by (with_reducible repeat (first | refine blk_drewN ?_ _ | refine blk_drew ?_ | refine blk_alloc ?_ _)); exact BK191.out)) : gb196 ≠ gb191)); have n13_ := Aside0.mk ((by rw [hg]; exact Nat.ne_of_lt (blk_lt (g := gb192) (o := .cells #[.int .i64 ((rd_T54 (rd_L4 x3_1 (ji15)) x8_4).f0.f0), .int .i64 ((rd_T54 (rd_L4 x3_1 (ji15)) x8_4).f0.f1), .int .i64 ((rd_T54 (rd_L4 x3_1 (ji15)) x8_4).f1), .string ((rd_T54 (rd_L4 x3_1 (ji15)) x8_4).f2)] 54 (0, 0)) (by (with_reducible repeat (first | refine blk_drewN ?_ _ | refine blk_drew ?_ | refine blk_alloc ?_ _)); exact BK192.out)) : gb192 ≠ gb196)); have n14_ := Aside0.mk ((by rw [hg]; exact Nat.ne_of_gt (blk_lt (g := gb192) (o := .cells #[.int .i64 ((rd_T54 (rd_L4 x3_1 (ji15)) x8_4).f0.f0), .int .i64 ((rd_T54 (rd_L4 x3_1 (ji15)) x8_4).f0.f1), .int .i64 ((rd_T54 (rd_L4 x3_1 (ji15)) x8_4).f1), .string ((rd_T54 (rd_L4 x3_1 (ji15)) x8_4).f2)] 54 (0, 0)) (by (with_reducible repeat (first | refine blk_drewN ?_ _ | refine blk_drew ?_ | refine blk_alloc ?_ _)); exact BK192.out)) : gb196 ≠ gb192)); clear HO_3; clear HO_5; clear HL186_0; clear HL187_0; clear HL189_0; clear BK191; clear BK192; clear HB; have HO_3 := n0_; have HO_5 := n1_; have HL186_0 := n2_; have HL187_0 := n3_; have HL189_0 := n4_; have BK191 := n5_; have BK192 := n6_; have HB := n7_; have BK196 := n8_; have GW196 := n9_; have GE196 := n10_; have NB191_196 := n11_; have NB196_191 := n12_; have NB192_196 := n13_; have NB196_192 := n14_; clear n0_ n1_ n2_ n3_ n4_ n5_ n6_ n7_ n8_ n9_ n10_ n11_ n12_ n13_ n14_; clear hb hbox hg; have hnb73 := NB196_191.out; have hnc73 := NB191_196.out; have hnb74 := NB196_192.out; have hnc74 := NB192_196.out; have hcz75_0 : w72.cell? ⟨gb196, 0, none⟩ = some (.int .i64 0) := (blk_cell BK196.out 0).trans rfl; have hcz75_1 : w72.cell? ⟨gb196, 1, none⟩ = some (.int .i64 0) := (blk_cell BK196.out 1).trans rfl; have hfz75_0 := blk_frozen BK196.out 0; have hfz75_1 := blk_frozen BK196.out 1))
                                              go_roundg k4
                                              case measure => have := HK1.out; have := HK2.out; have := HK3.out; have := HK4.out; omega
                                              case rel => exact ⟨(x5_4), (wrap64 (x8_4 + 1)), (by first | rfl | (simp; done) | (simp [*]; done)), H', ⟨by have := HK1.out; have := HK2.out; have := HK3.out; have := HK4.out; omega⟩, ⟨by (with_reducible repeat (first | apply Kd.N_alloc | apply Kd.N_drewN | apply Kd.N_drew)); exact Kd.N_mono (Kd.N_far (p := ⟨gb196, 1, none⟩) (Kd.N_far (p := ⟨gb196, 0, none⟩) (Kd.N_mono HO_3.out (fun k_ hk => (⟨hk, hk.2⟩ : _ ∧ k_ ≠ gb196))) (fun _ hk => hk.2) (.int .i64 t193)) (fun _ hk => hk.2) (.int .i64 t194)) (fun _ hk => ⟨hk.1.1.1, hk.1.1.2.1⟩)⟩, ⟨by (with_reducible repeat (first | apply Kd.R_alloc | apply Kd.R_drewN | apply Kd.R_drew)); exact Kd.R_mono (Kd.R_far (p := ⟨gb196, 1, none⟩) (Kd.R_far (p := ⟨gb196, 0, none⟩) (Kd.R_types HO_5.out BK196.out (by decide)) (fun _ hk => hk.2) (.int .i64 t193)) (fun _ hk => hk.2) (.int .i64 t194)) (fun _ hk => hk.1.1)⟩, ⟨by repeat (first | (with_reducible first | exact HB.out | apply below_alloc | apply pw_below_drewN | apply below_drew1 | refine below_set ?_ GE191.out | refine below_set ?_ GE192.out | refine below_set ?_ GE196.out) | exact HB.out)⟩⟩
                                          · rw [if_neg c23] at H
                                            exact absurd H (by simp)
                                        · rw [if_neg c22] at H
                                          exact absurd H (by simp)
                                      · rw [if_neg c21] at H
                                        exact absurd H (by simp)
                                    · rw [if_neg c20] at H
                                      exact absurd H (by simp)
                                  · rw [if_neg c19] at H
                                    exact absurd H (by simp)
                                · rw [if_neg c18] at H
                                  have c18b0 : decide (x8_4 < ((rd_L4 x3_1 (ji15)).length : Int)) = false := decide_eq_false c18
                                  clear c18
                                  have H' := Aside0.mk H
                                  clear H
                                  have p186 : 0 ≤ ((ji15) : Int) := of_decide_eq_true (by first | (with_reducible assumption) | assumption)
                                  have q186 : (ji15) < (x3_1.length : Int) := of_decide_eq_true (by first | (with_reducible assumption) | assumption)
                                  obtain ⟨ad186, A186_0, c186_0, e186, hx186_0, hl186_0, hi186_0⟩ := at_L4 (Kd.N_reads' HO_3.out).2.2 (ji15) p186 q186
                                  obtain rfl : ad185 = ad186 := (by injection e186)
                                  obtain ⟨ce186, hce186, hMe186, hcc186⟩ := Kd.N_get HO_3.out [] (ji15) p186 (by first | exact q186 | exact of_decide_eq_true (by first | (with_reducible assumption) | assumption) | (have e_ := (Kd.N_reads' HO_3.out).1; omega))
                                  obtain ⟨ua186_0, uc186_0, rfl, ul186_0, ge186_0⟩ := Kd.FK_slice_open hMe186
                                  have hv186_0 := hcc186 0 _ rfl
                                  rw [Nat.add_zero, show ((Kd.slice 54 k54)).sz = 1 from rfl, Nat.mul_one] at hv186_0
                                  replace hv186_0 := Option.some.inj (hv186_0.symm.trans hx186_0)
                                  injection hv186_0 with hva_ hvn_ hvc_
                                  rw [hva_] at ge186_0
                                  rw [hvc_] at ul186_0
                                  have HL186_0 := Aside0.mk (show Kd.V k54 54 _ w.heap.size _ _ (rd_L4 x3_1 (ji15)) from Kd.V_mk ul186_0 ge186_0)
                                  clear hva_ hvn_ hvc_ ge186_0 ul186_0
                                  clear hcc186 hce186
                                  have HR186_0 := Aside0.mk hi186_0
                                  have HC186_0 := Aside0.mk hl186_0
                                  clear hi186_0 hl186_0
                                  replace p186 := eq_true p186
                                  replace q186 := eq_true q186
                                  go_wp2
                                  go_roundg k4
                                  case measure => have := HK1.out; have := HK2.out; have := HK3.out; have := HK4.out; omega
                                  case rel => exact ⟨(x5_4), (wrap64 (x7_3 + 1)), (by first | rfl | (simp; done) | (simp [*]; done)), H', ⟨by have := HK1.out; have := HK2.out; have := HK3.out; have := HK4.out; omega⟩, ⟨by (with_reducible repeat (first | apply Kd.N_alloc | apply Kd.N_drewN | apply Kd.N_drew)); exact HO_3.out⟩, ⟨by (with_reducible repeat (first | apply Kd.R_alloc | apply Kd.R_drewN | apply Kd.R_drew)); exact HO_5.out⟩, ⟨by repeat (first | (with_reducible first | exact HB.out | apply below_alloc | apply pw_below_drewN | apply below_drew1) | exact HB.out)⟩⟩
                              · rw [if_neg c17] at H
                                exact absurd H (by simp)
                            · rw [if_neg c16] at H
                              exact absurd H (by simp)
                      · rw [if_neg c13] at H
                        have c13b0 : decide (x7_3 < ((rd_L4 x3_1 x6_2).length : Int)) = false := decide_eq_false c13
                        clear c13
                        have H' := Aside0.mk H
                        clear H
                        obtain ⟨Ao76, co76, eo76⟩ := Kd.N_slice HO_3.out
                        subst eo76
                        have p185 : 0 ≤ (x6_2 : Int) := of_decide_eq_true (by first | (with_reducible assumption) | assumption)
                        have q185 : x6_2 < (x3_1.length : Int) := of_decide_eq_true (by first | (with_reducible assumption) | assumption)
                        obtain ⟨ad185, A185_0, c185_0, e185, hx185_0, hl185_0, hi185_0⟩ := at_L4 (Kd.N_reads' HO_3.out).2.2 x6_2 p185 q185
                        cases e185
                        obtain ⟨ce185, hce185, hMe185, hcc185⟩ := Kd.N_get HO_3.out [] x6_2 p185 (by first | exact q185 | exact of_decide_eq_true (by first | (with_reducible assumption) | assumption) | (have e_ := (Kd.N_reads' HO_3.out).1; omega))
                        obtain ⟨ua185_0, uc185_0, rfl, ul185_0, ge185_0⟩ := Kd.FK_slice_open hMe185
                        have hv185_0 := hcc185 0 _ rfl
                        rw [Nat.add_zero, show ((Kd.slice 54 k54)).sz = 1 from rfl, Nat.mul_one] at hv185_0
                        replace hv185_0 := Option.some.inj (hv185_0.symm.trans hx185_0)
                        injection hv185_0 with hva_ hvn_ hvc_
                        rw [hva_] at ge185_0
                        rw [hvc_] at ul185_0
                        have HL185_0 := Aside0.mk (show Kd.V k54 54 _ w.heap.size _ _ (rd_L4 x3_1 x6_2) from Kd.V_mk ul185_0 ge185_0)
                        clear hva_ hvn_ hvc_ ge185_0 ul185_0
                        clear hcc185 hce185
                        have HR185_0 := Aside0.mk hi185_0
                        have HC185_0 := Aside0.mk hl185_0
                        clear hi185_0 hl185_0
                        replace p185 := eq_true p185
                        replace q185 := eq_true q185
                        go_wp2
                        go_roundg k3
                        case measure => have := HK1.out; have := HK2.out; have := HK3.out; omega
                        case rel => exact ⟨(x5_3), (wrap64 (x6_2 + 1)), (by first | rfl | (simp; done) | (simp [*]; done)), H', ⟨by have := HK1.out; have := HK2.out; have := HK3.out; omega⟩, ⟨by (with_reducible repeat (first | apply Kd.N_alloc | apply Kd.N_drewN | apply Kd.N_drew)); exact HO_3.out⟩, ⟨by (with_reducible repeat (first | apply Kd.R_alloc | apply Kd.R_drewN | apply Kd.R_drew)); exact HO_5.out⟩, ⟨by repeat (first | (with_reducible first | exact HB.out | apply below_alloc | apply pw_below_drewN | apply below_drew1) | exact HB.out)⟩⟩
                    · rw [if_neg c12] at H
                      exact absurd H (by simp)
                  · rw [if_neg c11] at H
                    exact absurd H (by simp)
            · rw [if_neg c10] at H
              have c10b0 : decide (x6_2 < x4_1) = false := decide_eq_false c10
              clear c10
              by_cases c77 : x3_1.length < 5864062014805
              · rw [if_pos c77] at H
                have LMc77 := Aside0.mk c77
                clear c77
                obtain ⟨y182, hy182⟩ : ∃ y_ : List (List (S54)), y_ = (x3_1 ++ [x5_2]) := ⟨_, rfl⟩
                replace H : (spec_l6Table.l0 k2 a0 y182 (wrap64 (x4_1 + 1))) = some r := by first | (rw [hy182]; with_reducible exact H) | (have H2_ := (Option.bind_some _ _).symm.trans H; rw [hy182]; with_reducible exact H2_) | (have H2_ := (Option.bind_some _ _).symm.trans H; with_reducible exact H2_) | with_reducible exact H | (rw [hy182]; exact H) | exact H
                have Ny182 := Aside0.mk hy182
                clear hy182
                have H' := Aside0.mk H
                clear H
                obtain ⟨Ao79, co79, eo79⟩ := Kd.R_slice HO_5.out
                subst eo79
                go_wp2_with (first | ((with_reducible refine gate_builtin (b := .append) (xs := #[.tmp 91, .tmp 93]) rfl ?_); at_builtin; refine Kd.N_append (Kd.slice 54 k54) (w0 := w) w.heap.size rfl (.tmp 91) (.tmp 93) 51 50 (.slice none 0 0) 24 rfl Try.underlying51 info50 rfl (by decide) (by omega) u3 x3_1 x5_2 [.slice Ao79 x5_2.length co79] (fun k_ => (w.heap.size ≤ k_)) (fun k_ => ((fun k_ => (w.heap.size ≤ k_))) k_ ∧ some k_ ≠ (u3 : Value).ownBlock) rfl rfl ?aP (fun _ hk => hk) ?aF ?aO ?aB ?aS ?aL ?_; (case aP => exact (Kd.FK_slice_mk (Kd.R_reads' (Kd.R_mono (ok' := (fun k_ => ((fun k_ => (w.heap.size ≤ k_))) k_ ∧ some k_ ≠ (u3 : Value).ownBlock)) (Kd.R_apart' (HO_5.out) (Kd.N_typed HO_3.out) (by decide)) (fun k_ hk => ⟨hk.1, hk.2⟩))).2.1 (Kd.R_F (Kd.R_mono (ok' := (fun k_ => ((fun k_ => (w.heap.size ≤ k_))) k_ ∧ some k_ ≠ (u3 : Value).ownBlock)) (Kd.R_apart' (HO_5.out) (Kd.N_typed HO_3.out) (by decide)) (fun k_ hk => ⟨hk.1, hk.2⟩))))); (case aB => exact (by repeat (first | (with_reducible first | exact HB.out | apply below_alloc | apply pw_below_drewN | apply below_drew1) | exact HB.out))); (case aF => exact (fun k_ hk => (Nat.le_trans (below_size (by repeat (first | (with_reducible first | exact HB.out | apply below_alloc | apply pw_below_drewN | apply below_drew1) | exact HB.out))) hk))); (case aO => exact (by (with_reducible repeat (first | apply Kd.N_alloc | apply Kd.N_drewN | apply Kd.N_drew)); exact Kd.N_mono HO_3.out (fun _ hk => hk.1))); (case aS => exact (below_size (by repeat (first | (with_reducible first | exact HB.out | apply below_alloc | apply pw_below_drewN | apply below_drew1) | exact HB.out)))); (case aL => have := LMc77.out; omega); intro v183 w78 ho hb hg hat; rw [← Ny182.out] at ho; have n0_ := Aside0.mk (hb); have n1_ := Aside0.mk (ho); clear HB; clear HO_3; clear HO_5; have HB := n0_; have HO184 := n1_; clear n0_ n1_; clear ho hb hg hat))
                go_roundg k2
                case measure => have := HK1.out; have := HK2.out; omega
                case rel => exact ⟨(y182), (wrap64 (x4_1 + 1)), (by first | rfl | (simp; done) | (simp [*]; done)), H', ⟨by have := HK1.out; have := HK2.out; omega⟩, ⟨by (with_reducible repeat (first | apply Kd.N_alloc | apply Kd.N_drewN | apply Kd.N_drew)); exact HO184.out⟩, ⟨by repeat (first | (with_reducible first | exact HB.out | apply below_alloc | apply pw_below_drewN | apply below_drew1) | exact HB.out)⟩⟩
              · rw [if_neg c77] at H
                exact absurd H (by simp)
      · rw [if_neg c7] at H
        have c7b0 : decide (x4_1 ≤ a0) = false := decide_eq_false c7
        clear c7
        obtain rfl := Option.some.inj H
        go_wp2
        go_ret
        exact ⟨_, by first | rfl | (simp [errW_none, errW_some] <;> rfl) | (simp [*, errW_none, errW_some] <;> rfl), by (with_reducible repeat (first | apply Kd.N_alloc | apply Kd.N_drewN | apply Kd.N_drew)); exact HO_3.out, by repeat (first | (with_reducible first | exact HB.out | apply below_alloc | apply pw_below_drewN | apply below_drew1) | exact HB.out)⟩

end Go.Proofs.Ythloakjlpblakaa.PH
