-- Printed by a program of this session's own.
import Derived.Test.YthoblgccnkjnoaaVRopeTimPTx0
namespace Go.Proofs.Ythoblgccnkjnoaa.PT
open Go.RowKit Go.Proofs.YthoblgccnkjnoaaW.PrintWords Go.Proofs.YthoblgccnkjnoaaW.PrintLast Go.Proofs.YthoblgccnkjnoaaW.PrintMore Go.Proofs.YthoblgccnkjnoaaX
  -- for this text's walks alone
set_option linter.unusedVariables false
set_option linter.unusedSimpArgs false

/-! ### spec_l5Lit: function 39 -/
def spec_l5Lit.l0 : Nat → List (S22) → Int → Option ((List (S22)))
  | 0, _, _ => none
  | k + 1, x1, x2 => if x2 < 27 then (if x1.length < 5864062014805 then (spec_l5Lit.l0 k (x1 ++ [(⟨wrap64 (Int.tdiv x2 9), Int.tmod (wrap64 (Int.tdiv x2 3)) 3, Int.tmod x2 3⟩ : S22)]) (wrap64 (x2 + 1))) else (none)) else (some x1)
def spec_l5Lit.f (k : Nat)  : Option ((List (S22))) := spec_l5Lit.l0 k (([] : List (S22))) 0
theorem spec_l5Lit.mono_l : ∀ k, (∀ y0 y1, LeO (spec_l5Lit.l0 k y0 y1) (spec_l5Lit.l0 (k + 1) y0 y1))
  | 0 => fun _ _ r h => by simp [spec_l5Lit.l0] at h
  | k + 1 => by
    have ih0 := spec_l5Lit.mono_l k
    · intro y0 y1
      unfold spec_l5Lit.l0
      repeat' first
      | (with_reducible exact ih0 _ _)
      | (with_reducible exact LeO.refl _)
      | (with_reducible exact LeO.none _)
      | (with_reducible refine LeO.ite ?_ ?_)
      | (with_reducible refine LeO.bind ?_ (fun _ => ?_))
      | exact ih0 _ _
      | exact LeO.none _
      | refine LeO.ite ?_ ?_
      | refine LeO.bind ?_ (fun _ => ?_)
theorem spec_l5Lit.mono : ∀ k, LeO (spec_l5Lit.f k ) (spec_l5Lit.f (k + 1) ) := by
  intro  k
  have ih0 := spec_l5Lit.mono_l k
  unfold spec_l5Lit.f
  repeat' first
      | (with_reducible exact ih0 _ _)
      | (with_reducible exact LeO.refl _)
      | (with_reducible exact LeO.none _)
      | (with_reducible refine LeO.ite ?_ ?_)
      | (with_reducible refine LeO.bind ?_ (fun _ => ?_))
      | exact ih0 _ _
      | exact LeO.none _
      | refine LeO.ite ?_ ?_
      | refine LeO.bind ?_ (fun _ => ?_)
set_option maxHeartbeats 8000000 in
set_option maxRecDepth 100000 in
theorem spec_l5Lit.calls (k : Nat)  (r : List (S22)) (w : World) (h : spec_l5Lit.f k  = some r) :
    Calls Try.prog 39 #[] w fun e w' => ∃ v0_ : Value, e = .returned (v0_) ∧ Kd.R k22 22 w' w.heap.size (fun _ => True) v0_ r ∧ Below w.heap.size w w' := by
  have hu22 := Try.underlying22
  have HB := Aside0.mk (Below.refl w.heap.size w)
  have H : (spec_l5Lit.l0 k (([] : List (S22))) 0) = some r := h
  clear h
  obtain ⟨y120, hy120⟩ : ∃ y_ : List (S22), y_ = (([] : List (S22))) := ⟨_, rfl⟩
  replace H : (spec_l5Lit.l0 k y120 0) = some r := by first | (rw [hy120]; with_reducible exact H) | (have H2_ := (Option.bind_some _ _).symm.trans H; rw [hy120]; with_reducible exact H2_) | (have H2_ := (Option.bind_some _ _).symm.trans H; with_reducible exact H2_) | with_reducible exact H | (rw [hy120]; exact H) | exact H
  have Ny120 := Aside0.mk hy120
  clear hy120
  have H' := Aside0.mk H
  clear H
  go_enter Try.func39, Try.ntmps39
  go_wp2_with (first | ((with_reducible refine gate_dst (N := 3) rfl ?_); refine Kd.R_lit k22 _ 22 ?hg (N := 3) ?hd (xs := ([] : List (S22))) (inner := []) (ok := fun _ => True) (okp := fun _ => True) ?hr ?hp (fun _ hk => hk) trivial (Below.refl _ _) (Nat.le_refl _) (by simp) ?_; (case hd => rfl); (case hg => rfl); (case hr => first | (go_simp; done) | (go_simp; rfl)); (case hp => exact (Reps.none _ _)); intro v121 w1 ho2 hb hg_ hnew_; clear hg_ hnew_; (first | rw [← Ny120.out] at ho2 | (simp only [Int.reduceToNat] at ho2; rw [← Ny120.out] at ho2)); have n0_ := Aside0.mk (Kd.R_lower ho2 (below_size (by repeat (first | (with_reducible first | exact HB.out | apply below_alloc | apply pw_below_drewN | apply below_drew1) | exact HB.out)))); have n1_ := Aside0.mk (below_step (by repeat (first | (with_reducible first | exact HB.out | apply below_alloc | apply pw_below_drewN | apply below_drew1) | exact HB.out)) hb); clear HB; have HO122 := n0_; have HB := n1_; clear n0_ n1_; clear hb ho2))
  go_loopg [1, 2] k (fun kq v1 v2 w' => ∃ (x1_1 : List (S22)) (x2_1 : Int), v2 = .int .i64 x2_1 ∧ Aside0 (spec_l5Lit.l0 kq x1_1 x2_1 = some r) ∧ Aside0 (kq ≤ k) ∧ Aside0 (Kd.R k22 22 w' w.heap.size (fun _ => True) v1 x1_1) ∧ Aside0 (Below w.heap.size w w'))
  case atStart => exact ⟨(y120), (0), (by first | rfl | (simp; done) | (simp [*]; done)), H', ⟨Nat.le_refl _⟩, ⟨by (with_reducible repeat (first | apply Kd.R_alloc | apply Kd.R_drewN | apply Kd.R_drew)); exact HO122.out⟩, ⟨by repeat (first | (with_reducible first | exact HB.out | apply below_alloc | apply pw_below_drewN | apply below_drew1) | exact HB.out)⟩⟩
  case round =>
    clear H'
    try clear p2
    obtain ⟨x1_1, x2_1, rfl, HA, HK1, HO_1, HB⟩ := hrel
    cases gk with
    | zero => exact absurd HA.out (by simp [spec_l5Lit.l0])
    | succ k1 =>
      have H := HA.out
      clear HA
      simp only [spec_l5Lit.l0] at H
      by_cases c3 : x2_1 < 27
      · rw [if_pos c3] at H
        have c3b0 : decide (x2_1 < 27) = true := decide_eq_true c3
        clear c3
        by_cases c4 : x1_1.length < 5864062014805
        · rw [if_pos c4] at H
          have LMc4 := Aside0.mk c4
          clear c4
          obtain ⟨y123, hy123⟩ : ∃ y_ : List (S22), y_ = (x1_1 ++ [(⟨wrap64 (Int.tdiv x2_1 9), Int.tmod (wrap64 (Int.tdiv x2_1 3)) 3, Int.tmod x2_1 3⟩ : S22)]) := ⟨_, rfl⟩
          replace H : (spec_l5Lit.l0 k1 y123 (wrap64 (x2_1 + 1))) = some r := by first | (rw [hy123]; with_reducible exact H) | (have H2_ := (Option.bind_some _ _).symm.trans H; rw [hy123]; with_reducible exact H2_) | (have H2_ := (Option.bind_some _ _).symm.trans H; with_reducible exact H2_) | with_reducible exact H | (rw [hy123]; exact H) | exact H
          have Ny123 := Aside0.mk hy123
          clear hy123
          have H' := Aside0.mk H
          clear H
          go_wp2_with (first | ((with_reducible refine gate_builtin (b := .append) (xs := #[.tmp 8, .tmp 17]) rfl ?_); at_builtin; refine Kd.R_append k22 (w0 := w) w.heap.size rfl (.tmp 8) (.tmp 17) 25 22 (.agg #[(.int .i64 0), (.int .i64 0), (.int .i64 0)]) 24 rfl Try.underlying25 info22 rfl (by decide) (by omega) u1 x1_1 (⟨wrap64 (Int.tdiv x2_1 9), Int.tmod (wrap64 (Int.tdiv x2_1 3)) 3, Int.tmod x2_1 3⟩ : S22) [.int .i64 (wrap64 (Int.tdiv x2_1 9)), .int .i64 (Int.tmod (wrap64 (Int.tdiv x2_1 3)) 3), .int .i64 (Int.tmod x2_1 3)] (fun _ => True) (fun _ => False) rfl rfl ?aP (fun _ hk => hk.elim) ?aF ?aO ?aB ?aS ?aL ?_; (case aP => exact k22_mkM _ _ _ (⟨wrap64 (Int.tdiv x2_1 9), Int.tmod (wrap64 (Int.tdiv x2_1 3)) 3, Int.tmod x2_1 3⟩ : S22)); (case aB => exact (by repeat (first | (with_reducible first | exact HB.out | apply below_alloc | apply pw_below_drewN | apply below_drew1) | exact HB.out))); (case aF => exact (fun _ _ => trivial)); (case aO => exact (by (with_reducible repeat (first | apply Kd.R_alloc | apply Kd.R_drewN | apply Kd.R_drew)); exact HO_1.out)); (case aS => exact (below_size (by repeat (first | (with_reducible first | exact HB.out | apply below_alloc | apply pw_below_drewN | apply below_drew1) | exact HB.out)))); (case aL => have := LMc4.out; omega); intro v124 w5 ho hb hg hat; rw [← Ny123.out] at ho; have n0_ := Aside0.mk (hb); have n1_ := Aside0.mk (ho); clear HB; clear HO_1; have HB := n0_; have HO125 := n1_; clear n0_ n1_; clear ho hb hg hat))
          go_roundg k1
          case measure => have := HK1.out; omega
          case rel => exact ⟨(y123), (wrap64 (x2_1 + 1)), (by first | rfl | (simp; done) | (simp [*]; done)), H', ⟨by have := HK1.out; omega⟩, ⟨by (with_reducible repeat (first | apply Kd.R_alloc | apply Kd.R_drewN | apply Kd.R_drew)); exact HO125.out⟩, ⟨by repeat (first | (with_reducible first | exact HB.out | apply below_alloc | apply pw_below_drewN | apply below_drew1) | exact HB.out)⟩⟩
        · rw [if_neg c4] at H
          exact absurd H (by simp)
      · rw [if_neg c3] at H
        have c3b0 : decide (x2_1 < 27) = false := decide_eq_false c3
        clear c3
        obtain rfl := Option.some.inj H
        go_wp2
        go_ret
        exact ⟨_, by first | rfl | (simp [errW_none, errW_some] <;> rfl) | (simp [*, errW_none, errW_some] <;> rfl), by (with_reducible repeat (first | apply Kd.R_alloc | apply Kd.R_drewN | apply Kd.R_drew)); exact HO_1.out, by repeat (first | (with_reducible first | exact HB.out | apply below_alloc | apply pw_below_drewN | apply below_drew1) | exact HB.out)⟩

end Go.Proofs.Ythoblgccnkjnoaa.PT
