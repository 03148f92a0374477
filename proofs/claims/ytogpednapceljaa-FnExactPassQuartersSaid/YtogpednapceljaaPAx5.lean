-- Printed by a program of this session's own.
import Derived.Test.YtogpednapceljaaPAx0
import Derived.Test.YtogpednapceljaaPAx4
namespace Go.Proofs.Ytogpednapceljaa.PA
open Go.RowKit Go.Proofs.YtogpednapceljaaW.PrintWords Go.Proofs.YtogpednapceljaaW.PrintLast Go.Proofs.YtogpednapceljaaW.PrintMore Go.Proofs.YtogpednapceljaaX
attribute [local go_sem] max2_int min2_int max_two min_two max_three min_three max_four min_four   -- for this text's walks alone
set_option linter.unusedVariables false
set_option linter.unusedSimpArgs false

/-! ### impl_passQuarters: function 93 -/
def impl_passQuarters.l0 : Nat → List (S23) → Int → Int → Int → Option ((List (S23)))
  | 0, _, _, _, _ => none
  | k + 1, x0, x1, x9, x10 => if x10 < x9 then (if 0 ≤ x10 then (if x10 < (x0.length : Int) then ((impl_Thing_rate.f ((rd_T23 x0 x10).f0) ((rd_T23 x0 x10).f1) ((rd_T23 x0 x10).f2) ((rd_T23 x0 x10).f3)).bind fun t183 => ((some (x0.set (x10 : Int).toNat (⟨(rd_T23 x0 x10).f0, (rd_T23 x0 x10).f1, mx (wrap64 (((rd_T23 x0 x10).f2) - (wrap64 (x1 * t183)))) 0, (rd_T23 x0 x10).f3⟩ : S23) : List (S23))).bind fun y184 => (if ((rd_T23 y184 x10).f2) = 0 then (impl_passQuarters.l0 k (y184.set (x10 : Int).toNat (⟨(rd_T23 y184 x10).f0, (rd_T23 y184 x10).f1, (rd_T23 y184 x10).f2, 0⟩ : S23)) x1 x9 (wrap64 (x10 + 1))) else (impl_passQuarters.l0 k y184 x1 x9 (wrap64 (x10 + 1)))))) else (none)) else (none)) else (some x0)
def impl_passQuarters.f (k : Nat) (l0 : List (S23)) (a1 : Int) : Option ((List (S23))) := impl_passQuarters.l0 k l0 (mn a1 240) (l0.length : Int) 0
theorem impl_passQuarters.mono_l : ∀ k, (∀ y0 y1 y2 y3, LeO (impl_passQuarters.l0 k y0 y1 y2 y3) (impl_passQuarters.l0 (k + 1) y0 y1 y2 y3))
  | 0 => fun _ _ _ _ r h => by simp [impl_passQuarters.l0] at h
  | k + 1 => by
    have ih0 := impl_passQuarters.mono_l k
    · intro y0 y1 y2 y3
      unfold impl_passQuarters.l0
      repeat' first
      | (with_reducible exact ih0 _ _ _ _)
      | (with_reducible exact LeO.refl _)
      | (with_reducible exact LeO.none _)
      | (with_reducible refine LeO.ite ?_ ?_)
      | (with_reducible refine LeO.bind ?_ (fun _ => ?_))
      | exact ih0 _ _ _ _
      | exact LeO.none _
      | refine LeO.ite ?_ ?_
      | refine LeO.bind ?_ (fun _ => ?_)
theorem impl_passQuarters.mono : ∀ a0 a1 k, LeO (impl_passQuarters.f k a0 a1) (impl_passQuarters.f (k + 1) a0 a1) := by
  intro a0 a1 k
  have ih0 := impl_passQuarters.mono_l k
  unfold impl_passQuarters.f
  repeat' first
      | (with_reducible exact ih0 _ _ _ _)
      | (with_reducible exact LeO.refl _)
      | (with_reducible exact LeO.none _)
      | (with_reducible refine LeO.ite ?_ ?_)
      | (with_reducible refine LeO.bind ?_ (fun _ => ?_))
      | exact ih0 _ _ _ _
      | exact LeO.none _
      | refine LeO.ite ?_ ?_
      | refine LeO.bind ?_ (fun _ => ?_)
def impl_passQuarters.T5 : Bool × List (List Nat × List Nat) := (true, [([], []), ([], []), ([1], [1]), ([2], [2]), ([3], [3]), ([], []), ([], []), ([6], [6]), ([7], [7]), ([8], [8]), ([5, 9], [5, 9]), ([4, 10], [4, 10]), ([11], [11]), ([0, 0, 1, 2, 3, 4, 5, 6, 7, 8, 9, 10, 11, 12], [0]), ([13, 0, 1, 2, 3, 4, 5, 6, 7, 8, 9, 10, 11, 12], [13]), ([14, 12, 9, 0, 1, 2, 3, 4, 5, 6, 7, 8, 9, 10, 11, 12], [12, 14])])
def impl_passQuarters.B5 : List Nat := [0, 0, 2, 6, 14, 0, 0, 64, 192, 448, 992, 2046, 4094, 8191, 16383, 32767]
theorem impl_passQuarters.tab5 : rtab .any (opsOf Try.f93 5) = impl_passQuarters.T5 := by kernel_rfl
theorem impl_passQuarters.bits5 : waitsOk impl_passQuarters.T5.2 impl_passQuarters.B5 = true := by kernel_rfl
set_option maxHeartbeats 8000000 in
set_option maxRecDepth 100000 in
theorem impl_passQuarters.calls (k : Nat) (P0_ : Nat → Prop) (u9000_ : Value) (l0 : List (S23)) (a1 : Int) (r : List (S23)) (w0 w : World) (hB : Below w0.heap.size w0 w) (ho0 : Kd.R k23 23 w w0.heap.size P0_ u9000_ l0) (h : impl_passQuarters.f k l0 a1 = some r) :
    Calls Try.prog 93 #[u9000_, .int .i64 a1] w fun e w' => e = .returned (.tuple #[]) ∧ Kd.R k23 23 w' w0.heap.size (fun k_ => (P0_ k_ ∨ w.heap.size ≤ k_)) u9000_ r ∧ Below w0.heap.size w0 w' ∧ Kept w w' (fun k_ => P0_ k_) := by
  have hu23 := Try.underlying23
  have HO0 := Aside0.mk (show Kd.R k23 23 w w0.heap.size (fun k_ => (P0_ k_ ∨ w.heap.size ≤ k_)) u9000_ l0 from Kd.R_mono ho0 (fun k_ hk => (.inl hk)))
  have HK := Aside0.mk (Kept.refl w (fun k_ => P0_ k_))
  have HW0 := Aside0.mk hB.size
  have HB := Aside0.mk hB
  clear hB
  have H : (impl_passQuarters.l0 k l0 (mn a1 240) (l0.length : Int) 0) = some r := h
  clear h
  obtain ⟨ji3, hji3⟩ : ∃ j_ : Int, (mn a1 240) = j_ := ⟨_, rfl⟩
  replace H : (impl_passQuarters.l0 k l0 ji3 (l0.length : Int) 0) = some r := by first | (rw [hji3] at H; exact H) | (simp only [hji3] at H ⊢; exact H)
  (try (have hji3h : ji3 ≤ 240 := by (rw [← hji3]; unfold mn; (repeat' split) <;> omega)))
  (try (have hji3g : ji3 ≤ 64 := by omega))
  have hji3_ : (if 240 < a1 then 240 else a1) = ji3 := hji3
  have H' := Aside0.mk H
  clear H
  obtain ⟨Ao4, co4, eo4⟩ := Kd.R_slice HO0.out
  subst eo4
  go_enter Try.func93, Try.ntmps93
  go_wp2
  go_loopg [10] k (fun kq v10 w' => ∃ (x0_1 : List (S23)) (x10_1 : Int), v10 = .int .i64 x10_1 ∧ Aside0 (impl_passQuarters.l0 kq x0_1 ji3 (l0.length : Int) x10_1 = some r) ∧ Aside0 (kq ≤ k) ∧ Aside0 (Kd.R k23 23 w' w0.heap.size (fun k_ => (P0_ k_ ∨ w.heap.size ≤ k_)) (.slice Ao4 l0.length co4) x0_1) ∧ Aside0 (Kept w w' (fun k_ => P0_ k_)) ∧ Aside0 (Below w0.heap.size w0 w'))
  case atStart => exact ⟨(l0), (0), (by first | rfl | (simp; done) | (simp [*]; done)), H', ⟨Nat.le_refl _⟩, ⟨by (with_reducible repeat (first | apply Kd.R_alloc | apply Kd.R_drewN | apply Kd.R_drew)); exact HO0.out⟩, ⟨by repeat (first | (with_reducible first | exact HK.out | apply Kept.alloc | apply Kept.drewN | apply Kept.drew) | exact HK.out)⟩, ⟨by repeat (first | (with_reducible first | exact HB.out | apply below_alloc | apply pw_below_drewN | apply below_drew1) | exact HB.out)⟩⟩
  case round =>
    clear H'
    try clear p2
    obtain ⟨x0_1, x10_1, rfl, HA, HK1, HO_0, HK, HB⟩ := hrel
    have hl0_1 := (Kd.R_reads' HO_0.out).1
    rw [hl0_1] at HO_0
    (try simp only [hl0_1])
    cases gk with
    | zero => exact absurd HA.out (by simp [impl_passQuarters.l0])
    | succ k1 =>
      have H := HA.out
      clear HA
      simp only [impl_passQuarters.l0] at H
      by_cases c5 : x10_1 < (l0.length : Int)
      · rw [if_pos c5] at H
        have c5b0 : decide (x10_1 < (l0.length : Int)) = true := decide_eq_true c5
        clear c5
        by_cases c6 : 0 ≤ x10_1
        · rw [if_pos c6] at H
          have c6b0 : decide (0 ≤ x10_1) = true := decide_eq_true c6
          clear c6
          by_cases c7 : x10_1 < (x0_1.length : Int)
          · rw [if_pos c7] at H
            have c7b0 : decide (x10_1 < (x0_1.length : Int)) = true := decide_eq_true c7
            clear c7
            replace H := Option.bind_eq_some_iff.mp H
            obtain ⟨t183, A90, H⟩ := H
            replace H : ((some (x0_1.set (x10_1 : Int).toNat (⟨(rd_T23 x0_1 x10_1).f0, (rd_T23 x0_1 x10_1).f1, mx (wrap64 (((rd_T23 x0_1 x10_1).f2) - (wrap64 (ji3 * t183)))) 0, (rd_T23 x0_1 x10_1).f3⟩ : S23) : List (S23))).bind fun y184 => (if ((rd_T23 y184 x10_1).f2) = 0 then (impl_passQuarters.l0 k1 (y184.set (x10_1 : Int).toNat (⟨(rd_T23 y184 x10_1).f0, (rd_T23 y184 x10_1).f1, (rd_T23 y184 x10_1).f2, 0⟩ : S23)) ji3 (l0.length : Int) (wrap64 (x10_1 + 1))) else (impl_passQuarters.l0 k1 y184 ji3 (l0.length : Int) (wrap64 (x10_1 + 1))))) = some r := H
            have A9 := Aside0.mk A90
            clear A90
            obtain ⟨ji10, hji10⟩ : ∃ j_ : Int, (mx (wrap64 (((rd_T23 x0_1 x10_1).f2) - (wrap64 (ji3 * t183)))) 0) = j_ := ⟨_, rfl⟩
            replace H : ((some (x0_1.set (x10_1 : Int).toNat (⟨(rd_T23 x0_1 x10_1).f0, (rd_T23 x0_1 x10_1).f1, ji10, (rd_T23 x0_1 x10_1).f3⟩ : S23) : List (S23))).bind fun y184 => (if ((rd_T23 y184 x10_1).f2) = 0 then (impl_passQuarters.l0 k1 (y184.set (x10_1 : Int).toNat (⟨(rd_T23 y184 x10_1).f0, (rd_T23 y184 x10_1).f1, (rd_T23 y184 x10_1).f2, 0⟩ : S23)) ji3 (l0.length : Int) (wrap64 (x10_1 + 1))) else (impl_passQuarters.l0 k1 y184 ji3 (l0.length : Int) (wrap64 (x10_1 + 1))))) = some r := by first | (rw [hji10] at H; exact H) | (simp only [hji10] at H ⊢; exact H)
            (try rw [hji10] at A9)
            have hji10_ : (if (wrap64 (((rd_T23 x0_1 x10_1).f2) - (wrap64 (ji3 * t183)))) < 0 then 0 else (wrap64 (((rd_T23 x0_1 x10_1).f2) - (wrap64 (ji3 * t183))))) = ji10 := hji10
            obtain ⟨y184, hy184⟩ : ∃ y_ : List (S23), y_ = (x0_1.set (x10_1 : Int).toNat (⟨(rd_T23 x0_1 x10_1).f0, (rd_T23 x0_1 x10_1).f1, ji10, (rd_T23 x0_1 x10_1).f3⟩ : S23)) := ⟨_, rfl⟩
            replace H : (if ((rd_T23 y184 x10_1).f2) = 0 then (impl_passQuarters.l0 k1 (y184.set (x10_1 : Int).toNat (⟨(rd_T23 y184 x10_1).f0, (rd_T23 y184 x10_1).f1, (rd_T23 y184 x10_1).f2, 0⟩ : S23)) ji3 (l0.length : Int) (wrap64 (x10_1 + 1))) else (impl_passQuarters.l0 k1 y184 ji3 (l0.length : Int) (wrap64 (x10_1 + 1)))) = some r := by first | (rw [hy184]; with_reducible exact H) | (have H2_ := (Option.bind_some _ _).symm.trans H; rw [hy184]; with_reducible exact H2_) | (have H2_ := (Option.bind_some _ _).symm.trans H; with_reducible exact H2_) | with_reducible exact H | (rw [hy184]; exact H) | exact H
            have Ny184 := Aside0.mk hy184
            clear hy184
            by_cases c12 : ((rd_T23 y184 x10_1).f2) = 0
            · rw [if_pos c12] at H
              have c12b0 : (((rd_T23 y184 x10_1).f2) == 0) = true := beq_iff_eq.mpr c12
              have c12b1 : (((rd_T23 y184 x10_1).f2) != 0) = false := bne_eq_false_iff_eq.mpr c12
              clear c12
              obtain ⟨y186, hy186⟩ : ∃ y_ : List (S23), y_ = (y184.set (x10_1 : Int).toNat (⟨(rd_T23 y184 x10_1).f0, (rd_T23 y184 x10_1).f1, (rd_T23 y184 x10_1).f2, 0⟩ : S23)) := ⟨_, rfl⟩
              replace H : (impl_passQuarters.l0 k1 y186 ji3 (l0.length : Int) (wrap64 (x10_1 + 1))) = some r := by first | (rw [hy186]; with_reducible exact H) | (have H2_ := (Option.bind_some _ _).symm.trans H; rw [hy186]; with_reducible exact H2_) | (have H2_ := (Option.bind_some _ _).symm.trans H; with_reducible exact H2_) | with_reducible exact H | (rw [hy186]; exact H) | exact H
              have Ny186 := Aside0.mk hy186
              clear hy186
              have H' := Aside0.mk H
              clear H
              have p8 : 0 ≤ (x10_1 : Int) := of_decide_eq_true (by first | (with_reducible assumption) | assumption)
              have q8 : (x10_1 : Int) < ((x0_1.length : Int) : Int) := of_decide_eq_true (by first | (with_reducible assumption) | assumption)
              obtain ⟨go8, co8, eo8, gb8, gl8, cl8, HG8⟩ := Kd.R_form HO_0.out (by omega)
              (first | cases eo8 | (injection eo8 with ea_ en_ ec_; (first | subst ea_ | (injection ea_ with ea_; subst ea_)); subst ec_; clear en_))
              have GB8 := Aside0.mk gb8
              have GG8 := Aside0.mk HG8
              clear gb8 gl8 HG8
              have HMgo8 := Aside0.mk (show (P0_ go8 ∨ w.heap.size ≤ go8) from (HO_0.out.1 _ rfl))
              obtain ⟨ce8, hcl8, hM8, hcc8, hfr8⟩ := Kd.R_elem HO_0.out z23 (x10_1 : Int) p8 q8
              obtain rfl := k23_openM hM8
              have hx8_0 : wr.cell? ⟨go8, (x10_1 : Int).toNat * 4, none⟩ = some (.int .i64 ((rd_T23 x0_1 x10_1).f0)) := hcc8 0 _ rfl
              have hx8_1 : wr.cell? ⟨go8, (x10_1 : Int).toNat * 4 + 1, none⟩ = some (.int .i64 ((rd_T23 x0_1 x10_1).f1)) := hcc8 1 _ rfl
              have hx8_2 : wr.cell? ⟨go8, (x10_1 : Int).toNat * 4 + 2, none⟩ = some (.int .i64 ((rd_T23 x0_1 x10_1).f2)) := hcc8 2 _ rfl
              have hx8_3 : wr.cell? ⟨go8, (x10_1 : Int).toNat * 4 + 3, none⟩ = some (.int .i64 ((rd_T23 x0_1 x10_1).f3)) := hcc8 3 _ rfl
              have hf8_0 : wr.frozen? ⟨go8, (x10_1 : Int).toNat * 4, none⟩ = false := hfr8 0
              have hf8_1 : wr.frozen? ⟨go8, (x10_1 : Int).toNat * 4 + 1, none⟩ = false := hfr8 1
              have hf8_2 : wr.frozen? ⟨go8, (x10_1 : Int).toNat * 4 + 2, none⟩ = false := hfr8 2
              have hf8_3 : wr.frozen? ⟨go8, (x10_1 : Int).toNat * 4 + 3, none⟩ = false := hfr8 3
              clear hcl8 hcc8 hfr8 hM8
              replace p8 := eq_true p8
              replace q8 := eq_true q8
              try go_wp2
              have n0_ := Aside0.mk (Kd.R_drew HO_0.out)
              have n1_ := Aside0.mk (Kept.drew HK.out)
              have n2_ := Aside0.mk (below_drew1 HB.out)
              clear HO_0
              clear HK
              clear HB
              have HO_0 := n0_
              have HK := n1_
              have HB := n2_
              clear n0_ n1_ n2_
              have p181 : 0 ≤ (x10_1 : Int) := of_decide_eq_true (by first | (with_reducible assumption) | assumption)
              have q181 : x10_1 < (x0_1.length : Int) := of_decide_eq_true (by first | (with_reducible assumption) | assumption)
              obtain ⟨ad181, e181, hx181_0, hx181_1, hx181_2, hx181_3⟩ := at_T23 (Kd.R_reads' HO_0.out).2.2 x10_1 p181 q181
              obtain rfl : (⟨go8, 0, none⟩ : Addr) = ad181 := (by injection e181)
              (first | simp only [add_plain] at hx181_0 | simp only [add_at] at hx181_0 | simp only [Addr.add, Nat.zero_add] at hx181_0 | skip)
              (first | simp only [add_plain] at hx181_1 | simp only [add_at] at hx181_1 | simp only [Addr.add, Nat.zero_add] at hx181_1 | skip)
              (first | simp only [add_plain] at hx181_2 | simp only [add_at] at hx181_2 | simp only [Addr.add, Nat.zero_add] at hx181_2 | skip)
              (first | simp only [add_plain] at hx181_3 | simp only [add_at] at hx181_3 | simp only [Addr.add, Nat.zero_add] at hx181_3 | skip)
              replace p181 := eq_true p181
              replace q181 := eq_true q181
              have p182 : 0 ≤ (x10_1 : Int) := of_decide_eq_true (by first | (with_reducible assumption) | assumption)
              have q182 : x10_1 < (x0_1.length : Int) := of_decide_eq_true (by first | (with_reducible assumption) | assumption)
              obtain ⟨ad182, e182, hx182_0, hx182_1, hx182_2, hx182_3⟩ := at_T23 (Kd.R_reads' HO_0.out).2.2 x10_1 p182 q182
              obtain rfl : (⟨go8, 0, none⟩ : Addr) = ad182 := (by injection e182)
              (first | simp only [add_plain] at hx182_0 | simp only [add_at] at hx182_0 | simp only [Addr.add, Nat.zero_add] at hx182_0 | skip)
              (first | simp only [add_plain] at hx182_1 | simp only [add_at] at hx182_1 | simp only [Addr.add, Nat.zero_add] at hx182_1 | skip)
              (first | simp only [add_plain] at hx182_2 | simp only [add_at] at hx182_2 | simp only [Addr.add, Nat.zero_add] at hx182_2 | skip)
              (first | simp only [add_plain] at hx182_3 | simp only [add_at] at hx182_3 | simp only [Addr.add, Nat.zero_add] at hx182_3 | skip)
              replace p182 := eq_true p182
              replace q182 := eq_true q182
              refine start_ (n := 16) (S := fun w' => w'.cell? ⟨go8, (x10_1).toNat * 4, none⟩ = some (.int .i64 ((rd_T23 x0_1 x10_1).f0)) ∧ w'.cell? ⟨go8, (x10_1).toNat * 4 + 1, none⟩ = some (.int .i64 ((rd_T23 x0_1 x10_1).f1)) ∧ w'.cell? ⟨go8, (x10_1).toNat * 4 + 2, none⟩ = some (.int .i64 ((rd_T23 x0_1 x10_1).f2)) ∧ w'.cell? ⟨go8, (x10_1).toNat * 4 + 3, none⟩ = some (.int .i64 ((rd_T23 x0_1 x10_1).f3)) ∧ w'.cell? ⟨go8, (x10_1).toNat * 4, none⟩ = some (.int .i64 ((rd_T23 x0_1 x10_1).f0)) ∧ w'.cell? ⟨go8, (x10_1).toNat * 4 + 1, none⟩ = some (.int .i64 ((rd_T23 x0_1 x10_1).f1)) ∧ w'.cell? ⟨go8, (x10_1).toNat * 4 + 2, none⟩ = some (.int .i64 ((rd_T23 x0_1 x10_1).f2)) ∧ w'.cell? ⟨go8, (x10_1).toNat * 4 + 3, none⟩ = some (.int .i64 ((rd_T23 x0_1 x10_1).f3))) (ds := [15]) #[false, false, false, false, false, false, false, false, false, false, false, false, false, false, false, false] (by kernel_rfl) rfl rfl ⟨hx181_0, hx181_1, hx181_2, hx181_3, hx182_0, hx182_1, hx182_2, hx182_3⟩ (fun hHeld => ?_); refine with_tabW impl_passQuarters.tab5 impl_passQuarters.bits5 (fun HT_ HW_ => ?_)
              generalize wr.drew = w14 at HO_0 HK HB hx181_0 hx181_1 hx181_2 hx181_3 hx182_0 hx182_1 hx182_2 hx182_3 hHeld ⊢
              refine pure_ (i := 0) (N := some 16) (v := ?_) (a' := ?_) #[true, false, false, false, false, false, false, false, false, false, false, false, false, false, false, false] rfl rfl (any_of HT_.out (by kernel_rfl)) (fun _ _ _ h => h) (Or.inl ⟨by rfl, ?_⟩) ?_ ?_
              rotate_left
              · intro w'
                go_simp
                with_reducible rfl
              rotate_left
              · simp only [Act.put, List.setIfInBounds_toArray, List.set_cons_zero, List.set_cons_succ, i64_w, i32_w]
                rfl
              refine pure_ (i := 1) (N := some 17) (v := ?_) (a' := ?_) #[true, true, false, false, false, false, false, false, false, false, false, false, false, false, false, false] rfl rfl (any_of HT_.out (by kernel_rfl)) (fun _ _ _ h => h) (Or.inl ⟨by rfl, ?_⟩) ?_ ?_
              rotate_left
              · intro w'
                go_simp
                with_reducible rfl
              rotate_left
              · simp only [Act.put, List.setIfInBounds_toArray, List.set_cons_zero, List.set_cons_succ, i64_w, i32_w]
                rfl
              refine pure_ (i := 2) (N := some 18) (v := ?_) (a' := ?_) #[true, true, true, false, false, false, false, false, false, false, false, false, false, false, false, false] rfl rfl (any_of HT_.out (by kernel_rfl)) (fun _ _ _ h => h) (Or.inl ⟨by rfl, ?_⟩) ?_ ?_
              rotate_left
              · intro w'
                go_simp
                with_reducible rfl
              rotate_left
              · simp only [Act.put, List.setIfInBounds_toArray, List.set_cons_zero, List.set_cons_succ, i64_w, i32_w]
                rfl
              refine pure_ (i := 3) (N := some 19) (v := ?_) (a' := ?_) #[true, true, true, true, false, false, false, false, false, false, false, false, false, false, false, false] rfl rfl (any_of HT_.out (by kernel_rfl)) (fun _ _ _ h => h) (Or.inl ⟨by rfl, ?_⟩) ?_ ?_
              rotate_left
              · intro w'
                go_simp
                with_reducible rfl
              rotate_left
              · simp only [Act.put, List.setIfInBounds_toArray, List.set_cons_zero, List.set_cons_succ, i64_w, i32_w]
                rfl
              refine pure_ (i := 5) (N := some 21) (v := ?_) (a' := ?_) #[true, true, true, true, false, true, false, false, false, false, false, false, false, false, false, false] rfl rfl (any_of HT_.out (by kernel_rfl)) (fun _ _ _ h => h) (Or.inl ⟨by rfl, ?_⟩) ?_ ?_
              rotate_left
              · intro w'
                go_simp
                with_reducible rfl
              rotate_left
              · simp only [Act.put, List.setIfInBounds_toArray, List.set_cons_zero, List.set_cons_succ, i64_w, i32_w]
                rfl
              refine pure_ (i := 6) (N := some 22) (v := ?_) (a' := ?_) #[true, true, true, true, false, true, true, false, false, false, false, false, false, false, false, false] rfl rfl (any_of HT_.out (by kernel_rfl)) (fun _ _ _ h => h) (Or.inl ⟨by rfl, ?_⟩) ?_ ?_
              rotate_left
              · intro w'
                go_simp
                with_reducible rfl
              rotate_left
              · simp only [Act.put, List.setIfInBounds_toArray, List.set_cons_zero, List.set_cons_succ, i64_w, i32_w]
                rfl
              refine pure_ (i := 7) (N := some 23) (v := ?_) (a' := ?_) #[true, true, true, true, false, true, true, true, false, false, false, false, false, false, false, false] rfl rfl (any_of HT_.out (by kernel_rfl)) (fun _ _ _ h => h) (Or.inl ⟨by rfl, ?_⟩) ?_ ?_
              rotate_left
              · intro w'
                go_simp
                with_reducible rfl
              rotate_left
              · simp only [Act.put, List.setIfInBounds_toArray, List.set_cons_zero, List.set_cons_succ, i64_w, i32_w]
                rfl
              refine take_ (i := 4) (N := some 20) (v := ?_) (a' := ?_) #[true, true, true, true, true, true, true, true, false, false, false, false, false, false, false, false] rfl rfl (take_ofW HT_.out HW_.out (by kernel_rfl)) (fun _ _ _ h => h) (Or.inl ⟨by rfl, ?_⟩) hHeld ?_ ?_
              rotate_left
              · rintro w' ⟨s0, s1, s2, s3, s4, s5, s6, s7⟩
                go_simp
                with_reducible rfl
              rotate_left
              · simp only [Act.put, List.setIfInBounds_toArray, List.set_cons_zero, List.set_cons_succ, i64_w, i32_w]
                rfl
              refine take_ (i := 8) (N := some 24) (v := ?_) (a' := ?_) #[true, true, true, true, true, true, true, true, true, false, false, false, false, false, false, false] rfl rfl (take_ofW HT_.out HW_.out (by kernel_rfl)) (fun _ _ _ h => h) (Or.inl ⟨by rfl, ?_⟩) hHeld ?_ ?_
              rotate_left
              · rintro w' ⟨s0, s1, s2, s3, s4, s5, s6, s7⟩
                go_simp
                with_reducible rfl
              rotate_left
              · simp only [Act.put, List.setIfInBounds_toArray, List.set_cons_zero, List.set_cons_succ, i64_w, i32_w]
                rfl
              refine one_ (i := 9) (N := some 25) #[true, true, true, true, true, true, true, true, true, true, false, false, false, false, false, false] rfl rfl (one_of HT_.out (by kernel_rfl)) (by decide) (fun K hK => ?_)
              refine goes_ Try.func116 (by kernel_rfl) rfl #[.agg #[.int .i64 ((rd_T23 x0_1 x10_1).f0), .int .i64 ((rd_T23 x0_1 x10_1).f1), .int .i64 ((rd_T23 x0_1 x10_1).f2), .int .i64 ((rd_T23 x0_1 x10_1).f3)]] (by rfl) rfl rfl (by (try simp only [List.map_toArray, List.map_cons, List.map_nil]); first | done | rfl | (simp only [List.length_drop, List.length_take]; rfl)) ?_
              with_reducible refine (impl_Thing_rate.calls ((rd_T23 x0_1 x10_1).f0) ((rd_T23 x0_1 x10_1).f1) ((rd_T23 x0_1 x10_1).f2) ((rd_T23 x0_1 x10_1).f3) t183 _ A9.out).mono ?_
              rintro e w15 ⟨rfl, hb⟩
              have HS0_ := (hb.cell (World.block_lt_of_cell? _ _ (hHeld.1))).trans (hHeld.1)
              have HS1_ := (hb.cell (World.block_lt_of_cell? _ _ (hHeld.2.1))).trans (hHeld.2.1)
              have HS2_ := (hb.cell (World.block_lt_of_cell? _ _ (hHeld.2.2.1))).trans (hHeld.2.2.1)
              have HS3_ := (hb.cell (World.block_lt_of_cell? _ _ (hHeld.2.2.2.1))).trans (hHeld.2.2.2.1)
              have HS4_ := (hb.cell (World.block_lt_of_cell? _ _ (hHeld.2.2.2.2.1))).trans (hHeld.2.2.2.2.1)
              have HS5_ := (hb.cell (World.block_lt_of_cell? _ _ (hHeld.2.2.2.2.2.1))).trans (hHeld.2.2.2.2.2.1)
              have HS6_ := (hb.cell (World.block_lt_of_cell? _ _ (hHeld.2.2.2.2.2.2.1))).trans (hHeld.2.2.2.2.2.2.1)
              have HS7_ := (hb.cell (World.block_lt_of_cell? _ _ (hHeld.2.2.2.2.2.2.2))).trans (hHeld.2.2.2.2.2.2.2)
              refine ⟨_, rfl, ?_⟩
              have n0_ := Aside0.mk (Kd.R_below (by (with_reducible repeat (first | apply Kd.R_alloc | apply Kd.R_drewN | apply Kd.R_drew)); exact HO_0.out) hb)
              have n1_ := Aside0.mk (Kept.below (S := (fun k_ => P0_ k_)) (by repeat (first | (with_reducible first | exact HK.out | apply Kept.alloc | apply Kept.drewN | apply Kept.drew) | exact HK.out)) hb)
              have n2_ := Aside0.mk (below_step (by repeat (first | (with_reducible first | exact HB.out | apply below_alloc | apply pw_below_drewN | apply below_drew1) | exact HB.out)) hb)
              clear HO_0
              clear HK
              clear HB
              have HO_0 := n0_
              have HK := n1_
              have HB := n2_
              clear n0_ n1_ n2_
              (try clear hb)
              (try clear hb2)
              (try clear hk)
              (try clear hi)
              have p11 : 0 ≤ (x10_1 : Int) := of_decide_eq_true (by first | (with_reducible assumption) | assumption)
              have q11 : (x10_1 : Int) < ((x0_1.length : Int) : Int) := of_decide_eq_true (by first | (with_reducible assumption) | assumption)
              obtain ⟨ce11, hcl11, hM11, hcc11, hfr11⟩ := Kd.R_elem HO_0.out z23 (x10_1 : Int) p11 q11
              obtain rfl := k23_openM hM11
              have hx11_0 : World.cell? _ ⟨go8, (x10_1 : Int).toNat * 4, none⟩ = some (.int .i64 ((rd_T23 x0_1 x10_1).f0)) := hcc11 0 _ rfl
              have hx11_1 : World.cell? _ ⟨go8, (x10_1 : Int).toNat * 4 + 1, none⟩ = some (.int .i64 ((rd_T23 x0_1 x10_1).f1)) := hcc11 1 _ rfl
              have hx11_2 : World.cell? _ ⟨go8, (x10_1 : Int).toNat * 4 + 2, none⟩ = some (.int .i64 ((rd_T23 x0_1 x10_1).f2)) := hcc11 2 _ rfl
              have hx11_3 : World.cell? _ ⟨go8, (x10_1 : Int).toNat * 4 + 3, none⟩ = some (.int .i64 ((rd_T23 x0_1 x10_1).f3)) := hcc11 3 _ rfl
              have hf11_0 : World.frozen? _ ⟨go8, (x10_1 : Int).toNat * 4, none⟩ = false := hfr11 0
              have hf11_1 : World.frozen? _ ⟨go8, (x10_1 : Int).toNat * 4 + 1, none⟩ = false := hfr11 1
              have hf11_2 : World.frozen? _ ⟨go8, (x10_1 : Int).toNat * 4 + 2, none⟩ = false := hfr11 2
              have hf11_3 : World.frozen? _ ⟨go8, (x10_1 : Int).toNat * 4 + 3, none⟩ = false := hfr11 3
              clear hcl11 hcc11 hfr11 hM11
              replace p11 := eq_true p11
              replace q11 := eq_true q11
              obtain ⟨ce16, hcl16, hM16, hcc16, hfr16⟩ := Kd.R_elem HO_0.out z23 (x10_1 : Int) (of_decide_eq_true (by first | (with_reducible assumption) | assumption)) (by have h_ : (x10_1 : Int) < ((x0_1.length : Int) : Int) := of_decide_eq_true (by first | (with_reducible assumption) | assumption); first | exact h_ | (have e_ := (Kd.R_reads' HO_0.out).1; omega) | simpa using h_)
              obtain rfl := k23_openM hM16
              have HP16 := (Kd.R_seg HO_0.out (x10_1 : Int) (of_decide_eq_true (by first | (with_reducible assumption) | assumption)) (by have h_ : (x10_1 : Int) < ((x0_1.length : Int) : Int) := of_decide_eq_true (by first | (with_reducible assumption) | assumption); first | exact h_ | (have e_ := (Kd.R_reads' HO_0.out).1; omega) | simpa using h_) (seg := [.int .i64 ji10]) (j := 2) hcl16 hcc16 (show 3 ≤ 4 from by decide) (x' := (⟨(rd_T23 x0_1 x10_1).f0, (rd_T23 x0_1 x10_1).f1, ji10, (rd_T23 x0_1 x10_1).f3⟩ : S23)) (k23_mkM _ _ _ (⟨(rd_T23 x0_1 x10_1).f0, (rd_T23 x0_1 x10_1).f1, ji10, (rd_T23 x0_1 x10_1).f3⟩ : S23) ) (fun _ hk => hk)).1
              rw [← Ny184.out] at HP16
              have HQ16 := Aside0.mk HP16
              clear hcl16 hcc16 hfr16 hM16 HP16
              refine hK.out _ _ ⟨HS0_, HS1_, HS2_, HS3_, HS4_, HS5_, HS6_, HS7_⟩ (fun hHeld => ?_)
              clear hK K
              refine norm_ (a' := ?_) ?_ ?_
              rotate_left
              · show Act.put _ (some 25) _ = _
                simp only [Act.put, List.setIfInBounds_toArray, List.set_cons_zero, List.set_cons_succ, i64_w, i32_w]
                rfl
              refine pure_ (i := 10) (N := some 26) (v := ?_) (a' := ?_) #[true, true, true, true, true, true, true, true, true, true, true, false, false, false, false, false] rfl rfl (any_of HT_.out (by kernel_rfl)) (fun _ _ _ h => h) (Or.inl ⟨by rfl, ?_⟩) ?_ ?_
              rotate_left
              · intro w'
                go_simp
                with_reducible rfl
              rotate_left
              · simp only [Act.put, List.setIfInBounds_toArray, List.set_cons_zero, List.set_cons_succ, i64_w, i32_w]
                rfl
              refine pure_ (i := 11) (N := some 27) (v := ?_) (a' := ?_) #[true, true, true, true, true, true, true, true, true, true, true, true, false, false, false, false] rfl rfl (any_of HT_.out (by kernel_rfl)) (fun _ _ _ h => h) (Or.inl ⟨by rfl, ?_⟩) ?_ ?_
              rotate_left
              · intro w'
                go_simp
                with_reducible rfl
              rotate_left
              · simp only [Act.put, List.setIfInBounds_toArray, List.set_cons_zero, List.set_cons_succ, i64_w, i32_w]
                rfl
              refine pure_ (i := 12) (N := some 28) (v := ?_) (a' := ?_) #[true, true, true, true, true, true, true, true, true, true, true, true, true, false, false, false] rfl rfl (any_of HT_.out (by kernel_rfl)) (fun _ _ _ h => h) (Or.inl ⟨by rfl, ?_⟩) ?_ ?_
              rotate_left
              · intro w'
                go_simp
                with_reducible rfl
              rotate_left
              · simp only [Act.put, List.setIfInBounds_toArray, List.set_cons_zero, List.set_cons_succ, i64_w, i32_w]
                rfl
              refine pure_ (i := 13) (N := some 29) (v := ?_) (a' := ?_) #[true, true, true, true, true, true, true, true, true, true, true, true, true, true, false, false] rfl rfl (any_of HT_.out (by kernel_rfl)) (fun _ _ _ h => h) (Or.inl ⟨by rfl, ?_⟩) ?_ ?_
              rotate_left
              · intro w'
                go_simp
                with_reducible rfl
              rotate_left
              · simp only [Act.put, List.setIfInBounds_toArray, List.set_cons_zero, List.set_cons_succ, i64_w, i32_w]
                rfl
              refine pure_ (i := 14) (N := some 30) (v := ?_) (a' := ?_) #[true, true, true, true, true, true, true, true, true, true, true, true, true, true, true, false] rfl rfl (any_of HT_.out (by kernel_rfl)) (fun _ _ _ h => h) (Or.inl ⟨by rfl, ?_⟩) ?_ ?_
              rotate_left
              · intro w'
                go_simp
                with_reducible rfl
              rotate_left
              · simp only [Act.put, List.setIfInBounds_toArray, List.set_cons_zero, List.set_cons_succ, i64_w, i32_w]
                rfl
              refine last_ (i := 15) (N := none) #[true, true, true, true, true, true, true, true, true, true, true, true, true, true, true, true] rfl rfl (one_of HT_.out (by kernel_rfl)) (by decide) (fun K hK => ?_)
              refine skip_ (w1 := ?_) (by rfl) rfl ?_ ?_
              rotate_left
              · go_simp
                rfl
              refine hK.out _ _ ?_
              clear hK K
              refine done_ (done_of HT_.out (by kernel_rfl)) ?_
              have n0_ : Aside0 (Kd.R k23 23 (w15.setCell ⟨go8, (x10_1 : Int).toNat * 4 + 2, none⟩ (.int .i64 ji10)) w0.heap.size (fun k_ => (P0_ k_ ∨ w.heap.size ≤ k_)) (.slice (some ⟨go8, 0, none⟩) x0_1.length co4) y184) := ⟨by (with_reducible repeat (first | apply Kd.R_alloc | apply Kd.R_drewN | apply Kd.R_drew)); exact HQ16.out⟩
              have n1_ : Aside0 (Kept w (w15.setCell ⟨go8, (x10_1 : Int).toNat * 4 + 2, none⟩ (.int .i64 ji10)) (fun k_ => P0_ k_)) := ⟨by repeat (first | (with_reducible first | exact HK.out | apply Kept.alloc | apply Kept.drewN | apply Kept.drew | refine Kept.setCell ?_ HMgo8.out _) | exact HK.out)⟩
              have n2_ : Aside0 (Below w0.heap.size w0 (w15.setCell ⟨go8, (x10_1 : Int).toNat * 4 + 2, none⟩ (.int .i64 ji10))) := ⟨by repeat (first | (with_reducible first | exact HB.out | apply below_alloc | apply pw_below_drewN | apply below_drew1 | refine below_set ?_ GB8.out) | exact HB.out)⟩
              (try clear HO_0)
              (try clear HK)
              (try clear HB)
              generalize (w15.setCell ⟨go8, (x10_1 : Int).toNat * 4 + 2, none⟩ (.int .i64 ji10)) = w17 at n0_ n1_ n2_ ⊢
              have HO_0 := n0_
              have HK := n1_
              have HB := n2_
              clear n0_ n1_ n2_
              have p185 : 0 ≤ (x10_1 : Int) := of_decide_eq_true (by first | (with_reducible assumption) | assumption)
              have q185 : x10_1 < (y184.length : Int) := (by have h_ : (x10_1 : Int) < ((x0_1.length : Int) : Int) := of_decide_eq_true (by first | (with_reducible assumption) | assumption); first | (have e_ := (Kd.R_reads' HO_0.out).1; omega) | simpa only [Ny184.out, List.length_set] using h_)
              have ql185 : ((x10_1 : Int) < ((x0_1.length : Int) : Int)) = True := eq_true (of_decide_eq_true (by first | (with_reducible assumption) | assumption))
              obtain ⟨ad185, e185, hx185_0, hx185_1, hx185_2, hx185_3⟩ := at_T23 (Kd.R_reads' HO_0.out).2.2 x10_1 p185 q185
              obtain rfl : (⟨go8, 0, none⟩ : Addr) = ad185 := (by injection e185)
              (first | simp only [add_plain] at hx185_0 | simp only [add_at] at hx185_0 | simp only [Addr.add, Nat.zero_add] at hx185_0 | skip)
              (first | simp only [add_plain] at hx185_1 | simp only [add_at] at hx185_1 | simp only [Addr.add, Nat.zero_add] at hx185_1 | skip)
              (first | simp only [add_plain] at hx185_2 | simp only [add_at] at hx185_2 | simp only [Addr.add, Nat.zero_add] at hx185_2 | skip)
              (first | simp only [add_plain] at hx185_3 | simp only [add_at] at hx185_3 | simp only [Addr.add, Nat.zero_add] at hx185_3 | skip)
              replace p185 := eq_true p185
              replace q185 := eq_true q185
              have p13 : 0 ≤ (x10_1 : Int) := of_decide_eq_true (by first | (with_reducible assumption) | assumption)
              have q13 : (x10_1 : Int) < ((x0_1.length : Int) : Int) := of_decide_eq_true (by first | (with_reducible assumption) | assumption)
              obtain ⟨ce13, hcl13, hM13, hcc13, hfr13⟩ := Kd.R_elem HO_0.out z23 (x10_1 : Int) p13 q13
              obtain rfl := k23_openM hM13
              have hx13_0 : w17.cell? ⟨go8, (x10_1 : Int).toNat * 4, none⟩ = some (.int .i64 ((rd_T23 y184 x10_1).f0)) := hcc13 0 _ rfl
              have hx13_1 : w17.cell? ⟨go8, (x10_1 : Int).toNat * 4 + 1, none⟩ = some (.int .i64 ((rd_T23 y184 x10_1).f1)) := hcc13 1 _ rfl
              have hx13_2 : w17.cell? ⟨go8, (x10_1 : Int).toNat * 4 + 2, none⟩ = some (.int .i64 ((rd_T23 y184 x10_1).f2)) := hcc13 2 _ rfl
              have hx13_3 : w17.cell? ⟨go8, (x10_1 : Int).toNat * 4 + 3, none⟩ = some (.int .i64 ((rd_T23 y184 x10_1).f3)) := hcc13 3 _ rfl
              have hf13_0 : w17.frozen? ⟨go8, (x10_1 : Int).toNat * 4, none⟩ = false := hfr13 0
              have hf13_1 : w17.frozen? ⟨go8, (x10_1 : Int).toNat * 4 + 1, none⟩ = false := hfr13 1
              have hf13_2 : w17.frozen? ⟨go8, (x10_1 : Int).toNat * 4 + 2, none⟩ = false := hfr13 2
              have hf13_3 : w17.frozen? ⟨go8, (x10_1 : Int).toNat * 4 + 3, none⟩ = false := hfr13 3
              clear hcl13 hcc13 hfr13 hM13
              replace p13 := eq_true p13
              replace q13 := eq_true q13
              have HX18 := Aside0.mk (show Kd.R k23 23 w17 w0.heap.size (fun k_ => (P0_ k_ ∨ w.heap.size ≤ k_)) (.slice (some ⟨go8, 0, none⟩) x0_1.length co4) y184 from (by (with_reducible repeat (first | apply Kd.R_alloc | apply Kd.R_drewN | apply Kd.R_drew)); exact HO_0.out))
              obtain ⟨ce18, hcl18, hM18, hcc18, hfr18⟩ := Kd.R_elem HX18.out z23 (x10_1 : Int) (of_decide_eq_true (by first | (with_reducible assumption) | assumption)) (by have h_ : (x10_1 : Int) < ((x0_1.length : Int) : Int) := of_decide_eq_true (by first | (with_reducible assumption) | assumption); first | exact h_ | (have e_ := (Kd.R_reads' HO_0.out).1; omega) | simpa using h_)
              obtain rfl := k23_openM hM18
              have HP18 := Kd.R_seg HX18.out (x10_1 : Int) (of_decide_eq_true (by first | (with_reducible assumption) | assumption)) (by have h_ : (x10_1 : Int) < ((x0_1.length : Int) : Int) := of_decide_eq_true (by first | (with_reducible assumption) | assumption); first | exact h_ | (have e_ := (Kd.R_reads' HO_0.out).1; omega) | simpa using h_) (seg := [.int .i64 0]) (j := 3) hcl18 hcc18 (show 4 ≤ 4 from by decide) (x' := (⟨(rd_T23 y184 x10_1).f0, (rd_T23 y184 x10_1).f1, (rd_T23 y184 x10_1).f2, 0⟩ : S23)) (k23_mkM _ _ _ (⟨(rd_T23 y184 x10_1).f0, (rd_T23 y184 x10_1).f1, (rd_T23 y184 x10_1).f2, 0⟩ : S23) ) (fun _ hk => hk)
              have hx18_3 := hcc18 3 _ rfl
              (try simp only [show (k23).sz = 4 from rfl, Nat.mul_one, Nat.add_zero] at hx18_3)
              have hf18_3 := hfr18 3
              (try simp only [show (k23).sz = 4 from rfl, Nat.mul_one, Nat.add_zero] at hf18_3)
              clear hcl18 hcc18 hfr18 hM18
              try go_wp2_with (first | ((with_reducible refine gate_store (t := 3) (p := 38) rfl ?_); refine store_event (t := 3) (p := 38) (v := ?vo_w19) (w1 := (w17.setCell ⟨go8, (x10_1 : Int).toNat * 4 + 3, none⟩ (.int .i64 0))) ?hg ?ho ?hn ?hr ?_; (case ho => rfl); (case hg => rfl); (case hn => rfl); (case hr => first | (go_simp; done) | (go_simp; rfl)); intro w19 hw; have hg : w17.grownBy w19 (some go8) := (by rw [hw]; exact HP18.2); have hp_ : Kd.R k23 23 w19 w0.heap.size (fun k_ => (P0_ k_ ∨ w.heap.size ≤ k_)) (.slice (some ⟨go8, 0, none⟩) x0_1.length co4) y186 := (by rw [hw, Ny186.out]; exact HP18.1); clear HP18; have n0_ := Aside0.mk (hp_); have n1_ := Aside0.mk ((by rw [hw]; exact below_set (HB.out) GB8.out : Below w0.heap.size w0 w19)); have n2_ := Aside0.mk (Kept.of_grown (S := (fun k_ => P0_ k_)) hg (by repeat (first | (with_reducible first | exact HK.out | apply Kept.alloc | apply Kept.drewN | apply Kept.drew) | exact HK.out)) (fun k_ e_ => (HO_0.out.1 k_ e_))); clear HO_0; clear HB; clear HK; have HO_0 := n0_; have HB := n1_; have HK := n2_; clear n0_ n1_ n2_; clear hg hw hp_))
              (try simp only [← hl0_1])
              go_roundg k1
              case measure => have := HK1.out; omega
              case rel => exact ⟨(y186), (wrap64 (x10_1 + 1)), (by first | rfl | (simp; done) | (simp [*]; done)), H', ⟨by have := HK1.out; omega⟩, ⟨by (try simp only [hl0_1]); (with_reducible repeat (first | apply Kd.R_alloc | apply Kd.R_drewN | apply Kd.R_drew)); exact HO_0.out⟩, ⟨by repeat (first | (with_reducible first | exact HK.out | apply Kept.alloc | apply Kept.drewN | apply Kept.drew) | exact HK.out)⟩, ⟨by repeat (first | (with_reducible first | exact HB.out | apply below_alloc | apply pw_below_drewN | apply below_drew1) | exact HB.out)⟩⟩
            · rw [if_neg c12] at H
              have c12b0 : (((rd_T23 y184 x10_1).f2) == 0) = false := beq_eq_false_iff_ne.mpr c12
              have c12b1 : (((rd_T23 y184 x10_1).f2) != 0) = true := bne_iff_ne.mpr c12
              have H' := Aside0.mk H
              clear H
              have p8 : 0 ≤ (x10_1 : Int) := of_decide_eq_true (by first | (with_reducible assumption) | assumption)
              have q8 : (x10_1 : Int) < ((x0_1.length : Int) : Int) := of_decide_eq_true (by first | (with_reducible assumption) | assumption)
              obtain ⟨go8, co8, eo8, gb8, gl8, cl8, HG8⟩ := Kd.R_form HO_0.out (by omega)
              (first | cases eo8 | (injection eo8 with ea_ en_ ec_; (first | subst ea_ | (injection ea_ with ea_; subst ea_)); subst ec_; clear en_))
              have GB8 := Aside0.mk gb8
              have GG8 := Aside0.mk HG8
              clear gb8 gl8 HG8
              have HMgo8 := Aside0.mk (show (P0_ go8 ∨ w.heap.size ≤ go8) from (HO_0.out.1 _ rfl))
              obtain ⟨ce8, hcl8, hM8, hcc8, hfr8⟩ := Kd.R_elem HO_0.out z23 (x10_1 : Int) p8 q8
              obtain rfl := k23_openM hM8
              have hx8_0 : wr.cell? ⟨go8, (x10_1 : Int).toNat * 4, none⟩ = some (.int .i64 ((rd_T23 x0_1 x10_1).f0)) := hcc8 0 _ rfl
              have hx8_1 : wr.cell? ⟨go8, (x10_1 : Int).toNat * 4 + 1, none⟩ = some (.int .i64 ((rd_T23 x0_1 x10_1).f1)) := hcc8 1 _ rfl
              have hx8_2 : wr.cell? ⟨go8, (x10_1 : Int).toNat * 4 + 2, none⟩ = some (.int .i64 ((rd_T23 x0_1 x10_1).f2)) := hcc8 2 _ rfl
              have hx8_3 : wr.cell? ⟨go8, (x10_1 : Int).toNat * 4 + 3, none⟩ = some (.int .i64 ((rd_T23 x0_1 x10_1).f3)) := hcc8 3 _ rfl
              have hf8_0 : wr.frozen? ⟨go8, (x10_1 : Int).toNat * 4, none⟩ = false := hfr8 0
              have hf8_1 : wr.frozen? ⟨go8, (x10_1 : Int).toNat * 4 + 1, none⟩ = false := hfr8 1
              have hf8_2 : wr.frozen? ⟨go8, (x10_1 : Int).toNat * 4 + 2, none⟩ = false := hfr8 2
              have hf8_3 : wr.frozen? ⟨go8, (x10_1 : Int).toNat * 4 + 3, none⟩ = false := hfr8 3
              clear hcl8 hcc8 hfr8 hM8
              replace p8 := eq_true p8
              replace q8 := eq_true q8
              try go_wp2
              have n0_ := Aside0.mk (Kd.R_drew HO_0.out)
              have n1_ := Aside0.mk (Kept.drew HK.out)
              have n2_ := Aside0.mk (below_drew1 HB.out)
              clear HO_0
              clear HK
              clear HB
              have HO_0 := n0_
              have HK := n1_
              have HB := n2_
              clear n0_ n1_ n2_
              have p181 : 0 ≤ (x10_1 : Int) := of_decide_eq_true (by first | (with_reducible assumption) | assumption)
              have q181 : x10_1 < (x0_1.length : Int) := of_decide_eq_true (by first | (with_reducible assumption) | assumption)
              obtain ⟨ad181, e181, hx181_0, hx181_1, hx181_2, hx181_3⟩ := at_T23 (Kd.R_reads' HO_0.out).2.2 x10_1 p181 q181
              obtain rfl : (⟨go8, 0, none⟩ : Addr) = ad181 := (by injection e181)
              (first | simp only [add_plain] at hx181_0 | simp only [add_at] at hx181_0 | simp only [Addr.add, Nat.zero_add] at hx181_0 | skip)
              (first | simp only [add_plain] at hx181_1 | simp only [add_at] at hx181_1 | simp only [Addr.add, Nat.zero_add] at hx181_1 | skip)
              (first | simp only [add_plain] at hx181_2 | simp only [add_at] at hx181_2 | simp only [Addr.add, Nat.zero_add] at hx181_2 | skip)
              (first | simp only [add_plain] at hx181_3 | simp only [add_at] at hx181_3 | simp only [Addr.add, Nat.zero_add] at hx181_3 | skip)
              replace p181 := eq_true p181
              replace q181 := eq_true q181
              have p182 : 0 ≤ (x10_1 : Int) := of_decide_eq_true (by first | (with_reducible assumption) | assumption)
              have q182 : x10_1 < (x0_1.length : Int) := of_decide_eq_true (by first | (with_reducible assumption) | assumption)
              obtain ⟨ad182, e182, hx182_0, hx182_1, hx182_2, hx182_3⟩ := at_T23 (Kd.R_reads' HO_0.out).2.2 x10_1 p182 q182
              obtain rfl : (⟨go8, 0, none⟩ : Addr) = ad182 := (by injection e182)
              (first | simp only [add_plain] at hx182_0 | simp only [add_at] at hx182_0 | simp only [Addr.add, Nat.zero_add] at hx182_0 | skip)
              (first | simp only [add_plain] at hx182_1 | simp only [add_at] at hx182_1 | simp only [Addr.add, Nat.zero_add] at hx182_1 | skip)
              (first | simp only [add_plain] at hx182_2 | simp only [add_at] at hx182_2 | simp only [Addr.add, Nat.zero_add] at hx182_2 | skip)
              (first | simp only [add_plain] at hx182_3 | simp only [add_at] at hx182_3 | simp only [Addr.add, Nat.zero_add] at hx182_3 | skip)
              replace p182 := eq_true p182
              replace q182 := eq_true q182
              refine start_ (n := 16) (S := fun w' => w'.cell? ⟨go8, (x10_1).toNat * 4, none⟩ = some (.int .i64 ((rd_T23 x0_1 x10_1).f0)) ∧ w'.cell? ⟨go8, (x10_1).toNat * 4 + 1, none⟩ = some (.int .i64 ((rd_T23 x0_1 x10_1).f1)) ∧ w'.cell? ⟨go8, (x10_1).toNat * 4 + 2, none⟩ = some (.int .i64 ((rd_T23 x0_1 x10_1).f2)) ∧ w'.cell? ⟨go8, (x10_1).toNat * 4 + 3, none⟩ = some (.int .i64 ((rd_T23 x0_1 x10_1).f3)) ∧ w'.cell? ⟨go8, (x10_1).toNat * 4, none⟩ = some (.int .i64 ((rd_T23 x0_1 x10_1).f0)) ∧ w'.cell? ⟨go8, (x10_1).toNat * 4 + 1, none⟩ = some (.int .i64 ((rd_T23 x0_1 x10_1).f1)) ∧ w'.cell? ⟨go8, (x10_1).toNat * 4 + 2, none⟩ = some (.int .i64 ((rd_T23 x0_1 x10_1).f2)) ∧ w'.cell? ⟨go8, (x10_1).toNat * 4 + 3, none⟩ = some (.int .i64 ((rd_T23 x0_1 x10_1).f3))) (ds := [15]) #[false, false, false, false, false, false, false, false, false, false, false, false, false, false, false, false] (by kernel_rfl) rfl rfl ⟨hx181_0, hx181_1, hx181_2, hx181_3, hx182_0, hx182_1, hx182_2, hx182_3⟩ (fun hHeld => ?_); refine with_tabW impl_passQuarters.tab5 impl_passQuarters.bits5 (fun HT_ HW_ => ?_)
              generalize wr.drew = w20 at HO_0 HK HB hx181_0 hx181_1 hx181_2 hx181_3 hx182_0 hx182_1 hx182_2 hx182_3 hHeld ⊢
              refine pure_ (i := 0) (N := some 16) (v := ?_) (a' := ?_) #[true, false, false, false, false, false, false, false, false, false, false, false, false, false, false, false] rfl rfl (any_of HT_.out (by kernel_rfl)) (fun _ _ _ h => h) (Or.inl ⟨by rfl, ?_⟩) ?_ ?_
              rotate_left
              · intro w'
                go_simp
                with_reducible rfl
              rotate_left
              · simp only [Act.put, List.setIfInBounds_toArray, List.set_cons_zero, List.set_cons_succ, i64_w, i32_w]
                rfl
              refine pure_ (i := 1) (N := some 17) (v := ?_) (a' := ?_) #[true, true, false, false, false, false, false, false, false, false, false, false, false, false, false, false] rfl rfl (any_of HT_.out (by kernel_rfl)) (fun _ _ _ h => h) (Or.inl ⟨by rfl, ?_⟩) ?_ ?_
              rotate_left
              · intro w'
                go_simp
                with_reducible rfl
              rotate_left
              · simp only [Act.put, List.setIfInBounds_toArray, List.set_cons_zero, List.set_cons_succ, i64_w, i32_w]
                rfl
              refine pure_ (i := 2) (N := some 18) (v := ?_) (a' := ?_) #[true, true, true, false, false, false, false, false, false, false, false, false, false, false, false, false] rfl rfl (any_of HT_.out (by kernel_rfl)) (fun _ _ _ h => h) (Or.inl ⟨by rfl, ?_⟩) ?_ ?_
              rotate_left
              · intro w'
                go_simp
                with_reducible rfl
              rotate_left
              · simp only [Act.put, List.setIfInBounds_toArray, List.set_cons_zero, List.set_cons_succ, i64_w, i32_w]
                rfl
              refine pure_ (i := 3) (N := some 19) (v := ?_) (a' := ?_) #[true, true, true, true, false, false, false, false, false, false, false, false, false, false, false, false] rfl rfl (any_of HT_.out (by kernel_rfl)) (fun _ _ _ h => h) (Or.inl ⟨by rfl, ?_⟩) ?_ ?_
              rotate_left
              · intro w'
                go_simp
                with_reducible rfl
              rotate_left
              · simp only [Act.put, List.setIfInBounds_toArray, List.set_cons_zero, List.set_cons_succ, i64_w, i32_w]
                rfl
              refine pure_ (i := 5) (N := some 21) (v := ?_) (a' := ?_) #[true, true, true, true, false, true, false, false, false, false, false, false, false, false, false, false] rfl rfl (any_of HT_.out (by kernel_rfl)) (fun _ _ _ h => h) (Or.inl ⟨by rfl, ?_⟩) ?_ ?_
              rotate_left
              · intro w'
                go_simp
                with_reducible rfl
              rotate_left
              · simp only [Act.put, List.setIfInBounds_toArray, List.set_cons_zero, List.set_cons_succ, i64_w, i32_w]
                rfl
              refine pure_ (i := 6) (N := some 22) (v := ?_) (a' := ?_) #[true, true, true, true, false, true, true, false, false, false, false, false, false, false, false, false] rfl rfl (any_of HT_.out (by kernel_rfl)) (fun _ _ _ h => h) (Or.inl ⟨by rfl, ?_⟩) ?_ ?_
              rotate_left
              · intro w'
                go_simp
                with_reducible rfl
              rotate_left
              · simp only [Act.put, List.setIfInBounds_toArray, List.set_cons_zero, List.set_cons_succ, i64_w, i32_w]
                rfl
              refine pure_ (i := 7) (N := some 23) (v := ?_) (a' := ?_) #[true, true, true, true, false, true, true, true, false, false, false, false, false, false, false, false] rfl rfl (any_of HT_.out (by kernel_rfl)) (fun _ _ _ h => h) (Or.inl ⟨by rfl, ?_⟩) ?_ ?_
              rotate_left
              · intro w'
                go_simp
                with_reducible rfl
              rotate_left
              · simp only [Act.put, List.setIfInBounds_toArray, List.set_cons_zero, List.set_cons_succ, i64_w, i32_w]
                rfl
              refine take_ (i := 4) (N := some 20) (v := ?_) (a' := ?_) #[true, true, true, true, true, true, true, true, false, false, false, false, false, false, false, false] rfl rfl (take_ofW HT_.out HW_.out (by kernel_rfl)) (fun _ _ _ h => h) (Or.inl ⟨by rfl, ?_⟩) hHeld ?_ ?_
              rotate_left
              · rintro w' ⟨s0, s1, s2, s3, s4, s5, s6, s7⟩
                go_simp
                with_reducible rfl
              rotate_left
              · simp only [Act.put, List.setIfInBounds_toArray, List.set_cons_zero, List.set_cons_succ, i64_w, i32_w]
                rfl
              refine take_ (i := 8) (N := some 24) (v := ?_) (a' := ?_) #[true, true, true, true, true, true, true, true, true, false, false, false, false, false, false, false] rfl rfl (take_ofW HT_.out HW_.out (by kernel_rfl)) (fun _ _ _ h => h) (Or.inl ⟨by rfl, ?_⟩) hHeld ?_ ?_
              rotate_left
              · rintro w' ⟨s0, s1, s2, s3, s4, s5, s6, s7⟩
                go_simp
                with_reducible rfl
              rotate_left
              · simp only [Act.put, List.setIfInBounds_toArray, List.set_cons_zero, List.set_cons_succ, i64_w, i32_w]
                rfl
              refine one_ (i := 9) (N := some 25) #[true, true, true, true, true, true, true, true, true, true, false, false, false, false, false, false] rfl rfl (one_of HT_.out (by kernel_rfl)) (by decide) (fun K hK => ?_)
              refine goes_ Try.func116 (by kernel_rfl) rfl #[.agg #[.int .i64 ((rd_T23 x0_1 x10_1).f0), .int .i64 ((rd_T23 x0_1 x10_1).f1), .int .i64 ((rd_T23 x0_1 x10_1).f2), .int .i64 ((rd_T23 x0_1 x10_1).f3)]] (by rfl) rfl rfl (by (try simp only [List.map_toArray, List.map_cons, List.map_nil]); first | done | rfl | (simp only [List.length_drop, List.length_take]; rfl)) ?_
              with_reducible refine (impl_Thing_rate.calls ((rd_T23 x0_1 x10_1).f0) ((rd_T23 x0_1 x10_1).f1) ((rd_T23 x0_1 x10_1).f2) ((rd_T23 x0_1 x10_1).f3) t183 _ A9.out).mono ?_
              rintro e w21 ⟨rfl, hb⟩
              have HS0_ := (hb.cell (World.block_lt_of_cell? _ _ (hHeld.1))).trans (hHeld.1)
              have HS1_ := (hb.cell (World.block_lt_of_cell? _ _ (hHeld.2.1))).trans (hHeld.2.1)
              have HS2_ := (hb.cell (World.block_lt_of_cell? _ _ (hHeld.2.2.1))).trans (hHeld.2.2.1)
              have HS3_ := (hb.cell (World.block_lt_of_cell? _ _ (hHeld.2.2.2.1))).trans (hHeld.2.2.2.1)
              have HS4_ := (hb.cell (World.block_lt_of_cell? _ _ (hHeld.2.2.2.2.1))).trans (hHeld.2.2.2.2.1)
              have HS5_ := (hb.cell (World.block_lt_of_cell? _ _ (hHeld.2.2.2.2.2.1))).trans (hHeld.2.2.2.2.2.1)
              have HS6_ := (hb.cell (World.block_lt_of_cell? _ _ (hHeld.2.2.2.2.2.2.1))).trans (hHeld.2.2.2.2.2.2.1)
              have HS7_ := (hb.cell (World.block_lt_of_cell? _ _ (hHeld.2.2.2.2.2.2.2))).trans (hHeld.2.2.2.2.2.2.2)
              refine ⟨_, rfl, ?_⟩
              have n0_ := Aside0.mk (Kd.R_below (by (with_reducible repeat (first | apply Kd.R_alloc | apply Kd.R_drewN | apply Kd.R_drew)); exact HO_0.out) hb)
              have n1_ := Aside0.mk (Kept.below (S := (fun k_ => P0_ k_)) (by repeat (first | (with_reducible first | exact HK.out | apply Kept.alloc | apply Kept.drewN | apply Kept.drew) | exact HK.out)) hb)
              have n2_ := Aside0.mk (below_step (by repeat (first | (with_reducible first | exact HB.out | apply below_alloc | apply pw_below_drewN | apply below_drew1) | exact HB.out)) hb)
              clear HO_0
              clear HK
              clear HB
              have HO_0 := n0_
              have HK := n1_
              have HB := n2_
              clear n0_ n1_ n2_
              (try clear hb)
              (try clear hb2)
              (try clear hk)
              (try clear hi)
              have p11 : 0 ≤ (x10_1 : Int) := of_decide_eq_true (by first | (with_reducible assumption) | assumption)
              have q11 : (x10_1 : Int) < ((x0_1.length : Int) : Int) := of_decide_eq_true (by first | (with_reducible assumption) | assumption)
              obtain ⟨ce11, hcl11, hM11, hcc11, hfr11⟩ := Kd.R_elem HO_0.out z23 (x10_1 : Int) p11 q11
              obtain rfl := k23_openM hM11
              have hx11_0 : World.cell? _ ⟨go8, (x10_1 : Int).toNat * 4, none⟩ = some (.int .i64 ((rd_T23 x0_1 x10_1).f0)) := hcc11 0 _ rfl
              have hx11_1 : World.cell? _ ⟨go8, (x10_1 : Int).toNat * 4 + 1, none⟩ = some (.int .i64 ((rd_T23 x0_1 x10_1).f1)) := hcc11 1 _ rfl
              have hx11_2 : World.cell? _ ⟨go8, (x10_1 : Int).toNat * 4 + 2, none⟩ = some (.int .i64 ((rd_T23 x0_1 x10_1).f2)) := hcc11 2 _ rfl
              have hx11_3 : World.cell? _ ⟨go8, (x10_1 : Int).toNat * 4 + 3, none⟩ = some (.int .i64 ((rd_T23 x0_1 x10_1).f3)) := hcc11 3 _ rfl
              have hf11_0 : World.frozen? _ ⟨go8, (x10_1 : Int).toNat * 4, none⟩ = false := hfr11 0
              have hf11_1 : World.frozen? _ ⟨go8, (x10_1 : Int).toNat * 4 + 1, none⟩ = false := hfr11 1
              have hf11_2 : World.frozen? _ ⟨go8, (x10_1 : Int).toNat * 4 + 2, none⟩ = false := hfr11 2
              have hf11_3 : World.frozen? _ ⟨go8, (x10_1 : Int).toNat * 4 + 3, none⟩ = false := hfr11 3
              clear hcl11 hcc11 hfr11 hM11
              replace p11 := eq_true p11
              replace q11 := eq_true q11
              obtain ⟨ce22, hcl22, hM22, hcc22, hfr22⟩ := Kd.R_elem HO_0.out z23 (x10_1 : Int) (of_decide_eq_true (by first | (with_reducible assumption) | assumption)) (by have h_ : (x10_1 : Int) < ((x0_1.length : Int) : Int) := of_decide_eq_true (by first | (with_reducible assumption) | assumption); first | exact h_ | (have e_ := (Kd.R_reads' HO_0.out).1; omega) | simpa using h_)
              obtain rfl := k23_openM hM22
              have HP22 := (Kd.R_seg HO_0.out (x10_1 : Int) (of_decide_eq_true (by first | (with_reducible assumption) | assumption)) (by have h_ : (x10_1 : Int) < ((x0_1.length : Int) : Int) := of_decide_eq_true (by first | (with_reducible assumption) | assumption); first | exact h_ | (have e_ := (Kd.R_reads' HO_0.out).1; omega) | simpa using h_) (seg := [.int .i64 ji10]) (j := 2) hcl22 hcc22 (show 3 ≤ 4 from by decide) (x' := (⟨(rd_T23 x0_1 x10_1).f0, (rd_T23 x0_1 x10_1).f1, ji10, (rd_T23 x0_1 x10_1).f3⟩ : S23)) (k23_mkM _ _ _ (⟨(rd_T23 x0_1 x10_1).f0, (rd_T23 x0_1 x10_1).f1, ji10, (rd_T23 x0_1 x10_1).f3⟩ : S23) ) (fun _ hk => hk)).1
              rw [← Ny184.out] at HP22
              have HQ22 := Aside0.mk HP22
              clear hcl22 hcc22 hfr22 hM22 HP22
              refine hK.out _ _ ⟨HS0_, HS1_, HS2_, HS3_, HS4_, HS5_, HS6_, HS7_⟩ (fun hHeld => ?_)
              clear hK K
              refine norm_ (a' := ?_) ?_ ?_
              rotate_left
              · show Act.put _ (some 25) _ = _
                simp only [Act.put, List.setIfInBounds_toArray, List.set_cons_zero, List.set_cons_succ, i64_w, i32_w]
                rfl
              refine pure_ (i := 10) (N := some 26) (v := ?_) (a' := ?_) #[true, true, true, true, true, true, true, true, true, true, true, false, false, false, false, false] rfl rfl (any_of HT_.out (by kernel_rfl)) (fun _ _ _ h => h) (Or.inl ⟨by rfl, ?_⟩) ?_ ?_
              rotate_left
              · intro w'
                go_simp
                with_reducible rfl
              rotate_left
              · simp only [Act.put, List.setIfInBounds_toArray, List.set_cons_zero, List.set_cons_succ, i64_w, i32_w]
                rfl
              refine pure_ (i := 11) (N := some 27) (v := ?_) (a' := ?_) #[true, true, true, true, true, true, true, true, true, true, true, true, false, false, false, false] rfl rfl (any_of HT_.out (by kernel_rfl)) (fun _ _ _ h => h) (Or.inl ⟨by rfl, ?_⟩) ?_ ?_
              rotate_left
              · intro w'
                go_simp
                with_reducible rfl
              rotate_left
              · simp only [Act.put, List.setIfInBounds_toArray, List.set_cons_zero, List.set_cons_succ, i64_w, i32_w]
                rfl
              refine pure_ (i := 12) (N := some 28) (v := ?_) (a' := ?_) #[true, true, true, true, true, true, true, true, true, true, true, true, true, false, false, false] rfl rfl (any_of HT_.out (by kernel_rfl)) (fun _ _ _ h => h) (Or.inl ⟨by rfl, ?_⟩) ?_ ?_
              rotate_left
              · intro w'
                go_simp
                with_reducible rfl
              rotate_left
              · simp only [Act.put, List.setIfInBounds_toArray, List.set_cons_zero, List.set_cons_succ, i64_w, i32_w]
                rfl
              refine pure_ (i := 13) (N := some 29) (v := ?_) (a' := ?_) #[true, true, true, true, true, true, true, true, true, true, true, true, true, true, false, false] rfl rfl (any_of HT_.out (by kernel_rfl)) (fun _ _ _ h => h) (Or.inl ⟨by rfl, ?_⟩) ?_ ?_
              rotate_left
              · intro w'
                go_simp
                with_reducible rfl
              rotate_left
              · simp only [Act.put, List.setIfInBounds_toArray, List.set_cons_zero, List.set_cons_succ, i64_w, i32_w]
                rfl
              refine pure_ (i := 14) (N := some 30) (v := ?_) (a' := ?_) #[true, true, true, true, true, true, true, true, true, true, true, true, true, true, true, false] rfl rfl (any_of HT_.out (by kernel_rfl)) (fun _ _ _ h => h) (Or.inl ⟨by rfl, ?_⟩) ?_ ?_
              rotate_left
              · intro w'
                go_simp
                with_reducible rfl
              rotate_left
              · simp only [Act.put, List.setIfInBounds_toArray, List.set_cons_zero, List.set_cons_succ, i64_w, i32_w]
                rfl
              refine last_ (i := 15) (N := none) #[true, true, true, true, true, true, true, true, true, true, true, true, true, true, true, true] rfl rfl (one_of HT_.out (by kernel_rfl)) (by decide) (fun K hK => ?_)
              refine skip_ (w1 := ?_) (by rfl) rfl ?_ ?_
              rotate_left
              · go_simp
                rfl
              refine hK.out _ _ ?_
              clear hK K
              refine done_ (done_of HT_.out (by kernel_rfl)) ?_
              have n0_ : Aside0 (Kd.R k23 23 (w21.setCell ⟨go8, (x10_1 : Int).toNat * 4 + 2, none⟩ (.int .i64 ji10)) w0.heap.size (fun k_ => (P0_ k_ ∨ w.heap.size ≤ k_)) (.slice (some ⟨go8, 0, none⟩) x0_1.length co4) y184) := ⟨by (with_reducible repeat (first | apply Kd.R_alloc | apply Kd.R_drewN | apply Kd.R_drew)); exact HQ22.out⟩
              have n1_ : Aside0 (Kept w (w21.setCell ⟨go8, (x10_1 : Int).toNat * 4 + 2, none⟩ (.int .i64 ji10)) (fun k_ => P0_ k_)) := ⟨by repeat (first | (with_reducible first | exact HK.out | apply Kept.alloc | apply Kept.drewN | apply Kept.drew | refine Kept.setCell ?_ HMgo8.out _) | exact HK.out)⟩
              have n2_ : Aside0 (Below w0.heap.size w0 (w21.setCell ⟨go8, (x10_1 : Int).toNat * 4 + 2, none⟩ (.int .i64 ji10))) := ⟨by repeat (first | (with_reducible first | exact HB.out | apply below_alloc | apply pw_below_drewN | apply below_drew1 | refine below_set ?_ GB8.out) | exact HB.out)⟩
              (try clear HO_0)
              (try clear HK)
              (try clear HB)
              generalize (w21.setCell ⟨go8, (x10_1 : Int).toNat * 4 + 2, none⟩ (.int .i64 ji10)) = w23 at n0_ n1_ n2_ ⊢
              have HO_0 := n0_
              have HK := n1_
              have HB := n2_
              clear n0_ n1_ n2_
              have p185 : 0 ≤ (x10_1 : Int) := of_decide_eq_true (by first | (with_reducible assumption) | assumption)
              have q185 : x10_1 < (y184.length : Int) := (by have h_ : (x10_1 : Int) < ((x0_1.length : Int) : Int) := of_decide_eq_true (by first | (with_reducible assumption) | assumption); first | (have e_ := (Kd.R_reads' HO_0.out).1; omega) | simpa only [Ny184.out, List.length_set] using h_)
              have ql185 : ((x10_1 : Int) < ((x0_1.length : Int) : Int)) = True := eq_true (of_decide_eq_true (by first | (with_reducible assumption) | assumption))
              obtain ⟨ad185, e185, hx185_0, hx185_1, hx185_2, hx185_3⟩ := at_T23 (Kd.R_reads' HO_0.out).2.2 x10_1 p185 q185
              obtain rfl : (⟨go8, 0, none⟩ : Addr) = ad185 := (by injection e185)
              (first | simp only [add_plain] at hx185_0 | simp only [add_at] at hx185_0 | simp only [Addr.add, Nat.zero_add] at hx185_0 | skip)
              (first | simp only [add_plain] at hx185_1 | simp only [add_at] at hx185_1 | simp only [Addr.add, Nat.zero_add] at hx185_1 | skip)
              (first | simp only [add_plain] at hx185_2 | simp only [add_at] at hx185_2 | simp only [Addr.add, Nat.zero_add] at hx185_2 | skip)
              (first | simp only [add_plain] at hx185_3 | simp only [add_at] at hx185_3 | simp only [Addr.add, Nat.zero_add] at hx185_3 | skip)
              replace p185 := eq_true p185
              replace q185 := eq_true q185
              try go_wp2
              (try simp only [← hl0_1])
              go_roundg k1
              case measure => have := HK1.out; omega
              case rel => exact ⟨(y184), (wrap64 (x10_1 + 1)), (by first | rfl | (simp; done) | (simp [*]; done)), H', ⟨by have := HK1.out; omega⟩, ⟨by (try simp only [hl0_1]); (with_reducible repeat (first | apply Kd.R_alloc | apply Kd.R_drewN | apply Kd.R_drew)); exact HO_0.out⟩, ⟨by repeat (first | (with_reducible first | exact HK.out | apply Kept.alloc | apply Kept.drewN | apply Kept.drew) | exact HK.out)⟩, ⟨by repeat (first | (with_reducible first | exact HB.out | apply below_alloc | apply pw_below_drewN | apply below_drew1) | exact HB.out)⟩⟩
          · rw [if_neg c7] at H
            exact absurd H (by simp)
        · rw [if_neg c6] at H
          exact absurd H (by simp)
      · rw [if_neg c5] at H
        have c5b0 : decide (x10_1 < (l0.length : Int)) = false := decide_eq_false c5
        (try (have c5h0 := c5b0; simp only [hl0_1] at c5h0))
        clear c5
        obtain rfl := Option.some.inj H
        go_wp2
        first | go_end0 | ((try simp only [Exit.inBlock, Exit.then]); refine bodyPost_ret (results_none rfl _ _ _) rfl ?_)
        exact ⟨by first | rfl | (simp [errW_none, errW_some] <;> rfl) | (simp only [← hji3]; first | rfl | (simp [errW_none, errW_some] <;> rfl)) | (simp [*, errW_none, errW_some] <;> rfl), (by first | exact (by (with_reducible repeat (first | apply Kd.R_alloc | apply Kd.R_drewN | apply Kd.R_drew)); exact HO_0.out) | (simp only [hl0_1]; exact (by (with_reducible repeat (first | apply Kd.R_alloc | apply Kd.R_drewN | apply Kd.R_drew)); exact HO_0.out))), by repeat (first | (with_reducible first | exact HB.out | apply below_alloc | apply pw_below_drewN | apply below_drew1) | exact HB.out), by repeat (first | (with_reducible first | exact HK.out | apply Kept.alloc | apply Kept.drewN | apply Kept.drew) | exact HK.out)⟩

/-! ### impl_PassQuarters: function 46 -/
def impl_PassQuarters.j0 : Nat → List (S23) → Int → Bool → Option ((List (S23)) × Bool)
  | 0, _, _, _ => none
  | k + 1, x0, x1, x13 => if x13 = true then (some (([] : List (S23)), false)) else ((impl_Thing_92.f x0).bind fun t188 => ((impl_passQuarters.f k t188 x1).bind fun t191 => (some (t191, true))))
def impl_PassQuarters.f (k : Nat) (l0 : List (S23)) (a1 : Int) : Option ((List (S23)) × Bool) := (impl_AreThings.f k l0).bind fun t187 => (if t187 = true then (impl_PassQuarters.j0 k l0 a1 (decide (a1 < 0))) else (impl_PassQuarters.j0 k l0 a1 true))
theorem impl_PassQuarters.mono_l : ∀ k, (∀ y0 y1 y2, LeO (impl_PassQuarters.j0 k y0 y1 y2) (impl_PassQuarters.j0 (k + 1) y0 y1 y2))
  | 0 => fun _ _ _ r h => by simp [impl_PassQuarters.j0] at h
  | k + 1 => by
    have ih0 := impl_PassQuarters.mono_l k
    · intro y0 y1 y2
      unfold impl_PassQuarters.j0
      repeat' first
      | (with_reducible exact ih0 _ _ _)
      | (with_reducible exact impl_AreThings.mono _ _)
      | (with_reducible exact impl_passQuarters.mono _ _ _)
      | (with_reducible exact LeO.refl _)
      | (with_reducible exact LeO.none _)
      | (with_reducible refine LeO.ite ?_ ?_)
      | (with_reducible refine LeO.bind ?_ (fun _ => ?_))
      | exact ih0 _ _ _
      | exact impl_AreThings.mono _ _
      | exact impl_passQuarters.mono _ _ _
      | exact LeO.none _
      | refine LeO.ite ?_ ?_
      | refine LeO.bind ?_ (fun _ => ?_)
theorem impl_PassQuarters.mono : ∀ a0 a1 k, LeO (impl_PassQuarters.f k a0 a1) (impl_PassQuarters.f (k + 1) a0 a1) := by
  intro a0 a1 k
  have ih0 := impl_PassQuarters.mono_l k
  unfold impl_PassQuarters.f
  repeat' first
      | (with_reducible exact ih0 _ _ _)
      | (with_reducible exact impl_AreThings.mono _ _)
      | (with_reducible exact impl_passQuarters.mono _ _ _)
      | (with_reducible exact LeO.refl _)
      | (with_reducible exact LeO.none _)
      | (with_reducible refine LeO.ite ?_ ?_)
      | (with_reducible refine LeO.bind ?_ (fun _ => ?_))
      | exact ih0 _ _ _
      | exact impl_AreThings.mono _ _
      | exact impl_passQuarters.mono _ _ _
      | exact LeO.none _
      | refine LeO.ite ?_ ?_
      | refine LeO.bind ?_ (fun _ => ?_)
set_option maxHeartbeats 8000000 in
set_option maxRecDepth 100000 in
theorem impl_PassQuarters.calls (k : Nat) (A0 : Option Addr) (c0 : Nat) (l0 : List (S23)) (a1 : Int) (r1 : List (S23)) (r2 : Bool) (w : World) (hr0 : Kd.C k23 w A0 l0.length l0) (hc0 : l0.length ≤ c0) (h : impl_PassQuarters.f k l0 a1 = some (r1, r2)) :
    Calls Try.prog 46 #[.slice A0 l0.length c0, .int .i64 a1] w fun e w' => ∃ v0_ : Value, e = .returned (.tuple #[v0_, .bool r2]) ∧ Kd.R k23 23 w' w.heap.size (fun _ => True) v0_ r1 ∧ Below w.heap.size w w' := by
  have HR0 := Aside0.mk hr0
  have HC0 := Aside0.mk hc0
  clear hr0 hc0
  have HB := Aside0.mk (Below.refl w.heap.size w)
  have H : ((impl_AreThings.f k l0).bind fun t187 => (if t187 = true then (impl_PassQuarters.j0 k l0 a1 (decide (a1 < 0))) else (impl_PassQuarters.j0 k l0 a1 true))) = some (r1, r2) := h
  clear h
  have HC3 := Aside0.mk H
  clear H
  go_enter Try.func46, Try.ntmps46
  go_upto_region 1 with (fail)
  go_cut [13] (fun v13 wc => ∃ (kq : Nat) (x13_2 : Bool), v13 = .bool x13_2 ∧ Aside0 (impl_PassQuarters.j0 kq l0 a1 x13_2 = some (r1, r2)) ∧ Aside0 (kq ≤ k) ∧ Aside0 (Below w.heap.size w wc))
  case first =>
    have H := HC3.out
    clear HC3
    replace H := Option.bind_eq_some_iff.mp H
    obtain ⟨t187, A40, H⟩ := H
    replace H : (if t187 = true then (impl_PassQuarters.j0 k l0 a1 (decide (a1 < 0))) else (impl_PassQuarters.j0 k l0 a1 true)) = some (r1, r2) := H
    have A4 := Aside0.mk A40
    clear A40
    by_cases c5 : t187 = true
    · subst c5
      have H1 : (impl_PassQuarters.j0 k l0 a1 (decide (a1 < 0))) = some (r1, r2) := by rw [if_pos rfl] at H; exact H
      clear H
      have H := H1
      clear H1
      have H' := Aside0.mk H
      clear H
      go_wp2_with (first | ((with_reducible refine gate_callee (f := 23) rfl ?_); refine goesL_ (some 8) rfl rfl Try.func23 (by kernel_rfl) rfl #[.slice A0 l0.length c0] rfl (by (try simp only [List.map_toArray, List.map_cons, List.map_nil]); first | done | rfl | (simp only [List.length_drop, List.length_take]; rfl)) ?_; (with_reducible refine (impl_AreThings.calls k _ _ l0 true _ ?side1 ?side2 A4.out).mono ?_); (case side1 => repeat (first | exact (Kd.C_below HR0.out HB.out) | (with_reducible refine Kd.C_alloc ?_ _) | (with_reducible refine Kd.C_drewN ?_ _) | (with_reducible refine Kd.C_drew ?_))); (case side2 => exact HC0.out); rintro e w6 ⟨rfl, hb⟩; refine ⟨_, rfl, ?_⟩; have n0_ := Aside0.mk (below_step (by repeat (first | (with_reducible first | exact HB.out | apply below_alloc | apply pw_below_drewN | apply below_drew1) | exact HB.out)) hb); clear HB; have HB := n0_; clear n0_; (try clear hb); (try clear hb2); (try clear hk); (try clear hi)))
      go_meet
      case rel => exact ⟨_, (decide (a1 < 0)), (by first | rfl | (simp; done) | (simp [*]; done)), H', ⟨by first | omega | exact Nat.le_refl _⟩, ⟨by repeat (first | (with_reducible first | exact HB.out | apply below_alloc | apply pw_below_drewN | apply below_drew1) | exact HB.out)⟩⟩
    · replace c5 := Bool.eq_false_iff.mpr c5
      subst c5
      have H1 : (impl_PassQuarters.j0 k l0 a1 true) = some (r1, r2) := by rw [if_neg (show ¬ (false = true) by decide)] at H; exact H
      clear H
      have H := H1
      clear H1
      have H' := Aside0.mk H
      clear H
      go_wp2_with (first | ((with_reducible refine gate_callee (f := 23) rfl ?_); refine goesL_ (some 8) rfl rfl Try.func23 (by kernel_rfl) rfl #[.slice A0 l0.length c0] rfl (by (try simp only [List.map_toArray, List.map_cons, List.map_nil]); first | done | rfl | (simp only [List.length_drop, List.length_take]; rfl)) ?_; (with_reducible refine (impl_AreThings.calls k _ _ l0 false _ ?side1 ?side2 A4.out).mono ?_); (case side1 => repeat (first | exact (Kd.C_below HR0.out HB.out) | (with_reducible refine Kd.C_alloc ?_ _) | (with_reducible refine Kd.C_drewN ?_ _) | (with_reducible refine Kd.C_drew ?_))); (case side2 => exact HC0.out); rintro e w7 ⟨rfl, hb⟩; refine ⟨_, rfl, ?_⟩; have n0_ := Aside0.mk (below_step (by repeat (first | (with_reducible first | exact HB.out | apply below_alloc | apply pw_below_drewN | apply below_drew1) | exact HB.out)) hb); clear HB; have HB := n0_; clear n0_; (try clear hb); (try clear hb2); (try clear hk); (try clear hi)))
      go_meet
      case rel => exact ⟨_, (true), (by first | rfl | (simp; done) | (simp [*]; done)), H', ⟨by first | omega | exact Nat.le_refl _⟩, ⟨by repeat (first | (with_reducible first | exact HB.out | apply below_alloc | apply pw_below_drewN | apply below_drew1) | exact HB.out)⟩⟩
  case rest =>
    clear HC3
    try clear c2
    try clear p2
    try clear c4
    try clear c5
    obtain ⟨kq, x13_2, rfl, HA, HJ2, HB⟩ := hcut
    cases kq with
    | zero => exact absurd HA.out (by simp [impl_PassQuarters.j0])
    | succ kj2 =>
      have H := HA.out
      clear HA
      simp only [impl_PassQuarters.j0] at H
      by_cases c8 : x13_2 = true
      · subst c8
        have H1 : (some (([] : List (S23)), false)) = some (r1, r2) := by rw [if_pos rfl] at H; exact H
        clear H
        have H := H1
        clear H1
        simp only [Option.some.injEq, Prod.mk.injEq] at H
        obtain ⟨rfl, rfl⟩ := H
        go_wp2
        go_ret2
        exact ⟨_, by first | rfl | (simp [errW_none, errW_some] <;> rfl) | (simp [*, errW_none, errW_some] <;> rfl), by first | exact Kd.R_nil _ _ _ _ _ | exact Kd.N_nil _ _ _ _ _ | exact Kd.V_nil _ _ _ _ _ | exact Kd.Q_nil _ _ _ _ _ | exact Kd.S_nil _ _ _ _ _, by repeat (first | (with_reducible first | exact HB.out | apply below_alloc | apply pw_below_drewN | apply below_drew1) | exact HB.out)⟩
      · replace c8 := Bool.eq_false_iff.mpr c8
        subst c8
        have H1 : ((impl_Thing_92.f l0).bind fun t188 => ((impl_passQuarters.f kj2 t188 a1).bind fun t191 => (some (t191, true)))) = some (r1, r2) := by rw [if_neg (show ¬ (false = true) by decide)] at H; exact H
        clear H
        have H := H1
        clear H1
        replace H := Option.bind_eq_some_iff.mp H
        obtain ⟨t188, A90, H⟩ := H
        replace H : ((impl_passQuarters.f kj2 t188 a1).bind fun t191 => (some (t191, true))) = some (r1, r2) := H
        have A9 := Aside0.mk A90
        clear A90
        replace H := Option.bind_eq_some_iff.mp H
        obtain ⟨t191, A100, H⟩ := H
        replace H : (some (t191, true)) = some (r1, r2) := H
        have A10 := Aside0.mk A100
        clear A100
        simp only [Option.some.injEq, Prod.mk.injEq] at H
        obtain ⟨rfl, rfl⟩ := H
        go_wp2_with (first | ((with_reducible refine gate_callee (f := 92) rfl ?_); refine goesL_ (some 15) rfl rfl Try.func92 (by kernel_rfl) rfl #[.slice A0 l0.length c0] rfl (by (try simp only [List.map_toArray, List.map_cons, List.map_nil]); first | done | rfl | (simp only [List.length_drop, List.length_take]; rfl)) ?_; (with_reducible refine (impl_Thing_92.calls _ _ l0 t188 _ ?side1 ?side2 A9.out).mono ?_); (case side1 => repeat (first | exact (Kd.C_below HR0.out HB.out) | (with_reducible refine Kd.C_alloc ?_ _) | (with_reducible refine Kd.C_drewN ?_ _) | (with_reducible refine Kd.C_drew ?_))); (case side2 => exact HC0.out); rintro e w11 ⟨v189, rfl, ho0, hb⟩; refine ⟨_, rfl, ?_⟩; have n0_ := Aside0.mk (Kd.R_lower ho0 (below_size (by repeat (first | (with_reducible first | exact HB.out | apply below_alloc | apply pw_below_drewN | apply below_drew1) | exact HB.out)))); have n1_ := Aside0.mk (below_step (by repeat (first | (with_reducible first | exact HB.out | apply below_alloc | apply pw_below_drewN | apply below_drew1) | exact HB.out)) hb); clear HB; have HO190 := n0_; have HB := n1_; clear n0_ n1_; (try clear hb); (try clear hb2); (try clear hk); (try clear hi); (try clear ho0); obtain ⟨Ao12, co12, eo12⟩ := Kd.R_slice HO190.out; subst eo12) | ((with_reducible refine gate_callee (f := 93) rfl ?_); refine goesL_ (some 18) rfl rfl Try.func93 (by kernel_rfl) rfl #[.slice Ao12 t188.length co12, .int .i64 a1] rfl (by (try simp only [List.map_toArray, List.map_cons, List.map_nil]); first | done | rfl | (simp only [List.length_drop, List.length_take]; rfl)) ?_; (with_reducible refine (impl_passQuarters.calls kj2 (fun k_ => some k_ = (.slice Ao12 t188.length co12 : Value).ownBlock) (.slice Ao12 t188.length co12) t188 a1 t191 w _ ?side1 ?side2 A10.out).mono ?_); (case side1 => repeat (first | (with_reducible first | exact HB.out | apply below_alloc | apply pw_below_drewN | apply below_drew1) | exact HB.out)); (case side2 => exact Kd.R_tight rfl HO190.out); rintro e w13 ⟨rfl, hy0, hb, hkp⟩; refine ⟨_, rfl, ?_⟩; have n0_ := Aside0.mk (Kd.R_reok rfl hy0 (fun k_ e_ => HO190.out.1 k_ e_)); have n1_ := Aside0.mk (hb); clear HO190; clear HB; have HO190 := n0_; have HB := n1_; clear n0_ n1_; (try clear hb); (try clear hkp); (try clear hy0)))
        go_ret2
        exact ⟨_, by first | rfl | (simp [errW_none, errW_some] <;> rfl) | (simp [*, errW_none, errW_some] <;> rfl), by (with_reducible repeat (first | apply Kd.R_alloc | apply Kd.R_drewN | apply Kd.R_drew)); exact HO190.out, by repeat (first | (with_reducible first | exact HB.out | apply below_alloc | apply pw_below_drewN | apply below_drew1) | exact HB.out)⟩

end Go.Proofs.Ytogpednapceljaa.PA
