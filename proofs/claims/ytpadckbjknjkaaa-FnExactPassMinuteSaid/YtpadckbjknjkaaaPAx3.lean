-- Printed by a program of this session's own.
import Derived.Test.YtpadckbjknjkaaaPAx0
import Derived.Test.YtpadckbjknjkaaaPAx2
namespace Go.Proofs.Ytpadckbjknjkaaa.PA
open Go.RowKit Go.Proofs.YtpadckbjknjkaaaW.PrintWords Go.Proofs.YtpadckbjknjkaaaW.PrintLast Go.Proofs.YtpadckbjknjkaaaW.PrintMore Go.Proofs.YtpadckbjknjkaaaX
attribute [local go_sem] max2_int min2_int max_two min_two max_three min_three max_four min_four   -- for this text's walks alone
set_option linter.unusedVariables false
set_option linter.unusedSimpArgs false

/-! ### impl_Vessel_50_at_impl_AreVessels_1: function 73 -/
def impl_Vessel_50_at_impl_AreVessels_1.l0 : Nat → List (S33) → Int → Int → Option (Int)
  | 0, _, _, _ => none
  | k + 1, x0, x7, x8 => if x8 < x7 then (if 0 ≤ x8 then (if x8 < (x0.length : Int) then ((impl_AreVessels_1.f ((rd_T33 x0 x8).f0) ((rd_T33 x0 x8).f1) ((rd_T33 x0 x8).f2)).bind fun t162 => (if t162 = true then (some x8) else (impl_Vessel_50_at_impl_AreVessels_1.l0 k x0 x7 (wrap64 (x8 + 1))))) else (none)) else (none)) else (some (-1))
def impl_Vessel_50_at_impl_AreVessels_1.f (k : Nat) (l0 : List (S33))  : Option (Int) := impl_Vessel_50_at_impl_AreVessels_1.l0 k l0 (l0.length : Int) 0
theorem impl_Vessel_50_at_impl_AreVessels_1.mono_l : ∀ k, (∀ y0 y1 y2, LeO (impl_Vessel_50_at_impl_AreVessels_1.l0 k y0 y1 y2) (impl_Vessel_50_at_impl_AreVessels_1.l0 (k + 1) y0 y1 y2))
  | 0 => fun _ _ _ r h => by simp [impl_Vessel_50_at_impl_AreVessels_1.l0] at h
  | k + 1 => by
    have ih0 := impl_Vessel_50_at_impl_AreVessels_1.mono_l k
    · intro y0 y1 y2
      unfold impl_Vessel_50_at_impl_AreVessels_1.l0
      repeat' first
      | (with_reducible exact ih0 _ _ _)
      | (with_reducible exact LeO.refl _)
      | (with_reducible exact LeO.none _)
      | (with_reducible refine LeO.ite ?_ ?_)
      | (with_reducible refine LeO.bind ?_ (fun _ => ?_))
      | exact ih0 _ _ _
      | exact LeO.none _
      | refine LeO.ite ?_ ?_
      | refine LeO.bind ?_ (fun _ => ?_)
theorem impl_Vessel_50_at_impl_AreVessels_1.mono : ∀ a0 k, LeO (impl_Vessel_50_at_impl_AreVessels_1.f k a0) (impl_Vessel_50_at_impl_AreVessels_1.f (k + 1) a0) := by
  intro a0 k
  have ih0 := impl_Vessel_50_at_impl_AreVessels_1.mono_l k
  unfold impl_Vessel_50_at_impl_AreVessels_1.f
  repeat' first
      | (with_reducible exact ih0 _ _ _)
      | (with_reducible exact LeO.refl _)
      | (with_reducible exact LeO.none _)
      | (with_reducible refine LeO.ite ?_ ?_)
      | (with_reducible refine LeO.bind ?_ (fun _ => ?_))
      | exact ih0 _ _ _
      | exact LeO.none _
      | refine LeO.ite ?_ ?_
      | refine LeO.bind ?_ (fun _ => ?_)
set_option maxHeartbeats 8000000 in
set_option maxRecDepth 100000 in
theorem impl_Vessel_50_at_impl_AreVessels_1.calls (k : Nat) (A0 : Option Addr) (c0 : Nat) (l0 : List (S33))  (r : Int) (w : World) (hr0 : Kd.C k33 w A0 l0.length l0) (hc0 : l0.length ≤ c0) (h : impl_Vessel_50_at_impl_AreVessels_1.f k l0 = some r) :
    Calls Try.prog 50 #[.slice A0 l0.length c0, .func (.func 36) #[] #[]] w fun e w' => e = .returned (.int .i64 r) ∧ Below w.heap.size w w' := by
  have hu33 := Try.underlying33
  have HR0 := Aside0.mk hr0
  have HC0 := Aside0.mk hc0
  clear hr0 hc0
  have HB := Aside0.mk (Below.refl w.heap.size w)
  have H : (impl_Vessel_50_at_impl_AreVessels_1.l0 k l0 (l0.length : Int) 0) = some r := h
  clear h
  have H' := Aside0.mk H
  clear H
  go_enter Try.func50, Try.ntmps50
  go_wp2
  go_loopg [8] k (fun kq v8 w' => ∃ (x8_1 : Int), v8 = .int .i64 x8_1 ∧ Aside0 (impl_Vessel_50_at_impl_AreVessels_1.l0 kq l0 (l0.length : Int) x8_1 = some r) ∧ Aside0 (kq ≤ k) ∧ Aside0 (Below w.heap.size w w'))
  case atStart => exact ⟨(0), (by first | rfl | (simp; done) | (simp [*]; done)), H', ⟨Nat.le_refl _⟩, ⟨by repeat (first | (with_reducible first | exact HB.out | apply below_alloc | apply pw_below_drewN | apply below_drew1) | exact HB.out)⟩⟩
  case round =>
    clear H'
    try clear p2
    obtain ⟨x8_1, rfl, HA, HK1, HB⟩ := hrel
    cases gk with
    | zero => exact absurd HA.out (by simp [impl_Vessel_50_at_impl_AreVessels_1.l0])
    | succ k1 =>
      have H := HA.out
      clear HA
      simp only [impl_Vessel_50_at_impl_AreVessels_1.l0] at H
      by_cases c3 : x8_1 < (l0.length : Int)
      · rw [if_pos c3] at H
        have c3b0 : decide (x8_1 < (l0.length : Int)) = true := decide_eq_true c3
        clear c3
        by_cases c4 : 0 ≤ x8_1
        · rw [if_pos c4] at H
          have c4b0 : decide (0 ≤ x8_1) = true := decide_eq_true c4
          clear c4
          by_cases c5 : x8_1 < (l0.length : Int)
          · rw [if_pos c5] at H
            have c5b0 : decide (x8_1 < (l0.length : Int)) = true := decide_eq_true c5
            clear c5
            replace H := Option.bind_eq_some_iff.mp H
            obtain ⟨t162, A60, H⟩ := H
            replace H : (if t162 = true then (some x8_1) else (impl_Vessel_50_at_impl_AreVessels_1.l0 k1 l0 (l0.length : Int) (wrap64 (x8_1 + 1)))) = some r := H
            have A6 := Aside0.mk A60
            clear A60
            by_cases c7 : t162 = true
            · subst c7
              have H1 : (some x8_1) = some r := by rw [if_pos rfl] at H; exact H
              clear H
              have H := H1
              clear H1
              obtain rfl := Option.some.inj H
              have p161 : 0 ≤ (x8_1 : Int) := of_decide_eq_true (by first | (with_reducible assumption) | assumption)
              have q161 : x8_1 < (l0.length : Int) := of_decide_eq_true (by first | (with_reducible assumption) | assumption)
              obtain ⟨ad161, e161, hx161_0, hx161_1, hx161_2⟩ := at_T33 HR0.out x8_1 p161 q161
              cases e161
              replace hx161_0 := (HB.out.cell (World.block_lt_of_cell? w _ hx161_0)).trans hx161_0
              replace hx161_1 := (HB.out.cell (World.block_lt_of_cell? w _ hx161_1)).trans hx161_1
              replace hx161_2 := (HB.out.cell (World.block_lt_of_cell? w _ hx161_2)).trans hx161_2
              replace p161 := eq_true p161
              replace q161 := eq_true q161
              go_wp2_with (first | (go_at_call 36; (with_reducible refine (impl_AreVessels_1.calls ((rd_T33 l0 x8_1).f0) ((rd_T33 l0 x8_1).f1) ((rd_T33 l0 x8_1).f2) true _ A6.out).mono ?_); rintro e w8 ⟨rfl, hb⟩; have n0_ := Aside0.mk (below_step (by repeat (first | (with_reducible first | exact HB.out | apply below_alloc | apply pw_below_drewN | apply below_drew1) | exact HB.out)) hb); clear HB; have HB := n0_; clear n0_; (try clear hb); (try clear hb2); (try clear hk); (try clear hi)))
              go_ret
              exact ⟨by first | rfl | (simp [errW_none, errW_some] <;> rfl) | (simp [*, errW_none, errW_some] <;> rfl), by repeat (first | (with_reducible first | exact HB.out | apply below_alloc | apply pw_below_drewN | apply below_drew1) | exact HB.out)⟩
            · replace c7 := Bool.eq_false_iff.mpr c7
              subst c7
              have H1 : (impl_Vessel_50_at_impl_AreVessels_1.l0 k1 l0 (l0.length : Int) (wrap64 (x8_1 + 1))) = some r := by rw [if_neg (show ¬ (false = true) by decide)] at H; exact H
              clear H
              have H := H1
              clear H1
              have H' := Aside0.mk H
              clear H
              have p161 : 0 ≤ (x8_1 : Int) := of_decide_eq_true (by first | (with_reducible assumption) | assumption)
              have q161 : x8_1 < (l0.length : Int) := of_decide_eq_true (by first | (with_reducible assumption) | assumption)
              obtain ⟨ad161, e161, hx161_0, hx161_1, hx161_2⟩ := at_T33 HR0.out x8_1 p161 q161
              cases e161
              replace hx161_0 := (HB.out.cell (World.block_lt_of_cell? w _ hx161_0)).trans hx161_0
              replace hx161_1 := (HB.out.cell (World.block_lt_of_cell? w _ hx161_1)).trans hx161_1
              replace hx161_2 := (HB.out.cell (World.block_lt_of_cell? w _ hx161_2)).trans hx161_2
              replace p161 := eq_true p161
              replace q161 := eq_true q161
              go_wp2_with (first | (go_at_call 36; (with_reducible refine (impl_AreVessels_1.calls ((rd_T33 l0 x8_1).f0) ((rd_T33 l0 x8_1).f1) ((rd_T33 l0 x8_1).f2) false _ A6.out).mono ?_); rintro e w9 ⟨rfl, hb⟩; have n0_ := Aside0.mk (below_step (by repeat (first | (with_reducible first | exact HB.out | apply below_alloc | apply pw_below_drewN | apply below_drew1) | exact HB.out)) hb); clear HB; have HB := n0_; clear n0_; (try clear hb); (try clear hb2); (try clear hk); (try clear hi)))
              go_roundg k1
              case measure => have := HK1.out; omega
              case rel => exact ⟨(wrap64 (x8_1 + 1)), (by first | rfl | (simp; done) | (simp [*]; done)), H', ⟨by have := HK1.out; omega⟩, ⟨by repeat (first | (with_reducible first | exact HB.out | apply below_alloc | apply pw_below_drewN | apply below_drew1) | exact HB.out)⟩⟩
          · rw [if_neg c5] at H
            exact absurd H (by simp)
        · rw [if_neg c4] at H
          exact absurd H (by simp)
      · rw [if_neg c3] at H
        have c3b0 : decide (x8_1 < (l0.length : Int)) = false := decide_eq_false c3
        clear c3
        obtain rfl := Option.some.inj H
        go_wp2
        go_ret
        exact ⟨by first | rfl | (simp [errW_none, errW_some] <;> rfl) | (simp [*, errW_none, errW_some] <;> rfl), by repeat (first | (with_reducible first | exact HB.out | apply below_alloc | apply pw_below_drewN | apply below_drew1) | exact HB.out)⟩

/-! ### impl_Vessel_35_at_impl_AreVessels_1: function 72 -/
def impl_Vessel_35_at_impl_AreVessels_1.f (k : Nat) (l0 : List (S33))  : Option (Bool) := (impl_Vessel_50_at_impl_AreVessels_1.f k l0).bind fun t163 => (some (decide (t163 ≥ 0)))
theorem impl_Vessel_35_at_impl_AreVessels_1.mono : ∀ a0 k, LeO (impl_Vessel_35_at_impl_AreVessels_1.f k a0) (impl_Vessel_35_at_impl_AreVessels_1.f (k + 1) a0) := by
  intro a0 k
  unfold impl_Vessel_35_at_impl_AreVessels_1.f
  repeat' first
      | (with_reducible exact impl_Vessel_50_at_impl_AreVessels_1.mono _ _)
      | (with_reducible exact LeO.refl _)
      | (with_reducible exact LeO.none _)
      | (with_reducible refine LeO.ite ?_ ?_)
      | (with_reducible refine LeO.bind ?_ (fun _ => ?_))
      | exact impl_Vessel_50_at_impl_AreVessels_1.mono _ _
      | exact LeO.none _
      | refine LeO.ite ?_ ?_
      | refine LeO.bind ?_ (fun _ => ?_)
set_option maxHeartbeats 8000000 in
set_option maxRecDepth 100000 in
theorem impl_Vessel_35_at_impl_AreVessels_1.calls (k : Nat) (A0 : Option Addr) (c0 : Nat) (l0 : List (S33))  (r : Bool) (w : World) (hr0 : Kd.C k33 w A0 l0.length l0) (hc0 : l0.length ≤ c0) (h : impl_Vessel_35_at_impl_AreVessels_1.f k l0 = some r) :
    Calls Try.prog 35 #[.slice A0 l0.length c0, .func (.func 36) #[] #[]] w fun e w' => e = .returned (.bool r) ∧ Below w.heap.size w w' := by
  have HR0 := Aside0.mk hr0
  have HC0 := Aside0.mk hc0
  clear hr0 hc0
  have HB := Aside0.mk (Below.refl w.heap.size w)
  have H : ((impl_Vessel_50_at_impl_AreVessels_1.f k l0).bind fun t163 => (some (decide (t163 ≥ 0)))) = some r := h
  clear h
  replace H := Option.bind_eq_some_iff.mp H
  obtain ⟨t163, A30, H⟩ := H
  replace H : (some (decide (t163 ≥ 0))) = some r := H
  have A3 := Aside0.mk A30
  clear A30
  obtain rfl := Option.some.inj H
  go_enter Try.func35, Try.ntmps35
  go_wp2_with (first | (go_at_call 50; (with_reducible refine (impl_Vessel_50_at_impl_AreVessels_1.calls k _ _ l0  t163 _ ?side1 ?side2 A3.out).mono ?_); (case side1 => repeat (first | exact HR0.out | (with_reducible refine Kd.C_alloc ?_ _) | (with_reducible refine Kd.C_drewN ?_ _) | (with_reducible refine Kd.C_drew ?_))); (case side2 => exact HC0.out); rintro e w4 ⟨rfl, hb⟩; have n0_ := Aside0.mk (below_step (by repeat (first | (with_reducible first | exact HB.out | apply below_alloc | apply pw_below_drewN | apply below_drew1) | exact HB.out)) hb); clear HB; have HB := n0_; clear n0_; (try clear hb); (try clear hb2); (try clear hk); (try clear hi)))
  go_ret
  exact ⟨by first | rfl | (simp [errW_none, errW_some] <;> rfl) | (simp [*, errW_none, errW_some] <;> rfl), by repeat (first | (with_reducible first | exact HB.out | apply below_alloc | apply pw_below_drewN | apply below_drew1) | exact HB.out)⟩

/-! ### impl_AreVessels: function 13 -/
def impl_AreVessels.f (k : Nat) (l0 : List (S33)) : Option (Bool) := (impl_within.f (l0.length : Int) 1 4).bind fun t164 => (if t164 = true then ((impl_Vessel_35_at_impl_AreVessels_1.f k l0).bind fun t165 => (some (!t165))) else (some false))
theorem impl_AreVessels.mono : ∀ a0 k, LeO (impl_AreVessels.f k a0) (impl_AreVessels.f (k + 1) a0) := by
  intro a0 k
  unfold impl_AreVessels.f
  repeat' first
      | (with_reducible exact impl_Vessel_35_at_impl_AreVessels_1.mono _ _)
      | (with_reducible exact LeO.refl _)
      | (with_reducible exact LeO.none _)
      | (with_reducible refine LeO.ite ?_ ?_)
      | (with_reducible refine LeO.bind ?_ (fun _ => ?_))
      | exact impl_Vessel_35_at_impl_AreVessels_1.mono _ _
      | exact LeO.none _
      | refine LeO.ite ?_ ?_
      | refine LeO.bind ?_ (fun _ => ?_)
set_option maxHeartbeats 8000000 in
set_option maxRecDepth 100000 in
theorem impl_AreVessels.calls (k : Nat) (A0 : Option Addr) (c0 : Nat) (l0 : List (S33)) (r : Bool) (w : World) (hr0 : Kd.C k33 w A0 l0.length l0) (hc0 : l0.length ≤ c0) (h : impl_AreVessels.f k l0 = some r) :
    Calls Try.prog 13 #[.slice A0 l0.length c0] w fun e w' => e = .returned (.bool r) ∧ Below w.heap.size w w' := by
  have HR0 := Aside0.mk hr0
  have HC0 := Aside0.mk hc0
  clear hr0 hc0
  have HB := Aside0.mk (Below.refl w.heap.size w)
  have H : ((impl_within.f (l0.length : Int) 1 4).bind fun t164 => (if t164 = true then ((impl_Vessel_35_at_impl_AreVessels_1.f k l0).bind fun t165 => (some (!t165))) else (some false))) = some r := h
  clear h
  replace H := Option.bind_eq_some_iff.mp H
  obtain ⟨t164, A20, H⟩ := H
  replace H : (if t164 = true then ((impl_Vessel_35_at_impl_AreVessels_1.f k l0).bind fun t165 => (some (!t165))) else (some false)) = some r := H
  have A2 := Aside0.mk A20
  clear A20
  by_cases c3 : t164 = true
  · subst c3
    have H1 : ((impl_Vessel_35_at_impl_AreVessels_1.f k l0).bind fun t165 => (some (!t165))) = some r := by rw [if_pos rfl] at H; exact H
    clear H
    have H := H1
    clear H1
    replace H := Option.bind_eq_some_iff.mp H
    obtain ⟨t165, A40, H⟩ := H
    replace H : (some (!t165)) = some r := H
    have A4 := Aside0.mk A40
    clear A40
    obtain rfl := Option.some.inj H
    go_enter Try.func13, Try.ntmps13
    go_wp2_with (first | ((with_reducible refine gate_callee (f := 34) rfl ?_); refine goesL_ (some 5) rfl rfl Try.func34 (by kernel_rfl) rfl #[.int .i64 (l0.length : Int), .int .i64 1, .int .i64 4] rfl (by (try simp only [List.map_toArray, List.map_cons, List.map_nil]); first | done | rfl | (simp only [List.length_drop, List.length_take]; rfl)) ?_; (with_reducible refine (impl_within.calls (l0.length : Int) 1 4 true _ A2.out).mono ?_); rintro e w' ⟨rfl, ⟨nd, rfl⟩⟩; refine ⟨_, rfl, ?_⟩) | (go_at_call 35; (with_reducible refine (impl_Vessel_35_at_impl_AreVessels_1.calls k _ _ l0  t165 _ ?side1 ?side2 A4.out).mono ?_); (case side1 => repeat (first | exact HR0.out | (with_reducible refine Kd.C_alloc ?_ _) | (with_reducible refine Kd.C_drewN ?_ _) | (with_reducible refine Kd.C_drew ?_))); (case side2 => exact HC0.out); rintro e w5 ⟨rfl, hb⟩; have n0_ := Aside0.mk (below_step (by repeat (first | (with_reducible first | exact HB.out | apply below_alloc | apply pw_below_drewN | apply below_drew1) | exact HB.out)) hb); clear HB; have HB := n0_; clear n0_; (try clear hb); (try clear hb2); (try clear hk); (try clear hi)))
    go_ret
    exact ⟨by first | rfl | (simp [errW_none, errW_some] <;> rfl) | (simp [*, errW_none, errW_some] <;> rfl), by repeat (first | (with_reducible first | exact HB.out | apply below_alloc | apply pw_below_drewN | apply below_drew1) | exact HB.out)⟩
  · replace c3 := Bool.eq_false_iff.mpr c3
    subst c3
    have H1 : (some false) = some r := by rw [if_neg (show ¬ (false = true) by decide)] at H; exact H
    clear H
    have H := H1
    clear H1
    obtain rfl := Option.some.inj H
    go_enter Try.func13, Try.ntmps13
    go_wp2_with (first | ((with_reducible refine gate_callee (f := 34) rfl ?_); refine goesL_ (some 5) rfl rfl Try.func34 (by kernel_rfl) rfl #[.int .i64 (l0.length : Int), .int .i64 1, .int .i64 4] rfl (by (try simp only [List.map_toArray, List.map_cons, List.map_nil]); first | done | rfl | (simp only [List.length_drop, List.length_take]; rfl)) ?_; (with_reducible refine (impl_within.calls (l0.length : Int) 1 4 false _ A2.out).mono ?_); rintro e w' ⟨rfl, ⟨nd, rfl⟩⟩; refine ⟨_, rfl, ?_⟩))
    go_ret
    exact ⟨by first | rfl | (simp [errW_none, errW_some] <;> rfl) | (simp [*, errW_none, errW_some] <;> rfl), by repeat (first | (with_reducible first | exact HB.out | apply below_alloc | apply pw_below_drewN | apply below_drew1) | exact HB.out)⟩

/-! ### impl_Vessel_45: function 45 -/
def impl_Vessel_45.f (l0 : List (S33)) : Option ((List (S33))) := (some (([] : List (S33)) : List (S33))).bind fun y166 => (if y166.length + l0.length < 5864062014805 then (some (y166 ++ l0)) else (none))
set_option maxHeartbeats 8000000 in
set_option maxRecDepth 100000 in
theorem impl_Vessel_45.calls (A0 : Option Addr) (c0 : Nat) (l0 : List (S33)) (r : List (S33)) (w : World) (hr0 : Kd.C k33 w A0 l0.length l0) (hc0 : l0.length ≤ c0) (h : impl_Vessel_45.f l0 = some r) :
    Calls Try.prog 45 #[.slice A0 l0.length c0] w fun e w' => ∃ v0_ : Value, e = .returned (v0_) ∧ Kd.R k33 33 w' w.heap.size (fun _ => True) v0_ r ∧ Below w.heap.size w w' := by
  have HR0 := Aside0.mk hr0
  have HC0 := Aside0.mk hc0
  clear hr0 hc0
  have HB := Aside0.mk (Below.refl w.heap.size w)
  have H : ((some (([] : List (S33)) : List (S33))).bind fun y166 => (if y166.length + l0.length < 5864062014805 then (some (y166 ++ l0)) else (none))) = some r := h
  clear h
  by_cases hnq2 : A0 = none
  · have hznq2 := Aside0.mk (C_none_nil (by have h_ := HR0.out; rw [hnq2] at h_; exact h_))
    have hsnq2 := fun W => eql_nil (P := Try.prog) (t := 25) (a := A0) (n := l0.length) (c := c0) (n' := 0) (c' := 0) (b := true) Try.underlying25 (by rw [hnq2]; rfl) W
    clear hnq2
    replace H : (some ([] : List (S33))) = some r := by rw [hznq2.out] at H; first | (simpa using H) | exact H
    obtain rfl := Option.some.inj H
    go_enter Try.func45, Try.ntmps45
    go_wp2
    go_ret
    exact ⟨_, by first | rfl | (simp [errW_none, errW_some] <;> rfl) | (simp [*, errW_none, errW_some] <;> rfl), by first | exact Kd.R_nil _ _ _ _ _ | exact Kd.N_nil _ _ _ _ _ | exact Kd.V_nil _ _ _ _ _ | exact Kd.Q_nil _ _ _ _ _ | exact Kd.S_nil _ _ _ _ _, by repeat (first | (with_reducible first | exact HB.out | apply below_alloc | apply pw_below_drewN | apply below_drew1) | exact HB.out)⟩
  · have hsnq2 := fun W => eql_nil (P := Try.prog) (t := 25) (a := A0) (n := l0.length) (c := c0) (n' := 0) (c' := 0) (b := false) Try.underlying25 (by cases hx_ : A0 with | none => exact absurd hx_ hnq2 | some _ => rfl) W
    clear hnq2
    obtain ⟨y166, hy166⟩ : ∃ y_ : List (S33), y_ = (([] : List (S33))) := ⟨_, rfl⟩
    replace H : (if y166.length + l0.length < 5864062014805 then (some (y166 ++ l0)) else (none)) = some r := by first | (rw [hy166]; with_reducible exact H) | (have H2_ := (Option.bind_some _ _).symm.trans H; rw [hy166]; with_reducible exact H2_) | (have H2_ := (Option.bind_some _ _).symm.trans H; with_reducible exact H2_) | with_reducible exact H | (rw [hy166]; exact H) | exact H
    have Ny166 := Aside0.mk hy166
    clear hy166
    by_cases c3 : y166.length + l0.length < 5864062014805
    · rw [if_pos c3] at H
      have LMc3 := Aside0.mk c3
      clear c3
      obtain ⟨y169, hy169⟩ : ∃ y_ : List (S33), y_ = (y166 ++ l0) := ⟨_, rfl⟩
      replace H : (some y169) = some r := by first | (rw [hy169]; with_reducible exact H) | (have H2_ := (Option.bind_some _ _).symm.trans H; rw [hy169]; with_reducible exact H2_) | (have H2_ := (Option.bind_some _ _).symm.trans H; with_reducible exact H2_) | with_reducible exact H | (rw [hy169]; exact H) | exact H
      have Ny169 := Aside0.mk hy169
      clear hy169
      obtain rfl := Option.some.inj H
      go_enter Try.func45, Try.ntmps45
      go_wp2_with (first | ((with_reducible refine gate_dst (N := 5) rfl ?_); refine Kd.R_lit k33 _ 33 ?hg (N := 5) ?hd (xs := ([] : List (S33))) (inner := []) (ok := fun _ => True) (okp := fun _ => True) ?hr ?hp (fun _ hk => hk) trivial (Below.refl _ _) (Nat.le_refl _) (by simp) ?_; (case hd => rfl); (case hg => rfl); (case hr => first | (go_simp; done) | (go_simp; rfl)); (case hp => exact (Reps.none _ _)); intro v167 w4 ho5 hb hg_ hnew_; clear hg_ hnew_; (first | rw [← Ny166.out] at ho5 | (simp only [Int.reduceToNat] at ho5; rw [← Ny166.out] at ho5)); have n0_ := Aside0.mk (Kd.R_lower ho5 (below_size (by repeat (first | (with_reducible first | exact HB.out | apply below_alloc | apply pw_below_drewN | apply below_drew1) | exact HB.out)))); have n1_ := Aside0.mk (below_step (by repeat (first | (with_reducible first | exact HB.out | apply below_alloc | apply pw_below_drewN | apply below_drew1) | exact HB.out)) hb); clear HB; have HO168 := n0_; have HB := n1_; clear n0_ n1_; clear hb ho5) | ((with_reducible refine gate_builtin (b := .append) (xs := #[.tmp 5, .tmp 6]) rfl ?_); at_builtin; refine Kd.R_append_rows k33 (w0 := w) w.heap.size rfl (.tmp 5) (.tmp 6) 25 33 (.agg #[(.int .i64 0), (.int .i64 0), (.int .i64 0)]) 24 rfl Try.underlying25 info33 rfl (by decide) (by omega) v167 y166 l0 _ _ _ (fun _ => True) (fun _ => False) rfl rfl ?aO ?aR (fun _ _ h => h) (fun _ h => h.elim) ?aF ?aB ?aS ?aL ?_; (case aR => repeat (first | exact (Kd.C_below HR0.out HB.out) | (with_reducible refine Kd.C_alloc ?_ _) | (with_reducible refine Kd.C_drewN ?_ _) | (with_reducible refine Kd.C_drew ?_))); (case aB => exact (by repeat (first | (with_reducible first | exact HB.out | apply below_alloc | apply pw_below_drewN | apply below_drew1) | exact HB.out))); (case aF => exact (fun _ _ => trivial)); (case aO => exact (by (with_reducible repeat (first | apply Kd.R_alloc | apply Kd.R_drewN | apply Kd.R_drew)); exact HO168.out)); (case aS => exact (below_size (by repeat (first | (with_reducible first | exact HB.out | apply below_alloc | apply pw_below_drewN | apply below_drew1) | exact HB.out)))); (case aL => have := LMc3.out; omega); intro v170 w6 ho hb hg hat; rw [← Ny169.out] at ho; have n0_ := Aside0.mk (hb); have n1_ := Aside0.mk (ho); clear HB; clear HO168; have HB := n0_; have HO171 := n1_; clear n0_ n1_; clear ho hb hg hat))
      go_ret
      exact ⟨_, by first | rfl | (simp [errW_none, errW_some] <;> rfl) | (simp [*, errW_none, errW_some] <;> rfl), by (with_reducible repeat (first | apply Kd.R_alloc | apply Kd.R_drewN | apply Kd.R_drew)); exact HO171.out, by repeat (first | (with_reducible first | exact HB.out | apply below_alloc | apply pw_below_drewN | apply below_drew1) | exact HB.out)⟩
    · rw [if_neg c3] at H
      exact absurd H (by simp)

/-! ### impl_minute: function 47 -/
def impl_minute.l0 : Nat → List (S33) → Int → Int → Int → Int → Option (Int × Int × (List (S33)))
  | 0, _, _, _, _, _ => none
  | k + 1, x0, x4, x5, x11, x12 => if x12 < x11 then (if 0 ≤ x12 then (if x12 < (x0.length : Int) then ((some (x0.set (x12 : Int).toNat (⟨(rd_T33 x0 x12).f0, (rd_T33 x0 x12).f1, wrap64 (((rd_T33 x0 x12).f2) + (wrap64 (x5 - (mn ((rd_T33 x0 x12).f1) ((rd_T33 x0 x12).f2)))))⟩ : S33) : List (S33))).bind fun y175 => (if (wrap64 (((rd_T33 y175 x12).f2) - ((rd_T33 y175 x12).f0))) > 0 then (impl_minute.l0 k (y175.set (x12 : Int).toNat (⟨(rd_T33 y175 x12).f0, (rd_T33 y175 x12).f1, (rd_T33 y175 x12).f0⟩ : S33)) (wrap64 (x4 + (wrap64 (((rd_T33 y175 x12).f2) - ((rd_T33 y175 x12).f0))))) (mn ((rd_T33 x0 x12).f1) ((rd_T33 x0 x12).f2)) x11 (wrap64 (x12 + 1))) else (impl_minute.l0 k y175 x4 (mn ((rd_T33 x0 x12).f1) ((rd_T33 x0 x12).f2)) x11 (wrap64 (x12 + 1))))) else (none)) else (none)) else (some (x4, x5, x0))
def impl_minute.f (k : Nat) (l0 : List (S33)) : Option (Int × Int × (List (S33))) := impl_minute.l0 k l0 0 0 (l0.length : Int) 0
theorem impl_minute.mono_l : ∀ k, (∀ y0 y1 y2 y3 y4, LeO (impl_minute.l0 k y0 y1 y2 y3 y4) (impl_minute.l0 (k + 1) y0 y1 y2 y3 y4))
  | 0 => fun _ _ _ _ _ r h => by simp [impl_minute.l0] at h
  | k + 1 => by
    have ih0 := impl_minute.mono_l k
    · intro y0 y1 y2 y3 y4
      unfold impl_minute.l0
      repeat' first
      | (with_reducible exact ih0 _ _ _ _ _)
      | (with_reducible exact LeO.refl _)
      | (with_reducible exact LeO.none _)
      | (with_reducible refine LeO.ite ?_ ?_)
      | (with_reducible refine LeO.bind ?_ (fun _ => ?_))
      | exact ih0 _ _ _ _ _
      | exact LeO.none _
      | refine LeO.ite ?_ ?_
      | refine LeO.bind ?_ (fun _ => ?_)
theorem impl_minute.mono : ∀ a0 k, LeO (impl_minute.f k a0) (impl_minute.f (k + 1) a0) := by
  intro a0 k
  have ih0 := impl_minute.mono_l k
  unfold impl_minute.f
  repeat' first
      | (with_reducible exact ih0 _ _ _ _ _)
      | (with_reducible exact LeO.refl _)
      | (with_reducible exact LeO.none _)
      | (with_reducible refine LeO.ite ?_ ?_)
      | (with_reducible refine LeO.bind ?_ (fun _ => ?_))
      | exact ih0 _ _ _ _ _
      | exact LeO.none _
      | refine LeO.ite ?_ ?_
      | refine LeO.bind ?_ (fun _ => ?_)
set_option maxHeartbeats 8000000 in
set_option maxRecDepth 100000 in
theorem impl_minute.calls (k : Nat) (P0_ : Nat → Prop) (u9000_ : Value) (l0 : List (S33)) (r1 : Int) (r2 : Int) (r3 : List (S33)) (w0 w : World) (hB : Below w0.heap.size w0 w) (ho0 : Kd.R k33 33 w w0.heap.size P0_ u9000_ l0) (h : impl_minute.f k l0 = some (r1, r2, r3)) :
    Calls Try.prog 47 #[u9000_] w fun e w' => e = .returned (.tuple #[.int .i64 r1, .int .i64 r2]) ∧ Kd.R k33 33 w' w0.heap.size (fun k_ => (P0_ k_ ∨ w.heap.size ≤ k_)) u9000_ r3 ∧ Below w0.heap.size w0 w' ∧ Kept w w' (fun k_ => P0_ k_) := by
  have HO0 := Aside0.mk (show Kd.R k33 33 w w0.heap.size (fun k_ => (P0_ k_ ∨ w.heap.size ≤ k_)) u9000_ l0 from Kd.R_mono ho0 (fun k_ hk => (.inl hk)))
  have HK := Aside0.mk (Kept.refl w (fun k_ => P0_ k_))
  have HW0 := Aside0.mk hB.size
  have HB := Aside0.mk hB
  clear hB
  have H : (impl_minute.l0 k l0 0 0 (l0.length : Int) 0) = some (r1, r2, r3) := h
  clear h
  have H' := Aside0.mk H
  clear H
  obtain ⟨Ao2, co2, eo2⟩ := Kd.R_slice HO0.out
  subst eo2
  go_enter Try.func47, Try.ntmps47
  go_wp2
  repeat (go_quiet (fail); try go_wp2)
  go_loopg [4, 5, 12] k (fun kq v4 v5 v12 w' => ∃ (x0_1 : List (S33)) (x4_1 : Int) (x5_1 : Int) (x12_1 : Int), v4 = .int .i64 x4_1 ∧ v5 = .int .i64 x5_1 ∧ v12 = .int .i64 x12_1 ∧ Aside0 (impl_minute.l0 kq x0_1 x4_1 x5_1 (l0.length : Int) x12_1 = some (r1, r2, r3)) ∧ Aside0 (kq ≤ k) ∧ Aside0 (Kd.R k33 33 w' w0.heap.size (fun k_ => (P0_ k_ ∨ w.heap.size ≤ k_)) (.slice Ao2 l0.length co2) x0_1) ∧ Aside0 (Kept w w' (fun k_ => P0_ k_)) ∧ Aside0 (Below w0.heap.size w0 w'))
  case atStart => exact ⟨(l0), (0), (0), (0), (by first | rfl | (simp; done) | (simp [*]; done)), (by first | rfl | (simp; done) | (simp [*]; done)), (by first | rfl | (simp; done) | (simp [*]; done)), H', ⟨Nat.le_refl _⟩, ⟨by (with_reducible repeat (first | apply Kd.R_alloc | apply Kd.R_drewN | apply Kd.R_drew)); exact HO0.out⟩, ⟨by repeat (first | (with_reducible first | exact HK.out | apply Kept.alloc | apply Kept.drewN | apply Kept.drew) | exact HK.out)⟩, ⟨by repeat (first | (with_reducible first | exact HB.out | apply below_alloc | apply pw_below_drewN | apply below_drew1) | exact HB.out)⟩⟩
  case round =>
    clear H'
    try clear p2
    obtain ⟨x0_1, x4_1, x5_1, x12_1, rfl, rfl, rfl, HA, HK1, HO_0, HK, HB⟩ := hrel
    have hl0_1 := (Kd.R_reads' HO_0.out).1
    rw [hl0_1] at HO_0
    (try simp only [hl0_1])
    cases gk with
    | zero => exact absurd HA.out (by simp [impl_minute.l0])
    | succ k1 =>
      have H := HA.out
      clear HA
      simp only [impl_minute.l0] at H
      by_cases c3 : x12_1 < (l0.length : Int)
      · rw [if_pos c3] at H
        have c3b0 : decide (x12_1 < (l0.length : Int)) = true := decide_eq_true c3
        clear c3
        by_cases c4 : 0 ≤ x12_1
        · rw [if_pos c4] at H
          have c4b0 : decide (0 ≤ x12_1) = true := decide_eq_true c4
          clear c4
          by_cases c5 : x12_1 < (x0_1.length : Int)
          · rw [if_pos c5] at H
            have c5b0 : decide (x12_1 < (x0_1.length : Int)) = true := decide_eq_true c5
            clear c5
            obtain ⟨ji7, hji7⟩ : ∃ j_ : Int, (mn ((rd_T33 x0_1 x12_1).f1) ((rd_T33 x0_1 x12_1).f2)) = j_ := ⟨_, rfl⟩
            replace H : ((some (x0_1.set (x12_1 : Int).toNat (⟨(rd_T33 x0_1 x12_1).f0, (rd_T33 x0_1 x12_1).f1, wrap64 (((rd_T33 x0_1 x12_1).f2) + (wrap64 (x5_1 - (ji7))))⟩ : S33) : List (S33))).bind fun y175 => (if (wrap64 (((rd_T33 y175 x12_1).f2) - ((rd_T33 y175 x12_1).f0))) > 0 then (impl_minute.l0 k1 (y175.set (x12_1 : Int).toNat (⟨(rd_T33 y175 x12_1).f0, (rd_T33 y175 x12_1).f1, (rd_T33 y175 x12_1).f0⟩ : S33)) (wrap64 (x4_1 + (wrap64 (((rd_T33 y175 x12_1).f2) - ((rd_T33 y175 x12_1).f0))))) ji7 (l0.length : Int) (wrap64 (x12_1 + 1))) else (impl_minute.l0 k1 y175 x4_1 ji7 (l0.length : Int) (wrap64 (x12_1 + 1))))) = some (r1, r2, r3) := by first | (rw [hji7] at H; exact H) | (simp only [hji7] at H ⊢; exact H)
            have hji7_ : (if ((rd_T33 x0_1 x12_1).f2) < ((rd_T33 x0_1 x12_1).f1) then ((rd_T33 x0_1 x12_1).f2) else ((rd_T33 x0_1 x12_1).f1)) = ji7 := hji7
            obtain ⟨y175, hy175⟩ : ∃ y_ : List (S33), y_ = (x0_1.set (x12_1 : Int).toNat (⟨(rd_T33 x0_1 x12_1).f0, (rd_T33 x0_1 x12_1).f1, wrap64 (((rd_T33 x0_1 x12_1).f2) + (wrap64 (x5_1 - (ji7))))⟩ : S33)) := ⟨_, rfl⟩
            replace H : (if (wrap64 (((rd_T33 y175 x12_1).f2) - ((rd_T33 y175 x12_1).f0))) > 0 then (impl_minute.l0 k1 (y175.set (x12_1 : Int).toNat (⟨(rd_T33 y175 x12_1).f0, (rd_T33 y175 x12_1).f1, (rd_T33 y175 x12_1).f0⟩ : S33)) (wrap64 (x4_1 + (wrap64 (((rd_T33 y175 x12_1).f2) - ((rd_T33 y175 x12_1).f0))))) ji7 (l0.length : Int) (wrap64 (x12_1 + 1))) else (impl_minute.l0 k1 y175 x4_1 ji7 (l0.length : Int) (wrap64 (x12_1 + 1)))) = some (r1, r2, r3) := by first | (rw [hy175]; with_reducible exact H) | (have H2_ := (Option.bind_some _ _).symm.trans H; rw [hy175]; with_reducible exact H2_) | (have H2_ := (Option.bind_some _ _).symm.trans H; with_reducible exact H2_) | with_reducible exact H | (rw [hy175]; exact H) | exact H
            have Ny175 := Aside0.mk hy175
            clear hy175
            by_cases c9 : (wrap64 (((rd_T33 y175 x12_1).f2) - ((rd_T33 y175 x12_1).f0))) > 0
            · rw [if_pos c9] at H
              have c9b0 : decide (0 < (wrap64 (((rd_T33 y175 x12_1).f2) - ((rd_T33 y175 x12_1).f0)))) = true := decide_eq_true c9
              clear c9
              obtain ⟨y179, hy179⟩ : ∃ y_ : List (S33), y_ = (y175.set (x12_1 : Int).toNat (⟨(rd_T33 y175 x12_1).f0, (rd_T33 y175 x12_1).f1, (rd_T33 y175 x12_1).f0⟩ : S33)) := ⟨_, rfl⟩
              replace H : (impl_minute.l0 k1 y179 (wrap64 (x4_1 + (wrap64 (((rd_T33 y175 x12_1).f2) - ((rd_T33 y175 x12_1).f0))))) ji7 (l0.length : Int) (wrap64 (x12_1 + 1))) = some (r1, r2, r3) := by first | (rw [hy179]; with_reducible exact H) | (have H2_ := (Option.bind_some _ _).symm.trans H; rw [hy179]; with_reducible exact H2_) | (have H2_ := (Option.bind_some _ _).symm.trans H; with_reducible exact H2_) | with_reducible exact H | (rw [hy179]; exact H) | exact H
              have Ny179 := Aside0.mk hy179
              clear hy179
              have H' := Aside0.mk H
              clear H
              have p6 : 0 ≤ (x12_1 : Int) := of_decide_eq_true (by first | (with_reducible assumption) | assumption)
              have q6 : (x12_1 : Int) < ((x0_1.length : Int) : Int) := of_decide_eq_true (by first | (with_reducible assumption) | assumption)
              obtain ⟨go6, co6, eo6, gb6, gl6, cl6, HG6⟩ := Kd.R_form HO_0.out (by omega)
              (first | cases eo6 | (injection eo6 with ea_ en_ ec_; (first | subst ea_ | (injection ea_ with ea_; subst ea_)); subst ec_; clear en_))
              have GB6 := Aside0.mk gb6
              have GG6 := Aside0.mk HG6
              clear gb6 gl6 HG6
              have HMgo6 := Aside0.mk (show (P0_ go6 ∨ w.heap.size ≤ go6) from (HO_0.out.1 _ rfl))
              obtain ⟨ce6, hcl6, hM6, hcc6, hfr6⟩ := Kd.R_elem HO_0.out z33 (x12_1 : Int) p6 q6
              obtain rfl := k33_openM hM6
              have hx6_0 : wr.cell? ⟨go6, (x12_1 : Int).toNat * 3, none⟩ = some (.int .i64 ((rd_T33 x0_1 x12_1).f0)) := hcc6 0 _ rfl
              have hx6_1 : wr.cell? ⟨go6, (x12_1 : Int).toNat * 3 + 1, none⟩ = some (.int .i64 ((rd_T33 x0_1 x12_1).f1)) := hcc6 1 _ rfl
              have hx6_2 : wr.cell? ⟨go6, (x12_1 : Int).toNat * 3 + 2, none⟩ = some (.int .i64 ((rd_T33 x0_1 x12_1).f2)) := hcc6 2 _ rfl
              have hf6_0 : wr.frozen? ⟨go6, (x12_1 : Int).toNat * 3, none⟩ = false := hfr6 0
              have hf6_1 : wr.frozen? ⟨go6, (x12_1 : Int).toNat * 3 + 1, none⟩ = false := hfr6 1
              have hf6_2 : wr.frozen? ⟨go6, (x12_1 : Int).toNat * 3 + 2, none⟩ = false := hfr6 2
              clear hcl6 hcc6 hfr6 hM6
              replace p6 := eq_true p6
              replace q6 := eq_true q6
              have p172 : 0 ≤ (x12_1 : Int) := of_decide_eq_true (by first | (with_reducible assumption) | assumption)
              have q172 : x12_1 < (x0_1.length : Int) := of_decide_eq_true (by first | (with_reducible assumption) | assumption)
              obtain ⟨ad172, e172, hx172_0, hx172_1, hx172_2⟩ := at_T33 (Kd.R_reads' HO_0.out).2.2 x12_1 p172 q172
              obtain rfl : (⟨go6, 0, none⟩ : Addr) = ad172 := (by injection e172)
              (first | simp only [add_plain] at hx172_0 | simp only [add_at] at hx172_0 | simp only [Addr.add, Nat.zero_add] at hx172_0 | skip)
              (first | simp only [add_plain] at hx172_1 | simp only [add_at] at hx172_1 | simp only [Addr.add, Nat.zero_add] at hx172_1 | skip)
              (first | simp only [add_plain] at hx172_2 | simp only [add_at] at hx172_2 | simp only [Addr.add, Nat.zero_add] at hx172_2 | skip)
              replace p172 := eq_true p172
              replace q172 := eq_true q172
              have p173 : 0 ≤ (x12_1 : Int) := of_decide_eq_true (by first | (with_reducible assumption) | assumption)
              have q173 : x12_1 < (x0_1.length : Int) := of_decide_eq_true (by first | (with_reducible assumption) | assumption)
              obtain ⟨ad173, e173, hx173_0, hx173_1, hx173_2⟩ := at_T33 (Kd.R_reads' HO_0.out).2.2 x12_1 p173 q173
              obtain rfl : (⟨go6, 0, none⟩ : Addr) = ad173 := (by injection e173)
              (first | simp only [add_plain] at hx173_0 | simp only [add_at] at hx173_0 | simp only [Addr.add, Nat.zero_add] at hx173_0 | skip)
              (first | simp only [add_plain] at hx173_1 | simp only [add_at] at hx173_1 | simp only [Addr.add, Nat.zero_add] at hx173_1 | skip)
              (first | simp only [add_plain] at hx173_2 | simp only [add_at] at hx173_2 | simp only [Addr.add, Nat.zero_add] at hx173_2 | skip)
              replace p173 := eq_true p173
              replace q173 := eq_true q173
              have p174 : 0 ≤ (x12_1 : Int) := of_decide_eq_true (by first | (with_reducible assumption) | assumption)
              have q174 : x12_1 < (x0_1.length : Int) := of_decide_eq_true (by first | (with_reducible assumption) | assumption)
              obtain ⟨ad174, e174, hx174_0, hx174_1, hx174_2⟩ := at_T33 (Kd.R_reads' HO_0.out).2.2 x12_1 p174 q174
              obtain rfl : (⟨go6, 0, none⟩ : Addr) = ad174 := (by injection e174)
              (first | simp only [add_plain] at hx174_0 | simp only [add_at] at hx174_0 | simp only [Addr.add, Nat.zero_add] at hx174_0 | skip)
              (first | simp only [add_plain] at hx174_1 | simp only [add_at] at hx174_1 | simp only [Addr.add, Nat.zero_add] at hx174_1 | skip)
              (first | simp only [add_plain] at hx174_2 | simp only [add_at] at hx174_2 | simp only [Addr.add, Nat.zero_add] at hx174_2 | skip)
              replace p174 := eq_true p174
              replace q174 := eq_true q174
              have p8 : 0 ≤ (x12_1 : Int) := of_decide_eq_true (by first | (with_reducible assumption) | assumption)
              have q8 : (x12_1 : Int) < ((x0_1.length : Int) : Int) := of_decide_eq_true (by first | (with_reducible assumption) | assumption)
              obtain ⟨ce8, hcl8, hM8, hcc8, hfr8⟩ := Kd.R_elem HO_0.out z33 (x12_1 : Int) p8 q8
              obtain rfl := k33_openM hM8
              have hx8_0 : wr.cell? ⟨go6, (x12_1 : Int).toNat * 3, none⟩ = some (.int .i64 ((rd_T33 x0_1 x12_1).f0)) := hcc8 0 _ rfl
              have hx8_1 : wr.cell? ⟨go6, (x12_1 : Int).toNat * 3 + 1, none⟩ = some (.int .i64 ((rd_T33 x0_1 x12_1).f1)) := hcc8 1 _ rfl
              have hx8_2 : wr.cell? ⟨go6, (x12_1 : Int).toNat * 3 + 2, none⟩ = some (.int .i64 ((rd_T33 x0_1 x12_1).f2)) := hcc8 2 _ rfl
              have hf8_0 : wr.frozen? ⟨go6, (x12_1 : Int).toNat * 3, none⟩ = false := hfr8 0
              have hf8_1 : wr.frozen? ⟨go6, (x12_1 : Int).toNat * 3 + 1, none⟩ = false := hfr8 1
              have hf8_2 : wr.frozen? ⟨go6, (x12_1 : Int).toNat * 3 + 2, none⟩ = false := hfr8 2
              clear hcl8 hcc8 hfr8 hM8
              replace p8 := eq_true p8
              replace q8 := eq_true q8
              have HX11 := Aside0.mk (show Kd.R k33 33 wr w0.heap.size (fun k_ => (P0_ k_ ∨ w.heap.size ≤ k_)) (.slice (some ⟨go6, 0, none⟩) x0_1.length co2) x0_1 from (by (with_reducible repeat (first | apply Kd.R_alloc | apply Kd.R_drewN | apply Kd.R_drew)); exact HO_0.out))
              obtain ⟨ce11, hcl11, hM11, hcc11, hfr11⟩ := Kd.R_elem HX11.out z33 (x12_1 : Int) (of_decide_eq_true (by first | (with_reducible assumption) | assumption)) (by have h_ : (x12_1 : Int) < ((x0_1.length : Int) : Int) := of_decide_eq_true (by first | (with_reducible assumption) | assumption); first | exact h_ | (have e_ := (Kd.R_reads' HO_0.out).1; omega) | simpa using h_)
              obtain rfl := k33_openM hM11
              have HP11 := Kd.R_seg HX11.out (x12_1 : Int) (of_decide_eq_true (by first | (with_reducible assumption) | assumption)) (by have h_ : (x12_1 : Int) < ((x0_1.length : Int) : Int) := of_decide_eq_true (by first | (with_reducible assumption) | assumption); first | exact h_ | (have e_ := (Kd.R_reads' HO_0.out).1; omega) | simpa using h_) (seg := [.int .i64 (wrap64 (((rd_T33 x0_1 x12_1).f2) + (wrap64 (x5_1 - (ji7)))))]) (j := 2) hcl11 hcc11 (show 3 ≤ 3 from by decide) (x' := (⟨(rd_T33 x0_1 x12_1).f0, (rd_T33 x0_1 x12_1).f1, wrap64 (((rd_T33 x0_1 x12_1).f2) + (wrap64 (x5_1 - (ji7))))⟩ : S33)) (k33_mkM _ _ _ (⟨(rd_T33 x0_1 x12_1).f0, (rd_T33 x0_1 x12_1).f1, wrap64 (((rd_T33 x0_1 x12_1).f2) + (wrap64 (x5_1 - (ji7))))⟩ : S33) ) (fun _ hk => hk)
              have hx11_2 := hcc11 2 _ rfl
              (try simp only [show (k33).sz = 3 from rfl, Nat.mul_one, Nat.add_zero] at hx11_2)
              have hf11_2 := hfr11 2
              (try simp only [show (k33).sz = 3 from rfl, Nat.mul_one, Nat.add_zero] at hf11_2)
              clear hcl11 hcc11 hfr11 hM11
              go_wp2_with (first | ((with_reducible refine gate_store (t := 3) (p := 36) rfl ?_); (try (rw [drewN_self wr]; generalize hq_ : World.drewN wr _ = wr; have n0_ := Aside0.mk (Kd.R_at hq_ HO_0.out); have n1_ := Aside0.mk (kept_at hq_ HK.out); have n2_ := Aside0.mk (below_at hq_ HB.out); clear hq_ HO_0 HK HB; have HO_0 := n0_; have HK := n1_; have HB := n2_; clear n0_ n1_ n2_; (try (have HX11 := Aside0.mk (show Kd.R k33 33 wr w0.heap.size (fun k_ => (P0_ k_ ∨ w.heap.size ≤ k_)) (.slice (some ⟨go6, 0, none⟩) x0_1.length co2) x0_1 from (by (with_reducible repeat (first | apply Kd.R_alloc | apply Kd.R_drewN | apply Kd.R_drew)); exact HO_0.out)))); (try (obtain ⟨ce11, hcl11, hM11, hcc11, hfr11⟩ := Kd.R_elem HX11.out z33 (x12_1 : Int) (of_decide_eq_true (by first | (with_reducible assumption) | assumption)) (by have h_ : (x12_1 : Int) < ((x0_1.length : Int) : Int) := of_decide_eq_true (by first | (with_reducible assumption) | assumption); first | exact h_ | (have e_ := (Kd.R_reads' HO_0.out).1; omega) | simpa using h_))); (try (obtain rfl := k33_openM hM11)); (try (have HP11 := Kd.R_seg HX11.out (x12_1 : Int) (of_decide_eq_true (by first | (with_reducible assumption) | assumption)) (by have h_ : (x12_1 : Int) < ((x0_1.length : Int) : Int) := of_decide_eq_true (by first | (with_reducible assumption) | assumption); first | exact h_ | (have e_ := (Kd.R_reads' HO_0.out).1; omega) | simpa using h_) (seg := [.int .i64 (wrap64 (((rd_T33 x0_1 x12_1).f2) + (wrap64 (x5_1 - (ji7)))))]) (j := 2) hcl11 hcc11 (show 3 ≤ 3 from by decide) (x' := (⟨(rd_T33 x0_1 x12_1).f0, (rd_T33 x0_1 x12_1).f1, wrap64 (((rd_T33 x0_1 x12_1).f2) + (wrap64 (x5_1 - (ji7))))⟩ : S33)) (k33_mkM _ _ _ (⟨(rd_T33 x0_1 x12_1).f0, (rd_T33 x0_1 x12_1).f1, wrap64 (((rd_T33 x0_1 x12_1).f2) + (wrap64 (x5_1 - (ji7))))⟩ : S33) ) (fun _ hk => hk))); (try (have hx11_2 := hcc11 2 _ rfl)); (try (try simp only [show (k33).sz = 3 from rfl, Nat.mul_one, Nat.add_zero] at hx11_2)); (try (have hf11_2 := hfr11 2)); (try (try simp only [show (k33).sz = 3 from rfl, Nat.mul_one, Nat.add_zero] at hf11_2)); (try (clear hcl11 hcc11 hfr11 hM11)))); refine store_event (t := 3) (p := 36) (v := ?vo_w12) (w1 := (wr.setCell ⟨go6, (x12_1 : Int).toNat * 3 + 2, none⟩ (.int .i64 (wrap64 (((rd_T33 x0_1 x12_1).f2) + (wrap64 (x5_1 - (ji7)))))))) ?hg ?ho ?hn ?hr ?_; (case ho => rfl); (case hg => rfl); (case hn => rfl); (case hr => first | (go_simp; done) | (go_simp; rfl)); intro w12 hw; have hg : wr.grownBy w12 (some go6) := (by rw [hw]; exact HP11.2); have hp_ : Kd.R k33 33 w12 w0.heap.size (fun k_ => (P0_ k_ ∨ w.heap.size ≤ k_)) (.slice (some ⟨go6, 0, none⟩) x0_1.length co2) y175 := (by rw [hw, Ny175.out]; exact HP11.1); clear HP11; have n0_ := Aside0.mk (hp_); have n1_ := Aside0.mk ((by rw [hw]; exact below_set (HB.out) GB6.out : Below w0.heap.size w0 w12)); have n2_ := Aside0.mk (Kept.of_grown (S := (fun k_ => P0_ k_)) hg (by repeat (first | (with_reducible first | exact HK.out | apply Kept.alloc | apply Kept.drewN | apply Kept.drew) | exact HK.out)) (fun k_ e_ => (HO_0.out.1 k_ e_))); clear HO_0; clear HB; clear HK; have HO_0 := n0_; have HB := n1_; have HK := n2_; clear n0_ n1_ n2_; clear hg hw hp_; have p176 : 0 ≤ (x12_1 : Int) := of_decide_eq_true (by first | (with_reducible assumption) | assumption); have q176 : x12_1 < (y175.length : Int) := (by have h_ : (x12_1 : Int) < ((x0_1.length : Int) : Int) := of_decide_eq_true (by first | (with_reducible assumption) | assumption); first | (have e_ := (Kd.R_reads' HO_0.out).1; omega) | simpa only [Ny175.out, List.length_set] using h_); have ql176 : ((x12_1 : Int) < ((x0_1.length : Int) : Int)) = True := eq_true (of_decide_eq_true (by first | (with_reducible assumption) | assumption)); obtain ⟨ad176, e176, hx176_0, hx176_1, hx176_2⟩ := at_T33 (Kd.R_reads' HO_0.out).2.2 x12_1 p176 q176; obtain rfl : (⟨go6, 0, none⟩ : Addr) = ad176 := (by injection e176); (first | simp only [add_plain] at hx176_0 | simp only [add_at] at hx176_0 | simp only [Addr.add, Nat.zero_add] at hx176_0 | skip); (first | simp only [add_plain] at hx176_1 | simp only [add_at] at hx176_1 | simp only [Addr.add, Nat.zero_add] at hx176_1 | skip); (first | simp only [add_plain] at hx176_2 | simp only [add_at] at hx176_2 | simp only [Addr.add, Nat.zero_add] at hx176_2 | skip); replace p176 := eq_true p176; replace q176 := eq_true q176; have p177 : 0 ≤ (x12_1 : Int) := of_decide_eq_true (by first | (with_reducible assumption) | assumption); have q177 : x12_1 < (y175.length : Int) := (by have h_ : (x12_1 : Int) < ((x0_1.length : Int) : Int) := of_decide_eq_true (by first | (with_reducible assumption) | assumption); first | (have e_ := (Kd.R_reads' HO_0.out).1; omega) | simpa only [Ny175.out, List.length_set] using h_); have ql177 : ((x12_1 : Int) < ((x0_1.length : Int) : Int)) = True := eq_true (of_decide_eq_true (by first | (with_reducible assumption) | assumption)); obtain ⟨ad177, e177, hx177_0, hx177_1, hx177_2⟩ := at_T33 (Kd.R_reads' HO_0.out).2.2 x12_1 p177 q177; obtain rfl : (⟨go6, 0, none⟩ : Addr) = ad177 := (by injection e177); (first | simp only [add_plain] at hx177_0 | simp only [add_at] at hx177_0 | simp only [Addr.add, Nat.zero_add] at hx177_0 | skip); (first | simp only [add_plain] at hx177_1 | simp only [add_at] at hx177_1 | simp only [Addr.add, Nat.zero_add] at hx177_1 | skip); (first | simp only [add_plain] at hx177_2 | simp only [add_at] at hx177_2 | simp only [Addr.add, Nat.zero_add] at hx177_2 | skip); replace p177 := eq_true p177; replace q177 := eq_true q177; have p178 : 0 ≤ (x12_1 : Int) := of_decide_eq_true (by first | (with_reducible assumption) | assumption); have q178 : x12_1 < (y175.length : Int) := (by have h_ : (x12_1 : Int) < ((x0_1.length : Int) : Int) := of_decide_eq_true (by first | (with_reducible assumption) | assumption); first | (have e_ := (Kd.R_reads' HO_0.out).1; omega) | simpa only [Ny175.out, List.length_set] using h_); have ql178 : ((x12_1 : Int) < ((x0_1.length : Int) : Int)) = True := eq_true (of_decide_eq_true (by first | (with_reducible assumption) | assumption)); obtain ⟨ad178, e178, hx178_0, hx178_1, hx178_2⟩ := at_T33 (Kd.R_reads' HO_0.out).2.2 x12_1 p178 q178; obtain rfl : (⟨go6, 0, none⟩ : Addr) = ad178 := (by injection e178); (first | simp only [add_plain] at hx178_0 | simp only [add_at] at hx178_0 | simp only [Addr.add, Nat.zero_add] at hx178_0 | skip); (first | simp only [add_plain] at hx178_1 | simp only [add_at] at hx178_1 | simp only [Addr.add, Nat.zero_add] at hx178_1 | skip); (first | simp only [add_plain] at hx178_2 | simp only [add_at] at hx178_2 | simp only [Addr.add, Nat.zero_add] at hx178_2 | skip); replace p178 := eq_true p178; replace q178 := eq_true q178; have p10 : 0 ≤ (x12_1 : Int) := of_decide_eq_true (by first | (with_reducible assumption) | assumption); have q10 : (x12_1 : Int) < ((x0_1.length : Int) : Int) := of_decide_eq_true (by first | (with_reducible assumption) | assumption); obtain ⟨ce10, hcl10, hM10, hcc10, hfr10⟩ := Kd.R_elem HO_0.out z33 (x12_1 : Int) p10 q10; obtain rfl := k33_openM hM10; have hx10_0 : w12.cell? ⟨go6, (x12_1 : Int).toNat * 3, none⟩ = some (.int .i64 ((rd_T33 y175 x12_1).f0)) := hcc10 0 _ rfl; have hx10_1 : w12.cell? ⟨go6, (x12_1 : Int).toNat * 3 + 1, none⟩ = some (.int .i64 ((rd_T33 y175 x12_1).f1)) := hcc10 1 _ rfl; have hx10_2 : w12.cell? ⟨go6, (x12_1 : Int).toNat * 3 + 2, none⟩ = some (.int .i64 ((rd_T33 y175 x12_1).f2)) := hcc10 2 _ rfl; have hf10_0 : w12.frozen? ⟨go6, (x12_1 : Int).toNat * 3, none⟩ = false := hfr10 0; have hf10_1 : w12.frozen? ⟨go6, (x12_1 : Int).toNat * 3 + 1, none⟩ = false := hfr10 1; have hf10_2 : w12.frozen? ⟨go6, (x12_1 : Int).toNat * 3 + 2, none⟩ = false := hfr10 2; clear hcl10 hcc10 hfr10 hM10; replace p10 := eq_true p10; replace q10 := eq_true q10; have HX13 := Aside0.mk (show Kd.R k33 33 w12 w0.heap.size (fun k_ => (P0_ k_ ∨ w.heap.size ≤ k_)) (.slice (some ⟨go6, 0, none⟩) x0_1.length co2) y175 from (by (with_reducible repeat (first | apply Kd.R_alloc | apply Kd.R_drewN | apply Kd.R_drew)); exact HO_0.out)); obtain ⟨ce13, hcl13, hM13, hcc13, hfr13⟩ := Kd.R_elem HX13.out z33 (x12_1 : Int) (of_decide_eq_true (by first | (with_reducible assumption) | assumption)) (by have h_ : (x12_1 : Int) < ((x0_1.length : Int) : Int) := of_decide_eq_true (by first | (with_reducible assumption) | assumption); first | exact h_ | (have e_ := (Kd.R_reads' HO_0.out).1; omega) | simpa using h_); obtain rfl := k33_openM hM13; have HP13 := Kd.R_seg HX13.out (x12_1 : Int) (of_decide_eq_true (by first | (with_reducible assumption) | assumption)) (by have h_ : (x12_1 : Int) < ((x0_1.length : Int) : Int) := of_decide_eq_true (by first | (with_reducible assumption) | assumption); first | exact h_ | (have e_ := (Kd.R_reads' HO_0.out).1; omega) | simpa using h_) (seg := [.int .i64 ((rd_T33 y175 x12_1).f0)]) (j := 2) hcl13 hcc13 (show 3 ≤ 3 from by decide) (x' := (⟨(rd_T33 y175 x12_1).f0, (rd_T33 y175 x12_1).f1, (rd_T33 y175 x12_1).f0⟩ : S33)) (k33_mkM _ _ _ (⟨(rd_T33 y175 x12_1).f0, (rd_T33 y175 x12_1).f1, (rd_T33 y175 x12_1).f0⟩ : S33) ) (fun _ hk => hk); have hx13_2 := hcc13 2 _ rfl; (try simp only [show (k33).sz = 3 from rfl, Nat.mul_one, Nat.add_zero] at hx13_2); have hf13_2 := hfr13 2; (try simp only [show (k33).sz = 3 from rfl, Nat.mul_one, Nat.add_zero] at hf13_2); clear hcl13 hcc13 hfr13 hM13) | ((with_reducible refine gate_store (t := 3) (p := 54) rfl ?_); (try (rw [drewN_self w12]; generalize hq_ : World.drewN w12 _ = w12; have n0_ := Aside0.mk (Kd.R_at hq_ HO_0.out); have n1_ := Aside0.mk (kept_at hq_ HK.out); have n2_ := Aside0.mk (below_at hq_ HB.out); clear hq_ HO_0 HK HB; have HO_0 := n0_; have HK := n1_; have HB := n2_; clear n0_ n1_ n2_; (try (have HX13 := Aside0.mk (show Kd.R k33 33 w12 w0.heap.size (fun k_ => (P0_ k_ ∨ w.heap.size ≤ k_)) (.slice (some ⟨go6, 0, none⟩) x0_1.length co2) y175 from (by (with_reducible repeat (first | apply Kd.R_alloc | apply Kd.R_drewN | apply Kd.R_drew)); exact HO_0.out)))); (try (obtain ⟨ce13, hcl13, hM13, hcc13, hfr13⟩ := Kd.R_elem HX13.out z33 (x12_1 : Int) (of_decide_eq_true (by first | (with_reducible assumption) | assumption)) (by have h_ : (x12_1 : Int) < ((x0_1.length : Int) : Int) := of_decide_eq_true (by first | (with_reducible assumption) | assumption); first | exact h_ | (have e_ := (Kd.R_reads' HO_0.out).1; omega) | simpa using h_))); (try (obtain rfl := k33_openM hM13)); (try (have HP13 := Kd.R_seg HX13.out (x12_1 : Int) (of_decide_eq_true (by first | (with_reducible assumption) | assumption)) (by have h_ : (x12_1 : Int) < ((x0_1.length : Int) : Int) := of_decide_eq_true (by first | (with_reducible assumption) | assumption); first | exact h_ | (have e_ := (Kd.R_reads' HO_0.out).1; omega) | simpa using h_) (seg := [.int .i64 ((rd_T33 y175 x12_1).f0)]) (j := 2) hcl13 hcc13 (show 3 ≤ 3 from by decide) (x' := (⟨(rd_T33 y175 x12_1).f0, (rd_T33 y175 x12_1).f1, (rd_T33 y175 x12_1).f0⟩ : S33)) (k33_mkM _ _ _ (⟨(rd_T33 y175 x12_1).f0, (rd_T33 y175 x12_1).f1, (rd_T33 y175 x12_1).f0⟩ : S33) ) (fun _ hk => hk))); (try (have hx13_2 := hcc13 2 _ rfl)); (try (try simp only [show (k33).sz = 3 from rfl, Nat.mul_one, Nat.add_zero] at hx13_2)); (try (have hf13_2 := hfr13 2)); (try (try simp only [show (k33).sz = 3 from rfl, Nat.mul_one, Nat.add_zero] at hf13_2)); (try (clear hcl13 hcc13 hfr13 hM13)))); refine store_event (t := 3) (p := 54) (v := ?vo_w14) (w1 := (w12.setCell ⟨go6, (x12_1 : Int).toNat * 3 + 2, none⟩ (.int .i64 ((rd_T33 y175 x12_1).f0)))) ?hg ?ho ?hn ?hr ?_; (case ho => rfl); (case hg => rfl); (case hn => rfl); (case hr => first | (go_simp; done) | (go_simp; rfl)); intro w14 hw; have hg : w12.grownBy w14 (some go6) := (by rw [hw]; exact HP13.2); have hp_ : Kd.R k33 33 w14 w0.heap.size (fun k_ => (P0_ k_ ∨ w.heap.size ≤ k_)) (.slice (some ⟨go6, 0, none⟩) x0_1.length co2) y179 := (by rw [hw, Ny179.out]; exact HP13.1); clear HP13; have n0_ := Aside0.mk (hp_); have n1_ := Aside0.mk ((by rw [hw]; exact below_set (HB.out) GB6.out : Below w0.heap.size w0 w14)); have n2_ := Aside0.mk (Kept.of_grown (S := (fun k_ => P0_ k_)) hg (by repeat (first | (with_reducible first | exact HK.out | apply Kept.alloc | apply Kept.drewN | apply Kept.drew) | exact HK.out)) (fun k_ e_ => (HO_0.out.1 k_ e_))); clear HO_0; clear HB; clear HK; have HO_0 := n0_; have HB := n1_; have HK := n2_; clear n0_ n1_ n2_; clear hg hw hp_))
              repeat (go_quiet (first | ((with_reducible refine gate_store (t := 3) (p := 36) rfl ?_); (try (rw [drewN_self wr]; generalize hq_ : World.drewN wr _ = wr; have n0_ := Aside0.mk (Kd.R_at hq_ HO_0.out); have n1_ := Aside0.mk (kept_at hq_ HK.out); have n2_ := Aside0.mk (below_at hq_ HB.out); clear hq_ HO_0 HK HB; have HO_0 := n0_; have HK := n1_; have HB := n2_; clear n0_ n1_ n2_; (try (have HX11 := Aside0.mk (show Kd.R k33 33 wr w0.heap.size (fun k_ => (P0_ k_ ∨ w.heap.size ≤ k_)) (.slice (some ⟨go6, 0, none⟩) x0_1.length co2) x0_1 from (by (with_reducible repeat (first | apply Kd.R_alloc | apply Kd.R_drewN | apply Kd.R_drew)); exact HO_0.out)))); (try (obtain ⟨ce11, hcl11, hM11, hcc11, hfr11⟩ := Kd.R_elem HX11.out z33 (x12_1 : Int) (of_decide_eq_true (by first | (with_reducible assumption) | assumption)) (by have h_ : (x12_1 : Int) < ((x0_1.length : Int) : Int) := of_decide_eq_true (by first | (with_reducible assumption) | assumption); first | exact h_ | (have e_ := (Kd.R_reads' HO_0.out).1; omega) | simpa using h_))); (try (obtain rfl := k33_openM hM11)); (try (have HP11 := Kd.R_seg HX11.out (x12_1 : Int) (of_decide_eq_true (by first | (with_reducible assumption) | assumption)) (by have h_ : (x12_1 : Int) < ((x0_1.length : Int) : Int) := of_decide_eq_true (by first | (with_reducible assumption) | assumption); first | exact h_ | (have e_ := (Kd.R_reads' HO_0.out).1; omega) | simpa using h_) (seg := [.int .i64 (wrap64 (((rd_T33 x0_1 x12_1).f2) + (wrap64 (x5_1 - (ji7)))))]) (j := 2) hcl11 hcc11 (show 3 ≤ 3 from by decide) (x' := (⟨(rd_T33 x0_1 x12_1).f0, (rd_T33 x0_1 x12_1).f1, wrap64 (((rd_T33 x0_1 x12_1).f2) + (wrap64 (x5_1 - (ji7))))⟩ : S33)) (k33_mkM _ _ _ (⟨(rd_T33 x0_1 x12_1).f0, (rd_T33 x0_1 x12_1).f1, wrap64 (((rd_T33 x0_1 x12_1).f2) + (wrap64 (x5_1 - (ji7))))⟩ : S33) ) (fun _ hk => hk))); (try (have hx11_2 := hcc11 2 _ rfl)); (try (try simp only [show (k33).sz = 3 from rfl, Nat.mul_one, Nat.add_zero] at hx11_2)); (try (have hf11_2 := hfr11 2)); (try (try simp only [show (k33).sz = 3 from rfl, Nat.mul_one, Nat.add_zero] at hf11_2)); (try (clear hcl11 hcc11 hfr11 hM11)))); refine store_event (t := 3) (p := 36) (v := ?vo_w12) (w1 := (wr.setCell ⟨go6, (x12_1 : Int).toNat * 3 + 2, none⟩ (.int .i64 (wrap64 (((rd_T33 x0_1 x12_1).f2) + (wrap64 (x5_1 - (ji7)))))))) ?hg ?ho ?hn ?hr ?_; (case ho => rfl); (case hg => rfl); (case hn => rfl); (case hr => first | (go_simp; done) | (go_simp; rfl)); intro w12 hw; have hg : wr.grownBy w12 (some go6) := (by rw [hw]; exact HP11.2); have hp_ : Kd.R k33 33 w12 w0.heap.size (fun k_ => (P0_ k_ ∨ w.heap.size ≤ k_)) (.slice (some ⟨go6, 0, none⟩) x0_1.length co2) y175 := (by rw [hw, Ny175.out]; exact HP11.1); clear HP11; have n0_ := Aside0.mk (hp_); have n1_ := Aside0.mk ((by rw [hw]; exact below_set (HB.out) GB6.out : Below w0.heap.size w0 w12)); have n2_ := Aside0.mk (Kept.of_grown (S := (fun k_ => P0_ k_)) hg (by repeat (first | (with_reducible first | exact HK.out | apply Kept.alloc | apply Kept.drewN | apply Kept.drew) | exact HK.out)) (fun k_ e_ => (HO_0.out.1 k_ e_))); clear HO_0; clear HB; clear HK; have HO_0 := n0_; have HB := n1_; have HK := n2_; clear n0_ n1_ n2_; clear hg hw hp_; have p176 : 0 ≤ (x12_1 : Int) := of_decide_eq_true (by first | (with_reducible assumption) | assumption); have q176 : x12_1 < (y175.length : Int) := (by have h_ : (x12_1 : Int) < ((x0_1.length : Int) : Int) := of_decide_eq_true (by first | (with_reducible assumption) | assumption); first | (have e_ := (Kd.R_reads' HO_0.out).1; omega) | simpa only [Ny175.out, List.length_set] using h_); have ql176 : ((x12_1 : Int) < ((x0_1.length : Int) : Int)) = True := eq_true (of_decide_eq_true (by first | (with_reducible assumption) | assumption)); obtain ⟨ad176, e176, hx176_0, hx176_1, hx176_2⟩ := at_T33 (Kd.R_reads' HO_0.out).2.2 x12_1 p176 q176; obtain rfl : (⟨go6, 0, none⟩ : Addr) = ad176 := (by injection e176); (first | simp only [add_plain] at hx176_0 | simp only [add_at] at hx176_0 | simp only [Addr.add, Nat.zero_add] at hx176_0 | skip); (first | simp only [add_plain] at hx176_1 | simp only [add_at] at hx176_1 | simp only [Addr.add, Nat.zero_add] at hx176_1 | skip); (first | simp only [add_plain] at hx176_2 | simp only [add_at] at hx176_2 | simp only [Addr.add, Nat.zero_add] at hx176_2 | skip); replace p176 := eq_true p176; replace q176 := eq_true q176; have p177 : 0 ≤ (x12_1 : Int) := of_decide_eq_true (by first | (with_reducible assumption) | assumption); have q177 : x12_1 < (y175.length : Int) := (by have h_ : (x12_1 : Int) < ((x0_1.length : Int) : Int) := of_decide_eq_true (by first | (with_reducible assumption) | assumption); first | (have e_ := (Kd.R_reads' HO_0.out).1; omega) | simpa only [Ny175.out, List.length_set] using h_); have ql177 : ((x12_1 : Int) < ((x0_1.length : Int) : Int)) = True := eq_true (of_decide_eq_true (by first | (with_reducible assumption) | assumption)); obtain ⟨ad177, e177, hx177_0, hx177_1, hx177_2⟩ := at_T33 (Kd.R_reads' HO_0.out).2.2 x12_1 p177 q177; obtain rfl : (⟨go6, 0, none⟩ : Addr) = ad177 := (by injection e177); (first | simp only [add_plain] at hx177_0 | simp only [add_at] at hx177_0 | simp only [Addr.add, Nat.zero_add] at hx177_0 | skip); (first | simp only [add_plain] at hx177_1 | simp only [add_at] at hx177_1 | simp only [Addr.add, Nat.zero_add] at hx177_1 | skip); (first | simp only [add_plain] at hx177_2 | simp only [add_at] at hx177_2 | simp only [Addr.add, Nat.zero_add] at hx177_2 | skip); replace p177 := eq_true p177; replace q177 := eq_true q177; have p178 : 0 ≤ (x12_1 : Int) := of_decide_eq_true (by first | (with_reducible assumption) | assumption); have q178 : x12_1 < (y175.length : Int) := (by have h_ : (x12_1 : Int) < ((x0_1.length : Int) : Int) := of_decide_eq_true (by first | (with_reducible assumption) | assumption); first | (have e_ := (Kd.R_reads' HO_0.out).1; omega) | simpa only [Ny175.out, List.length_set] using h_); have ql178 : ((x12_1 : Int) < ((x0_1.length : Int) : Int)) = True := eq_true (of_decide_eq_true (by first | (with_reducible assumption) | assumption)); obtain ⟨ad178, e178, hx178_0, hx178_1, hx178_2⟩ := at_T33 (Kd.R_reads' HO_0.out).2.2 x12_1 p178 q178; obtain rfl : (⟨go6, 0, none⟩ : Addr) = ad178 := (by injection e178); (first | simp only [add_plain] at hx178_0 | simp only [add_at] at hx178_0 | simp only [Addr.add, Nat.zero_add] at hx178_0 | skip); (first | simp only [add_plain] at hx178_1 | simp only [add_at] at hx178_1 | simp only [Addr.add, Nat.zero_add] at hx178_1 | skip); (first | simp only [add_plain] at hx178_2 | simp only [add_at] at hx178_2 | simp only [Addr.add, Nat.zero_add] at hx178_2 | skip); replace p178 := eq_true p178; replace q178 := eq_true q178; have p10 : 0 ≤ (x12_1 : Int) := of_decide_eq_true (by first | (with_reducible assumption) | assumption); have q10 : (x12_1 : Int) < ((x0_1.length : Int) : Int) := of_decide_eq_true (by first | (with_reducible assumption) | assumption); obtain ⟨ce10, hcl10, hM10, hcc10, hfr10⟩ := Kd.R_elem HO_0.out z33 (x12_1 : Int) p10 q10; obtain rfl := k33_openM hM10; have hx10_0 : w12.cell? ⟨go6, (x12_1 : Int).toNat * 3, none⟩ = some (.int .i64 ((rd_T33 y175 x12_1).f0)) := hcc10 0 _ rfl; have hx10_1 : w12.cell? ⟨go6, (x12_1 : Int).toNat * 3 + 1, none⟩ = some (.int .i64 ((rd_T33 y175 x12_1).f1)) := hcc10 1 _ rfl; have hx10_2 : w12.cell? ⟨go6, (x12_1 : Int).toNat * 3 + 2, none⟩ = some (.int .i64 ((rd_T33 y175 x12_1).f2)) := hcc10 2 _ rfl; have hf10_0 : w12.frozen? ⟨go6, (x12_1 : Int).toNat * 3, none⟩ = false := hfr10 0; have hf10_1 : w12.frozen? ⟨go6, (x12_1 : Int).toNat * 3 + 1, none⟩ = false := hfr10 1; have hf10_2 : w12.frozen? ⟨go6, (x12_1 : Int).toNat * 3 + 2, none⟩ = false := hfr10 2; clear hcl10 hcc10 hfr10 hM10; replace p10 := eq_true p10; replace q10 := eq_true q10; have HX13 := Aside0.mk (show Kd.R k33 33 w12 w0.heap.size (fun k_ => (P0_ k_ ∨ w.heap.size ≤ k_)) (.slice (some ⟨go6, 0, none⟩) x0_1.length co2) y175 from (by (with_reducible repeat (first | apply Kd.R_alloc | apply Kd.R_drewN | apply Kd.R_drew)); exact HO_0.out)); obtain ⟨ce13, hcl13, hM13, hcc13, hfr13⟩ := Kd.R_elem HX13.out z33 (x12_1 : Int) (of_decide_eq_true (by first | (with_reducible assumption) | assumption)) (by have h_ : (x12_1 : Int) < ((x0_1.length : Int) : Int) := of_decide_eq_true (by first | (with_reducible assumption) | assumption); first | exact h_ | (have e_ := (Kd.R_reads' HO_0.out).1; omega) | simpa using h_); obtain rfl := k33_openM hM13; have HP13 := Kd.R_seg HX13.out (x12_1 : Int) (of_decide_eq_true (by first | (with_reducible assumption) | assumption)) (by have h_ : (x12_1 : Int) < ((x0_1.length : Int) : Int) := of_decide_eq_true (by first | (with_reducible assumption) | assumption); first | exact h_ | (have e_ := (Kd.R_reads' HO_0.out).1; omega) | simpa using h_) (seg := [.int .i64 ((rd_T33 y175 x12_1).f0)]) (j := 2) hcl13 hcc13 (show 3 ≤ 3 from by decide) (x' := (⟨(rd_T33 y175 x12_1).f0, (rd_T33 y175 x12_1).f1, (rd_T33 y175 x12_1).f0⟩ : S33)) (k33_mkM _ _ _ (⟨(rd_T33 y175 x12_1).f0, (rd_T33 y175 x12_1).f1, (rd_T33 y175 x12_1).f0⟩ : S33) ) (fun _ hk => hk); have hx13_2 := hcc13 2 _ rfl; (try simp only [show (k33).sz = 3 from rfl, Nat.mul_one, Nat.add_zero] at hx13_2); have hf13_2 := hfr13 2; (try simp only [show (k33).sz = 3 from rfl, Nat.mul_one, Nat.add_zero] at hf13_2); clear hcl13 hcc13 hfr13 hM13) | ((with_reducible refine gate_store (t := 3) (p := 54) rfl ?_); (try (rw [drewN_self w12]; generalize hq_ : World.drewN w12 _ = w12; have n0_ := Aside0.mk (Kd.R_at hq_ HO_0.out); have n1_ := Aside0.mk (kept_at hq_ HK.out); have n2_ := Aside0.mk (below_at hq_ HB.out); clear hq_ HO_0 HK HB; have HO_0 := n0_; have HK := n1_; have HB := n2_; clear n0_ n1_ n2_; (try (have HX13 := Aside0.mk (show Kd.R k33 33 w12 w0.heap.size (fun k_ => (P0_ k_ ∨ w.heap.size ≤ k_)) (.slice (some ⟨go6, 0, none⟩) x0_1.length co2) y175 from (by (with_reducible repeat (first | apply Kd.R_alloc | apply Kd.R_drewN | apply Kd.R_drew)); exact HO_0.out)))); (try (obtain ⟨ce13, hcl13, hM13, hcc13, hfr13⟩ := Kd.R_elem HX13.out z33 (x12_1 : Int) (of_decide_eq_true (by first | (with_reducible assumption) | assumption)) (by have h_ : (x12_1 : Int) < ((x0_1.length : Int) : Int) := of_decide_eq_true (by first | (with_reducible assumption) | assumption); first | exact h_ | (have e_ := (Kd.R_reads' HO_0.out).1; omega) | simpa using h_))); (try (obtain rfl := k33_openM hM13)); (try (have HP13 := Kd.R_seg HX13.out (x12_1 : Int) (of_decide_eq_true (by first | (with_reducible assumption) | assumption)) (by have h_ : (x12_1 : Int) < ((x0_1.length : Int) : Int) := of_decide_eq_true (by first | (with_reducible assumption) | assumption); first | exact h_ | (have e_ := (Kd.R_reads' HO_0.out).1; omega) | simpa using h_) (seg := [.int .i64 ((rd_T33 y175 x12_1).f0)]) (j := 2) hcl13 hcc13 (show 3 ≤ 3 from by decide) (x' := (⟨(rd_T33 y175 x12_1).f0, (rd_T33 y175 x12_1).f1, (rd_T33 y175 x12_1).f0⟩ : S33)) (k33_mkM _ _ _ (⟨(rd_T33 y175 x12_1).f0, (rd_T33 y175 x12_1).f1, (rd_T33 y175 x12_1).f0⟩ : S33) ) (fun _ hk => hk))); (try (have hx13_2 := hcc13 2 _ rfl)); (try (try simp only [show (k33).sz = 3 from rfl, Nat.mul_one, Nat.add_zero] at hx13_2)); (try (have hf13_2 := hfr13 2)); (try (try simp only [show (k33).sz = 3 from rfl, Nat.mul_one, Nat.add_zero] at hf13_2)); (try (clear hcl13 hcc13 hfr13 hM13)))); refine store_event (t := 3) (p := 54) (v := ?vo_w14) (w1 := (w12.setCell ⟨go6, (x12_1 : Int).toNat * 3 + 2, none⟩ (.int .i64 ((rd_T33 y175 x12_1).f0)))) ?hg ?ho ?hn ?hr ?_; (case ho => rfl); (case hg => rfl); (case hn => rfl); (case hr => first | (go_simp; done) | (go_simp; rfl)); intro w14 hw; have hg : w12.grownBy w14 (some go6) := (by rw [hw]; exact HP13.2); have hp_ : Kd.R k33 33 w14 w0.heap.size (fun k_ => (P0_ k_ ∨ w.heap.size ≤ k_)) (.slice (some ⟨go6, 0, none⟩) x0_1.length co2) y179 := (by rw [hw, Ny179.out]; exact HP13.1); clear HP13; have n0_ := Aside0.mk (hp_); have n1_ := Aside0.mk ((by rw [hw]; exact below_set (HB.out) GB6.out : Below w0.heap.size w0 w14)); have n2_ := Aside0.mk (Kept.of_grown (S := (fun k_ => P0_ k_)) hg (by repeat (first | (with_reducible first | exact HK.out | apply Kept.alloc | apply Kept.drewN | apply Kept.drew) | exact HK.out)) (fun k_ e_ => (HO_0.out.1 k_ e_))); clear HO_0; clear HB; clear HK; have HO_0 := n0_; have HB := n1_; have HK := n2_; clear n0_ n1_ n2_; clear hg hw hp_)); try go_wp2_with (first | ((with_reducible refine gate_store (t := 3) (p := 36) rfl ?_); (try (rw [drewN_self wr]; generalize hq_ : World.drewN wr _ = wr; have n0_ := Aside0.mk (Kd.R_at hq_ HO_0.out); have n1_ := Aside0.mk (kept_at hq_ HK.out); have n2_ := Aside0.mk (below_at hq_ HB.out); clear hq_ HO_0 HK HB; have HO_0 := n0_; have HK := n1_; have HB := n2_; clear n0_ n1_ n2_; (try (have HX11 := Aside0.mk (show Kd.R k33 33 wr w0.heap.size (fun k_ => (P0_ k_ ∨ w.heap.size ≤ k_)) (.slice (some ⟨go6, 0, none⟩) x0_1.length co2) x0_1 from (by (with_reducible repeat (first | apply Kd.R_alloc | apply Kd.R_drewN | apply Kd.R_drew)); exact HO_0.out)))); (try (obtain ⟨ce11, hcl11, hM11, hcc11, hfr11⟩ := Kd.R_elem HX11.out z33 (x12_1 : Int) (of_decide_eq_true (by first | (with_reducible assumption) | assumption)) (by have h_ : (x12_1 : Int) < ((x0_1.length : Int) : Int) := of_decide_eq_true (by first | (with_reducible assumption) | assumption); first | exact h_ | (have e_ := (Kd.R_reads' HO_0.out).1; omega) | simpa using h_))); (try (obtain rfl := k33_openM hM11)); (try (have HP11 := Kd.R_seg HX11.out (x12_1 : Int) (of_decide_eq_true (by first | (with_reducible assumption) | assumption)) (by have h_ : (x12_1 : Int) < ((x0_1.length : Int) : Int) := of_decide_eq_true (by first | (with_reducible assumption) | assumption); first | exact h_ | (have e_ := (Kd.R_reads' HO_0.out).1; omega) | simpa using h_) (seg := [.int .i64 (wrap64 (((rd_T33 x0_1 x12_1).f2) + (wrap64 (x5_1 - (ji7)))))]) (j := 2) hcl11 hcc11 (show 3 ≤ 3 from by decide) (x' := (⟨(rd_T33 x0_1 x12_1).f0, (rd_T33 x0_1 x12_1).f1, wrap64 (((rd_T33 x0_1 x12_1).f2) + (wrap64 (x5_1 - (ji7))))⟩ : S33)) (k33_mkM _ _ _ (⟨(rd_T33 x0_1 x12_1).f0, (rd_T33 x0_1 x12_1).f1, wrap64 (((rd_T33 x0_1 x12_1).f2) + (wrap64 (x5_1 - (ji7))))⟩ : S33) ) (fun _ hk => hk))); (try (have hx11_2 := hcc11 2 _ rfl)); (try (try simp only [show (k33).sz = 3 from rfl, Nat.mul_one, Nat.add_zero] at hx11_2)); (try (have hf11_2 := hfr11 2)); (try (try simp only [show (k33).sz = 3 from rfl, Nat.mul_one, Nat.add_zero] at hf11_2)); (try (clear hcl11 hcc11 hfr11 hM11)))); refine store_event (t := 3) (p := 36) (v := ?vo_w12) (w1 := (wr.setCell ⟨go6, (x12_1 : Int).toNat * 3 + 2, none⟩ (.int .i64 (wrap64 (((rd_T33 x0_1 x12_1).f2) + (wrap64 (x5_1 - (ji7)))))))) ?hg ?ho ?hn ?hr ?_; (case ho => rfl); (case hg => rfl); (case hn => rfl); (case hr => first | (go_simp; done) | (go_simp; rfl)); intro w12 hw; have hg : wr.grownBy w12 (some go6) := (by rw [hw]; exact HP11.2); have hp_ : Kd.R k33 33 w12 w0.heap.size (fun k_ => (P0_ k_ ∨ w.heap.size ≤ k_)) (.slice (some ⟨go6, 0, none⟩) x0_1.length co2) y175 := (by rw [hw, Ny175.out]; exact HP11.1); clear HP11; have n0_ := Aside0.mk (hp_); have n1_ := Aside0.mk ((by rw [hw]; exact below_set (HB.out) GB6.out : Below w0.heap.size w0 w12)); have n2_ := Aside0.mk (Kept.of_grown (S := (fun k_ => P0_ k_)) hg (by repeat (first | (with_reducible first | exact HK.out | apply Kept.alloc | apply Kept.drewN | apply Kept.drew) | exact HK.out)) (fun k_ e_ => (HO_0.out.1 k_ e_))); clear HO_0; clear HB; clear HK; have HO_0 := n0_; have HB := n1_; have HK := n2_; clear n0_ n1_ n2_; clear hg hw hp_; have p176 : 0 ≤ (x12_1 : Int) := of_decide_eq_true (by first | (with_reducible assumption) | assumption); have q176 : x12_1 < (y175.length : Int) := (by have h_ : (x12_1 : Int) < ((x0_1.length : Int) : Int) := of_decide_eq_true (by first | (with_reducible assumption) | assumption); first | (have e_ := (Kd.R_reads' HO_0.out).1; omega) | simpa only [Ny175.out, List.length_set] using h_); have ql176 : ((x12_1 : Int) < ((x0_1.length : Int) : Int)) = True := eq_true (of_decide_eq_true (by first | (with_reducible assumption) | assumption)); obtain ⟨ad176, e176, hx176_0, hx176_1, hx176_2⟩ := at_T33 (Kd.R_reads' HO_0.out).2.2 x12_1 p176 q176; obtain rfl : (⟨go6, 0, none⟩ : Addr) = ad176 := (by injection e176); (first | simp only [add_plain] at hx176_0 | simp only [add_at] at hx176_0 | simp only [Addr.add, Nat.zero_add] at hx176_0 | skip); (first | simp only [add_plain] at hx176_1 | simp only [add_at] at hx176_1 | simp only [Addr.add, Nat.zero_add] at hx176_1 | skip); (first | simp only [add_plain] at hx176_2 | simp only [add_at] at hx176_2 | simp only [Addr.add, Nat.zero_add] at hx176_2 | skip); replace p176 := eq_true p176; replace q176 := eq_true q176; have p177 : 0 ≤ (x12_1 : Int) := of_decide_eq_true (by first | (with_reducible assumption) | assumption); have q177 : x12_1 < (y175.length : Int) := (by have h_ : (x12_1 : Int) < ((x0_1.length : Int) : Int) := of_decide_eq_true (by first | (with_reducible assumption) | assumption); first | (have e_ := (Kd.R_reads' HO_0.out).1; omega) | simpa only [Ny175.out, List.length_set] using h_); have ql177 : ((x12_1 : Int) < ((x0_1.length : Int) : Int)) = True := eq_true (of_decide_eq_true (by first | (with_reducible assumption) | assumption)); obtain ⟨ad177, e177, hx177_0, hx177_1, hx177_2⟩ := at_T33 (Kd.R_reads' HO_0.out).2.2 x12_1 p177 q177; obtain rfl : (⟨go6, 0, none⟩ : Addr) = ad177 := (by injection e177); (first | simp only [add_plain] at hx177_0 | simp only [add_at] at hx177_0 | simp only [Addr.add, Nat.zero_add] at hx177_0 | skip); (first | simp only [add_plain] at hx177_1 | simp only [add_at] at hx177_1 | simp only [Addr.add, Nat.zero_add] at hx177_1 | skip); (first | simp only [add_plain] at hx177_2 | simp only [add_at] at hx177_2 | simp only [Addr.add, Nat.zero_add] at hx177_2 | skip); replace p177 := eq_true p177; replace q177 := eq_true q177; have p178 : 0 ≤ (x12_1 : Int) := of_decide_eq_true (by first | (with_reducible assumption) | assumption); have q178 : x12_1 < (y175.length : Int) := (by have h_ : (x12_1 : Int) < ((x0_1.length : Int) : Int) := of_decide_eq_true (by first | (with_reducible assumption) | assumption); first | (have e_ := (Kd.R_reads' HO_0.out).1; omega) | simpa only [Ny175.out, List.length_set] using h_); have ql178 : ((x12_1 : Int) < ((x0_1.length : Int) : Int)) = True := eq_true (of_decide_eq_true (by first | (with_reducible assumption) | assumption)); obtain ⟨ad178, e178, hx178_0, hx178_1, hx178_2⟩ := at_T33 (Kd.R_reads' HO_0.out).2.2 x12_1 p178 q178; obtain rfl : (⟨go6, 0, none⟩ : Addr) = ad178 := (by injection e178); (first | simp only [add_plain] at hx178_0 | simp only [add_at] at hx178_0 | simp only [Addr.add, Nat.zero_add] at hx178_0 | skip); (first | simp only [add_plain] at hx178_1 | simp only [add_at] at hx178_1 | simp only [Addr.add, Nat.zero_add] at hx178_1 | skip); (first | simp only [add_plain] at hx178_2 | simp only [add_at] at hx178_2 | simp only [Addr.add, Nat.zero_add] at hx178_2 | skip); replace p178 := eq_true p178; replace q178 := eq_true q178; have p10 : 0 ≤ (x12_1 : Int) := of_decide_eq_true (by first | (with_reducible assumption) | assumption); have q10 : (x12_1 : Int) < ((x0_1.length : Int) : Int) := of_decide_eq_true (by first | (with_reducible assumption) | assumption); obtain ⟨ce10, hcl10, hM10, hcc10, hfr10⟩ := Kd.R_elem HO_0.out z33 (x12_1 : Int) p10 q10; obtain rfl := k33_openM hM10; have hx10_0 : w12.cell? ⟨go6, (x12_1 : Int).toNat * 3, none⟩ = some (.int .i64 ((rd_T33 y175 x12_1).f0)) := hcc10 0 _ rfl; have hx10_1 : w12.cell? ⟨go6, (x12_1 : Int).toNat * 3 + 1, none⟩ = some (.int .i64 ((rd_T33 y175 x12_1).f1)) := hcc10 1 _ rfl; have hx10_2 : w12.cell? ⟨go6, (x12_1 : Int).toNat * 3 + 2, none⟩ = some (.int .i64 ((rd_T33 y175 x12_1).f2)) := hcc10 2 _ rfl; have hf10_0 : w12.frozen? ⟨go6, (x12_1 : Int).toNat * 3, none⟩ = false := hfr10 0; have hf10_1 : w12.frozen? ⟨go6, (x12_1 : Int).toNat * 3 + 1, none⟩ = false := hfr10 1; have hf10_2 : w12.frozen? ⟨go6, (x12_1 : Int).toNat * 3 + 2, none⟩ = false := hfr10 2; clear hcl10 hcc10 hfr10 hM10; replace p10 := eq_true p10; replace q10 := eq_true q10; have HX13 := Aside0.mk (show Kd.R k33 33 w12 w0.heap.size (fun k_ => (P0_ k_ ∨ w.heap.size ≤ k_)) (.slice (some ⟨go6, 0, none⟩) x0_1.length co2) y175 from (by (with_reducible repeat (first | apply Kd.R_alloc | apply Kd.R_drewN | apply Kd.R_drew)); exact HO_0.out)); obtain ⟨ce13, hcl13, hM13, hcc13, hfr13⟩ := Kd.R_elem HX13.out z33 (x12_1 : Int) (of_decide_eq_true (by first | (with_reducible assumption) | assumption)) (by have h_ : (x12_1 : Int) < ((x0_1.length : Int) : Int) := of_decide_eq_true (by first | (with_reducible assumption) | assumption); first | exact h_ | (have e_ := (Kd.R_reads' HO_0.out).1; omega) | simpa using h_); obtain rfl := k33_openM hM13; have HP13 := Kd.R_seg HX13.out (x12_1 : Int) (of_decide_eq_true (by first | (with_reducible assumption) | assumption)) (by have h_ : (x12_1 : Int) < ((x0_1.length : Int) : Int) := of_decide_eq_true (by first | (with_reducible assumption) | assumption); first | exact h_ | (have e_ := (Kd.R_reads' HO_0.out).1; omega) | simpa using h_) (seg := [.int .i64 ((rd_T33 y175 x12_1).f0)]) (j := 2) hcl13 hcc13 (show 3 ≤ 3 from by decide) (x' := (⟨(rd_T33 y175 x12_1).f0, (rd_T33 y175 x12_1).f1, (rd_T33 y175 x12_1).f0⟩ : S33)) (k33_mkM _ _ _ (⟨(rd_T33 y175 x12_1).f0, (rd_T33 y175 x12_1).f1, (rd_T33 y175 x12_1).f0⟩ : S33) ) (fun _ hk => hk); have hx13_2 := hcc13 2 _ rfl; (try simp only [show (k33).sz = 3 from rfl, Nat.mul_one, Nat.add_zero] at hx13_2); have hf13_2 := hfr13 2; (try simp only [show (k33).sz = 3 from rfl, Nat.mul_one, Nat.add_zero] at hf13_2); clear hcl13 hcc13 hfr13 hM13) | ((with_reducible refine gate_store (t := 3) (p := 54) rfl ?_); (try (rw [drewN_self w12]; generalize hq_ : World.drewN w12 _ = w12; have n0_ := Aside0.mk (Kd.R_at hq_ HO_0.out); have n1_ := Aside0.mk (kept_at hq_ HK.out); have n2_ := Aside0.mk (below_at hq_ HB.out); clear hq_ HO_0 HK HB; have HO_0 := n0_; have HK := n1_; have HB := n2_; clear n0_ n1_ n2_; (try (have HX13 := Aside0.mk (show Kd.R k33 33 w12 w0.heap.size (fun k_ => (P0_ k_ ∨ w.heap.size ≤ k_)) (.slice (some ⟨go6, 0, none⟩) x0_1.length co2) y175 from (by (with_reducible repeat (first | apply Kd.R_alloc | apply Kd.R_drewN | apply Kd.R_drew)); exact HO_0.out)))); (try (obtain ⟨ce13, hcl13, hM13, hcc13, hfr13⟩ := Kd.R_elem HX13.out z33 (x12_1 : Int) (of_decide_eq_true (by first | (with_reducible assumption) | assumption)) (by have h_ : (x12_1 : Int) < ((x0_1.length : Int) : Int) := of_decide_eq_true (by first | (with_reducible assumption) | assumption); first | exact h_ | (have e_ := (Kd.R_reads' HO_0.out).1; omega) | simpa using h_))); (try (obtain rfl := k33_openM hM13)); (try (have HP13 := Kd.R_seg HX13.out (x12_1 : Int) (of_decide_eq_true (by first | (with_reducible assumption) | assumption)) (by have h_ : (x12_1 : Int) < ((x0_1.length : Int) : Int) := of_decide_eq_true (by first | (with_reducible assumption) | assumption); first | exact h_ | (have e_ := (Kd.R_reads' HO_0.out).1; omega) | simpa using h_) (seg := [.int .i64 ((rd_T33 y175 x12_1).f0)]) (j := 2) hcl13 hcc13 (show 3 ≤ 3 from by decide) (x' := (⟨(rd_T33 y175 x12_1).f0, (rd_T33 y175 x12_1).f1, (rd_T33 y175 x12_1).f0⟩ : S33)) (k33_mkM _ _ _ (⟨(rd_T33 y175 x12_1).f0, (rd_T33 y175 x12_1).f1, (rd_T33 y175 x12_1).f0⟩ : S33) ) (fun _ hk => hk))); (try (have hx13_2 := hcc13 2 _ rfl)); (try (try simp only [show (k33).sz = 3 from rfl, Nat.mul_one, Nat.add_zero] at hx13_2)); (try (have hf13_2 := hfr13 2)); (try (try simp only [show (k33).sz = 3 from rfl, Nat.mul_one, Nat.add_zero] at hf13_2)); (try (clear hcl13 hcc13 hfr13 hM13)))); refine store_event (t := 3) (p := 54) (v := ?vo_w14) (w1 := (w12.setCell ⟨go6, (x12_1 : Int).toNat * 3 + 2, none⟩ (.int .i64 ((rd_T33 y175 x12_1).f0)))) ?hg ?ho ?hn ?hr ?_; (case ho => rfl); (case hg => rfl); (case hn => rfl); (case hr => first | (go_simp; done) | (go_simp; rfl)); intro w14 hw; have hg : w12.grownBy w14 (some go6) := (by rw [hw]; exact HP13.2); have hp_ : Kd.R k33 33 w14 w0.heap.size (fun k_ => (P0_ k_ ∨ w.heap.size ≤ k_)) (.slice (some ⟨go6, 0, none⟩) x0_1.length co2) y179 := (by rw [hw, Ny179.out]; exact HP13.1); clear HP13; have n0_ := Aside0.mk (hp_); have n1_ := Aside0.mk ((by rw [hw]; exact below_set (HB.out) GB6.out : Below w0.heap.size w0 w14)); have n2_ := Aside0.mk (Kept.of_grown (S := (fun k_ => P0_ k_)) hg (by repeat (first | (with_reducible first | exact HK.out | apply Kept.alloc | apply Kept.drewN | apply Kept.drew) | exact HK.out)) (fun k_ e_ => (HO_0.out.1 k_ e_))); clear HO_0; clear HB; clear HK; have HO_0 := n0_; have HB := n1_; have HK := n2_; clear n0_ n1_ n2_; clear hg hw hp_)))
              (try simp only [← hl0_1])
              go_roundg k1
              case measure => have := HK1.out; omega
              case rel => exact ⟨(y179), (wrap64 (x4_1 + (wrap64 (((rd_T33 y175 x12_1).f2) - ((rd_T33 y175 x12_1).f0))))), (ji7), (wrap64 (x12_1 + 1)), (by first | rfl | (simp; done) | (simp [*]; done)), (by first | rfl | (simp; done) | (simp only [← hji7] <;> (first | rfl | simp)) | (simp [*]; done)), (by first | rfl | (simp; done) | (simp [*]; done)), H', ⟨by have := HK1.out; omega⟩, ⟨by (try simp only [hl0_1]); (with_reducible repeat (first | apply Kd.R_alloc | apply Kd.R_drewN | apply Kd.R_drew)); exact HO_0.out⟩, ⟨by repeat (first | (with_reducible first | exact HK.out | apply Kept.alloc | apply Kept.drewN | apply Kept.drew) | exact HK.out)⟩, ⟨by repeat (first | (with_reducible first | exact HB.out | apply below_alloc | apply pw_below_drewN | apply below_drew1) | exact HB.out)⟩⟩
            · rw [if_neg c9] at H
              have c9b0 : decide (0 < (wrap64 (((rd_T33 y175 x12_1).f2) - ((rd_T33 y175 x12_1).f0)))) = false := decide_eq_false c9
              clear c9
              have H' := Aside0.mk H
              clear H
              have p6 : 0 ≤ (x12_1 : Int) := of_decide_eq_true (by first | (with_reducible assumption) | assumption)
              have q6 : (x12_1 : Int) < ((x0_1.length : Int) : Int) := of_decide_eq_true (by first | (with_reducible assumption) | assumption)
              obtain ⟨go6, co6, eo6, gb6, gl6, cl6, HG6⟩ := Kd.R_form HO_0.out (by omega)
              (first | cases eo6 | (injection eo6 with ea_ en_ ec_; (first | subst ea_ | (injection ea_ with ea_; subst ea_)); subst ec_; clear en_))
              have GB6 := Aside0.mk gb6
              have GG6 := Aside0.mk HG6
              clear gb6 gl6 HG6
              have HMgo6 := Aside0.mk (show (P0_ go6 ∨ w.heap.size ≤ go6) from (HO_0.out.1 _ rfl))
              obtain ⟨ce6, hcl6, hM6, hcc6, hfr6⟩ := Kd.R_elem HO_0.out z33 (x12_1 : Int) p6 q6
              obtain rfl := k33_openM hM6
              have hx6_0 : wr.cell? ⟨go6, (x12_1 : Int).toNat * 3, none⟩ = some (.int .i64 ((rd_T33 x0_1 x12_1).f0)) := hcc6 0 _ rfl
              have hx6_1 : wr.cell? ⟨go6, (x12_1 : Int).toNat * 3 + 1, none⟩ = some (.int .i64 ((rd_T33 x0_1 x12_1).f1)) := hcc6 1 _ rfl
              have hx6_2 : wr.cell? ⟨go6, (x12_1 : Int).toNat * 3 + 2, none⟩ = some (.int .i64 ((rd_T33 x0_1 x12_1).f2)) := hcc6 2 _ rfl
              have hf6_0 : wr.frozen? ⟨go6, (x12_1 : Int).toNat * 3, none⟩ = false := hfr6 0
              have hf6_1 : wr.frozen? ⟨go6, (x12_1 : Int).toNat * 3 + 1, none⟩ = false := hfr6 1
              have hf6_2 : wr.frozen? ⟨go6, (x12_1 : Int).toNat * 3 + 2, none⟩ = false := hfr6 2
              clear hcl6 hcc6 hfr6 hM6
              replace p6 := eq_true p6
              replace q6 := eq_true q6
              have p172 : 0 ≤ (x12_1 : Int) := of_decide_eq_true (by first | (with_reducible assumption) | assumption)
              have q172 : x12_1 < (x0_1.length : Int) := of_decide_eq_true (by first | (with_reducible assumption) | assumption)
              obtain ⟨ad172, e172, hx172_0, hx172_1, hx172_2⟩ := at_T33 (Kd.R_reads' HO_0.out).2.2 x12_1 p172 q172
              obtain rfl : (⟨go6, 0, none⟩ : Addr) = ad172 := (by injection e172)
              (first | simp only [add_plain] at hx172_0 | simp only [add_at] at hx172_0 | simp only [Addr.add, Nat.zero_add] at hx172_0 | skip)
              (first | simp only [add_plain] at hx172_1 | simp only [add_at] at hx172_1 | simp only [Addr.add, Nat.zero_add] at hx172_1 | skip)
              (first | simp only [add_plain] at hx172_2 | simp only [add_at] at hx172_2 | simp only [Addr.add, Nat.zero_add] at hx172_2 | skip)
              replace p172 := eq_true p172
              replace q172 := eq_true q172
              have p173 : 0 ≤ (x12_1 : Int) := of_decide_eq_true (by first | (with_reducible assumption) | assumption)
              have q173 : x12_1 < (x0_1.length : Int) := of_decide_eq_true (by first | (with_reducible assumption) | assumption)
              obtain ⟨ad173, e173, hx173_0, hx173_1, hx173_2⟩ := at_T33 (Kd.R_reads' HO_0.out).2.2 x12_1 p173 q173
              obtain rfl : (⟨go6, 0, none⟩ : Addr) = ad173 := (by injection e173)
              (first | simp only [add_plain] at hx173_0 | simp only [add_at] at hx173_0 | simp only [Addr.add, Nat.zero_add] at hx173_0 | skip)
              (first | simp only [add_plain] at hx173_1 | simp only [add_at] at hx173_1 | simp only [Addr.add, Nat.zero_add] at hx173_1 | skip)
              (first | simp only [add_plain] at hx173_2 | simp only [add_at] at hx173_2 | simp only [Addr.add, Nat.zero_add] at hx173_2 | skip)
              replace p173 := eq_true p173
              replace q173 := eq_true q173
              have p174 : 0 ≤ (x12_1 : Int) := of_decide_eq_true (by first | (with_reducible assumption) | assumption)
              have q174 : x12_1 < (x0_1.length : Int) := of_decide_eq_true (by first | (with_reducible assumption) | assumption)
              obtain ⟨ad174, e174, hx174_0, hx174_1, hx174_2⟩ := at_T33 (Kd.R_reads' HO_0.out).2.2 x12_1 p174 q174
              obtain rfl : (⟨go6, 0, none⟩ : Addr) = ad174 := (by injection e174)
              (first | simp only [add_plain] at hx174_0 | simp only [add_at] at hx174_0 | simp only [Addr.add, Nat.zero_add] at hx174_0 | skip)
              (first | simp only [add_plain] at hx174_1 | simp only [add_at] at hx174_1 | simp only [Addr.add, Nat.zero_add] at hx174_1 | skip)
              (first | simp only [add_plain] at hx174_2 | simp only [add_at] at hx174_2 | simp only [Addr.add, Nat.zero_add] at hx174_2 | skip)
              replace p174 := eq_true p174
              replace q174 := eq_true q174
              have p8 : 0 ≤ (x12_1 : Int) := of_decide_eq_true (by first | (with_reducible assumption) | assumption)
              have q8 : (x12_1 : Int) < ((x0_1.length : Int) : Int) := of_decide_eq_true (by first | (with_reducible assumption) | assumption)
              obtain ⟨ce8, hcl8, hM8, hcc8, hfr8⟩ := Kd.R_elem HO_0.out z33 (x12_1 : Int) p8 q8
              obtain rfl := k33_openM hM8
              have hx8_0 : wr.cell? ⟨go6, (x12_1 : Int).toNat * 3, none⟩ = some (.int .i64 ((rd_T33 x0_1 x12_1).f0)) := hcc8 0 _ rfl
              have hx8_1 : wr.cell? ⟨go6, (x12_1 : Int).toNat * 3 + 1, none⟩ = some (.int .i64 ((rd_T33 x0_1 x12_1).f1)) := hcc8 1 _ rfl
              have hx8_2 : wr.cell? ⟨go6, (x12_1 : Int).toNat * 3 + 2, none⟩ = some (.int .i64 ((rd_T33 x0_1 x12_1).f2)) := hcc8 2 _ rfl
              have hf8_0 : wr.frozen? ⟨go6, (x12_1 : Int).toNat * 3, none⟩ = false := hfr8 0
              have hf8_1 : wr.frozen? ⟨go6, (x12_1 : Int).toNat * 3 + 1, none⟩ = false := hfr8 1
              have hf8_2 : wr.frozen? ⟨go6, (x12_1 : Int).toNat * 3 + 2, none⟩ = false := hfr8 2
              clear hcl8 hcc8 hfr8 hM8
              replace p8 := eq_true p8
              replace q8 := eq_true q8
              have HX15 := Aside0.mk (show Kd.R k33 33 wr w0.heap.size (fun k_ => (P0_ k_ ∨ w.heap.size ≤ k_)) (.slice (some ⟨go6, 0, none⟩) x0_1.length co2) x0_1 from (by (with_reducible repeat (first | apply Kd.R_alloc | apply Kd.R_drewN | apply Kd.R_drew)); exact HO_0.out))
              obtain ⟨ce15, hcl15, hM15, hcc15, hfr15⟩ := Kd.R_elem HX15.out z33 (x12_1 : Int) (of_decide_eq_true (by first | (with_reducible assumption) | assumption)) (by have h_ : (x12_1 : Int) < ((x0_1.length : Int) : Int) := of_decide_eq_true (by first | (with_reducible assumption) | assumption); first | exact h_ | (have e_ := (Kd.R_reads' HO_0.out).1; omega) | simpa using h_)
              obtain rfl := k33_openM hM15
              have HP15 := Kd.R_seg HX15.out (x12_1 : Int) (of_decide_eq_true (by first | (with_reducible assumption) | assumption)) (by have h_ : (x12_1 : Int) < ((x0_1.length : Int) : Int) := of_decide_eq_true (by first | (with_reducible assumption) | assumption); first | exact h_ | (have e_ := (Kd.R_reads' HO_0.out).1; omega) | simpa using h_) (seg := [.int .i64 (wrap64 (((rd_T33 x0_1 x12_1).f2) + (wrap64 (x5_1 - (ji7)))))]) (j := 2) hcl15 hcc15 (show 3 ≤ 3 from by decide) (x' := (⟨(rd_T33 x0_1 x12_1).f0, (rd_T33 x0_1 x12_1).f1, wrap64 (((rd_T33 x0_1 x12_1).f2) + (wrap64 (x5_1 - (ji7))))⟩ : S33)) (k33_mkM _ _ _ (⟨(rd_T33 x0_1 x12_1).f0, (rd_T33 x0_1 x12_1).f1, wrap64 (((rd_T33 x0_1 x12_1).f2) + (wrap64 (x5_1 - (ji7))))⟩ : S33) ) (fun _ hk => hk)
              have hx15_2 := hcc15 2 _ rfl
              (try simp only [show (k33).sz = 3 from rfl, Nat.mul_one, Nat.add_zero] at hx15_2)
              have hf15_2 := hfr15 2
              (try simp only [show (k33).sz = 3 from rfl, Nat.mul_one, Nat.add_zero] at hf15_2)
              clear hcl15 hcc15 hfr15 hM15
              go_wp2_with (first | ((with_reducible refine gate_store (t := 3) (p := 36) rfl ?_); (try (rw [drewN_self wr]; generalize hq_ : World.drewN wr _ = wr; have n0_ := Aside0.mk (Kd.R_at hq_ HO_0.out); have n1_ := Aside0.mk (kept_at hq_ HK.out); have n2_ := Aside0.mk (below_at hq_ HB.out); clear hq_ HO_0 HK HB; have HO_0 := n0_; have HK := n1_; have HB := n2_; clear n0_ n1_ n2_; (try (have HX15 := Aside0.mk (show Kd.R k33 33 wr w0.heap.size (fun k_ => (P0_ k_ ∨ w.heap.size ≤ k_)) (.slice (some ⟨go6, 0, none⟩) x0_1.length co2) x0_1 from (by (with_reducible repeat (first | apply Kd.R_alloc | apply Kd.R_drewN | apply Kd.R_drew)); exact HO_0.out)))); (try (obtain ⟨ce15, hcl15, hM15, hcc15, hfr15⟩ := Kd.R_elem HX15.out z33 (x12_1 : Int) (of_decide_eq_true (by first | (with_reducible assumption) | assumption)) (by have h_ : (x12_1 : Int) < ((x0_1.length : Int) : Int) := of_decide_eq_true (by first | (with_reducible assumption) | assumption); first | exact h_ | (have e_ := (Kd.R_reads' HO_0.out).1; omega) | simpa using h_))); (try (obtain rfl := k33_openM hM15)); (try (have HP15 := Kd.R_seg HX15.out (x12_1 : Int) (of_decide_eq_true (by first | (with_reducible assumption) | assumption)) (by have h_ : (x12_1 : Int) < ((x0_1.length : Int) : Int) := of_decide_eq_true (by first | (with_reducible assumption) | assumption); first | exact h_ | (have e_ := (Kd.R_reads' HO_0.out).1; omega) | simpa using h_) (seg := [.int .i64 (wrap64 (((rd_T33 x0_1 x12_1).f2) + (wrap64 (x5_1 - (ji7)))))]) (j := 2) hcl15 hcc15 (show 3 ≤ 3 from by decide) (x' := (⟨(rd_T33 x0_1 x12_1).f0, (rd_T33 x0_1 x12_1).f1, wrap64 (((rd_T33 x0_1 x12_1).f2) + (wrap64 (x5_1 - (ji7))))⟩ : S33)) (k33_mkM _ _ _ (⟨(rd_T33 x0_1 x12_1).f0, (rd_T33 x0_1 x12_1).f1, wrap64 (((rd_T33 x0_1 x12_1).f2) + (wrap64 (x5_1 - (ji7))))⟩ : S33) ) (fun _ hk => hk))); (try (have hx15_2 := hcc15 2 _ rfl)); (try (try simp only [show (k33).sz = 3 from rfl, Nat.mul_one, Nat.add_zero] at hx15_2)); (try (have hf15_2 := hfr15 2)); (try (try simp only [show (k33).sz = 3 from rfl, Nat.mul_one, Nat.add_zero] at hf15_2)); (try (clear hcl15 hcc15 hfr15 hM15)))); refine store_event (t := 3) (p := 36) (v := ?vo_w16) (w1 := (wr.setCell ⟨go6, (x12_1 : Int).toNat * 3 + 2, none⟩ (.int .i64 (wrap64 (((rd_T33 x0_1 x12_1).f2) + (wrap64 (x5_1 - (ji7)))))))) ?hg ?ho ?hn ?hr ?_; (case ho => rfl); (case hg => rfl); (case hn => rfl); (case hr => first | (go_simp; done) | (go_simp; rfl)); intro w16 hw; have hg : wr.grownBy w16 (some go6) := (by rw [hw]; exact HP15.2); have hp_ : Kd.R k33 33 w16 w0.heap.size (fun k_ => (P0_ k_ ∨ w.heap.size ≤ k_)) (.slice (some ⟨go6, 0, none⟩) x0_1.length co2) y175 := (by rw [hw, Ny175.out]; exact HP15.1); clear HP15; have n0_ := Aside0.mk (hp_); have n1_ := Aside0.mk ((by rw [hw]; exact below_set (HB.out) GB6.out : Below w0.heap.size w0 w16)); have n2_ := Aside0.mk (Kept.of_grown (S := (fun k_ => P0_ k_)) hg (by repeat (first | (with_reducible first | exact HK.out | apply Kept.alloc | apply Kept.drewN | apply Kept.drew) | exact HK.out)) (fun k_ e_ => (HO_0.out.1 k_ e_))); clear HO_0; clear HB; clear HK; have HO_0 := n0_; have HB := n1_; have HK := n2_; clear n0_ n1_ n2_; clear hg hw hp_; have p176 : 0 ≤ (x12_1 : Int) := of_decide_eq_true (by first | (with_reducible assumption) | assumption); have q176 : x12_1 < (y175.length : Int) := (by have h_ : (x12_1 : Int) < ((x0_1.length : Int) : Int) := of_decide_eq_true (by first | (with_reducible assumption) | assumption); first | (have e_ := (Kd.R_reads' HO_0.out).1; omega) | simpa only [Ny175.out, List.length_set] using h_); have ql176 : ((x12_1 : Int) < ((x0_1.length : Int) : Int)) = True := eq_true (of_decide_eq_true (by first | (with_reducible assumption) | assumption)); obtain ⟨ad176, e176, hx176_0, hx176_1, hx176_2⟩ := at_T33 (Kd.R_reads' HO_0.out).2.2 x12_1 p176 q176; obtain rfl : (⟨go6, 0, none⟩ : Addr) = ad176 := (by injection e176); (first | simp only [add_plain] at hx176_0 | simp only [add_at] at hx176_0 | simp only [Addr.add, Nat.zero_add] at hx176_0 | skip); (first | simp only [add_plain] at hx176_1 | simp only [add_at] at hx176_1 | simp only [Addr.add, Nat.zero_add] at hx176_1 | skip); (first | simp only [add_plain] at hx176_2 | simp only [add_at] at hx176_2 | simp only [Addr.add, Nat.zero_add] at hx176_2 | skip); replace p176 := eq_true p176; replace q176 := eq_true q176; have p177 : 0 ≤ (x12_1 : Int) := of_decide_eq_true (by first | (with_reducible assumption) | assumption); have q177 : x12_1 < (y175.length : Int) := (by have h_ : (x12_1 : Int) < ((x0_1.length : Int) : Int) := of_decide_eq_true (by first | (with_reducible assumption) | assumption); first | (have e_ := (Kd.R_reads' HO_0.out).1; omega) | simpa only [Ny175.out, List.length_set] using h_); have ql177 : ((x12_1 : Int) < ((x0_1.length : Int) : Int)) = True := eq_true (of_decide_eq_true (by first | (with_reducible assumption) | assumption)); obtain ⟨ad177, e177, hx177_0, hx177_1, hx177_2⟩ := at_T33 (Kd.R_reads' HO_0.out).2.2 x12_1 p177 q177; obtain rfl : (⟨go6, 0, none⟩ : Addr) = ad177 := (by injection e177); (first | simp only [add_plain] at hx177_0 | simp only [add_at] at hx177_0 | simp only [Addr.add, Nat.zero_add] at hx177_0 | skip); (first | simp only [add_plain] at hx177_1 | simp only [add_at] at hx177_1 | simp only [Addr.add, Nat.zero_add] at hx177_1 | skip); (first | simp only [add_plain] at hx177_2 | simp only [add_at] at hx177_2 | simp only [Addr.add, Nat.zero_add] at hx177_2 | skip); replace p177 := eq_true p177; replace q177 := eq_true q177))
              repeat (go_quiet (first | ((with_reducible refine gate_store (t := 3) (p := 36) rfl ?_); (try (rw [drewN_self wr]; generalize hq_ : World.drewN wr _ = wr; have n0_ := Aside0.mk (Kd.R_at hq_ HO_0.out); have n1_ := Aside0.mk (kept_at hq_ HK.out); have n2_ := Aside0.mk (below_at hq_ HB.out); clear hq_ HO_0 HK HB; have HO_0 := n0_; have HK := n1_; have HB := n2_; clear n0_ n1_ n2_; (try (have HX15 := Aside0.mk (show Kd.R k33 33 wr w0.heap.size (fun k_ => (P0_ k_ ∨ w.heap.size ≤ k_)) (.slice (some ⟨go6, 0, none⟩) x0_1.length co2) x0_1 from (by (with_reducible repeat (first | apply Kd.R_alloc | apply Kd.R_drewN | apply Kd.R_drew)); exact HO_0.out)))); (try (obtain ⟨ce15, hcl15, hM15, hcc15, hfr15⟩ := Kd.R_elem HX15.out z33 (x12_1 : Int) (of_decide_eq_true (by first | (with_reducible assumption) | assumption)) (by have h_ : (x12_1 : Int) < ((x0_1.length : Int) : Int) := of_decide_eq_true (by first | (with_reducible assumption) | assumption); first | exact h_ | (have e_ := (Kd.R_reads' HO_0.out).1; omega) | simpa using h_))); (try (obtain rfl := k33_openM hM15)); (try (have HP15 := Kd.R_seg HX15.out (x12_1 : Int) (of_decide_eq_true (by first | (with_reducible assumption) | assumption)) (by have h_ : (x12_1 : Int) < ((x0_1.length : Int) : Int) := of_decide_eq_true (by first | (with_reducible assumption) | assumption); first | exact h_ | (have e_ := (Kd.R_reads' HO_0.out).1; omega) | simpa using h_) (seg := [.int .i64 (wrap64 (((rd_T33 x0_1 x12_1).f2) + (wrap64 (x5_1 - (ji7)))))]) (j := 2) hcl15 hcc15 (show 3 ≤ 3 from by decide) (x' := (⟨(rd_T33 x0_1 x12_1).f0, (rd_T33 x0_1 x12_1).f1, wrap64 (((rd_T33 x0_1 x12_1).f2) + (wrap64 (x5_1 - (ji7))))⟩ : S33)) (k33_mkM _ _ _ (⟨(rd_T33 x0_1 x12_1).f0, (rd_T33 x0_1 x12_1).f1, wrap64 (((rd_T33 x0_1 x12_1).f2) + (wrap64 (x5_1 - (ji7))))⟩ : S33) ) (fun _ hk => hk))); (try (have hx15_2 := hcc15 2 _ rfl)); (try (try simp only [show (k33).sz = 3 from rfl, Nat.mul_one, Nat.add_zero] at hx15_2)); (try (have hf15_2 := hfr15 2)); (try (try simp only [show (k33).sz = 3 from rfl, Nat.mul_one, Nat.add_zero] at hf15_2)); (try (clear hcl15 hcc15 hfr15 hM15)))); refine store_event (t := 3) (p := 36) (v := ?vo_w16) (w1 := (wr.setCell ⟨go6, (x12_1 : Int).toNat * 3 + 2, none⟩ (.int .i64 (wrap64 (((rd_T33 x0_1 x12_1).f2) + (wrap64 (x5_1 - (ji7)))))))) ?hg ?ho ?hn ?hr ?_; (case ho => rfl); (case hg => rfl); (case hn => rfl); (case hr => first | (go_simp; done) | (go_simp; rfl)); intro w16 hw; have hg : wr.grownBy w16 (some go6) := (by rw [hw]; exact HP15.2); have hp_ : Kd.R k33 33 w16 w0.heap.size (fun k_ => (P0_ k_ ∨ w.heap.size ≤ k_)) (.slice (some ⟨go6, 0, none⟩) x0_1.length co2) y175 := (by rw [hw, Ny175.out]; exact HP15.1); clear HP15; have n0_ := Aside0.mk (hp_); have n1_ := Aside0.mk ((by rw [hw]; exact below_set (HB.out) GB6.out : Below w0.heap.size w0 w16)); have n2_ := Aside0.mk (Kept.of_grown (S := (fun k_ => P0_ k_)) hg (by repeat (first | (with_reducible first | exact HK.out | apply Kept.alloc | apply Kept.drewN | apply Kept.drew) | exact HK.out)) (fun k_ e_ => (HO_0.out.1 k_ e_))); clear HO_0; clear HB; clear HK; have HO_0 := n0_; have HB := n1_; have HK := n2_; clear n0_ n1_ n2_; clear hg hw hp_; have p176 : 0 ≤ (x12_1 : Int) := of_decide_eq_true (by first | (with_reducible assumption) | assumption); have q176 : x12_1 < (y175.length : Int) := (by have h_ : (x12_1 : Int) < ((x0_1.length : Int) : Int) := of_decide_eq_true (by first | (with_reducible assumption) | assumption); first | (have e_ := (Kd.R_reads' HO_0.out).1; omega) | simpa only [Ny175.out, List.length_set] using h_); have ql176 : ((x12_1 : Int) < ((x0_1.length : Int) : Int)) = True := eq_true (of_decide_eq_true (by first | (with_reducible assumption) | assumption)); obtain ⟨ad176, e176, hx176_0, hx176_1, hx176_2⟩ := at_T33 (Kd.R_reads' HO_0.out).2.2 x12_1 p176 q176; obtain rfl : (⟨go6, 0, none⟩ : Addr) = ad176 := (by injection e176); (first | simp only [add_plain] at hx176_0 | simp only [add_at] at hx176_0 | simp only [Addr.add, Nat.zero_add] at hx176_0 | skip); (first | simp only [add_plain] at hx176_1 | simp only [add_at] at hx176_1 | simp only [Addr.add, Nat.zero_add] at hx176_1 | skip); (first | simp only [add_plain] at hx176_2 | simp only [add_at] at hx176_2 | simp only [Addr.add, Nat.zero_add] at hx176_2 | skip); replace p176 := eq_true p176; replace q176 := eq_true q176; have p177 : 0 ≤ (x12_1 : Int) := of_decide_eq_true (by first | (with_reducible assumption) | assumption); have q177 : x12_1 < (y175.length : Int) := (by have h_ : (x12_1 : Int) < ((x0_1.length : Int) : Int) := of_decide_eq_true (by first | (with_reducible assumption) | assumption); first | (have e_ := (Kd.R_reads' HO_0.out).1; omega) | simpa only [Ny175.out, List.length_set] using h_); have ql177 : ((x12_1 : Int) < ((x0_1.length : Int) : Int)) = True := eq_true (of_decide_eq_true (by first | (with_reducible assumption) | assumption)); obtain ⟨ad177, e177, hx177_0, hx177_1, hx177_2⟩ := at_T33 (Kd.R_reads' HO_0.out).2.2 x12_1 p177 q177; obtain rfl : (⟨go6, 0, none⟩ : Addr) = ad177 := (by injection e177); (first | simp only [add_plain] at hx177_0 | simp only [add_at] at hx177_0 | simp only [Addr.add, Nat.zero_add] at hx177_0 | skip); (first | simp only [add_plain] at hx177_1 | simp only [add_at] at hx177_1 | simp only [Addr.add, Nat.zero_add] at hx177_1 | skip); (first | simp only [add_plain] at hx177_2 | simp only [add_at] at hx177_2 | simp only [Addr.add, Nat.zero_add] at hx177_2 | skip); replace p177 := eq_true p177; replace q177 := eq_true q177)); try go_wp2_with (first | ((with_reducible refine gate_store (t := 3) (p := 36) rfl ?_); (try (rw [drewN_self wr]; generalize hq_ : World.drewN wr _ = wr; have n0_ := Aside0.mk (Kd.R_at hq_ HO_0.out); have n1_ := Aside0.mk (kept_at hq_ HK.out); have n2_ := Aside0.mk (below_at hq_ HB.out); clear hq_ HO_0 HK HB; have HO_0 := n0_; have HK := n1_; have HB := n2_; clear n0_ n1_ n2_; (try (have HX15 := Aside0.mk (show Kd.R k33 33 wr w0.heap.size (fun k_ => (P0_ k_ ∨ w.heap.size ≤ k_)) (.slice (some ⟨go6, 0, none⟩) x0_1.length co2) x0_1 from (by (with_reducible repeat (first | apply Kd.R_alloc | apply Kd.R_drewN | apply Kd.R_drew)); exact HO_0.out)))); (try (obtain ⟨ce15, hcl15, hM15, hcc15, hfr15⟩ := Kd.R_elem HX15.out z33 (x12_1 : Int) (of_decide_eq_true (by first | (with_reducible assumption) | assumption)) (by have h_ : (x12_1 : Int) < ((x0_1.length : Int) : Int) := of_decide_eq_true (by first | (with_reducible assumption) | assumption); first | exact h_ | (have e_ := (Kd.R_reads' HO_0.out).1; omega) | simpa using h_))); (try (obtain rfl := k33_openM hM15)); (try (have HP15 := Kd.R_seg HX15.out (x12_1 : Int) (of_decide_eq_true (by first | (with_reducible assumption) | assumption)) (by have h_ : (x12_1 : Int) < ((x0_1.length : Int) : Int) := of_decide_eq_true (by first | (with_reducible assumption) | assumption); first | exact h_ | (have e_ := (Kd.R_reads' HO_0.out).1; omega) | simpa using h_) (seg := [.int .i64 (wrap64 (((rd_T33 x0_1 x12_1).f2) + (wrap64 (x5_1 - (ji7)))))]) (j := 2) hcl15 hcc15 (show 3 ≤ 3 from by decide) (x' := (⟨(rd_T33 x0_1 x12_1).f0, (rd_T33 x0_1 x12_1).f1, wrap64 (((rd_T33 x0_1 x12_1).f2) + (wrap64 (x5_1 - (ji7))))⟩ : S33)) (k33_mkM _ _ _ (⟨(rd_T33 x0_1 x12_1).f0, (rd_T33 x0_1 x12_1).f1, wrap64 (((rd_T33 x0_1 x12_1).f2) + (wrap64 (x5_1 - (ji7))))⟩ : S33) ) (fun _ hk => hk))); (try (have hx15_2 := hcc15 2 _ rfl)); (try (try simp only [show (k33).sz = 3 from rfl, Nat.mul_one, Nat.add_zero] at hx15_2)); (try (have hf15_2 := hfr15 2)); (try (try simp only [show (k33).sz = 3 from rfl, Nat.mul_one, Nat.add_zero] at hf15_2)); (try (clear hcl15 hcc15 hfr15 hM15)))); refine store_event (t := 3) (p := 36) (v := ?vo_w16) (w1 := (wr.setCell ⟨go6, (x12_1 : Int).toNat * 3 + 2, none⟩ (.int .i64 (wrap64 (((rd_T33 x0_1 x12_1).f2) + (wrap64 (x5_1 - (ji7)))))))) ?hg ?ho ?hn ?hr ?_; (case ho => rfl); (case hg => rfl); (case hn => rfl); (case hr => first | (go_simp; done) | (go_simp; rfl)); intro w16 hw; have hg : wr.grownBy w16 (some go6) := (by rw [hw]; exact HP15.2); have hp_ : Kd.R k33 33 w16 w0.heap.size (fun k_ => (P0_ k_ ∨ w.heap.size ≤ k_)) (.slice (some ⟨go6, 0, none⟩) x0_1.length co2) y175 := (by rw [hw, Ny175.out]; exact HP15.1); clear HP15; have n0_ := Aside0.mk (hp_); have n1_ := Aside0.mk ((by rw [hw]; exact below_set (HB.out) GB6.out : Below w0.heap.size w0 w16)); have n2_ := Aside0.mk (Kept.of_grown (S := (fun k_ => P0_ k_)) hg (by repeat (first | (with_reducible first | exact HK.out | apply Kept.alloc | apply Kept.drewN | apply Kept.drew) | exact HK.out)) (fun k_ e_ => (HO_0.out.1 k_ e_))); clear HO_0; clear HB; clear HK; have HO_0 := n0_; have HB := n1_; have HK := n2_; clear n0_ n1_ n2_; clear hg hw hp_; have p176 : 0 ≤ (x12_1 : Int) := of_decide_eq_true (by first | (with_reducible assumption) | assumption); have q176 : x12_1 < (y175.length : Int) := (by have h_ : (x12_1 : Int) < ((x0_1.length : Int) : Int) := of_decide_eq_true (by first | (with_reducible assumption) | assumption); first | (have e_ := (Kd.R_reads' HO_0.out).1; omega) | simpa only [Ny175.out, List.length_set] using h_); have ql176 : ((x12_1 : Int) < ((x0_1.length : Int) : Int)) = True := eq_true (of_decide_eq_true (by first | (with_reducible assumption) | assumption)); obtain ⟨ad176, e176, hx176_0, hx176_1, hx176_2⟩ := at_T33 (Kd.R_reads' HO_0.out).2.2 x12_1 p176 q176; obtain rfl : (⟨go6, 0, none⟩ : Addr) = ad176 := (by injection e176); (first | simp only [add_plain] at hx176_0 | simp only [add_at] at hx176_0 | simp only [Addr.add, Nat.zero_add] at hx176_0 | skip); (first | simp only [add_plain] at hx176_1 | simp only [add_at] at hx176_1 | simp only [Addr.add, Nat.zero_add] at hx176_1 | skip); (first | simp only [add_plain] at hx176_2 | simp only [add_at] at hx176_2 | simp only [Addr.add, Nat.zero_add] at hx176_2 | skip); replace p176 := eq_true p176; replace q176 := eq_true q176; have p177 : 0 ≤ (x12_1 : Int) := of_decide_eq_true (by first | (with_reducible assumption) | assumption); have q177 : x12_1 < (y175.length : Int) := (by have h_ : (x12_1 : Int) < ((x0_1.length : Int) : Int) := of_decide_eq_true (by first | (with_reducible assumption) | assumption); first | (have e_ := (Kd.R_reads' HO_0.out).1; omega) | simpa only [Ny175.out, List.length_set] using h_); have ql177 : ((x12_1 : Int) < ((x0_1.length : Int) : Int)) = True := eq_true (of_decide_eq_true (by first | (with_reducible assumption) | assumption)); obtain ⟨ad177, e177, hx177_0, hx177_1, hx177_2⟩ := at_T33 (Kd.R_reads' HO_0.out).2.2 x12_1 p177 q177; obtain rfl : (⟨go6, 0, none⟩ : Addr) = ad177 := (by injection e177); (first | simp only [add_plain] at hx177_0 | simp only [add_at] at hx177_0 | simp only [Addr.add, Nat.zero_add] at hx177_0 | skip); (first | simp only [add_plain] at hx177_1 | simp only [add_at] at hx177_1 | simp only [Addr.add, Nat.zero_add] at hx177_1 | skip); (first | simp only [add_plain] at hx177_2 | simp only [add_at] at hx177_2 | simp only [Addr.add, Nat.zero_add] at hx177_2 | skip); replace p177 := eq_true p177; replace q177 := eq_true q177)))
              (try simp only [← hl0_1])
              go_roundg k1
              case measure => have := HK1.out; omega
              case rel => exact ⟨(y175), (x4_1), (ji7), (wrap64 (x12_1 + 1)), (by first | rfl | (simp; done) | (simp [*]; done)), (by first | rfl | (simp; done) | (simp only [← hji7] <;> (first | rfl | simp)) | (simp [*]; done)), (by first | rfl | (simp; done) | (simp [*]; done)), H', ⟨by have := HK1.out; omega⟩, ⟨by (try simp only [hl0_1]); (with_reducible repeat (first | apply Kd.R_alloc | apply Kd.R_drewN | apply Kd.R_drew)); exact HO_0.out⟩, ⟨by repeat (first | (with_reducible first | exact HK.out | apply Kept.alloc | apply Kept.drewN | apply Kept.drew) | exact HK.out)⟩, ⟨by repeat (first | (with_reducible first | exact HB.out | apply below_alloc | apply pw_below_drewN | apply below_drew1) | exact HB.out)⟩⟩
          · rw [if_neg c5] at H
            exact absurd H (by simp)
        · rw [if_neg c4] at H
          exact absurd H (by simp)
      · rw [if_neg c3] at H
        have c3b0 : decide (x12_1 < (l0.length : Int)) = false := decide_eq_false c3
        (try (have c3h0 := c3b0; simp only [hl0_1] at c3h0))
        clear c3
        simp only [Option.some.injEq, Prod.mk.injEq] at H
        obtain ⟨rfl, rfl, rfl⟩ := H
        go_wp2
        repeat (go_quiet (fail); try go_wp2)
        go_ret2
        exact ⟨by first | rfl | (simp [errW_none, errW_some] <;> rfl) | (simp [*, errW_none, errW_some] <;> rfl), (by first | exact (by (with_reducible repeat (first | apply Kd.R_alloc | apply Kd.R_drewN | apply Kd.R_drew)); exact HO_0.out) | (simp only [hl0_1]; exact (by (with_reducible repeat (first | apply Kd.R_alloc | apply Kd.R_drewN | apply Kd.R_drew)); exact HO_0.out))), by repeat (first | (with_reducible first | exact HB.out | apply below_alloc | apply pw_below_drewN | apply below_drew1) | exact HB.out), by repeat (first | (with_reducible first | exact HK.out | apply Kept.alloc | apply Kept.drewN | apply Kept.drew) | exact HK.out)⟩

/-! ### impl_PassMinute: function 30 -/
def impl_PassMinute.f (k : Nat) (l0 : List (S33)) : Option ((List (S33)) × Int × Int × Bool) := (impl_AreVessels.f k l0).bind fun t180 => (if t180 = true then ((impl_Vessel_45.f l0).bind fun t181 => ((impl_minute.f k t181).bind fun bt184 => (some (bt184.2.2, bt184.1, bt184.2.1, true)))) else (some (([] : List (S33)), 0, 0, false)))
theorem impl_PassMinute.mono : ∀ a0 k, LeO (impl_PassMinute.f k a0) (impl_PassMinute.f (k + 1) a0) := by
  intro a0 k
  unfold impl_PassMinute.f
  repeat' first
      | (with_reducible exact impl_AreVessels.mono _ _)
      | (with_reducible exact impl_minute.mono _ _)
      | (with_reducible exact LeO.refl _)
      | (with_reducible exact LeO.none _)
      | (with_reducible refine LeO.ite ?_ ?_)
      | (with_reducible refine LeO.bind ?_ (fun _ => ?_))
      | exact impl_AreVessels.mono _ _
      | exact impl_minute.mono _ _
      | exact LeO.none _
      | refine LeO.ite ?_ ?_
      | refine LeO.bind ?_ (fun _ => ?_)
set_option maxHeartbeats 8000000 in
set_option maxRecDepth 100000 in
theorem impl_PassMinute.calls (k : Nat) (A0 : Option Addr) (c0 : Nat) (l0 : List (S33)) (r1 : List (S33)) (r2 : Int) (r3 : Int) (r4 : Bool) (w : World) (hr0 : Kd.C k33 w A0 l0.length l0) (hc0 : l0.length ≤ c0) (h : impl_PassMinute.f k l0 = some (r1, r2, r3, r4)) :
    Calls Try.prog 30 #[.slice A0 l0.length c0] w fun e w' => ∃ v0_ : Value, e = .returned (.tuple #[v0_, .int .i64 r2, .int .i64 r3, .bool r4]) ∧ Kd.R k33 33 w' w.heap.size (fun _ => True) v0_ r1 ∧ Below w.heap.size w w' := by
  have HR0 := Aside0.mk hr0
  have HC0 := Aside0.mk hc0
  clear hr0 hc0
  have HB := Aside0.mk (Below.refl w.heap.size w)
  have H : ((impl_AreVessels.f k l0).bind fun t180 => (if t180 = true then ((impl_Vessel_45.f l0).bind fun t181 => ((impl_minute.f k t181).bind fun bt184 => (some (bt184.2.2, bt184.1, bt184.2.1, true)))) else (some (([] : List (S33)), 0, 0, false)))) = some (r1, r2, r3, r4) := h
  clear h
  replace H := Option.bind_eq_some_iff.mp H
  obtain ⟨t180, A20, H⟩ := H
  replace H : (if t180 = true then ((impl_Vessel_45.f l0).bind fun t181 => ((impl_minute.f k t181).bind fun bt184 => (some (bt184.2.2, bt184.1, bt184.2.1, true)))) else (some (([] : List (S33)), 0, 0, false))) = some (r1, r2, r3, r4) := H
  have A2 := Aside0.mk A20
  clear A20
  by_cases c3 : t180 = true
  · subst c3
    have H1 : ((impl_Vessel_45.f l0).bind fun t181 => ((impl_minute.f k t181).bind fun bt184 => (some (bt184.2.2, bt184.1, bt184.2.1, true)))) = some (r1, r2, r3, r4) := by rw [if_pos rfl] at H; exact H
    clear H
    have H := H1
    clear H1
    replace H := Option.bind_eq_some_iff.mp H
    obtain ⟨t181, A40, H⟩ := H
    replace H : ((impl_minute.f k t181).bind fun bt184 => (some (bt184.2.2, bt184.1, bt184.2.1, true))) = some (r1, r2, r3, r4) := H
    have A4 := Aside0.mk A40
    clear A40
    replace H := Option.bind_eq_some_iff.mp H
    obtain ⟨⟨t184, t185, t186⟩, A50, H⟩ := H
    replace H : (some (t186, t184, t185, true)) = some (r1, r2, r3, r4) := H
    have A5 := Aside0.mk A50
    clear A50
    simp only [Option.some.injEq, Prod.mk.injEq] at H
    obtain ⟨rfl, rfl, rfl, rfl⟩ := H
    go_enter Try.func30, Try.ntmps30
    go_wp2_with (first | ((with_reducible refine gate_callee (f := 13) rfl ?_); refine goesL_ (some 10) rfl rfl Try.func13 (by kernel_rfl) rfl #[.slice A0 l0.length c0] rfl (by (try simp only [List.map_toArray, List.map_cons, List.map_nil]); first | done | rfl | (simp only [List.length_drop, List.length_take]; rfl)) ?_; (with_reducible refine (impl_AreVessels.calls k _ _ l0 true _ ?side1 ?side2 A2.out).mono ?_); (case side1 => repeat (first | exact HR0.out | (with_reducible refine Kd.C_alloc ?_ _) | (with_reducible refine Kd.C_drewN ?_ _) | (with_reducible refine Kd.C_drew ?_))); (case side2 => exact HC0.out); rintro e w6 ⟨rfl, hb⟩; refine ⟨_, rfl, ?_⟩; have n0_ := Aside0.mk (below_step (by repeat (first | (with_reducible first | exact HB.out | apply below_alloc | apply pw_below_drewN | apply below_drew1) | exact HB.out)) hb); clear HB; have HB := n0_; clear n0_; (try clear hb); (try clear hb2); (try clear hk); (try clear hi)) | ((with_reducible refine gate_callee (f := 45) rfl ?_); refine goesL_ (some 13) rfl rfl Try.func45 (by kernel_rfl) rfl #[.slice A0 l0.length c0] rfl (by (try simp only [List.map_toArray, List.map_cons, List.map_nil]); first | done | rfl | (simp only [List.length_drop, List.length_take]; rfl)) ?_; (with_reducible refine (impl_Vessel_45.calls _ _ l0 t181 _ ?side1 ?side2 A4.out).mono ?_); (case side1 => repeat (first | exact (Kd.C_below HR0.out HB.out) | (with_reducible refine Kd.C_alloc ?_ _) | (with_reducible refine Kd.C_drewN ?_ _) | (with_reducible refine Kd.C_drew ?_))); (case side2 => exact HC0.out); rintro e w7 ⟨v182, rfl, ho0, hb⟩; refine ⟨_, rfl, ?_⟩; have n0_ := Aside0.mk (Kd.R_lower ho0 (below_size (by repeat (first | (with_reducible first | exact HB.out | apply below_alloc | apply pw_below_drewN | apply below_drew1) | exact HB.out)))); have n1_ := Aside0.mk (below_step (by repeat (first | (with_reducible first | exact HB.out | apply below_alloc | apply pw_below_drewN | apply below_drew1) | exact HB.out)) hb); clear HB; have HO183 := n0_; have HB := n1_; clear n0_ n1_; (try clear hb); (try clear hb2); (try clear hk); (try clear hi); (try clear ho0); obtain ⟨Ao8, co8, eo8⟩ := Kd.R_slice HO183.out; subst eo8) | ((with_reducible refine gate_callee (f := 47) rfl ?_); refine goesL_ (some 16) rfl rfl Try.func47 (by kernel_rfl) rfl #[.slice Ao8 t181.length co8] rfl (by (try simp only [List.map_toArray, List.map_cons, List.map_nil]); first | done | rfl | (simp only [List.length_drop, List.length_take]; rfl)) ?_; (with_reducible refine (impl_minute.calls k (fun k_ => some k_ = (.slice Ao8 t181.length co8 : Value).ownBlock) (.slice Ao8 t181.length co8) t181 t184 t185 t186 w _ ?side1 ?side2 A5.out).mono ?_); (case side1 => repeat (first | (with_reducible first | exact HB.out | apply below_alloc | apply pw_below_drewN | apply below_drew1) | exact HB.out)); (case side2 => exact Kd.R_tight rfl HO183.out); rintro e w9 ⟨rfl, hy0, hb, hkp⟩; refine ⟨_, rfl, ?_⟩; have n0_ := Aside0.mk (Kd.R_reok rfl hy0 (fun k_ e_ => HO183.out.1 k_ e_)); have n1_ := Aside0.mk (hb); clear HO183; clear HB; have HO183 := n0_; have HB := n1_; clear n0_ n1_; (try clear hb); (try clear hkp); (try clear hy0)))
    refine bodyPost_ret (results_list (rs := [.tmp 2, .tmp 3, .tmp 4, .tmp 5]) rfl (by simp) (.tmp (.tmp (.tmp (.tmp .nil))))) rfl ?_
    exact ⟨_, by first | rfl | (simp [errW_none, errW_some] <;> rfl) | (simp [*, errW_none, errW_some] <;> rfl), by (with_reducible repeat (first | apply Kd.R_alloc | apply Kd.R_drewN | apply Kd.R_drew)); exact HO183.out, by repeat (first | (with_reducible first | exact HB.out | apply below_alloc | apply pw_below_drewN | apply below_drew1) | exact HB.out)⟩
  · replace c3 := Bool.eq_false_iff.mpr c3
    subst c3
    have H1 : (some (([] : List (S33)), 0, 0, false)) = some (r1, r2, r3, r4) := by rw [if_neg (show ¬ (false = true) by decide)] at H; exact H
    clear H
    have H := H1
    clear H1
    simp only [Option.some.injEq, Prod.mk.injEq] at H
    obtain ⟨rfl, rfl, rfl, rfl⟩ := H
    go_enter Try.func30, Try.ntmps30
    go_wp2_with (first | ((with_reducible refine gate_callee (f := 13) rfl ?_); refine goesL_ (some 10) rfl rfl Try.func13 (by kernel_rfl) rfl #[.slice A0 l0.length c0] rfl (by (try simp only [List.map_toArray, List.map_cons, List.map_nil]); first | done | rfl | (simp only [List.length_drop, List.length_take]; rfl)) ?_; (with_reducible refine (impl_AreVessels.calls k _ _ l0 false _ ?side1 ?side2 A2.out).mono ?_); (case side1 => repeat (first | exact HR0.out | (with_reducible refine Kd.C_alloc ?_ _) | (with_reducible refine Kd.C_drewN ?_ _) | (with_reducible refine Kd.C_drew ?_))); (case side2 => exact HC0.out); rintro e w10 ⟨rfl, hb⟩; refine ⟨_, rfl, ?_⟩; have n0_ := Aside0.mk (below_step (by repeat (first | (with_reducible first | exact HB.out | apply below_alloc | apply pw_below_drewN | apply below_drew1) | exact HB.out)) hb); clear HB; have HB := n0_; clear n0_; (try clear hb); (try clear hb2); (try clear hk); (try clear hi)))
    refine bodyPost_ret (results_list (rs := [.tmp 2, .tmp 3, .tmp 4, .tmp 5]) rfl (by simp) (.tmp (.tmp (.tmp (.tmp .nil))))) rfl ?_
    exact ⟨_, by first | rfl | (simp [errW_none, errW_some] <;> rfl) | (simp [*, errW_none, errW_some] <;> rfl), by first | exact Kd.R_nil _ _ _ _ _ | exact Kd.N_nil _ _ _ _ _ | exact Kd.V_nil _ _ _ _ _ | exact Kd.Q_nil _ _ _ _ _ | exact Kd.S_nil _ _ _ _ _, by repeat (first | (with_reducible first | exact HB.out | apply below_alloc | apply pw_below_drewN | apply below_drew1) | exact HB.out)⟩

end Go.Proofs.Ytpadckbjknjkaaa.PA
