-- Printed by a program of this session's own.
import Derived.Test.YtnajkfdgkghgbaaVRunMixedPAx0
import Derived.Test.YtnajkfdgkghgbaaVRunMixedPAx4
namespace Go.Proofs.Ytnajkfdgkghgbaa.PA
open Go.RowKit Go.Proofs.YtnajkfdgkghgbaaW.PrintWords Go.Proofs.YtnajkfdgkghgbaaW.PrintLast Go.Proofs.YtnajkfdgkghgbaaW.PrintMore Go.Proofs.YtnajkfdgkghgbaaX
attribute [local go_sem] max2_int min2_int max_two min_two  -- for this text's walks alone
set_option linter.unusedVariables false
set_option linter.unusedSimpArgs false

/-! ### impl_Thing_66_at_impl_AreThings_1: function 104 -/
def impl_Thing_66_at_impl_AreThings_1.f (k : Nat) (l0 : List (S57))  : Option (Bool) := (impl_Thing_82_at_impl_AreThings_1.f k l0).bind fun t247 => (some (decide (t247 ≥ 0)))
theorem impl_Thing_66_at_impl_AreThings_1.mono : ∀ a0 k, LeO (impl_Thing_66_at_impl_AreThings_1.f k a0) (impl_Thing_66_at_impl_AreThings_1.f (k + 1) a0) := by
  intro a0 k
  unfold impl_Thing_66_at_impl_AreThings_1.f
  repeat' first
      | (with_reducible exact impl_Thing_82_at_impl_AreThings_1.mono _ _)
      | (with_reducible exact LeO.refl _)
      | (with_reducible exact LeO.none _)
      | (with_reducible refine LeO.ite ?_ ?_)
      | (with_reducible refine LeO.bind ?_ (fun _ => ?_))
      | exact impl_Thing_82_at_impl_AreThings_1.mono _ _
      | exact LeO.none _
      | refine LeO.ite ?_ ?_
      | refine LeO.bind ?_ (fun _ => ?_)
set_option maxHeartbeats 8000000 in
set_option maxRecDepth 100000 in
theorem impl_Thing_66_at_impl_AreThings_1.calls (k : Nat) (A0 : Option Addr) (c0 : Nat) (l0 : List (S57))  (r : Bool) (w : World) (hr0 : Kd.C k57 w A0 l0.length l0) (hc0 : l0.length ≤ c0) (h : impl_Thing_66_at_impl_AreThings_1.f k l0 = some r) :
    Calls Try.prog 66 #[.slice A0 l0.length c0, .func (.func 67) #[] #[]] w fun e w' => e = .returned (.bool r) ∧ Below w.heap.size w w' := by
  have HR0 := Aside0.mk hr0
  have HC0 := Aside0.mk hc0
  clear hr0 hc0
  have HB := Aside0.mk (Below.refl w.heap.size w)
  have H : ((impl_Thing_82_at_impl_AreThings_1.f k l0).bind fun t247 => (some (decide (t247 ≥ 0)))) = some r := h
  clear h
  replace H := Option.bind_eq_some_iff.mp H
  obtain ⟨t247, A30, H⟩ := H
  replace H : (some (decide (t247 ≥ 0))) = some r := H
  have A3 := Aside0.mk A30
  clear A30
  obtain rfl := Option.some.inj H
  go_enter Try.func66, Try.ntmps66
  go_wp2_with (first | (go_at_call 82; (with_reducible refine (impl_Thing_82_at_impl_AreThings_1.calls k _ _ l0  t247 _ ?side1 ?side2 A3.out).mono ?_); (case side1 => repeat (first | exact HR0.out | (with_reducible refine Kd.C_alloc ?_ _) | (with_reducible refine Kd.C_drewN ?_ _) | (with_reducible refine Kd.C_drew ?_))); (case side2 => exact HC0.out); rintro e w4 ⟨rfl, hb⟩; have n0_ := Aside0.mk (below_step (by repeat (first | (with_reducible first | exact HB.out | apply below_alloc | apply pw_below_drewN | apply below_drew1) | exact HB.out)) hb); clear HB; have HB := n0_; clear n0_; (try clear hb); (try clear hb2); (try clear hk); (try clear hi)))
  go_ret
  exact ⟨by first | rfl | (simp [errW_none, errW_some] <;> rfl) | (simp [*, errW_none, errW_some] <;> rfl), by repeat (first | (with_reducible first | exact HB.out | apply below_alloc | apply pw_below_drewN | apply below_drew1) | exact HB.out)⟩

/-! ### impl_AreThings: function 26 -/
def impl_AreThings.f (k : Nat) (l0 : List (S57)) : Option (Bool) := (impl_within.f (l0.length : Int) 1 4).bind fun t248 => (if t248 = true then ((impl_Thing_66_at_impl_AreThings_1.f k l0).bind fun t249 => (some (!t249))) else (some false))
theorem impl_AreThings.mono : ∀ a0 k, LeO (impl_AreThings.f k a0) (impl_AreThings.f (k + 1) a0) := by
  intro a0 k
  unfold impl_AreThings.f
  repeat' first
      | (with_reducible exact impl_Thing_66_at_impl_AreThings_1.mono _ _)
      | (with_reducible exact LeO.refl _)
      | (with_reducible exact LeO.none _)
      | (with_reducible refine LeO.ite ?_ ?_)
      | (with_reducible refine LeO.bind ?_ (fun _ => ?_))
      | exact impl_Thing_66_at_impl_AreThings_1.mono _ _
      | exact LeO.none _
      | refine LeO.ite ?_ ?_
      | refine LeO.bind ?_ (fun _ => ?_)
set_option maxHeartbeats 8000000 in
set_option maxRecDepth 100000 in
theorem impl_AreThings.calls (k : Nat) (A0 : Option Addr) (c0 : Nat) (l0 : List (S57)) (r : Bool) (w : World) (hr0 : Kd.C k57 w A0 l0.length l0) (hc0 : l0.length ≤ c0) (h : impl_AreThings.f k l0 = some r) :
    Calls Try.prog 26 #[.slice A0 l0.length c0] w fun e w' => e = .returned (.bool r) ∧ Below w.heap.size w w' := by
  have HR0 := Aside0.mk hr0
  have HC0 := Aside0.mk hc0
  clear hr0 hc0
  have HB := Aside0.mk (Below.refl w.heap.size w)
  have H : ((impl_within.f (l0.length : Int) 1 4).bind fun t248 => (if t248 = true then ((impl_Thing_66_at_impl_AreThings_1.f k l0).bind fun t249 => (some (!t249))) else (some false))) = some r := h
  clear h
  replace H := Option.bind_eq_some_iff.mp H
  obtain ⟨t248, A20, H⟩ := H
  replace H : (if t248 = true then ((impl_Thing_66_at_impl_AreThings_1.f k l0).bind fun t249 => (some (!t249))) else (some false)) = some r := H
  have A2 := Aside0.mk A20
  clear A20
  by_cases c3 : t248 = true
  · subst c3
    have H1 : ((impl_Thing_66_at_impl_AreThings_1.f k l0).bind fun t249 => (some (!t249))) = some r := by rw [if_pos rfl] at H; exact H
    clear H
    have H := H1
    clear H1
    replace H := Option.bind_eq_some_iff.mp H
    obtain ⟨t249, A40, H⟩ := H
    replace H : (some (!t249)) = some r := H
    have A4 := Aside0.mk A40
    clear A40
    obtain rfl := Option.some.inj H
    go_enter Try.func26, Try.ntmps26
    go_wp2_with (first | ((with_reducible refine gate_callee (f := 65) rfl ?_); refine goesL_ (some 5) rfl rfl Try.func65 (by kernel_rfl) rfl #[.int .i64 (l0.length : Int), .int .i64 1, .int .i64 4] rfl (by (try simp only [List.map_toArray, List.map_cons, List.map_nil]); first | done | rfl | (simp only [List.length_drop, List.length_take]; rfl)) ?_; (with_reducible refine (impl_within.calls (l0.length : Int) 1 4 true _ A2.out).mono ?_); rintro e w' ⟨rfl, ⟨nd, rfl⟩⟩; refine ⟨_, rfl, ?_⟩) | (go_at_call 66; (with_reducible refine (impl_Thing_66_at_impl_AreThings_1.calls k _ _ l0  t249 _ ?side1 ?side2 A4.out).mono ?_); (case side1 => repeat (first | exact HR0.out | (with_reducible refine Kd.C_alloc ?_ _) | (with_reducible refine Kd.C_drewN ?_ _) | (with_reducible refine Kd.C_drew ?_))); (case side2 => exact HC0.out); rintro e w5 ⟨rfl, hb⟩; have n0_ := Aside0.mk (below_step (by repeat (first | (with_reducible first | exact HB.out | apply below_alloc | apply pw_below_drewN | apply below_drew1) | exact HB.out)) hb); clear HB; have HB := n0_; clear n0_; (try clear hb); (try clear hb2); (try clear hk); (try clear hi)))
    go_ret
    exact ⟨by first | rfl | (simp [errW_none, errW_some] <;> rfl) | (simp [*, errW_none, errW_some] <;> rfl), by repeat (first | (with_reducible first | exact HB.out | apply below_alloc | apply pw_below_drewN | apply below_drew1) | exact HB.out)⟩
  · replace c3 := Bool.eq_false_iff.mpr c3
    subst c3
    have H1 : (some false) = some r := by rw [if_neg (show ¬ (false = true) by decide)] at H; exact H
    clear H
    have H := H1
    clear H1
    obtain rfl := Option.some.inj H
    go_enter Try.func26, Try.ntmps26
    go_wp2_with (first | ((with_reducible refine gate_callee (f := 65) rfl ?_); refine goesL_ (some 5) rfl rfl Try.func65 (by kernel_rfl) rfl #[.int .i64 (l0.length : Int), .int .i64 1, .int .i64 4] rfl (by (try simp only [List.map_toArray, List.map_cons, List.map_nil]); first | done | rfl | (simp only [List.length_drop, List.length_take]; rfl)) ?_; (with_reducible refine (impl_within.calls (l0.length : Int) 1 4 false _ A2.out).mono ?_); rintro e w' ⟨rfl, ⟨nd, rfl⟩⟩; refine ⟨_, rfl, ?_⟩))
    go_ret
    exact ⟨by first | rfl | (simp [errW_none, errW_some] <;> rfl) | (simp [*, errW_none, errW_some] <;> rfl), by repeat (first | (with_reducible first | exact HB.out | apply below_alloc | apply pw_below_drewN | apply below_drew1) | exact HB.out)⟩

/-! ### impl_isMixedPlan_1: function 77 -/
def impl_isMixedPlan_1.f (l0 : List Int) : Option (Bool) := some (decide ((l0.length : Int) > 8))
set_option maxHeartbeats 8000000 in
set_option maxRecDepth 100000 in
theorem impl_isMixedPlan_1.calls (A0 : Option Addr) (c0 : Nat) (l0 : List Int) (r : Bool) (w : World) (hr0 : Kd.C (Kd.int .i64) w A0 l0.length l0) (hc0 : l0.length ≤ c0) (h : impl_isMixedPlan_1.f l0 = some r) :
    Calls Try.prog 77 #[.slice A0 l0.length c0] w fun e w' => e = .returned (.bool r) ∧ Drawn0 w w' := by
  have HR0 := Aside0.mk hr0
  have HC0 := Aside0.mk hc0
  clear hr0 hc0
  have H : (some (decide ((l0.length : Int) > 8))) = some r := h
  clear h
  obtain rfl := Option.some.inj H
  go_enter Try.func77, Try.ntmps77
  go_wp2
  go_ret
  exact ⟨by first | rfl | (simp; done) | (simp [*]; done), by repeat (first | exact Drawn0.refl _ | apply Drawn0.step)⟩

/-! ### slices_IndexFunc_int_int_at_impl_isMixedPlan_1: function 107 -/
def slices_IndexFunc_int_int_at_impl_isMixedPlan_1.l0 : Nat → List (List Int) → Int → Int → Option (Int)
  | 0, _, _, _ => none
  | k + 1, x0, x7, x8 => if x8 < x7 then (if 0 ≤ x8 then (if x8 < (x0.length : Int) then ((impl_isMixedPlan_1.f (rd_L2 x0 x8)).bind fun t251 => (if t251 = true then (some x8) else (slices_IndexFunc_int_int_at_impl_isMixedPlan_1.l0 k x0 x7 (wrap64 (x8 + 1))))) else (none)) else (none)) else (some (-1))
def slices_IndexFunc_int_int_at_impl_isMixedPlan_1.f (k : Nat) (l0 : List (List Int))  : Option (Int) := slices_IndexFunc_int_int_at_impl_isMixedPlan_1.l0 k l0 (l0.length : Int) 0
theorem slices_IndexFunc_int_int_at_impl_isMixedPlan_1.mono_l : ∀ k, (∀ y0 y1 y2, LeO (slices_IndexFunc_int_int_at_impl_isMixedPlan_1.l0 k y0 y1 y2) (slices_IndexFunc_int_int_at_impl_isMixedPlan_1.l0 (k + 1) y0 y1 y2))
  | 0 => fun _ _ _ r h => by simp [slices_IndexFunc_int_int_at_impl_isMixedPlan_1.l0] at h
  | k + 1 => by
    have ih0 := slices_IndexFunc_int_int_at_impl_isMixedPlan_1.mono_l k
    · intro y0 y1 y2
      unfold slices_IndexFunc_int_int_at_impl_isMixedPlan_1.l0
      repeat' first
      | (with_reducible exact ih0 _ _ _)
      | (with_reducible exact LeO.refl _)
      | (with_reducible exact LeO.none _)
      | (with_reducible refine LeO.ite ?_ ?_)
      | (with_reducible refine LeO.bind ?_ (fun _ => ?_))
      | exact ih0 _ _ _
      | exact LeO.none _
      | refine LeO.ite ?_ ?_
      | refine LeO.bind ?_ (fun _ => ?_)
theorem slices_IndexFunc_int_int_at_impl_isMixedPlan_1.mono : ∀ a0 k, LeO (slices_IndexFunc_int_int_at_impl_isMixedPlan_1.f k a0) (slices_IndexFunc_int_int_at_impl_isMixedPlan_1.f (k + 1) a0) := by
  intro a0 k
  have ih0 := slices_IndexFunc_int_int_at_impl_isMixedPlan_1.mono_l k
  unfold slices_IndexFunc_int_int_at_impl_isMixedPlan_1.f
  repeat' first
      | (with_reducible exact ih0 _ _ _)
      | (with_reducible exact LeO.refl _)
      | (with_reducible exact LeO.none _)
      | (with_reducible refine LeO.ite ?_ ?_)
      | (with_reducible refine LeO.bind ?_ (fun _ => ?_))
      | exact ih0 _ _ _
      | exact LeO.none _
      | refine LeO.ite ?_ ?_
      | refine LeO.bind ?_ (fun _ => ?_)
set_option maxHeartbeats 8000000 in
set_option maxRecDepth 100000 in
theorem slices_IndexFunc_int_int_at_impl_isMixedPlan_1.calls (k : Nat) (A0 : Option Addr) (c0 : Nat) (l0 : List (List Int))  (r : Int) (w : World) (hr0 : Kd.C (Kd.slice 3 (Kd.int .i64)) w A0 l0.length l0) (hc0 : l0.length ≤ c0) (h : slices_IndexFunc_int_int_at_impl_isMixedPlan_1.f k l0 = some r) :
    Calls Try.prog 85 #[.slice A0 l0.length c0, .func (.func 77) #[] #[]] w fun e w' => e = .returned (.int .i64 r) ∧ Below w.heap.size w w' := by
  have HR0 := Aside0.mk hr0
  have HC0 := Aside0.mk hc0
  clear hr0 hc0
  have HB := Aside0.mk (Below.refl w.heap.size w)
  have H : (slices_IndexFunc_int_int_at_impl_isMixedPlan_1.l0 k l0 (l0.length : Int) 0) = some r := h
  clear h
  have H' := Aside0.mk H
  clear H
  go_enter Try.func85, Try.ntmps85
  go_wp2
  go_loopg [8] k (fun kq v8 w' => ∃ (x8_1 : Int), v8 = .int .i64 x8_1 ∧ Aside0 (slices_IndexFunc_int_int_at_impl_isMixedPlan_1.l0 kq l0 (l0.length : Int) x8_1 = some r) ∧ Aside0 (kq ≤ k) ∧ Aside0 (Below w.heap.size w w'))
  case atStart => exact ⟨(0), (by first | rfl | (simp; done) | (simp [*]; done)), H', ⟨Nat.le_refl _⟩, ⟨by repeat (first | (with_reducible first | exact HB.out | apply below_alloc | apply pw_below_drewN | apply below_drew1) | exact HB.out)⟩⟩
  case round =>
    clear H'
    try clear p2
    obtain ⟨x8_1, rfl, HA, HK1, HB⟩ := hrel
    cases gk with
    | zero => exact absurd HA.out (by simp [slices_IndexFunc_int_int_at_impl_isMixedPlan_1.l0])
    | succ k1 =>
      have H := HA.out
      clear HA
      simp only [slices_IndexFunc_int_int_at_impl_isMixedPlan_1.l0] at H
      by_cases c3 : x8_1 < (l0.length : Int)
      · rw [if_pos c3] at H
        have c3b0 : decide (x8_1 < (l0.length : Int)) = true := decide_eq_true c3
        clear c3
        by_cases c4 : 0 ≤ x8_1
        · rw [if_pos c4] at H
          have c4b0 : decide (0 ≤ x8_1) = true := decide_eq_true c4
          clear c4
          by_cases c5 : x8_1 < (l0.length : Int)
          · rw [if_pos c5] at H
            have c5b0 : decide (x8_1 < (l0.length : Int)) = true := decide_eq_true c5
            clear c5
            replace H := Option.bind_eq_some_iff.mp H
            obtain ⟨t251, A60, H⟩ := H
            replace H : (if t251 = true then (some x8_1) else (slices_IndexFunc_int_int_at_impl_isMixedPlan_1.l0 k1 l0 (l0.length : Int) (wrap64 (x8_1 + 1)))) = some r := H
            have A6 := Aside0.mk A60
            clear A60
            by_cases c7 : t251 = true
            · subst c7
              have H1 : (some x8_1) = some r := by rw [if_pos rfl] at H; exact H
              clear H
              have H := H1
              clear H1
              obtain rfl := Option.some.inj H
              have p250 : 0 ≤ (x8_1 : Int) := of_decide_eq_true (by first | (with_reducible assumption) | assumption)
              have q250 : x8_1 < (l0.length : Int) := of_decide_eq_true (by first | (with_reducible assumption) | assumption)
              obtain ⟨ad250, A250_0, c250_0, e250, hx250_0, hl250_0, hi250_0⟩ := at_L2 HR0.out x8_1 p250 q250
              cases e250
              (try replace hx250_0 := (HB.out.cell (World.block_lt_of_cell? w _ hx250_0)).trans hx250_0)
              have HR250_0 := Aside0.mk hi250_0
              have HC250_0 := Aside0.mk hl250_0
              clear hi250_0 hl250_0
              replace p250 := eq_true p250
              replace q250 := eq_true q250
              go_wp2_with (first | (go_at_call 77; (with_reducible refine (impl_isMixedPlan_1.calls _ _ (rd_L2 l0 x8_1) true _ ?side1 ?side2 A6.out).mono ?_); (case side1 => repeat (first | exact (Kd.C_below HR250_0.out HB.out) | (with_reducible refine Kd.C_alloc ?_ _) | (with_reducible refine Kd.C_drewN ?_ _) | (with_reducible refine Kd.C_drew ?_))); (case side2 => exact HC250_0.out); rintro e w' ⟨rfl, ⟨nd, rfl⟩⟩))
              go_ret
              exact ⟨by first | rfl | (simp [errW_none, errW_some] <;> rfl) | (simp [*, errW_none, errW_some] <;> rfl), by repeat (first | (with_reducible first | exact HB.out | apply below_alloc | apply pw_below_drewN | apply below_drew1) | exact HB.out)⟩
            · replace c7 := Bool.eq_false_iff.mpr c7
              subst c7
              have H1 : (slices_IndexFunc_int_int_at_impl_isMixedPlan_1.l0 k1 l0 (l0.length : Int) (wrap64 (x8_1 + 1))) = some r := by rw [if_neg (show ¬ (false = true) by decide)] at H; exact H
              clear H
              have H := H1
              clear H1
              have H' := Aside0.mk H
              clear H
              have p250 : 0 ≤ (x8_1 : Int) := of_decide_eq_true (by first | (with_reducible assumption) | assumption)
              have q250 : x8_1 < (l0.length : Int) := of_decide_eq_true (by first | (with_reducible assumption) | assumption)
              obtain ⟨ad250, A250_0, c250_0, e250, hx250_0, hl250_0, hi250_0⟩ := at_L2 HR0.out x8_1 p250 q250
              cases e250
              (try replace hx250_0 := (HB.out.cell (World.block_lt_of_cell? w _ hx250_0)).trans hx250_0)
              have HR250_0 := Aside0.mk hi250_0
              have HC250_0 := Aside0.mk hl250_0
              clear hi250_0 hl250_0
              replace p250 := eq_true p250
              replace q250 := eq_true q250
              go_wp2_with (first | (go_at_call 77; (with_reducible refine (impl_isMixedPlan_1.calls _ _ (rd_L2 l0 x8_1) false _ ?side1 ?side2 A6.out).mono ?_); (case side1 => repeat (first | exact (Kd.C_below HR250_0.out HB.out) | (with_reducible refine Kd.C_alloc ?_ _) | (with_reducible refine Kd.C_drewN ?_ _) | (with_reducible refine Kd.C_drew ?_))); (case side2 => exact HC250_0.out); rintro e w' ⟨rfl, ⟨nd, rfl⟩⟩))
              go_roundg k1
              case measure => have := HK1.out; omega
              case rel => exact ⟨(wrap64 (x8_1 + 1)), (by first | rfl | (simp; done) | (simp [*]; done)), H', ⟨by have := HK1.out; omega⟩, ⟨by repeat (first | (with_reducible first | exact HB.out | apply below_alloc | apply pw_below_drewN | apply below_drew1) | exact HB.out)⟩⟩
          · rw [if_neg c5] at H
            exact absurd H (by simp)
        · rw [if_neg c4] at H
          exact absurd H (by simp)
      · rw [if_neg c3] at H
        have c3b0 : decide (x8_1 < (l0.length : Int)) = false := decide_eq_false c3
        clear c3
        obtain rfl := Option.some.inj H
        go_wp2
        go_ret
        exact ⟨by first | rfl | (simp [errW_none, errW_some] <;> rfl) | (simp [*, errW_none, errW_some] <;> rfl), by repeat (first | (with_reducible first | exact HB.out | apply below_alloc | apply pw_below_drewN | apply below_drew1) | exact HB.out)⟩

/-! ### slices_ContainsFunc_int_int_at_impl_isMixedPlan_1: function 106 -/
def slices_ContainsFunc_int_int_at_impl_isMixedPlan_1.f (k : Nat) (l0 : List (List Int))  : Option (Bool) := (slices_IndexFunc_int_int_at_impl_isMixedPlan_1.f k l0).bind fun t252 => (some (decide (t252 ≥ 0)))
theorem slices_ContainsFunc_int_int_at_impl_isMixedPlan_1.mono : ∀ a0 k, LeO (slices_ContainsFunc_int_int_at_impl_isMixedPlan_1.f k a0) (slices_ContainsFunc_int_int_at_impl_isMixedPlan_1.f (k + 1) a0) := by
  intro a0 k
  unfold slices_ContainsFunc_int_int_at_impl_isMixedPlan_1.f
  repeat' first
      | (with_reducible exact slices_IndexFunc_int_int_at_impl_isMixedPlan_1.mono _ _)
      | (with_reducible exact LeO.refl _)
      | (with_reducible exact LeO.none _)
      | (with_reducible refine LeO.ite ?_ ?_)
      | (with_reducible refine LeO.bind ?_ (fun _ => ?_))
      | exact slices_IndexFunc_int_int_at_impl_isMixedPlan_1.mono _ _
      | exact LeO.none _
      | refine LeO.ite ?_ ?_
      | refine LeO.bind ?_ (fun _ => ?_)
set_option maxHeartbeats 8000000 in
set_option maxRecDepth 100000 in
theorem slices_ContainsFunc_int_int_at_impl_isMixedPlan_1.calls (k : Nat) (A0 : Option Addr) (c0 : Nat) (l0 : List (List Int))  (r : Bool) (w : World) (hr0 : Kd.C (Kd.slice 3 (Kd.int .i64)) w A0 l0.length l0) (hc0 : l0.length ≤ c0) (h : slices_ContainsFunc_int_int_at_impl_isMixedPlan_1.f k l0 = some r) :
    Calls Try.prog 76 #[.slice A0 l0.length c0, .func (.func 77) #[] #[]] w fun e w' => e = .returned (.bool r) ∧ Below w.heap.size w w' := by
  have HR0 := Aside0.mk hr0
  have HC0 := Aside0.mk hc0
  clear hr0 hc0
  have HB := Aside0.mk (Below.refl w.heap.size w)
  have H : ((slices_IndexFunc_int_int_at_impl_isMixedPlan_1.f k l0).bind fun t252 => (some (decide (t252 ≥ 0)))) = some r := h
  clear h
  replace H := Option.bind_eq_some_iff.mp H
  obtain ⟨t252, A30, H⟩ := H
  replace H : (some (decide (t252 ≥ 0))) = some r := H
  have A3 := Aside0.mk A30
  clear A30
  obtain rfl := Option.some.inj H
  go_enter Try.func76, Try.ntmps76
  go_wp2_with (first | (go_at_call 85; (with_reducible refine (slices_IndexFunc_int_int_at_impl_isMixedPlan_1.calls k _ _ l0  t252 _ ?side1 ?side2 A3.out).mono ?_); (case side1 => repeat (first | exact HR0.out | (with_reducible refine Kd.C_alloc ?_ _) | (with_reducible refine Kd.C_drewN ?_ _) | (with_reducible refine Kd.C_drew ?_))); (case side2 => exact HC0.out); rintro e w4 ⟨rfl, hb⟩; have n0_ := Aside0.mk (below_step (by repeat (first | (with_reducible first | exact HB.out | apply below_alloc | apply pw_below_drewN | apply below_drew1) | exact HB.out)) hb); clear HB; have HB := n0_; clear n0_; (try clear hb); (try clear hb2); (try clear hk); (try clear hi)))
  go_ret
  exact ⟨by first | rfl | (simp [errW_none, errW_some] <;> rfl) | (simp [*, errW_none, errW_some] <;> rfl), by repeat (first | (with_reducible first | exact HB.out | apply below_alloc | apply pw_below_drewN | apply below_drew1) | exact HB.out)⟩

/-! ### impl_isMixedPlan: function 52 -/
def impl_isMixedPlan.f (k : Nat) (l0 : List (List Int)) : Option (Bool) := if (l0.length : Int) ≤ 8 then ((slices_ContainsFunc_int_int_at_impl_isMixedPlan_1.f k l0).bind fun t253 => (some (!t253))) else (some false)
theorem impl_isMixedPlan.mono : ∀ a0 k, LeO (impl_isMixedPlan.f k a0) (impl_isMixedPlan.f (k + 1) a0) := by
  intro a0 k
  unfold impl_isMixedPlan.f
  repeat' first
      | (with_reducible exact slices_ContainsFunc_int_int_at_impl_isMixedPlan_1.mono _ _)
      | (with_reducible exact LeO.refl _)
      | (with_reducible exact LeO.none _)
      | (with_reducible refine LeO.ite ?_ ?_)
      | (with_reducible refine LeO.bind ?_ (fun _ => ?_))
      | exact slices_ContainsFunc_int_int_at_impl_isMixedPlan_1.mono _ _
      | exact LeO.none _
      | refine LeO.ite ?_ ?_
      | refine LeO.bind ?_ (fun _ => ?_)
set_option maxHeartbeats 8000000 in
set_option maxRecDepth 100000 in
theorem impl_isMixedPlan.calls (k : Nat) (A0 : Option Addr) (c0 : Nat) (l0 : List (List Int)) (r : Bool) (w : World) (hr0 : Kd.C (Kd.slice 3 (Kd.int .i64)) w A0 l0.length l0) (hc0 : l0.length ≤ c0) (h : impl_isMixedPlan.f k l0 = some r) :
    Calls Try.prog 52 #[.slice A0 l0.length c0] w fun e w' => e = .returned (.bool r) ∧ Below w.heap.size w w' := by
  have HR0 := Aside0.mk hr0
  have HC0 := Aside0.mk hc0
  clear hr0 hc0
  have HB := Aside0.mk (Below.refl w.heap.size w)
  have H : (if (l0.length : Int) ≤ 8 then ((slices_ContainsFunc_int_int_at_impl_isMixedPlan_1.f k l0).bind fun t253 => (some (!t253))) else (some false)) = some r := h
  clear h
  by_cases c2 : (l0.length : Int) ≤ 8
  · rw [if_pos c2] at H
    have c2b0 : decide ((l0.length : Int) ≤ 8) = true := decide_eq_true c2
    have c2b1 : decide (l0.length ≤ 8) = true := decide_eq_true (by omega)
    clear c2
    replace H := Option.bind_eq_some_iff.mp H
    obtain ⟨t253, A30, H⟩ := H
    replace H : (some (!t253)) = some r := H
    have A3 := Aside0.mk A30
    clear A30
    obtain rfl := Option.some.inj H
    go_enter Try.func52, Try.ntmps52
    go_wp2_with (first | (go_at_call 76; (with_reducible refine (slices_ContainsFunc_int_int_at_impl_isMixedPlan_1.calls k _ _ l0  t253 _ ?side1 ?side2 A3.out).mono ?_); (case side1 => repeat (first | exact HR0.out | (with_reducible refine Kd.C_alloc ?_ _) | (with_reducible refine Kd.C_drewN ?_ _) | (with_reducible refine Kd.C_drew ?_))); (case side2 => exact HC0.out); rintro e w4 ⟨rfl, hb⟩; have n0_ := Aside0.mk (below_step (by repeat (first | (with_reducible first | exact HB.out | apply below_alloc | apply pw_below_drewN | apply below_drew1) | exact HB.out)) hb); clear HB; have HB := n0_; clear n0_; (try clear hb); (try clear hb2); (try clear hk); (try clear hi)))
    go_ret
    exact ⟨by first | rfl | (simp [errW_none, errW_some] <;> rfl) | (simp [*, errW_none, errW_some] <;> rfl), by repeat (first | (with_reducible first | exact HB.out | apply below_alloc | apply pw_below_drewN | apply below_drew1) | exact HB.out)⟩
  · rw [if_neg c2] at H
    have c2b0 : decide ((l0.length : Int) ≤ 8) = false := decide_eq_false c2
    have c2b1 : decide (l0.length ≤ 8) = false := decide_eq_false (by omega)
    clear c2
    obtain rfl := Option.some.inj H
    go_enter Try.func52, Try.ntmps52
    go_wp2
    go_ret
    exact ⟨by first | rfl | (simp [errW_none, errW_some] <;> rfl) | (simp [*, errW_none, errW_some] <;> rfl), by repeat (first | (with_reducible first | exact HB.out | apply below_alloc | apply pw_below_drewN | apply below_drew1) | exact HB.out)⟩

/-! ### impl_Thing_53: function 53 -/
def impl_Thing_53.f (l0 : List (S57)) : Option ((List (S57))) := (some (([] : List (S57)) : List (S57))).bind fun y254 => (if y254.length + l0.length < 4398046511104 then (some (y254 ++ l0)) else (none))
set_option maxHeartbeats 8000000 in
set_option maxRecDepth 100000 in
theorem impl_Thing_53.calls (A0 : Option Addr) (c0 : Nat) (l0 : List (S57)) (r : List (S57)) (w : World) (hr0 : Kd.C k57 w A0 l0.length l0) (hc0 : l0.length ≤ c0) (h : impl_Thing_53.f l0 = some r) :
    Calls Try.prog 53 #[.slice A0 l0.length c0] w fun e w' => ∃ v0_ : Value, e = .returned (v0_) ∧ Kd.R k57 57 w' w.heap.size (fun _ => True) v0_ r ∧ Below w.heap.size w w' := by
  have HR0 := Aside0.mk hr0
  have HC0 := Aside0.mk hc0
  clear hr0 hc0
  have HB := Aside0.mk (Below.refl w.heap.size w)
  have H : ((some (([] : List (S57)) : List (S57))).bind fun y254 => (if y254.length + l0.length < 4398046511104 then (some (y254 ++ l0)) else (none))) = some r := h
  clear h
  by_cases hnq2 : A0 = none
  · have hznq2 := Aside0.mk (C_none_nil (by have h_ := HR0.out; rw [hnq2] at h_; exact h_))
    have hsnq2 := fun W => eql_nil (P := Try.prog) (t := 27) (a := A0) (n := l0.length) (c := c0) (n' := 0) (c' := 0) (b := true) Try.underlying27 (by rw [hnq2]; rfl) W
    clear hnq2
    replace H : (some ([] : List (S57))) = some r := by rw [hznq2.out] at H; first | (simpa using H) | exact H
    obtain rfl := Option.some.inj H
    go_enter Try.func53, Try.ntmps53
    go_wp2
    go_ret
    exact ⟨_, by first | rfl | (simp [errW_none, errW_some] <;> rfl) | (simp [*, errW_none, errW_some] <;> rfl), by first | exact Kd.R_nil _ _ _ _ _ | exact Kd.N_nil _ _ _ _ _ | exact Kd.V_nil _ _ _ _ _ | exact Kd.Q_nil _ _ _ _ _ | exact Kd.S_nil _ _ _ _ _, by repeat (first | (with_reducible first | exact HB.out | apply below_alloc | apply pw_below_drewN | apply below_drew1) | exact HB.out)⟩
  · have hsnq2 := fun W => eql_nil (P := Try.prog) (t := 27) (a := A0) (n := l0.length) (c := c0) (n' := 0) (c' := 0) (b := false) Try.underlying27 (by cases hx_ : A0 with | none => exact absurd hx_ hnq2 | some _ => rfl) W
    clear hnq2
    obtain ⟨y254, hy254⟩ : ∃ y_ : List (S57), y_ = (([] : List (S57))) := ⟨_, rfl⟩
    replace H : (if y254.length + l0.length < 4398046511104 then (some (y254 ++ l0)) else (none)) = some r := by first | (rw [hy254]; with_reducible exact H) | (have H2_ := (Option.bind_some _ _).symm.trans H; rw [hy254]; with_reducible exact H2_) | (have H2_ := (Option.bind_some _ _).symm.trans H; with_reducible exact H2_) | with_reducible exact H | (rw [hy254]; exact H) | exact H
    have Ny254 := Aside0.mk hy254
    clear hy254
    by_cases c3 : y254.length + l0.length < 4398046511104
    · rw [if_pos c3] at H
      have LMc3 := Aside0.mk c3
      clear c3
      obtain ⟨y257, hy257⟩ : ∃ y_ : List (S57), y_ = (y254 ++ l0) := ⟨_, rfl⟩
      replace H : (some y257) = some r := by first | (rw [hy257]; with_reducible exact H) | (have H2_ := (Option.bind_some _ _).symm.trans H; rw [hy257]; with_reducible exact H2_) | (have H2_ := (Option.bind_some _ _).symm.trans H; with_reducible exact H2_) | with_reducible exact H | (rw [hy257]; exact H) | exact H
      have Ny257 := Aside0.mk hy257
      clear hy257
      obtain rfl := Option.some.inj H
      go_enter Try.func53, Try.ntmps53
      go_wp2_with (first | ((with_reducible refine gate_dst (N := 5) rfl ?_); refine Kd.R_lit k57 _ 57 ?hg (N := 5) ?hd (xs := ([] : List (S57))) (inner := []) (ok := fun _ => True) (okp := fun _ => True) ?hr ?hp (fun _ hk => hk) trivial (Below.refl _ _) (Nat.le_refl _) (by simp) ?_; (case hd => rfl); (case hg => rfl); (case hr => first | (go_simp; done) | (go_simp; rfl)); (case hp => exact (Reps.none _ _)); intro v255 w4 ho5 hb hg_ hnew_; clear hg_ hnew_; (first | rw [← Ny254.out] at ho5 | (simp only [Int.reduceToNat] at ho5; rw [← Ny254.out] at ho5)); have n0_ := Aside0.mk (Kd.R_lower ho5 (below_size (by repeat (first | (with_reducible first | exact HB.out | apply below_alloc | apply pw_below_drewN | apply below_drew1) | exact HB.out)))); have n1_ := Aside0.mk (below_step (by repeat (first | (with_reducible first | exact HB.out | apply below_alloc | apply pw_below_drewN | apply below_drew1) | exact HB.out)) hb); clear HB; have HO256 := n0_; have HB := n1_; clear n0_ n1_; clear hb ho5) | ((with_reducible refine gate_builtin (b := .append) (xs := #[.tmp 5, .tmp 6]) rfl ?_); at_builtin; refine Kd.R_append_rows k57 (w0 := w) w.heap.size rfl (.tmp 5) (.tmp 6) 27 57 (.agg #[(.int .i64 0), (.int .i64 0), (.int .i64 0), (.int .i64 0)]) 32 rfl Try.underlying27 info57 rfl (by decide) (by omega) v255 y254 l0 _ _ _ (fun _ => True) (fun _ => False) rfl rfl ?aO ?aR (fun _ _ h => h) (fun _ h => h.elim) ?aF ?aB ?aS ?aL ?_; (case aR => repeat (first | exact (Kd.C_below HR0.out HB.out) | (with_reducible refine Kd.C_alloc ?_ _) | (with_reducible refine Kd.C_drewN ?_ _) | (with_reducible refine Kd.C_drew ?_))); (case aB => exact (by repeat (first | (with_reducible first | exact HB.out | apply below_alloc | apply pw_below_drewN | apply below_drew1) | exact HB.out))); (case aF => exact (fun _ _ => trivial)); (case aO => exact (by (with_reducible repeat (first | apply Kd.R_alloc | apply Kd.R_drewN | apply Kd.R_drew)); exact HO256.out)); (case aS => exact (below_size (by repeat (first | (with_reducible first | exact HB.out | apply below_alloc | apply pw_below_drewN | apply below_drew1) | exact HB.out)))); (case aL => have := LMc3.out; omega); intro v258 w6 ho hb hg hat; rw [← Ny257.out] at ho; have n0_ := Aside0.mk (hb); have n1_ := Aside0.mk (ho); clear HB; clear HO256; have HB := n0_; have HO259 := n1_; clear n0_ n1_; clear ho hb hg hat))
      go_ret
      exact ⟨_, by first | rfl | (simp [errW_none, errW_some] <;> rfl) | (simp [*, errW_none, errW_some] <;> rfl), by (with_reducible repeat (first | apply Kd.R_alloc | apply Kd.R_drewN | apply Kd.R_drew)); exact HO259.out, by repeat (first | (with_reducible first | exact HB.out | apply below_alloc | apply pw_below_drewN | apply below_drew1) | exact HB.out)⟩
    · rw [if_neg c3] at H
      exact absurd H (by simp)

/-- An act on a thing: none if it is not possible; else which field it writes, and what. -/
def actW (k l f t : Int) : Option (Nat × Int) :=
  if k = 1 then some (2, wrap64 (wrap64 (4 * l) - f))
  else if k = 2 ∧ 0 < f ∧ t < 2 then some (3, wrap64 (t + 1))
  else if k = 3 ∧ 0 < f then some (3, wrap64 (1 - t))
  else none
/-- What an act leaves of the memory. -/
def ActPost (w : World) (g o : Nat) (z : Option (Nat × Int)) (e : Ending) (w' : World) : Prop := match z with
  | some (j, x) => e = .returned (.bool true) ∧ ∃ n m, w' = ((w.drewN n).setCell ⟨g, o + j, none⟩ (.int .i64 x)).drewN m
  | none => e = .returned (.bool false) ∧ ∃ n, w' = w.drewN n
set_option maxHeartbeats 4000000 in
set_option maxRecDepth 100000 in
theorem act_one (w : World) (g o : Nat) (l f : Int) (c0 : w.cell? ⟨g, o, none⟩ = some (.int .i64 1)) (c1 : w.cell? ⟨g, o + 1, none⟩ = some (.int .i64 l)) (c2 : w.cell? ⟨g, o + 2, none⟩ = some (.int .i64 f)) (z2 : w.frozen? ⟨g, o + 2, none⟩ = false) :
    Calls Try.prog 63 #[.pointer (some ⟨g, o, none⟩)] w (ActPost w g o (some (2, wrap64 (wrap64 (4 * l) - f)))) := by
  go_enter Try.func63, Try.ntmps63
  go_wp2
  go_region
  all_goals
    go_wp2
    go_ret
    exact ⟨rfl, by first | exact ⟨0, 0, rfl⟩ | exact ⟨_, 0, rfl⟩ | exact ⟨1, 0, rfl⟩ | exact ⟨_, _, rfl⟩⟩
set_option maxHeartbeats 4000000 in
set_option maxRecDepth 100000 in
theorem act_two (w : World) (g o : Nat) (f t : Int) (c0 : w.cell? ⟨g, o, none⟩ = some (.int .i64 2)) (c2 : w.cell? ⟨g, o + 2, none⟩ = some (.int .i64 f)) (c3 : w.cell? ⟨g, o + 3, none⟩ = some (.int .i64 t)) (z3 : w.frozen? ⟨g, o + 3, none⟩ = false) (hf : 0 < f) (ht : t < 2) :
    Calls Try.prog 63 #[.pointer (some ⟨g, o, none⟩)] w (ActPost w g o (some (3, wrap64 (t + 1)))) := by
  have d1 : decide (0 < f) = true := decide_eq_true hf
  have d2 : decide (t < 2) = true := decide_eq_true ht
  clear hf ht
  go_enter Try.func63, Try.ntmps63
  go_wp2
  go_ret
  exact ⟨rfl, by first | exact ⟨0, 0, rfl⟩ | exact ⟨_, 0, rfl⟩ | exact ⟨1, 0, rfl⟩ | exact ⟨_, _, rfl⟩⟩
set_option maxHeartbeats 4000000 in
set_option maxRecDepth 100000 in
theorem act_three (w : World) (g o : Nat) (f t : Int) (c0 : w.cell? ⟨g, o, none⟩ = some (.int .i64 3)) (c2 : w.cell? ⟨g, o + 2, none⟩ = some (.int .i64 f)) (c3 : w.cell? ⟨g, o + 3, none⟩ = some (.int .i64 t)) (z3 : w.frozen? ⟨g, o + 3, none⟩ = false) (hf : 0 < f) :
    Calls Try.prog 63 #[.pointer (some ⟨g, o, none⟩)] w (ActPost w g o (some (3, wrap64 (1 - t)))) := by
  have d1 : decide (0 < f) = true := decide_eq_true hf
  clear hf
  go_enter Try.func63, Try.ntmps63
  go_wp2
  go_ret
  exact ⟨rfl, by first | exact ⟨0, 0, rfl⟩ | exact ⟨_, 0, rfl⟩ | exact ⟨1, 0, rfl⟩ | exact ⟨_, _, rfl⟩⟩
set_option maxHeartbeats 4000000 in
set_option maxRecDepth 100000 in
theorem act_no2 (w : World) (g o : Nat) (f t : Int) (c0 : w.cell? ⟨g, o, none⟩ = some (.int .i64 2)) (c2 : w.cell? ⟨g, o + 2, none⟩ = some (.int .i64 f)) (c3 : w.cell? ⟨g, o + 3, none⟩ = some (.int .i64 t)) (hf : ¬ (0 < f ∧ t < 2)) :
    Calls Try.prog 63 #[.pointer (some ⟨g, o, none⟩)] w (ActPost w g o none) := by
  by_cases h1 : 0 < f
  · have d1 : decide (0 < f) = true := decide_eq_true h1
    have d2 : decide (t < 2) = false := decide_eq_false (fun h => hf ⟨h1, h⟩)
    clear hf h1
    go_enter Try.func63, Try.ntmps63
    go_wp2
    go_ret
    exact ⟨rfl, by first | exact ⟨0, rfl⟩ | exact ⟨_, rfl⟩⟩
  · have d1 : decide (0 < f) = false := decide_eq_false h1
    clear hf h1
    go_enter Try.func63, Try.ntmps63
    go_wp2
    go_ret
    exact ⟨rfl, by first | exact ⟨0, rfl⟩ | exact ⟨_, rfl⟩⟩
set_option maxHeartbeats 4000000 in
set_option maxRecDepth 100000 in
theorem act_no3 (w : World) (g o : Nat) (f : Int) (c0 : w.cell? ⟨g, o, none⟩ = some (.int .i64 3)) (c2 : w.cell? ⟨g, o + 2, none⟩ = some (.int .i64 f)) (hf : ¬ 0 < f) :
    Calls Try.prog 63 #[.pointer (some ⟨g, o, none⟩)] w (ActPost w g o none) := by
  have d1 : decide (0 < f) = false := decide_eq_false hf
  clear hf
  go_enter Try.func63, Try.ntmps63
  go_wp2
  go_ret
  exact ⟨rfl, by first | exact ⟨0, rfl⟩ | exact ⟨_, rfl⟩⟩
set_option maxHeartbeats 4000000 in
set_option maxRecDepth 100000 in
theorem act_no (w : World) (g o : Nat) (k : Int) (c0 : w.cell? ⟨g, o, none⟩ = some (.int .i64 k)) (h1 : ¬ k = 1) (h2 : ¬ k = 2) (h3 : ¬ k = 3) :
    Calls Try.prog 63 #[.pointer (some ⟨g, o, none⟩)] w (ActPost w g o none) := by
  have d1 : (k == 1) = false := by simpa using h1
  have d2 : (k == 2) = false := by simpa using h2
  have d3 : (k == 3) = false := by simpa using h3
  clear h1 h2 h3
  go_enter Try.func63, Try.ntmps63
  go_wp2
  go_ret
  exact ⟨rfl, by first | exact ⟨0, rfl⟩ | exact ⟨_, rfl⟩⟩
/-- The act's contract, at any place of memory. -/
theorem act_core (w : World) (g o : Nat) (k l f t : Int) (c0 : w.cell? ⟨g, o, none⟩ = some (.int .i64 k)) (c1 : w.cell? ⟨g, o + 1, none⟩ = some (.int .i64 l)) (c2 : w.cell? ⟨g, o + 2, none⟩ = some (.int .i64 f)) (c3 : w.cell? ⟨g, o + 3, none⟩ = some (.int .i64 t)) (z2 : w.frozen? ⟨g, o + 2, none⟩ = false) (z3 : w.frozen? ⟨g, o + 3, none⟩ = false) :
    Calls Try.prog 63 #[.pointer (some ⟨g, o, none⟩)] w (ActPost w g o (actW k l f t)) := by
  unfold actW
  by_cases h1 : k = 1
  · subst h1
    rw [if_pos rfl]
    exact act_one w g o l f c0 c1 c2 z2
  · rw [if_neg h1]
    by_cases h2 : k = 2
    · subst h2
      by_cases hf : 0 < f ∧ t < 2
      · rw [if_pos ⟨rfl, hf⟩]
        exact act_two w g o f t c0 c2 c3 z3 hf.1 hf.2
      · rw [if_neg (fun h => hf h.2), if_neg (fun h => absurd h.1 (by decide))]
        exact act_no2 w g o f t c0 c2 c3 hf
    · rw [if_neg (fun h => h2 h.1)]
      by_cases h3 : k = 3
      · subst h3
        by_cases hf : 0 < f
        · rw [if_pos ⟨rfl, hf⟩]
          exact act_three w g o f t c0 c2 c3 z3 hf
        · rw [if_neg (fun h => hf h.2)]
          exact act_no3 w g o f c0 c2 hf
      · rw [if_neg (fun h => h3 h.1)]
        exact act_no w g o k c0 h1 h2 h3
theorem actW_at {k l f t : Int} {j : Nat} {x : Int} (h : actW k l f t = some (j, x)) : j = 2 ∨ j = 3 := by
  unfold actW at h
  (repeat' split at h) <;> first | (cases h; done) | (obtain ⟨rfl, _⟩ := Prod.mk.inj (Option.some.inj h); first | exact Or.inl rfl | exact Or.inr rfl)
/-- The thing behind an act. -/
def actF (k l f t : Int) : Bool × Int × Int × Int × Int := match actW k l f t with
  | some (j, x) => if j = 2 then (true, k, l, x, t) else (true, k, l, f, x)
  | none => (false, k, l, f, t)

/-! ### impl_Thing_act: function 63, its contract told by hand -/
/-! ### impl_Thing_act at an element of a row, by hand -/
def blk_ : Value → Nat
  | .slice (some p) _ _ => p.block
  | _ => 0
def impl_Thing_act_at.f (l0 : List (S57)) (a1 : Int) : Option (Bool × List (S57)) := if 0 ≤ a1 then (if a1 < (l0.length : Int) then some ((actF (rd_T57 l0 a1).f0 (rd_T57 l0 a1).f1 (rd_T57 l0 a1).f2 (rd_T57 l0 a1).f3).1, l0.set (a1 : Int).toNat ⟨(actF (rd_T57 l0 a1).f0 (rd_T57 l0 a1).f1 (rd_T57 l0 a1).f2 (rd_T57 l0 a1).f3).2.1, (actF (rd_T57 l0 a1).f0 (rd_T57 l0 a1).f1 (rd_T57 l0 a1).f2 (rd_T57 l0 a1).f3).2.2.1, (actF (rd_T57 l0 a1).f0 (rd_T57 l0 a1).f1 (rd_T57 l0 a1).f2 (rd_T57 l0 a1).f3).2.2.2.1, (actF (rd_T57 l0 a1).f0 (rd_T57 l0 a1).f1 (rd_T57 l0 a1).f2 (rd_T57 l0 a1).f3).2.2.2.2⟩) else none) else none
theorem set_getD_self (l : List S57) (i : Nat) (z : S57) : l.set i (l.getD i z) = l := by
  apply List.ext_getElem?
  intro j
  by_cases h : i = j
  · subst h
    by_cases hi : i < l.length
    · rw [List.getElem?_set_self hi, List.getD_eq_getElem?_getD, List.getElem?_eq_getElem hi]; rfl
    · rw [List.getElem?_eq_none (by rw [List.length_set]; omega), List.getElem?_eq_none (by omega)]
  · rw [List.getElem?_set_ne h]
theorem impl_Thing_act_at.calls (P0_ : Nat → Prop) (u0 : Value) (l0 : List (S57)) (a1 : Int) (r1 : Bool) (r2 : List (S57)) (w0 w : World) (hB : Below w0.heap.size w0 w) (ho0 : Kd.R k57 57 w w0.heap.size P0_ u0 l0) (h : impl_Thing_act_at.f l0 a1 = some (r1, r2)) :
    Calls Try.prog 63 #[.pointer (some ⟨blk_ u0, (a1 : Int).toNat * 4, none⟩)] w fun e w' => e = .returned (.bool r1) ∧ Kd.R k57 57 w' w0.heap.size (fun k_ => (P0_ k_ ∨ w.heap.size ≤ k_)) u0 r2 ∧ Below w0.heap.size w0 w' ∧ Kept w w' (fun k_ => P0_ k_) := by
  unfold impl_Thing_act_at.f at h
  by_cases h0 : 0 ≤ a1
  · by_cases h1 : a1 < (l0.length : Int)
    · rw [if_pos h0, if_pos h1] at h
      obtain ⟨g, cap, hu, hbase, hlt, cells, hc⟩ := Kd.R_form ho0 (by omega)
      subst hu
      obtain ⟨c, hcl, hM, hcc, hfr⟩ := Kd.R_elem ho0 z57 a1 h0 h1
      obtain rfl := k57_openM hM
      have hx : l0.getD a1.toNat z57 = rd_T57 l0 a1 := rfl
      have hset : l0.set a1.toNat (rd_T57 l0 a1) = l0 := set_getD_self l0 a1.toNat z57
      generalize rd_T57 l0 a1 = x at *
      have core := act_core w g (a1.toNat * 4) x.f0 x.f1 x.f2 x.f3 (by rw [← hx]; exact hcc 0 _ rfl) (by rw [← hx]; exact hcc 1 _ rfl) (by rw [← hx]; exact hcc 2 _ rfl) (by rw [← hx]; exact hcc 3 _ rfl) (hfr 2) (hfr 3)
      have hp : P0_ g := ho0.1 g rfl
      unfold actF at h
      cases hz : actW x.f0 x.f1 x.f2 x.f3 with
      | none =>
        rw [hz] at h core
        obtain ⟨rfl, rfl⟩ : false = r1 ∧ l0.set a1.toNat ⟨x.f0, x.f1, x.f2, x.f3⟩ = r2 := by simpa using h
        refine core.mono fun e w' ⟨he, n, hw⟩ => ?_
        subst hw
        have hset2 : l0.set a1.toNat ⟨x.f0, x.f1, x.f2, x.f3⟩ = l0 := hset
        rw [hset2]
        exact ⟨he, Kd.R_mono (Kd.R_drewN ho0 n) (fun k hk => .inl hk), pw_below_drewN hB n, Kept.drewN (Kept.refl w _) n⟩
      | some z =>
        obtain ⟨j, y⟩ := z
        rw [hz] at h core
        rcases actW_at hz with rfl | rfl
        · obtain ⟨rfl, rfl⟩ : true = r1 ∧ l0.set a1.toNat ⟨x.f0, x.f1, y, x.f3⟩ = r2 := by simpa using h
          refine core.mono fun e w' ⟨he, n, m, hw⟩ => ?_
          subst hw
          have hs := (Kd.R_seg (Kd.R_drewN ho0 n) a1 h0 h1 (seg := [.int .i64 y]) (j := 2) hcl hcc (show 2 + 1 ≤ 4 from by decide) (x' := ⟨x.f0, x.f1, y, x.f3⟩) (by rw [hx]; exact k57_mkM _ _ _ ⟨x.f0, x.f1, y, x.f3⟩) (fun _ hk => hk)).1
          exact ⟨he, Kd.R_drewN (Kd.R_mono hs (fun k hk => .inl hk)) m, pw_below_drewN (below_set (pw_below_drewN hB n) hbase) m, Kept.drewN (Kept.setCell (Kept.drewN (Kept.refl w _) n) (.inl hp) _) m⟩
        · obtain ⟨rfl, rfl⟩ : true = r1 ∧ l0.set a1.toNat ⟨x.f0, x.f1, x.f2, y⟩ = r2 := by simpa using h
          refine core.mono fun e w' ⟨he, n, m, hw⟩ => ?_
          subst hw
          have hs := (Kd.R_seg (Kd.R_drewN ho0 n) a1 h0 h1 (seg := [.int .i64 y]) (j := 3) hcl hcc (show 3 + 1 ≤ 4 from by decide) (x' := ⟨x.f0, x.f1, x.f2, y⟩) (by rw [hx]; exact k57_mkM _ _ _ ⟨x.f0, x.f1, x.f2, y⟩) (fun _ hk => hk)).1
          exact ⟨he, Kd.R_drewN (Kd.R_mono hs (fun k hk => .inl hk)) m, pw_below_drewN (below_set (pw_below_drewN hB n) hbase) m, Kept.drewN (Kept.setCell (Kept.drewN (Kept.refl w _) n) (.inl hp) _) m⟩
    · rw [if_pos h0, if_neg h1] at h; cases h
  · rw [if_neg h0] at h; cases h

/-! ### impl_doActs: function 54 -/
def impl_doActs.l0 : Nat → List (S57) → List Int → List Int → Int → Int → Option (Int × (List (S57)))
  | 0, _, _, _, _, _ => none
  | k + 1, x0, x1, x7, x8, x9 => if x9 < x8 then (if 0 ≤ x9 then (if x9 < (x7.length : Int) then ((impl_within.f (rd x7 x9) 0 (wrap64 ((x0.length : Int) - 1))).bind fun t261 => (if t261 = true then (if 0 ≤ (rd x7 x9) then (if (rd x7 x9) < (x0.length : Int) then ((impl_Thing_act_at.f x0 (rd x7 x9)).bind fun bt262 => (if bt262.1 = true then (impl_doActs.l0 k bt262.2 x1 x7 x8 (wrap64 (x9 + 1))) else (some (x9, bt262.2)))) else (none)) else (none)) else (some (x9, x0)))) else (none)) else (none)) else (some ((x1.length : Int), x0))
def impl_doActs.f (k : Nat) (l0 : List (S57)) (l1 : List Int) : Option (Int × (List (S57))) := impl_doActs.l0 k l0 l1 l1 (l1.length : Int) 0
theorem impl_doActs.mono_l : ∀ k, (∀ y0 y1 y2 y3 y4, LeO (impl_doActs.l0 k y0 y1 y2 y3 y4) (impl_doActs.l0 (k + 1) y0 y1 y2 y3 y4))
  | 0 => fun _ _ _ _ _ r h => by simp [impl_doActs.l0] at h
  | k + 1 => by
    have ih0 := impl_doActs.mono_l k
    · intro y0 y1 y2 y3 y4
      unfold impl_doActs.l0
      repeat' first
      | (with_reducible exact ih0 _ _ _ _ _)
      | (with_reducible exact LeO.refl _)
      | (with_reducible exact LeO.none _)
      | (with_reducible refine LeO.ite ?_ ?_)
      | (with_reducible refine LeO.bind ?_ (fun _ => ?_))
      | exact ih0 _ _ _ _ _
      | exact LeO.none _
      | refine LeO.ite ?_ ?_
      | refine LeO.bind ?_ (fun _ => ?_)
theorem impl_doActs.mono : ∀ a0 a1 k, LeO (impl_doActs.f k a0 a1) (impl_doActs.f (k + 1) a0 a1) := by
  intro a0 a1 k
  have ih0 := impl_doActs.mono_l k
  unfold impl_doActs.f
  repeat' first
      | (with_reducible exact ih0 _ _ _ _ _)
      | (with_reducible exact LeO.refl _)
      | (with_reducible exact LeO.none _)
      | (with_reducible refine LeO.ite ?_ ?_)
      | (with_reducible refine LeO.bind ?_ (fun _ => ?_))
      | exact ih0 _ _ _ _ _
      | exact LeO.none _
      | refine LeO.ite ?_ ?_
      | refine LeO.bind ?_ (fun _ => ?_)
set_option maxHeartbeats 8000000 in
set_option maxRecDepth 100000 in
theorem impl_doActs.calls (k : Nat) (P0_ : Nat → Prop) (u9000_ : Value) (l0 : List (S57)) (A1 : Option Addr) (c1 : Nat) (l1 : List Int) (r1 : Int) (r2 : List (S57)) (w0 w : World) (hB : Below w0.heap.size w0 w) (ho0 : Kd.R k57 57 w w0.heap.size P0_ u9000_ l0) (hr1 : ∀ W_, Kept w W_ (fun k_ => P0_ k_) → Kd.C (Kd.int .i64) W_ A1 l1.length l1) (hc1 : l1.length ≤ c1) (h : impl_doActs.f k l0 l1 = some (r1, r2)) :
    Calls Try.prog 54 #[u9000_, .slice A1 l1.length c1] w fun e w' => e = .returned (.int .i64 r1) ∧ Kd.R k57 57 w' w0.heap.size (fun k_ => (P0_ k_ ∨ w.heap.size ≤ k_)) u9000_ r2 ∧ Below w0.heap.size w0 w' ∧ Kept w w' (fun k_ => P0_ k_) := by
  have HO0 := Aside0.mk (show Kd.R k57 57 w w0.heap.size (fun k_ => (P0_ k_ ∨ w.heap.size ≤ k_)) u9000_ l0 from Kd.R_mono ho0 (fun k_ hk => (.inl hk)))
  have HR1 := Aside0.mk hr1
  have HC1 := Aside0.mk hc1
  clear hr1 hc1
  have HK := Aside0.mk (Kept.refl w (fun k_ => P0_ k_))
  have HW0 := Aside0.mk hB.size
  have HB := Aside0.mk hB
  clear hB
  have H : (impl_doActs.l0 k l0 l1 l1 (l1.length : Int) 0) = some (r1, r2) := h
  clear h
  have H' := Aside0.mk H
  clear H
  go_enter Try.func54, Try.ntmps54
  go_wp2
  go_loopg [9] k (fun kq v9 w' => ∃ (x0_1 : List (S57)) (x9_1 : Int), v9 = .int .i64 x9_1 ∧ Aside0 (impl_doActs.l0 kq x0_1 l1 l1 (l1.length : Int) x9_1 = some (r1, r2)) ∧ Aside0 (kq ≤ k) ∧ Aside0 (Kd.R k57 57 w' w0.heap.size (fun k_ => (P0_ k_ ∨ w.heap.size ≤ k_)) u9000_ x0_1) ∧ Aside0 (Kept w w' (fun k_ => P0_ k_)) ∧ Aside0 (Below w0.heap.size w0 w'))
  case atStart => exact ⟨(l0), (0), (by first | rfl | (simp; done) | (simp [*]; done)), H', ⟨Nat.le_refl _⟩, ⟨by (with_reducible repeat (first | apply Kd.R_alloc | apply Kd.R_drewN | apply Kd.R_drew)); exact HO0.out⟩, ⟨by repeat (first | (with_reducible first | exact HK.out | apply Kept.alloc | apply Kept.drewN | apply Kept.drew) | exact HK.out)⟩, ⟨by repeat (first | (with_reducible first | exact HB.out | apply below_alloc | apply pw_below_drewN | apply below_drew1) | exact HB.out)⟩⟩
  case round =>
    clear H'
    try clear c1
    try clear p2
    obtain ⟨x0_1, x9_1, rfl, HA, HK1, HO_0, HK, HB⟩ := hrel
    cases gk with
    | zero => exact absurd HA.out (by simp [impl_doActs.l0])
    | succ k1 =>
      have H := HA.out
      clear HA
      simp only [impl_doActs.l0] at H
      by_cases c3 : x9_1 < (l1.length : Int)
      · rw [if_pos c3] at H
        have c3b0 : decide (x9_1 < (l1.length : Int)) = true := decide_eq_true c3
        clear c3
        by_cases c4 : 0 ≤ x9_1
        · rw [if_pos c4] at H
          have c4b0 : decide (0 ≤ x9_1) = true := decide_eq_true c4
          clear c4
          by_cases c5 : x9_1 < (l1.length : Int)
          · rw [if_pos c5] at H
            have c5b0 : decide (x9_1 < (l1.length : Int)) = true := decide_eq_true c5
            clear c5
            replace H := Option.bind_eq_some_iff.mp H
            obtain ⟨t261, A60, H⟩ := H
            replace H : (if t261 = true then (if 0 ≤ (rd l1 x9_1) then (if (rd l1 x9_1) < (x0_1.length : Int) then ((impl_Thing_act_at.f x0_1 (rd l1 x9_1)).bind fun bt262 => (if bt262.1 = true then (impl_doActs.l0 k1 bt262.2 l1 l1 (l1.length : Int) (wrap64 (x9_1 + 1))) else (some (x9_1, bt262.2)))) else (none)) else (none)) else (some (x9_1, x0_1))) = some (r1, r2) := H
            have A6 := Aside0.mk A60
            clear A60
            by_cases c7 : t261 = true
            · subst c7
              have H1 : (if 0 ≤ (rd l1 x9_1) then (if (rd l1 x9_1) < (x0_1.length : Int) then ((impl_Thing_act_at.f x0_1 (rd l1 x9_1)).bind fun bt262 => (if bt262.1 = true then (impl_doActs.l0 k1 bt262.2 l1 l1 (l1.length : Int) (wrap64 (x9_1 + 1))) else (some (x9_1, bt262.2)))) else (none)) else (none)) = some (r1, r2) := by rw [if_pos rfl] at H; exact H
              clear H
              have H := H1
              clear H1
              by_cases c8 : 0 ≤ (rd l1 x9_1)
              · rw [if_pos c8] at H
                have c8b0 : decide (0 ≤ (rd l1 x9_1)) = true := decide_eq_true c8
                clear c8
                by_cases c9 : (rd l1 x9_1) < (x0_1.length : Int)
                · rw [if_pos c9] at H
                  have c9b0 : decide ((rd l1 x9_1) < (x0_1.length : Int)) = true := decide_eq_true c9
                  clear c9
                  replace H := Option.bind_eq_some_iff.mp H
                  obtain ⟨⟨t262, t263⟩, A110, H⟩ := H
                  replace H : (if t262 = true then (impl_doActs.l0 k1 t263 l1 l1 (l1.length : Int) (wrap64 (x9_1 + 1))) else (some (x9_1, t263))) = some (r1, r2) := H
                  have A11 := Aside0.mk A110
                  clear A110
                  by_cases c12 : t262 = true
                  · subst c12
                    have H1 : (impl_doActs.l0 k1 t263 l1 l1 (l1.length : Int) (wrap64 (x9_1 + 1))) = some (r1, r2) := by rw [if_pos rfl] at H; exact H
                    clear H
                    have H := H1
                    clear H1
                    have H' := Aside0.mk H
                    clear H
                    have p260 : 0 ≤ (x9_1 : Int) := of_decide_eq_true (by first | (with_reducible assumption) | assumption)
                    have q260 : x9_1 < (l1.length : Int) := of_decide_eq_true (by first | (with_reducible assumption) | assumption)
                    obtain ⟨ad260, e260, hx260_0⟩ := Kd.at_int (Kd.C_kept_now HR1.out HK.out) x9_1 p260 q260
                    cases e260
                    replace p260 := eq_true p260
                    replace q260 := eq_true q260
                    obtain ⟨Ao13, co13, eo13⟩ := Kd.R_slice HO_0.out
                    subst eo13
                    go_wp2_with (first | ((with_reducible refine gate_callee (f := 65) rfl ?_); refine goesL_ (some 18) rfl rfl Try.func65 (by kernel_rfl) rfl #[.int .i64 (rd l1 x9_1), .int .i64 0, .int .i64 (wrap64 ((x0_1.length : Int) - 1))] rfl (by (try simp only [List.map_toArray, List.map_cons, List.map_nil]); first | done | rfl | (simp only [List.length_drop, List.length_take]; rfl)) ?_; (with_reducible refine (impl_within.calls (rd l1 x9_1) 0 (wrap64 ((x0_1.length : Int) - 1)) true _ A6.out).mono ?_); rintro e w' ⟨rfl, ⟨nd, rfl⟩⟩; refine ⟨_, rfl, ?_⟩; have p10 : 0 ≤ ((rd l1 x9_1) : Int) := of_decide_eq_true (by first | (with_reducible assumption) | assumption); have q10 : ((rd l1 x9_1) : Int) < ((x0_1.length : Int) : Int) := of_decide_eq_true (by first | (with_reducible assumption) | assumption); obtain ⟨go10, co10, eo10, gb10, gl10, cl10, HG10⟩ := Kd.R_form HO_0.out (by omega); (first | cases eo10 | (injection eo10 with ea_ en_ ec_; (first | subst ea_ | (injection ea_ with ea_; subst ea_)); subst ec_; clear en_)); have GB10 := Aside0.mk gb10; have GG10 := Aside0.mk HG10; clear gb10 gl10 HG10; have HMgo10 := Aside0.mk (show (P0_ go10 ∨ w.heap.size ≤ go10) from (HO_0.out.1 _ rfl)); obtain ⟨ce10, hcl10, hM10, hcc10, hfr10⟩ := Kd.R_elem HO_0.out z57 ((rd l1 x9_1) : Int) p10 q10; obtain rfl := k57_openM hM10; have hx10_0 : wr.cell? ⟨go10, ((rd l1 x9_1) : Int).toNat * 4, none⟩ = some (.int .i64 ((rd_T57 x0_1 (rd l1 x9_1)).f0)) := hcc10 0 _ rfl; have hx10_1 : wr.cell? ⟨go10, ((rd l1 x9_1) : Int).toNat * 4 + 1, none⟩ = some (.int .i64 ((rd_T57 x0_1 (rd l1 x9_1)).f1)) := hcc10 1 _ rfl; have hx10_2 : wr.cell? ⟨go10, ((rd l1 x9_1) : Int).toNat * 4 + 2, none⟩ = some (.int .i64 ((rd_T57 x0_1 (rd l1 x9_1)).f2)) := hcc10 2 _ rfl; have hx10_3 : wr.cell? ⟨go10, ((rd l1 x9_1) : Int).toNat * 4 + 3, none⟩ = some (.int .i64 ((rd_T57 x0_1 (rd l1 x9_1)).f3)) := hcc10 3 _ rfl; have hf10_0 : wr.frozen? ⟨go10, ((rd l1 x9_1) : Int).toNat * 4, none⟩ = false := hfr10 0; have hf10_1 : wr.frozen? ⟨go10, ((rd l1 x9_1) : Int).toNat * 4 + 1, none⟩ = false := hfr10 1; have hf10_2 : wr.frozen? ⟨go10, ((rd l1 x9_1) : Int).toNat * 4 + 2, none⟩ = false := hfr10 2; have hf10_3 : wr.frozen? ⟨go10, ((rd l1 x9_1) : Int).toNat * 4 + 3, none⟩ = false := hfr10 3; clear hcl10 hcc10 hfr10 hM10; replace p10 := eq_true p10; replace q10 := eq_true q10) | (go_at_call 63; (refine (impl_Thing_act_at.calls (fun k_ => some k_ = (.slice (some ⟨go10, 0, none⟩) x0_1.length co13 : Value).ownBlock) (.slice (some ⟨go10, 0, none⟩) x0_1.length co13) x0_1 (rd l1 x9_1) true t263 w0 _ ?side1 ?side2 A11.out).mono ?_); (case side1 => repeat (first | (with_reducible first | exact HB.out | apply below_alloc | apply pw_below_drewN | apply below_drew1) | exact HB.out)); (case side2 => exact Kd.R_tight rfl HO_0.out); rintro e w14 ⟨rfl, hy0, hb, hkp⟩; have n0_ := Aside0.mk (Kd.R_reok rfl hy0 (fun k_ e_ => HO_0.out.1 k_ e_)); have n1_ := Aside0.mk (Kept.then_ (S := (fun k_ => P0_ k_)) (by repeat (first | (with_reducible first | exact HK.out | apply Kept.alloc | apply Kept.drewN | apply Kept.drew) | exact HK.out)) hkp (fun k_ hs_ => (fun e_ => (HO_0.out.1 k_ e_.symm)) hs_)); have n2_ := Aside0.mk (hb); clear HO_0; clear HK; clear HB; have HO_0 := n0_; have HK := n1_; have HB := n2_; clear n0_ n1_ n2_; (try clear hb); (try clear hkp); (try clear hy0)))
                    go_roundg k1
                    case measure => have := HK1.out; omega
                    case rel => exact ⟨(t263), (wrap64 (x9_1 + 1)), (by first | rfl | (simp; done) | (simp [*]; done)), H', ⟨by have := HK1.out; omega⟩, ⟨by (with_reducible repeat (first | apply Kd.R_alloc | apply Kd.R_drewN | apply Kd.R_drew)); exact HO_0.out⟩, ⟨by repeat (first | (with_reducible first | exact HK.out | apply Kept.alloc | apply Kept.drewN | apply Kept.drew) | exact HK.out)⟩, ⟨by repeat (first | (with_reducible first | exact HB.out | apply below_alloc | apply pw_below_drewN | apply below_drew1) | exact HB.out)⟩⟩
                  · replace c12 := Bool.eq_false_iff.mpr c12
                    subst c12
                    have H1 : (some (x9_1, t263)) = some (r1, r2) := by rw [if_neg (show ¬ (false = true) by decide)] at H; exact H
                    clear H
                    have H := H1
                    clear H1
                    simp only [Option.some.injEq, Prod.mk.injEq] at H
                    obtain ⟨rfl, rfl⟩ := H
                    have p260 : 0 ≤ (x9_1 : Int) := of_decide_eq_true (by first | (with_reducible assumption) | assumption)
                    have q260 : x9_1 < (l1.length : Int) := of_decide_eq_true (by first | (with_reducible assumption) | assumption)
                    obtain ⟨ad260, e260, hx260_0⟩ := Kd.at_int (Kd.C_kept_now HR1.out HK.out) x9_1 p260 q260
                    cases e260
                    replace p260 := eq_true p260
                    replace q260 := eq_true q260
                    obtain ⟨Ao15, co15, eo15⟩ := Kd.R_slice HO_0.out
                    subst eo15
                    go_wp2_with (first | ((with_reducible refine gate_callee (f := 65) rfl ?_); refine goesL_ (some 18) rfl rfl Try.func65 (by kernel_rfl) rfl #[.int .i64 (rd l1 x9_1), .int .i64 0, .int .i64 (wrap64 ((x0_1.length : Int) - 1))] rfl (by (try simp only [List.map_toArray, List.map_cons, List.map_nil]); first | done | rfl | (simp only [List.length_drop, List.length_take]; rfl)) ?_; (with_reducible refine (impl_within.calls (rd l1 x9_1) 0 (wrap64 ((x0_1.length : Int) - 1)) true _ A6.out).mono ?_); rintro e w' ⟨rfl, ⟨nd, rfl⟩⟩; refine ⟨_, rfl, ?_⟩; have p10 : 0 ≤ ((rd l1 x9_1) : Int) := of_decide_eq_true (by first | (with_reducible assumption) | assumption); have q10 : ((rd l1 x9_1) : Int) < ((x0_1.length : Int) : Int) := of_decide_eq_true (by first | (with_reducible assumption) | assumption); obtain ⟨go10, co10, eo10, gb10, gl10, cl10, HG10⟩ := Kd.R_form HO_0.out (by omega); (first | cases eo10 | (injection eo10 with ea_ en_ ec_; (first | subst ea_ | (injection ea_ with ea_; subst ea_)); subst ec_; clear en_)); have GB10 := Aside0.mk gb10; have GG10 := Aside0.mk HG10; clear gb10 gl10 HG10; have HMgo10 := Aside0.mk (show (P0_ go10 ∨ w.heap.size ≤ go10) from (HO_0.out.1 _ rfl)); obtain ⟨ce10, hcl10, hM10, hcc10, hfr10⟩ := Kd.R_elem HO_0.out z57 ((rd l1 x9_1) : Int) p10 q10; obtain rfl := k57_openM hM10; have hx10_0 : wr.cell? ⟨go10, ((rd l1 x9_1) : Int).toNat * 4, none⟩ = some (.int .i64 ((rd_T57 x0_1 (rd l1 x9_1)).f0)) := hcc10 0 _ rfl; have hx10_1 : wr.cell? ⟨go10, ((rd l1 x9_1) : Int).toNat * 4 + 1, none⟩ = some (.int .i64 ((rd_T57 x0_1 (rd l1 x9_1)).f1)) := hcc10 1 _ rfl; have hx10_2 : wr.cell? ⟨go10, ((rd l1 x9_1) : Int).toNat * 4 + 2, none⟩ = some (.int .i64 ((rd_T57 x0_1 (rd l1 x9_1)).f2)) := hcc10 2 _ rfl; have hx10_3 : wr.cell? ⟨go10, ((rd l1 x9_1) : Int).toNat * 4 + 3, none⟩ = some (.int .i64 ((rd_T57 x0_1 (rd l1 x9_1)).f3)) := hcc10 3 _ rfl; have hf10_0 : wr.frozen? ⟨go10, ((rd l1 x9_1) : Int).toNat * 4, none⟩ = false := hfr10 0; have hf10_1 : wr.frozen? ⟨go10, ((rd l1 x9_1) : Int).toNat * 4 + 1, none⟩ = false := hfr10 1; have hf10_2 : wr.frozen? ⟨go10, ((rd l1 x9_1) : Int).toNat * 4 + 2, none⟩ = false := hfr10 2; have hf10_3 : wr.frozen? ⟨go10, ((rd l1 x9_1) : Int).toNat * 4 + 3, none⟩ = false := hfr10 3; clear hcl10 hcc10 hfr10 hM10; replace p10 := eq_true p10; replace q10 := eq_true q10) | (go_at_call 63; (refine (impl_Thing_act_at.calls (fun k_ => some k_ = (.slice (some ⟨go10, 0, none⟩) x0_1.length co15 : Value).ownBlock) (.slice (some ⟨go10, 0, none⟩) x0_1.length co15) x0_1 (rd l1 x9_1) false t263 w0 _ ?side1 ?side2 A11.out).mono ?_); (case side1 => repeat (first | (with_reducible first | exact HB.out | apply below_alloc | apply pw_below_drewN | apply below_drew1) | exact HB.out)); (case side2 => exact Kd.R_tight rfl HO_0.out); rintro e w16 ⟨rfl, hy0, hb, hkp⟩; have n0_ := Aside0.mk (Kd.R_reok rfl hy0 (fun k_ e_ => HO_0.out.1 k_ e_)); have n1_ := Aside0.mk (Kept.then_ (S := (fun k_ => P0_ k_)) (by repeat (first | (with_reducible first | exact HK.out | apply Kept.alloc | apply Kept.drewN | apply Kept.drew) | exact HK.out)) hkp (fun k_ hs_ => (fun e_ => (HO_0.out.1 k_ e_.symm)) hs_)); have n2_ := Aside0.mk (hb); clear HO_0; clear HK; clear HB; have HO_0 := n0_; have HK := n1_; have HB := n2_; clear n0_ n1_ n2_; (try clear hb); (try clear hkp); (try clear hy0)))
                    go_ret
                    exact ⟨by first | rfl | (simp [errW_none, errW_some] <;> rfl) | (simp [*, errW_none, errW_some] <;> rfl), by (with_reducible repeat (first | apply Kd.R_alloc | apply Kd.R_drewN | apply Kd.R_drew)); exact HO_0.out, by repeat (first | (with_reducible first | exact HB.out | apply below_alloc | apply pw_below_drewN | apply below_drew1) | exact HB.out), by repeat (first | (with_reducible first | exact HK.out | apply Kept.alloc | apply Kept.drewN | apply Kept.drew) | exact HK.out)⟩
                · rw [if_neg c9] at H
                  exact absurd H (by simp)
              · rw [if_neg c8] at H
                exact absurd H (by simp)
            · replace c7 := Bool.eq_false_iff.mpr c7
              subst c7
              have H1 : (some (x9_1, x0_1)) = some (r1, r2) := by rw [if_neg (show ¬ (false = true) by decide)] at H; exact H
              clear H
              have H := H1
              clear H1
              simp only [Option.some.injEq, Prod.mk.injEq] at H
              obtain ⟨rfl, rfl⟩ := H
              have p260 : 0 ≤ (x9_1 : Int) := of_decide_eq_true (by first | (with_reducible assumption) | assumption)
              have q260 : x9_1 < (l1.length : Int) := of_decide_eq_true (by first | (with_reducible assumption) | assumption)
              obtain ⟨ad260, e260, hx260_0⟩ := Kd.at_int (Kd.C_kept_now HR1.out HK.out) x9_1 p260 q260
              cases e260
              replace p260 := eq_true p260
              replace q260 := eq_true q260
              obtain ⟨Ao17, co17, eo17⟩ := Kd.R_slice HO_0.out
              subst eo17
              go_wp2_with (first | ((with_reducible refine gate_callee (f := 65) rfl ?_); refine goesL_ (some 18) rfl rfl Try.func65 (by kernel_rfl) rfl #[.int .i64 (rd l1 x9_1), .int .i64 0, .int .i64 (wrap64 ((x0_1.length : Int) - 1))] rfl (by (try simp only [List.map_toArray, List.map_cons, List.map_nil]); first | done | rfl | (simp only [List.length_drop, List.length_take]; rfl)) ?_; (with_reducible refine (impl_within.calls (rd l1 x9_1) 0 (wrap64 ((x0_1.length : Int) - 1)) false _ A6.out).mono ?_); rintro e w' ⟨rfl, ⟨nd, rfl⟩⟩; refine ⟨_, rfl, ?_⟩))
              go_ret
              exact ⟨by first | rfl | (simp [errW_none, errW_some] <;> rfl) | (simp [*, errW_none, errW_some] <;> rfl), by (with_reducible repeat (first | apply Kd.R_alloc | apply Kd.R_drewN | apply Kd.R_drew)); exact HO_0.out, by repeat (first | (with_reducible first | exact HB.out | apply below_alloc | apply pw_below_drewN | apply below_drew1) | exact HB.out), by repeat (first | (with_reducible first | exact HK.out | apply Kept.alloc | apply Kept.drewN | apply Kept.drew) | exact HK.out)⟩
          · rw [if_neg c5] at H
            exact absurd H (by simp)
        · rw [if_neg c4] at H
          exact absurd H (by simp)
      · rw [if_neg c3] at H
        have c3b0 : decide (x9_1 < (l1.length : Int)) = false := decide_eq_false c3
        clear c3
        simp only [Option.some.injEq, Prod.mk.injEq] at H
        obtain ⟨rfl, rfl⟩ := H
        go_wp2
        go_ret
        exact ⟨by first | rfl | (simp [errW_none, errW_some] <;> rfl) | (simp [*, errW_none, errW_some] <;> rfl), by (with_reducible repeat (first | apply Kd.R_alloc | apply Kd.R_drewN | apply Kd.R_drew)); exact HO_0.out, by repeat (first | (with_reducible first | exact HB.out | apply below_alloc | apply pw_below_drewN | apply below_drew1) | exact HB.out), by repeat (first | (with_reducible first | exact HK.out | apply Kept.alloc | apply Kept.drewN | apply Kept.drew) | exact HK.out)⟩

/-! ### impl_Thing_rate: function 78 -/
def impl_Thing_rate.f (a0_0 : Int) (a0_1 : Int) (a0_2 : Int) (a0_3 : Int) : Option (Int) := if a0_0 = 1 then (some (mn a0_2 1)) else (some a0_3)
set_option maxHeartbeats 8000000 in
set_option maxRecDepth 100000 in
theorem impl_Thing_rate.calls (a0_0 : Int) (a0_1 : Int) (a0_2 : Int) (a0_3 : Int) (r : Int) (w : World) (h : impl_Thing_rate.f a0_0 a0_1 a0_2 a0_3 = some r) :
    Calls Try.prog 78 #[.agg #[.int .i64 a0_0, .int .i64 a0_1, .int .i64 a0_2, .int .i64 a0_3]] w fun e w' => e = .returned (.int .i64 r) ∧ Below w.heap.size w w' := by
  have hu57 := Try.underlying57
  have HB := Aside0.mk (Below.refl w.heap.size w)
  have H : (if a0_0 = 1 then (some (mn a0_2 1)) else (some a0_3)) = some r := h
  clear h
  by_cases c2 : a0_0 = 1
  · rw [if_pos c2] at H
    have c2b0 : (a0_0 == 1) = true := beq_iff_eq.mpr c2
    have c2b1 : (a0_0 != 1) = false := bne_eq_false_iff_eq.mpr c2
    clear c2
    obtain ⟨ji3, hji3⟩ : ∃ j_ : Int, (mn a0_2 1) = j_ := ⟨_, rfl⟩
    replace H : (some ji3) = some r := by first | (rw [hji3] at H; exact H) | (simp only [hji3] at H ⊢; exact H)
    (try (have hji3h : ji3 ≤ 1 := by (rw [← hji3]; unfold mn; (repeat' split) <;> omega)))
    (try (have hji3g : ji3 ≤ 64 := by omega))
    have hji3_ : (if 1 < a0_2 then 1 else a0_2) = ji3 := hji3
    obtain rfl := Option.some.inj H
    go_enter Try.func78, Try.ntmps78
    go_wp2_with (first | ((with_reducible refine gate_dst (N := 1) rfl ?_); refine box_event ?hg (N := 1) ?hd (cs := #[.int .i64 a0_0, .int .i64 a0_1, .int .i64 a0_2, .int .i64 a0_3]) (t := 57) ?hr ?_; (case hd => rfl); (case hg => rfl); (case hr => first | (go_simp; done) | (go_simp; rfl)); intro gb264 hg w4 hbox hb; have n0_ := Aside0.mk (below_step (by repeat (first | (with_reducible first | exact HB.out | apply below_alloc | apply pw_below_drewN | apply below_drew1) | exact HB.out)) hb); have n1_ := Aside0.mk (hbox); have n2_ := Aside0.mk ((by rw [hg]; exact (below_size (by repeat (first | (with_reducible first | exact HB.out | apply below_alloc | apply pw_below_drewN | apply below_drew1) | exact HB.out))) : w.heap.size ≤ gb264)); have n3_ := Aside0.mk ((by rw [hg]; exact (below_size (by repeat (first | (with_reducible first | exact HB.out | apply below_alloc | apply pw_below_drewN | apply below_drew1) | exact HB.out))) : w.heap.size ≤ gb264)); clear HB; have HB := n0_; have BK264 := n1_; have GW264 := n2_; have GE264 := n3_; clear n0_ n1_ n2_ n3_; clear hb hbox hg; have hcz5_0 : w4.cell? ⟨gb264, 0, none⟩ = some (.int .i64 a0_0) := (blk_cell BK264.out 0).trans rfl; have hcz5_1 : w4.cell? ⟨gb264, 1, none⟩ = some (.int .i64 a0_1) := (blk_cell BK264.out 1).trans rfl; have hcz5_2 : w4.cell? ⟨gb264, 2, none⟩ = some (.int .i64 a0_2) := (blk_cell BK264.out 2).trans rfl; have hcz5_3 : w4.cell? ⟨gb264, 3, none⟩ = some (.int .i64 a0_3) := (blk_cell BK264.out 3).trans rfl; have hfz5_0 := blk_frozen BK264.out 0; have hfz5_1 := blk_frozen BK264.out 1; have hfz5_2 := blk_frozen BK264.out 2; have hfz5_3 := blk_frozen BK264.out 3))
    go_ret
    exact ⟨by first | rfl | (simp [errW_none, errW_some] <;> rfl) | (simp only [← hji3]; first | rfl | (simp [errW_none, errW_some] <;> rfl)) | (simp [*, errW_none, errW_some] <;> rfl), by repeat (first | (with_reducible first | exact HB.out | apply below_alloc | apply pw_below_drewN | apply below_drew1 | refine below_set ?_ GE264.out) | exact HB.out)⟩
  · rw [if_neg c2] at H
    have c2b0 : (a0_0 == 1) = false := beq_eq_false_iff_ne.mpr c2
    have c2b1 : (a0_0 != 1) = true := bne_iff_ne.mpr c2
    obtain rfl := Option.some.inj H
    go_enter Try.func78, Try.ntmps78
    go_wp2_with (first | ((with_reducible refine gate_dst (N := 1) rfl ?_); refine box_event ?hg (N := 1) ?hd (cs := #[.int .i64 a0_0, .int .i64 a0_1, .int .i64 a0_2, .int .i64 a0_3]) (t := 57) ?hr ?_; (case hd => rfl); (case hg => rfl); (case hr => first | (go_simp; done) | (go_simp; rfl)); intro gb264 hg w6 hbox hb; have n0_ := Aside0.mk (below_step (by repeat (first | (with_reducible first | exact HB.out | apply below_alloc | apply pw_below_drewN | apply below_drew1) | exact HB.out)) hb); have n1_ := Aside0.mk (hbox); have n2_ := Aside0.mk ((by rw [hg]; exact (below_size (by repeat (first | (with_reducible first | exact HB.out | apply below_alloc | apply pw_below_drewN | apply below_drew1) | exact HB.out))) : w.heap.size ≤ gb264)); have n3_ := Aside0.mk ((by rw [hg]; exact (below_size (by repeat (first | (with_reducible first | exact HB.out | apply below_alloc | apply pw_below_drewN | apply below_drew1) | exact HB.out))) : w.heap.size ≤ gb264)); clear HB; have HB := n0_; have BK264 := n1_; have GW264 := n2_; have GE264 := n3_; clear n0_ n1_ n2_ n3_; clear hb hbox hg; have hcz7_0 : w6.cell? ⟨gb264, 0, none⟩ = some (.int .i64 a0_0) := (blk_cell BK264.out 0).trans rfl; have hcz7_1 : w6.cell? ⟨gb264, 1, none⟩ = some (.int .i64 a0_1) := (blk_cell BK264.out 1).trans rfl; have hcz7_2 : w6.cell? ⟨gb264, 2, none⟩ = some (.int .i64 a0_2) := (blk_cell BK264.out 2).trans rfl; have hcz7_3 : w6.cell? ⟨gb264, 3, none⟩ = some (.int .i64 a0_3) := (blk_cell BK264.out 3).trans rfl; have hfz7_0 := blk_frozen BK264.out 0; have hfz7_1 := blk_frozen BK264.out 1; have hfz7_2 := blk_frozen BK264.out 2; have hfz7_3 := blk_frozen BK264.out 3))
    go_ret
    exact ⟨by first | rfl | (simp [errW_none, errW_some] <;> rfl) | (simp [*, errW_none, errW_some] <;> rfl), by repeat (first | (with_reducible first | exact HB.out | apply below_alloc | apply pw_below_drewN | apply below_drew1 | refine below_set ?_ GE264.out) | exact HB.out)⟩

end Go.Proofs.Ytnajkfdgkghgbaa.PA
