-- Printed by a program of this session's own.
import Derived.Test.YtkefphfjeodgnaaVChainCanPAx0
import Derived.Test.YtkefphfjeodgnaaVChainCanPAx2
import Derived.Test.YtkefphfjeodgnaaVChainCanPAx3
import Derived.Test.YtkefphfjeodgnaaVChainCanPAx16
import Derived.Test.YtkefphfjeodgnaaVChainCanPAx17
import Derived.Test.YtkefphfjeodgnaaVChainCanPAx18
import Derived.Test.YtkefphfjeodgnaaVChainCanPAx19
namespace Go.Proofs.Ytkefphfjeodgnaa.PA
open Go.RowKit Go.Proofs.YtkefphfjeodgnaaW.PrintWords Go.Proofs.YtkefphfjeodgnaaW.PrintLast Go.Proofs.YtkefphfjeodgnaaW.PrintMore Go.Proofs.YtkefphfjeodgnaaX
attribute [local go_sem] max2_int max_two  -- for this text's walks alone
set_option linter.unusedVariables false
set_option linter.unusedSimpArgs false

/-! ### impl_MostBurning: function 55 -/
/-! ### spec_MostBurning: function 56 -/
/-! ### laws_FnExactMostBurning: function 12 -/
/-! ### impl_Candle_115: function 115 -/
def impl_Candle_115.f (l0 : List (S25)) : Option ((List (S25))) := (some (([] : List (S25)) : List (S25))).bind fun y553 => (if y553.length + l0.length < 5864062014805 then (some (y553 ++ l0)) else (none))
set_option maxHeartbeats 8000000 in
set_option maxRecDepth 100000 in
theorem impl_Candle_115.calls (A0 : Option Addr) (c0 : Nat) (l0 : List (S25)) (r : List (S25)) (w : World) (hr0 : Kd.C k25 w A0 l0.length l0) (hc0 : l0.length ≤ c0) (h : impl_Candle_115.f l0 = some r) :
    Calls Try.prog 115 #[.slice A0 l0.length c0] w fun e w' => ∃ v0_ : Value, e = .returned (v0_) ∧ Kd.R k25 25 w' w.heap.size (fun _ => True) v0_ r ∧ Below w.heap.size w w' := by
  have HR0 := Aside0.mk hr0
  have HC0 := Aside0.mk hc0
  clear hr0 hc0
  have HB := Aside0.mk (Below.refl w.heap.size w)
  have H : ((some (([] : List (S25)) : List (S25))).bind fun y553 => (if y553.length + l0.length < 5864062014805 then (some (y553 ++ l0)) else (none))) = some r := h
  clear h
  by_cases hnq2 : A0 = none
  · have hznq2 := Aside0.mk (C_none_nil (by have h_ := HR0.out; rw [hnq2] at h_; exact h_))
    have hsnq2 := fun W => eql_nil (P := Try.prog) (t := 53) (a := A0) (n := l0.length) (c := c0) (n' := 0) (c' := 0) (b := true) Try.underlying53 (by rw [hnq2]; rfl) W
    clear hnq2
    replace H : (some ([] : List (S25))) = some r := by rw [hznq2.out] at H; first | (simpa using H) | exact H
    obtain rfl := Option.some.inj H
    go_enter Try.func115, Try.ntmps115
    go_wp2
    go_ret
    exact ⟨_, by first | rfl | (simp [errW_none, errW_some] <;> rfl) | (simp [*, errW_none, errW_some] <;> rfl), by first | exact Kd.R_nil _ _ _ _ _ | exact Kd.N_nil _ _ _ _ _ | exact Kd.V_nil _ _ _ _ _ | exact Kd.Q_nil _ _ _ _ _ | exact Kd.S_nil _ _ _ _ _, by repeat (first | (with_reducible first | exact HB.out | apply below_alloc | apply pw_below_drewN | apply below_drew1) | exact HB.out)⟩
  · have hsnq2 := fun W => eql_nil (P := Try.prog) (t := 53) (a := A0) (n := l0.length) (c := c0) (n' := 0) (c' := 0) (b := false) Try.underlying53 (by cases hx_ : A0 with | none => exact absurd hx_ hnq2 | some _ => rfl) W
    clear hnq2
    obtain ⟨y553, hy553⟩ : ∃ y_ : List (S25), y_ = (([] : List (S25))) := ⟨_, rfl⟩
    replace H : (if y553.length + l0.length < 5864062014805 then (some (y553 ++ l0)) else (none)) = some r := by first | (rw [hy553]; with_reducible exact H) | (have H2_ := (Option.bind_some _ _).symm.trans H; rw [hy553]; with_reducible exact H2_) | (have H2_ := (Option.bind_some _ _).symm.trans H; with_reducible exact H2_) | with_reducible exact H | (rw [hy553]; exact H) | exact H
    have Ny553 := Aside0.mk hy553
    clear hy553
    by_cases c3 : y553.length + l0.length < 5864062014805
    · rw [if_pos c3] at H
      have LMc3 := Aside0.mk c3
      clear c3
      obtain ⟨y556, hy556⟩ : ∃ y_ : List (S25), y_ = (y553 ++ l0) := ⟨_, rfl⟩
      replace H : (some y556) = some r := by first | (rw [hy556]; with_reducible exact H) | (have H2_ := (Option.bind_some _ _).symm.trans H; rw [hy556]; with_reducible exact H2_) | (have H2_ := (Option.bind_some _ _).symm.trans H; with_reducible exact H2_) | with_reducible exact H | (rw [hy556]; exact H) | exact H
      have Ny556 := Aside0.mk hy556
      clear hy556
      obtain rfl := Option.some.inj H
      go_enter Try.func115, Try.ntmps115
      go_wp2_with (first | ((with_reducible refine gate_dst (N := 5) rfl ?_); refine Kd.R_lit k25 _ 25 ?hg (N := 5) ?hd (xs := ([] : List (S25))) (inner := []) (ok := fun _ => True) (okp := fun _ => True) ?hr ?hp (fun _ hk => hk) trivial (Below.refl _ _) (Nat.le_refl _) (by simp) ?_; (case hd => rfl); (case hg => rfl); (case hr => first | (go_simp; done) | (go_simp; rfl)); (case hp => exact (Reps.none _ _)); intro v554 w4 ho5 hb hg_ hnew_; clear hg_ hnew_; (first | rw [← Ny553.out] at ho5 | (simp only [Int.reduceToNat] at ho5; rw [← Ny553.out] at ho5)); have n0_ := Aside0.mk (Kd.R_lower ho5 (below_size (by repeat (first | (with_reducible first | exact HB.out | apply below_alloc | apply pw_below_drewN | apply below_drew1) | exact HB.out)))); have n1_ := Aside0.mk (below_step (by repeat (first | (with_reducible first | exact HB.out | apply below_alloc | apply pw_below_drewN | apply below_drew1) | exact HB.out)) hb); clear HB; have HO555 := n0_; have HB := n1_; clear n0_ n1_; clear hb ho5) | ((with_reducible refine gate_builtin (b := .append) (xs := #[.tmp 5, .tmp 6]) rfl ?_); at_builtin; refine Kd.R_append_rows k25 (w0 := w) w.heap.size rfl (.tmp 5) (.tmp 6) 53 25 (.agg #[(.int .i64 0), (.int .i64 0), (.int .i64 0)]) 24 rfl Try.underlying53 info25 rfl (by decide) (by omega) v554 y553 l0 _ _ _ (fun _ => True) (fun _ => False) rfl rfl ?aO ?aR (fun _ _ h => h) (fun _ h => h.elim) ?aF ?aB ?aS ?aL ?_; (case aR => repeat (first | exact (Kd.C_below HR0.out HB.out) | (with_reducible refine Kd.C_alloc ?_ _) | (with_reducible refine Kd.C_drewN ?_ _) | (with_reducible refine Kd.C_drew ?_))); (case aB => exact (by repeat (first | (with_reducible first | exact HB.out | apply below_alloc | apply pw_below_drewN | apply below_drew1) | exact HB.out))); (case aF => exact (fun _ _ => trivial)); (case aO => exact (by (with_reducible repeat (first | apply Kd.R_alloc | apply Kd.R_drewN | apply Kd.R_drew)); exact HO555.out)); (case aS => exact (below_size (by repeat (first | (with_reducible first | exact HB.out | apply below_alloc | apply pw_below_drewN | apply below_drew1) | exact HB.out)))); (case aL => have := LMc3.out; omega); intro v557 w6 ho hb hg hat; rw [← Ny556.out] at ho; have n0_ := Aside0.mk (hb); have n1_ := Aside0.mk (ho); clear HB; clear HO555; have HB := n0_; have HO558 := n1_; clear n0_ n1_; clear ho hb hg hat))
      go_ret
      exact ⟨_, by first | rfl | (simp [errW_none, errW_some] <;> rfl) | (simp [*, errW_none, errW_some] <;> rfl), by (with_reducible repeat (first | apply Kd.R_alloc | apply Kd.R_drewN | apply Kd.R_drew)); exact HO558.out, by repeat (first | (with_reducible first | exact HB.out | apply below_alloc | apply pw_below_drewN | apply below_drew1) | exact HB.out)⟩
    · rw [if_neg c3] at H
      exact absurd H (by simp)

/-! ### impl_ChainCandles: function 59 -/
def impl_ChainCandles.l0 : Nat → List (S25) → Int → Option ((List (S25)) × Bool)
  | 0, _, _ => none
  | k + 1, x4, x5 => if x5 < (x4.length : Int) then (if 0 ≤ (wrap64 (x5 - 1)) then (if (wrap64 (x5 - 1)) < (x4.length : Int) then ((impl_Candle_out.f k ((rd_T25 x4 (wrap64 (x5 - 1))).f0) ((rd_T25 x4 (wrap64 (x5 - 1))).f1) ((rd_T25 x4 (wrap64 (x5 - 1))).f2)).bind fun bt564 => (if bt564.2 = 0 then (none) else (if 0 ≤ x5 then ((some (x4.set (x5 : Int).toNat (⟨(rd_T25 x4 x5).f0, (rd_T25 x4 x5).f1, wrap64 (Int.tdiv (wrap64 ((wrap64 (bt564.1 + bt564.2)) - 1)) bt564.2)⟩ : S25) : List (S25))).bind fun y567 => (if ((rd_T25 y567 x5).f2) > 99 then (some (([] : List (S25)), false)) else (impl_ChainCandles.l0 k y567 (wrap64 (x5 + 1))))) else (none)))) else (none)) else (none)) else (some (x4, true))
def impl_ChainCandles.f (k : Nat) (l0 : List (S25)) : Option ((List (S25)) × Bool) := (impl_areCandles.f k l0).bind fun t559 => (if t559 = true then ((impl_Candle_115.f l0).bind fun t560 => (impl_ChainCandles.l0 k t560 1)) else (some (([] : List (S25)), false)))
set_option maxHeartbeats 8000000 in
set_option maxRecDepth 100000 in
theorem impl_ChainCandles.calls (k : Nat) (A0 : Option Addr) (c0 : Nat) (l0 : List (S25)) (r1 : List (S25)) (r2 : Bool) (w : World) (hr0 : Kd.C k25 w A0 l0.length l0) (hc0 : l0.length ≤ c0) (h : impl_ChainCandles.f k l0 = some (r1, r2)) :
    Calls Try.prog 59 #[.slice A0 l0.length c0] w fun e w' => ∃ v0_ : Value, e = .returned (.tuple #[v0_, .bool r2]) ∧ Kd.R k25 25 w' w.heap.size (fun _ => True) v0_ r1 ∧ Below w.heap.size w w' := by
  have hu25 := Try.underlying25
  have hu28 := Try.underlying28
  have HR0 := Aside0.mk hr0
  have HC0 := Aside0.mk hc0
  clear hr0 hc0
  have HB := Aside0.mk (Below.refl w.heap.size w)
  have H : ((impl_areCandles.f k l0).bind fun t559 => (if t559 = true then ((impl_Candle_115.f l0).bind fun t560 => (impl_ChainCandles.l0 k t560 1)) else (some (([] : List (S25)), false)))) = some (r1, r2) := h
  clear h
  replace H := Option.bind_eq_some_iff.mp H
  obtain ⟨t559, A20, H⟩ := H
  replace H : (if t559 = true then ((impl_Candle_115.f l0).bind fun t560 => (impl_ChainCandles.l0 k t560 1)) else (some (([] : List (S25)), false))) = some (r1, r2) := H
  have A2 := Aside0.mk A20
  clear A20
  by_cases c3 : t559 = true
  · subst c3
    have H1 : ((impl_Candle_115.f l0).bind fun t560 => (impl_ChainCandles.l0 k t560 1)) = some (r1, r2) := by rw [if_pos rfl] at H; exact H
    clear H
    have H := H1
    clear H1
    replace H := Option.bind_eq_some_iff.mp H
    obtain ⟨t560, A40, H⟩ := H
    replace H : (impl_ChainCandles.l0 k t560 1) = some (r1, r2) := H
    have A4 := Aside0.mk A40
    clear A40
    have H' := Aside0.mk H
    clear H
    go_enter Try.func59, Try.ntmps59
    go_wp2_with (first | ((with_reducible refine gate_callee (f := 105) rfl ?_); refine goesL_ (some 8) rfl rfl Try.func105 (by kernel_rfl) rfl #[.slice A0 l0.length c0] rfl (by (try simp only [List.map_toArray, List.map_cons, List.map_nil]); first | done | rfl | (simp only [List.length_drop, List.length_take]; rfl)) ?_; (with_reducible refine (impl_areCandles.calls k _ _ l0 true _ ?side1 ?side2 A2.out).mono ?_); (case side1 => repeat (first | exact HR0.out | (with_reducible refine Kd.C_alloc ?_ _) | (with_reducible refine Kd.C_drewN ?_ _) | (with_reducible refine Kd.C_drew ?_))); (case side2 => exact HC0.out); rintro e w5 ⟨rfl, hb⟩; refine ⟨_, rfl, ?_⟩; have n0_ := Aside0.mk (below_step (by repeat (first | (with_reducible first | exact HB.out | apply below_alloc | apply pw_below_drewN | apply below_drew1) | exact HB.out)) hb); clear HB; have HB := n0_; clear n0_; (try clear hb); (try clear hb2); (try clear hk); (try clear hi)) | ((with_reducible refine gate_callee (f := 115) rfl ?_); refine goesL_ (some 11) rfl rfl Try.func115 (by kernel_rfl) rfl #[.slice A0 l0.length c0] rfl (by (try simp only [List.map_toArray, List.map_cons, List.map_nil]); first | done | rfl | (simp only [List.length_drop, List.length_take]; rfl)) ?_; (with_reducible refine (impl_Candle_115.calls _ _ l0 t560 _ ?side1 ?side2 A4.out).mono ?_); (case side1 => repeat (first | exact (Kd.C_below HR0.out HB.out) | (with_reducible refine Kd.C_alloc ?_ _) | (with_reducible refine Kd.C_drewN ?_ _) | (with_reducible refine Kd.C_drew ?_))); (case side2 => exact HC0.out); rintro e w6 ⟨v561, rfl, ho0, hb⟩; refine ⟨_, rfl, ?_⟩; have n0_ := Aside0.mk (Kd.R_lower ho0 (below_size (by repeat (first | (with_reducible first | exact HB.out | apply below_alloc | apply pw_below_drewN | apply below_drew1) | exact HB.out)))); have n1_ := Aside0.mk (below_step (by repeat (first | (with_reducible first | exact HB.out | apply below_alloc | apply pw_below_drewN | apply below_drew1) | exact HB.out)) hb); clear HB; have HO562 := n0_; have HB := n1_; clear n0_ n1_; (try clear hb); (try clear hb2); (try clear hk); (try clear hi); (try clear ho0)))
    go_loopg [5] k (fun kq v5 w' => ∃ (x4_1 : List (S25)) (x5_1 : Int), v5 = .int .i64 x5_1 ∧ Aside0 (impl_ChainCandles.l0 kq x4_1 x5_1 = some (r1, r2)) ∧ Aside0 (kq ≤ k) ∧ Aside0 (Kd.R k25 25 w' w.heap.size (fun _ => True) v561 x4_1) ∧ Aside0 (Below w.heap.size w w'))
    case atStart => exact ⟨(t560), (1), (by first | rfl | (simp; done) | (simp [*]; done)), H', ⟨Nat.le_refl _⟩, ⟨by (with_reducible repeat (first | apply Kd.R_alloc | apply Kd.R_drewN | apply Kd.R_drew)); exact HO562.out⟩, ⟨by repeat (first | (with_reducible first | exact HB.out | apply below_alloc | apply pw_below_drewN | apply below_drew1) | exact HB.out)⟩⟩
    case round =>
      clear H'
      try clear c1
      try clear p2
      try clear c3
      try clear c5
      obtain ⟨x4_1, x5_1, rfl, HA, HK1, HO_4, HB⟩ := hrel
      cases gk with
      | zero => exact absurd HA.out (by simp [impl_ChainCandles.l0])
      | succ k1 =>
        have H := HA.out
        clear HA
        simp only [impl_ChainCandles.l0] at H
        by_cases c7 : x5_1 < (x4_1.length : Int)
        · rw [if_pos c7] at H
          have c7b0 : decide (x5_1 < (x4_1.length : Int)) = true := decide_eq_true c7
          clear c7
          obtain ⟨ji8, hji8⟩ : ∃ j_ : Int, (wrap64 (x5_1 - 1)) = j_ := ⟨_, rfl⟩
          replace H : (if 0 ≤ (ji8) then (if (ji8) < (x4_1.length : Int) then ((impl_Candle_out.f k1 ((rd_T25 x4_1 (ji8)).f0) ((rd_T25 x4_1 (ji8)).f1) ((rd_T25 x4_1 (ji8)).f2)).bind fun bt564 => (if bt564.2 = 0 then (none) else (if 0 ≤ x5_1 then ((some (x4_1.set (x5_1 : Int).toNat (⟨(rd_T25 x4_1 x5_1).f0, (rd_T25 x4_1 x5_1).f1, wrap64 (Int.tdiv (wrap64 ((wrap64 (bt564.1 + bt564.2)) - 1)) bt564.2)⟩ : S25) : List (S25))).bind fun y567 => (if ((rd_T25 y567 x5_1).f2) > 99 then (some (([] : List (S25)), false)) else (impl_ChainCandles.l0 k1 y567 (wrap64 (x5_1 + 1))))) else (none)))) else (none)) else (none)) = some (r1, r2) := by first | (rw [hji8] at H; exact H) | (simp only [hji8] at H ⊢; exact H)
          have hji8w : (IntKind.i64.wrap (x5_1 - 1)) = ji8 := (i64_w _).trans hji8
          by_cases c9 : 0 ≤ (ji8)
          · rw [if_pos c9] at H
            have c9b0 : decide (0 ≤ (ji8)) = true := decide_eq_true c9
            clear c9
            by_cases c10 : (ji8) < (x4_1.length : Int)
            · rw [if_pos c10] at H
              have c10b0 : decide ((ji8) < (x4_1.length : Int)) = true := decide_eq_true c10
              clear c10
              replace H := Option.bind_eq_some_iff.mp H
              obtain ⟨⟨t564, t565⟩, A110, H⟩ := H
              replace H : (if t565 = 0 then (none) else (if 0 ≤ x5_1 then ((some (x4_1.set (x5_1 : Int).toNat (⟨(rd_T25 x4_1 x5_1).f0, (rd_T25 x4_1 x5_1).f1, wrap64 (Int.tdiv (wrap64 ((wrap64 (t564 + t565)) - 1)) t565)⟩ : S25) : List (S25))).bind fun y567 => (if ((rd_T25 y567 x5_1).f2) > 99 then (some (([] : List (S25)), false)) else (impl_ChainCandles.l0 k1 y567 (wrap64 (x5_1 + 1))))) else (none))) = some (r1, r2) := H
              have A11 := Aside0.mk A110
              clear A110
              by_cases c12 : t565 = 0
              · rw [if_pos c12] at H
                exact absurd H (by simp)
              · rw [if_neg c12] at H
                have c12b0 : (t565 == 0) = false := beq_eq_false_iff_ne.mpr c12
                have c12b1 : (t565 != 0) = true := bne_iff_ne.mpr c12
                by_cases c13 : 0 ≤ x5_1
                · rw [if_pos c13] at H
                  have c13b0 : decide (0 ≤ x5_1) = true := decide_eq_true c13
                  clear c13
                  obtain ⟨y567, hy567⟩ : ∃ y_ : List (S25), y_ = (x4_1.set (x5_1 : Int).toNat (⟨(rd_T25 x4_1 x5_1).f0, (rd_T25 x4_1 x5_1).f1, wrap64 (Int.tdiv (wrap64 ((wrap64 (t564 + t565)) - 1)) t565)⟩ : S25)) := ⟨_, rfl⟩
                  replace H : (if ((rd_T25 y567 x5_1).f2) > 99 then (some (([] : List (S25)), false)) else (impl_ChainCandles.l0 k1 y567 (wrap64 (x5_1 + 1)))) = some (r1, r2) := by first | (rw [hy567]; with_reducible exact H) | (have H2_ := (Option.bind_some _ _).symm.trans H; rw [hy567]; with_reducible exact H2_) | (have H2_ := (Option.bind_some _ _).symm.trans H; with_reducible exact H2_) | with_reducible exact H | (rw [hy567]; exact H) | exact H
                  have Ny567 := Aside0.mk hy567
                  clear hy567
                  by_cases c15 : ((rd_T25 y567 x5_1).f2) > 99
                  · rw [if_pos c15] at H
                    have c15b0 : decide (99 < ((rd_T25 y567 x5_1).f2)) = true := decide_eq_true c15
                    clear c15
                    simp only [Option.some.injEq, Prod.mk.injEq] at H
                    obtain ⟨rfl, rfl⟩ := H
                    obtain ⟨Ao16, co16, eo16⟩ := Kd.R_slice HO_4.out
                    subst eo16
                    have p563 : 0 ≤ ((ji8) : Int) := of_decide_eq_true (by first | (with_reducible assumption) | assumption)
                    have q563 : (ji8) < (x4_1.length : Int) := of_decide_eq_true (by first | (with_reducible assumption) | assumption)
                    obtain ⟨ad563, e563, hx563_0, hx563_1, hx563_2⟩ := at_T25 (Kd.R_reads' HO_4.out).2.2 (ji8) p563 q563
                    cases e563
                    replace p563 := eq_true p563
                    replace q563 := eq_true q563
                    go_wp2_with (first | ((with_reducible refine gate_callee (f := 75) rfl ?_); refine goesL_ (some 23) rfl rfl Try.func75 (by kernel_rfl) rfl #[.agg #[.int .i64 ((rd_T25 x4_1 (ji8)).f0), .int .i64 ((rd_T25 x4_1 (ji8)).f1), .int .i64 ((rd_T25 x4_1 (ji8)).f2)]] rfl (by (try simp only [List.map_toArray, List.map_cons, List.map_nil]); first | done | (simp only [hji8]; rfl) | rfl | (simp only [List.length_drop, List.length_take]; rfl)) ?_; (with_reducible refine (impl_Candle_out.calls k1 ((rd_T25 x4_1 (ji8)).f0) ((rd_T25 x4_1 (ji8)).f1) ((rd_T25 x4_1 (ji8)).f2) t564 t565 _ A11.out).mono ?_); rintro e w17 ⟨rfl, hb⟩; refine ⟨_, rfl, ?_⟩; have n0_ := Aside0.mk (Kd.R_below (by (with_reducible repeat (first | apply Kd.R_alloc | apply Kd.R_drewN | apply Kd.R_drew)); exact HO_4.out) hb); have n1_ := Aside0.mk (below_step (by repeat (first | (with_reducible first | exact HB.out | apply below_alloc | apply pw_below_drewN | apply below_drew1) | exact HB.out)) hb); clear HO_4; clear HB; have HO_4 := n0_; have HB := n1_; clear n0_ n1_; (try clear hb); (try clear hb2); (try clear hk); (try clear hi)) | ((with_reducible refine gate_dst (N := 6) rfl ?_); refine box_event ?hg (N := 6) ?hd (cs := #[.int .i64 0, .int .i64 0]) (t := 28) ?hr ?_; (case hd => rfl); (case hg => rfl); (case hr => first | (go_simp; done) | (go_simp; rfl)); intro gb566 hg w18 hbox hb; have n0_ := Aside0.mk (Kd.R_below (by (with_reducible repeat (first | apply Kd.R_alloc | apply Kd.R_drewN | apply Kd.R_drew)); exact HO_4.out) hb); have n1_ := Aside0.mk (below_step (by repeat (first | (with_reducible first | exact HB.out | apply below_alloc | apply pw_below_drewN | apply below_drew1) | exact HB.out)) hb); have n2_ := Aside0.mk (hbox); have n3_ := Aside0.mk ((by rw [hg]; exact (below_size (by repeat (first | (with_reducible first | exact HB.out | apply below_alloc | apply pw_below_drewN | apply below_drew1) | exact HB.out))) : w.heap.size ≤ gb566)); have n4_ := Aside0.mk ((by rw [hg]; exact (below_size (by repeat (first | (with_reducible first | exact HB.out | apply below_alloc | apply pw_below_drewN | apply below_drew1) | exact HB.out))) : w.heap.size ≤ gb566)); clear HO_4; clear HB; have HO_4 := n0_; have HB := n1_; have BK566 := n2_; have GW566 := n3_; have GE566 := n4_; clear n0_ n1_ n2_ n3_ n4_; clear hb hbox hg; have hcz19_0 : w18.cell? ⟨gb566, 0, none⟩ = some (.int .i64 0) := (blk_cell BK566.out 0).trans rfl; have hcz19_1 : w18.cell? ⟨gb566, 1, none⟩ = some (.int .i64 0) := (blk_cell BK566.out 1).trans rfl; have hfz19_0 := blk_frozen BK566.out 0; have hfz19_1 := blk_frozen BK566.out 1) | ((with_reducible refine gate_store (t := 28) (p := 6) rfl ?_); refine store_event (t := 28) (p := 6) (v := ?vo_w20) (w1 := ((w18.setCell ⟨gb566, 0, none⟩ (.int .i64 t564)).setCell ⟨gb566, 1, none⟩ (.int .i64 t565))) ?hg ?ho ?hn ?hr ?_; (case ho => rfl); (case hg => rfl); (case hn => rfl); (case hr => first | (go_simp; done) | (go_simp; rfl)); intro w20 hw; have n0_ : Aside0 (Kd.R k25 25 w20 w.heap.size (fun _ => True) (.slice (some ad563) x4_1.length co16) x4_1) := ⟨(by rw [hw]; exact (by (with_reducible repeat (first | apply Kd.R_alloc | apply Kd.R_drewN | apply Kd.R_drew)); exact Kd.R_mono (Kd.R_far (p := ⟨gb566, 1, none⟩) (Kd.R_far (p := ⟨gb566, 0, none⟩) (Kd.R_types HO_4.out BK566.out (by decide)) (fun _ hk => hk.2) (.int .i64 t564)) (fun _ hk => hk.2) (.int .i64 t565)) (fun _ hk => trivial)))⟩; have n1_ : Aside0 (w20.heap[gb566]? = some (.cells #[.int .i64 t564, .int .i64 t565] 28 (0, 0))) := ⟨(by rw [hw]; exact (by (with_reducible repeat (first | refine blk_drewN ?_ _ | refine blk_drew ?_ | refine blk_alloc ?_ _)); refine blk_put (cs := #[.int .i64 t564, .int .i64 0]) ?_ 1 _ rfl; (with_reducible repeat (first | refine blk_drewN ?_ _ | refine blk_drew ?_ | refine blk_alloc ?_ _)); refine blk_put (cs := #[.int .i64 0, .int .i64 0]) ?_ 0 _ rfl; (with_reducible repeat (first | refine blk_drewN ?_ _ | refine blk_drew ?_ | refine blk_alloc ?_ _)); exact BK566.out))⟩; have n2_ : Aside0 (Below w.heap.size w w20) := ⟨(by rw [hw]; exact (by repeat (first | (with_reducible first | exact HB.out | apply below_alloc | apply pw_below_drewN | apply below_drew1 | refine below_set ?_ GE566.out) | exact HB.out)))⟩; clear hw; clear HO_4; clear BK566; clear HB; have HO_4 := n0_; have BK566 := n1_; have HB := n2_; clear n0_ n1_ n2_; have hcz21_0 : w20.cell? ⟨gb566, 0, none⟩ = some (.int .i64 t564) := (blk_cell BK566.out 0).trans rfl; have hcz21_1 : w20.cell? ⟨gb566, 1, none⟩ = some (.int .i64 t565) := (blk_cell BK566.out 1).trans rfl; have hfz21_0 := blk_frozen BK566.out 0; have hfz21_1 := blk_frozen BK566.out 1; have p14 : 0 ≤ (x5_1 : Int) := of_decide_eq_true (by first | (with_reducible assumption) | assumption); have q14 : (x5_1 : Int) < ((x4_1.length : Int) : Int) := of_decide_eq_true (by first | (with_reducible assumption) | assumption); obtain ⟨go14, co14, eo14, gb14, gl14, cl14, HG14⟩ := Kd.R_form HO_4.out (by omega); (first | cases eo14 | (injection eo14 with ea_ en_ ec_; (first | subst ea_ | (injection ea_ with ea_; subst ea_)); subst ec_; clear en_)); have GB14 := Aside0.mk gb14; have GG14 := Aside0.mk HG14; clear gb14 gl14 HG14; (first | simp only [add_plain] at hx563_0 | skip); (first | simp only [add_plain] at hx563_1 | skip); (first | simp only [add_plain] at hx563_2 | skip); obtain ⟨ce14, hcl14, hM14, hcc14, hfr14⟩ := Kd.R_elem HO_4.out z25 (x5_1 : Int) p14 q14; obtain rfl := k25_openM hM14; have hx14_0 : w20.cell? ⟨go14, (x5_1 : Int).toNat * 3, none⟩ = some (.int .i64 ((rd_T25 x4_1 x5_1).f0)) := hcc14 0 _ rfl; have hx14_1 : w20.cell? ⟨go14, (x5_1 : Int).toNat * 3 + 1, none⟩ = some (.int .i64 ((rd_T25 x4_1 x5_1).f1)) := hcc14 1 _ rfl; have hx14_2 : w20.cell? ⟨go14, (x5_1 : Int).toNat * 3 + 2, none⟩ = some (.int .i64 ((rd_T25 x4_1 x5_1).f2)) := hcc14 2 _ rfl; have hf14_0 : w20.frozen? ⟨go14, (x5_1 : Int).toNat * 3, none⟩ = false := hfr14 0; have hf14_1 : w20.frozen? ⟨go14, (x5_1 : Int).toNat * 3 + 1, none⟩ = false := hfr14 1; have hf14_2 : w20.frozen? ⟨go14, (x5_1 : Int).toNat * 3 + 2, none⟩ = false := hfr14 2; clear hcl14 hcc14 hfr14 hM14; replace p14 := eq_true p14; replace q14 := eq_true q14; have HX22 := Aside0.mk (show Kd.R k25 25 w20 w.heap.size (fun _ => True) (.slice (some ⟨go14, 0, none⟩) x4_1.length co16) x4_1 from (by (with_reducible repeat (first | apply Kd.R_alloc | apply Kd.R_drewN | apply Kd.R_drew)); exact HO_4.out)); obtain ⟨ce22, hcl22, hM22, hcc22, hfr22⟩ := Kd.R_elem HX22.out z25 (x5_1 : Int) (of_decide_eq_true (by first | (with_reducible assumption) | assumption)) (by have h_ : (x5_1 : Int) < ((x4_1.length : Int) : Int) := of_decide_eq_true (by first | (with_reducible assumption) | assumption); first | exact h_ | (have e_ := (Kd.R_reads' HO_4.out).1; omega) | simpa using h_); obtain rfl := k25_openM hM22; have HP22 := Kd.R_seg HX22.out (x5_1 : Int) (of_decide_eq_true (by first | (with_reducible assumption) | assumption)) (by have h_ : (x5_1 : Int) < ((x4_1.length : Int) : Int) := of_decide_eq_true (by first | (with_reducible assumption) | assumption); first | exact h_ | (have e_ := (Kd.R_reads' HO_4.out).1; omega) | simpa using h_) (seg := [.int .i64 (wrap64 (Int.tdiv (wrap64 ((wrap64 (t564 + t565)) - 1)) t565))]) (j := 2) hcl22 hcc22 (show 3 ≤ 3 from by decide) (x' := (⟨(rd_T25 x4_1 x5_1).f0, (rd_T25 x4_1 x5_1).f1, wrap64 (Int.tdiv (wrap64 ((wrap64 (t564 + t565)) - 1)) t565)⟩ : S25)) (k25_mkM _ _ _ (⟨(rd_T25 x4_1 x5_1).f0, (rd_T25 x4_1 x5_1).f1, wrap64 (Int.tdiv (wrap64 ((wrap64 (t564 + t565)) - 1)) t565)⟩ : S25) ) (fun _ hk => hk); have hx22_2 := hcc22 2 _ rfl; (try simp only [show (k25).sz = 3 from rfl, Nat.mul_one, Nat.add_zero] at hx22_2); have hf22_2 := hfr22 2; (try simp only [show (k25).sz = 3 from rfl, Nat.mul_one, Nat.add_zero] at hf22_2); clear hcl22 hcc22 hfr22 hM22) | ((with_reducible refine gate_store (t := 3) (p := 36) rfl ?_); refine store_event (t := 3) (p := 36) (v := ?vo_w23) (w1 := (w20.setCell ⟨go14, (x5_1 : Int).toNat * 3 + 2, none⟩ (.int .i64 (wrap64 (Int.tdiv (wrap64 ((wrap64 (t564 + t565)) - 1)) t565))))) ?hg ?ho ?hn ?hr ?_; (case ho => rfl); (case hg => rfl); (case hn => rfl); (case hr => first | (go_simp; done) | (go_simp; rfl)); intro w23 hw; have hg : w20.grownBy w23 (some go14) := (by rw [hw]; exact HP22.2); have hp_ : Kd.R k25 25 w23 w.heap.size (fun _ => True) (.slice (some ⟨go14, 0, none⟩) x4_1.length co16) y567 := (by rw [hw, Ny567.out]; exact HP22.1); clear HP22; have n0_ := Aside0.mk (hp_); have n1_ := Aside0.mk (blk_grown (g := gb566) (o := .cells #[.int .i64 t564, .int .i64 t565] 28 (0, 0)) (by (with_reducible repeat (first | refine blk_drewN ?_ _ | refine blk_drew ?_ | refine blk_alloc ?_ _)); exact BK566.out) hg (Kd.R_ne HO_4.out BK566.out (by decide))); have n2_ := Aside0.mk ((by rw [hw]; exact below_set (HB.out) GB14.out : Below w.heap.size w w23)); clear HO_4; clear BK566; clear HB; have HO_4 := n0_; have BK566 := n1_; have HB := n2_; clear n0_ n1_ n2_; clear hg hw hp_; have p568 : 0 ≤ (x5_1 : Int) := of_decide_eq_true (by first | (with_reducible assumption) | assumption); have q568 : x5_1 < (y567.length : Int) := (by have h_ : (x5_1 : Int) < ((x4_1.length : Int) : Int) := of_decide_eq_true (by first | (with_reducible assumption) | assumption); first | (have e_ := (Kd.R_reads' HO_4.out).1; omega) | simpa only [Ny567.out, List.length_set] using h_); have ql568 : ((x5_1 : Int) < ((x4_1.length : Int) : Int)) = True := eq_true (of_decide_eq_true (by first | (with_reducible assumption) | assumption)); obtain ⟨ad568, e568, hx568_0, hx568_1, hx568_2⟩ := at_T25 (Kd.R_reads' HO_4.out).2.2 x5_1 p568 q568; obtain rfl : (⟨go14, 0, none⟩ : Addr) = ad568 := (by injection e568); (first | simp only [add_plain] at hx568_0 | simp only [add_at] at hx568_0 | simp only [Addr.add, Nat.zero_add] at hx568_0 | skip); (first | simp only [add_plain] at hx568_1 | simp only [add_at] at hx568_1 | simp only [Addr.add, Nat.zero_add] at hx568_1 | skip); (first | simp only [add_plain] at hx568_2 | simp only [add_at] at hx568_2 | simp only [Addr.add, Nat.zero_add] at hx568_2 | skip); replace p568 := eq_true p568; replace q568 := eq_true q568))
                    go_ret2
                    exact ⟨_, by first | rfl | (simp [errW_none, errW_some] <;> rfl) | (simp only [← hji8]; first | rfl | (simp [errW_none, errW_some] <;> rfl)) | (simp [*, errW_none, errW_some] <;> rfl), by first | exact Kd.R_nil _ _ _ _ _ | exact Kd.N_nil _ _ _ _ _ | exact Kd.V_nil _ _ _ _ _ | exact Kd.Q_nil _ _ _ _ _ | exact Kd.S_nil _ _ _ _ _, by repeat (first | (with_reducible first | exact HB.out | apply below_alloc | apply pw_below_drewN | apply below_drew1 | refine below_set ?_ GE566.out) | exact HB.out)⟩
                  · rw [if_neg c15] at H
                    have c15b0 : decide (99 < ((rd_T25 y567 x5_1).f2)) = false := decide_eq_false c15
                    clear c15
                    have H' := Aside0.mk H
                    clear H
                    obtain ⟨Ao24, co24, eo24⟩ := Kd.R_slice HO_4.out
                    subst eo24
                    have p563 : 0 ≤ ((ji8) : Int) := of_decide_eq_true (by first | (with_reducible assumption) | assumption)
                    have q563 : (ji8) < (x4_1.length : Int) := of_decide_eq_true (by first | (with_reducible assumption) | assumption)
                    obtain ⟨ad563, e563, hx563_0, hx563_1, hx563_2⟩ := at_T25 (Kd.R_reads' HO_4.out).2.2 (ji8) p563 q563
                    cases e563
                    replace p563 := eq_true p563
                    replace q563 := eq_true q563
                    go_wp2_with (first | ((with_reducible refine gate_callee (f := 75) rfl ?_); refine goesL_ (some 23) rfl rfl Try.func75 (by kernel_rfl) rfl #[.agg #[.int .i64 ((rd_T25 x4_1 (ji8)).f0), .int .i64 ((rd_T25 x4_1 (ji8)).f1), .int .i64 ((rd_T25 x4_1 (ji8)).f2)]] rfl (by (try simp only [List.map_toArray, List.map_cons, List.map_nil]); first | done | (simp only [hji8]; rfl) | rfl | (simp only [List.length_drop, List.length_take]; rfl)) ?_; (with_reducible refine (impl_Candle_out.calls k1 ((rd_T25 x4_1 (ji8)).f0) ((rd_T25 x4_1 (ji8)).f1) ((rd_T25 x4_1 (ji8)).f2) t564 t565 _ A11.out).mono ?_); rintro e w25 ⟨rfl, hb⟩; refine ⟨_, rfl, ?_⟩; have n0_ := Aside0.mk (Kd.R_below (by (with_reducible repeat (first | apply Kd.R_alloc | apply Kd.R_drewN | apply Kd.R_drew)); exact HO_4.out) hb); have n1_ := Aside0.mk (below_step (by repeat (first | (with_reducible first | exact HB.out | apply below_alloc | apply pw_below_drewN | apply below_drew1) | exact HB.out)) hb); clear HO_4; clear HB; have HO_4 := n0_; have HB := n1_; clear n0_ n1_; (try clear hb); (try clear hb2); (try clear hk); (try clear hi)) | ((with_reducible refine gate_dst (N := 6) rfl ?_); refine box_event ?hg (N := 6) ?hd (cs := #[.int .i64 0, .int .i64 0]) (t := 28) ?hr ?_; (case hd => rfl); (case hg => rfl); (case hr => first | (go_simp; done) | (go_simp; rfl)); intro gb566 hg w26 hbox hb; have n0_ := Aside0.mk (Kd.R_below (by (with_reducible repeat (first | apply Kd.R_alloc | apply Kd.R_drewN | apply Kd.R_drew)); exact HO_4.out) hb); have n1_ := Aside0.mk (below_step (by repeat (first | (with_reducible first | exact HB.out | apply below_alloc | apply pw_below_drewN | apply below_drew1) | exact HB.out)) hb); have n2_ := Aside0.mk (hbox); have n3_ := Aside0.mk ((by rw [hg]; exact (below_size (by repeat (first | (with_reducible first | exact HB.out | apply below_alloc | apply pw_below_drewN | apply below_drew1) | exact HB.out))) : w.heap.size ≤ gb566)); have n4_ := Aside0.mk ((by rw [hg]; exact (below_size (by repeat (first | (with_reducible first | exact HB.out | apply below_alloc | apply pw_below_drewN | apply below_drew1) | exact HB.out))) : w.heap.size ≤ gb566)); clear HO_4; clear HB; have HO_4 := n0_; have HB := n1_; have BK566 := n2_; have GW566 := n3_; have GE566 := n4_; clear n0_ n1_ n2_ n3_ n4_; clear hb hbox hg; have hcz27_0 : w26.cell? ⟨gb566, 0, none⟩ = some (.int .i64 0) := (blk_cell BK566.out 0).trans rfl; have hcz27_1 : w26.cell? ⟨gb566, 1, none⟩ = some (.int .i64 0) := (blk_cell BK566.out 1).trans rfl; have hfz27_0 := blk_frozen BK566.out 0; have hfz27_1 := blk_frozen BK566.out 1) | ((with_reducible refine gate_store (t := 28) (p := 6) rfl ?_); refine store_event (t := 28) (p := 6) (v := ?vo_w28) (w1 := ((w26.setCell ⟨gb566, 0, none⟩ (.int .i64 t564)).setCell ⟨gb566, 1, none⟩ (.int .i64 t565))) ?hg ?ho ?hn ?hr ?_; (case ho => rfl); (case hg => rfl); (case hn => rfl); (case hr => first | (go_simp; done) | (go_simp; rfl)); intro w28 hw; have n0_ : Aside0 (Kd.R k25 25 w28 w.heap.size (fun _ => True) (.slice (some ad563) x4_1.length co24) x4_1) := ⟨(by rw [hw]; exact (by (with_reducible repeat (first | apply Kd.R_alloc | apply Kd.R_drewN | apply Kd.R_drew)); exact Kd.R_mono (Kd.R_far (p := ⟨gb566, 1, none⟩) (Kd.R_far (p := ⟨gb566, 0, none⟩) (Kd.R_types HO_4.out BK566.out (by decide)) (fun _ hk => hk.2) (.int .i64 t564)) (fun _ hk => hk.2) (.int .i64 t565)) (fun _ hk => trivial)))⟩; have n1_ : Aside0 (w28.heap[gb566]? = some (.cells #[.int .i64 t564, .int .i64 t565] 28 (0, 0))) := ⟨(by rw [hw]; exact (by (with_reducible repeat (first | refine blk_drewN ?_ _ | refine blk_drew ?_ | refine blk_alloc ?_ _)); refine blk_put (cs := #[.int .i64 t564, .int .i64 0]) ?_ 1 _ rfl; (with_reducible repeat (first | refine blk_drewN ?_ _ | refine blk_drew ?_ | refine blk_alloc ?_ _)); refine blk_put (cs := #[.int .i64 0, .int .i64 0]) ?_ 0 _ rfl; (with_reducible repeat (first | refine blk_drewN ?_ _ | refine blk_drew ?_ | refine blk_alloc ?_ _)); exact BK566.out))⟩; have n2_ : Aside0 (Below w.heap.size w w28) := ⟨(by rw [hw]; exact (by repeat (first | (with_reducible first | exact HB.out | apply below_alloc | apply pw_below_drewN | apply below_drew1 | refine below_set ?_ GE566.out) | exact HB.out)))⟩; clear hw; clear HO_4; clear BK566; clear HB; have HO_4 := n0_; have BK566 := n1_; have HB := n2_; clear n0_ n1_ n2_; have hcz29_0 : w28.cell? ⟨gb566, 0, none⟩ = some (.int .i64 t564) := (blk_cell BK566.out 0).trans rfl; have hcz29_1 : w28.cell? ⟨gb566, 1, none⟩ = some (.int .i64 t565) := (blk_cell BK566.out 1).trans rfl; have hfz29_0 := blk_frozen BK566.out 0; have hfz29_1 := blk_frozen BK566.out 1; have p14 : 0 ≤ (x5_1 : Int) := of_decide_eq_true (by first | (with_reducible assumption) | assumption); have q14 : (x5_1 : Int) < ((x4_1.length : Int) : Int) := of_decide_eq_true (by first | (with_reducible assumption) | assumption); obtain ⟨go14, co14, eo14, gb14, gl14, cl14, HG14⟩ := Kd.R_form HO_4.out (by omega); (first | cases eo14 | (injection eo14 with ea_ en_ ec_; (first | subst ea_ | (injection ea_ with ea_; subst ea_)); subst ec_; clear en_)); have GB14 := Aside0.mk gb14; have GG14 := Aside0.mk HG14; clear gb14 gl14 HG14; (first | simp only [add_plain] at hx563_0 | skip); (first | simp only [add_plain] at hx563_1 | skip); (first | simp only [add_plain] at hx563_2 | skip); obtain ⟨ce14, hcl14, hM14, hcc14, hfr14⟩ := Kd.R_elem HO_4.out z25 (x5_1 : Int) p14 q14; obtain rfl := k25_openM hM14; have hx14_0 : w28.cell? ⟨go14, (x5_1 : Int).toNat * 3, none⟩ = some (.int .i64 ((rd_T25 x4_1 x5_1).f0)) := hcc14 0 _ rfl; have hx14_1 : w28.cell? ⟨go14, (x5_1 : Int).toNat * 3 + 1, none⟩ = some (.int .i64 ((rd_T25 x4_1 x5_1).f1)) := hcc14 1 _ rfl; have hx14_2 : w28.cell? ⟨go14, (x5_1 : Int).toNat * 3 + 2, none⟩ = some (.int .i64 ((rd_T25 x4_1 x5_1).f2)) := hcc14 2 _ rfl; have hf14_0 : w28.frozen? ⟨go14, (x5_1 : Int).toNat * 3, none⟩ = false := hfr14 0; have hf14_1 : w28.frozen? ⟨go14, (x5_1 : Int).toNat * 3 + 1, none⟩ = false := hfr14 1; have hf14_2 : w28.frozen? ⟨go14, (x5_1 : Int).toNat * 3 + 2, none⟩ = false := hfr14 2; clear hcl14 hcc14 hfr14 hM14; replace p14 := eq_true p14; replace q14 := eq_true q14; have HX30 := Aside0.mk (show Kd.R k25 25 w28 w.heap.size (fun _ => True) (.slice (some ⟨go14, 0, none⟩) x4_1.length co24) x4_1 from (by (with_reducible repeat (first | apply Kd.R_alloc | apply Kd.R_drewN | apply Kd.R_drew)); exact HO_4.out)); obtain ⟨ce30, hcl30, hM30, hcc30, hfr30⟩ := Kd.R_elem HX30.out z25 (x5_1 : Int) (of_decide_eq_true (by first | (with_reducible assumption) | assumption)) (by have h_ : (x5_1 : Int) < ((x4_1.length : Int) : Int) := of_decide_eq_true (by first | (with_reducible assumption) | assumption); first | exact h_ | (have e_ := (Kd.R_reads' HO_4.out).1; omega) | simpa using h_); obtain rfl := k25_openM hM30; have HP30 := Kd.R_seg HX30.out (x5_1 : Int) (of_decide_eq_true (by first | (with_reducible assumption) | assumption)) (by have h_ : (x5_1 : Int) < ((x4_1.length : Int) : Int) := of_decide_eq_true (by first | (with_reducible assumption) | assumption); first | exact h_ | (have e_ := (Kd.R_reads' HO_4.out).1; omega) | simpa using h_) (seg := [.int .i64 (wrap64 (Int.tdiv (wrap64 ((wrap64 (t564 + t565)) - 1)) t565))]) (j := 2) hcl30 hcc30 (show 3 ≤ 3 from by decide) (x' := (⟨(rd_T25 x4_1 x5_1).f0, (rd_T25 x4_1 x5_1).f1, wrap64 (Int.tdiv (wrap64 ((wrap64 (t564 + t565)) - 1)) t565)⟩ : S25)) (k25_mkM _ _ _ (⟨(rd_T25 x4_1 x5_1).f0, (rd_T25 x4_1 x5_1).f1, wrap64 (Int.tdiv (wrap64 ((wrap64 (t564 + t565)) - 1)) t565)⟩ : S25) ) (fun _ hk => hk); have hx30_2 := hcc30 2 _ rfl; (try simp only [show (k25).sz = 3 from rfl, Nat.mul_one, Nat.add_zero] at hx30_2); have hf30_2 := hfr30 2; (try simp only [show (k25).sz = 3 from rfl, Nat.mul_one, Nat.add_zero] at hf30_2); clear hcl30 hcc30 hfr30 hM30) | ((with_reducible refine gate_store (t := 3) (p := 36) rfl ?_); refine store_event (t := 3) (p := 36) (v := ?vo_w31) (w1 := (w28.setCell ⟨go14, (x5_1 : Int).toNat * 3 + 2, none⟩ (.int .i64 (wrap64 (Int.tdiv (wrap64 ((wrap64 (t564 + t565)) - 1)) t565))))) ?hg ?ho ?hn ?hr ?_; (case ho => rfl); (case hg => rfl); (case hn => rfl); (case hr => first | (go_simp; done) | (go_simp; rfl)); intro w31 hw; have hg : w28.grownBy w31 (some go14) := (by rw [hw]; exact HP30.2); have hp_ : Kd.R k25 25 w31 w.heap.size (fun _ => True) (.slice (some ⟨go14, 0, none⟩) x4_1.length co24) y567 := (by rw [hw, Ny567.out]; exact HP30.1); clear HP30; have n0_ := Aside0.mk (hp_); have n1_ := Aside0.mk (blk_grown (g := gb566) (o := .cells #[.int .i64 t564, .int .i64 t565] 28 (0, 0)) (by (with_reducible repeat (first | refine blk_drewN ?_ _ | refine blk_drew ?_ | refine blk_alloc ?_ _)); exact BK566.out) hg (Kd.R_ne HO_4.out BK566.out (by decide))); have n2_ := Aside0.mk ((by rw [hw]; exact below_set (HB.out) GB14.out : Below w.heap.size w w31)); clear HO_4; clear BK566; clear HB; have HO_4 := n0_; have BK566 := n1_; have HB := n2_; clear n0_ n1_ n2_; clear hg hw hp_; have p568 : 0 ≤ (x5_1 : Int) := of_decide_eq_true (by first | (with_reducible assumption) | assumption); have q568 : x5_1 < (y567.length : Int) := (by have h_ : (x5_1 : Int) < ((x4_1.length : Int) : Int) := of_decide_eq_true (by first | (with_reducible assumption) | assumption); first | (have e_ := (Kd.R_reads' HO_4.out).1; omega) | simpa only [Ny567.out, List.length_set] using h_); have ql568 : ((x5_1 : Int) < ((x4_1.length : Int) : Int)) = True := eq_true (of_decide_eq_true (by first | (with_reducible assumption) | assumption)); obtain ⟨ad568, e568, hx568_0, hx568_1, hx568_2⟩ := at_T25 (Kd.R_reads' HO_4.out).2.2 x5_1 p568 q568; obtain rfl : (⟨go14, 0, none⟩ : Addr) = ad568 := (by injection e568); (first | simp only [add_plain] at hx568_0 | simp only [add_at] at hx568_0 | simp only [Addr.add, Nat.zero_add] at hx568_0 | skip); (first | simp only [add_plain] at hx568_1 | simp only [add_at] at hx568_1 | simp only [Addr.add, Nat.zero_add] at hx568_1 | skip); (first | simp only [add_plain] at hx568_2 | simp only [add_at] at hx568_2 | simp only [Addr.add, Nat.zero_add] at hx568_2 | skip); replace p568 := eq_true p568; replace q568 := eq_true q568))
                    go_roundg k1
                    case measure => have := HK1.out; omega
                    case rel => exact ⟨(y567), (wrap64 (x5_1 + 1)), (by first | rfl | (simp; done) | (simp [*]; done)), H', ⟨by have := HK1.out; omega⟩, ⟨by (with_reducible repeat (first | apply Kd.R_alloc | apply Kd.R_drewN | apply Kd.R_drew)); exact HO_4.out⟩, ⟨by repeat (first | (with_reducible first | exact HB.out | apply below_alloc | apply pw_below_drewN | apply below_drew1 | refine below_set ?_ GE566.out) | exact HB.out)⟩⟩
                · rw [if_neg c13] at H
                  exact absurd H (by simp)
            · rw [if_neg c10] at H
              exact absurd H (by simp)
          · rw [if_neg c9] at H
            exact absurd H (by simp)
        · rw [if_neg c7] at H
          have c7b0 : decide (x5_1 < (x4_1.length : Int)) = false := decide_eq_false c7
          clear c7
          simp only [Option.some.injEq, Prod.mk.injEq] at H
          obtain ⟨rfl, rfl⟩ := H
          obtain ⟨Ao32, co32, eo32⟩ := Kd.R_slice HO_4.out
          subst eo32
          go_wp2
          go_ret2
          exact ⟨_, by first | rfl | (simp [errW_none, errW_some] <;> rfl) | (simp [*, errW_none, errW_some] <;> rfl), by (with_reducible repeat (first | apply Kd.R_alloc | apply Kd.R_drewN | apply Kd.R_drew)); exact HO_4.out, by repeat (first | (with_reducible first | exact HB.out | apply below_alloc | apply pw_below_drewN | apply below_drew1) | exact HB.out)⟩
  · replace c3 := Bool.eq_false_iff.mpr c3
    subst c3
    have H1 : (some (([] : List (S25)), false)) = some (r1, r2) := by rw [if_neg (show ¬ (false = true) by decide)] at H; exact H
    clear H
    have H := H1
    clear H1
    simp only [Option.some.injEq, Prod.mk.injEq] at H
    obtain ⟨rfl, rfl⟩ := H
    go_enter Try.func59, Try.ntmps59
    go_wp2_with (first | ((with_reducible refine gate_callee (f := 105) rfl ?_); refine goesL_ (some 8) rfl rfl Try.func105 (by kernel_rfl) rfl #[.slice A0 l0.length c0] rfl (by (try simp only [List.map_toArray, List.map_cons, List.map_nil]); first | done | rfl | (simp only [List.length_drop, List.length_take]; rfl)) ?_; (with_reducible refine (impl_areCandles.calls k _ _ l0 false _ ?side1 ?side2 A2.out).mono ?_); (case side1 => repeat (first | exact HR0.out | (with_reducible refine Kd.C_alloc ?_ _) | (with_reducible refine Kd.C_drewN ?_ _) | (with_reducible refine Kd.C_drew ?_))); (case side2 => exact HC0.out); rintro e w33 ⟨rfl, hb⟩; refine ⟨_, rfl, ?_⟩; have n0_ := Aside0.mk (below_step (by repeat (first | (with_reducible first | exact HB.out | apply below_alloc | apply pw_below_drewN | apply below_drew1) | exact HB.out)) hb); clear HB; have HB := n0_; clear n0_; (try clear hb); (try clear hb2); (try clear hk); (try clear hi)))
    go_ret2
    exact ⟨_, by first | rfl | (simp [errW_none, errW_some] <;> rfl) | (simp [*, errW_none, errW_some] <;> rfl), by first | exact Kd.R_nil _ _ _ _ _ | exact Kd.N_nil _ _ _ _ _ | exact Kd.V_nil _ _ _ _ _ | exact Kd.Q_nil _ _ _ _ _ | exact Kd.S_nil _ _ _ _ _, by repeat (first | (with_reducible first | exact HB.out | apply below_alloc | apply pw_below_drewN | apply below_drew1) | exact HB.out)⟩

end Go.Proofs.Ytkefphfjeodgnaa.PA
