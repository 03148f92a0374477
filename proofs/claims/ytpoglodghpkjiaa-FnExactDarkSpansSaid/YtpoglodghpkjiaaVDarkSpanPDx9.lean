-- Printed by a program of this session's own.
import Derived.Test.YtpoglodghpkjiaaVDarkSpanPDx0
import Derived.Test.YtpoglodghpkjiaaVDarkSpanPDx7
import Derived.Test.YtpoglodghpkjiaaVDarkSpanPDx8
namespace Go.Proofs.Ytpoglodghpkjiaa.PD
open Go.RowKit Go.Proofs.YtpoglodghpkjiaaW.PrintWords Go.Proofs.YtpoglodghpkjiaaW.PrintLast Go.Proofs.YtpoglodghpkjiaaW.PrintMore Go.Proofs.YtpoglodghpkjiaaX
attribute [local go_sem] max2_int max_two  -- for this text's walks alone
set_option linter.unusedVariables false
set_option linter.unusedSimpArgs false

-- NOT PRINTED: function 106 (impl_Candle_77_at_impl_DarkSpans_1)

-- NOT PRINTED: function 105 (impl_Candle_67_at_impl_DarkSpans_1)

-- NOT PRINTED: function 107 (impl_Candle_68_at_impl_DarkSpans_1)

-- NOT PRINTED: function 111 (impl_Candle_83_at_impl_DarkSpans_1)

-- NOT PRINTED: function 110 (impl_Candle_81_at_impl_DarkSpans_1)

-- NOT PRINTED: function 109 (impl_Candle_80_at_impl_DarkSpans_1)

-- NOT PRINTED: function 108 (impl_Candle_69_at_impl_DarkSpans_1)

-- NOT PRINTED: function 112 (impl_Candle_70_at_impl_DarkSpans_1)

-- NOT PRINTED: function 113 (impl_Candle_71_at_impl_DarkSpans_1)

-- NOT PRINTED: function 114 (impl_Candle_72_at_impl_DarkSpans_1)

-- NOT PRINTED: function 115 (impl_Candle_73_at_impl_DarkSpans_1)


/-! ### impl_Candle_56_at_impl_DarkSpans_1: function 103, its contract told by hand -/
def impl_Candle_56_at_impl_DarkSpans_1.f (k : Nat) (l0 : List (S47)) (a1 : Int) (a2 : Int) (a3 : Int)  : Option ((List (S47))) := if wrap64 (a2 - a1) ≤ 12 then impl_Candle_66_at_impl_DarkSpans_1.f k l0 a1 a2 else none
set_option maxHeartbeats 8000000 in
set_option maxRecDepth 100000 in
theorem impl_Candle_56_at_impl_DarkSpans_1.calls (k : Nat) (P0_ : Nat → Prop) (u9000_ : Value) (l0 : List (S47)) (a1 : Int) (a2 : Int) (a3 : Int)  (r : List (S47)) (w0 w : World) (hB : Below w0.heap.size w0 w) (ho0 : Kd.R k47 47 w w0.heap.size P0_ u9000_ l0) (h : impl_Candle_56_at_impl_DarkSpans_1.f k l0 a1 a2 a3 = some r) :
    Calls Try.prog 56 #[u9000_, .int .i64 a1, .int .i64 a2, .int .i64 a3, .func (.func 38) #[] #[]] w fun e w' => e = .returned (.tuple #[]) ∧ Kd.R k47 47 w' w0.heap.size (fun k_ => (P0_ k_ ∨ w.heap.size ≤ k_)) u9000_ r ∧ Below w0.heap.size w0 w' ∧ Kept w w' (fun k_ => P0_ k_) := by
  by_cases c : wrap64 (a2 - a1) ≤ 12
  · have hI : impl_Candle_66_at_impl_DarkSpans_1.f k l0 a1 a2 = some r := by
      have h' := h
      unfold impl_Candle_56_at_impl_DarkSpans_1.f at h'
      rw [if_pos c] at h'
      exact h'
    have HI := Aside0.mk (impl_Candle_66_at_impl_DarkSpans_1.calls k P0_ u9000_ l0 a1 a2 r w0 w hB ho0 hI)
    have d1 : decide (wrap64 (a2 - a1) ≤ 12) = true := decide_eq_true c
    clear c h hI hB ho0
    go_enter Try.func56, Try.ntmps56
    go_wp2
    go_loopg [1, 2, 3, 10, 11] 1 (fun kq v1 v2 v3 v10 v11 w' => v1 = .int .i64 a1 ∧ v2 = .int .i64 a2 ∧ Aside0 (w' = w))
    case atStart => exact ⟨rfl, rfl, ⟨rfl⟩⟩
    case round =>
      obtain ⟨rfl, rfl, HW⟩ := hrel
      go_wp2_with (go_at_call 66; rw [HW.out]; (with_reducible refine (HI.out).mono ?_); rintro e w2 ⟨rfl, h2⟩; have HR := Aside0.mk h2; clear h2)
      first | go_end0 | ((try simp only [Exit.inBlock, Exit.then]); refine bodyPost_ret (results_none rfl _ _ _) rfl ?_)
      exact ⟨rfl, HR.out⟩
  · unfold impl_Candle_56_at_impl_DarkSpans_1.f at h
    rw [if_neg c] at h
    cases h

/-! ### impl_Candle_37_at_impl_DarkSpans_1: function 102 -/
def impl_Candle_37_at_impl_DarkSpans_1.f (k : Nat) (l0 : List (S47))  : Option ((List (S47))) := (bits_Len.f (IntKind.u64.wrap ((l0.length : Int)))).bind fun t273 => ((impl_Candle_56_at_impl_DarkSpans_1.f k l0 0 (l0.length : Int) t273).bind fun t274 => (some t274))
set_option maxHeartbeats 8000000 in
set_option maxRecDepth 100000 in
theorem impl_Candle_37_at_impl_DarkSpans_1.calls (k : Nat) (P0_ : Nat → Prop) (u9000_ : Value) (l0 : List (S47))  (r : List (S47)) (w0 w : World) (hB : Below w0.heap.size w0 w) (ho0 : Kd.R k47 47 w w0.heap.size P0_ u9000_ l0) (h : impl_Candle_37_at_impl_DarkSpans_1.f k l0 = some r) :
    Calls Try.prog 37 #[u9000_, .func (.func 38) #[] #[]] w fun e w' => e = .returned (.tuple #[]) ∧ Kd.R k47 47 w' w0.heap.size (fun k_ => (P0_ k_ ∨ w.heap.size ≤ k_)) u9000_ r ∧ Below w0.heap.size w0 w' ∧ Kept w w' (fun k_ => P0_ k_) := by
  have HO0 := Aside0.mk (show Kd.R k47 47 w w0.heap.size (fun k_ => (P0_ k_ ∨ w.heap.size ≤ k_)) u9000_ l0 from Kd.R_mono ho0 (fun k_ hk => (.inl hk)))
  have HK := Aside0.mk (Kept.refl w (fun k_ => P0_ k_))
  have HW0 := Aside0.mk hB.size
  have HB := Aside0.mk hB
  clear hB
  have H : ((bits_Len.f (IntKind.u64.wrap ((l0.length : Int)))).bind fun t273 => ((impl_Candle_56_at_impl_DarkSpans_1.f k l0 0 (l0.length : Int) t273).bind fun t274 => (some t274))) = some r := h
  clear h
  replace H := Option.bind_eq_some_iff.mp H
  obtain ⟨t273, A30, H⟩ := H
  replace H : ((impl_Candle_56_at_impl_DarkSpans_1.f k l0 0 (l0.length : Int) t273).bind fun t274 => (some t274)) = some r := H
  have A3 := Aside0.mk A30
  clear A30
  replace H := Option.bind_eq_some_iff.mp H
  obtain ⟨t274, A40, H⟩ := H
  replace H : (some t274) = some r := H
  have A4 := Aside0.mk A40
  clear A40
  obtain rfl := Option.some.inj H
  obtain ⟨Ao5, co5, eo5⟩ := Kd.R_slice HO0.out
  subst eo5
  go_enter Try.func37, Try.ntmps37
  go_wp2_with (first | ((with_reducible refine gate_callee (f := 57) rfl ?_); refine goesL_ (some 11) rfl rfl Try.func57 (by kernel_rfl) rfl #[.int .u64 (IntKind.u64.wrap ((l0.length : Int)))] rfl (by (try simp only [List.map_toArray, List.map_cons, List.map_nil]); first | done | rfl | (simp only [List.length_drop, List.length_take]; rfl)) ?_; (with_reducible refine (bits_Len.calls (IntKind.u64.wrap ((l0.length : Int))) t273 _ A3.out).mono ?_); rintro e w' ⟨rfl, ⟨nd, rfl⟩⟩; refine ⟨_, rfl, ?_⟩) | (go_at_call 56; (with_reducible refine (impl_Candle_56_at_impl_DarkSpans_1.calls k (fun k_ => some k_ = (.slice Ao5 l0.length co5 : Value).ownBlock) (.slice Ao5 l0.length co5) l0 0 (l0.length : Int) t273  t274 w0 _ ?side1 ?side2 A4.out).mono ?_); (case side1 => repeat (first | (with_reducible first | exact HB.out | apply below_alloc | apply pw_below_drewN | apply below_drew1) | exact HB.out)); (case side2 => exact Kd.R_tight rfl HO0.out); rintro e w6 ⟨rfl, hy0, hb, hkp⟩; have n0_ := Aside0.mk (Kd.R_reok rfl hy0 (fun k_ e_ => HO0.out.1 k_ e_)); have n1_ := Aside0.mk (Kept.then_ (S := (fun k_ => P0_ k_)) (by repeat (first | (with_reducible first | exact HK.out | apply Kept.alloc | apply Kept.drewN | apply Kept.drew) | exact HK.out)) hkp (fun k_ hs_ => (fun e_ => (HO0.out.1 k_ e_.symm)) hs_)); have n2_ := Aside0.mk (hb); clear HO0; clear HK; clear HB; have HO0 := n0_; have HK := n1_; have HB := n2_; clear n0_ n1_ n2_; (try clear hb); (try clear hkp); (try clear hy0)))
  first | go_end0 | ((try simp only [Exit.inBlock, Exit.then]); refine bodyPost_ret (results_none rfl _ _ _) rfl ?_)
  exact ⟨by first | rfl | (simp [errW_none, errW_some] <;> rfl) | (simp [*, errW_none, errW_some] <;> rfl), by (with_reducible repeat (first | apply Kd.R_alloc | apply Kd.R_drewN | apply Kd.R_drew)); exact HO0.out, by repeat (first | (with_reducible first | exact HB.out | apply below_alloc | apply pw_below_drewN | apply below_drew1) | exact HB.out), by repeat (first | (with_reducible first | exact HK.out | apply Kept.alloc | apply Kept.drewN | apply Kept.drew) | exact HK.out)⟩

end Go.Proofs.Ytpoglodghpkjiaa.PD
