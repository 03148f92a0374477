-- Printed by a program of this session's own.
import Derived.Test.YtkefphfjeodgnaaVMeetingsPAx0
import Derived.Test.YtkefphfjeodgnaaVMeetingsPAx2
import Derived.Test.YtkefphfjeodgnaaVMeetingsPAx3
import Derived.Test.YtkefphfjeodgnaaVMeetingsPAx5
import Derived.Test.YtkefphfjeodgnaaVMeetingsPAx19
import Derived.Test.YtkefphfjeodgnaaVMeetingsPAx20
namespace Go.Proofs.Ytkefphfjeodgnaa.PA
open Go.RowKit Go.Proofs.YtkefphfjeodgnaaW.PrintWords Go.Proofs.YtkefphfjeodgnaaW.PrintLast Go.Proofs.YtkefphfjeodgnaaW.PrintMore Go.Proofs.YtkefphfjeodgnaaX
attribute [local go_sem] max2_int max_two  -- for this text's walks alone
set_option linter.unusedVariables false
set_option linter.unusedSimpArgs false

/-- A time is added to a list of times. -/
def addM (k : Nat) (a0 a1 a2 b0 b1 b2 : Int) (xs : List S28) (t0 t1 : Int) : Option (List S28) :=
  (impl_meet.f k a0 a1 a2 b0 b1 b2 t0 t1).bind fun m => if m = true then (slices_Contains_2_int_2_int.f k xs t0 t1).bind fun c => if c = true then some xs else if xs.length < 8796093022208 then some (xs ++ [⟨t0, t1⟩]) else none else some xs
/-- Two candles and a list of times in memory. -/
def MInv (ok : Nat → Prop) (w W : World) (A B G : Nat) (a0 a1 a2 b0 b1 b2 : Int) (xs : List S28) : Prop :=
  W.heap[A]? = some (.cells #[.int .i64 a0, .int .i64 a1, .int .i64 a2] 25 (0, 0)) ∧ W.heap[B]? = some (.cells #[.int .i64 b0, .int .i64 b1, .int .i64 b2] 25 (0, 0)) ∧
  (w.heap.size ≤ A ∧ w.heap.size ≤ B ∧ w.heap.size ≤ G) ∧ (∃ v, W.heap[G]? = some (.cells #[v] 42 (0, 0)) ∧ Kd.R k28 28 W w.heap.size ok v xs) ∧ Below w.heap.size w W
theorem MInv.below {ok : Nat → Prop} {w W W2 : World} {A B G : Nat} {a0 a1 a2 b0 b1 b2 : Int} {xs : List S28} (h : MInv ok w W A B G a0 a1 a2 b0 b1 b2 xs) (hb : Below W.heap.size W W2) : MInv ok w W2 A B G a0 a1 a2 b0 b1 b2 xs := by
  obtain ⟨h1, h2, h3, ⟨v, h4, h5⟩, h6⟩ := h
  exact ⟨blk_below h1 hb, blk_below h2 hb, h3, ⟨v, blk_below h4 hb, Kd.R_below h5 hb⟩, below_step h6 hb⟩
theorem MInv.grown {w W W2 : World} {A B G : Nat} {a0 a1 a2 b0 b1 b2 : Int} {xs ys : List S28} {v v1 : Value} (h : MInv (fun _ => True) w W A B G a0 a1 a2 b0 b1 b2 xs) (hv : W.heap[G]? = some (.cells #[v] 42 (0, 0))) (hR : Kd.R k28 28 W w.heap.size (fun _ => True) v xs)
    (hg : W.grownBy W2 v.ownBlock) (hb : Below w.heap.size w W2) (ho : Kd.R k28 28 W2 w.heap.size (fun _ => True) v1 ys) : MInv (fun _ => True) w (W2.setCell ⟨G, 0, none⟩ v1) A B G a0 a1 a2 b0 b1 b2 ys := by
  obtain ⟨h1, h2, h3, _, h6⟩ := h
  have g4 := blk_grown hv hg (Kd.R_ne hR hv (by decide))
  have g1 := blk_grown h1 hg (Kd.R_ne hR h1 (by decide))
  have g2 := blk_grown h2 hg (Kd.R_ne hR h2 (by decide))
  exact ⟨blk_far g1 (blk_ne g1 g4 (by decide)) _, blk_far g2 (blk_ne g2 g4 (by decide)) _, h3, ⟨v1, blk_put g4 0 _ rfl, Kd.R_set ho g4 (by decide) 0 _⟩, below_set hb h3.2.2⟩
theorem MInv.fresh {w W W2 : World} {A B G T : Nat} {a0 a1 a2 b0 b1 b2 : Int} {xs : List S28} (h : MInv (fun _ => True) w W A B G a0 a1 a2 b0 b1 b2 xs) (hT : T = W.heap.size) (hb : Below W.heap.size W W2) : MInv (fun k => k ≠ T) w W2 A B G a0 a1 a2 b0 b1 b2 xs := by
  obtain ⟨h1, h2, h3, ⟨v, h4, h5⟩, h6⟩ := MInv.below h hb
  obtain ⟨_, _, _, ⟨u, g4, g5⟩, _⟩ := h
  have e : v = u := by
    have := (blk_below g4 hb).symm.trans h4
    simp only [Option.some.injEq, Obj.cells.injEq, Array.mk.injEq, List.cons.injEq, and_true] at this
    exact this.symm
  subst e
  exact ⟨h1, h2, h3, ⟨v, h4, Kd.R_mono (Kd.R_below (Kd.R_bound g5) hb) (fun k hk => by have := hk.2.2.1; omega)⟩, h6⟩
theorem MInv.put {w W : World} {A B G T : Nat} {a0 a1 a2 b0 b1 b2 : Int} {xs : List S28} (h : MInv (fun k => k ≠ T) w W A B G a0 a1 a2 b0 b1 b2 xs) {cs : Array Value} (hT : W.heap[T]? = some (.cells cs 28 (0, 0))) (hg : w.heap.size ≤ T) (j : Nat) (u : Value) :
    MInv (fun k => k ≠ T) w (W.setCell ⟨T, j, none⟩ u) A B G a0 a1 a2 b0 b1 b2 xs := by
  obtain ⟨h1, h2, h3, ⟨v, h4, h5⟩, h6⟩ := h
  exact ⟨blk_far h1 (blk_ne h1 hT (by decide)) _, blk_far h2 (blk_ne h2 hT (by decide)) _, h3, ⟨v, blk_far h4 (blk_ne h4 hT (by decide)) _, Kd.R_far (p := ⟨T, j, none⟩) h5 (fun _ hk => hk) u⟩, below_set h6 hg⟩
theorem MInv.relax {ok : Nat → Prop} {w W : World} {A B G : Nat} {a0 a1 a2 b0 b1 b2 : Int} {xs : List S28} (h : MInv ok w W A B G a0 a1 a2 b0 b1 b2 xs) : MInv (fun _ => True) w W A B G a0 a1 a2 b0 b1 b2 xs := by
  obtain ⟨h1, h2, h3, ⟨v, h4, h5⟩, h6⟩ := h
  exact ⟨h1, h2, h3, ⟨v, h4, Kd.R_mono h5 (fun _ _ => trivial)⟩, h6⟩
def AddPost (w : World) (A B G : Nat) (a0 a1 a2 b0 b1 b2 : Int) (ys : List S28) (e : Ending) (w' : World) : Prop := e = .returned (.tuple #[]) ∧ MInv (fun _ => True) w w' A B G a0 a1 a2 b0 b1 b2 ys
theorem info28M : (Try.prog.info? 28).map (fun i => (i.zero, i.size, i.bytes)) = some (some (.agg #[(.int .i64 0), (.int .i64 0)]), 2, 16) := by kernel_rfl
set_option maxHeartbeats 8000000 in
set_option maxRecDepth 100000 in
theorem add_calls (k : Nat) (w W : World) (A B G : Nat) (a0 a1 a2 b0 b1 b2 t0 t1 : Int) (xs ys : List S28) (hI : MInv (fun _ => True) w W A B G a0 a1 a2 b0 b1 b2 xs) (h : addM k a0 a1 a2 b0 b1 b2 xs t0 t1 = some ys) :
    Calls Try.prog 91 #[.agg #[.int .i64 t0, .int .i64 t1], .pointer (some ⟨A, 0, none⟩), .pointer (some ⟨B, 0, none⟩), .pointer (some ⟨G, 0, none⟩)] W (AddPost w A B G a0 a1 a2 b0 b1 b2 ys) := by
  unfold addM at h
  obtain ⟨m, hm, h⟩ := Option.bind_eq_some_iff.mp h
  have HM := Aside0.mk hm
  clear hm
  have hbx : Below W.heap.size W (W.alloc (.cells #[.int .i64 t0, .int .i64 t1] 28 (0, 0))) := below_alloc (Below.refl _ _) _
  have HI := Aside0.mk (MInv.below hI hbx)
  have HT := Aside0.mk (blk_new W (.cells #[.int .i64 t0, .int .i64 t1] 28 (0, 0)))
  have lW : W.heap.size < (W.alloc (.cells #[.int .i64 t0, .int .i64 t1] 28 (0, 0))).heap.size := by simp
  have ca0 := (blk_cell HI.out.1 0).trans rfl
  have ca1 := (blk_cell HI.out.1 1).trans rfl
  have ca2 := (blk_cell HI.out.1 2).trans rfl
  have cb0 := (blk_cell HI.out.2.1 0).trans rfl
  have cb1 := (blk_cell HI.out.2.1 1).trans rfl
  have cb2 := (blk_cell HI.out.2.1 2).trans rfl
  clear hI hbx
  cases m with
  | false =>
    rw [if_neg (by decide)] at h
    obtain rfl := Option.some.inj h
    go_enter Try.func91, Try.ntmps91
    go_wp2_with (go_at_call 92; (with_reducible refine (impl_meet.calls k a0 a1 a2 b0 b1 b2 t0 t1 false _ HM.out).mono ?_); rintro e w2 ⟨rfl, hb⟩; have HI2 := Aside0.mk (MInv.below HI.out hb); clear hb)
    go_end0
    exact ⟨rfl, HI2.out⟩
  | true =>
    rw [if_pos rfl] at h
    obtain ⟨c, hc, h⟩ := Option.bind_eq_some_iff.mp h
    have HC := Aside0.mk hc
    clear hc
    cases c with
    | true =>
      rw [if_pos rfl] at h
      obtain rfl := Option.some.inj h
      go_enter Try.func91, Try.ntmps91
      go_wp2_with (first
        | (go_at_call 92; (with_reducible refine (impl_meet.calls k a0 a1 a2 b0 b1 b2 t0 t1 true _ HM.out).mono ?_); rintro e w2 ⟨rfl, hb⟩; have HI2 := Aside0.mk (MInv.below HI.out hb); have HT2 := Aside0.mk (blk_below HT.out hb); clear hb ca0 ca1 ca2 cb0 cb1 cb2; obtain ⟨v, hv, hR⟩ := HI2.out.2.2.2.1; obtain ⟨A1, c1, rfl⟩ := Kd.R_slice hR; have cg := (blk_cell hv 0).trans rfl; have ct0 := (blk_cell HT2.out 0).trans rfl; have ct1 := (blk_cell HT2.out 1).trans rfl; have HR := Aside0.mk (Kd.R_reads' hR); clear hR; have HV := Aside0.mk hv; clear hv)
        | (go_at_call 93; (with_reducible refine (slices_Contains_2_int_2_int.calls k A1 c1 xs t0 t1 true _ HR.out.2.2 HR.out.2.1 HC.out).mono ?_); rintro e w3 ⟨rfl, hb⟩; have HI3 := Aside0.mk (MInv.below HI2.out hb); clear hb cg ct0 ct1))
      go_end0
      exact ⟨rfl, HI3.out⟩
    | false =>
      rw [if_neg (by decide)] at h
      by_cases hl : xs.length < 8796093022208
      · rw [if_pos hl] at h
        obtain rfl := Option.some.inj h
        have HL := Aside0.mk hl
        clear hl h
        go_enter Try.func91, Try.ntmps91
        go_wp2_with (first
          | (go_at_call 92; (with_reducible refine (impl_meet.calls k a0 a1 a2 b0 b1 b2 t0 t1 true _ HM.out).mono ?_); rintro e w2 ⟨rfl, hb⟩; have HI2 := Aside0.mk (MInv.below HI.out hb); have HT2 := Aside0.mk (blk_below HT.out hb); clear hb ca0 ca1 ca2 cb0 cb1 cb2; obtain ⟨v, hv, hR⟩ := HI2.out.2.2.2.1; obtain ⟨A1, c1, rfl⟩ := Kd.R_slice hR; have cg := (blk_cell hv 0).trans rfl; have ct0 := (blk_cell HT2.out 0).trans rfl; have ct1 := (blk_cell HT2.out 1).trans rfl; have HR := Aside0.mk (Kd.R_reads' hR); have HR0 := Aside0.mk hR; clear hR; have HV := Aside0.mk hv; clear hv)
          | (go_at_call 93; (with_reducible refine (slices_Contains_2_int_2_int.calls k A1 c1 xs t0 t1 false _ HR.out.2.2 HR.out.2.1 HC.out).mono ?_); rintro e w3 ⟨rfl, hb⟩; have HI3 := Aside0.mk (MInv.below HI2.out hb); have HV3 := Aside0.mk (blk_below HV.out hb); have HR3 := Aside0.mk (Kd.R_below HR0.out hb); have HT3 := Aside0.mk (blk_below HT2.out hb); clear hb cg ct0 ct1 HR HR0; have cg := (blk_cell HV3.out 0).trans rfl; have ct0 := (blk_cell HT3.out 0).trans rfl; have ct1 := (blk_cell HT3.out 1).trans rfl)
          | ((with_reducible refine gate_builtin (b := .append) (xs := #[.tmp 15, .tmp 17]) rfl ?_); at_builtin; refine Kd.R_append k28 (w0 := w) w.heap.size rfl (.tmp 15) (.tmp 17) 42 28 (.agg #[(.int .i64 0), (.int .i64 0)]) 16 rfl Try.underlying42 info28M rfl (by decide) (by omega) (.slice A1 xs.length c1) xs (⟨t0, t1⟩ : S28) [.int .i64 t0, .int .i64 t1] (fun _ => True) (fun _ => False) rfl rfl ?aP (fun _ hk => hk.elim) (fun _ _ => trivial) ?aO ?aB ?aS ?aL ?_; (case aP => exact k28_mkM _ _ _ (⟨t0, t1⟩ : S28)); (case aB => exact HI3.out.2.2.2.2); (case aO => exact HR3.out); (case aS => exact below_size HI3.out.2.2.2.2); (case aL => have := HL.out; omega); intro v1 w4 ho hb hg hat; have HI4 := Aside0.mk (MInv.grown HI3.out HV3.out HR3.out hg hb ho); have cz := blk_frozen (blk_grown HV3.out hg (Kd.R_ne HR3.out HV3.out (by decide))) 0; have cg2 := (blk_cell (blk_grown HV3.out hg (Kd.R_ne HR3.out HV3.out (by decide))) 0).trans rfl; obtain ⟨A2, c2, e2⟩ := Kd.R_slice ho; subst e2; clear ho hb hg hat cg ct0 ct1))
        go_end0
        exact ⟨rfl, by have h_ := HI4.out; rw [show (xs ++ [(⟨t0, t1⟩ : S28)]).length = xs.length + 1 from by simp] at h_; exact h_⟩
      · rw [if_neg hl] at h; cases h
/-- The two candles in memory. -/
def RtInv (w W : World) (a0 a1 a2 b0 b1 b2 : Int) : Prop := W.heap[w.heap.size]? = some (.cells #[.int .i64 a0, .int .i64 a1, .int .i64 a2] 25 (0, 0)) ∧ W.heap[w.heap.size + 1]? = some (.cells #[.int .i64 b0, .int .i64 b1, .int .i64 b2] 25 (0, 0)) ∧ Below w.heap.size w W
theorem RtInv.below {w W W2 : World} {a0 a1 a2 b0 b1 b2 : Int} (h : RtInv w W a0 a1 a2 b0 b1 b2) (hb : Below W.heap.size W W2) : RtInv w W2 a0 a1 a2 b0 b1 b2 := ⟨blk_below h.1 hb, blk_below h.2.1 hb, below_step h.2.2 hb⟩
theorem RtInv.init (w : World) (a0 a1 a2 b0 b1 b2 : Int) : RtInv w ((w.alloc (.cells #[.int .i64 a0, .int .i64 a1, .int .i64 a2] 25 (0, 0))).alloc (.cells #[.int .i64 b0, .int .i64 b1, .int .i64 b2] 25 (0, 0))) a0 a1 a2 b0 b1 b2 :=
  ⟨blk_alloc (blk_new _ _) _, (by
    have h_ := blk_new (w.alloc (.cells #[.int .i64 a0, .int .i64 a1, .int .i64 a2] 25 (0, 0))) (.cells #[.int .i64 b0, .int .i64 b1, .int .i64 b2] 25 (0, 0))
    simpa using h_), below_alloc (below_alloc (Below.refl _ _) _) _⟩
theorem RtInv.made {w W : World} {a0 a1 a2 b0 b1 b2 : Int} (h : RtInv w W a0 a1 a2 b0 b1 b2) {W2 : World} {G : Nat} {v : Value} (hb : Below W.heap.size W W2) (hG : W2.heap[G]? = some (.cells #[v] 42 (0, 0))) (hg : w.heap.size ≤ G) (hR : Kd.R k28 28 W2 w.heap.size (fun _ => True) v []) : MInv (fun _ => True) w W2 w.heap.size (w.heap.size + 1) G a0 a1 a2 b0 b1 b2 [] :=
  ⟨blk_below h.1 hb, blk_below h.2.1 hb, ⟨Nat.le_refl _, Nat.le_succ _, hg⟩, ⟨v, hG, hR⟩, below_step h.2.2 hb⟩
/-- The times, of two candles of which the first one starts first. -/
def meetR (k : Nat) (a0 a1 a2 b0 b1 b2 : Int) (xs : List S28) : Option (List S28) :=
  if a1 = b1 then (impl_whole.f b2).bind fun t => (impl_meet.f k a0 a1 a2 b0 b1 b2 t.1 t.2).bind fun m => if m = true then (addM k a0 a1 a2 b0 b1 b2 xs t.1 t.2).bind fun ys => (impl_Candle_out.f k a0 a1 a2).bind fun o => if ys.length < 8796093022208 then some (ys ++ [⟨o.1, o.2⟩]) else none else some xs
  else (impl_over.f k (wrap64 (wrap64 (wrap64 (a0 + wrap64 (a1 * a2)) - b0) - wrap64 (b1 * b2))) (wrap64 (a1 - b1))).bind fun t => (impl_whole.f b2).bind fun u => (impl_less.f t.1 t.2 u.1 u.2).bind fun l => if l = true then some xs else addM k a0 a1 a2 b0 b1 b2 xs t.1 t.2
def meetQ (k : Nat) (a0 a1 a2 b0 b1 b2 : Int) : Option (List S28) :=
  (impl_whole.f a2).bind fun x => (impl_over.f k (wrap64 (a0 - b0)) a1).bind fun y => (impl_plus.f k x.1 x.2 y.1 y.2).bind fun t => (impl_whole.f b2).bind fun u => (impl_less.f u.1 u.2 t.1 t.2).bind fun l =>
    (if l = true then some [] else addM k a0 a1 a2 b0 b1 b2 [] t.1 t.2).bind fun xs => meetR k a0 a1 a2 b0 b1 b2 xs
def meetF (k : Nat) (a0 a1 a2 b0 b1 b2 : Int) : Option (List S28 × Bool) :=
  (impl_IsCandle.f a0 a1 a2).bind fun ca => if ca = true then (impl_IsCandle.f b0 b1 b2).bind fun cb => if cb = true then (if b2 < a2 then meetQ k b0 b1 b2 a0 a1 a2 else meetQ k a0 a1 a2 b0 b1 b2).bind fun l => some (l, true) else some ([], false) else some ([], false)
def MtPost (w : World) (r1 : List S28) (r2 : Bool) (e : Ending) (w' : World) : Prop := ∃ v0_ : Value, e = .returned (.tuple #[v0_, .bool r2]) ∧ Kd.R k28 28 w' w.heap.size (fun _ => True) v0_ r1 ∧ Below w.heap.size w w'
set_option maxHeartbeats 8000000 in
set_option maxRecDepth 100000 in
theorem meet_no1 (w : World) (a0 a1 a2 b0 b1 b2 : Int) (hA : impl_IsCandle.f a0 a1 a2 = some false) : Calls Try.prog 33 #[.agg #[.int .i64 a0, .int .i64 a1, .int .i64 a2], .agg #[.int .i64 b0, .int .i64 b1, .int .i64 b2]] w (MtPost w [] false) := by
  have HA := Aside0.mk hA
  clear hA
  have HI0 := Aside0.mk (RtInv.init w a0 a1 a2 b0 b1 b2)
  go_enter Try.func33, Try.ntmps33
  go_wp2_with (go_at_call 19; (with_reducible refine (impl_IsCandle.calls a0 a1 a2 false _ HA.out).mono ?_); rintro e w2 ⟨rfl, hb⟩; have HI1 := Aside0.mk (RtInv.below HI0.out hb); clear hb)
  go_ret2
  exact ⟨_, rfl, Kd.R_nil _ _ _ _ _, HI1.out.2.2⟩
set_option maxHeartbeats 8000000 in
set_option maxRecDepth 100000 in
theorem meet_no2 (w : World) (a0 a1 a2 b0 b1 b2 : Int) (hA : impl_IsCandle.f a0 a1 a2 = some true) (hB : impl_IsCandle.f b0 b1 b2 = some false) : Calls Try.prog 33 #[.agg #[.int .i64 a0, .int .i64 a1, .int .i64 a2], .agg #[.int .i64 b0, .int .i64 b1, .int .i64 b2]] w (MtPost w [] false) := by
  have HA := Aside0.mk hA
  have HB := Aside0.mk hB
  clear hA hB
  have HI0 := Aside0.mk (RtInv.init w a0 a1 a2 b0 b1 b2)
  go_enter Try.func33, Try.ntmps33
  go_wp2_with (first
      | (go_at_call 19; (with_reducible refine (impl_IsCandle.calls a0 a1 a2 true _ HA.out).mono ?_); rintro e w2 ⟨rfl, hb⟩; have HI1 := Aside0.mk (RtInv.below HI0.out hb); clear hb; have x0 := (blk_cell HI1.out.2.1 0).trans rfl; have x1 := (blk_cell HI1.out.2.1 1).trans rfl; have x2 := (blk_cell HI1.out.2.1 2).trans rfl)
      | (go_at_call 19; (with_reducible refine (impl_IsCandle.calls b0 b1 b2 false _ HB.out).mono ?_); rintro e w3 ⟨rfl, hb⟩; have HI2 := Aside0.mk (RtInv.below HI1.out hb); clear hb x0 x1 x2))
  go_ret2
  exact ⟨_, rfl, Kd.R_nil _ _ _ _ _, HI2.out.2.2⟩
set_option maxHeartbeats 8000000 in
set_option maxRecDepth 100000 in
theorem meet_main (k : Nat) (w : World) (a0 a1 a2 b0 b1 b2 p0 p1 p2 q0 q1 q2 : Int) (rr : List S28) (hA : impl_IsCandle.f a0 a1 a2 = some true) (hB : impl_IsCandle.f b0 b1 b2 = some true)
    (hsw : (b2 < a2 ∧ p0 = b0 ∧ p1 = b1 ∧ p2 = b2 ∧ q0 = a0 ∧ q1 = a1 ∧ q2 = a2) ∨ (¬ b2 < a2 ∧ p0 = a0 ∧ p1 = a1 ∧ p2 = a2 ∧ q0 = b0 ∧ q1 = b1 ∧ q2 = b2)) (h : meetQ k p0 p1 p2 q0 q1 q2 = some rr) :
    Calls Try.prog 33 #[.agg #[.int .i64 a0, .int .i64 a1, .int .i64 a2], .agg #[.int .i64 b0, .int .i64 b1, .int .i64 b2]] w (MtPost w rr true) := by
  have HA := Aside0.mk hA
  have HB := Aside0.mk hB
  have HS := Aside0.mk hsw
  have H := Aside0.mk h
  clear hA hB hsw h
  have HI0 := Aside0.mk (RtInv.init w a0 a1 a2 b0 b1 b2)
  go_enter Try.func33, Try.ntmps33
  go_upto_if 23 with (first
      | (go_at_call 19; (with_reducible refine (impl_IsCandle.calls a0 a1 a2 true _ HA.out).mono ?_); rintro e w2 ⟨rfl, hb⟩; have HI1 := Aside0.mk (RtInv.below HI0.out hb); clear hb; have x0 := (blk_cell HI1.out.2.1 0).trans rfl; have x1 := (blk_cell HI1.out.2.1 1).trans rfl; have x2 := (blk_cell HI1.out.2.1 2).trans rfl)
      | (go_at_call 19; (with_reducible refine (impl_IsCandle.calls b0 b1 b2 true _ HB.out).mono ?_); rintro e w3 ⟨rfl, hb⟩; have HI2 := Aside0.mk (RtInv.below HI1.out hb); clear hb x0 x1 x2; have y2 : w3.cell? ⟨w.heap.size, 2, none⟩ = some (.int .i64 a2) := (blk_cell HI2.out.1 2).trans rfl; have z2 : w3.cell? ⟨w.heap.size + 1, 2, none⟩ = some (.int .i64 b2) := (blk_cell HI2.out.2.1 2).trans rfl))
  clear y2 z2 HI0 HI1
  go_cut [] (fun wc => Aside0 (RtInv w wc p0 p1 p2 q0 q1 q2))
  case first =>
    rcases HS.out with ⟨hz, rfl, rfl, rfl, rfl, rfl, rfl⟩ | ⟨hz, rfl, rfl, rfl, rfl, rfl, rfl⟩
    · have zb : decide (p2 < q2) = true := decide_eq_true hz
      simp only [zb]
      have ca0 := (blk_cell HI2.out.1 0).trans rfl
      have ca1 := (blk_cell HI2.out.1 1).trans rfl
      have ca2 := (blk_cell HI2.out.1 2).trans rfl
      have cb0 := (blk_cell HI2.out.2.1 0).trans rfl
      have cb1 := (blk_cell HI2.out.2.1 1).trans rfl
      have cb2 := (blk_cell HI2.out.2.1 2).trans rfl
      have fa0 := blk_frozen HI2.out.1 0
      have fa1 := blk_frozen HI2.out.1 1
      have fa2 := blk_frozen HI2.out.1 2
      have fb0 := blk_frozen HI2.out.2.1 0
      have fb1 := blk_frozen HI2.out.2.1 1
      have fb2 := blk_frozen HI2.out.2.1 2
      clear hz
      go_wp2_with fail
      go_meet
      case rel =>
        have ne : w.heap.size ≠ w.heap.size + 1 := by omega
        have m1 := blk_put (blk_put (blk_put HI2.out.1 0 (.int .i64 p0) rfl) 1 (.int .i64 p1) rfl) 2 (.int .i64 p2) rfl
        have m2 := blk_far (p := ⟨w.heap.size, 2, none⟩) (blk_far (p := ⟨w.heap.size, 1, none⟩) (blk_far (p := ⟨w.heap.size, 0, none⟩) HI2.out.2.1 (Ne.symm ne) (.int .i64 p0)) (Ne.symm ne) (.int .i64 p1)) (Ne.symm ne) (.int .i64 p2)
        have m3 := blk_put (blk_put (blk_put m2 0 (.int .i64 q0) rfl) 1 (.int .i64 q1) rfl) 2 (.int .i64 q2) rfl
        have m4 := blk_far (p := ⟨w.heap.size + 1, 2, none⟩) (blk_far (p := ⟨w.heap.size + 1, 1, none⟩) (blk_far (p := ⟨w.heap.size + 1, 0, none⟩) m1 ne (.int .i64 q0)) ne (.int .i64 q1)) ne (.int .i64 q2)
        exact ⟨m4, m3, below_set (below_set (below_set (below_set (below_set (below_set HI2.out.2.2 (Nat.le_refl _)) (Nat.le_refl _)) (Nat.le_refl _)) (Nat.le_succ _)) (Nat.le_succ _)) (Nat.le_succ _)⟩
    · have zb : decide (q2 < p2) = false := decide_eq_false (by omega)
      simp only [zb]
      clear hz
      go_wp2_with fail
      go_meet
      case rel => exact HI2
  case rest =>
    have HI := hcut
    clear hcut
    have H1 := H.out
    unfold meetQ at H1
    obtain ⟨⟨x0, x1⟩, hx, H2⟩ := Option.bind_eq_some_iff.mp H1
    obtain ⟨⟨y0, y1⟩, hy, H3⟩ := Option.bind_eq_some_iff.mp H2
    obtain ⟨⟨t0, t1⟩, ht, H4⟩ := Option.bind_eq_some_iff.mp H3
    obtain ⟨⟨u0, u1⟩, hu, H5⟩ := Option.bind_eq_some_iff.mp H4
    obtain ⟨l, hl, H6⟩ := Option.bind_eq_some_iff.mp H5
    obtain ⟨xs, hxs, H7⟩ := Option.bind_eq_some_iff.mp H6
    replace ht : impl_plus.f k x0 x1 y0 y1 = some (t0, t1) := ht
    replace hl : impl_less.f u0 u1 t0 t1 = some l := hl
    replace hxs : (if l = true then some [] else addM k p0 p1 p2 q0 q1 q2 [] t0 t1) = some xs := hxs
    have HX := Aside0.mk hx
    have HY := Aside0.mk hy
    have HT := Aside0.mk ht
    have HU := Aside0.mk hu
    have HL := Aside0.mk hl
    have HXS := Aside0.mk hxs
    have HM := Aside0.mk H7
    clear hx hy ht hu hl hxs H1 H2 H3 H4 H5 H6 H7 H HI2
    go_upto_region 7 with ((with_reducible refine gate_dst (N := 26) rfl ?_); refine Kd.R_lit k28 _ 28 ?hg (N := 26) ?hd (xs := ([] : List S28)) (inner := []) (ok := fun _ => True) (okp := fun _ => True) ?hr ?hp (fun _ hk => hk) trivial (Below.refl _ _) (Nat.le_refl _) (by simp) ?_; (case hd => rfl); (case hg => rfl); (case hr => first | (go_simp; done) | (go_simp; rfl)); (case hp => exact (Reps.none _ _)); intro v26 w4 ho5 hb hg_ hnew_; clear hg_ hnew_; obtain ⟨A1, c1, e1⟩ := Kd.R_slice ho5; subst e1; have HO := Aside0.mk ho5; have HBO := Aside0.mk hb; clear hb ho5)
    have HI2 : Aside0 (MInv (fun _ => True) w (w4.alloc (.cells #[.slice A1 0 c1] 42 (0, 0))) w.heap.size (w.heap.size + 1) w4.heap.size p0 p1 p2 q0 q1 q2 []) := ⟨RtInv.made HI.out (below_alloc HBO.out _) (blk_new _ _) (below_size (below_step HI.out.2.2 HBO.out)) (Kd.R_alloc (Kd.R_lower HO.out (below_size HI.out.2.2)) _)⟩
    clear HI HO HBO
    have HI := HI2
    clear HI2
    generalize w4.alloc (.cells #[.slice A1 0 c1] 42 (0, 0)) = W at HI ⊢
    generalize w4.heap.size = G at HI ⊢
    go_cut [8] (fun v8 wc => ∃ T : Nat, v8 = .pointer (some ⟨T, 0, none⟩) ∧ Aside0 (MInv (fun _ => True) w wc w.heap.size (w.heap.size + 1) G p0 p1 p2 q0 q1 q2 []) ∧ Aside0 (wc.heap[T]? = some (.cells #[.int .i64 t0, .int .i64 t1] 28 (0, 0))))
    case first =>
      have n0_ := Aside0.mk (MInv.below HI.out (below_drew1 (Below.refl _ _)))
      clear HI
      have HI := n0_
      clear n0_
      refine start_ (n := 14) (S := fun w' => w'.cell? ⟨w.heap.size, 0, none⟩ = some (.int .i64 p0) ∧ w'.cell? ⟨w.heap.size, 1, none⟩ = some (.int .i64 p1) ∧ w'.cell? ⟨w.heap.size, 2, none⟩ = some (.int .i64 p2) ∧ w'.cell? ⟨w.heap.size + 1, 0, none⟩ = some (.int .i64 q0)) (ds := []) #[false, false, false, false, false, false, false, false, false, false, false, false, false, false] (by kernel_rfl) rfl rfl ⟨(blk_cell HI.out.1 0).trans rfl, (blk_cell HI.out.1 1).trans rfl, (blk_cell HI.out.1 2).trans rfl, (blk_cell HI.out.2.1 0).trans rfl⟩ (fun hHeld => ?_)
      generalize W.drew = wr0 at HI hHeld ⊢
      refine pure_ (i := 0) (N := some 28) (v := ?_) (a' := ?_) #[true, false, false, false, false, false, false, false, false, false, false, false, false, false] rfl rfl (by kernel_rfl) (fun _ _ _ h => h) (Or.inl ⟨by rfl, ?_⟩) ?_ ?_
      rotate_left
      · intro w'
        go_simp
        with_reducible rfl
      rotate_left
      · simp only [Act.put, List.setIfInBounds_toArray, List.set_cons_zero, List.set_cons_succ, i64_w, i32_w]
        rfl
      refine pure_ (i := 3) (N := some 31) (v := ?_) (a' := ?_) #[true, false, false, true, false, false, false, false, false, false, false, false, false, false] rfl rfl (by kernel_rfl) (fun _ _ _ h => h) (Or.inl ⟨by rfl, ?_⟩) ?_ ?_
      rotate_left
      · intro w'
        go_simp
        with_reducible rfl
      rotate_left
      · simp only [Act.put, List.setIfInBounds_toArray, List.set_cons_zero, List.set_cons_succ, i64_w, i32_w]
        rfl
      refine pure_ (i := 5) (N := some 33) (v := ?_) (a' := ?_) #[true, false, false, true, false, true, false, false, false, false, false, false, false, false] rfl rfl (by kernel_rfl) (fun _ _ _ h => h) (Or.inl ⟨by rfl, ?_⟩) ?_ ?_
      rotate_left
      · intro w'
        go_simp
        with_reducible rfl
      rotate_left
      · simp only [Act.put, List.setIfInBounds_toArray, List.set_cons_zero, List.set_cons_succ, i64_w, i32_w]
        rfl
      refine pure_ (i := 8) (N := some 36) (v := ?_) (a' := ?_) #[true, false, false, true, false, true, false, false, true, false, false, false, false, false] rfl rfl (by kernel_rfl) (fun _ _ _ h => h) (Or.inl ⟨by rfl, ?_⟩) ?_ ?_
      rotate_left
      · intro w'
        go_simp
        with_reducible rfl
      rotate_left
      · simp only [Act.put, List.setIfInBounds_toArray, List.set_cons_zero, List.set_cons_succ, i64_w, i32_w]
        rfl
      refine take_ (i := 1) (N := some 29) (v := ?_) (a' := ?_) #[true, true, false, true, false, true, false, false, true, false, false, false, false, false] rfl rfl (by kernel_rfl) (fun _ _ _ h => h) (Or.inl ⟨by rfl, ?_⟩) hHeld ?_ ?_
      rotate_left
      · rintro w' ⟨s0, s1, s2, s3⟩
        go_simp
        with_reducible rfl
      rotate_left
      · simp only [Act.put, List.setIfInBounds_toArray, List.set_cons_zero, List.set_cons_succ, i64_w, i32_w]
        rfl
      refine take_ (i := 4) (N := some 32) (v := ?_) (a' := ?_) #[true, true, false, true, true, true, false, false, true, false, false, false, false, false] rfl rfl (by kernel_rfl) (fun _ _ _ h => h) (Or.inl ⟨by rfl, ?_⟩) hHeld ?_ ?_
      rotate_left
      · rintro w' ⟨s0, s1, s2, s3⟩
        go_simp
        with_reducible rfl
      rotate_left
      · simp only [Act.put, List.setIfInBounds_toArray, List.set_cons_zero, List.set_cons_succ, i64_w, i32_w]
        rfl
      refine take_ (i := 6) (N := some 34) (v := ?_) (a' := ?_) #[true, true, false, true, true, true, true, false, true, false, false, false, false, false] rfl rfl (by kernel_rfl) (fun _ _ _ h => h) (Or.inl ⟨by rfl, ?_⟩) hHeld ?_ ?_
      rotate_left
      · rintro w' ⟨s0, s1, s2, s3⟩
        go_simp
        with_reducible rfl
      rotate_left
      · simp only [Act.put, List.setIfInBounds_toArray, List.set_cons_zero, List.set_cons_succ, i64_w, i32_w]
        rfl
      refine pure_ (i := 7) (N := some 35) (v := ?_) (a' := ?_) #[true, true, false, true, true, true, true, true, true, false, false, false, false, false] rfl rfl (by kernel_rfl) (fun _ _ _ h => h) (Or.inl ⟨by rfl, ?_⟩) ?_ ?_
      rotate_left
      · intro w'
        go_simp
        with_reducible rfl
      rotate_left
      · simp only [Act.put, List.setIfInBounds_toArray, List.set_cons_zero, List.set_cons_succ, i64_w, i32_w]
        rfl
      refine take_ (i := 9) (N := some 37) (v := ?_) (a' := ?_) #[true, true, false, true, true, true, true, true, true, true, false, false, false, false] rfl rfl (by kernel_rfl) (fun _ _ _ h => h) (Or.inl ⟨by rfl, ?_⟩) hHeld ?_ ?_
      rotate_left
      · rintro w' ⟨s0, s1, s2, s3⟩
        go_simp
        with_reducible rfl
      rotate_left
      · simp only [Act.put, List.setIfInBounds_toArray, List.set_cons_zero, List.set_cons_succ, i64_w, i32_w]
        rfl
      refine join_ (σ := Nat) 1 #[true, true, true, true, true, true, true, true, true, true, true, true, true, false] (fun s_ => [(30, .agg #[.int .i64 x0, .int .i64 x1]), (38, .agg #[.int .i64 y0, .int .i64 y1]), (39, .agg #[.int .i64 t0, .int .i64 t1]), (8, .pointer (some ⟨s_, 0, none⟩))]) (fun s_ w' => (w'.cell? ⟨w.heap.size, 0, none⟩ = some (.int .i64 p0) ∧ w'.cell? ⟨w.heap.size, 1, none⟩ = some (.int .i64 p1) ∧ w'.cell? ⟨w.heap.size, 2, none⟩ = some (.int .i64 p2) ∧ w'.cell? ⟨w.heap.size + 1, 0, none⟩ = some (.int .i64 q0)) ∧ (MInv (fun k => k ≠ s_) w w' w.heap.size (w.heap.size + 1) G p0 p1 p2 q0 q1 q2 []) ∧ (w'.heap[s_]? = some (.cells #[.int .i64 0, .int .i64 0] 28 (0, 0))) ∧ (w.heap.size ≤ s_)) ?_ ?_
      rotate_left
      · intro hJ2_10_11_12
        refine join_ (σ := Unit) 2 #[true, true, true, true, true, true, true, true, true, true, true, true, false, false] (fun s_ => [(30, .agg #[.int .i64 x0, .int .i64 x1]), (38, .agg #[.int .i64 y0, .int .i64 y1]), (39, .agg #[.int .i64 t0, .int .i64 t1])]) (fun s_ w' => (w'.cell? ⟨w.heap.size, 0, none⟩ = some (.int .i64 p0) ∧ w'.cell? ⟨w.heap.size, 1, none⟩ = some (.int .i64 p1) ∧ w'.cell? ⟨w.heap.size, 2, none⟩ = some (.int .i64 p2) ∧ w'.cell? ⟨w.heap.size + 1, 0, none⟩ = some (.int .i64 q0)) ∧ (MInv (fun _ => True) w w' w.heap.size (w.heap.size + 1) G p0 p1 p2 q0 q1 q2 [])) ?_ ?_
        rotate_left
        · intro hJ2_10_11
          refine join_ (σ := Nat) 2 #[true, true, true, true, true, true, true, true, true, true, true, false, true, false] (fun s_ => [(30, .agg #[.int .i64 x0, .int .i64 x1]), (38, .agg #[.int .i64 y0, .int .i64 y1]), (8, .pointer (some ⟨s_, 0, none⟩))]) (fun s_ w' => (w'.cell? ⟨w.heap.size, 0, none⟩ = some (.int .i64 p0) ∧ w'.cell? ⟨w.heap.size, 1, none⟩ = some (.int .i64 p1) ∧ w'.cell? ⟨w.heap.size, 2, none⟩ = some (.int .i64 p2) ∧ w'.cell? ⟨w.heap.size + 1, 0, none⟩ = some (.int .i64 q0)) ∧ (MInv (fun k => k ≠ s_) w w' w.heap.size (w.heap.size + 1) G p0 p1 p2 q0 q1 q2 []) ∧ (w'.heap[s_]? = some (.cells #[.int .i64 0, .int .i64 0] 28 (0, 0))) ∧ (w.heap.size ≤ s_)) ?_ ?_
          rotate_left
          · intro hJ2_10_12
            refine join_ (σ := Unit) 3 #[true, true, true, true, true, true, true, true, true, true, true, false, false, false] (fun s_ => [(30, .agg #[.int .i64 x0, .int .i64 x1]), (38, .agg #[.int .i64 y0, .int .i64 y1])]) (fun s_ w' => (w'.cell? ⟨w.heap.size, 0, none⟩ = some (.int .i64 p0) ∧ w'.cell? ⟨w.heap.size, 1, none⟩ = some (.int .i64 p1) ∧ w'.cell? ⟨w.heap.size, 2, none⟩ = some (.int .i64 p2) ∧ w'.cell? ⟨w.heap.size + 1, 0, none⟩ = some (.int .i64 q0)) ∧ (MInv (fun _ => True) w w' w.heap.size (w.heap.size + 1) G p0 p1 p2 q0 q1 q2 [])) ?_ ?_
            rotate_left
            · intro hJ2_10
              refine join_ (σ := Nat) 3 #[true, true, true, true, true, true, true, true, true, true, false, false, true, false] (fun s_ => [(30, .agg #[.int .i64 x0, .int .i64 x1]), (8, .pointer (some ⟨s_, 0, none⟩))]) (fun s_ w' => (w'.cell? ⟨w.heap.size, 0, none⟩ = some (.int .i64 p0) ∧ w'.cell? ⟨w.heap.size, 1, none⟩ = some (.int .i64 p1) ∧ w'.cell? ⟨w.heap.size, 2, none⟩ = some (.int .i64 p2) ∧ w'.cell? ⟨w.heap.size + 1, 0, none⟩ = some (.int .i64 q0)) ∧ (MInv (fun k => k ≠ s_) w w' w.heap.size (w.heap.size + 1) G p0 p1 p2 q0 q1 q2 []) ∧ (w'.heap[s_]? = some (.cells #[.int .i64 0, .int .i64 0] 28 (0, 0))) ∧ (w.heap.size ≤ s_)) ?_ ?_
              rotate_left
              · intro hJ2_12
                refine join_ (σ := Unit) 4 #[true, true, true, true, true, true, true, true, true, true, false, false, false, false] (fun s_ => [(30, .agg #[.int .i64 x0, .int .i64 x1])]) (fun s_ w' => (w'.cell? ⟨w.heap.size, 0, none⟩ = some (.int .i64 p0) ∧ w'.cell? ⟨w.heap.size, 1, none⟩ = some (.int .i64 p1) ∧ w'.cell? ⟨w.heap.size, 2, none⟩ = some (.int .i64 p2) ∧ w'.cell? ⟨w.heap.size + 1, 0, none⟩ = some (.int .i64 q0)) ∧ (MInv (fun _ => True) w w' w.heap.size (w.heap.size + 1) G p0 p1 p2 q0 q1 q2 [])) ?_ ?_
                rotate_left
                · intro hJ2
                  refine join_ (σ := Nat) 4 #[true, true, false, true, true, true, true, true, true, true, false, false, true, false] (fun s_ => [(8, .pointer (some ⟨s_, 0, none⟩))]) (fun s_ w' => (w'.cell? ⟨w.heap.size, 0, none⟩ = some (.int .i64 p0) ∧ w'.cell? ⟨w.heap.size, 1, none⟩ = some (.int .i64 p1) ∧ w'.cell? ⟨w.heap.size, 2, none⟩ = some (.int .i64 p2) ∧ w'.cell? ⟨w.heap.size + 1, 0, none⟩ = some (.int .i64 q0)) ∧ (MInv (fun k => k ≠ s_) w w' w.heap.size (w.heap.size + 1) G p0 p1 p2 q0 q1 q2 []) ∧ (w'.heap[s_]? = some (.cells #[.int .i64 0, .int .i64 0] 28 (0, 0))) ∧ (w.heap.size ≤ s_)) ?_ ?_
                  rotate_left
                  · intro hJ12
                    refine two_ (i := 2) (j := 12) (Ni := some 30) (Nj := some 8) #[true, true, true, true, true, true, true, true, true, true, false, false, false, false] #[true, true, false, true, true, true, true, true, true, true, false, false, true, false] rfl rfl rfl rfl (by kernel_rfl) (by decide) (by decide) (fun K hK => ?_) (fun K hK => ?_)
                    · skip
                      refine goes_ Try.func83 (by kernel_rfl) rfl #[.int .i64 p2] (by rfl) rfl rfl (by (try simp only [List.map_toArray, List.map_cons, List.map_nil]); first | done | rfl) ?_
                      with_reducible refine (impl_whole.calls p2 x0 x1 _ HX.out).mono ?_
                      rintro e wr8 ⟨rfl, hb⟩
                      refine ⟨_, rfl, ?_⟩
                      have n0_ := Aside0.mk (MInv.below HI.out hb)
                      clear HI
                      have HI := n0_
                      clear n0_
                      clear hb
                      refine hK.out _ _ ⟨(blk_cell HI.out.1 0).trans rfl, (blk_cell HI.out.1 1).trans rfl, (blk_cell HI.out.1 2).trans rfl, (blk_cell HI.out.2.1 0).trans rfl⟩ (fun hHeld => ?_)
                      clear hK K
                      refine norm_ (a' := ?_) ?_ ?_
                      rotate_left
                      · show Act.put _ (some 30) _ = _
                        simp only [Act.put, List.setIfInBounds_toArray, List.set_cons_zero, List.set_cons_succ, i64_w, i32_w]
                        rfl
                      exact norm_ (by first | (simp only [putAll, Act.put, List.setIfInBounds_toArray, List.set_cons_zero, List.set_cons_succ]; done) | (simp only [putAll, Act.put, List.setIfInBounds_toArray, List.set_cons_zero, List.set_cons_succ]; rfl)) (hJ2 () _ ⟨hHeld, HI.out⟩)
                    · skip
                      refine box_step ?hg (N := 8) ?hd (cs := #[.int .i64 0, .int .i64 0]) (t := 28) ?hr ?_; (case hd => rfl); (case hg => rfl); (case hr => first | (go_simp; done) | (go_simp; rfl))
                      intro g8 hg wr9 hbox hb
                      have GE8 : Aside0 (w.heap.size ≤ g8) := ⟨by rw [hg]; exact below_size HI.out.2.2.2.2⟩
                      have n0_ := Aside0.mk (MInv.fresh HI.out hg hb)
                      clear HI
                      have HI := n0_
                      clear n0_
                      have BK8 := Aside0.mk hbox
                      clear hb hbox hg
                      refine hK.out _ _ ⟨(blk_cell HI.out.1 0).trans rfl, (blk_cell HI.out.1 1).trans rfl, (blk_cell HI.out.1 2).trans rfl, (blk_cell HI.out.2.1 0).trans rfl⟩ (fun hHeld => ?_)
                      clear hK K
                      refine norm_ (a' := ?_) ?_ ?_
                      rotate_left
                      · show Act.put _ (some 8) _ = _
                        simp only [Act.put, List.setIfInBounds_toArray, List.set_cons_zero, List.set_cons_succ, i64_w, i32_w]
                        rfl
                      exact norm_ (by first | (simp only [putAll, Act.put, List.setIfInBounds_toArray, List.set_cons_zero, List.set_cons_succ]; done) | (simp only [putAll, Act.put, List.setIfInBounds_toArray, List.set_cons_zero, List.set_cons_succ]; rfl)) (hJ12 (g8) _ ⟨hHeld, HI.out, BK8.out, GE8.out⟩)
                  · skip
                    rintro g8 wr7 ⟨hS_, h0_, h1_, h2_⟩
                    have n0_ : Aside0 (MInv (fun k => k ≠ g8) w wr7 w.heap.size (w.heap.size + 1) G p0 p1 p2 q0 q1 q2 []) := ⟨h0_⟩
                    have n1_ : Aside0 (wr7.heap[g8]? = some (.cells #[.int .i64 0, .int .i64 0] 28 (0, 0))) := ⟨h1_⟩
                    have n2_ : Aside0 (w.heap.size ≤ g8) := ⟨h2_⟩
                    clear HI
                    clear h0_ h1_ h2_
                    have HI := n0_
                    have BK8 := n1_
                    have GE8 := n2_
                    clear n0_ n1_ n2_
                    have hHeld : wr7.cell? ⟨w.heap.size, 0, none⟩ = some (.int .i64 p0) ∧ wr7.cell? ⟨w.heap.size, 1, none⟩ = some (.int .i64 p1) ∧ wr7.cell? ⟨w.heap.size, 2, none⟩ = some (.int .i64 p2) ∧ wr7.cell? ⟨w.heap.size + 1, 0, none⟩ = some (.int .i64 q0) := hS_
                    refine norm_ (a' := ?_) ?_ ?_
                    rotate_left
                    · simp only [putAll, Act.put, List.setIfInBounds_toArray, List.set_cons_zero, List.set_cons_succ]
                      rfl
                    refine one_ (i := 2) (N := some 30) #[true, true, true, true, true, true, true, true, true, true, false, false, true, false] rfl rfl (by kernel_rfl) (by decide) (fun K hK => ?_)
                    refine goes_ Try.func83 (by kernel_rfl) rfl #[.int .i64 p2] (by rfl) rfl rfl (by (try simp only [List.map_toArray, List.map_cons, List.map_nil]); first | done | rfl) ?_
                    with_reducible refine (impl_whole.calls p2 x0 x1 _ HX.out).mono ?_
                    rintro e wr10 ⟨rfl, hb⟩
                    refine ⟨_, rfl, ?_⟩
                    have n0_ := Aside0.mk (MInv.below HI.out hb)
                    have n1_ := Aside0.mk (blk_below BK8.out hb)
                    clear HI BK8
                    have HI := n0_
                    have BK8 := n1_
                    clear n0_ n1_
                    clear hb
                    refine hK.out _ _ ⟨(blk_cell HI.out.1 0).trans rfl, (blk_cell HI.out.1 1).trans rfl, (blk_cell HI.out.1 2).trans rfl, (blk_cell HI.out.2.1 0).trans rfl⟩ (fun hHeld => ?_)
                    clear hK K
                    refine norm_ (a' := ?_) ?_ ?_
                    rotate_left
                    · show Act.put _ (some 30) _ = _
                      simp only [Act.put, List.setIfInBounds_toArray, List.set_cons_zero, List.set_cons_succ, i64_w, i32_w]
                      rfl
                    exact norm_ (by first | (simp only [putAll, Act.put, List.setIfInBounds_toArray, List.set_cons_zero, List.set_cons_succ]; done) | (simp only [putAll, Act.put, List.setIfInBounds_toArray, List.set_cons_zero, List.set_cons_succ]; rfl)) (hJ2_12 (g8) _ ⟨hHeld, HI.out, BK8.out, GE8.out⟩)
                · skip
                  rintro _ wr6 ⟨hS_, h0_⟩
                  have n0_ : Aside0 (MInv (fun _ => True) w wr6 w.heap.size (w.heap.size + 1) G p0 p1 p2 q0 q1 q2 []) := ⟨h0_⟩
                  clear HI
                  clear h0_
                  have HI := n0_
                  clear n0_
                  have hHeld : wr6.cell? ⟨w.heap.size, 0, none⟩ = some (.int .i64 p0) ∧ wr6.cell? ⟨w.heap.size, 1, none⟩ = some (.int .i64 p1) ∧ wr6.cell? ⟨w.heap.size, 2, none⟩ = some (.int .i64 p2) ∧ wr6.cell? ⟨w.heap.size + 1, 0, none⟩ = some (.int .i64 q0) := hS_
                  refine norm_ (a' := ?_) ?_ ?_
                  rotate_left
                  · simp only [putAll, Act.put, List.setIfInBounds_toArray, List.set_cons_zero, List.set_cons_succ]
                    rfl
                  refine two_ (i := 10) (j := 12) (Ni := some 38) (Nj := some 8) #[true, true, true, true, true, true, true, true, true, true, true, false, false, false] #[true, true, true, true, true, true, true, true, true, true, false, false, true, false] rfl rfl rfl rfl (by kernel_rfl) (by decide) (by decide) (fun K hK => ?_) (fun K hK => ?_)
                  · skip
                    refine goes_ Try.func94 (by kernel_rfl) rfl #[.int .i64 (wrap64 (p0 - q0)), .int .i64 p1] (by rfl) rfl rfl (by (try simp only [List.map_toArray, List.map_cons, List.map_nil]); first | done | rfl) ?_
                    with_reducible refine (impl_over.calls k (wrap64 (p0 - q0)) p1 y0 y1 _ HY.out).mono ?_
                    rintro e wr11 ⟨rfl, hb⟩
                    refine ⟨_, rfl, ?_⟩
                    have n0_ := Aside0.mk (MInv.below HI.out hb)
                    clear HI
                    have HI := n0_
                    clear n0_
                    clear hb
                    refine hK.out _ _ ⟨(blk_cell HI.out.1 0).trans rfl, (blk_cell HI.out.1 1).trans rfl, (blk_cell HI.out.1 2).trans rfl, (blk_cell HI.out.2.1 0).trans rfl⟩ (fun hHeld => ?_)
                    clear hK K
                    refine norm_ (a' := ?_) ?_ ?_
                    rotate_left
                    · show Act.put _ (some 38) _ = _
                      simp only [Act.put, List.setIfInBounds_toArray, List.set_cons_zero, List.set_cons_succ, i64_w, i32_w]
                      rfl
                    exact norm_ (by first | (simp only [putAll, Act.put, List.setIfInBounds_toArray, List.set_cons_zero, List.set_cons_succ]; done) | (simp only [putAll, Act.put, List.setIfInBounds_toArray, List.set_cons_zero, List.set_cons_succ]; rfl)) (hJ2_10 () _ ⟨hHeld, HI.out⟩)
                  · skip
                    refine box_step ?hg (N := 8) ?hd (cs := #[.int .i64 0, .int .i64 0]) (t := 28) ?hr ?_; (case hd => rfl); (case hg => rfl); (case hr => first | (go_simp; done) | (go_simp; rfl))
                    intro g8 hg wr12 hbox hb
                    have GE8 : Aside0 (w.heap.size ≤ g8) := ⟨by rw [hg]; exact below_size HI.out.2.2.2.2⟩
                    have n0_ := Aside0.mk (MInv.fresh HI.out hg hb)
                    clear HI
                    have HI := n0_
                    clear n0_
                    have BK8 := Aside0.mk hbox
                    clear hb hbox hg
                    refine hK.out _ _ ⟨(blk_cell HI.out.1 0).trans rfl, (blk_cell HI.out.1 1).trans rfl, (blk_cell HI.out.1 2).trans rfl, (blk_cell HI.out.2.1 0).trans rfl⟩ (fun hHeld => ?_)
                    clear hK K
                    refine norm_ (a' := ?_) ?_ ?_
                    rotate_left
                    · show Act.put _ (some 8) _ = _
                      simp only [Act.put, List.setIfInBounds_toArray, List.set_cons_zero, List.set_cons_succ, i64_w, i32_w]
                      rfl
                    exact norm_ (by first | (simp only [putAll, Act.put, List.setIfInBounds_toArray, List.set_cons_zero, List.set_cons_succ]; done) | (simp only [putAll, Act.put, List.setIfInBounds_toArray, List.set_cons_zero, List.set_cons_succ]; rfl)) (hJ2_12 (g8) _ ⟨hHeld, HI.out, BK8.out, GE8.out⟩)
              · skip
                rintro g8 wr5 ⟨hS_, h0_, h1_, h2_⟩
                have n0_ : Aside0 (MInv (fun k => k ≠ g8) w wr5 w.heap.size (w.heap.size + 1) G p0 p1 p2 q0 q1 q2 []) := ⟨h0_⟩
                have n1_ : Aside0 (wr5.heap[g8]? = some (.cells #[.int .i64 0, .int .i64 0] 28 (0, 0))) := ⟨h1_⟩
                have n2_ : Aside0 (w.heap.size ≤ g8) := ⟨h2_⟩
                clear HI
                clear h0_ h1_ h2_
                have HI := n0_
                have BK8 := n1_
                have GE8 := n2_
                clear n0_ n1_ n2_
                have hHeld : wr5.cell? ⟨w.heap.size, 0, none⟩ = some (.int .i64 p0) ∧ wr5.cell? ⟨w.heap.size, 1, none⟩ = some (.int .i64 p1) ∧ wr5.cell? ⟨w.heap.size, 2, none⟩ = some (.int .i64 p2) ∧ wr5.cell? ⟨w.heap.size + 1, 0, none⟩ = some (.int .i64 q0) := hS_
                refine norm_ (a' := ?_) ?_ ?_
                rotate_left
                · simp only [putAll, Act.put, List.setIfInBounds_toArray, List.set_cons_zero, List.set_cons_succ]
                  rfl
                refine one_ (i := 10) (N := some 38) #[true, true, true, true, true, true, true, true, true, true, true, false, true, false] rfl rfl (by kernel_rfl) (by decide) (fun K hK => ?_)
                refine goes_ Try.func94 (by kernel_rfl) rfl #[.int .i64 (wrap64 (p0 - q0)), .int .i64 p1] (by rfl) rfl rfl (by (try simp only [List.map_toArray, List.map_cons, List.map_nil]); first | done | rfl) ?_
                with_reducible refine (impl_over.calls k (wrap64 (p0 - q0)) p1 y0 y1 _ HY.out).mono ?_
                rintro e wr13 ⟨rfl, hb⟩
                refine ⟨_, rfl, ?_⟩
                have n0_ := Aside0.mk (MInv.below HI.out hb)
                have n1_ := Aside0.mk (blk_below BK8.out hb)
                clear HI BK8
                have HI := n0_
                have BK8 := n1_
                clear n0_ n1_
                clear hb
                refine hK.out _ _ ⟨(blk_cell HI.out.1 0).trans rfl, (blk_cell HI.out.1 1).trans rfl, (blk_cell HI.out.1 2).trans rfl, (blk_cell HI.out.2.1 0).trans rfl⟩ (fun hHeld => ?_)
                clear hK K
                refine norm_ (a' := ?_) ?_ ?_
                rotate_left
                · show Act.put _ (some 38) _ = _
                  simp only [Act.put, List.setIfInBounds_toArray, List.set_cons_zero, List.set_cons_succ, i64_w, i32_w]
                  rfl
                exact norm_ (by first | (simp only [putAll, Act.put, List.setIfInBounds_toArray, List.set_cons_zero, List.set_cons_succ]; done) | (simp only [putAll, Act.put, List.setIfInBounds_toArray, List.set_cons_zero, List.set_cons_succ]; rfl)) (hJ2_10_12 (g8) _ ⟨hHeld, HI.out, BK8.out, GE8.out⟩)
            · skip
              rintro _ wr4 ⟨hS_, h0_⟩
              have n0_ : Aside0 (MInv (fun _ => True) w wr4 w.heap.size (w.heap.size + 1) G p0 p1 p2 q0 q1 q2 []) := ⟨h0_⟩
              clear HI
              clear h0_
              have HI := n0_
              clear n0_
              have hHeld : wr4.cell? ⟨w.heap.size, 0, none⟩ = some (.int .i64 p0) ∧ wr4.cell? ⟨w.heap.size, 1, none⟩ = some (.int .i64 p1) ∧ wr4.cell? ⟨w.heap.size, 2, none⟩ = some (.int .i64 p2) ∧ wr4.cell? ⟨w.heap.size + 1, 0, none⟩ = some (.int .i64 q0) := hS_
              refine norm_ (a' := ?_) ?_ ?_
              rotate_left
              · simp only [putAll, Act.put, List.setIfInBounds_toArray, List.set_cons_zero, List.set_cons_succ]
                rfl
              refine two_ (i := 11) (j := 12) (Ni := some 39) (Nj := some 8) #[true, true, true, true, true, true, true, true, true, true, true, true, false, false] #[true, true, true, true, true, true, true, true, true, true, true, false, true, false] rfl rfl rfl rfl (by kernel_rfl) (by decide) (by decide) (fun K hK => ?_) (fun K hK => ?_)
              · skip
                refine goes_ Try.func84 (by kernel_rfl) rfl #[.agg #[.int .i64 x0, .int .i64 x1], .agg #[.int .i64 y0, .int .i64 y1]] (by rfl) rfl rfl (by (try simp only [List.map_toArray, List.map_cons, List.map_nil]); first | done | rfl) ?_
                with_reducible refine (impl_plus.calls k x0 x1 y0 y1 t0 t1 _ HT.out).mono ?_
                rintro e wr14 ⟨rfl, hb⟩
                refine ⟨_, rfl, ?_⟩
                have n0_ := Aside0.mk (MInv.below HI.out hb)
                clear HI
                have HI := n0_
                clear n0_
                clear hb
                refine hK.out _ _ ⟨(blk_cell HI.out.1 0).trans rfl, (blk_cell HI.out.1 1).trans rfl, (blk_cell HI.out.1 2).trans rfl, (blk_cell HI.out.2.1 0).trans rfl⟩ (fun hHeld => ?_)
                clear hK K
                refine norm_ (a' := ?_) ?_ ?_
                rotate_left
                · show Act.put _ (some 39) _ = _
                  simp only [Act.put, List.setIfInBounds_toArray, List.set_cons_zero, List.set_cons_succ, i64_w, i32_w]
                  rfl
                exact norm_ (by first | (simp only [putAll, Act.put, List.setIfInBounds_toArray, List.set_cons_zero, List.set_cons_succ]; done) | (simp only [putAll, Act.put, List.setIfInBounds_toArray, List.set_cons_zero, List.set_cons_succ]; rfl)) (hJ2_10_11 () _ ⟨hHeld, HI.out⟩)
              · skip
                refine box_step ?hg (N := 8) ?hd (cs := #[.int .i64 0, .int .i64 0]) (t := 28) ?hr ?_; (case hd => rfl); (case hg => rfl); (case hr => first | (go_simp; done) | (go_simp; rfl))
                intro g8 hg wr15 hbox hb
                have GE8 : Aside0 (w.heap.size ≤ g8) := ⟨by rw [hg]; exact below_size HI.out.2.2.2.2⟩
                have n0_ := Aside0.mk (MInv.fresh HI.out hg hb)
                clear HI
                have HI := n0_
                clear n0_
                have BK8 := Aside0.mk hbox
                clear hb hbox hg
                refine hK.out _ _ ⟨(blk_cell HI.out.1 0).trans rfl, (blk_cell HI.out.1 1).trans rfl, (blk_cell HI.out.1 2).trans rfl, (blk_cell HI.out.2.1 0).trans rfl⟩ (fun hHeld => ?_)
                clear hK K
                refine norm_ (a' := ?_) ?_ ?_
                rotate_left
                · show Act.put _ (some 8) _ = _
                  simp only [Act.put, List.setIfInBounds_toArray, List.set_cons_zero, List.set_cons_succ, i64_w, i32_w]
                  rfl
                exact norm_ (by first | (simp only [putAll, Act.put, List.setIfInBounds_toArray, List.set_cons_zero, List.set_cons_succ]; done) | (simp only [putAll, Act.put, List.setIfInBounds_toArray, List.set_cons_zero, List.set_cons_succ]; rfl)) (hJ2_10_12 (g8) _ ⟨hHeld, HI.out, BK8.out, GE8.out⟩)
          · skip
            rintro g8 wr3 ⟨hS_, h0_, h1_, h2_⟩
            have n0_ : Aside0 (MInv (fun k => k ≠ g8) w wr3 w.heap.size (w.heap.size + 1) G p0 p1 p2 q0 q1 q2 []) := ⟨h0_⟩
            have n1_ : Aside0 (wr3.heap[g8]? = some (.cells #[.int .i64 0, .int .i64 0] 28 (0, 0))) := ⟨h1_⟩
            have n2_ : Aside0 (w.heap.size ≤ g8) := ⟨h2_⟩
            clear HI
            clear h0_ h1_ h2_
            have HI := n0_
            have BK8 := n1_
            have GE8 := n2_
            clear n0_ n1_ n2_
            have hHeld : wr3.cell? ⟨w.heap.size, 0, none⟩ = some (.int .i64 p0) ∧ wr3.cell? ⟨w.heap.size, 1, none⟩ = some (.int .i64 p1) ∧ wr3.cell? ⟨w.heap.size, 2, none⟩ = some (.int .i64 p2) ∧ wr3.cell? ⟨w.heap.size + 1, 0, none⟩ = some (.int .i64 q0) := hS_
            refine norm_ (a' := ?_) ?_ ?_
            rotate_left
            · simp only [putAll, Act.put, List.setIfInBounds_toArray, List.set_cons_zero, List.set_cons_succ]
              rfl
            refine one_ (i := 11) (N := some 39) #[true, true, true, true, true, true, true, true, true, true, true, true, true, false] rfl rfl (by kernel_rfl) (by decide) (fun K hK => ?_)
            refine goes_ Try.func84 (by kernel_rfl) rfl #[.agg #[.int .i64 x0, .int .i64 x1], .agg #[.int .i64 y0, .int .i64 y1]] (by rfl) rfl rfl (by (try simp only [List.map_toArray, List.map_cons, List.map_nil]); first | done | rfl) ?_
            with_reducible refine (impl_plus.calls k x0 x1 y0 y1 t0 t1 _ HT.out).mono ?_
            rintro e wr16 ⟨rfl, hb⟩
            refine ⟨_, rfl, ?_⟩
            have n0_ := Aside0.mk (MInv.below HI.out hb)
            have n1_ := Aside0.mk (blk_below BK8.out hb)
            clear HI BK8
            have HI := n0_
            have BK8 := n1_
            clear n0_ n1_
            clear hb
            refine hK.out _ _ ⟨(blk_cell HI.out.1 0).trans rfl, (blk_cell HI.out.1 1).trans rfl, (blk_cell HI.out.1 2).trans rfl, (blk_cell HI.out.2.1 0).trans rfl⟩ (fun hHeld => ?_)
            clear hK K
            refine norm_ (a' := ?_) ?_ ?_
            rotate_left
            · show Act.put _ (some 39) _ = _
              simp only [Act.put, List.setIfInBounds_toArray, List.set_cons_zero, List.set_cons_succ, i64_w, i32_w]
              rfl
            exact norm_ (by first | (simp only [putAll, Act.put, List.setIfInBounds_toArray, List.set_cons_zero, List.set_cons_succ]; done) | (simp only [putAll, Act.put, List.setIfInBounds_toArray, List.set_cons_zero, List.set_cons_succ]; rfl)) (hJ2_10_11_12 (g8) _ ⟨hHeld, HI.out, BK8.out, GE8.out⟩)
        · skip
          rintro _ wr2 ⟨hS_, h0_⟩
          have n0_ : Aside0 (MInv (fun _ => True) w wr2 w.heap.size (w.heap.size + 1) G p0 p1 p2 q0 q1 q2 []) := ⟨h0_⟩
          clear HI
          clear h0_
          have HI := n0_
          clear n0_
          have hHeld : wr2.cell? ⟨w.heap.size, 0, none⟩ = some (.int .i64 p0) ∧ wr2.cell? ⟨w.heap.size, 1, none⟩ = some (.int .i64 p1) ∧ wr2.cell? ⟨w.heap.size, 2, none⟩ = some (.int .i64 p2) ∧ wr2.cell? ⟨w.heap.size + 1, 0, none⟩ = some (.int .i64 q0) := hS_
          refine norm_ (a' := ?_) ?_ ?_
          rotate_left
          · simp only [putAll, Act.put, List.setIfInBounds_toArray, List.set_cons_zero, List.set_cons_succ]
            rfl
          refine one_ (i := 12) (N := some 8) #[true, true, true, true, true, true, true, true, true, true, true, true, true, false] rfl rfl (by kernel_rfl) (by decide) (fun K hK => ?_)
          refine box_step ?hg (N := 8) ?hd (cs := #[.int .i64 0, .int .i64 0]) (t := 28) ?hr ?_; (case hd => rfl); (case hg => rfl); (case hr => first | (go_simp; done) | (go_simp; rfl))
          intro g8 hg wr17 hbox hb
          have GE8 : Aside0 (w.heap.size ≤ g8) := ⟨by rw [hg]; exact below_size HI.out.2.2.2.2⟩
          have n0_ := Aside0.mk (MInv.fresh HI.out hg hb)
          clear HI
          have HI := n0_
          clear n0_
          have BK8 := Aside0.mk hbox
          clear hb hbox hg
          refine hK.out _ _ ⟨(blk_cell HI.out.1 0).trans rfl, (blk_cell HI.out.1 1).trans rfl, (blk_cell HI.out.1 2).trans rfl, (blk_cell HI.out.2.1 0).trans rfl⟩ (fun hHeld => ?_)
          clear hK K
          refine norm_ (a' := ?_) ?_ ?_
          rotate_left
          · show Act.put _ (some 8) _ = _
            simp only [Act.put, List.setIfInBounds_toArray, List.set_cons_zero, List.set_cons_succ, i64_w, i32_w]
            rfl
          exact norm_ (by first | (simp only [putAll, Act.put, List.setIfInBounds_toArray, List.set_cons_zero, List.set_cons_succ]; done) | (simp only [putAll, Act.put, List.setIfInBounds_toArray, List.set_cons_zero, List.set_cons_succ]; rfl)) (hJ2_10_11_12 (g8) _ ⟨hHeld, HI.out, BK8.out, GE8.out⟩)
      rintro g8 wr1 ⟨hS_, h0_, h1_, h2_⟩
      have n0_ : Aside0 (MInv (fun k => k ≠ g8) w wr1 w.heap.size (w.heap.size + 1) G p0 p1 p2 q0 q1 q2 []) := ⟨h0_⟩
      have n1_ : Aside0 (wr1.heap[g8]? = some (.cells #[.int .i64 0, .int .i64 0] 28 (0, 0))) := ⟨h1_⟩
      have n2_ : Aside0 (w.heap.size ≤ g8) := ⟨h2_⟩
      clear HI
      clear h0_ h1_ h2_
      have HI := n0_
      have BK8 := n1_
      have GE8 := n2_
      clear n0_ n1_ n2_
      have hHeld : wr1.cell? ⟨w.heap.size, 0, none⟩ = some (.int .i64 p0) ∧ wr1.cell? ⟨w.heap.size, 1, none⟩ = some (.int .i64 p1) ∧ wr1.cell? ⟨w.heap.size, 2, none⟩ = some (.int .i64 p2) ∧ wr1.cell? ⟨w.heap.size + 1, 0, none⟩ = some (.int .i64 q0) := hS_
      refine norm_ (a' := ?_) ?_ ?_
      rotate_left
      · simp only [putAll, Act.put, List.setIfInBounds_toArray, List.set_cons_zero, List.set_cons_succ]
        rfl
      refine one_ (i := 13) (N := none) #[true, true, true, true, true, true, true, true, true, true, true, true, true, true] rfl rfl (by kernel_rfl) (by decide) (fun K hK => ?_)
      have hs0_ : World.cell? _ ⟨g8, 0, none⟩ = some (.int .i64 0) := (blk_cell BK8.out 0).trans rfl
      have hf0_ := blk_frozen BK8.out 0
      have hs1_ : World.cell? _ ⟨g8, 1, none⟩ = some (.int .i64 0) := (blk_cell BK8.out 1).trans rfl
      have hf1_ := blk_frozen BK8.out 1
      refine skip_ (w1 := ?_) (by rfl) rfl ?_ ?_
      rotate_left
      · go_simp
        rfl
      have n0_ := Aside0.mk (MInv.put (MInv.put (HI.out) (BK8.out) GE8.out 0 (.int .i64 t0)) (blk_put (BK8.out) 0 (.int .i64 t0) rfl) GE8.out 1 (.int .i64 t1))
      have n1_ := Aside0.mk (blk_put (blk_put (BK8.out) 0 (.int .i64 t0) rfl) 1 (.int .i64 t1) rfl)
      clear HI BK8
      have HI := n0_
      have BK8 := n1_
      clear n0_ n1_
      clear hs0_ hf0_ hs1_ hf1_
      refine hK.out _ _ ⟨(blk_cell HI.out.1 0).trans rfl, (blk_cell HI.out.1 1).trans rfl, (blk_cell HI.out.1 2).trans rfl, (blk_cell HI.out.2.1 0).trans rfl⟩ (fun hHeld => ?_)
      clear hK K
      refine done_ (by kernel_rfl) ?_
      go_wp2_with fail
      go_meet
      case rel => exact ⟨g8, rfl, ⟨MInv.relax HI.out⟩, BK8⟩
    case rest =>
      obtain ⟨g8, rfl, HI, BK8⟩ := hcut
      go_upto_region 8 with fail
      go_cut [45] (fun v45 ww => v45 = .bool (!l) ∧ Aside0 (MInv (fun _ => True) w ww w.heap.size (w.heap.size + 1) G p0 p1 p2 q0 q1 q2 []) ∧ Aside0 (ww.heap[g8]? = some (.cells #[.int .i64 t0, .int .i64 t1] 28 (0, 0))))
      case first =>
        have n0_ := Aside0.mk (MInv.below HI.out (below_drew1 (Below.refl _ _)))
        have n1_ := Aside0.mk (blk_below BK8.out (below_drew1 (Below.refl _ _)))
        clear HI BK8
        have HI := n0_
        have BK8 := n1_
        clear n0_ n1_
        refine start_ (n := 6) (S := fun w' => w'.cell? ⟨w.heap.size + 1, 2, none⟩ = some (.int .i64 q2) ∧ w'.cell? ⟨g8, 0, none⟩ = some (.int .i64 t0) ∧ w'.cell? ⟨g8, 1, none⟩ = some (.int .i64 t1)) (ds := []) #[false, false, false, false, false, false] (by kernel_rfl) rfl rfl ⟨(blk_cell HI.out.2.1 2).trans rfl, (blk_cell BK8.out 0).trans rfl, (blk_cell BK8.out 1).trans rfl⟩ (fun hHeld => ?_)
        generalize wc.drew = wr0 at HI BK8 hHeld ⊢
        refine pure_ (i := 0) (N := some 40) (v := ?_) (a' := ?_) #[true, false, false, false, false, false] rfl rfl (by kernel_rfl) (fun _ _ _ h => h) (Or.inl ⟨by rfl, ?_⟩) ?_ ?_
        rotate_left
        · intro w'
          go_simp
          with_reducible rfl
        rotate_left
        · simp only [Act.put, List.setIfInBounds_toArray, List.set_cons_zero, List.set_cons_succ, i64_w, i32_w]
          rfl
        refine take_ (i := 1) (N := some 41) (v := ?_) (a' := ?_) #[true, true, false, false, false, false] rfl rfl (by kernel_rfl) (fun _ _ _ h => h) (Or.inl ⟨by rfl, ?_⟩) hHeld ?_ ?_
        rotate_left
        · rintro w' ⟨s0, s1, s2⟩
          go_simp
          with_reducible rfl
        rotate_left
        · simp only [Act.put, List.setIfInBounds_toArray, List.set_cons_zero, List.set_cons_succ, i64_w, i32_w]
          rfl
        refine take_ (i := 3) (N := some 43) (v := ?_) (a' := ?_) #[true, true, false, true, false, false] rfl rfl (by kernel_rfl) (fun _ _ _ h => h) (Or.inl ⟨by rfl, ?_⟩) hHeld ?_ ?_
        rotate_left
        · rintro w' ⟨s0, s1, s2⟩
          go_simp
          with_reducible rfl
        rotate_left
        · simp only [Act.put, List.setIfInBounds_toArray, List.set_cons_zero, List.set_cons_succ, i64_w, i32_w]
          rfl
        refine one_ (i := 2) (N := some 42) #[true, true, true, true, false, false] rfl rfl (by kernel_rfl) (by decide) (fun K hK => ?_)
        refine goes_ Try.func83 (by kernel_rfl) rfl #[.int .i64 q2] (by rfl) rfl rfl (by (try simp only [List.map_toArray, List.map_cons, List.map_nil]); first | done | rfl) ?_
        with_reducible refine (impl_whole.calls q2 u0 u1 _ HU.out).mono ?_
        rintro e wr1 ⟨rfl, hb⟩
        refine ⟨_, rfl, ?_⟩
        have n0_ := Aside0.mk (MInv.below HI.out hb)
        have n1_ := Aside0.mk (blk_below BK8.out hb)
        clear HI BK8
        have HI := n0_
        have BK8 := n1_
        clear n0_ n1_
        clear hb
        refine hK.out _ _ ⟨(blk_cell HI.out.2.1 2).trans rfl, (blk_cell BK8.out 0).trans rfl, (blk_cell BK8.out 1).trans rfl⟩ (fun hHeld => ?_)
        clear hK K
        refine norm_ (a' := ?_) ?_ ?_
        rotate_left
        · show Act.put _ (some 42) _ = _
          simp only [Act.put, List.setIfInBounds_toArray, List.set_cons_zero, List.set_cons_succ, i64_w, i32_w]
          rfl
        refine one_ (i := 4) (N := some 44) #[true, true, true, true, true, false] rfl rfl (by kernel_rfl) (by decide) (fun K hK => ?_)
        refine goes_ Try.func82 (by kernel_rfl) rfl #[.agg #[.int .i64 u0, .int .i64 u1], .agg #[.int .i64 t0, .int .i64 t1]] (by rfl) rfl rfl (by (try simp only [List.map_toArray, List.map_cons, List.map_nil]); first | done | rfl) ?_
        with_reducible refine (impl_less.calls u0 u1 t0 t1 l _ HL.out).mono ?_
        rintro e wr2 ⟨rfl, hb⟩
        refine ⟨_, rfl, ?_⟩
        have n0_ := Aside0.mk (MInv.below HI.out hb)
        have n1_ := Aside0.mk (blk_below BK8.out hb)
        clear HI BK8
        have HI := n0_
        have BK8 := n1_
        clear n0_ n1_
        clear hb
        refine hK.out _ _ ⟨(blk_cell HI.out.2.1 2).trans rfl, (blk_cell BK8.out 0).trans rfl, (blk_cell BK8.out 1).trans rfl⟩ (fun hHeld => ?_)
        clear hK K
        refine norm_ (a' := ?_) ?_ ?_
        rotate_left
        · show Act.put _ (some 44) _ = _
          simp only [Act.put, List.setIfInBounds_toArray, List.set_cons_zero, List.set_cons_succ, i64_w, i32_w]
          rfl
        refine pure_ (i := 5) (N := some 45) (v := ?_) (a' := ?_) #[true, true, true, true, true, true] rfl rfl (by kernel_rfl) (fun _ _ _ h => h) (Or.inl ⟨by rfl, ?_⟩) ?_ ?_
        rotate_left
        · intro w'
          go_simp
          with_reducible rfl
        rotate_left
        · simp only [Act.put, List.setIfInBounds_toArray, List.set_cons_zero, List.set_cons_succ, i64_w, i32_w]
          rfl
        refine done_ (by kernel_rfl) ?_
        go_wp2_with fail
        go_meet
        case rel => exact ⟨rfl, HI, BK8⟩
      case rest =>
        obtain ⟨rfl, HI, BK8⟩ := hcut
        go_upto_if 45 with fail
        go_cut [] (fun ww => Aside0 (MInv (fun _ => True) w ww w.heap.size (w.heap.size + 1) G p0 p1 p2 q0 q1 q2 xs))
        case first =>
          cases l with
          | true =>
            have hx2 := HXS.out
            rw [if_pos rfl] at hx2
            obtain rfl := Option.some.inj hx2
            clear hx2
            go_wp2_with fail
            go_meet
            case rel => exact HI
          | false =>
            have hx2 := HXS.out
            rw [if_neg (by decide)] at hx2
            have HX2 := Aside0.mk hx2
            have ct0 := (blk_cell BK8.out 0).trans rfl
            have ct1 := (blk_cell BK8.out 1).trans rfl
            clear hx2
            go_wp2_with (go_at_call 91; (with_reducible refine (add_calls k w _ w.heap.size (w.heap.size + 1) G p0 p1 p2 q0 q1 q2 t0 t1 [] xs HI.out HX2.out).mono ?_); rintro e w5 ⟨rfl, hi5⟩; have HI5 := Aside0.mk hi5; clear hi5 ct0 ct1)
            go_meet
            case rel => exact HI5
        case rest =>
          have HI := hcut
          clear hcut HX HY HT HL HXS
          have H1 := HM.out
          unfold meetR at H1
          have ca0 := (blk_cell HI.out.1 0).trans rfl
          have ca1 := (blk_cell HI.out.1 1).trans rfl
          have ca2 := (blk_cell HI.out.1 2).trans rfl
          have cb0 := (blk_cell HI.out.2.1 0).trans rfl
          have cb1 := (blk_cell HI.out.2.1 1).trans rfl
          have cb2 := (blk_cell HI.out.2.1 2).trans rfl
          by_cases hpq : p1 = q1
          · rw [if_pos hpq] at H1
            have hz1 : (p1 == q1) = true := beq_iff_eq.mpr hpq
            obtain ⟨⟨s0, s1⟩, hs, H2⟩ := Option.bind_eq_some_iff.mp H1
            obtain ⟨m, hm, H3⟩ := Option.bind_eq_some_iff.mp H2
            replace hm : impl_meet.f k p0 p1 p2 q0 q1 q2 s0 s1 = some m := hm
            have HS2 := Aside0.mk hs
            have HM2 := Aside0.mk hm
            have H4 := Aside0.mk H3
            clear H1 H2 H3 hs hm hpq HM
            cases m with
            | false =>
              have h5 := H4.out
              rw [if_neg (by decide)] at h5
              obtain rfl := Option.some.inj h5
              clear h5 H4
              go_wp2_with (first
                | (go_at_call 83; (with_reducible refine (impl_whole.calls q2 s0 s1 _ HS2.out).mono ?_); rintro e w6 ⟨rfl, hb⟩; have HI6 := Aside0.mk (MInv.below (MInv.below HI.out hb) (below_alloc (Below.refl _ _) (.cells #[.int .i64 s0, .int .i64 s1] 28 (0, 0)))); clear hb ca0 ca1 ca2 cb0 cb1 cb2; have ca0 := (blk_cell HI6.out.1 0).trans rfl; have ca1 := (blk_cell HI6.out.1 1).trans rfl; have ca2 := (blk_cell HI6.out.1 2).trans rfl; have cb0 := (blk_cell HI6.out.2.1 0).trans rfl; have cb1 := (blk_cell HI6.out.2.1 1).trans rfl; have cb2 := (blk_cell HI6.out.2.1 2).trans rfl)
                | (go_at_call 92; (with_reducible refine (impl_meet.calls k p0 p1 p2 q0 q1 q2 s0 s1 false _ HM2.out).mono ?_); rintro e w7 ⟨rfl, hb⟩; have HI7 := Aside0.mk (MInv.below HI6.out hb); clear hb ca0 ca1 ca2 cb0 cb1 cb2; obtain ⟨v, hv, hR⟩ := HI7.out.2.2.2.1; obtain ⟨A5, c5, rfl⟩ := Kd.R_slice hR; have HR := Aside0.mk hR; clear hR; have cg := (blk_cell hv 0).trans rfl; clear hv))
              go_ret2
              exact ⟨_, rfl, HR.out, HI7.out.2.2.2.2⟩
            | true =>
              have h5 := H4.out
              rw [if_pos rfl] at h5
              obtain ⟨ys, hys, h6⟩ := Option.bind_eq_some_iff.mp h5
              obtain ⟨⟨o0, o1⟩, ho, h7⟩ := Option.bind_eq_some_iff.mp h6
              have HYS := Aside0.mk hys
              have HOUT := Aside0.mk ho
              clear h5 H4 hys ho h6
              by_cases hl2 : ys.length < 8796093022208
              · rw [if_pos hl2] at h7
                obtain rfl := Option.some.inj h7
                have HL2 := Aside0.mk hl2
                clear h7 hl2
                go_upto_region 14 with (first
                  | (go_at_call 83; (with_reducible refine (impl_whole.calls q2 s0 s1 _ HS2.out).mono ?_); rintro e w6 ⟨rfl, hb⟩; have HI6 := Aside0.mk (MInv.below (MInv.below HI.out hb) (below_alloc (Below.refl _ _) (.cells #[.int .i64 s0, .int .i64 s1] 28 (0, 0)))); clear hb ca0 ca1 ca2 cb0 cb1 cb2; have ca0 := (blk_cell HI6.out.1 0).trans rfl; have ca1 := (blk_cell HI6.out.1 1).trans rfl; have ca2 := (blk_cell HI6.out.1 2).trans rfl; have cb0 := (blk_cell HI6.out.2.1 0).trans rfl; have cb1 := (blk_cell HI6.out.2.1 1).trans rfl; have cb2 := (blk_cell HI6.out.2.1 2).trans rfl)
                  | (go_at_call 92; (with_reducible refine (impl_meet.calls k p0 p1 p2 q0 q1 q2 s0 s1 true _ HM2.out).mono ?_); rintro e w7 ⟨rfl, hb⟩; have HI7 := Aside0.mk (MInv.below HI6.out hb); have BK9 := Aside0.mk (blk_below (blk_new w6 (.cells #[.int .i64 s0, .int .i64 s1] 28 (0, 0))) hb); clear hb ca0 ca1 ca2 cb0 cb1 cb2; have ct0 := (blk_cell BK9.out 0).trans rfl; have ct1 := (blk_cell BK9.out 1).trans rfl)
                  | (go_at_call 91; (with_reducible refine (add_calls k w _ w.heap.size (w.heap.size + 1) G p0 p1 p2 q0 q1 q2 s0 s1 xs ys HI7.out HYS.out).mono ?_); rintro e w8 ⟨rfl, hi8⟩; have HI8 := Aside0.mk hi8; clear hi8 ct0 ct1))
                obtain ⟨v, hv, hR⟩ := HI8.out.2.2.2.1
                obtain ⟨A2, c2, rfl⟩ := Kd.R_slice hR
                have HV := Aside0.mk hv
                have HR := Aside0.mk hR
                clear hv hR
                have HI := HI8
                clear HI8 HI7 HI6 BK9
                have n0_ := Aside0.mk (MInv.below HI.out (below_drew1 (Below.refl _ _)))
                have n1_ := Aside0.mk (blk_below HV.out (below_drew1 (Below.refl _ _)))
                have n2_ := Aside0.mk (Kd.R_below HR.out (below_drew1 (Below.refl _ _)))
                clear HI HV HR
                have HI := n0_
                have HV := n1_
                have HR := n2_
                clear n0_ n1_ n2_
                refine start_ (n := 6) (S := fun w' => w'.cell? ⟨G, 0, none⟩ = some (.slice A2 ys.length c2) ∧ w'.cell? ⟨w.heap.size, 0, none⟩ = some (.int .i64 p0) ∧ w'.cell? ⟨w.heap.size, 1, none⟩ = some (.int .i64 p1) ∧ w'.cell? ⟨w.heap.size, 2, none⟩ = some (.int .i64 p2)) (ds := [5]) #[false, false, false, false, false, false] (by kernel_rfl) rfl rfl ⟨(blk_cell HV.out 0).trans rfl, (blk_cell HI.out.1 0).trans rfl, (blk_cell HI.out.1 1).trans rfl, (blk_cell HI.out.1 2).trans rfl⟩ (fun hHeld => ?_)
                generalize w8.drew = wr0 at HI HV HR hHeld ⊢
                refine take_ (i := 0) (N := some 64) (v := ?_) (a' := ?_) #[true, false, false, false, false, false] rfl rfl (by kernel_rfl) (fun _ _ _ h => h) (Or.inl ⟨by rfl, ?_⟩) hHeld ?_ ?_
                rotate_left
                · rintro w' ⟨s0, s1, s2, s3⟩
                  go_simp
                  with_reducible rfl
                rotate_left
                · simp only [Act.put, List.setIfInBounds_toArray, List.set_cons_zero, List.set_cons_succ, i64_w, i32_w]
                  rfl
                refine take_ (i := 1) (N := some 65) (v := ?_) (a' := ?_) #[true, true, false, false, false, false] rfl rfl (by kernel_rfl) (fun _ _ _ h => h) (Or.inl ⟨by rfl, ?_⟩) hHeld ?_ ?_
                rotate_left
                · rintro w' ⟨s0, s1, s2, s3⟩
                  go_simp
                  with_reducible rfl
                rotate_left
                · simp only [Act.put, List.setIfInBounds_toArray, List.set_cons_zero, List.set_cons_succ, i64_w, i32_w]
                  rfl
                refine one_ (i := 2) (N := some 66) #[true, true, true, false, false, false] rfl rfl (by kernel_rfl) (by decide) (fun K hK => ?_)
                refine goes_ Try.func75 (by kernel_rfl) rfl #[.agg #[.int .i64 p0, .int .i64 p1, .int .i64 p2]] (by rfl) rfl rfl (by (try simp only [List.map_toArray, List.map_cons, List.map_nil]); first | done | rfl) ?_
                with_reducible refine (impl_Candle_out.calls k p0 p1 p2 o0 o1 _ HOUT.out).mono ?_
                rintro e wr1 ⟨rfl, hb⟩
                refine ⟨_, rfl, ?_⟩
                have n0_ := Aside0.mk (MInv.below HI.out hb)
                have n1_ := Aside0.mk (blk_below HV.out hb)
                have n2_ := Aside0.mk (Kd.R_below HR.out hb)
                clear HI HV HR
                have HI := n0_
                have HV := n1_
                have HR := n2_
                clear n0_ n1_ n2_
                clear hb
                refine hK.out _ _ ⟨(blk_cell HV.out 0).trans rfl, (blk_cell HI.out.1 0).trans rfl, (blk_cell HI.out.1 1).trans rfl, (blk_cell HI.out.1 2).trans rfl⟩ (fun hHeld => ?_)
                clear hK K
                refine norm_ (a' := ?_) ?_ ?_
                rotate_left
                · show Act.put _ (some 66) _ = _
                  simp only [Act.put, List.setIfInBounds_toArray, List.set_cons_zero, List.set_cons_succ, i64_w, i32_w]
                  rfl
                refine one_ (i := 3) (N := some 67) #[true, true, true, true, false, false] rfl rfl (by kernel_rfl) (by decide) (fun K hK => ?_)
                refine value_ (w1 := ?_) (v := ?_) (by rfl) rfl ?_ ?_
                rotate_left 2
                · go_simp
                  constructor
                  · rfl
                  · rfl
                refine hK.out _ _ ⟨(blk_cell (blk_alloc (HV.out) _) 0).trans rfl, (blk_cell (blk_alloc (HI.out.1) _) 0).trans rfl, (blk_cell (blk_alloc (HI.out.1) _) 1).trans rfl, (blk_cell (blk_alloc (HI.out.1) _) 2).trans rfl⟩ (fun hHeld => ?_)
                clear hK K
                refine norm_ (a' := ?_) ?_ ?_
                rotate_left
                · show Act.put _ (some 67) _ = _
                  simp only [Act.put, List.setIfInBounds_toArray, List.set_cons_zero, List.set_cons_succ, i64_w, i32_w]
                  rfl
                refine one_ (i := 4) (N := some 68) #[true, true, true, true, true, false] rfl rfl (by kernel_rfl) (by decide) (fun K hK => ?_)
                refine Kd.R_append_step k28 (w0 := w) w.heap.size ?hw (.tmp 64) (.tmp 67) 42 28 (.agg #[(.int .i64 0), (.int .i64 0)]) 16 rfl Try.underlying42 info28M rfl (by decide) (by omega) (.slice A2 ys.length c2) ys (⟨o0, o1⟩ : S28) [.int .i64 o0, .int .i64 o1] (fun _ => True) (fun _ => False) rfl rfl ?aP (fun _ hk => hk.elim) (fun _ _ => trivial) ?aO ?aB ?aS ?aL ?_
                case hw => rfl
                case aP => exact k28_mkM _ _ _ (⟨o0, o1⟩ : S28)
                case aB => exact HI.out.2.2.2.2
                case aO => exact HR.out
                case aS => exact below_size HI.out.2.2.2.2
                case aL => have := HL2.out; omega
                intro v1 w4 ho hb hg hat
                obtain ⟨A3, c3, e3⟩ := Kd.R_slice ho
                subst e3
                have hs0_ : World.cell? _ ⟨G, 0, none⟩ = some (.slice A2 ys.length c2) := (blk_cell (blk_grown (HV.out) hg (Kd.R_ne HR.out (HV.out) (by decide))) 0).trans rfl
                have hf0_ := blk_frozen (blk_grown HV.out hg (Kd.R_ne HR.out HV.out (by decide))) 0
                refine hK.out _ _ ⟨(blk_cell (blk_grown (HV.out) hg (Kd.R_ne HR.out (HV.out) (by decide))) 0).trans rfl, (blk_cell (blk_grown (HI.out.1) hg (Kd.R_ne HR.out (HI.out.1) (by decide))) 0).trans rfl, (blk_cell (blk_grown (HI.out.1) hg (Kd.R_ne HR.out (HI.out.1) (by decide))) 1).trans rfl, (blk_cell (blk_grown (HI.out.1) hg (Kd.R_ne HR.out (HI.out.1) (by decide))) 2).trans rfl⟩ (fun hHeld => ?_)
                clear hK K
                refine norm_ (a' := ?_) ?_ ?_
                rotate_left
                · show Act.put _ (some 68) _ = _
                  simp only [Act.put, List.setIfInBounds_toArray, List.set_cons_zero, List.set_cons_succ, i64_w, i32_w]
                  rfl
                refine last_ (i := 5) (N := none) #[true, true, true, true, true, true] rfl rfl (by kernel_rfl) (by decide) (fun K hK => ?_)
                refine skip_ (w1 := ?_) (by rfl) rfl ?_ ?_
                rotate_left
                · go_simp
                  rfl
                refine hK.out _ _ ?_
                clear hK K
                refine done_ (by kernel_rfl) ?_
                have HI9 := Aside0.mk (MInv.grown HI.out HV.out HR.out hg hb ho)
                have HR9 := Aside0.mk (Kd.R_set ho (blk_grown HV.out hg (Kd.R_ne HR.out HV.out (by decide))) (by decide) 0 (.slice A3 (ys ++ [(⟨o0, o1⟩ : S28)]).length c3))
                rw [show (ys ++ [(⟨o0, o1⟩ : S28)]).length = ys.length + 1 from by simp] at HI9 HR9
                clear ho hb hg hat
                go_wp2_with fail
                go_ret2
                exact ⟨_, rfl, HR9.out, HI9.out.2.2.2.2⟩
              · rw [if_neg hl2] at h7; cases h7
          · rw [if_neg hpq] at H1
            have hz1 : (p1 == q1) = false := beq_eq_false_iff_ne.mpr hpq
            obtain ⟨⟨s0, s1⟩, hs, H2⟩ := Option.bind_eq_some_iff.mp H1
            obtain ⟨⟨u2, u3⟩, hu2, H3⟩ := Option.bind_eq_some_iff.mp H2
            obtain ⟨l2, hl2, H4⟩ := Option.bind_eq_some_iff.mp H3
            replace hl2 : impl_less.f s0 s1 u2 u3 = some l2 := hl2
            replace H4 : (if l2 = true then some xs else addM k p0 p1 p2 q0 q1 q2 xs s0 s1) = some rr := H4
            have HS2 := Aside0.mk hs
            have HU2 := Aside0.mk hu2
            have HL2 := Aside0.mk hl2
            have H5 := Aside0.mk H4
            clear H1 H2 H3 H4 hs hu2 hl2 hpq HM
            go_upto_region 17 with (go_at_call 94; (with_reducible refine (impl_over.calls k (wrap64 (wrap64 (wrap64 (p0 + wrap64 (p1 * p2)) - q0) - wrap64 (q1 * q2))) (wrap64 (p1 - q1)) s0 s1 _ HS2.out).mono ?_); rintro e w6 ⟨rfl, hb⟩; have HI6 := Aside0.mk (MInv.below HI.out hb); clear hb ca0 ca1 ca2 cb0 cb1 cb2)
            have BK10 := Aside0.mk (blk_new w6 (.cells #[.int .i64 s0, .int .i64 s1] 28 (0, 0)))
            have HI7 := Aside0.mk (MInv.below HI6.out (below_alloc (Below.refl w6.heap.size w6) (.cells #[.int .i64 s0, .int .i64 s1] 28 (0, 0))))
            clear HI HI6
            have HI := HI7
            clear HI7
            generalize w6.alloc (.cells #[.int .i64 s0, .int .i64 s1] 28 (0, 0)) = W6 at HI BK10 ⊢
            generalize w6.heap.size = g10 at BK10 ⊢
            go_cut [98] (fun v98 ww => v98 = .bool (!l2) ∧ Aside0 (MInv (fun _ => True) w ww w.heap.size (w.heap.size + 1) G p0 p1 p2 q0 q1 q2 xs) ∧ Aside0 (ww.heap[g10]? = some (.cells #[.int .i64 s0, .int .i64 s1] 28 (0, 0))))
            case first =>
              have n0_ := Aside0.mk (MInv.below HI.out (below_drew1 (Below.refl _ _)))
              have n1_ := Aside0.mk (blk_below BK10.out (below_drew1 (Below.refl _ _)))
              clear HI BK10
              have HI := n0_
              have BK10 := n1_
              clear n0_ n1_
              refine start_ (n := 6) (S := fun w' => w'.cell? ⟨w.heap.size + 1, 2, none⟩ = some (.int .i64 q2) ∧ w'.cell? ⟨g10, 0, none⟩ = some (.int .i64 s0) ∧ w'.cell? ⟨g10, 1, none⟩ = some (.int .i64 s1)) (ds := []) #[false, false, false, false, false, false] (by kernel_rfl) rfl rfl ⟨(blk_cell HI.out.2.1 2).trans rfl, (blk_cell BK10.out 0).trans rfl, (blk_cell BK10.out 1).trans rfl⟩ (fun hHeld => ?_)
              generalize W6.drew = wr0 at HI BK10 hHeld ⊢
              refine pure_ (i := 1) (N := some 94) (v := ?_) (a' := ?_) #[false, true, false, false, false, false] rfl rfl (by kernel_rfl) (fun _ _ _ h => h) (Or.inl ⟨by rfl, ?_⟩) ?_ ?_
              rotate_left
              · intro w'
                go_simp
                with_reducible rfl
              rotate_left
              · simp only [Act.put, List.setIfInBounds_toArray, List.set_cons_zero, List.set_cons_succ, i64_w, i32_w]
                rfl
              refine take_ (i := 0) (N := some 93) (v := ?_) (a' := ?_) #[true, true, false, false, false, false] rfl rfl (by kernel_rfl) (fun _ _ _ h => h) (Or.inl ⟨by rfl, ?_⟩) hHeld ?_ ?_
              rotate_left
              · rintro w' ⟨s0, s1, s2⟩
                go_simp
                with_reducible rfl
              rotate_left
              · simp only [Act.put, List.setIfInBounds_toArray, List.set_cons_zero, List.set_cons_succ, i64_w, i32_w]
                rfl
              refine take_ (i := 2) (N := some 95) (v := ?_) (a' := ?_) #[true, true, true, false, false, false] rfl rfl (by kernel_rfl) (fun _ _ _ h => h) (Or.inl ⟨by rfl, ?_⟩) hHeld ?_ ?_
              rotate_left
              · rintro w' ⟨s0, s1, s2⟩
                go_simp
                with_reducible rfl
              rotate_left
              · simp only [Act.put, List.setIfInBounds_toArray, List.set_cons_zero, List.set_cons_succ, i64_w, i32_w]
                rfl
              refine one_ (i := 3) (N := some 96) #[true, true, true, true, false, false] rfl rfl (by kernel_rfl) (by decide) (fun K hK => ?_)
              refine goes_ Try.func83 (by kernel_rfl) rfl #[.int .i64 q2] (by rfl) rfl rfl (by (try simp only [List.map_toArray, List.map_cons, List.map_nil]); first | done | rfl) ?_
              with_reducible refine (impl_whole.calls q2 u2 u3 _ HU2.out).mono ?_
              rintro e wr1 ⟨rfl, hb⟩
              refine ⟨_, rfl, ?_⟩
              have n0_ := Aside0.mk (MInv.below HI.out hb)
              have n1_ := Aside0.mk (blk_below BK10.out hb)
              clear HI BK10
              have HI := n0_
              have BK10 := n1_
              clear n0_ n1_
              clear hb
              refine hK.out _ _ ⟨(blk_cell HI.out.2.1 2).trans rfl, (blk_cell BK10.out 0).trans rfl, (blk_cell BK10.out 1).trans rfl⟩ (fun hHeld => ?_)
              clear hK K
              refine norm_ (a' := ?_) ?_ ?_
              rotate_left
              · show Act.put _ (some 96) _ = _
                simp only [Act.put, List.setIfInBounds_toArray, List.set_cons_zero, List.set_cons_succ, i64_w, i32_w]
                rfl
              refine one_ (i := 4) (N := some 97) #[true, true, true, true, true, false] rfl rfl (by kernel_rfl) (by decide) (fun K hK => ?_)
              refine goes_ Try.func82 (by kernel_rfl) rfl #[.agg #[.int .i64 s0, .int .i64 s1], .agg #[.int .i64 u2, .int .i64 u3]] (by rfl) rfl rfl (by (try simp only [List.map_toArray, List.map_cons, List.map_nil]); first | done | rfl) ?_
              with_reducible refine (impl_less.calls s0 s1 u2 u3 l2 _ HL2.out).mono ?_
              rintro e wr2 ⟨rfl, hb⟩
              refine ⟨_, rfl, ?_⟩
              have n0_ := Aside0.mk (MInv.below HI.out hb)
              have n1_ := Aside0.mk (blk_below BK10.out hb)
              clear HI BK10
              have HI := n0_
              have BK10 := n1_
              clear n0_ n1_
              clear hb
              refine hK.out _ _ ⟨(blk_cell HI.out.2.1 2).trans rfl, (blk_cell BK10.out 0).trans rfl, (blk_cell BK10.out 1).trans rfl⟩ (fun hHeld => ?_)
              clear hK K
              refine norm_ (a' := ?_) ?_ ?_
              rotate_left
              · show Act.put _ (some 97) _ = _
                simp only [Act.put, List.setIfInBounds_toArray, List.set_cons_zero, List.set_cons_succ, i64_w, i32_w]
                rfl
              refine pure_ (i := 5) (N := some 98) (v := ?_) (a' := ?_) #[true, true, true, true, true, true] rfl rfl (by kernel_rfl) (fun _ _ _ h => h) (Or.inl ⟨by rfl, ?_⟩) ?_ ?_
              rotate_left
              · intro w'
                go_simp
                with_reducible rfl
              rotate_left
              · simp only [Act.put, List.setIfInBounds_toArray, List.set_cons_zero, List.set_cons_succ, i64_w, i32_w]
                rfl
              refine done_ (by kernel_rfl) ?_
              go_wp2_with fail
              go_meet
              case rel => exact ⟨rfl, HI, BK10⟩
            case rest =>
              obtain ⟨rfl, HI, BK10⟩ := hcut
              cases l2 with
              | true =>
                have hx2 := H5.out
                rw [if_pos rfl] at hx2
                obtain rfl := Option.some.inj hx2
                clear hx2
                obtain ⟨v, hv, hR⟩ := HI.out.2.2.2.1
                obtain ⟨A5, c5, rfl⟩ := Kd.R_slice hR
                have HR9 := Aside0.mk hR
                have cg := (blk_cell hv 0).trans rfl
                clear hv hR
                go_wp2_with fail
                go_ret2
                exact ⟨_, rfl, HR9.out, HI.out.2.2.2.2⟩
              | false =>
                have hx2 := H5.out
                rw [if_neg (by decide)] at hx2
                have HX2 := Aside0.mk hx2
                have ct0 := (blk_cell BK10.out 0).trans rfl
                have ct1 := (blk_cell BK10.out 1).trans rfl
                clear hx2
                go_wp2_with (go_at_call 91; (with_reducible refine (add_calls k w _ w.heap.size (w.heap.size + 1) G p0 p1 p2 q0 q1 q2 s0 s1 xs rr HI.out HX2.out).mono ?_); rintro e w8 ⟨rfl, hi8⟩; have HI8 := Aside0.mk hi8; clear hi8 ct0 ct1; obtain ⟨v, hv, hR⟩ := HI8.out.2.2.2.1; obtain ⟨A5, c5, rfl⟩ := Kd.R_slice hR; have HR9 := Aside0.mk hR; have cg := (blk_cell hv 0).trans rfl; clear hv hR)
                go_ret2
                exact ⟨_, rfl, HR9.out, HI8.out.2.2.2.2⟩
theorem meetF_calls (k : Nat) (a0 a1 a2 b0 b1 b2 : Int) (r1 : List S28) (r2 : Bool) (w : World) (h : meetF k a0 a1 a2 b0 b1 b2 = some (r1, r2)) :
    Calls Try.prog 33 #[.agg #[.int .i64 a0, .int .i64 a1, .int .i64 a2], .agg #[.int .i64 b0, .int .i64 b1, .int .i64 b2]] w fun e w' => ∃ v0_ : Value, e = .returned (.tuple #[v0_, .bool r2]) ∧ Kd.R k28 28 w' w.heap.size (fun _ => True) v0_ r1 ∧ Below w.heap.size w w' := by
  unfold meetF at h
  obtain ⟨ca, hA, h⟩ := Option.bind_eq_some_iff.mp h
  cases ca with
  | false =>
    obtain ⟨rfl, rfl⟩ := Prod.mk.inj (Option.some.inj h)
    exact meet_no1 w a0 a1 a2 b0 b1 b2 hA
  | true =>
    rw [if_pos rfl] at h
    obtain ⟨cb, hB, h⟩ := Option.bind_eq_some_iff.mp h
    cases cb with
    | false =>
      obtain ⟨rfl, rfl⟩ := Prod.mk.inj (Option.some.inj h)
      exact meet_no2 w a0 a1 a2 b0 b1 b2 hA hB
    | true =>
      rw [if_pos rfl] at h
      obtain ⟨l, hq, h⟩ := Option.bind_eq_some_iff.mp h
      obtain ⟨rfl, rfl⟩ := Prod.mk.inj (Option.some.inj h)
      by_cases hz : b2 < a2
      · rw [if_pos hz] at hq
        exact meet_main k w a0 a1 a2 b0 b1 b2 b0 b1 b2 a0 a1 a2 l hA hB (Or.inl ⟨hz, rfl, rfl, rfl, rfl, rfl, rfl⟩) hq
      · rw [if_neg hz] at hq
        exact meet_main k w a0 a1 a2 b0 b1 b2 a0 a1 a2 b0 b1 b2 l hA hB (Or.inr ⟨hz, rfl, rfl, rfl, rfl, rfl, rfl⟩) hq
/-! ### impl_MeetingsOf: function 33, its contract told by hand -/
def impl_MeetingsOf.f (k : Nat) (a0_0 : Int) (a0_1 : Int) (a0_2 : Int) (a1_0 : Int) (a1_1 : Int) (a1_2 : Int) : Option ((List (S28)) × Bool) := meetF k a0_0 a0_1 a0_2 a1_0 a1_1 a1_2
theorem impl_MeetingsOf.calls (k : Nat) (a0_0 : Int) (a0_1 : Int) (a0_2 : Int) (a1_0 : Int) (a1_1 : Int) (a1_2 : Int) (r1 : List (S28)) (r2 : Bool) (w : World) (h : impl_MeetingsOf.f k a0_0 a0_1 a0_2 a1_0 a1_1 a1_2 = some (r1, r2)) :
  Calls Try.prog 33 #[.agg #[.int .i64 a0_0, .int .i64 a0_1, .int .i64 a0_2], .agg #[.int .i64 a1_0, .int .i64 a1_1, .int .i64 a1_2]] w fun e w' => ∃ v0_ : Value, e = .returned (.tuple #[v0_, .bool r2]) ∧ Kd.R k28 28 w' w.heap.size (fun _ => True) v0_ r1 ∧ Below w.heap.size w w' := meetF_calls k a0_0 a0_1 a0_2 a1_0 a1_1 a1_2 r1 r2 w h

end Go.Proofs.Ytkefphfjeodgnaa.PA
