-- Printed by a program of this session's own.
import Derived.Test.YthoblgccnkjnoaaVSortRopePBx0
import Derived.Test.YthoblgccnkjnoaaVSortRopePBx3
namespace Go.Proofs.Ythoblgccnkjnoaa.PB
open Go.RowKit Go.Proofs.YthoblgccnkjnoaaW.PrintWords Go.Proofs.YthoblgccnkjnoaaW.PrintLast Go.Proofs.YthoblgccnkjnoaaW.PrintMore Go.Proofs.YthoblgccnkjnoaaX
  -- for this text's walks alone
set_option linter.unusedVariables false
set_option linter.unusedSimpArgs false

theorem C_box {w : World} {g : Nat} {e : TypeId} {a b : Int} (h : w.heap[g]? = some (.cells #[.int .i64 a, .int .i64 b] e (0, 0))) : Kd.C (Kd.int .i64) w (some ⟨g, 0, none⟩) 2 [a, b] := by
  refine ⟨rfl, by decide, fun _ => ⟨⟨g, 0, none⟩, rfl, fun j p hj => ?_⟩⟩
  have c0 : w.cell? ⟨g, 0, none⟩ = some (.int .i64 a) := (blk_cell h 0).trans rfl
  have c1 : w.cell? ⟨g, 1, none⟩ = some (.int .i64 b) := (blk_cell h 1).trans rfl
  rcases j with _ | _ | j
  · simp only [List.getElem?_cons_zero, Option.some.injEq] at hj
    subst hj
    refine ⟨[.int .i64 a], rfl, rfl, fun i u hu => ?_⟩
    rcases i with _ | i
    · simp only [List.getElem?_cons_zero, Option.some.injEq] at hu
      subst hu
      exact c0
    · simp at hu
  · simp only [List.getElem?_cons_succ, List.getElem?_cons_zero, Option.some.injEq] at hj
    subst hj
    refine ⟨[.int .i64 b], rfl, rfl, fun i u hu => ?_⟩
    rcases i with _ | i
    · simp only [List.getElem?_cons_zero, Option.some.injEq] at hu
      subst hu
      exact c1
    · simp at hu
  · simp at hj
set_option maxHeartbeats 8000000 in
set_option maxRecDepth 100000 in
theorem clo_calls (k : Nat) (a0 a1 b0 b1 r : Int) (w : World) (h : slices_Compare_int_int.f k [a0, a1] [b0, b1] = some r) :
    Calls Try.prog 31 #[.agg #[.int .i64 a0, .int .i64 a1], .agg #[.int .i64 b0, .int .i64 b1]] w fun e w' => e = .returned (.int .i64 r) ∧ Below w.heap.size w w' := by
  have HR := Aside0.mk h
  clear h
  have hu53 := Try.underlying53
  go_enter Try.func31, Try.ntmps31
  go_wp2
  have HB0 : Aside0 (Below w.heap.size w ((w.alloc (.cells #[.int .i64 a0, .int .i64 a1] 53 (0, 0))).alloc (.cells #[.int .i64 b0, .int .i64 b1] 53 (0, 0)))) := ⟨below_alloc (below_alloc (Below.refl _ _) _) _⟩
  have HX : Aside0 (((w.alloc (.cells #[.int .i64 a0, .int .i64 a1] 53 (0, 0))).alloc (.cells #[.int .i64 b0, .int .i64 b1] 53 (0, 0))).heap[w.heap.size]? = some (.cells #[.int .i64 a0, .int .i64 a1] 53 (0, 0))) := ⟨blk_alloc (blk_new _ _) _⟩
  have HY : Aside0 (((w.alloc (.cells #[.int .i64 a0, .int .i64 a1] 53 (0, 0))).alloc (.cells #[.int .i64 b0, .int .i64 b1] 53 (0, 0))).heap[w.heap.size + 1]? = some (.cells #[.int .i64 b0, .int .i64 b1] 53 (0, 0))) := ⟨by
    have h_ := blk_new (w.alloc (.cells #[.int .i64 a0, .int .i64 a1] 53 (0, 0))) (.cells #[.int .i64 b0, .int .i64 b1] 53 (0, 0))
    simpa using h_⟩
  generalize ((w.alloc (.cells #[.int .i64 a0, .int .i64 a1] 53 (0, 0))).alloc (.cells #[.int .i64 b0, .int .i64 b1] 53 (0, 0))) = W0 at HB0 HX HY ⊢
  have HC : Aside0 (∀ W, Below W0.heap.size W0 W → Calls Try.prog 32 #[.slice (some ⟨w.heap.size, 0, none⟩) 2 2, .slice (some ⟨w.heap.size + 1, 0, none⟩) 2 2] W fun e w' => e = .returned (.int .i64 r) ∧ Below W.heap.size W w') := ⟨fun W hb =>
    (slices_Compare_int_int.calls k _ 2 [a0, a1] _ 2 [b0, b1] r W (C_box (blk_below HX.out hb)) (Nat.le_refl 2) (C_box (blk_below HY.out hb)) (Nat.le_refl 2) HR.out).mono fun e w' ⟨h1, n, h2⟩ => ⟨h1, by rw [h2]; exact pw_below_drewN (Below.refl _ _) n⟩⟩
  have HI : Aside0 (Below W0.heap.size W0 W0) := ⟨Below.refl _ _⟩
  have n0_ := Aside0.mk (below_step HI.out (below_drew1 (Below.refl _ _)))
  clear HI
  have HI := n0_
  clear n0_
  refine start_ (n := 4) (S := fun w' => True) (ds := []) #[false, false, false, false] (by kernel_rfl) rfl rfl trivial (fun hHeld => ?_)
  generalize W0.drew = wr0 at HI hHeld ⊢
  refine pure_ (i := 0) (N := some 5) (v := ?_) (a' := ?_) #[true, false, false, false] rfl rfl (by kernel_rfl) (fun _ _ _ h => h) (Or.inl ⟨by rfl, ?_⟩) ?_ ?_
  rotate_left
  · intro w'
    go_simp
    with_reducible rfl
  rotate_left
  · simp only [Act.put, List.setIfInBounds_toArray, List.set_cons_zero, List.set_cons_succ, i64_w, i32_w]
    rfl
  refine pure_ (i := 1) (N := some 6) (v := ?_) (a' := ?_) #[true, true, false, false] rfl rfl (by kernel_rfl) (fun _ _ _ h => h) (Or.inl ⟨by rfl, ?_⟩) ?_ ?_
  rotate_left
  · intro w'
    go_simp
    with_reducible rfl
  rotate_left
  · simp only [Act.put, List.setIfInBounds_toArray, List.set_cons_zero, List.set_cons_succ, i64_w, i32_w]
    rfl
  refine one_ (i := 2) (N := some 7) #[true, true, true, false] rfl rfl (by kernel_rfl) (by decide) (fun K hK => ?_)
  refine goes_ Try.func32 (by kernel_rfl) rfl #[.slice (some ⟨w.heap.size, 0, none⟩) 2 2, .slice (some ⟨w.heap.size + 1, 0, none⟩) 2 2] (by rfl) rfl rfl (by (try simp only [List.map_toArray, List.map_cons, List.map_nil]); first | done | rfl) ?_
  with_reducible refine (HC.out _ HI.out).mono ?_
  rintro e wr1 ⟨rfl, hb⟩
  refine ⟨_, rfl, ?_⟩
  have n0_ := Aside0.mk (below_step HI.out hb)
  clear HI
  have HI := n0_
  clear n0_
  clear hb
  refine hK.out _ _ trivial (fun hHeld => ?_)
  clear hK K
  refine norm_ (a' := ?_) ?_ ?_
  rotate_left
  · show Act.put _ (some 7) _ = _
    simp only [Act.put, List.setIfInBounds_toArray, List.set_cons_zero, List.set_cons_succ, i64_w, i32_w]
    rfl
  refine pure_ (i := 3) (N := some 4) (v := ?_) (a' := ?_) #[true, true, true, true] rfl rfl (by kernel_rfl) (fun _ _ _ h => h) (Or.inl ⟨by rfl, ?_⟩) ?_ ?_
  rotate_left
  · intro w'
    go_simp
    with_reducible rfl
  rotate_left
  · simp only [Act.put, List.setIfInBounds_toArray, List.set_cons_zero, List.set_cons_succ, i64_w, i32_w]
    rfl
  refine done_ (by kernel_rfl) ?_

  go_wp2_with fail
  go_ret
  exact ⟨rfl, below_step HB0.out HI.out⟩

/-! ### impl_SortRopes_1: function 31, its contract told by hand -/
def impl_SortRopes_1.f (k : Nat) (a0_0 : Int) (a0_1 : Int) (a1_0 : Int) (a1_1 : Int) : Option (Int) := slices_Compare_int_int.f k [a0_0, a0_1] [a1_0, a1_1]
theorem impl_SortRopes_1.calls (k : Nat) (a0_0 : Int) (a0_1 : Int) (a1_0 : Int) (a1_1 : Int) (r : Int) (w : World) (h : impl_SortRopes_1.f k a0_0 a0_1 a1_0 a1_1 = some r) :
    Calls Try.prog 31 #[.agg #[.int .i64 a0_0, .int .i64 a0_1], .agg #[.int .i64 a1_0, .int .i64 a1_1]] w fun e w' => e = .returned (.int .i64 r) ∧ Below w.heap.size w w' := clo_calls k a0_0 a0_1 a1_0 a1_1 r w h

end Go.Proofs.Ythoblgccnkjnoaa.PB
