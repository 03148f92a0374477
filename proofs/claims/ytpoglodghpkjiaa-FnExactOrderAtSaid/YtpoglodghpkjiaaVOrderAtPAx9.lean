-- Printed by a program of this session's own.
import Derived.Test.YtpoglodghpkjiaaVOrderAtPAx0
import Derived.Test.YtpoglodghpkjiaaVOrderAtPAx6
import Derived.Test.YtpoglodghpkjiaaVOrderAtPAx8
namespace Go.Proofs.Ytpoglodghpkjiaa.PA
open Go.RowKit Go.Proofs.YtpoglodghpkjiaaW.PrintWords Go.Proofs.YtpoglodghpkjiaaW.PrintLast Go.Proofs.YtpoglodghpkjiaaW.PrintMore Go.Proofs.YtpoglodghpkjiaaX
attribute [local go_sem] max2_int max_two  -- for this text's walks alone
set_option linter.unusedVariables false
set_option linter.unusedSimpArgs false

/-- A state of type 47 at block g of W; what its slices lead to came in by w0. -/
def IsS47 (w0 W : World) (g : Nat) (f0 : Int) (f1 : Int) (f2 : Int) : Prop := W.heap[g]? = some (.cells #[.int .i64 f0, .int .i64 f1, .int .i64 f2] 47 (0, 0)) ∧ w0.heap.size ≤ g
theorem IsS47.lt {w0 W : World} {g : Nat} {f0 : Int} {f1 : Int} {f2 : Int} (h : IsS47 w0 W g f0 f1 f2) : g < W.heap.size := by
  obtain ⟨hb, hg⟩ := h
  exact blk_lt hb
/-- The lengths of candles at a time, in order. -/
def lenL (k : Nat) (t1 t2 : Int) : List S47 → Option (List (Int × Int))
  | [] => some []
  | c :: cs => (impl_Candle_length.f k c.f0 c.f1 c.f2 t1 t2).bind fun x => (lenL k t1 t2 cs).map fun xs => x :: xs
theorem lenL_get (k : Nat) (t1 t2 : Int) : ∀ {l : List S47} {ls : List (Int × Int)}, lenL k t1 t2 l = some ls → ls.length = l.length ∧ ∀ (i : Nat) (c : S47), l[i]? = some c → ∃ x, ls[i]? = some x ∧ impl_Candle_length.f k c.f0 c.f1 c.f2 t1 t2 = some x
  | [], ls, h => by obtain rfl := Option.some.inj h; exact ⟨rfl, fun i c hc => by simp at hc⟩
  | c :: cs, ls, h => by
    obtain ⟨x, hx, h⟩ := Option.bind_eq_some_iff.mp h
    obtain ⟨xs, hxs, rfl⟩ := Option.map_eq_some_iff.mp h
    obtain ⟨h1, h2⟩ := lenL_get k t1 t2 hxs
    refine ⟨by simp [h1], fun i d hd => ?_⟩
    cases i with
    | zero =>
      simp only [List.getElem?_cons_zero, Option.some.injEq] at hd
      subst hd
      exact ⟨x, rfl, hx⟩
    | succ i => simpa using h2 i d (by simpa using hd)
def cmpV (x y : Int × Int) : Int := wrap64 (wrap64 (x.1 * y.2) - wrap64 (y.1 * x.2))
set_option maxHeartbeats 8000000 in
set_option maxRecDepth 100000 in
theorem cmp_calls (k : Nat) (w : World) (BL BT : Nat) (A : Option Addr) (c0 : Nat) (l : List S47) (t1 t2 : Int) (ls : List (Int × Int)) (hl : lenL k t1 t2 l = some ls) (hBL : w.heap[BL]? = some (.cells #[.slice A l.length c0] 28 (0, 0))) (hBT : w.heap[BT]? = some (.cells #[.int .i64 t1, .int .i64 t2] 23 (0, 0))) (hC : Kd.C k47 w A l.length l)
    (i j : Nat) (x y : Int × Int) (hx : ls[i]? = some x) (hy : ls[j]? = some y) :
    Calls Try.prog 29 #[.int .i64 (i : Int), .int .i64 (j : Int), .pointer (some ⟨BL, 0, none⟩), .pointer (some ⟨BT, 0, none⟩)] w fun e w' => e = .returned (.int .i64 (cmpV x y)) ∧ Below w.heap.size w w' := by
  obtain ⟨hll, hg⟩ := lenL_get k t1 t2 hl
  have hi : i < l.length := by rw [← hll]; exact (List.getElem?_eq_some_iff.1 hx).1
  have hj : j < l.length := by rw [← hll]; exact (List.getElem?_eq_some_iff.1 hy).1
  obtain ⟨ci, hci⟩ : ∃ c, l[i]? = some c := ⟨l[i], List.getElem?_eq_getElem hi⟩
  obtain ⟨cj, hcj⟩ : ∃ c, l[j]? = some c := ⟨l[j], List.getElem?_eq_getElem hj⟩
  obtain ⟨x', hx', hLx⟩ := hg i ci hci
  obtain ⟨y', hy', hLy⟩ := hg j cj hcj
  rw [hx] at hx'
  rw [hy] at hy'
  obtain rfl := Option.some.inj hx'
  obtain rfl := Option.some.inj hy'
  obtain ⟨ad, e1, a0, a1, a2⟩ := at_T47 hC (i : Int) (by omega) (by omega)
  obtain ⟨ad2, e2, b0, b1, b2⟩ := at_T47 hC (j : Int) (by omega) (by omega)
  subst e1
  obtain rfl := Option.some.inj e2
  rw [Int.toNat_natCast] at a0 a1 a2 b0 b1 b2
  rw [show rd_T47 l (i : Int) = ci by simp [rd_T47, hci]] at a0 a1 a2
  rw [show rd_T47 l (j : Int) = cj by simp [rd_T47, hcj]] at b0 b1 b2
  have L0 : Aside0 ((ad.add (i * 3)).block < w.heap.size) := ⟨World.block_lt_of_cell? w _ a0⟩
  have L1 : Aside0 ((ad.add (j * 3)).block < w.heap.size) := ⟨World.block_lt_of_cell? w _ b0⟩
  have A0 := Aside0.mk a0
  have A1 := Aside0.mk a1
  have A2 := Aside0.mk a2
  have B0 := Aside0.mk b0
  have B1 := Aside0.mk b1
  have B2 := Aside0.mk b2
  have HL := Aside0.mk (blk_lt hBL)
  have HT := Aside0.mk (blk_lt hBT)
  have CL : Aside0 (w.cell? ⟨BL, 0, none⟩ = some (.slice (some ad) l.length c0)) := ⟨(blk_cell hBL 0).trans rfl⟩
  have T0 : Aside0 (w.cell? ⟨BT, 0, none⟩ = some (.int .i64 t1)) := ⟨(blk_cell hBT 0).trans rfl⟩
  have T1 : Aside0 (w.cell? ⟨BT, 1, none⟩ = some (.int .i64 t2)) := ⟨(blk_cell hBT 1).trans rfl⟩
  have HX := Aside0.mk hLx
  have HY := Aside0.mk hLy
  have hu23 := Try.underlying23
  have hu47 := Try.underlying47
  clear hx hy hci hcj hx' hy' hLx hLy a0 a1 a2 b0 b1 b2 hBL hBT hC hg hl hll
  obtain ⟨x1, x2⟩ := x
  obtain ⟨y1, y2⟩ := y
  obtain ⟨ci0, ci1, ci2⟩ := ci
  obtain ⟨cj0, cj1, cj2⟩ := cj
  go_enter Try.func29, Try.ntmps29
  go_upto_region 1 with fail
  have HI := Aside0.mk (Below.refl w.heap.size w)
  have n0_ := Aside0.mk (below_step HI.out (below_drew1 (Below.refl _ _)))
  clear HI
  have HI := n0_
  clear n0_
  refine start_ (n := 14) (S := fun w' => w'.cell? ⟨BL, 0, none⟩ = some (.slice (some ad) l.length c0) ∧ w'.cell? ⟨BT, 0, none⟩ = some (.int .i64 t1) ∧ w'.cell? ⟨BT, 1, none⟩ = some (.int .i64 t2) ∧ w'.cell? (ad.add (i * 3)) = some (.int .i64 ci0) ∧ w'.cell? ⟨(ad.add (i * 3)).block, (ad.add (i * 3)).off + 1, none⟩ = some (.int .i64 ci1) ∧ w'.cell? ⟨(ad.add (i * 3)).block, (ad.add (i * 3)).off + 2, none⟩ = some (.int .i64 ci2) ∧ w'.cell? (ad.add (j * 3)) = some (.int .i64 cj0) ∧ w'.cell? ⟨(ad.add (j * 3)).block, (ad.add (j * 3)).off + 1, none⟩ = some (.int .i64 cj1) ∧ w'.cell? ⟨(ad.add (j * 3)).block, (ad.add (j * 3)).off + 2, none⟩ = some (.int .i64 cj2)) (ds := []) #[false, false, false, false, false, false, false, false, false, false, false, false, false, false] (by kernel_rfl) rfl rfl ⟨(Below.cell HI.out HL.out).trans CL.out, (Below.cell HI.out HT.out).trans T0.out, (Below.cell HI.out HT.out).trans T1.out, (Below.cell HI.out L0.out).trans A0.out, (Below.cell (p := ⟨(ad.add (i * 3)).block, _, none⟩) HI.out L0.out).trans A1.out, (Below.cell (p := ⟨(ad.add (i * 3)).block, _, none⟩) HI.out L0.out).trans A2.out, (Below.cell HI.out L1.out).trans B0.out, (Below.cell (p := ⟨(ad.add (j * 3)).block, _, none⟩) HI.out L1.out).trans B1.out, (Below.cell (p := ⟨(ad.add (j * 3)).block, _, none⟩) HI.out L1.out).trans B2.out⟩ (fun hHeld => ?_)
  generalize w.drew = wr0 at HI hHeld ⊢
  refine pure_ (i := 1) (N := some 8) (v := ?_) (a' := ?_) #[false, true, false, false, false, false, false, false, false, false, false, false, false, false] rfl rfl (by kernel_rfl) (fun _ _ _ h => h) (Or.inl ⟨by rfl, ?_⟩) ?_ ?_
  rotate_left
  · intro w'
    go_simp
    with_reducible rfl
  rotate_left
  · simp only [Act.put, List.setIfInBounds_toArray, List.set_cons_zero, List.set_cons_succ, i64_w, i32_w]
    rfl
  refine pure_ (i := 7) (N := some 14) (v := ?_) (a' := ?_) #[false, true, false, false, false, false, false, true, false, false, false, false, false, false] rfl rfl (by kernel_rfl) (fun _ _ _ h => h) (Or.inl ⟨by rfl, ?_⟩) ?_ ?_
  rotate_left
  · intro w'
    go_simp
    with_reducible rfl
  rotate_left
  · simp only [Act.put, List.setIfInBounds_toArray, List.set_cons_zero, List.set_cons_succ, i64_w, i32_w]
    rfl
  refine take_ (i := 0) (N := some 7) (v := ?_) (a' := ?_) #[true, true, false, false, false, false, false, true, false, false, false, false, false, false] rfl rfl (by kernel_rfl) (fun _ _ _ h => h) (Or.inl ⟨by rfl, ?_⟩) hHeld ?_ ?_
  rotate_left
  · rintro w' ⟨s0, s1, s2, s3, s4, s5, s6, s7, s8⟩
    go_simp
    with_reducible rfl
  rotate_left
  · simp only [Act.put, List.setIfInBounds_toArray, List.set_cons_zero, List.set_cons_succ, i64_w, i32_w]
    rfl
  refine pure_ (i := 2) (N := some 9) (v := ?_) (a' := ?_) #[true, true, true, false, false, false, false, true, false, false, false, false, false, false] rfl rfl (by kernel_rfl) (fun _ _ _ h => h) (Or.inl ⟨by rfl, ?_⟩) ?_ ?_
  rotate_left
  · intro w'
    go_simp
    with_reducible rfl
  rotate_left
  · simp only [Act.put, List.setIfInBounds_toArray, List.set_cons_zero, List.set_cons_succ, i64_w, i32_w]
    rfl
  refine take_ (i := 3) (N := some 10) (v := ?_) (a' := ?_) #[true, true, true, true, false, false, false, true, false, false, false, false, false, false] rfl rfl (by kernel_rfl) (fun _ _ _ h => h) (Or.inl ⟨by rfl, ?_⟩) hHeld ?_ ?_
  rotate_left
  · rintro w' ⟨s0, s1, s2, s3, s4, s5, s6, s7, s8⟩
    go_simp
    with_reducible rfl
  rotate_left
  · simp only [Act.put, List.setIfInBounds_toArray, List.set_cons_zero, List.set_cons_succ, i64_w, i32_w]
    rfl
  refine take_ (i := 4) (N := some 11) (v := ?_) (a' := ?_) #[true, true, true, true, true, false, false, true, false, false, false, false, false, false] rfl rfl (by kernel_rfl) (fun _ _ _ h => h) (Or.inl ⟨by rfl, ?_⟩) hHeld ?_ ?_
  rotate_left
  · rintro w' ⟨s0, s1, s2, s3, s4, s5, s6, s7, s8⟩
    go_simp
    with_reducible rfl
  rotate_left
  · simp only [Act.put, List.setIfInBounds_toArray, List.set_cons_zero, List.set_cons_succ, i64_w, i32_w]
    rfl
  refine take_ (i := 6) (N := some 13) (v := ?_) (a' := ?_) #[true, true, true, true, true, false, true, true, false, false, false, false, false, false] rfl rfl (by kernel_rfl) (fun _ _ _ h => h) (Or.inl ⟨by rfl, ?_⟩) hHeld ?_ ?_
  rotate_left
  · rintro w' ⟨s0, s1, s2, s3, s4, s5, s6, s7, s8⟩
    go_simp
    with_reducible rfl
  rotate_left
  · simp only [Act.put, List.setIfInBounds_toArray, List.set_cons_zero, List.set_cons_succ, i64_w, i32_w]
    rfl
  refine pure_ (i := 8) (N := some 15) (v := ?_) (a' := ?_) #[true, true, true, true, true, false, true, true, true, false, false, false, false, false] rfl rfl (by kernel_rfl) (fun _ _ _ h => h) (Or.inl ⟨by rfl, ?_⟩) ?_ ?_
  rotate_left
  · intro w'
    go_simp
    with_reducible rfl
  rotate_left
  · simp only [Act.put, List.setIfInBounds_toArray, List.set_cons_zero, List.set_cons_succ, i64_w, i32_w]
    rfl
  refine take_ (i := 9) (N := some 16) (v := ?_) (a' := ?_) #[true, true, true, true, true, false, true, true, true, true, false, false, false, false] rfl rfl (by kernel_rfl) (fun _ _ _ h => h) (Or.inl ⟨by rfl, ?_⟩) hHeld ?_ ?_
  rotate_left
  · rintro w' ⟨s0, s1, s2, s3, s4, s5, s6, s7, s8⟩
    go_simp
    with_reducible rfl
  rotate_left
  · simp only [Act.put, List.setIfInBounds_toArray, List.set_cons_zero, List.set_cons_succ, i64_w, i32_w]
    rfl
  refine take_ (i := 10) (N := some 17) (v := ?_) (a' := ?_) #[true, true, true, true, true, false, true, true, true, true, true, false, false, false] rfl rfl (by kernel_rfl) (fun _ _ _ h => h) (Or.inl ⟨by rfl, ?_⟩) hHeld ?_ ?_
  rotate_left
  · rintro w' ⟨s0, s1, s2, s3, s4, s5, s6, s7, s8⟩
    go_simp
    with_reducible rfl
  rotate_left
  · simp only [Act.put, List.setIfInBounds_toArray, List.set_cons_zero, List.set_cons_succ, i64_w, i32_w]
    rfl
  refine one_ (i := 5) (N := some 12) #[true, true, true, true, true, true, true, true, true, true, true, false, false, false] rfl rfl (by kernel_rfl) (by decide) (fun K hK => ?_)
  refine goes_ Try.func31 (by kernel_rfl) rfl #[.agg #[.int .i64 ci0, .int .i64 ci1, .int .i64 ci2], .agg #[.int .i64 t1, .int .i64 t2]] (by rfl) rfl rfl (by (try simp only [List.map_toArray, List.map_cons, List.map_nil]); first | done | rfl) ?_
  with_reducible refine (impl_Candle_length.calls k ci0 ci1 ci2 t1 t2 x1 x2 _ HX.out).mono ?_
  rintro e wr1 ⟨rfl, hb⟩
  refine ⟨_, rfl, ?_⟩
  have n0_ := Aside0.mk (below_step HI.out hb)
  clear HI
  have HI := n0_
  clear n0_
  clear hb
  refine hK.out _ _ ⟨(Below.cell HI.out HL.out).trans CL.out, (Below.cell HI.out HT.out).trans T0.out, (Below.cell HI.out HT.out).trans T1.out, (Below.cell HI.out L0.out).trans A0.out, (Below.cell (p := ⟨(ad.add (i * 3)).block, _, none⟩) HI.out L0.out).trans A1.out, (Below.cell (p := ⟨(ad.add (i * 3)).block, _, none⟩) HI.out L0.out).trans A2.out, (Below.cell HI.out L1.out).trans B0.out, (Below.cell (p := ⟨(ad.add (j * 3)).block, _, none⟩) HI.out L1.out).trans B1.out, (Below.cell (p := ⟨(ad.add (j * 3)).block, _, none⟩) HI.out L1.out).trans B2.out⟩ (fun hHeld => ?_)
  clear hK K
  refine norm_ (a' := ?_) ?_ ?_
  rotate_left
  · show Act.put _ (some 12) _ = _
    simp only [Act.put, List.setIfInBounds_toArray, List.set_cons_zero, List.set_cons_succ, i64_w, i32_w]
    rfl
  refine one_ (i := 11) (N := some 18) #[true, true, true, true, true, true, true, true, true, true, true, true, false, false] rfl rfl (by kernel_rfl) (by decide) (fun K hK => ?_)
  refine goes_ Try.func31 (by kernel_rfl) rfl #[.agg #[.int .i64 cj0, .int .i64 cj1, .int .i64 cj2], .agg #[.int .i64 t1, .int .i64 t2]] (by rfl) rfl rfl (by (try simp only [List.map_toArray, List.map_cons, List.map_nil]); first | done | rfl) ?_
  with_reducible refine (impl_Candle_length.calls k cj0 cj1 cj2 t1 t2 y1 y2 _ HY.out).mono ?_
  rintro e wr2 ⟨rfl, hb⟩
  refine ⟨_, rfl, ?_⟩
  have n0_ := Aside0.mk (below_step HI.out hb)
  clear HI
  have HI := n0_
  clear n0_
  clear hb
  refine hK.out _ _ ⟨(Below.cell HI.out HL.out).trans CL.out, (Below.cell HI.out HT.out).trans T0.out, (Below.cell HI.out HT.out).trans T1.out, (Below.cell HI.out L0.out).trans A0.out, (Below.cell (p := ⟨(ad.add (i * 3)).block, _, none⟩) HI.out L0.out).trans A1.out, (Below.cell (p := ⟨(ad.add (i * 3)).block, _, none⟩) HI.out L0.out).trans A2.out, (Below.cell HI.out L1.out).trans B0.out, (Below.cell (p := ⟨(ad.add (j * 3)).block, _, none⟩) HI.out L1.out).trans B1.out, (Below.cell (p := ⟨(ad.add (j * 3)).block, _, none⟩) HI.out L1.out).trans B2.out⟩ (fun hHeld => ?_)
  clear hK K
  refine norm_ (a' := ?_) ?_ ?_
  rotate_left
  · show Act.put _ (some 18) _ = _
    simp only [Act.put, List.setIfInBounds_toArray, List.set_cons_zero, List.set_cons_succ, i64_w, i32_w]
    rfl
  refine one_ (i := 12) (N := some 19) #[true, true, true, true, true, true, true, true, true, true, true, true, true, false] rfl rfl (by kernel_rfl) (by decide) (fun K hK => ?_)
  refine goes_ Try.func30 (by kernel_rfl) rfl #[.agg #[.int .i64 x1, .int .i64 x2], .agg #[.int .i64 y1, .int .i64 y2]] (by rfl) rfl rfl (by (try simp only [List.map_toArray, List.map_cons, List.map_nil]); first | done | rfl) ?_
  with_reducible refine (impl_compareFractions.calls x1 x2 y1 y2 _ _ rfl).mono ?_
  rintro e wr3 ⟨rfl, hb⟩
  refine ⟨_, rfl, ?_⟩
  have n0_ := Aside0.mk (below_step HI.out hb)
  clear HI
  have HI := n0_
  clear n0_
  clear hb
  refine hK.out _ _ ⟨(Below.cell HI.out HL.out).trans CL.out, (Below.cell HI.out HT.out).trans T0.out, (Below.cell HI.out HT.out).trans T1.out, (Below.cell HI.out L0.out).trans A0.out, (Below.cell (p := ⟨(ad.add (i * 3)).block, _, none⟩) HI.out L0.out).trans A1.out, (Below.cell (p := ⟨(ad.add (i * 3)).block, _, none⟩) HI.out L0.out).trans A2.out, (Below.cell HI.out L1.out).trans B0.out, (Below.cell (p := ⟨(ad.add (j * 3)).block, _, none⟩) HI.out L1.out).trans B1.out, (Below.cell (p := ⟨(ad.add (j * 3)).block, _, none⟩) HI.out L1.out).trans B2.out⟩ (fun hHeld => ?_)
  clear hK K
  refine norm_ (a' := ?_) ?_ ?_
  rotate_left
  · show Act.put _ (some 19) _ = _
    simp only [Act.put, List.setIfInBounds_toArray, List.set_cons_zero, List.set_cons_succ, i64_w, i32_w]
    rfl
  refine pure_ (i := 13) (N := some 6) (v := ?_) (a' := ?_) #[true, true, true, true, true, true, true, true, true, true, true, true, true, true] rfl rfl (by kernel_rfl) (fun _ _ _ h => h) (Or.inl ⟨by rfl, ?_⟩) ?_ ?_
  rotate_left
  · intro w'
    go_simp
    with_reducible rfl
  rotate_left
  · simp only [Act.put, List.setIfInBounds_toArray, List.set_cons_zero, List.set_cons_succ, i64_w, i32_w]
    rfl
  refine done_ (by kernel_rfl) ?_
  go_wp2_with fail
  go_ret
  exact ⟨rfl, HI.out⟩
/-! ### The sort -/
def encN (n : Nat) : Value := .int .i64 (n : Int)
def RowA (W : World) (g cap : Nat) (d : Array Nat) : Prop := ∃ sp : List Value, W.heap[g]? = some (.cells (d.toList.map encN ++ sp).toArray 3 (0, 0)) ∧ d.size + sp.length = cap
theorem RowA.cell {W : World} {g cap : Nat} {d : Array Nat} (h : RowA W g cap d) {i : Nat} (hi : i < d.size) : W.cell? ⟨g, i, none⟩ = some (.int .i64 (d[i]! : Nat)) := by
  obtain ⟨sp, hb, _⟩ := h
  have hl : (d.toList.map encN).length = d.size := by simp
  rw [blk_cell hb, List.getElem?_toArray, List.getElem?_append_left (by omega), List.getElem?_map, Array.getElem?_toList, Array.getElem?_eq_getElem hi, getElem!_pos d i hi]
  rfl
theorem RowA.frozen {W : World} {g cap : Nat} {d : Array Nat} (h : RowA W g cap d) (j : Nat) : W.frozen? ⟨g, j, none⟩ = false := by
  obtain ⟨sp, hb, _⟩ := h
  exact blk_frozen hb j
theorem RowA.put {W : World} {g cap : Nat} {d : Array Nat} (h : RowA W g cap d) {i : Nat} (hi : i < d.size) (x : Nat) : RowA (W.setCell ⟨g, i, none⟩ (encN x)) g cap (d.setIfInBounds i x) := by
  obtain ⟨sp, hb, hl⟩ := h
  refine ⟨sp, ?_, by simpa using hl⟩
  rw [blk_put hb i (encN x) rfl]
  congr 2
  rw [List.setIfInBounds_toArray, List.set_append_left _ _ (by simpa using hi), Array.toList_setIfInBounds, List.map_set]
theorem RowA.swap {W : World} {g cap : Nat} {d : Array Nat} (h : RowA W g cap d) {i j : Nat} (hi : i < d.size) (hj : j < d.size) : RowA ((W.setCell ⟨g, i, none⟩ (encN d[j]!)).setCell ⟨g, j, none⟩ (encN d[i]!)) g cap (Go.Sort.swp d i j) :=
  (h.put hi d[j]!).put (by simpa using hj) d[i]!
theorem RowA.two {W : World} {g cap : Nat} {d : Array Nat} (h : RowA W g cap d) {i j : Nat} (hi : i < d.size) (hj : j < d.size) (x : Nat) : ∃ u, (W.setCell ⟨g, i, none⟩ (encN x)).cell? ⟨g, j, none⟩ = some u :=
  ⟨_, (h.put hi x).cell (by simpa using hj)⟩
/-- The row, the closure's boxes, and what came in. -/
def OInv (w0 W : World) (g cap BL BT : Nat) (A : Option Addr) (c0 : Nat) (l : List S47) (t1 t2 : Int) (d : Array Nat) : Prop :=
  RowA W g cap d ∧ W.heap[BL]? = some (.cells #[.slice A l.length c0] 28 (0, 0)) ∧ W.heap[BT]? = some (.cells #[.int .i64 t1, .int .i64 t2] 23 (0, 0)) ∧ w0.heap.size ≤ g ∧ Below w0.heap.size w0 W
section
variable {w0 W W' : World} {g cap BL BT c0 : Nat} {A : Option Addr} {l : List S47} {t1 t2 : Int} {d : Array Nat}
theorem OInv.below (h : OInv w0 W g cap BL BT A c0 l t1 t2 d) (hb : Below W.heap.size W W') : OInv w0 W' g cap BL BT A c0 l t1 t2 d := by
  obtain ⟨⟨sp, h1, h2⟩, h3, h4, h5, h6⟩ := h
  exact ⟨⟨sp, blk_below h1 hb, h2⟩, blk_below h3 hb, blk_below h4 hb, h5, below_step h6 hb⟩
theorem OInv.swap (h : OInv w0 W g cap BL BT A c0 l t1 t2 d) {i j : Nat} (hi : i < d.size) (hj : j < d.size) : OInv w0 ((W.setCell ⟨g, i, none⟩ (encN d[j]!)).setCell ⟨g, j, none⟩ (encN d[i]!)) g cap BL BT A c0 l t1 t2 (Go.Sort.swp d i j) := by
  obtain ⟨h1, h3, h4, h5, h6⟩ := h
  have h1' := h1
  obtain ⟨sp, hb, _⟩ := h1'
  have n1 : BL ≠ g := blk_ne h3 hb (by decide)
  have n2 : BT ≠ g := blk_ne h4 hb (by decide)
  exact ⟨RowA.swap h1 hi hj, blk_far (blk_far h3 n1 _) n1 _, blk_far (blk_far h4 n2 _) n2 _, h5, below_set (below_set h6 h5) h5⟩
end
def ltN (ls : List (Int × Int)) (i j : Nat) : Bool := decide (cmpV (ls.getD i (0, 0)) (ls.getD j (0, 0)) < 0)
def InN (n : Nat) (d : Array Nat) : Prop := ∀ i, i < d.size → d[i]! < n
theorem InN.swap {n : Nat} {d : Array Nat} (h : InN n d) {i j : Nat} (hi : i < d.size) (hj : j < d.size) : InN n (Go.Sort.swp d i j) := by
  intro k hk
  rw [Go.Sort.swp_get d hi hj]
  rw [Go.Sort.size_swp] at hk
  split
  · exact h i hi
  · split
    · exact h j hj
    · exact h k hk
set_option maxHeartbeats 16000000 in
set_option maxRecDepth 1000000 in
theorem ins_calls (k : Nat) (w0 w : World) (g cap BL BT : Nat) (A : Option Addr) (c0 : Nat) (l : List S47) (t1 t2 : Int) (ls : List (Int × Int)) (d : Array Nat) (hl : lenL k t1 t2 l = some ls) (hC : Kd.C k47 w0 A l.length l) (hI : OInv w0 w g cap BL BT A c0 l t1 t2 d) (hn : InN ls.length d) (hsz : d.size ≤ 1000) :
    Calls Try.prog 64 #[.slice (some ⟨g, 0, none⟩) d.size cap, .int .i64 0, .int .i64 (d.size : Int), .func (.func 29) #[] #[.pointer (some ⟨BL, 0, none⟩), .pointer (some ⟨BT, 0, none⟩)]] w fun e w' => e = .returned (.tuple #[]) ∧ OInv w0 w' g cap BL BT A c0 l t1 t2 (Go.Sort.insertionSort (ltN ls) d 0 d.size) := by
  have HCM : Aside0 (∀ W dk (i j : Nat), OInv w0 W g cap BL BT A c0 l t1 t2 dk → i < ls.length → j < ls.length → Calls Try.prog 29 #[.int .i64 (i : Int), .int .i64 (j : Int), .pointer (some ⟨BL, 0, none⟩), .pointer (some ⟨BT, 0, none⟩)] W fun e w' => e = .returned (.int .i64 (cmpV (ls.getD i (0, 0)) (ls.getD j (0, 0)))) ∧ Below W.heap.size W w') := ⟨fun W dk i j hI hi hj => cmp_calls k W BL BT A c0 l t1 t2 ls hl hI.2.1 hI.2.2.1 (Kd.C_below hC hI.2.2.2.2) i j _ _ (by rw [List.getD_eq_getElem?_getD, List.getElem?_eq_getElem hi]; rfl) (by rw [List.getD_eq_getElem?_getD, List.getElem?_eq_getElem hj]; rfl)⟩
  have HI0 := Aside0.mk hI
  have HN0 := Aside0.mk hn
  clear hl hC hI hn
  have hlat : Try.prog.follows .mixedOrders = true := by kernel_rfl
  go_enter Try.func64, Try.ntmps64
  go_wp2
  go_loopg [8] d.size (fun g1 vi wr => ∃ (i : Nat) (dk : Array Nat), vi = .int .i64 (i : Int) ∧ Aside0 (0 < i ∧ i ≤ d.size + 1 ∧ d.size + 1 - i ≤ g1 + 1 ∧ dk.size = d.size) ∧ Aside0 (OInv w0 wr g cap BL BT A c0 l t1 t2 dk) ∧ Aside0 (InN ls.length dk) ∧ Aside0 (Go.Sort.insOuter (ltN ls) 0 d.size i dk = Go.Sort.insOuter (ltN ls) 0 d.size 1 d))
  case atStart => exact ⟨1, d, by go_num, ⟨by omega⟩, HI0, HN0, ⟨rfl⟩⟩
  case round =>
    clear HI0 HN0
    obtain ⟨i, dk, rfl, HB1, HI1, HN1, HO⟩ := hrel
    by_cases hlt : i < d.size
    · have hltd : decide (i < d.size) = true := decide_eq_true hlt
      have HLT := Aside0.mk hlt
      clear hlt
      go_wp2
      go_loopg [9] i (fun g2 vj wr2 => ∃ (j : Nat) (dj : Array Nat), vj = .int .i64 (j : Int) ∧ Aside0 (j ≤ i ∧ j ≤ g2 ∧ dj.size = d.size) ∧ Aside0 (OInv w0 wr2 g cap BL BT A c0 l t1 t2 dj) ∧ Aside0 (InN ls.length dj) ∧ Aside0 (Go.Sort.insInner (ltN ls) 0 j dj = Go.Sort.insInner (ltN ls) 0 i dk))
      case atStart => exact ⟨i, dk, rfl, ⟨by have := HB1.out; omega⟩, HI1, HN1, ⟨rfl⟩⟩
      case round =>
        clear HI1 HN1
        obtain ⟨j, dj, rfl, HB2, HI2, HN2, HI⟩ := hrel
        have OUT : Aside0 ((j = 0 ∨ (ltN ls) dj[j]! dj[j - 1]! = false) → Go.Sort.insOuter (ltN ls) 0 d.size (i + 1) dj = Go.Sort.insOuter (ltN ls) 0 d.size 1 d) := ⟨fun hs => by
          rw [← HO.out, insOuter_go _ _ _ _ _ HLT.out, ← HI.out, insInner_stop _ _ _ _ (hs.imp (fun h => by omega) id)]⟩
        by_cases hj : 0 < j
        · have hjd : decide (0 < j) = true := decide_eq_true hj
          obtain ⟨jp, hjp⟩ : ∃ q, j = q + 1 := ⟨j - 1, by omega⟩
          have hjs : j < dj.size := by have := HB2.out; have := HLT.out; omega
          have hps : jp < dj.size := by omega
          have hjs2 : j < d.size := by have := HB2.out; omega
          have hps2 : jp < d.size := by omega
          have w1 : IntKind.i64.wrap ((j : Int) - 1) = (jp : Int) := by rw [show (j : Int) - 1 = (jp : Int) by omega]; exact IntWalk.i64_in _ (by omega)
          have ca : wr.cell? ⟨g, j, none⟩ = some (.int .i64 (dj[j]! : Nat)) := HI2.out.1.cell hjs
          have cb : wr.cell? ⟨g, jp, none⟩ = some (.int .i64 (dj[jp]! : Nat)) := HI2.out.1.cell hps
          have HCA := Aside0.mk ca
          have HCB := Aside0.mk cb
          have hG : Aside0 (g < wr.heap.size) := ⟨World.block_lt_of_cell? _ _ ca⟩
          have HXN : Aside0 (dj[j]! < ls.length ∧ dj[jp]! < ls.length) := ⟨HN2.out j hjs, HN2.out jp hps⟩
          have HJP := Aside0.mk hjp
          have HJS := Aside0.mk (And.intro hjs hps)
          have HJ := Aside0.mk hj
          clear hjs hps hj hjp
          cases hlv : (ltN ls) dj[j]! dj[jp]! with
          | true =>
            have hd1 : decide (cmpV (ls.getD dj[j]! (0, 0)) (ls.getD dj[jp]! (0, 0)) < 0) = true := hlv
            have hd2 : decide (cmpV (ls[dj[j]!]?.getD (0, 0)) (ls[dj[jp]!]?.getD (0, 0)) < 0) = true := by simpa only [List.getD_eq_getElem?_getD] using hd1
            clear hd1
            have HLV := Aside0.mk hlv
            clear hlv
            have HB0 := Below.refl wr.heap.size wr
            go_upto_region 4 with fail
            go_region_held3 (fun w' => w'.cell? ⟨g, j, none⟩ = some (.int .i64 (dj[j]! : Nat)) ∧ w'.cell? ⟨g, jp, none⟩ = some (.int .i64 (dj[jp]! : Nat)) ∧ Below wr.heap.size wr w')
              (first | (refine (fun hbb => ⟨(Below.cell hbb hG.out).trans HCA.out, (Below.cell hbb hG.out).trans HCB.out, hbb⟩ : Below wr.heap.size wr _ → _) ?_; (repeat (first | assumption | exact below_step (by repeat (first | assumption | apply below_drew1 | apply below_alloc)) hb | apply below_alloc | apply below_drew1 | apply pw_below_drewN))) | (trace_state; fail))
              (first | (go_at_call 29; refine (HCM.out _ _ _ _ (OInv.below HI2.out (by repeat (first | assumption | apply below_drew1 | apply pw_below_drewN))) HXN.out.1 HXN.out.2).mono ?_; rintro e w9 ⟨rfl, hb⟩))
            go_wp2_with fail
            have HBW : Aside0 (Below wr.heap.size wr w9) := ⟨by repeat (first | assumption | exact below_step (by repeat (first | assumption | apply below_drew1 | apply pw_below_drewN)) hb | apply below_drew1 | apply pw_below_drewN)⟩
            have HI3 := Aside0.mk (OInv.below HI2.out HBW.out)
            have S3 := Aside0.mk (OInv.swap HI3.out HJS.out.1 HJS.out.2)
            have c1a := HI3.out.1.cell HJS.out.1
            have c1b := HI3.out.1.cell HJS.out.2
            have f1a := HI3.out.1.frozen j
            have f1b := HI3.out.1.frozen jp
            obtain ⟨u1, c1c⟩ := HI3.out.1.two HJS.out.1 HJS.out.2 dj[jp]!
            have eN : encN dj[jp]! = .int .i64 (dj[jp]! : Nat) := rfl
            have eM : encN dj[j]! = .int .i64 (dj[j]! : Nat) := rfl
            rw [eN] at c1c
            have S4 : Aside0 (OInv w0 (((w9.setCell ⟨g, j, none⟩ (.int .i64 (dj[jp]! : Nat))).setCell ⟨g, jp, none⟩ (.int .i64 (dj[j]! : Nat))).drew) g cap BL BT A c0 l t1 t2 (Go.Sort.swp dj j jp)) := ⟨OInv.below S3.out (below_drew1 (Below.refl _ _))⟩
            have HN3 := Aside0.mk (HN2.out.swap HJS.out.1 HJS.out.2)
            clear hb HBW S3
            go_big_region_o
            clear c1a c1b c1c f1a f1b eN eM hd2
            generalize ((w9.setCell ⟨g, j, none⟩ (.int .i64 (dj[jp]! : Nat))).setCell ⟨g, jp, none⟩ (.int .i64 (dj[j]! : Nat))).drew = w3 at S4 ⊢
            go_wp2
            go_roundg (j - 1)
            case measure => have := HB2.out; have := HJ.out; omega
            case rel => exact ⟨jp, Go.Sort.swp dj j jp, by first | rfl | go_num, ⟨by have := HB2.out; have := HJP.out; rw [Go.Sort.size_swp]; omega⟩, S4, HN3, ⟨by
              have hjp := HJP.out
              rw [← HI.out, insInner_go (ltN ls) 0 j dj HJ.out (by rw [show j - 1 = jp by omega]; exact HLV.out), show j - 1 = jp by omega]⟩⟩
          | false =>
            have hd1 : decide (cmpV (ls.getD dj[j]! (0, 0)) (ls.getD dj[jp]! (0, 0)) < 0) = false := hlv
            have hd2 : decide (cmpV (ls[dj[j]!]?.getD (0, 0)) (ls[dj[jp]!]?.getD (0, 0)) < 0) = false := by simpa only [List.getD_eq_getElem?_getD] using hd1
            clear hd1
            have HLV := Aside0.mk hlv
            clear hlv
            have HB0 := Below.refl wr.heap.size wr
            go_upto_region 4 with fail
            go_region_held3 (fun w' => w'.cell? ⟨g, j, none⟩ = some (.int .i64 (dj[j]! : Nat)) ∧ w'.cell? ⟨g, jp, none⟩ = some (.int .i64 (dj[jp]! : Nat)) ∧ Below wr.heap.size wr w')
              (first | (refine (fun hbb => ⟨(Below.cell hbb hG.out).trans HCA.out, (Below.cell hbb hG.out).trans HCB.out, hbb⟩ : Below wr.heap.size wr _ → _) ?_; (repeat (first | assumption | exact below_step (by repeat (first | assumption | apply below_drew1 | apply below_alloc)) hb | apply below_alloc | apply below_drew1 | apply pw_below_drewN))) | (trace_state; fail))
              (first | (go_at_call 29; refine (HCM.out _ _ _ _ (OInv.below HI2.out (by repeat (first | assumption | apply below_drew1 | apply pw_below_drewN))) HXN.out.1 HXN.out.2).mono ?_; rintro e w9 ⟨rfl, hb⟩))
            have HBW : Aside0 (Below wr.heap.size wr w9) := ⟨by repeat (first | assumption | exact below_step (by repeat (first | assumption | apply below_drew1 | apply pw_below_drewN)) hb | apply below_drew1 | apply pw_below_drewN)⟩
            have HI3 := Aside0.mk (OInv.below HI2.out HBW.out)
            clear hb HBW
            go_wp2
            go_roundg (d.size - (i + 1))
            case measure => have := HB1.out; have := HLT.out; omega
            case rel => exact ⟨i + 1, dj, (by have h1 := HLT.out; rw [show wrap64 ((i : Int) + 1) = ((i + 1 : Nat) : Int) from by unfold wrap64; omega]), ⟨by obtain ⟨b1, b2, b3, b4⟩ := HB1.out; obtain ⟨d1, d2, d3⟩ := HB2.out; have e1 := HLT.out; exact ⟨by omega, by omega, by omega, by omega⟩⟩, HI3, HN2, ⟨OUT.out (Or.inr (by have hjp := HJP.out; rw [show j - 1 = jp by omega]; exact HLV.out))⟩⟩
        · have hjd : decide (0 < j) = false := decide_eq_false hj
          have HJ := Aside0.mk hj
          clear hj
          go_wp2_with fail
          go_big_region_o
          have S2 := Aside0.mk (OInv.below HI2.out (below_drew1 (Below.refl wr.heap.size wr)))
          generalize wr.drew = w2 at S2 ⊢
          go_wp2
          go_roundg (d.size - (i + 1))
          case measure => have := HB1.out; have := HLT.out; omega
          case rel => exact ⟨i + 1, dj, (by have h1 := HLT.out; rw [show wrap64 ((i : Int) + 1) = ((i + 1 : Nat) : Int) from by unfold wrap64; omega]), ⟨by obtain ⟨b1, b2, b3, b4⟩ := HB1.out; obtain ⟨d1, d2, d3⟩ := HB2.out; have e1 := HLT.out; exact ⟨by omega, by omega, by omega, by omega⟩⟩, S2, HN2, ⟨OUT.out (Or.inl (by have := HJ.out; omega))⟩⟩
    · have hltd : decide (i < d.size) = false := decide_eq_false hlt
      have HLT := Aside0.mk hlt
      clear hlt
      go_wp2
      go_end0
      exact ⟨rfl, by unfold Go.Sort.insertionSort; rw [show (0 : Nat) + 1 = 1 from rfl, ← HO.out, insOuter_stop _ _ _ _ _ HLT.out]; exact HI1.out⟩
set_option maxHeartbeats 8000000 in
set_option maxRecDepth 100000 in
theorem stable_calls (k : Nat) (w0 w : World) (g cap BL BT : Nat) (A : Option Addr) (c0 : Nat) (l : List S47) (t1 t2 : Int) (ls : List (Int × Int)) (d : Array Nat) (hl : lenL k t1 t2 l = some ls) (hC : Kd.C k47 w0 A l.length l) (hI : OInv w0 w g cap BL BT A c0 l t1 t2 d) (hn : InN ls.length d) (hsz : d.size ≤ 12) :
    Calls Try.prog 28 #[.slice (some ⟨g, 0, none⟩) d.size cap, .func (.func 29) #[] #[.pointer (some ⟨BL, 0, none⟩), .pointer (some ⟨BT, 0, none⟩)]] w fun e w' => e = .returned (.tuple #[]) ∧ OInv w0 w' g cap BL BT A c0 l t1 t2 (Go.Sort.insertionSort (ltN ls) d 0 d.size) := by
  have HINS : Aside0 (∀ W, Below w.heap.size w W → Calls Try.prog 64 #[.slice (some ⟨g, 0, none⟩) d.size cap, .int .i64 0, .int .i64 (d.size : Int), .func (.func 29) #[] #[.pointer (some ⟨BL, 0, none⟩), .pointer (some ⟨BT, 0, none⟩)]] W fun e w' => e = .returned (.tuple #[]) ∧ OInv w0 w' g cap BL BT A c0 l t1 t2 (Go.Sort.insertionSort (ltN ls) d 0 d.size)) :=
    ⟨fun W hb => ins_calls k w0 W g cap BL BT A c0 l t1 t2 ls d hl hC (hI.below hb) hn (by omega)⟩
  clear hl hC hI hn
  have h53 : Aside0 (∀ W, Below w.heap.size w W → Calls Try.prog 53 #[.slice (some ⟨g, 0, none⟩) d.size cap, .int .i64 (d.size : Int), .func (.func 29) #[] #[.pointer (some ⟨BL, 0, none⟩), .pointer (some ⟨BT, 0, none⟩)]] W fun e w' => e = .returned (.tuple #[]) ∧ OInv w0 w' g cap BL BT A c0 l t1 t2 (Go.Sort.insertionSort (ltN ls) d 0 d.size)) := ⟨fun W hbW => by
    have d1 : decide ((20 : Int) ≤ (d.size : Int)) = false := decide_eq_false (by omega)
    have d2 : decide ((20 : Int) < (d.size : Int)) = false := decide_eq_false (by omega)
    have d3 : decide (20 ≤ d.size) = false := decide_eq_false (by omega)
    have d4 : decide (20 < d.size) = false := decide_eq_false (by omega)
    have HBW := Aside0.mk hbW
    clear hbW
    go_enter Try.func53, Try.ntmps53
    go_wp2
    go_loopg [7, 8] 1 (fun kq v7 v8 w' => v7 = .int .i64 0 ∧ v8 = .int .i64 20 ∧ Aside0 (Below w.heap.size w w'))
    case atStart => exact ⟨rfl, rfl, HBW⟩
    case round =>
      clear HBW
      obtain ⟨rfl, rfl, HBW⟩ := hrel
      go_wp2_with (go_at_call 64; (with_reducible refine (HINS.out _ (by repeat (first | exact HBW.out | apply below_drew1 | apply pw_below_drewN))).mono ?_); rintro e w2 ⟨rfl, h2⟩; have HI2 := Aside0.mk h2; clear h2)
      go_loopg [6] 1 (fun kq v6 w' => v6 = .int .i64 20 ∧ Aside0 (OInv w0 w' g cap BL BT A c0 l t1 t2 (Go.Sort.insertionSort (ltN ls) d 0 d.size)))
      case atStart => exact ⟨rfl, HI2⟩
      case round =>
        clear HI2
        obtain ⟨rfl, HI2⟩ := hrel
        go_wp2
        go_end0
        exact ⟨rfl, HI2.out⟩⟩
  go_enter Try.func28, Try.ntmps28
  go_wp2_with (go_at_call 53; (with_reducible refine (h53.out _ (by repeat (first | exact Below.refl _ _ | apply below_drew1 | apply pw_below_drewN))).mono ?_); rintro e w2 ⟨rfl, h2⟩; have HI2 := Aside0.mk h2; clear h2)
  go_end0
  exact ⟨rfl, HI2.out⟩
/-! ### The row of numbers -/
def nI (i : Nat) : Int := (i : Int)
theorem kI_info : (Try.prog.info? 3).map (fun i => (i.zero, i.size, i.bytes)) = some (some (.int .i64 0), (Kd.int .i64).sz, 8) := by kernel_rfl
theorem RowA_of_R {w : World} {b : Nat} {ok : Nat → Prop} {g n cap : Nat} {d : Array Nat} (h : (Kd.int .i64).R 3 w b ok (.slice (some ⟨g, 0, none⟩) n cap) (d.toList.map nI)) : RowA w g cap d ∧ n = d.size ∧ d.size ≤ cap ∧ cap ≤ maxLen ∧ b ≤ g := by
  have hdl : d.toList.length = d.size := Array.length_toList
  have ho := Kd.own_of_R h
  rcases ho.2 with ⟨hn, _⟩ | ⟨g', cap', cur, hv, hb, hh, hn, hc, hs, ht⟩
  · cases hn
  · cases hv
    rw [List.length_map] at hn ht
    rw [hdl] at hn ht
    refine ⟨⟨cur.toList.drop d.size, ?_, ?_⟩, by rw [List.length_map, hdl], hn, hc, hb⟩
    · rw [hh]
      congr 2
      have e : cur.toList.take d.size = d.toList.map encN := by
        rw [Nat.mul_one] at ht
        rw [ht]
        unfold encs
        rw [List.map_map]
        rfl
      rw [← e, List.take_append_drop, Array.toArray_toList]
    · have hcl : cur.toList.length = cur.size := Array.length_toList
      rw [List.length_drop]
      omega
theorem R_of_RowA {w : World} {b : Nat} {g cap : Nat} {d : Array Nat} (h : RowA w g cap d) (hc : d.size ≤ cap) (hm : cap ≤ maxLen) (hb : b ≤ g) : (Kd.int .i64).R 3 w b (fun _ => True) (.slice (some ⟨g, 0, none⟩) d.size cap) (d.toList.map nI) := by
  obtain ⟨sp, hh, hl⟩ := h
  have e : encs (Value.int .i64) (d.toList.map nI) = d.toList.map encN := by
    unfold encs
    rw [List.map_map]
    rfl
  have hdl : d.toList.length = d.size := Array.length_toList
  refine Kd.R_of_own ?_ (fun _ _ => trivial)
  rw [List.length_map, hdl, e]
  refine ⟨by simp, .inr ⟨g, cap, _, rfl, hb, hh, hc, hm, ?_, ?_⟩⟩
  · simp only [List.size_toArray, List.length_append, List.length_map]
    omega
  · rw [List.toList_toArray, Nat.mul_one, show d.size = (d.toList.map encN).length by simp, List.take_left]
theorem below_none {w w1 : World} (h : w.grownBy w1 none) : Below w.heap.size w w1 := (Below.refl w.heap.size w).grown h (Nat.le_refl _) (fun k hk => by cases hk)
def orderL (ls : List (Int × Int)) : List Int := ((List.range ls.length).foldl (Go.Proofs.Ytpoglodghpkjiaa.PL.insE (ltN ls)) []).map nI
def orderF (k : Nat) (l : List S47) (t1 t2 : Int) : Option (List Int × Bool) := (impl_areCandles.f k l).bind fun a => if a = true then (impl_isMoment.f k t1 t2).bind fun b => if b = true then (lenL k t1 t2 l).bind fun ls => if 0 < l.length ∧ l.length ≤ 12 then some (orderL ls, true) else none else some ([], false) else some ([], false)
theorem foldl_insE_length {α : Type} [Inhabited α] (lt : α → α → Bool) : ∀ (l acc : List α), (l.foldl (Go.Proofs.Ytpoglodghpkjiaa.PL.insE lt) acc).length = acc.length + l.length
  | [], acc => rfl
  | x :: l, acc => by rw [List.foldl_cons, foldl_insE_length lt l, Go.Proofs.Ytpoglodghpkjiaa.PL.insE_length, List.length_cons]; omega
/-- The boxes of a call. -/
def BInv (w W : World) (A : Option Addr) (n c0 : Nat) (t1 t2 : Int) : Prop := W.heap[w.heap.size]? = some (.cells #[.slice A n c0] 28 (0, 0)) ∧ W.heap[w.heap.size + 1]? = some (.cells #[.int .i64 t1, .int .i64 t2] 23 (0, 0)) ∧ Below w.heap.size w W
section
variable {w W W2 : World} {A : Option Addr} {n c0 : Nat} {t1 t2 : Int}
theorem BInv.init (w : World) (A : Option Addr) (n c0 : Nat) (t1 t2 : Int) : BInv w ((w.alloc (.cells #[.slice A n c0] 28 (0, 0))).alloc (.cells #[.int .i64 t1, .int .i64 t2] 23 (0, 0))) A n c0 t1 t2 :=
  ⟨blk_alloc (blk_new _ _) _, (by
    have h_ := blk_new (w.alloc (.cells #[.slice A n c0] 28 (0, 0))) (.cells #[.int .i64 t1, .int .i64 t2] 23 (0, 0))
    simpa using h_), below_alloc (below_alloc (Below.refl _ _) _) _⟩
theorem BInv.below (h : BInv w W A n c0 t1 t2) (hb : Below W.heap.size W W2) : BInv w W2 A n c0 t1 t2 := ⟨blk_below h.1 hb, blk_below h.2.1 hb, below_step h.2.2 hb⟩
theorem BInv.grown (h : BInv w W A n c0 t1 t2) {v : Value} {xs : List Int} {ok : Nat → Prop} (hR : (Kd.int .i64).R 3 W w.heap.size ok v xs) (hg : W.grownBy W2 v.ownBlock) : BInv w W2 A n c0 t1 t2 :=
  ⟨blk_grown h.1 hg (Kd.R_ne hR h.1 (by decide)), blk_grown h.2.1 hg (Kd.R_ne hR h.2.1 (by decide)), h.2.2.grown hg (below_size h.2.2) (Kd.R_base hR)⟩
end
theorem range_nI (i : Nat) : (List.range (i + 1)).map nI = (List.range i).map nI ++ [(i : Int)] := by rw [List.range_succ, List.map_append]; rfl
def OPost (w : World) (r1 : List Int) (r2 : Bool) (e : Ending) (w' : World) : Prop := ∃ v, e = .returned (.tuple #[v, .bool r2]) ∧ (Kd.int .i64).R 3 w' w.heap.size (fun _ => True) v r1 ∧ Below w.heap.size w w'
set_option maxHeartbeats 8000000 in
set_option maxRecDepth 100000 in
theorem order_no1 (k : Nat) (A : Option Addr) (c0 : Nat) (l : List S47) (t1 t2 : Int) (w : World) (hC : Kd.C k47 w A l.length l) (hc0 : l.length ≤ c0) (h : impl_areCandles.f k l = some false) :
    Calls Try.prog 9 #[.slice A l.length c0, .agg #[.int .i64 t1, .int .i64 t2]] w (OPost w [] false) := by
  have HI := Aside0.mk (BInv.init w A l.length c0 t1 t2)
  have HF := Aside0.mk h
  have HC := Aside0.mk hC
  have HC0 := Aside0.mk hc0
  clear h hC hc0
  have c1 := Aside0.mk ((blk_cell HI.out.1 0).trans rfl)
  go_enter Try.func9, Try.ntmps9
  go_upto_region 1 with fail
  have HB := Aside0.mk HI.out.2.2
  have cL := c1.out
  have HCW := Aside0.mk (Kd.C_below HC.out HB.out)
  clear c1
  generalize (w.alloc (.cells #[.slice A l.length c0] 28 (0, 0))).alloc (.cells #[.int .i64 t1, .int .i64 t2] 23 (0, 0)) = W at HI HB cL HCW ⊢
  go_wp2_with (go_at_call 26; (with_reducible refine (impl_areCandles.calls k A c0 l false _ HCW.out HC0.out HF.out).mono ?_); rintro e w2 ⟨rfl, hb⟩; have HI2 := Aside0.mk (BInv.below HI.out hb); clear hb)
  go_ret2
  exact ⟨_, rfl, Kd.R_nil _ _ _ _ _, HI2.out.2.2⟩
set_option maxHeartbeats 8000000 in
set_option maxRecDepth 100000 in
theorem order_no2 (k : Nat) (A : Option Addr) (c0 : Nat) (l : List S47) (t1 t2 : Int) (w : World) (hC : Kd.C k47 w A l.length l) (hc0 : l.length ≤ c0) (h : impl_areCandles.f k l = some true) (hm : impl_isMoment.f k t1 t2 = some false) :
    Calls Try.prog 9 #[.slice A l.length c0, .agg #[.int .i64 t1, .int .i64 t2]] w (OPost w [] false) := by
  have HI := Aside0.mk (BInv.init w A l.length c0 t1 t2)
  have HF := Aside0.mk h
  have HM := Aside0.mk hm
  have HC := Aside0.mk hC
  have HC0 := Aside0.mk hc0
  clear h hC hc0 hm
  have c1 := Aside0.mk ((blk_cell HI.out.1 0).trans rfl)
  go_enter Try.func9, Try.ntmps9
  go_upto_region 1 with fail
  have HB := Aside0.mk HI.out.2.2
  have cL := c1.out
  have HCW := Aside0.mk (Kd.C_below HC.out HB.out)
  clear c1
  generalize (w.alloc (.cells #[.slice A l.length c0] 28 (0, 0))).alloc (.cells #[.int .i64 t1, .int .i64 t2] 23 (0, 0)) = W at HI HB cL HCW ⊢
  go_wp2_with (first
    | (go_at_call 26; (with_reducible refine (impl_areCandles.calls k A c0 l true _ HCW.out HC0.out HF.out).mono ?_); rintro e w2 ⟨rfl, hb⟩; have HI2 := Aside0.mk (BInv.below HI.out hb); clear hb; have cT0 := (blk_cell HI2.out.2.1 0).trans rfl; have cT1 := (blk_cell HI2.out.2.1 1).trans rfl)
    | (go_at_call 27; (with_reducible refine (impl_isMoment.calls k t1 t2 false _ HM.out).mono ?_); rintro e w3 ⟨rfl, hb⟩; have HI3 := Aside0.mk (BInv.below HI2.out hb); clear hb cT0 cT1))
  go_ret2
  exact ⟨_, rfl, Kd.R_nil _ _ _ _ _, HI3.out.2.2⟩
set_option maxHeartbeats 8000000 in
set_option maxRecDepth 100000 in
theorem order_main (k : Nat) (A : Option Addr) (c0 : Nat) (l : List S47) (t1 t2 : Int) (ls : List (Int × Int)) (w : World) (hC : Kd.C k47 w A l.length l) (hc0 : l.length ≤ c0) (h : impl_areCandles.f k l = some true) (hm : impl_isMoment.f k t1 t2 = some true) (hls : lenL k t1 t2 l = some ls) (hn0 : 0 < l.length) (hn1 : l.length ≤ 12) :
    Calls Try.prog 9 #[.slice A l.length c0, .agg #[.int .i64 t1, .int .i64 t2]] w (OPost w (orderL ls) true) := by
  have HI := Aside0.mk (BInv.init w A l.length c0 t1 t2)
  have HF := Aside0.mk h
  have HM := Aside0.mk hm
  have HC := Aside0.mk hC
  have HC0 := Aside0.mk hc0
  have HLS := Aside0.mk hls
  have HLL := Aside0.mk (lenL_get k t1 t2 hls).1
  clear h hC hc0 hm hls
  have c1 := Aside0.mk ((blk_cell HI.out.1 0).trans rfl)
  go_enter Try.func9, Try.ntmps9
  go_upto_region 1 with fail
  have HB := Aside0.mk HI.out.2.2
  have cL := c1.out
  have HCW := Aside0.mk (Kd.C_below HC.out HB.out)
  clear c1
  generalize (w.alloc (.cells #[.slice A l.length c0] 28 (0, 0))).alloc (.cells #[.int .i64 t1, .int .i64 t2] 23 (0, 0)) = W at HI HB cL HCW ⊢
  go_upto_region 4 with (first
    | (go_at_call 26; (with_reducible refine (impl_areCandles.calls k A c0 l true _ HCW.out HC0.out HF.out).mono ?_); rintro e w2 ⟨rfl, hb⟩; have HI2 := Aside0.mk (BInv.below HI.out hb); clear hb; have cT0 := (blk_cell HI2.out.2.1 0).trans rfl; have cT1 := (blk_cell HI2.out.2.1 1).trans rfl)
    | (go_at_call 27; (with_reducible refine (impl_isMoment.calls k t1 t2 true _ HM.out).mono ?_); rintro e w3 ⟨rfl, hb⟩; have HI3 := Aside0.mk (BInv.below HI2.out hb); clear hb cT0 cT1; have HIS := Aside0.mk (below_size HI3.out.2.2))
    | ((with_reducible refine gate_dst (N := 16) rfl ?_); refine Kd.R_lit (Kd.int .i64) (w0 := w3) w.heap.size 3 ?hg (N := 16) ?hd (xs := ([] : List Int)) (inner := []) (ok := fun _ => True) (okp := fun _ => True) ?hr ?hp (fun _ hk => hk) trivial ?hq HIS.out (by simp) ?_; (case hd => rfl); (case hg => rfl); (case hr => first | (go_simp; done) | (go_simp; rfl)); (case hp => exact (Reps.none _ _)); (case hq => exact Below.refl _ _); intro v16 w4 ho hb2 hg_ hnew_; have HL := Aside0.mk ho; have HI4 := Aside0.mk (BInv.below HI3.out (below_none hg_)); clear hg_ hnew_ ho hb2 HI3))
  have cL4 := (blk_cell HI4.out.1 0).trans rfl
  have hzl : l.length ≤ 9223372036854775807 := by omega
  go_wp2
  clear cL4
  go_loopg [6, 19] (l.length + 1) (fun kq v6 v19 w' => ∃ i : Nat, v19 = .int .i64 (i : Int) ∧ Aside0 (kq + i = l.length + 1 ∧ 1 ≤ kq) ∧ Aside0 ((Kd.int .i64).R 3 w' w.heap.size (fun _ => True) v6 ((List.range i).map nI)) ∧ Aside0 (BInv w w' A l.length c0 t1 t2))
  case atStart => exact ⟨0, rfl, ⟨by omega⟩, HL, HI4⟩
  case round =>
    clear HL HI4
    obtain ⟨i, rfl, HK, HL, HI4⟩ := hrel
    by_cases hi : i < l.length
    · have hd : decide (i < l.length) = true := decide_eq_true hi
      obtain ⟨e, he⟩ : ∃ e, gk = e + 1 := ⟨gk - 1, by have := HK.out; omega⟩
      subst he
      have HI := Aside0.mk hi
      have HSZ := Aside0.mk (below_size HI4.out.2.2)
      have HBW := Aside0.mk HI4.out.2.2
      have HLEN : Aside0 (((List.range i).map nI).length ≤ 12) := ⟨by simp; omega⟩
      go_wp2_with ((with_reducible refine gate_builtin (b := .append) (xs := #[.tmp 22, .tmp 24]) rfl ?_); at_builtin; refine Kd.R_append (Kd.int .i64) (w0 := w) w.heap.size rfl (.tmp 22) (.tmp 24) 25 3 (.int .i64 0) 8 rfl Try.underlying25 kI_info rfl (by decide) (by decide) u6 ((List.range i).map nI) (i : Int) [.int .i64 (i : Int)] (fun _ => True) (fun q => some q ≠ u6.ownBlock) rfl rfl ?aP (fun _ hk => ⟨trivial, hk⟩) (fun _ _ => trivial) ?aO ?aB ?aS ?aL ?_; (case aP => exact rfl); (case aB => exact HBW.out); (case aO => exact HL.out); (case aS => exact HSZ.out); (case aL => have := HLEN.out; omega); intro v1 w10 ho hb hg hat; have HL2 := Aside0.mk ho; have HI2 := Aside0.mk (BInv.grown HI4.out HL.out hg); clear ho hb hg hat)
      go_roundg e
      case measure => omega
      case rel => exact ⟨i + 1, (by go_num), ⟨by have := HK.out; have := HI.out; omega⟩, (by rw [range_nI]; exact HL2), HI2⟩
    · have hd : decide (i < l.length) = false := decide_eq_false hi
      have hil : i = l.length := by have := HK.out; omega
      have HL3 := HL.out
      rw [hil] at HL3
      obtain ⟨g3, cp3, rfl, _⟩ := Kd.R_form HL3 (by simpa using hn0)
      obtain ⟨hP, hbad, hc1, hc2, hb3⟩ := RowA_of_R (d := (List.range l.length).toArray) (by simpa using HL3)
      have HO : Aside0 (OInv w wr g3 cp3 w.heap.size (w.heap.size + 1) A c0 l t1 t2 (List.range l.length).toArray) := ⟨⟨hP, HI4.out.1, HI4.out.2.1, hb3, HI4.out.2.2⟩⟩
      have HCC := Aside0.mk (And.intro hc1 (And.intro hc2 hb3))
      have hds : (List.range l.length).toArray.size = l.length := by rw [List.size_toArray, List.length_range]
      have HDS := Aside0.mk hds
      have HINN : Aside0 (InN ls.length (List.range l.length).toArray) := ⟨by
        intro i hi
        rw [hds] at hi
        rw [HLL.out]
        simp [hi]⟩
      have HST : Aside0 (∀ W, Below wr.heap.size wr W → Calls Try.prog 28 #[.slice (some ⟨g3, 0, none⟩) l.length cp3, .func (.func 29) #[] #[.pointer (some ⟨w.heap.size, 0, none⟩), .pointer (some ⟨w.heap.size + 1, 0, none⟩)]] W fun e w' => e = .returned (.tuple #[]) ∧ OInv w w' g3 cp3 w.heap.size (w.heap.size + 1) A c0 l t1 t2 (Go.Sort.insertionSort (ltN ls) (List.range l.length).toArray 0 (List.range l.length).toArray.size)) := ⟨fun W hb => by
        have h := stable_calls k w W g3 cp3 w.heap.size (w.heap.size + 1) A c0 l t1 t2 ls (List.range l.length).toArray HLS.out HC.out (HO.out.below hb) HINN.out (by rw [hds]; exact hn1)
        rw [show (Value.slice (some ⟨g3, 0, none⟩) l.length cp3) = Value.slice (some ⟨g3, 0, none⟩) (List.range l.length).toArray.size cp3 by rw [hds]]
        exact h⟩
      clear HL3 hP hc1 hc2 hb3 hi HL hds hil HK hbad
      have e7 : ((List.range l.length).map nI).length = l.length := by rw [List.length_map, List.length_range]
      rw [e7]
      have E7 := Aside0.mk e7
      clear e7

      go_wp2_with (go_at_call 28; (with_reducible refine (HST.out _ (by repeat (first | exact Below.refl _ _ | apply below_drew1 | apply pw_below_drewN))).mono ?_); rintro e w5 ⟨rfl, h5⟩; have HO5 := Aside0.mk h5; clear h5)
      go_ret2
      obtain ⟨hRA, _, _, _, hbw⟩ := HO5.out
      have hsz : (Go.Sort.insertionSort (ltN ls) (List.range l.length).toArray 0 (List.range l.length).toArray.size).size = ((List.range l.length).map nI).length := by
        rw [← Array.length_toList, Go.Proofs.Ytpoglodghpkjiaa.PL.insertionSort_eq, foldl_insE_length, List.length_nil, List.toList_toArray, List.length_range, List.length_map, List.length_range, Nat.zero_add]
      have hfin := R_of_RowA hRA (by rw [hsz, List.length_map, ← List.size_toArray]; exact HCC.out.1) HCC.out.2.1 HCC.out.2.2
      rw [hsz, E7.out, Go.Proofs.Ytpoglodghpkjiaa.PL.insertionSort_eq] at hfin
      refine ⟨_, rfl, ?_, hbw⟩
      unfold orderL
      rw [HLL.out]
      exact hfin
theorem orderF_calls (k : Nat) (A : Option Addr) (c0 : Nat) (l : List S47) (t1 t2 : Int) (r1 : List Int) (r2 : Bool) (w : World) (hC : Kd.C k47 w A l.length l) (hc0 : l.length ≤ c0) (h : orderF k l t1 t2 = some (r1, r2)) :
    Calls Try.prog 9 #[.slice A l.length c0, .agg #[.int .i64 t1, .int .i64 t2]] w fun e w' => ∃ v, e = .returned (.tuple #[v, .bool r2]) ∧ (Kd.int .i64).R 3 w' w.heap.size (fun _ => True) v r1 ∧ Below w.heap.size w w' := by
  obtain ⟨a, ha, h⟩ := Option.bind_eq_some_iff.mp h
  cases a with
  | false =>
    obtain ⟨rfl, rfl⟩ := Prod.mk.inj (Option.some.inj h)
    exact order_no1 k A c0 l t1 t2 w hC hc0 ha
  | true =>
    rw [if_pos rfl] at h
    obtain ⟨b, hb, h⟩ := Option.bind_eq_some_iff.mp h
    cases b with
    | false =>
      obtain ⟨rfl, rfl⟩ := Prod.mk.inj (Option.some.inj h)
      exact order_no2 k A c0 l t1 t2 w hC hc0 ha hb
    | true =>
      rw [if_pos rfl] at h
      obtain ⟨ls, hls, h⟩ := Option.bind_eq_some_iff.mp h
      by_cases hn : 0 < l.length ∧ l.length ≤ 12
      · rw [if_pos hn] at h
        obtain ⟨rfl, rfl⟩ := Prod.mk.inj (Option.some.inj h)
        exact order_main k A c0 l t1 t2 ls w hC hc0 ha hb hls hn.1 hn.2
      · rw [if_neg hn] at h; cases h

/-! ### impl_OrderAt: function 9, its contract told by hand -/
def impl_OrderAt.f (k : Nat) (l0 : List (S47)) (a1_0 : Int) (a1_1 : Int) : Option ((List Int) × Bool) := orderF k l0 a1_0 a1_1
theorem impl_OrderAt.calls (k : Nat) (A0 : Option Addr) (c0 : Nat) (l0 : List (S47)) (a1_0 : Int) (a1_1 : Int) (r1 : List Int) (r2 : Bool) (w : World) (hr0 : Kd.C k47 w A0 l0.length l0) (hc0 : l0.length ≤ c0) (h : impl_OrderAt.f k l0 a1_0 a1_1 = some (r1, r2)) :
    Calls Try.prog 9 #[.slice A0 l0.length c0, .agg #[.int .i64 a1_0, .int .i64 a1_1]] w fun e w' => ∃ v0_ : Value, e = .returned (.tuple #[v0_, .bool r2]) ∧ Kd.R (Kd.int .i64) 3 w' w.heap.size (fun _ => True) v0_ r1 ∧ Below w.heap.size w w' := orderF_calls k A0 c0 l0 a1_0 a1_1 r1 r2 w hr0 hc0 h

/-! ### laws_eqIntS: function 10 -/
def laws_eqIntS.l0 : Nat → List Int → List Int → Int → Option (Bool)
  | 0, _, _, _ => none
  | k + 1, x0, x1, x5 => if x5 < (x0.length : Int) then (if 0 ≤ x5 then (if x5 < (x1.length : Int) then (if (rd x0 x5) = (rd x1 x5) then (laws_eqIntS.l0 k x0 x1 (wrap64 (x5 + 1))) else (some false)) else (none)) else (none)) else (some true)
def laws_eqIntS.f (k : Nat) (l0 : List Int) (l1 : List Int) : Option (Bool) := if (l0.length : Int) = (l1.length : Int) then (laws_eqIntS.l0 k l0 l1 0) else (some false)
set_option maxHeartbeats 8000000 in
set_option maxRecDepth 100000 in
theorem laws_eqIntS.calls (k : Nat) (A0 : Option Addr) (c0 : Nat) (l0 : List Int) (A1 : Option Addr) (c1 : Nat) (l1 : List Int) (r : Bool) (w : World) (hr0 : Kd.C (Kd.int .i64) w A0 l0.length l0) (hc0 : l0.length ≤ c0) (hr1 : Kd.C (Kd.int .i64) w A1 l1.length l1) (hc1 : l1.length ≤ c1) (h : laws_eqIntS.f k l0 l1 = some r) :
    Calls Try.prog 10 #[.slice A0 l0.length c0, .slice A1 l1.length c1] w fun e w' => e = .returned (.bool r) ∧ Drawn0 w w' := by
  have HR0 := Aside0.mk hr0
  have HC0 := Aside0.mk hc0
  clear hr0 hc0
  have HR1 := Aside0.mk hr1
  have HC1 := Aside0.mk hc1
  clear hr1 hc1
  have H : (if (l0.length : Int) = (l1.length : Int) then (laws_eqIntS.l0 k l0 l1 0) else (some false)) = some r := h
  clear h
  by_cases c3 : (l0.length : Int) = (l1.length : Int)
  · rw [if_pos c3] at H
    have c3b0 : ((l0.length : Int) == (l1.length : Int)) = true := beq_iff_eq.mpr c3
    have c3b1 : ((l0.length : Int) != (l1.length : Int)) = false := bne_eq_false_iff_eq.mpr c3
    have c3b2 : (l0.length == l1.length) = true := by first | simpa using c3 | (simp at c3 ⊢; omega)
    clear c3
    have H' := Aside0.mk H
    clear H
    go_enter Try.func10, Try.ntmps10
    go_wp2
    repeat (go_quiet (fail); try go_wp2)
    go_loopg [5] k (fun kq v5 w' => ∃ (x5_1 : Int), v5 = .int .i64 x5_1 ∧ Aside0 (laws_eqIntS.l0 kq l0 l1 x5_1 = some r) ∧ Aside0 (kq ≤ k) ∧ Drawn0 w w')
    case atStart => exact ⟨(0), (by first | rfl | (simp; done) | (simp [*]; done)), H', ⟨Nat.le_refl _⟩, by repeat (first | exact Drawn0.refl _ | apply Drawn0.step)⟩
    case round =>
      clear H'
      try clear c1
      try clear p2
      try clear c3
      try clear c3b0
      try clear c3b1
      try clear c3b2
      obtain ⟨x5_1, rfl, HA, HK1, ⟨m1, rfl⟩⟩ := hrel
      cases gk with
      | zero => exact absurd HA.out (by simp [laws_eqIntS.l0])
      | succ k1 =>
        have H := HA.out
        clear HA
        simp only [laws_eqIntS.l0] at H
        by_cases c4 : x5_1 < (l0.length : Int)
        · rw [if_pos c4] at H
          have c4b0 : decide (x5_1 < (l0.length : Int)) = true := decide_eq_true c4
          clear c4
          by_cases c5 : 0 ≤ x5_1
          · rw [if_pos c5] at H
            have c5b0 : decide (0 ≤ x5_1) = true := decide_eq_true c5
            clear c5
            by_cases c6 : x5_1 < (l1.length : Int)
            · rw [if_pos c6] at H
              have c6b0 : decide (x5_1 < (l1.length : Int)) = true := decide_eq_true c6
              clear c6
              by_cases c7 : (rd l0 x5_1) = (rd l1 x5_1)
              · rw [if_pos c7] at H
                have c7b0 : ((rd l0 x5_1) == (rd l1 x5_1)) = true := beq_iff_eq.mpr c7
                have c7b1 : ((rd l0 x5_1) != (rd l1 x5_1)) = false := bne_eq_false_iff_eq.mpr c7
                clear c7
                have H' := Aside0.mk H
                clear H
                have p275 : 0 ≤ (x5_1 : Int) := of_decide_eq_true (by first | (with_reducible assumption) | assumption)
                have q275 : x5_1 < (l0.length : Int) := of_decide_eq_true (by first | (with_reducible assumption) | assumption)
                obtain ⟨ad275, e275, hx275_0⟩ := Kd.at_int HR0.out x5_1 p275 q275
                cases e275
                replace p275 := eq_true p275
                replace q275 := eq_true q275
                have p276 : 0 ≤ (x5_1 : Int) := of_decide_eq_true (by first | (with_reducible assumption) | assumption)
                have q276 : x5_1 < (l1.length : Int) := of_decide_eq_true (by first | (with_reducible assumption) | assumption)
                obtain ⟨ad276, e276, hx276_0⟩ := Kd.at_int HR1.out x5_1 p276 q276
                cases e276
                replace p276 := eq_true p276
                replace q276 := eq_true q276
                go_wp2
                repeat (go_quiet (fail); try go_wp2)
                go_roundg k1
                case measure => have := HK1.out; omega
                case rel => exact ⟨(wrap64 (x5_1 + 1)), (by first | rfl | (simp; done) | (simp [*]; done)), H', ⟨by have := HK1.out; omega⟩, by repeat (first | exact Drawn0.refl _ | apply Drawn0.step)⟩
              · rw [if_neg c7] at H
                have c7b0 : ((rd l0 x5_1) == (rd l1 x5_1)) = false := beq_eq_false_iff_ne.mpr c7
                have c7b1 : ((rd l0 x5_1) != (rd l1 x5_1)) = true := bne_iff_ne.mpr c7
                obtain rfl := Option.some.inj H
                have p275 : 0 ≤ (x5_1 : Int) := of_decide_eq_true (by first | (with_reducible assumption) | assumption)
                have q275 : x5_1 < (l0.length : Int) := of_decide_eq_true (by first | (with_reducible assumption) | assumption)
                obtain ⟨ad275, e275, hx275_0⟩ := Kd.at_int HR0.out x5_1 p275 q275
                cases e275
                replace p275 := eq_true p275
                replace q275 := eq_true q275
                have p276 : 0 ≤ (x5_1 : Int) := of_decide_eq_true (by first | (with_reducible assumption) | assumption)
                have q276 : x5_1 < (l1.length : Int) := of_decide_eq_true (by first | (with_reducible assumption) | assumption)
                obtain ⟨ad276, e276, hx276_0⟩ := Kd.at_int HR1.out x5_1 p276 q276
                cases e276
                replace p276 := eq_true p276
                replace q276 := eq_true q276
                go_wp2
                repeat (go_quiet (fail); try go_wp2)
                go_ret
                exact ⟨by first | rfl | (simp; done) | (simp [*]; done), by repeat (first | exact Drawn0.refl _ | apply Drawn0.step)⟩
            · rw [if_neg c6] at H
              exact absurd H (by simp)
          · rw [if_neg c5] at H
            exact absurd H (by simp)
        · rw [if_neg c4] at H
          have c4b0 : decide (x5_1 < (l0.length : Int)) = false := decide_eq_false c4
          clear c4
          obtain rfl := Option.some.inj H
          go_wp2
          repeat (go_quiet (fail); try go_wp2)
          go_ret
          exact ⟨by first | rfl | (simp; done) | (simp [*]; done), by repeat (first | exact Drawn0.refl _ | apply Drawn0.step)⟩
  · rw [if_neg c3] at H
    have c3b0 : ((l0.length : Int) == (l1.length : Int)) = false := beq_eq_false_iff_ne.mpr c3
    have c3b1 : ((l0.length : Int) != (l1.length : Int)) = true := bne_iff_ne.mpr c3
    have c3b2 : (l0.length == l1.length) = false := by first | simpa using c3 | (simp at c3 ⊢; omega)
    obtain rfl := Option.some.inj H
    go_enter Try.func10, Try.ntmps10
    go_wp2
    repeat (go_quiet (fail); try go_wp2)
    go_ret
    exact ⟨by first | rfl | (simp; done) | (simp [*]; done), by repeat (first | exact Drawn0.refl _ | apply Drawn0.step)⟩

/-! ### laws_eqCandle: function 32 -/
def laws_eqCandle.f (a0_0 : Int) (a0_1 : Int) (a0_2 : Int) (a1_0 : Int) (a1_1 : Int) (a1_2 : Int) : Option (Bool) := if a0_0 = a1_0 then (if a0_1 = a1_1 then (if a0_2 = a1_2 then (some true) else (some false)) else (some false)) else (some false)
set_option maxHeartbeats 8000000 in
set_option maxRecDepth 100000 in
theorem laws_eqCandle.calls (a0_0 : Int) (a0_1 : Int) (a0_2 : Int) (a1_0 : Int) (a1_1 : Int) (a1_2 : Int) (r : Bool) (w : World) (h : laws_eqCandle.f a0_0 a0_1 a0_2 a1_0 a1_1 a1_2 = some r) :
    Calls Try.prog 32 #[.agg #[.int .i64 a0_0, .int .i64 a0_1, .int .i64 a0_2], .agg #[.int .i64 a1_0, .int .i64 a1_1, .int .i64 a1_2]] w fun e w' => e = .returned (.bool r) ∧ Below w.heap.size w w' := by
  have hu47 := Try.underlying47
  have HB := Aside0.mk (Below.refl w.heap.size w)
  have H : (if a0_0 = a1_0 then (if a0_1 = a1_1 then (if a0_2 = a1_2 then (some true) else (some false)) else (some false)) else (some false)) = some r := h
  clear h
  by_cases c3 : a0_0 = a1_0
  · rw [if_pos c3] at H
    have c3b0 : (a0_0 == a1_0) = true := beq_iff_eq.mpr c3
    have c3b1 : (a0_0 != a1_0) = false := bne_eq_false_iff_eq.mpr c3
    clear c3
    by_cases c4 : a0_1 = a1_1
    · rw [if_pos c4] at H
      have c4b0 : (a0_1 == a1_1) = true := beq_iff_eq.mpr c4
      have c4b1 : (a0_1 != a1_1) = false := bne_eq_false_iff_eq.mpr c4
      clear c4
      by_cases c5 : a0_2 = a1_2
      · rw [if_pos c5] at H
        have c5b0 : (a0_2 == a1_2) = true := beq_iff_eq.mpr c5
        have c5b1 : (a0_2 != a1_2) = false := bne_eq_false_iff_eq.mpr c5
        clear c5
        obtain rfl := Option.some.inj H
        go_enter Try.func32, Try.ntmps32
        go_wp2_with (first | ((with_reducible refine gate_dst (N := 2) rfl ?_); refine box_event ?hg (N := 2) ?hd (cs := #[.int .i64 a0_0, .int .i64 a0_1, .int .i64 a0_2]) (t := 47) ?hr ?_; (case hd => rfl); (case hg => rfl); (case hr => first | (go_simp; done) | (go_simp; rfl)); intro gb277 hg w6 hbox hb; have n0_ := Aside0.mk (below_step (by repeat (first | (with_reducible first | exact HB.out | apply below_alloc | apply pw_below_drewN | apply below_drew1) | exact HB.out)) hb); have n1_ := Aside0.mk (hbox); have n2_ := Aside0.mk ((by rw [hg]; exact (below_size (by repeat (first | (with_reducible first | exact HB.out | apply below_alloc | apply pw_below_drewN | apply below_drew1) | exact HB.out))) : w.heap.size ≤ gb277)); have n3_ := Aside0.mk ((by rw [hg]; exact (below_size (by repeat (first | (with_reducible first | exact HB.out | apply below_alloc | apply pw_below_drewN | apply below_drew1) | exact HB.out))) : w.heap.size ≤ gb277)); clear HB; have HB := n0_; have BK277 := n1_; have GW277 := n2_; have GE277 := n3_; clear n0_ n1_ n2_ n3_; clear hb hbox hg) | ((with_reducible refine gate_dst (N := 3) rfl ?_); refine box_event ?hg (N := 3) ?hd (cs := #[.int .i64 a1_0, .int .i64 a1_1, .int .i64 a1_2]) (t := 47) ?hr ?_; (case hd => rfl); (case hg => rfl); (case hr => first | (go_simp; done) | (go_simp; rfl)); intro gb278 hg w7 hbox hb; have n0_ := Aside0.mk (blk_below (g := gb277) (o := .cells #[.int .i64 a0_0, .int .i64 a0_1, .int .i64 a0_2] 47 (0, 0)) (by (with_reducible repeat (first | refine blk_drewN ?_ _ | refine blk_drew ?_ | refine blk_alloc ?_ _)); exact BK277.out) hb); have n1_ := Aside0.mk (below_step (by repeat (first | (with_reducible first | exact HB.out | apply below_alloc | apply pw_below_drewN | apply below_drew1 | refine below_set ?_ GE277.out) | exact HB.out)) hb); have n2_ := Aside0.mk (hbox); have n3_ := Aside0.mk ((by rw [hg]; exact (below_size (by repeat (first | (with_reducible first | exact HB.out | apply below_alloc | apply pw_below_drewN | apply below_drew1 | refine below_set ?_ GE277.out) | exact HB.out))) : w.heap.size ≤ gb278)); have n4_ := Aside0.mk ((by rw [hg]; exact (below_size (by repeat (first | (with_reducible first | exact HB.out | apply below_alloc | apply pw_below_drewN | apply below_drew1 | refine below_set ?_ GE277.out) | exact HB.out))) : w.heap.size ≤ gb278)); have n5_ := Aside0.mk ((by rw [hg]; exact Nat.ne_of_lt (blk_lt (g := gb277) (o := .cells #[.int .i64 a0_0, .int .i64 a0_1, .int .i64 a0_2] 47 (0, 0)) (by (with_reducible repeat (first | refine blk_drewN ?_ _ | refine blk_drew ?_ | refine blk_alloc ?_ _)); exact BK277.out)) : gb277 ≠ gb278)); have n6_ := Aside0.mk ((by rw [hg]; exact Nat.ne_of_gt (blk_lt (g := gb277) (o := .cells #[.int .i64 a0_0, .int .i64 a0_1, .int .i64 a0_2] 47 (0, 0)) (by (with_reducible repeat (first | refine blk_drewN ?_ _ | refine blk_drew ?_ | refine blk_alloc ?_ _)); exact BK277.out)) : gb278 ≠ gb277)); clear BK277; clear HB; have BK277 := n0_; have HB := n1_; have BK278 := n2_; have GW278 := n3_; have GE278 := n4_; have NB277_278 := n5_; have NB278_277 := n6_; clear n0_ n1_ n2_ n3_ n4_ n5_ n6_; clear hb hbox hg; have hnb8 := NB277_278.out; have hnc8 := NB278_277.out; have hcz9_0 : w7.cell? ⟨gb277, 0, none⟩ = some (.int .i64 a0_0) := (blk_cell BK277.out 0).trans rfl; have hcz9_1 : w7.cell? ⟨gb277, 1, none⟩ = some (.int .i64 a0_1) := (blk_cell BK277.out 1).trans rfl; have hcz9_2 : w7.cell? ⟨gb277, 2, none⟩ = some (.int .i64 a0_2) := (blk_cell BK277.out 2).trans rfl; have hfz9_0 := blk_frozen BK277.out 0; have hfz9_1 := blk_frozen BK277.out 1; have hfz9_2 := blk_frozen BK277.out 2; have hcz10_0 : w7.cell? ⟨gb278, 0, none⟩ = some (.int .i64 a1_0) := (blk_cell BK278.out 0).trans rfl; have hcz10_1 : w7.cell? ⟨gb278, 1, none⟩ = some (.int .i64 a1_1) := (blk_cell BK278.out 1).trans rfl; have hcz10_2 : w7.cell? ⟨gb278, 2, none⟩ = some (.int .i64 a1_2) := (blk_cell BK278.out 2).trans rfl; have hfz10_0 := blk_frozen BK278.out 0; have hfz10_1 := blk_frozen BK278.out 1; have hfz10_2 := blk_frozen BK278.out 2))
        go_ret
        exact ⟨by first | rfl | (simp [errW_none, errW_some] <;> rfl) | (simp [*, errW_none, errW_some] <;> rfl), by repeat (first | (with_reducible first | exact HB.out | apply below_alloc | apply pw_below_drewN | apply below_drew1 | refine below_set ?_ GE277.out | refine below_set ?_ GE278.out) | exact HB.out)⟩
      · rw [if_neg c5] at H
        have c5b0 : (a0_2 == a1_2) = false := beq_eq_false_iff_ne.mpr c5
        have c5b1 : (a0_2 != a1_2) = true := bne_iff_ne.mpr c5
        obtain rfl := Option.some.inj H
        go_enter Try.func32, Try.ntmps32
        go_wp2_with (first | ((with_reducible refine gate_dst (N := 2) rfl ?_); refine box_event ?hg (N := 2) ?hd (cs := #[.int .i64 a0_0, .int .i64 a0_1, .int .i64 a0_2]) (t := 47) ?hr ?_; (case hd => rfl); (case hg => rfl); (case hr => first | (go_simp; done) | (go_simp; rfl)); intro gb277 hg w11 hbox hb; have n0_ := Aside0.mk (below_step (by repeat (first | (with_reducible first | exact HB.out | apply below_alloc | apply pw_below_drewN | apply below_drew1) | exact HB.out)) hb); have n1_ := Aside0.mk (hbox); have n2_ := Aside0.mk ((by rw [hg]; exact (below_size (by repeat (first | (with_reducible first | exact HB.out | apply below_alloc | apply pw_below_drewN | apply below_drew1) | exact HB.out))) : w.heap.size ≤ gb277)); have n3_ := Aside0.mk ((by rw [hg]; exact (below_size (by repeat (first | (with_reducible first | exact HB.out | apply below_alloc | apply pw_below_drewN | apply below_drew1) | exact HB.out))) : w.heap.size ≤ gb277)); clear HB; have HB := n0_; have BK277 := n1_; have GW277 := n2_; have GE277 := n3_; clear n0_ n1_ n2_ n3_; clear hb hbox hg) | ((with_reducible refine gate_dst (N := 3) rfl ?_); refine box_event ?hg (N := 3) ?hd (cs := #[.int .i64 a1_0, .int .i64 a1_1, .int .i64 a1_2]) (t := 47) ?hr ?_; (case hd => rfl); (case hg => rfl); (case hr => first | (go_simp; done) | (go_simp; rfl)); intro gb278 hg w12 hbox hb; have n0_ := Aside0.mk (blk_below (g := gb277) (o := .cells #[.int .i64 a0_0, .int .i64 a0_1, .int .i64 a0_2] 47 (0, 0)) (by (with_reducible repeat (first | refine blk_drewN ?_ _ | refine blk_drew ?_ | refine blk_alloc ?_ _)); exact BK277.out) hb); have n1_ := Aside0.mk (below_step (by repeat (first | (with_reducible first | exact HB.out | apply below_alloc | apply pw_below_drewN | apply below_drew1 | refine below_set ?_ GE277.out) | exact HB.out)) hb); have n2_ := Aside0.mk (hbox); have n3_ := Aside0.mk ((by rw [hg]; exact (below_size (by repeat (first | (with_reducible first | exact HB.out | apply below_alloc | apply pw_below_drewN | apply below_drew1 | refine below_set ?_ GE277.out) | exact HB.out))) : w.heap.size ≤ gb278)); have n4_ := Aside0.mk ((by rw [hg]; exact (below_size (by repeat (first | (with_reducible first | exact HB.out | apply below_alloc | apply pw_below_drewN | apply below_drew1 | refine below_set ?_ GE277.out) | exact HB.out))) : w.heap.size ≤ gb278)); have n5_ := Aside0.mk ((by rw [hg]; exact Nat.ne_of_lt (blk_lt (g := gb277) (o := .cells #[.int .i64 a0_0, .int .i64 a0_1, .int .i64 a0_2] 47 (0, 0)) (by (with_reducible repeat (first | refine blk_drewN ?_ _ | refine blk_drew ?_ | refine blk_alloc ?_ _)); exact BK277.out)) : gb277 ≠ gb278)); have n6_ := Aside0.mk ((by rw [hg]; exact Nat.ne_of_gt (blk_lt (g := gb277) (o := .cells #[.int .i64 a0_0, .int .i64 a0_1, .int .i64 a0_2] 47 (0, 0)) (by (with_reducible repeat (first | refine blk_drewN ?_ _ | refine blk_drew ?_ | refine blk_alloc ?_ _)); exact BK277.out)) : gb278 ≠ gb277)); clear BK277; clear HB; have BK277 := n0_; have HB := n1_; have BK278 := n2_; have GW278 := n3_; have GE278 := n4_; have NB277_278 := n5_; have NB278_277 := n6_; clear n0_ n1_ n2_ n3_ n4_ n5_ n6_; clear hb hbox hg; have hnb13 := NB277_278.out; have hnc13 := NB278_277.out; have hcz14_0 : w12.cell? ⟨gb277, 0, none⟩ = some (.int .i64 a0_0) := (blk_cell BK277.out 0).trans rfl; have hcz14_1 : w12.cell? ⟨gb277, 1, none⟩ = some (.int .i64 a0_1) := (blk_cell BK277.out 1).trans rfl; have hcz14_2 : w12.cell? ⟨gb277, 2, none⟩ = some (.int .i64 a0_2) := (blk_cell BK277.out 2).trans rfl; have hfz14_0 := blk_frozen BK277.out 0; have hfz14_1 := blk_frozen BK277.out 1; have hfz14_2 := blk_frozen BK277.out 2; have hcz15_0 : w12.cell? ⟨gb278, 0, none⟩ = some (.int .i64 a1_0) := (blk_cell BK278.out 0).trans rfl; have hcz15_1 : w12.cell? ⟨gb278, 1, none⟩ = some (.int .i64 a1_1) := (blk_cell BK278.out 1).trans rfl; have hcz15_2 : w12.cell? ⟨gb278, 2, none⟩ = some (.int .i64 a1_2) := (blk_cell BK278.out 2).trans rfl; have hfz15_0 := blk_frozen BK278.out 0; have hfz15_1 := blk_frozen BK278.out 1; have hfz15_2 := blk_frozen BK278.out 2))
        go_ret
        exact ⟨by first | rfl | (simp [errW_none, errW_some] <;> rfl) | (simp [*, errW_none, errW_some] <;> rfl), by repeat (first | (with_reducible first | exact HB.out | apply below_alloc | apply pw_below_drewN | apply below_drew1 | refine below_set ?_ GE277.out | refine below_set ?_ GE278.out) | exact HB.out)⟩
    · rw [if_neg c4] at H
      have c4b0 : (a0_1 == a1_1) = false := beq_eq_false_iff_ne.mpr c4
      have c4b1 : (a0_1 != a1_1) = true := bne_iff_ne.mpr c4
      obtain rfl := Option.some.inj H
      go_enter Try.func32, Try.ntmps32
      go_wp2_with (first | ((with_reducible refine gate_dst (N := 2) rfl ?_); refine box_event ?hg (N := 2) ?hd (cs := #[.int .i64 a0_0, .int .i64 a0_1, .int .i64 a0_2]) (t := 47) ?hr ?_; (case hd => rfl); (case hg => rfl); (case hr => first | (go_simp; done) | (go_simp; rfl)); intro gb277 hg w16 hbox hb; have n0_ := Aside0.mk (below_step (by repeat (first | (with_reducible first | exact HB.out | apply below_alloc | apply pw_below_drewN | apply below_drew1) | exact HB.out)) hb); have n1_ := Aside0.mk (hbox); have n2_ := Aside0.mk ((by rw [hg]; exact (below_size (by repeat (first | (with_reducible first | exact HB.out | apply below_alloc | apply pw_below_drewN | apply below_drew1) | exact HB.out))) : w.heap.size ≤ gb277)); have n3_ := Aside0.mk ((by rw [hg]; exact (below_size (by repeat (first | (with_reducible first | exact HB.out | apply below_alloc | apply pw_below_drewN | apply below_drew1) | exact HB.out))) : w.heap.size ≤ gb277)); clear HB; have HB := n0_; have BK277 := n1_; have GW277 := n2_; have GE277 := n3_; clear n0_ n1_ n2_ n3_; clear hb hbox hg) | ((with_reducible refine gate_dst (N := 3) rfl ?_); refine box_event ?hg (N := 3) ?hd (cs := #[.int .i64 a1_0, .int .i64 a1_1, .int .i64 a1_2]) (t := 47) ?hr ?_; (case hd => rfl); (case hg => rfl); (case hr => first | (go_simp; done) | (go_simp; rfl)); intro gb278 hg w17 hbox hb; have n0_ := Aside0.mk (blk_below (g := gb277) (o := .cells #[.int .i64 a0_0, .int .i64 a0_1, .int .i64 a0_2] 47 (0, 0)) (by (with_reducible repeat (first | refine blk_drewN ?_ _ | refine blk_drew ?_ | refine blk_alloc ?_ _)); exact BK277.out) hb); have n1_ := Aside0.mk (below_step (by repeat (first | (with_reducible first | exact HB.out | apply below_alloc | apply pw_below_drewN | apply below_drew1 | refine below_set ?_ GE277.out) | exact HB.out)) hb); have n2_ := Aside0.mk (hbox); have n3_ := Aside0.mk ((by rw [hg]; exact (below_size (by repeat (first | (with_reducible first | exact HB.out | apply below_alloc | apply pw_below_drewN | apply below_drew1 | refine below_set ?_ GE277.out) | exact HB.out))) : w.heap.size ≤ gb278)); have n4_ := Aside0.mk ((by rw [hg]; exact (below_size (by repeat (first | (with_reducible first | exact HB.out | apply below_alloc | apply pw_below_drewN | apply below_drew1 | refine below_set ?_ GE277.out) | exact HB.out))) : w.heap.size ≤ gb278)); have n5_ := Aside0.mk ((by rw [hg]; exact Nat.ne_of_lt (blk_lt (g := gb277) (o := .cells #[.int .i64 a0_0, .int .i64 a0_1, .int .i64 a0_2] 47 (0, 0)) (by (with_reducible repeat (first | refine blk_drewN ?_ _ | refine blk_drew ?_ | refine blk_alloc ?_ _)); exact BK277.out)) : gb277 ≠ gb278)); have n6_ := Aside0.mk ((by rw [hg]; exact Nat.ne_of_gt (blk_lt (g := gb277) (o := .cells #[.int .i64 a0_0, .int .i64 a0_1, .int .i64 a0_2] 47 (0, 0)) (by (with_reducible repeat (first | refine blk_drewN ?_ _ | refine blk_drew ?_ | refine blk_alloc ?_ _)); exact BK277.out)) : gb278 ≠ gb277)); clear BK277; clear HB; have BK277 := n0_; have HB := n1_; have BK278 := n2_; have GW278 := n3_; have GE278 := n4_; have NB277_278 := n5_; have NB278_277 := n6_; clear n0_ n1_ n2_ n3_ n4_ n5_ n6_; clear hb hbox hg; have hnb18 := NB277_278.out; have hnc18 := NB278_277.out; have hcz19_0 : w17.cell? ⟨gb277, 0, none⟩ = some (.int .i64 a0_0) := (blk_cell BK277.out 0).trans rfl; have hcz19_1 : w17.cell? ⟨gb277, 1, none⟩ = some (.int .i64 a0_1) := (blk_cell BK277.out 1).trans rfl; have hcz19_2 : w17.cell? ⟨gb277, 2, none⟩ = some (.int .i64 a0_2) := (blk_cell BK277.out 2).trans rfl; have hfz19_0 := blk_frozen BK277.out 0; have hfz19_1 := blk_frozen BK277.out 1; have hfz19_2 := blk_frozen BK277.out 2; have hcz20_0 : w17.cell? ⟨gb278, 0, none⟩ = some (.int .i64 a1_0) := (blk_cell BK278.out 0).trans rfl; have hcz20_1 : w17.cell? ⟨gb278, 1, none⟩ = some (.int .i64 a1_1) := (blk_cell BK278.out 1).trans rfl; have hcz20_2 : w17.cell? ⟨gb278, 2, none⟩ = some (.int .i64 a1_2) := (blk_cell BK278.out 2).trans rfl; have hfz20_0 := blk_frozen BK278.out 0; have hfz20_1 := blk_frozen BK278.out 1; have hfz20_2 := blk_frozen BK278.out 2))
      go_ret
      exact ⟨by first | rfl | (simp [errW_none, errW_some] <;> rfl) | (simp [*, errW_none, errW_some] <;> rfl), by repeat (first | (with_reducible first | exact HB.out | apply below_alloc | apply pw_below_drewN | apply below_drew1 | refine below_set ?_ GE277.out | refine below_set ?_ GE278.out) | exact HB.out)⟩
  · rw [if_neg c3] at H
    have c3b0 : (a0_0 == a1_0) = false := beq_eq_false_iff_ne.mpr c3
    have c3b1 : (a0_0 != a1_0) = true := bne_iff_ne.mpr c3
    obtain rfl := Option.some.inj H
    go_enter Try.func32, Try.ntmps32
    go_wp2_with (first | ((with_reducible refine gate_dst (N := 2) rfl ?_); refine box_event ?hg (N := 2) ?hd (cs := #[.int .i64 a0_0, .int .i64 a0_1, .int .i64 a0_2]) (t := 47) ?hr ?_; (case hd => rfl); (case hg => rfl); (case hr => first | (go_simp; done) | (go_simp; rfl)); intro gb277 hg w21 hbox hb; have n0_ := Aside0.mk (below_step (by repeat (first | (with_reducible first | exact HB.out | apply below_alloc | apply pw_below_drewN | apply below_drew1) | exact HB.out)) hb); have n1_ := Aside0.mk (hbox); have n2_ := Aside0.mk ((by rw [hg]; exact (below_size (by repeat (first | (with_reducible first | exact HB.out | apply below_alloc | apply pw_below_drewN | apply below_drew1) | exact HB.out))) : w.heap.size ≤ gb277)); have n3_ := Aside0.mk ((by rw [hg]; exact (below_size (by repeat (first | (with_reducible first | exact HB.out | apply below_alloc | apply pw_below_drewN | apply below_drew1) | exact HB.out))) : w.heap.size ≤ gb277)); clear HB; have HB := n0_; have BK277 := n1_; have GW277 := n2_; have GE277 := n3_; clear n0_ n1_ n2_ n3_; clear hb hbox hg) | ((with_reducible refine gate_dst (N := 3) rfl ?_); refine box_event ?hg (N := 3) ?hd (cs := #[.int .i64 a1_0, .int .i64 a1_1, .int .i64 a1_2]) (t := 47) ?hr ?_; (case hd => rfl); (case hg => rfl); (case hr => first | (go_simp; done) | (go_simp; rfl)); intro gb278 hg w22 hbox hb; have n0_ := Aside0.mk (blk_below (g := gb277) (o := .cells #[.int .i64 a0_0, .int .i64 a0_1, .int .i64 a0_2] 47 (0, 0)) (by (with_reducible repeat (first | refine blk_drewN ?_ _ | refine blk_drew ?_ | refine blk_alloc ?_ _)); exact BK277.out) hb); have n1_ := Aside0.mk (below_step (by repeat (first | (with_reducible first | exact HB.out | apply below_alloc | apply pw_below_drewN | apply below_drew1 | refine below_set ?_ GE277.out) | exact HB.out)) hb); have n2_ := Aside0.mk (hbox); have n3_ := Aside0.mk ((by rw [hg]; exact (below_size (by repeat (first | (with_reducible first | exact HB.out | apply below_alloc | apply pw_below_drewN | apply below_drew1 | refine below_set ?_ GE277.out) | exact HB.out))) : w.heap.size ≤ gb278)); have n4_ := Aside0.mk ((by rw [hg]; exact (below_size (by repeat (first | (with_reducible first | exact HB.out | apply below_alloc | apply pw_below_drewN | apply below_drew1 | refine below_set ?_ GE277.out) | exact HB.out))) : w.heap.size ≤ gb278)); have n5_ := Aside0.mk ((by rw [hg]; exact Nat.ne_of_lt (blk_lt (g := gb277) (o := .cells #[.int .i64 a0_0, .int .i64 a0_1, .int .i64 a0_2] 47 (0, 0)) (by (with_reducible repeat (first | refine blk_drewN ?_ _ | refine blk_drew ?_ | refine blk_alloc ?_ _)); exact BK277.out)) : gb277 ≠ gb278)); have n6_ := Aside0.mk ((by rw [hg]; exact Nat.ne_of_gt (blk_lt (g := gb277) (o := .cells #[.int .i64 a0_0, .int .i64 a0_1, .int .i64 a0_2] 47 (0, 0)) (by (with_reducible repeat (first | refine blk_drewN ?_ _ | refine blk_drew ?_ | refine blk_alloc ?_ _)); exact BK277.out)) : gb278 ≠ gb277)); clear BK277; clear HB; have BK277 := n0_; have HB := n1_; have BK278 := n2_; have GW278 := n3_; have GE278 := n4_; have NB277_278 := n5_; have NB278_277 := n6_; clear n0_ n1_ n2_ n3_ n4_ n5_ n6_; clear hb hbox hg; have hnb23 := NB277_278.out; have hnc23 := NB278_277.out; have hcz24_0 : w22.cell? ⟨gb277, 0, none⟩ = some (.int .i64 a0_0) := (blk_cell BK277.out 0).trans rfl; have hcz24_1 : w22.cell? ⟨gb277, 1, none⟩ = some (.int .i64 a0_1) := (blk_cell BK277.out 1).trans rfl; have hcz24_2 : w22.cell? ⟨gb277, 2, none⟩ = some (.int .i64 a0_2) := (blk_cell BK277.out 2).trans rfl; have hfz24_0 := blk_frozen BK277.out 0; have hfz24_1 := blk_frozen BK277.out 1; have hfz24_2 := blk_frozen BK277.out 2; have hcz25_0 : w22.cell? ⟨gb278, 0, none⟩ = some (.int .i64 a1_0) := (blk_cell BK278.out 0).trans rfl; have hcz25_1 : w22.cell? ⟨gb278, 1, none⟩ = some (.int .i64 a1_1) := (blk_cell BK278.out 1).trans rfl; have hcz25_2 : w22.cell? ⟨gb278, 2, none⟩ = some (.int .i64 a1_2) := (blk_cell BK278.out 2).trans rfl; have hfz25_0 := blk_frozen BK278.out 0; have hfz25_1 := blk_frozen BK278.out 1; have hfz25_2 := blk_frozen BK278.out 2))
    go_ret
    exact ⟨by first | rfl | (simp [errW_none, errW_some] <;> rfl) | (simp [*, errW_none, errW_some] <;> rfl), by repeat (first | (with_reducible first | exact HB.out | apply below_alloc | apply pw_below_drewN | apply below_drew1 | refine below_set ?_ GE277.out | refine below_set ?_ GE278.out) | exact HB.out)⟩

end Go.Proofs.Ytpoglodghpkjiaa.PA
