/- Fuses in memory, joined. Conditions: those each lemma names. -/
import Derived.Test.YthloakjlpblakaaVNextTimeHandA
import Derived.Deep.RegionHeld3
set_option linter.unusedVariables false
set_option linter.unusedSimpArgs false
namespace Go.Proofs.Ythloakjlpblakaa.PB
open Go.RowKit Go.Proofs.YthloakjlpblakaaW.PrintWords Go.Proofs.YthloakjlpblakaaW.PrintLast Go.Proofs.YthloakjlpblakaaW.PrintMore Go.Proofs.YthloakjlpblakaaX

theorem join_none (w : World) (o : Option Nat) : Calls Try.prog 75 #[.pointer none, fptr o] w fun e w' => e = .returned (.pointer none) ∧ Below w.heap.size w w' := by
  cases o with
  | none =>
    show Calls Try.prog 75 #[.pointer none, .pointer none] w _
    go_enter Try.func75, Try.ntmps75
    go_wp2
    go_quiet (fail)
    go_wp2
    go_ret
    exact ⟨rfl, pw_below_drewN (Below.refl _ _) _⟩
  | some g =>
    show Calls Try.prog 75 #[.pointer none, .pointer (some ⟨g, 0, none⟩)] w _
    go_enter Try.func75, Try.ntmps75
    go_wp2
    go_quiet (fail)
    go_wp2
    go_ret
    exact ⟨rfl, pw_below_drewN (Below.refl _ _) _⟩
theorem join_none2 (w : World) (g : Nat) : Calls Try.prog 75 #[.pointer (some ⟨g, 0, none⟩), .pointer none] w fun e w' => e = .returned (.pointer none) ∧ Below w.heap.size w w' := by
  go_enter Try.func75, Try.ntmps75
  go_wp2
  go_quiet (fail)
  go_wp2
  go_ret
  exact ⟨rfl, pw_below_drewN (Below.refl _ _) _⟩
set_option maxHeartbeats 4000000 in
set_option maxRecDepth 100000 in
theorem join_no (k : Nat) (w : World) (ga gb : Nat) (va wa vb wb : Value) (ta tb : ByteArray) (an ad ra bn bd rb : Int)
    (hA : w.heap[ga]? = some (.cells #[va, wa, .string ta, .int .i64 an, .int .i64 ad, .int .i64 ra] 66 (0, 0)))
    (hB : w.heap[gb]? = some (.cells #[vb, wb, .string tb, .int .i64 bn, .int .i64 bd, .int .i64 rb] 66 (0, 0)))
    (h1 : 0 ≤ ra) (h2 : ra ≤ 8) (h3 : 0 ≤ rb) (h4 : rb ≤ 8) (h5 : ra + rb < 8) (r1 r2 : Int) (hf : impl_fused.f k an ad bn bd = some (r1, r2, false)) (hta : ta.size ≤ 1000) (htb : tb.size ≤ 1000) :
    Calls Try.prog 75 #[.pointer (some ⟨ga, 0, none⟩), .pointer (some ⟨gb, 0, none⟩)] w fun e w' => e = .returned (.pointer none) ∧ Below w.heap.size w w' := by
  have a5 : w.cell? ⟨ga, 5, none⟩ = some (.int .i64 ra) := (blk_cell hA 5).trans rfl
  have b5 : w.cell? ⟨gb, 5, none⟩ = some (.int .i64 rb) := (blk_cell hB 5).trans rfl
  have hd : decide (8 ≤ ra + rb) = false := decide_eq_false (by omega)
  have HA := Aside0.mk hA
  have HB := Aside0.mk hB
  have HF := Aside0.mk hf
  clear hf
  have la := blk_lt hA
  have lb := blk_lt hB
  clear hA hB
  go_enter Try.func75, Try.ntmps75
  go_wp2
  have hw : IntKind.i64.wrap (ra + rb) = ra + rb := IntWalk.i64_in _ (by omega)
  go_quiet (fail)
  clear hw hd
  go_wp2
  have H2 : Aside0 (Below w.heap.size w (w.drewN nq)) := ⟨pw_below_drewN (Below.refl _ _) _⟩
  have a3 : Aside0 (w.cell? ⟨ga, 3, none⟩ = some (.int .i64 an)) := ⟨(blk_cell HA.out 3).trans rfl⟩
  have a4 : Aside0 (w.cell? ⟨ga, 4, none⟩ = some (.int .i64 ad)) := ⟨(blk_cell HA.out 4).trans rfl⟩
  have b3 : Aside0 (w.cell? ⟨gb, 3, none⟩ = some (.int .i64 bn)) := ⟨(blk_cell HB.out 3).trans rfl⟩
  have b4 : Aside0 (w.cell? ⟨gb, 4, none⟩ = some (.int .i64 bd)) := ⟨(blk_cell HB.out 4).trans rfl⟩
  clear a5 b5
  generalize w.drewN nq = w2 at H2 ⊢
  have c3 : w2.cell? ⟨ga, 3, none⟩ = some (.int .i64 an) := (H2.out.cell la).trans a3.out
  have c4 : w2.cell? ⟨ga, 4, none⟩ = some (.int .i64 ad) := (H2.out.cell la).trans a4.out
  have d3 : w2.cell? ⟨gb, 3, none⟩ = some (.int .i64 bn) := (H2.out.cell lb).trans b3.out
  have d4 : w2.cell? ⟨gb, 4, none⟩ = some (.int .i64 bd) := (H2.out.cell lb).trans b4.out
  have h2 := H2.out
  go_region_held3 (fun w' => w'.cell? ⟨ga, 3, none⟩ = some (.int .i64 an) ∧ w'.cell? ⟨ga, 4, none⟩ = some (.int .i64 ad) ∧ w'.cell? ⟨gb, 3, none⟩ = some (.int .i64 bn) ∧ w'.cell? ⟨gb, 4, none⟩ = some (.int .i64 bd) ∧ Below w.heap.size w w')
    (first | (refine (fun hbb => ⟨(Below.cell hbb la).trans a3.out, (Below.cell hbb la).trans a4.out, (Below.cell hbb lb).trans b3.out, (Below.cell hbb lb).trans b4.out, hbb⟩ : Below w.heap.size w _ → _) ?_; go_split_ands; (repeat (first | assumption | exact below_step (by repeat (first | assumption | apply below_drew1 | apply below_alloc)) hb | apply below_alloc | apply below_drew1 | apply pw_below_drewN | refine below_set ?_ (by first | exact below_size (by assumption) | exact below_size (below_drew1 (by assumption)))))) | (trace_state; fail))
    (first | (go_at_call 87; refine (impl_fused.calls k an ad bn bd r1 r2 false _ HF.out).mono ?_; rintro e w9 ⟨rfl, hb⟩; obtain ⟨hcc, hff⟩ := fz_bcell hb))
  all_goals
    go_wp2
    go_split_ands
    go_ret
    exact ⟨rfl, by assumption⟩

/-- What a call that hands back a fuse leaves. -/
def FPost (w : World) (z : Option FT) (e : Ending) (w' : World) : Prop := ∃ o, e = .returned (fptr o) ∧ FRel w' o z ∧ Below w.heap.size w w'
theorem join_calls (k : Nat) (w : World) (oa ob : Option Nat) (ta tb z : Option FT) (ha : FRel w oa ta) (hb : FRel w ob tb) (h : FT.join k ta tb = some z) : Calls Try.prog 75 #[fptr oa, fptr ob] w (FPost w z) := by
  have none_ : z = none → (Calls Try.prog 75 #[fptr oa, fptr ob] w fun e w' => e = .returned (.pointer none) ∧ Below w.heap.size w w') → Calls Try.prog 75 #[fptr oa, fptr ob] w (FPost w z) := by
    rintro rfl hc
    exact hc.mono fun e w' ⟨h1, h2⟩ => ⟨none, h1, trivial, h2⟩
  cases oa with
  | none =>
    cases ta with
    | some a => exact ha.elim
    | none => exact none_ (by simpa [FT.join] using h.symm) (join_none w ob)
  | some ga =>
    cases ta with
    | none => exact ha.elim
    | some a =>
      cases ob with
      | none =>
        cases tb with
        | some b => exact hb.elim
        | none => exact none_ (by simpa [FT.join] using h.symm) (join_none2 w ga)
      | some gb =>
        cases tb with
        | none => exact hb.elim
        | some b =>
          obtain ⟨hA, ra⟩ := ha
          obtain ⟨hB, rb⟩ := hb
          obtain ⟨va, wa, cA⟩ := hA.cells
          obtain ⟨vb, wb, cB⟩ := hB.cells
          simp only [FT.join] at h
          by_cases hr : a.ropes + b.ropes < 8
          · rw [if_pos hr] at h
            obtain ⟨⟨n, d, ok⟩, hf, h⟩ := Option.bind_eq_some_iff.mp h
            simp only [Option.some.injEq] at h
            have sa := a.text_size
            have sb := b.text_size
            cases ok with
            | false =>
              exact none_ (by simpa using h.symm) (join_no k w ga gb va wa vb wb a.text b.text _ _ _ _ _ _ cA cB (by omega) (by omega) (by omega) (by omega) (by omega) n d hf (by omega) (by omega))
            | true =>
              rw [if_pos rfl] at h
              subst h
              refine (join_two k w ga gb va wa vb wb a.text b.text _ _ _ _ _ _ cA cB (by omega) (by omega) (by omega) (by omega) (by omega) n d hf (by omega) (by omega)).mono fun e w' ⟨g, h1, _, h2, h3⟩ => ⟨some g, h1, ⟨⟨ga, gb, ?_, hA.below h3, hB.below h3⟩, ?_⟩, h3⟩
              · rw [h2]; rfl
              · simp only [FT.ropes]; omega
          · rw [if_neg hr] at h
            exact none_ (Option.some.inj h).symm (join_many w ga gb va wa vb wb a.text b.text _ _ _ _ _ _ cA cB (by omega) (by omega) (by omega) (by omega) (by omega))
end Go.Proofs.Ythloakjlpblakaa.PB
