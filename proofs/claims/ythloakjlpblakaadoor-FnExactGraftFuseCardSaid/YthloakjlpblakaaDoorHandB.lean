/- Fuses in memory, joined. Conditions: those each lemma names. -/
import Derived.Test.YthloakjlpblakaaDoorHandA
import Derived.Deep.RegionHeld3
set_option linter.unusedVariables false
set_option linter.unusedSimpArgs false
namespace Go.Proofs.YthloakjlpblakaaDoor.PB
open Go.RowKit Go.Proofs.YthloakjlpblakaaDoorW.PrintWords Go.Proofs.YthloakjlpblakaaDoorW.PrintLast Go.Proofs.YthloakjlpblakaaDoorW.PrintMore Go.Proofs.YthloakjlpblakaaDoorX

/-- A string of bytes, by its list. -/
def BL (l : List UInt8) : ByteArray := ⟨l.toArray⟩
theorem BL_of (s : ByteArray) : ∃ l, s = BL l := ⟨s.data.toList, by cases s; simp [BL]⟩
theorem BL_size (l : List UInt8) : (BL l).size = l.length := by simp [BL, ByteArray.size]
theorem BL_toList (l : List UInt8) : (BL l).toList = l := by unfold BL; exact ByteArray.toList_mk l
theorem BL_inj {a b : List UInt8} (h : BL a = BL b) : a = b := by simpa [BL] using h
theorem BL_app (a b : List UInt8) : BL a ++ BL b = BL (a ++ b) := by
  unfold BL; apply ByteArray.ext; simp
theorem BL_extract (l : List UInt8) (a b : Nat) : (BL l).extract a b = BL ((l.drop a).take (b - a)) := by
  unfold BL; apply ByteArray.ext; simp [ByteArray.data_extract, List.extract_eq_take_drop]
theorem BL_cut (l : List UInt8) (a : Nat) : (BL l).extract a (BL l).size = BL (l.drop a) := by
  rw [BL_extract, BL_size]; congr 1; rw [List.take_of_length_le]; simp
theorem BL_bt (l : List UInt8) (n : Nat) (c : UInt8) (h : l[n]? = some c) : bt (BL l) n = (c.toNat : Int) := by
  obtain ⟨h1, h2⟩ := List.getElem?_eq_some_iff.1 h
  unfold bt BL
  have hs : (⟨l.toArray⟩ : ByteArray).size = l.length := by simp [ByteArray.size]
  rw [dif_pos (by rw [hs, Int.toNat_natCast]; exact h1)]
  congr 1
  have : (⟨l.toArray⟩ : ByteArray)[(n : Int).toNat]'(by rw [hs, Int.toNat_natCast]; exact h1) = l[n] := by
    show (l.toArray)[(n : Int).toNat]'_ = _
    simp
  rw [this, h2]
theorem fpre_BL (l : List UInt8) (c : UInt8) : fpre (BL l) c = (l.head? == some c) := by
  unfold fpre
  rw [BL_size]
  cases l with
  | nil => rfl
  | cons x l =>
    have := BL_bt (x :: l) 0 x rfl
    rw [show ((0 : Nat) : Int) = 0 from rfl] at this
    rw [this]
    have : ((x.toNat : Int) == (c.toNat : Int)) = (x == c) := by
      rw [Bool.eq_iff_iff]; simp only [beq_iff_eq]
      constructor
      · intro h; exact UInt8.toNat_inj.1 (by omega)
      · rintro rfl; rfl
    rw [this]
    simp
theorem fpre_has (s : ByteArray) (c : UInt8) : strings_HasPrefix.f s ⟨#[c]⟩ = some (fpre s c) := by
  obtain ⟨l, rfl⟩ := BL_of s
  unfold strings_HasPrefix.f stringslite_HasPrefix.f
  have h1 : ((⟨#[c]⟩ : ByteArray).size : Int) = 1 := rfl
  rw [h1, fpre_BL, BL_size]
  cases l with
  | nil => rfl
  | cons x l =>
    have hl : (1 : Int) ≤ ((x :: l).length : Int) := by simp only [List.length_cons]; omega
    rw [if_pos hl, if_pos (by omega), if_pos hl]
    rw [show ((1 : Int)).toNat = 1 from rfl, BL_extract, BL_toList, show (⟨#[c]⟩ : ByteArray) = BL [c] from rfl, BL_toList]
    simp
theorem fpre_cut (s : ByteArray) (c : UInt8) : strings_CutPrefix.f s ⟨#[c]⟩ = some (if fpre s c = true then (s.extract 1 s.size, true) else (s, false)) := by
  have h := fpre_has s c
  unfold strings_HasPrefix.f at h
  unfold strings_CutPrefix.f stringslite_CutPrefix.f
  have h2 : stringslite_HasPrefix.f s ⟨#[c]⟩ = some (fpre s c) := by
    cases h3 : stringslite_HasPrefix.f s ⟨#[c]⟩ with
    | none => rw [h3] at h; simp at h
    | some b => rw [h3] at h; simpa using h
  have h1 : ((⟨#[c]⟩ : ByteArray).size : Int) = 1 := rfl
  rw [h2, h1]
  cases hp : fpre s c with
  | false => simp
  | true =>
    have : 0 < s.size := by unfold fpre at hp; simp at hp; exact hp.1
    rw [Option.bind_some, if_pos rfl, if_pos (by omega), if_pos (by omega)]
    rfl
theorem join_none (w : World) (o : Option Nat) : Calls Tryd.prog 24 #[.pointer none, fptr o] w fun e w' => e = .returned (.pointer none) ∧ Below w.heap.size w w' := by
  cases o with
  | none =>
    show Calls Tryd.prog 24 #[.pointer none, .pointer none] w _
    go_enter Tryd.func24, Tryd.ntmps24
    go_wp2
    go_quiet (fail)
    go_wp2
    go_ret
    exact ⟨rfl, pw_below_drewN (Below.refl _ _) _⟩
  | some g =>
    show Calls Tryd.prog 24 #[.pointer none, .pointer (some ⟨g, 0, none⟩)] w _
    go_enter Tryd.func24, Tryd.ntmps24
    go_wp2
    go_quiet (fail)
    go_wp2
    go_ret
    exact ⟨rfl, pw_below_drewN (Below.refl _ _) _⟩
theorem join_none2 (w : World) (g : Nat) : Calls Tryd.prog 24 #[.pointer (some ⟨g, 0, none⟩), .pointer none] w fun e w' => e = .returned (.pointer none) ∧ Below w.heap.size w w' := by
  go_enter Tryd.func24, Tryd.ntmps24
  go_wp2
  go_quiet (fail)
  go_wp2
  go_ret
  exact ⟨rfl, pw_below_drewN (Below.refl _ _) _⟩
set_option maxHeartbeats 4000000 in
set_option maxRecDepth 100000 in
theorem join_no (k : Nat) (w : World) (ga gb : Nat) (va wa vb wb : Value) (ta tb : ByteArray) (an ad ra bn bd rb : Int)
    (hA : w.heap[ga]? = some (.cells #[va, wa, .string ta, .int .i64 an, .int .i64 ad, .int .i64 ra] 60 (0, 0)))
    (hB : w.heap[gb]? = some (.cells #[vb, wb, .string tb, .int .i64 bn, .int .i64 bd, .int .i64 rb] 60 (0, 0)))
    (h1 : 0 ≤ ra) (h2 : ra ≤ 8) (h3 : 0 ≤ rb) (h4 : rb ≤ 8) (h5 : ra + rb < 8) (r1 r2 : Int) (hf : impl_fused.f k an ad bn bd = some (r1, r2, false)) (hta : ta.size ≤ 1000) (htb : tb.size ≤ 1000) :
    Calls Tryd.prog 24 #[.pointer (some ⟨ga, 0, none⟩), .pointer (some ⟨gb, 0, none⟩)] w fun e w' => e = .returned (.pointer none) ∧ Below w.heap.size w w' := by
  have a5 : w.cell? ⟨ga, 5, none⟩ = some (.int .i64 ra) := (blk_cell hA 5).trans rfl
  have b5 : w.cell? ⟨gb, 5, none⟩ = some (.int .i64 rb) := (blk_cell hB 5).trans rfl
  have hd : decide (8 ≤ ra + rb) = false := decide_eq_false (by omega)
  have HA := Aside0.mk hA
  have HB := Aside0.mk hB
  have HF := Aside0.mk hf
  clear hf
  have la := blk_lt hA
  have lb := blk_lt hB
  clear hA hB
  go_enter Tryd.func24, Tryd.ntmps24
  go_wp2
  have hw : IntKind.i64.wrap (ra + rb) = ra + rb := IntWalk.i64_in _ (by omega)
  go_quiet (fail)
  clear hw hd
  go_wp2
  have H2 : Aside0 (Below w.heap.size w (w.drewN nq)) := ⟨pw_below_drewN (Below.refl _ _) _⟩
  have a3 : Aside0 (w.cell? ⟨ga, 3, none⟩ = some (.int .i64 an)) := ⟨(blk_cell HA.out 3).trans rfl⟩
  have a4 : Aside0 (w.cell? ⟨ga, 4, none⟩ = some (.int .i64 ad)) := ⟨(blk_cell HA.out 4).trans rfl⟩
  have b3 : Aside0 (w.cell? ⟨gb, 3, none⟩ = some (.int .i64 bn)) := ⟨(blk_cell HB.out 3).trans rfl⟩
  have b4 : Aside0 (w.cell? ⟨gb, 4, none⟩ = some (.int .i64 bd)) := ⟨(blk_cell HB.out 4).trans rfl⟩
  clear a5 b5
  generalize w.drewN nq = w2 at H2 ⊢
  have c3 : w2.cell? ⟨ga, 3, none⟩ = some (.int .i64 an) := (H2.out.cell la).trans a3.out
  have c4 : w2.cell? ⟨ga, 4, none⟩ = some (.int .i64 ad) := (H2.out.cell la).trans a4.out
  have d3 : w2.cell? ⟨gb, 3, none⟩ = some (.int .i64 bn) := (H2.out.cell lb).trans b3.out
  have d4 : w2.cell? ⟨gb, 4, none⟩ = some (.int .i64 bd) := (H2.out.cell lb).trans b4.out
  have h2 := H2.out
  go_region_held3 (fun w' => w'.cell? ⟨ga, 3, none⟩ = some (.int .i64 an) ∧ w'.cell? ⟨ga, 4, none⟩ = some (.int .i64 ad) ∧ w'.cell? ⟨gb, 3, none⟩ = some (.int .i64 bn) ∧ w'.cell? ⟨gb, 4, none⟩ = some (.int .i64 bd) ∧ Below w.heap.size w w')
    (first | (refine (fun hbb => ⟨(Below.cell hbb la).trans a3.out, (Below.cell hbb la).trans a4.out, (Below.cell hbb lb).trans b3.out, (Below.cell hbb lb).trans b4.out, hbb⟩ : Below w.heap.size w _ → _) ?_; go_split_ands; (repeat (first | assumption | exact below_step (by repeat (first | assumption | apply below_drew1 | apply below_alloc)) hb | apply below_alloc | apply below_drew1 | apply pw_below_drewN | refine below_set ?_ (by first | exact below_size (by assumption) | exact below_size (below_drew1 (by assumption)))))) | (trace_state; fail))
    (first | (go_at_call 36; refine (impl_fused.calls k an ad bn bd r1 r2 false _ HF.out).mono ?_; rintro e w9 ⟨rfl, hb⟩; obtain ⟨hcc, hff⟩ := fz_bcell hb))
  all_goals
    go_wp2
    go_split_ands
    go_ret
    exact ⟨rfl, by assumption⟩

/-- What a call that hands back a fuse leaves. -/
def FPost (w : World) (z : Option FT) (e : Ending) (w' : World) : Prop := ∃ o, e = .returned (fptr o) ∧ FRel w' o z ∧ Below w.heap.size w w'
theorem join_calls (k : Nat) (w : World) (oa ob : Option Nat) (ta tb z : Option FT) (ha : FRel w oa ta) (hb : FRel w ob tb) (h : FT.join k ta tb = some z) : Calls Tryd.prog 24 #[fptr oa, fptr ob] w (FPost w z) := by
  have none_ : z = none → (Calls Tryd.prog 24 #[fptr oa, fptr ob] w fun e w' => e = .returned (.pointer none) ∧ Below w.heap.size w w') → Calls Tryd.prog 24 #[fptr oa, fptr ob] w (FPost w z) := by
    rintro rfl hc
    exact hc.mono fun e w' ⟨h1, h2⟩ => ⟨none, h1, trivial, h2⟩
  cases oa with
  | none =>
    cases ta with
    | some a => exact ha.elim
    | none => exact none_ (by simpa [FT.join] using h.symm) (join_none w ob)
  | some ga =>
    cases ta with
    | none => exact ha.elim
    | some a =>
      cases ob with
      | none =>
        cases tb with
        | some b => exact hb.elim
        | none => exact none_ (by simpa [FT.join] using h.symm) (join_none2 w ga)
      | some gb =>
        cases tb with
        | none => exact hb.elim
        | some b =>
          obtain ⟨hA, ra⟩ := ha
          obtain ⟨hB, rb⟩ := hb
          obtain ⟨va, wa, cA⟩ := hA.cells
          obtain ⟨vb, wb, cB⟩ := hB.cells
          simp only [FT.join] at h
          by_cases hr : a.ropes + b.ropes < 8
          · rw [if_pos hr] at h
            obtain ⟨⟨n, d, ok⟩, hf, h⟩ := Option.bind_eq_some_iff.mp h
            simp only [Option.some.injEq] at h
            have sa := a.text_size
            have sb := b.text_size
            cases ok with
            | false =>
              exact none_ (by simpa using h.symm) (join_no k w ga gb va wa vb wb a.text b.text _ _ _ _ _ _ cA cB (by omega) (by omega) (by omega) (by omega) (by omega) n d hf (by omega) (by omega))
            | true =>
              rw [if_pos rfl] at h
              subst h
              refine (join_two k w ga gb va wa vb wb a.text b.text _ _ _ _ _ _ cA cB (by omega) (by omega) (by omega) (by omega) (by omega) n d hf (by omega) (by omega)).mono fun e w' ⟨g, h1, _, h2, h3⟩ => ⟨some g, h1, ⟨⟨ga, gb, ?_, hA.below h3, hB.below h3⟩, ?_⟩, h3⟩
              · rw [h2]; rfl
              · simp only [FT.ropes]; omega
          · rw [if_neg hr] at h
            exact none_ (Option.some.inj h).symm (join_many w ga gb va wa vb wb a.text b.text _ _ _ _ _ _ cA cB (by omega) (by omega) (by omega) (by omega) (by omega))
end Go.Proofs.YthloakjlpblakaaDoor.PB
