import Derived.Test.YtikpbopjhkohmaaVThingsWalkB
namespace Go.Proofs.Ytikpbopjhkohmaa.PT
open Go.RowKit Go.Proofs.YtikpbopjhkohmaaW.PrintWords Go.Proofs.YtikpbopjhkohmaaW.PrintLast Go.Proofs.YtikpbopjhkohmaaW.PrintMore Go.Proofs.YtikpbopjhkohmaaX
attribute [local go_sem] max2_int min2_int max_two min_two
set_option linter.unusedVariables false
set_option linter.unusedSimpArgs false

attribute [local go_sem high] eqA45 eqA51
variable {k : Nat} {l0 : List Int} {list done other behind sm passed at_ before : List S45} {acts poss : List Int} {act many d next kind minutes f1 f2 f3 f4 all : Int} {left : List S51} {ok one two three four five : Bool} {now : Nat → List S45} {outs : Nat → Bool}
set_option maxHeartbeats 4000000 in
set_option maxRecDepth 100000 in
theorem law_walk (F : Told k l0 ⟨list, done, other, behind, sm, passed, at_, before, acts, poss, act, many, d, next, kind, minutes, f1, f2, f3, f4, all, left, ok, one, two, three, four, five, now, outs⟩) (A0 : Option Addr) (c0 : Nat) (w : World) (hr0 : Kd.C (Kd.int .u8) w A0 l0.length l0) (hc0 : l0.length ≤ c0) :
    Calls Try.prog 3 #[.slice A0 l0.length c0] w fun e w' => e = .returned (.bool true) ∧ Below w.heap.size w w' := by
  have hu45 := Try.underlying45
  have hu51 := Try.underlying51
  have R0 := Aside0.mk hr0
  have C0 := Aside0.mk hc0
  have HF := Aside0.mk F
  have HB := Aside0.mk (Below.refl w.heap.size w)
  clear hr0 hc0 F
  have eok := bne_self ok
  have eone := bne_self one
  have etwo := bne_self two
  have ethree := bne_self three
  have efour := bne_self four
  have efive := bne_self five
  go_enter Try.func3, Try.ntmps3
  go_upto_region 10 with (first
    | (go_at_call 4; (with_reducible refine (rBig_b _ _ l0 false _ R0.out C0.out HF.out.big).mono ?_); rintro e w1 ⟨rfl, hb⟩; replace R0 := Aside0.mk (Kd.C_below R0.out hb); replace HB := Aside0.mk (below_step HB.out hb); clear hb)
    | (go_at_call 5; (with_reducible refine (spec_DrawDoAct.calls k _ _ l0 list act _ R0.out C0.out HF.out.draw).mono ?_); rintro e w2 ⟨_, rfl, hR, hb⟩; obtain ⟨A3, c3, rfl⟩ := Kd.R_slice hR; replace R0 := Aside0.mk (Kd.C_below R0.out hb); replace HB := Aside0.mk (below_step HB.out hb); have R3 := Aside0.mk (Kd.R_reads' hR).2.2; have C3 := Aside0.mk (Kd.R_reads' hR).2.1; clear hR; clear hb)
    | (go_at_call 6; (with_reducible refine (impl_DoAct.calls k _ _ list act done ok _ R3.out C3.out HF.out.do1).mono ?_); rintro e w3 ⟨_, rfl, hR, hb⟩; obtain ⟨A5, c5, rfl⟩ := Kd.R_slice hR; replace R0 := Aside0.mk (Kd.C_below R0.out hb); replace R3 := Aside0.mk (Kd.C_below R3.out hb); replace HB := Aside0.mk (below_step HB.out hb); have R5 := Aside0.mk (Kd.R_reads' hR).2.2; have C5 := Aside0.mk (Kd.R_reads' hR).2.1; clear hR; clear hb)
    | (go_at_call 7; (with_reducible refine (spec_DoAct.calls k _ _ list act done ok _ R3.out C3.out HF.out.do2).mono ?_); rintro e w4 ⟨_, rfl, hR, hb⟩; obtain ⟨A7, c7, rfl⟩ := Kd.R_slice hR; replace R0 := Aside0.mk (Kd.C_below R0.out hb); replace R3 := Aside0.mk (Kd.C_below R3.out hb); replace R5 := Aside0.mk (Kd.C_below R5.out hb); replace HB := Aside0.mk (below_step HB.out hb); have R7 := Aside0.mk (Kd.R_reads' hR).2.2; have C7 := Aside0.mk (Kd.R_reads' hR).2.1; clear hR; clear hb)
    | (go_at_call 8; (with_reducible refine (rThings_b k _ _ done _ _ done true _ R5.out C5.out R7.out C7.out HF.out.eq1).mono ?_); rintro e w5 ⟨rfl, hb⟩; replace R0 := Aside0.mk (Kd.C_below R0.out hb); replace R3 := Aside0.mk (Kd.C_below R3.out hb); replace R5 := Aside0.mk (Kd.C_below R5.out hb); replace R7 := Aside0.mk (Kd.C_below R7.out hb); replace HB := Aside0.mk (below_step HB.out hb); clear hb)
    | (go_at_call 9; clear R5 C5 R7 C7; (with_reducible refine (impl_PossibleActs.calls k _ _ list poss one _ R3.out C3.out HF.out.ps1).mono ?_); rintro e w6 ⟨_, rfl, hR, hb⟩; obtain ⟨A9, c9, rfl⟩ := Kd.R_slice hR; replace R0 := Aside0.mk (Kd.C_below R0.out hb); replace R3 := Aside0.mk (Kd.C_below R3.out hb); replace HB := Aside0.mk (below_step HB.out hb); have R9 := Aside0.mk (Kd.R_reads' hR).2.2; have C9 := Aside0.mk (Kd.R_reads' hR).2.1; clear hR; clear hb)
    | (go_at_call 10; (with_reducible refine (spec_PossibleActs.calls k _ _ list poss one _ R3.out C3.out HF.out.ps2).mono ?_); rintro e w7 ⟨_, rfl, hR, hb⟩; obtain ⟨A11, c11, rfl⟩ := Kd.R_slice hR; replace R0 := Aside0.mk (Kd.C_below R0.out hb); replace R3 := Aside0.mk (Kd.C_below R3.out hb); replace R9 := Aside0.mk (Kd.C_below R9.out hb); replace HB := Aside0.mk (below_step HB.out hb); have R11 := Aside0.mk (Kd.R_reads' hR).2.2; have C11 := Aside0.mk (Kd.R_reads' hR).2.1; clear hR; clear hb))
  go_cut [120] from 444 to 0 (fun v120 wc => v120 = .bool false ∧ Aside0 (Kd.C (Kd.int .u8) wc A0 l0.length l0) ∧ Aside0 (Kd.C (k45) wc A3 list.length list) ∧ Aside0 (Below w.heap.size w wc))
  case first =>
    have HA := Aside0.mk HF.out.has
    have HN := HF.out.hasnt
    cases one with
    | false =>
      obtain rfl := HN rfl
      clear HN
      go_wp2_with (first
        | (go_at_call 11; (with_reducible refine (impl_AreThings.calls k _ _ list _ _ R3.out C3.out HF.out.are).mono ?_); rintro e w8 ⟨rfl, hb⟩; replace R0 := Aside0.mk (Kd.C_below R0.out hb); replace R3 := Aside0.mk (Kd.C_below R3.out hb); replace R9 := Aside0.mk (Kd.C_below R9.out hb); replace R11 := Aside0.mk (Kd.C_below R11.out hb); replace HB := Aside0.mk (below_step HB.out hb); clear hb)
        | (go_at_call 12; (with_reducible refine (rInts_b k _ _ poss _ _ poss true _ R9.out C9.out R11.out C11.out HF.out.ints).mono ?_); rintro e w9 ⟨rfl, hb⟩; replace R0 := Aside0.mk (Kd.C_below R0.out hb); replace R3 := Aside0.mk (Kd.C_below R3.out hb); replace R9 := Aside0.mk (Kd.C_below R9.out hb); replace R11 := Aside0.mk (Kd.C_below R11.out hb); replace HB := Aside0.mk (below_step HB.out hb); clear hb))
      go_meet
      case rel => exact ⟨rfl, R0, R3, HB⟩
    | true =>
      clear HN
      replace HA := Aside0.mk (HA.out rfl)
      go_wp2_with (first
        | (go_at_call 11; (with_reducible refine (impl_AreThings.calls k _ _ list _ _ R3.out C3.out HF.out.are).mono ?_); rintro e w8 ⟨rfl, hb⟩; replace R0 := Aside0.mk (Kd.C_below R0.out hb); replace R3 := Aside0.mk (Kd.C_below R3.out hb); replace R9 := Aside0.mk (Kd.C_below R9.out hb); replace R11 := Aside0.mk (Kd.C_below R11.out hb); replace HB := Aside0.mk (below_step HB.out hb); clear hb)
        | (go_at_call 12; (with_reducible refine (rInts_b k _ _ poss _ _ poss true _ R9.out C9.out R11.out C11.out HF.out.ints).mono ?_); rintro e w9 ⟨rfl, hb⟩; replace R0 := Aside0.mk (Kd.C_below R0.out hb); replace R3 := Aside0.mk (Kd.C_below R3.out hb); replace R9 := Aside0.mk (Kd.C_below R9.out hb); replace R11 := Aside0.mk (Kd.C_below R11.out hb); replace HB := Aside0.mk (below_step HB.out hb); clear hb)
        | (go_at_call 13; (with_reducible refine (rHas_b k _ _ poss act ok _ R9.out C9.out HA.out).mono ?_); rintro e w10 ⟨rfl, hb⟩; replace R0 := Aside0.mk (Kd.C_below R0.out hb); replace R3 := Aside0.mk (Kd.C_below R3.out hb); replace R9 := Aside0.mk (Kd.C_below R9.out hb); replace R11 := Aside0.mk (Kd.C_below R11.out hb); replace HB := Aside0.mk (below_step HB.out hb); clear hb))
      go_meet
      case rel => exact ⟨rfl, R0, R3, HB⟩
  case rest =>
    clear HB R0 R3 R9 R11 C9 C11
    obtain ⟨rfl, R0, R3, HB⟩ := hcut
    go_upto_region 17 with (first
      | (go_at_call 14; (with_reducible refine (spec_DrawDoActs.calls k _ _ l0 other acts _ R0.out C0.out HF.out.draw2).mono ?_); rintro e w11 ⟨_, _, rfl, hR, hS, hb⟩; obtain ⟨A13, c13, rfl⟩ := Kd.R_slice hR; obtain ⟨A14, c14, rfl⟩ := Kd.R_slice hS; replace R0 := Aside0.mk (Kd.C_below R0.out hb); replace R3 := Aside0.mk (Kd.C_below R3.out hb); replace HB := Aside0.mk (below_step HB.out hb); have R13 := Aside0.mk (Kd.R_reads' hR).2.2; have C13 := Aside0.mk (Kd.R_reads' hR).2.1; clear hR; have R14 := Aside0.mk (Kd.R_reads' hS).2.2; have C14 := Aside0.mk (Kd.R_reads' hS).2.1; clear hS; clear hb)
      | (go_at_call 15; (with_reducible refine (impl_DoActs.calls k _ _ other _ _ acts behind many two _ R13.out C13.out R14.out C14.out HF.out.acts1).mono ?_); rintro e w12 ⟨_, rfl, hR, hb⟩; obtain ⟨A15, c15, rfl⟩ := Kd.R_slice hR; replace R0 := Aside0.mk (Kd.C_below R0.out hb); replace R3 := Aside0.mk (Kd.C_below R3.out hb); replace R13 := Aside0.mk (Kd.C_below R13.out hb); replace R14 := Aside0.mk (Kd.C_below R14.out hb); replace HB := Aside0.mk (below_step HB.out hb); have R15 := Aside0.mk (Kd.R_reads' hR).2.2; have C15 := Aside0.mk (Kd.R_reads' hR).2.1; clear hR; clear hb)
      | (go_at_call 16; (with_reducible refine (spec_DoActs.calls k _ _ other _ _ acts behind many two _ R13.out C13.out R14.out C14.out HF.out.acts2).mono ?_); rintro e w13 ⟨_, rfl, hR, hb⟩; obtain ⟨A18, c18, rfl⟩ := Kd.R_slice hR; replace R0 := Aside0.mk (Kd.C_below R0.out hb); replace R3 := Aside0.mk (Kd.C_below R3.out hb); replace R13 := Aside0.mk (Kd.C_below R13.out hb); replace R14 := Aside0.mk (Kd.C_below R14.out hb); replace R15 := Aside0.mk (Kd.C_below R15.out hb); replace HB := Aside0.mk (below_step HB.out hb); have R18 := Aside0.mk (Kd.R_reads' hR).2.2; have C18 := Aside0.mk (Kd.R_reads' hR).2.1; clear hR; clear hb)
      | (go_at_call 8; (with_reducible refine (rThings_b k _ _ behind _ _ behind true _ R15.out C15.out R18.out C18.out HF.out.eq2).mono ?_); rintro e w14 ⟨rfl, hb⟩; replace R0 := Aside0.mk (Kd.C_below R0.out hb); replace R3 := Aside0.mk (Kd.C_below R3.out hb); replace R13 := Aside0.mk (Kd.C_below R13.out hb); replace R14 := Aside0.mk (Kd.C_below R14.out hb); replace R15 := Aside0.mk (Kd.C_below R15.out hb); replace R18 := Aside0.mk (Kd.C_below R18.out hb); replace HB := Aside0.mk (below_step HB.out hb); clear hb))
    clear R18 C18
    go_upto_region 26 with (first
      | (go_at_call 17; (with_reducible refine (spec_DrawPassQuarters.calls k _ _ l0 sm d _ R0.out C0.out HF.out.draw3).mono ?_); rintro e w15 ⟨_, rfl, hR, hb⟩; obtain ⟨A21, c21, rfl⟩ := Kd.R_slice hR; replace R0 := Aside0.mk (Kd.C_below R0.out hb); replace R3 := Aside0.mk (Kd.C_below R3.out hb); replace R13 := Aside0.mk (Kd.C_below R13.out hb); replace R14 := Aside0.mk (Kd.C_below R14.out hb); replace R15 := Aside0.mk (Kd.C_below R15.out hb); replace HB := Aside0.mk (below_step HB.out hb); have R21 := Aside0.mk (Kd.R_reads' hR).2.2; have C21 := Aside0.mk (Kd.R_reads' hR).2.1; clear hR; clear hb)
      | (go_at_call 18; (with_reducible refine (impl_PassQuarters.calls k _ _ sm d passed three _ R21.out C21.out HF.out.pass1).mono ?_); rintro e w16 ⟨_, rfl, hR, hb⟩; obtain ⟨A23, c23, rfl⟩ := Kd.R_slice hR; replace R0 := Aside0.mk (Kd.C_below R0.out hb); replace R3 := Aside0.mk (Kd.C_below R3.out hb); replace R13 := Aside0.mk (Kd.C_below R13.out hb); replace R14 := Aside0.mk (Kd.C_below R14.out hb); replace R15 := Aside0.mk (Kd.C_below R15.out hb); replace R21 := Aside0.mk (Kd.C_below R21.out hb); replace HB := Aside0.mk (below_step HB.out hb); have R23 := Aside0.mk (Kd.R_reads' hR).2.2; have C23 := Aside0.mk (Kd.R_reads' hR).2.1; clear hR; clear hb)
      | (go_at_call 19; (with_reducible refine (spec_PassQuarters.calls k _ _ sm d passed three _ R21.out C21.out HF.out.pass2).mono ?_); rintro e w17 ⟨_, rfl, hR, hb⟩; obtain ⟨A25, c25, rfl⟩ := Kd.R_slice hR; replace R0 := Aside0.mk (Kd.C_below R0.out hb); replace R3 := Aside0.mk (Kd.C_below R3.out hb); replace R13 := Aside0.mk (Kd.C_below R13.out hb); replace R14 := Aside0.mk (Kd.C_below R14.out hb); replace R15 := Aside0.mk (Kd.C_below R15.out hb); replace R21 := Aside0.mk (Kd.C_below R21.out hb); replace R23 := Aside0.mk (Kd.C_below R23.out hb); replace HB := Aside0.mk (below_step HB.out hb); have R25 := Aside0.mk (Kd.R_reads' hR).2.2; have C25 := Aside0.mk (Kd.R_reads' hR).2.1; clear hR; clear hb)
      | (go_at_call 8; (with_reducible refine (rThings_b k _ _ passed _ _ passed true _ R23.out C23.out R25.out C25.out HF.out.eq3).mono ?_); rintro e w18 ⟨rfl, hb⟩; replace R0 := Aside0.mk (Kd.C_below R0.out hb); replace R3 := Aside0.mk (Kd.C_below R3.out hb); replace R13 := Aside0.mk (Kd.C_below R13.out hb); replace R14 := Aside0.mk (Kd.C_below R14.out hb); replace R15 := Aside0.mk (Kd.C_below R15.out hb); replace R21 := Aside0.mk (Kd.C_below R21.out hb); replace R23 := Aside0.mk (Kd.C_below R23.out hb); replace R25 := Aside0.mk (Kd.C_below R25.out hb); replace HB := Aside0.mk (below_step HB.out hb); clear hb)
      | (go_at_call 20; (with_reducible refine (impl_NextQuarter.calls k _ _ sm next four _ R21.out C21.out HF.out.next1).mono ?_); rintro e w19 ⟨rfl, hb⟩; replace R0 := Aside0.mk (Kd.C_below R0.out hb); replace R3 := Aside0.mk (Kd.C_below R3.out hb); replace R13 := Aside0.mk (Kd.C_below R13.out hb); replace R14 := Aside0.mk (Kd.C_below R14.out hb); replace R15 := Aside0.mk (Kd.C_below R15.out hb); replace R21 := Aside0.mk (Kd.C_below R21.out hb); replace R23 := Aside0.mk (Kd.C_below R23.out hb); replace HB := Aside0.mk (below_step HB.out hb); clear hb)
      | (go_at_call 21; (with_reducible refine (spec_NextQuarter.calls k _ _ sm next four _ R21.out C21.out HF.out.next2).mono ?_); rintro e w20 ⟨rfl, hb⟩; replace R0 := Aside0.mk (Kd.C_below R0.out hb); replace R3 := Aside0.mk (Kd.C_below R3.out hb); replace R13 := Aside0.mk (Kd.C_below R13.out hb); replace R14 := Aside0.mk (Kd.C_below R14.out hb); replace R15 := Aside0.mk (Kd.C_below R15.out hb); replace R21 := Aside0.mk (Kd.C_below R21.out hb); replace R23 := Aside0.mk (Kd.C_below R23.out hb); replace HB := Aside0.mk (below_step HB.out hb); clear hb))
    clear R25 C25
    go_upto_region 29 with (first
      | (go_at_call 22; (with_reducible refine (spec_DrawNewThing.calls _ _ l0 kind minutes _ R0.out C0.out HF.out.draw4).mono ?_); rintro e w21 ⟨rfl, hb⟩; replace R0 := Aside0.mk (Kd.C_below R0.out hb); replace R3 := Aside0.mk (Kd.C_below R3.out hb); replace R13 := Aside0.mk (Kd.C_below R13.out hb); replace R14 := Aside0.mk (Kd.C_below R14.out hb); replace R15 := Aside0.mk (Kd.C_below R15.out hb); replace R21 := Aside0.mk (Kd.C_below R21.out hb); replace R23 := Aside0.mk (Kd.C_below R23.out hb); replace HB := Aside0.mk (below_step HB.out hb); clear hb)
      | (go_at_call 23; (with_reducible refine (impl_NewThing.calls k kind minutes f1 f2 f3 f4 five _ HF.out.new1).mono ?_); rintro e w22 ⟨rfl, hb⟩; replace R0 := Aside0.mk (Kd.C_below R0.out hb); replace R3 := Aside0.mk (Kd.C_below R3.out hb); replace R13 := Aside0.mk (Kd.C_below R13.out hb); replace R14 := Aside0.mk (Kd.C_below R14.out hb); replace R15 := Aside0.mk (Kd.C_below R15.out hb); replace R21 := Aside0.mk (Kd.C_below R21.out hb); replace R23 := Aside0.mk (Kd.C_below R23.out hb); replace HB := Aside0.mk (below_step HB.out hb); clear hb)
      | (go_at_call 24; (with_reducible refine (spec_NewThing.calls k kind minutes f1 f2 f3 f4 five _ HF.out.new2).mono ?_); rintro e w23 ⟨rfl, hb1⟩; have BK33 := Aside0.mk (blk_below (blk_new w22 (.cells #[.int .i64 f1, .int .i64 f2, .int .i64 f3, .int .i64 f4] 45)) hb1); have hb := below_step (below_alloc (Below.refl w22.heap.size w22) _) hb1; clear hb1; replace R0 := Aside0.mk (Kd.C_below R0.out hb); replace R3 := Aside0.mk (Kd.C_below R3.out hb); replace R13 := Aside0.mk (Kd.C_below R13.out hb); replace R14 := Aside0.mk (Kd.C_below R14.out hb); replace R15 := Aside0.mk (Kd.C_below R15.out hb); replace R21 := Aside0.mk (Kd.C_below R21.out hb); replace R23 := Aside0.mk (Kd.C_below R23.out hb); replace HB := Aside0.mk (below_step HB.out hb); clear hb))
    (try simp only [Act.put, List.setIfInBounds_toArray, List.set_cons_zero, List.set_cons_succ])
    have hx := Aside0.mk (below_alloc (Below.refl w23.heap.size w23) (.cells #[.int .i64 f1, .int .i64 f2, .int .i64 f3, .int .i64 f4] 45))
    have P33 := Aside0.mk (blk_alloc BK33.out (.cells #[.int .i64 f1, .int .i64 f2, .int .i64 f3, .int .i64 f4] 45))
    have P35 := Aside0.mk (blk_new w23 (.cells #[.int .i64 f1, .int .i64 f2, .int .i64 f3, .int .i64 f4] 45))
    generalize w23.alloc (.cells #[.int .i64 f1, .int .i64 f2, .int .i64 f3, .int .i64 f4] 45) = wz at hx P33 P35 ⊢
    generalize w23.heap.size = g35 at P35 ⊢
    generalize w22.heap.size = g33 at P33 ⊢
    clear BK33
    go_cut [222] from 444 to 0 (fun v222 wc => v222 = .bool false ∧ Aside0 (Kd.C (k45) wc A3 list.length list) ∧ Aside0 (Kd.C (k45) wc A13 other.length other) ∧ Aside0 (Kd.C (Kd.int .i64) wc A14 acts.length acts) ∧ Aside0 (Kd.C (k45) wc A15 behind.length behind) ∧ Aside0 (Kd.C (k45) wc A21 sm.length sm) ∧ Aside0 (Kd.C (k45) wc A23 passed.length passed) ∧ Aside0 (Below w.heap.size w wc))
    case first =>
      have u33_0 : wz.cell? ⟨g33, 0, none⟩ = some (.int .i64 f1) := (blk_cell P33.out 0).trans rfl
      have u33_1 : wz.cell? ⟨g33, 1, none⟩ = some (.int .i64 f2) := (blk_cell P33.out 1).trans rfl
      have u33_2 : wz.cell? ⟨g33, 2, none⟩ = some (.int .i64 f3) := (blk_cell P33.out 2).trans rfl
      have u33_3 : wz.cell? ⟨g33, 3, none⟩ = some (.int .i64 f4) := (blk_cell P33.out 3).trans rfl
      have u35_0 : wz.cell? ⟨g35, 0, none⟩ = some (.int .i64 f1) := (blk_cell P35.out 0).trans rfl
      have u35_1 : wz.cell? ⟨g35, 1, none⟩ = some (.int .i64 f2) := (blk_cell P35.out 1).trans rfl
      have u35_2 : wz.cell? ⟨g35, 2, none⟩ = some (.int .i64 f3) := (blk_cell P35.out 2).trans rfl
      have u35_3 : wz.cell? ⟨g35, 3, none⟩ = some (.int .i64 f4) := (blk_cell P35.out 3).trans rfl
      have en : (!(f1 == f1) || (!(f2 == f2) || (!(f3 == f3) || (!(f4 == f4))))) = false := by simp
      go_wp2
      go_meet
      case rel => exact ⟨rfl, ⟨Kd.C_below R3.out hx.out⟩, ⟨Kd.C_below R13.out hx.out⟩, ⟨Kd.C_below R14.out hx.out⟩, ⟨Kd.C_below R15.out hx.out⟩, ⟨Kd.C_below R21.out hx.out⟩, ⟨Kd.C_below R23.out hx.out⟩, ⟨below_step HB.out hx.out⟩⟩
    case rest =>
      clear hx P33 P35 R3 R13 R14 R15 R21 R23
      clear HB
      obtain ⟨rfl, R3, R13, R14, R15, R21, R23, HB⟩ := hcut
      go_upto_region 35 with (first
        | (go_at_call 25; (with_reducible refine (impl_LeftMinutes.calls k _ _ list left one _ R3.out C3.out HF.out.left1).mono ?_); rintro e w24 ⟨_, rfl, hR, hb⟩; obtain ⟨A37, c37, rfl⟩ := Kd.R_slice hR; replace R3 := Aside0.mk (Kd.C_below R3.out hb); replace R13 := Aside0.mk (Kd.C_below R13.out hb); replace R14 := Aside0.mk (Kd.C_below R14.out hb); replace R15 := Aside0.mk (Kd.C_below R15.out hb); replace R21 := Aside0.mk (Kd.C_below R21.out hb); replace R23 := Aside0.mk (Kd.C_below R23.out hb); replace HB := Aside0.mk (below_step HB.out hb); have R37 := Aside0.mk (Kd.R_reads' hR).2.2; have C37 := Aside0.mk (Kd.R_reads' hR).2.1; clear hR; clear hb)
        | (go_at_call 26; (with_reducible refine (spec_LeftMinutes.calls k _ _ list left one _ R3.out C3.out HF.out.left2).mono ?_); rintro e w25 ⟨_, rfl, hR, hb⟩; obtain ⟨A39, c39, rfl⟩ := Kd.R_slice hR; replace R3 := Aside0.mk (Kd.C_below R3.out hb); replace R13 := Aside0.mk (Kd.C_below R13.out hb); replace R14 := Aside0.mk (Kd.C_below R14.out hb); replace R15 := Aside0.mk (Kd.C_below R15.out hb); replace R21 := Aside0.mk (Kd.C_below R21.out hb); replace R23 := Aside0.mk (Kd.C_below R23.out hb); replace R37 := Aside0.mk (Kd.C_below R37.out hb); replace HB := Aside0.mk (below_step HB.out hb); have R39 := Aside0.mk (Kd.R_reads' hR).2.2; have C39 := Aside0.mk (Kd.R_reads' hR).2.1; clear hR; clear hb))
      go_wp2_with (fail)
      go_loopg [41] (left.length + 1) (fun kq v41 w' => ∃ i : Nat, v41 = .int .i64 (i : Int) ∧ Aside0 (i + kq = left.length + 1 ∧ i ≤ left.length) ∧ Aside0 (Kd.C (k45) w' A3 list.length list) ∧ Aside0 (Kd.C (k45) w' A13 other.length other) ∧ Aside0 (Kd.C (Kd.int .i64) w' A14 acts.length acts) ∧ Aside0 (Kd.C (k45) w' A15 behind.length behind) ∧ Aside0 (Kd.C (k45) w' A21 sm.length sm) ∧ Aside0 (Kd.C (k45) w' A23 passed.length passed) ∧ Aside0 (Kd.C (k51) w' A37 left.length left) ∧ Aside0 (Kd.C (k51) w' A39 left.length left) ∧ Aside0 (Below w.heap.size w w'))
      case atStart => exact ⟨0, rfl, ⟨by omega⟩, R3, R13, R14, R15, R21, R23, R37, R39, HB⟩
      case round =>
        clear HB R3 R13 R14 R15 R21 R23 R37 R39
        obtain ⟨i, rfl, HI, R3, R13, R14, R15, R21, R23, R37, R39, HB⟩ := hrel
        cases gk with
        | zero => exact absurd HI.out (by omega)
        | succ k1 =>
          have hwi : wrap64 ((i : Int) + 1) = ((i + 1 : Nat) : Int) := by have := HI.out; have : left.length ≤ 1048576 := HF.out.leftn; unfold wrap64; omega
          have HW := Aside0.mk hwi
          clear hwi
          by_cases hi : i < left.length
          · have hi1 : decide (i < left.length) = true := decide_eq_true hi
            obtain ⟨hl3, hq⟩ := HF.out.leftl i (Int.natCast_nonneg i) (Int.ofNat_lt.mpr hi)
            have hq' : ((wrap64 ((rd_T51 left i).f0 * 4)) != (wrap64 ((rd_T45 list i).f2 * (rd_T51 left i).f1))) = false := by rw [hq]; exact bne_self_eq_false _
            clear hq
            have hi3 : i < list.length := Int.ofNat_lt.mp hl3
            have hi31 : decide (i < list.length) = true := decide_eq_true hi3
            obtain ⟨ad1, e1, x10, x11⟩ := at_T51 R37.out i (Int.natCast_nonneg i) (Int.ofNat_lt.mpr hi)
            cases e1
            obtain ⟨ad2, e2, x20, x21⟩ := at_T51 R39.out i (Int.natCast_nonneg i) (Int.ofNat_lt.mpr hi)
            cases e2
            obtain ⟨ad3, e3, x30, x31, x32, x33⟩ := at_T45 R3.out i (Int.natCast_nonneg i) hl3
            cases e3
            simp only [Int.toNat_natCast] at x10 x11 x20 x21 x30 x31 x32 x33
            have hII := Aside0.mk hi
            have hi2 := eq_true hi
            have hi32 := eq_true hi3
            clear hl3 hi hi3
            have en : (!((rd_T51 left i).f0 == (rd_T51 left i).f0) || (!((rd_T51 left i).f1 == (rd_T51 left i).f1))) = false := by simp
            go_wp2
            repeat (go_quiet (fail); try go_wp2)
            go_roundg k1
            case measure => have := HI.out; omega
            case rel => exact ⟨i + 1, (by first | exact congrArg (Value.int .i64) HW.out | rfl | (simp; done)), ⟨by have := HI.out; have := hII.out; omega⟩, ⟨Kd.C_drewN R3.out _⟩, ⟨Kd.C_drewN R13.out _⟩, ⟨Kd.C_drewN R14.out _⟩, ⟨Kd.C_drewN R15.out _⟩, ⟨Kd.C_drewN R21.out _⟩, ⟨Kd.C_drewN R23.out _⟩, ⟨Kd.C_drewN R37.out _⟩, ⟨Kd.C_drewN R39.out _⟩, ⟨pw_below_drewN HB.out _⟩⟩
          · have hi1 : decide (i < left.length) = false := decide_eq_false hi
            clear R37 R39 HW HI hi
            go_upto_if 306 with (first
              | (go_at_call 27; (with_reducible refine (impl_BurnAll.calls k _ _ list all one _ R3.out C3.out HF.out.all1).mono ?_); rintro e w26 ⟨rfl, hb⟩; replace R3 := Aside0.mk (Kd.C_below R3.out hb); replace R13 := Aside0.mk (Kd.C_below R13.out hb); replace R14 := Aside0.mk (Kd.C_below R14.out hb); replace R15 := Aside0.mk (Kd.C_below R15.out hb); replace R21 := Aside0.mk (Kd.C_below R21.out hb); replace R23 := Aside0.mk (Kd.C_below R23.out hb); replace HB := Aside0.mk (below_step HB.out hb); clear hb)
              | (go_at_call 28; (with_reducible refine (spec_BurnAll.calls k _ _ list all one _ R3.out C3.out HF.out.all2).mono ?_); rintro e w27 ⟨rfl, hb⟩; replace R3 := Aside0.mk (Kd.C_below R3.out hb); replace R13 := Aside0.mk (Kd.C_below R13.out hb); replace R14 := Aside0.mk (Kd.C_below R14.out hb); replace R15 := Aside0.mk (Kd.C_below R15.out hb); replace R21 := Aside0.mk (Kd.C_below R21.out hb); replace R23 := Aside0.mk (Kd.C_below R23.out hb); replace HB := Aside0.mk (below_step HB.out hb); clear hb))
            go_cut [] from 444 to 0 (fun wc => Aside0 (Kd.C (k45) wc A21 sm.length sm) ∧ Aside0 (Kd.C (k45) wc A23 passed.length passed) ∧ Aside0 (Below w.heap.size w wc))
            case first =>
              have HM := Aside0.mk HF.out.many0
              have HN0 := Aside0.mk HF.out.now0
              have HNW := Aside0.mk HF.out.nows
              have HE4 := Aside0.mk HF.out.eq4
              clear HF
              cases two with
              | false =>
                go_wp2
                go_meet
                case rel => exact ⟨R21, R23, HB⟩
              | true =>
                replace HM : Aside0 (0 ≤ many ∧ many ≤ acts.length ∧ acts.length ≤ 1048576) := ⟨HM.out rfl⟩
                replace HNW : Aside0 (∀ i : Nat, (i : Int) < many → impl_DoAct.f k (now i) (rd acts i) = some (now (i + 1), true)) := ⟨HNW.out rfl⟩
                replace HE4 : Aside0 (laws_rThings.f k behind (now many.toNat) = some true) := ⟨HE4.out rfl⟩
                replace HN0 : Aside0 (now 0 = other) := ⟨HN0.out⟩
                go_wp2
                go_loopg [46, 47] (acts.length + 1) (fun kq v46 v47 w' => ∃ (i : Nat) (A46 : Option Addr) (c46 : Nat), v46 = .slice A46 (now i).length c46 ∧ v47 = .int .i64 (i : Int) ∧ Aside0 (i + kq = acts.length + 1 ∧ (i : Int) ≤ many) ∧ Aside0 (Kd.C k45 w' A46 (now i).length (now i)) ∧ Aside0 ((now i).length ≤ c46) ∧ Aside0 (Kd.C (k45) w' A13 other.length other) ∧ Aside0 (Kd.C (Kd.int .i64) w' A14 acts.length acts) ∧ Aside0 (Kd.C (k45) w' A15 behind.length behind) ∧ Aside0 (Kd.C (k45) w' A21 sm.length sm) ∧ Aside0 (Kd.C (k45) w' A23 passed.length passed) ∧ Aside0 (Below w.heap.size w w'))
                case atStart => exact ⟨0, A13, c13, (by rw [HN0.out]), rfl, ⟨by have := HM.out; omega⟩, ⟨by rw [HN0.out]; exact R13.out⟩, ⟨by rw [HN0.out]; exact C13.out⟩, R13, R14, R15, R21, R23, HB⟩
                case round =>
                  clear HB R13 R14 R15 R21 R23
                  obtain ⟨i, A46, c46, rfl, rfl, HI, R46, C46, R13, R14, R15, R21, R23, HB⟩ := hrel
                  cases gk with
                  | zero => exact absurd HI.out (by have := HM.out; omega)
                  | succ k1 =>
                    have hwi : wrap64 ((i : Int) + 1) = ((i + 1 : Nat) : Int) := by have := HI.out; have := HM.out; unfold wrap64; omega
                    have HW := Aside0.mk hwi
                    clear hwi
                    by_cases hi : (i : Int) < many
                    · have hi1 : decide ((i : Int) < many) = true := decide_eq_true hi
                      have hia : i < acts.length := by have := HM.out; omega
                      obtain ⟨ad1, e1, x10⟩ := Kd.at_int R14.out i (Int.natCast_nonneg i) (Int.ofNat_lt.mpr hia)
                      cases e1
                      simp only [Int.toNat_natCast] at x10
                      have hii := eq_true hia
                      have hib : decide (i < acts.length) = true := decide_eq_true hia
                      have HD := Aside0.mk (HNW.out i hi)
                      have hII := Aside0.mk hi
                      clear hi hia
                      go_wp2_with (first
                        | (go_at_call 6; (with_reducible refine (impl_DoAct.calls k _ _ (now i) (rd acts i) (now (i + 1)) true _ R46.out C46.out HD.out).mono ?_); rintro e w28 ⟨_, rfl, hR, hb⟩; obtain ⟨A48, c48, rfl⟩ := Kd.R_slice hR; replace R13 := Aside0.mk (Kd.C_below R13.out hb); replace R14 := Aside0.mk (Kd.C_below R14.out hb); replace R15 := Aside0.mk (Kd.C_below R15.out hb); replace R21 := Aside0.mk (Kd.C_below R21.out hb); replace R23 := Aside0.mk (Kd.C_below R23.out hb); replace R46 := Aside0.mk (Kd.C_below R46.out hb); replace HB := Aside0.mk (below_step HB.out hb); have R48 := Aside0.mk (Kd.R_reads' hR).2.2; have C48 := Aside0.mk (Kd.R_reads' hR).2.1; clear hR; clear hb))
                      go_roundg k1
                      case measure => have := HI.out; omega
                      case rel => exact ⟨i + 1, A48, c48, rfl, (by first | exact congrArg (Value.int .i64) HW.out | rfl | (simp; done)), ⟨by have := HI.out; have := hII.out; omega⟩, R48, C48, R13, R14, R15, R21, R23, HB⟩
                    · have hi1 : decide ((i : Int) < many) = false := decide_eq_false hi
                      obtain rfl : many = (i : Int) := by have := HI.out; omega
                      simp only [Int.toNat_natCast] at HE4
                      clear hi HNW HW
                      go_upto_region 53 with (fail)
                      go_cut [342] from 444 to 0 (fun v342 wc => v342 = .bool false ∧ Aside0 (Kd.C (k45) wc A21 sm.length sm) ∧ Aside0 (Kd.C (k45) wc A23 passed.length passed) ∧ Aside0 (Below w.heap.size w wc))
                      case first =>
                        clear R14
                        by_cases hz : i = 0
                        · subst hz
                          rw [HN0.out] at HE4
                          go_wp2_with (first
                            | (go_at_call 8; (with_reducible refine (rThings_b k _ _ behind _ _ other true _ R15.out C15.out R13.out C13.out HE4.out).mono ?_); rintro e w29 ⟨rfl, hb⟩; replace R13 := Aside0.mk (Kd.C_below R13.out hb); replace R15 := Aside0.mk (Kd.C_below R15.out hb); replace R21 := Aside0.mk (Kd.C_below R21.out hb); replace R23 := Aside0.mk (Kd.C_below R23.out hb); replace R46 := Aside0.mk (Kd.C_below R46.out hb); replace HB := Aside0.mk (below_step HB.out hb); clear hb))
                          go_meet
                          case rel => exact ⟨rfl, R21, R23, HB⟩
                        · have hz1 : decide ((i : Int) = 0) = false := decide_eq_false (by omega)
                          have hz2 : decide ((i : Int) > 0) = true := decide_eq_true (by omega)
                          have hz3 : decide (i = 0) = false := decide_eq_false hz
                          have hz4 : decide (0 < i) = true := decide_eq_true (by omega)
                          have hz5 : ((i : Int) == 0) = false := by simpa using hz
                          clear hz
                          go_wp2_with (first
                            | (go_at_call 8; (with_reducible refine (rThings_b k _ _ behind _ _ (now i) true _ R15.out C15.out R46.out C46.out HE4.out).mono ?_); rintro e w30 ⟨rfl, hb⟩; replace R13 := Aside0.mk (Kd.C_below R13.out hb); replace R15 := Aside0.mk (Kd.C_below R15.out hb); replace R21 := Aside0.mk (Kd.C_below R21.out hb); replace R23 := Aside0.mk (Kd.C_below R23.out hb); replace R46 := Aside0.mk (Kd.C_below R46.out hb); replace HB := Aside0.mk (below_step HB.out hb); clear hb))
                          go_meet
                          case rel => exact ⟨rfl, R21, R23, HB⟩
                      case rest =>
                        clear HB R21 R23
                        obtain ⟨rfl, R21, R23, HB⟩ := hcut
                        go_wp2
                        go_meet
                        case rel => exact ⟨R21, R23, HB⟩
            case rest =>
              clear HB R13 R14 R15 R21 R23
              obtain ⟨R21, R23, HB⟩ := hcut
              go_upto_if 343 with (fail)
              go_cut [] from 444 to 0 (fun wc => Aside0 (Kd.C (k45) wc A21 sm.length sm) ∧ Aside0 (Below w.heap.size w wc))
              case first =>
                have HG := Aside0.mk HF.out.grow
                have HS : Aside0 (sm.length ≤ 1048576) := ⟨HF.out.sml⟩
                clear HF
                cases three with
                | false =>
                  go_wp2
                  go_meet
                  case rel => exact ⟨R21, HB⟩
                | true =>
                  replace HG : Aside0 (passed.length ≤ sm.length ∧ ∀ i : Int, 0 ≤ i → i < passed.length → (rd_T45 passed i).f2 ≤ (rd_T45 sm i).f2 ∧ (rd_T45 passed i).f3 ≤ (rd_T45 sm i).f3) := ⟨HG.out rfl⟩
                  go_wp2
                  go_loopg [50] (passed.length + 1) (fun kq v50 w' => ∃ i : Nat, v50 = .int .i64 (i : Int) ∧ Aside0 (i + kq = passed.length + 1 ∧ i ≤ passed.length) ∧ Aside0 (Kd.C (k45) w' A21 sm.length sm) ∧ Aside0 (Kd.C (k45) w' A23 passed.length passed) ∧ Aside0 (Below w.heap.size w w'))
                  case atStart => exact ⟨0, rfl, ⟨by omega⟩, R21, R23, HB⟩
                  case round =>
                    clear HB R21 R23
                    obtain ⟨i, rfl, HI, R21, R23, HB⟩ := hrel
                    cases gk with
                    | zero => exact absurd HI.out (by omega)
                    | succ k1 =>
                      have hwi : wrap64 ((i : Int) + 1) = ((i + 1 : Nat) : Int) := by have := HI.out; have := HS.out; have := HG.out.1; unfold wrap64; omega
                      have HW := Aside0.mk hwi
                      clear hwi
                      by_cases hi : i < passed.length
                      · have hi1 : decide (i < passed.length) = true := decide_eq_true hi
                        have hi3 : i < sm.length := by have := HG.out.1; omega
                        obtain ⟨g2, g3⟩ := HG.out.2 i (Int.natCast_nonneg i) (Int.ofNat_lt.mpr hi)
                        have d2 : decide ((rd_T45 passed i).f2 > (rd_T45 sm i).f2) = false := decide_eq_false (Int.not_lt.mpr g2)
                        have d3 : decide ((rd_T45 passed i).f3 > (rd_T45 sm i).f3) = false := decide_eq_false (Int.not_lt.mpr g3)
                        have d4 : decide ((rd_T45 sm i).f2 < (rd_T45 passed i).f2) = false := decide_eq_false (Int.not_lt.mpr g2)
                        have d5 : decide ((rd_T45 sm i).f3 < (rd_T45 passed i).f3) = false := decide_eq_false (Int.not_lt.mpr g3)
                        obtain ⟨ad1, e1, x10, x11, x12, x13⟩ := at_T45 R23.out i (Int.natCast_nonneg i) (Int.ofNat_lt.mpr hi)
                        cases e1
                        obtain ⟨ad2, e2, x20, x21, x22, x23⟩ := at_T45 R21.out i (Int.natCast_nonneg i) (Int.ofNat_lt.mpr hi3)
                        cases e2
                        simp only [Int.toNat_natCast] at x10 x11 x12 x13 x20 x21 x22 x23
                        have hII := Aside0.mk hi
                        have hi2 := eq_true hi
                        have hi32 := eq_true hi3
                        have hi31 : decide (i < sm.length) = true := decide_eq_true hi3
                        clear g2 g3 hi hi3
                        go_wp2
                        repeat (go_quiet (fail); try go_wp2)
                        go_roundg k1
                        case measure => have := HI.out; omega
                        case rel => exact ⟨i + 1, (by first | exact congrArg (Value.int .i64) HW.out | rfl | (simp; done)), ⟨by have := HI.out; have := hII.out; omega⟩, ⟨Kd.C_drewN R21.out _⟩, ⟨Kd.C_drewN R23.out _⟩, ⟨pw_below_drewN HB.out _⟩⟩
                      · have hi1 : decide (i < passed.length) = false := decide_eq_false hi
                        go_wp2
                        go_meet
                        case rel => exact ⟨R21, HB⟩
              case rest =>
                clear HB R21 R23
                obtain ⟨R21, HB⟩ := hcut
                rename_i K1 h1 wc0 u20 K0 h0
                refine h0 _ _ ?_
                exact walkB HF R21 C21 HB
end Go.Proofs.Ytikpbopjhkohmaa.PT
