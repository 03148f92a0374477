import Derived.Test.YtikpbopjhkohmaaVThingsPTx0
import Derived.Test.YtikpbopjhkohmaaVThingsPTx1
import Derived.Test.YtikpbopjhkohmaaVThingsPTx2
import Derived.Test.YtikpbopjhkohmaaVThingsPTx3
import Derived.Test.YtikpbopjhkohmaaVThingsPTx4
import Derived.Test.YtikpbopjhkohmaaVThingsPTx5
import Derived.Test.YtikpbopjhkohmaaVThingsPTx6
import Derived.Test.YtikpbopjhkohmaaVThingsPTx7
import Derived.Test.YtikpbopjhkohmaaVThingsPTx8
import Derived.Test.YtikpbopjhkohmaaVThingsPTx9
import Derived.Test.YtikpbopjhkohmaaVThingsPTx10
import Derived.Test.YtikpbopjhkohmaaVThingsPTx11
import Derived.Test.YtikpbopjhkohmaaVThingsPTx12
namespace Go.Proofs.Ytikpbopjhkohmaa.PT
open Go.RowKit Go.Proofs.YtikpbopjhkohmaaW.PrintWords Go.Proofs.YtikpbopjhkohmaaW.PrintLast Go.Proofs.YtikpbopjhkohmaaW.PrintMore Go.Proofs.YtikpbopjhkohmaaX
attribute [local go_sem] max2_int min2_int max_two min_two
set_option linter.unusedVariables false
set_option linter.unusedSimpArgs false

/-- What the law computes, one after another. -/
structure Vals where
  list : List S45
  done : List S45
  other : List S45
  behind : List S45
  sm : List S45
  passed : List S45
  at_ : List S45
  before : List S45
  acts : List Int
  poss : List Int
  act : Int
  many : Int
  d : Int
  next : Int
  kind : Int
  minutes : Int
  f1 : Int
  f2 : Int
  f3 : Int
  f4 : Int
  all : Int
  left : List S51
  ok : Bool
  one : Bool
  two : Bool
  three : Bool
  four : Bool
  five : Bool
  now : Nat → List S45
  outs : Nat → Bool
def runs (x : S45) : Bool := (decide (x.f0 = 1) && decide (x.f2 > 0)) || decide (x.f3 > 0)
structure Told (k : Nat) (l0 : List Int) (V : Vals) : Prop where
  big : laws_rBig.f l0 = some false
  draw : spec_DrawDoAct.f k l0 = some (V.list, V.act)
  do1 : impl_DoAct.f k V.list V.act = some (V.done, V.ok)
  do2 : spec_DoAct.f k V.list V.act = some (V.done, V.ok)
  eq1 : laws_rThings.f k V.done V.done = some true
  ps1 : impl_PossibleActs.f k V.list = some (V.poss, V.one)
  ps2 : spec_PossibleActs.f k V.list = some (V.poss, V.one)
  are : impl_AreThings.f k V.list = some V.one
  ints : laws_rInts.f k V.poss V.poss = some true
  has : V.one = true → laws_rHas.f k V.poss V.act = some V.ok
  hasnt : V.one = false → V.ok = false
  draw2 : spec_DrawDoActs.f k l0 = some (V.other, V.acts)
  acts1 : impl_DoActs.f k V.other V.acts = some (V.behind, V.many, V.two)
  acts2 : spec_DoActs.f k V.other V.acts = some (V.behind, V.many, V.two)
  eq2 : laws_rThings.f k V.behind V.behind = some true
  draw3 : spec_DrawPassQuarters.f k l0 = some (V.sm, V.d)
  pass1 : impl_PassQuarters.f k V.sm V.d = some (V.passed, V.three)
  pass2 : spec_PassQuarters.f k V.sm V.d = some (V.passed, V.three)
  eq3 : laws_rThings.f k V.passed V.passed = some true
  next1 : impl_NextQuarter.f k V.sm = some (V.next, V.four)
  next2 : spec_NextQuarter.f k V.sm = some (V.next, V.four)
  draw4 : spec_DrawNewThing.f l0 = some (V.kind, V.minutes)
  new1 : impl_NewThing.f k V.kind V.minutes = some (V.f1, V.f2, V.f3, V.f4, V.five)
  new2 : spec_NewThing.f k V.kind V.minutes = some (V.f1, V.f2, V.f3, V.f4, V.five)
  left1 : impl_LeftMinutes.f k V.list = some (V.left, V.one)
  left2 : spec_LeftMinutes.f k V.list = some (V.left, V.one)
  leftl : ∀ i : Int, 0 ≤ i → i < V.left.length → i < V.list.length ∧ wrap64 ((rd_T51 V.left i).f0 * 4) = wrap64 ((rd_T45 V.list i).f2 * (rd_T51 V.left i).f1)
  leftn : V.left.length ≤ 1048576
  all1 : impl_BurnAll.f k V.list = some (V.all, V.one)
  all2 : spec_BurnAll.f k V.list = some (V.all, V.one)
  many0 : V.two = true → 0 ≤ V.many ∧ V.many ≤ V.acts.length ∧ V.acts.length ≤ 1048576
  now0 : V.now 0 = V.other
  nows : V.two = true → ∀ i : Nat, (i : Int) < V.many → impl_DoAct.f k (V.now i) (rd V.acts i) = some (V.now (i + 1), true)
  eq4 : V.two = true → laws_rThings.f k V.behind (V.now V.many.toNat) = some true
  grow : V.three = true → V.passed.length ≤ V.sm.length ∧ ∀ i : Int, 0 ≤ i → i < V.passed.length → (rd_T45 V.passed i).f2 ≤ (rd_T45 V.sm i).f2 ∧ (rd_T45 V.passed i).f3 ≤ (rd_T45 V.sm i).f3
  sml : V.sm.length ≤ 1048576
  nx1 : V.four = true → impl_PassQuarters.f k V.sm V.next = some (V.at_, true)
  nx2 : V.four = true → impl_PassQuarters.f k V.sm (wrap64 (V.next - 1)) = some (V.before, true)
  nxl : V.four = true → V.at_.length = V.sm.length ∧ V.before.length = V.sm.length
  out0 : V.outs 0 = false
  outn : V.four = true → V.outs V.sm.length = true
  outs_ : V.four = true → ∀ i : Nat, i < V.sm.length → V.outs (i + 1) = (V.outs i || (runs (rd_T45 V.sm i) && decide ((rd_T45 V.at_ i).f2 = 0))) ∧ (runs (rd_T45 V.sm i) = true → (rd_T45 V.before i).f2 ≠ 0)
theorem bne_self (b : Bool) : (b != b) = false := by cases b <;> rfl
theorem rBig_b (A0 : Option Addr) (c0 : Nat) (l0 : List Int) (r : Bool) (w : World) (hr0 : Kd.C (Kd.int .u8) w A0 l0.length l0) (hc0 : l0.length ≤ c0) (h : laws_rBig.f l0 = some r) :
    Calls Try.prog 4 #[.slice A0 l0.length c0] w fun e w' => e = .returned (.bool r) ∧ Below w.heap.size w w' := by
  refine (laws_rBig.calls A0 c0 l0 r w hr0 hc0 h).mono ?_
  rintro e w' ⟨rfl, m, rfl⟩
  exact ⟨rfl, pw_below_drewN (Below.refl _ _) m⟩
theorem rThings_b (k : Nat) (A0 : Option Addr) (c0 : Nat) (l0 : List (S45)) (A1 : Option Addr) (c1 : Nat) (l1 : List (S45)) (r : Bool) (w : World) (hr0 : Kd.C k45 w A0 l0.length l0) (hc0 : l0.length ≤ c0) (hr1 : Kd.C k45 w A1 l1.length l1) (hc1 : l1.length ≤ c1) (h : laws_rThings.f k l0 l1 = some r) :
    Calls Try.prog 8 #[.slice A0 l0.length c0, .slice A1 l1.length c1] w fun e w' => e = .returned (.bool r) ∧ Below w.heap.size w w' := by
  refine (laws_rThings.calls k A0 c0 l0 A1 c1 l1 r w hr0 hc0 hr1 hc1 h).mono ?_
  rintro e w' ⟨rfl, m, rfl⟩
  exact ⟨rfl, pw_below_drewN (Below.refl _ _) m⟩
theorem rInts_b (k : Nat) (A0 : Option Addr) (c0 : Nat) (l0 : List Int) (A1 : Option Addr) (c1 : Nat) (l1 : List Int) (r : Bool) (w : World) (hr0 : Kd.C (Kd.int .i64) w A0 l0.length l0) (hc0 : l0.length ≤ c0) (hr1 : Kd.C (Kd.int .i64) w A1 l1.length l1) (hc1 : l1.length ≤ c1) (h : laws_rInts.f k l0 l1 = some r) :
    Calls Try.prog 12 #[.slice A0 l0.length c0, .slice A1 l1.length c1] w fun e w' => e = .returned (.bool r) ∧ Below w.heap.size w w' := by
  refine (laws_rInts.calls k A0 c0 l0 A1 c1 l1 r w hr0 hc0 hr1 hc1 h).mono ?_
  rintro e w' ⟨rfl, m, rfl⟩
  exact ⟨rfl, pw_below_drewN (Below.refl _ _) m⟩
theorem rHas_b (k : Nat) (A0 : Option Addr) (c0 : Nat) (l0 : List Int) (a1 : Int) (r : Bool) (w : World) (hr0 : Kd.C (Kd.int .i64) w A0 l0.length l0) (hc0 : l0.length ≤ c0) (h : laws_rHas.f k l0 a1 = some r) :
    Calls Try.prog 13 #[.slice A0 l0.length c0, .int .i64 a1] w fun e w' => e = .returned (.bool r) ∧ Below w.heap.size w w' := by
  refine (laws_rHas.calls k A0 c0 l0 a1 r w hr0 hc0 h).mono ?_
  rintro e w' ⟨rfl, m, rfl⟩
  exact ⟨rfl, pw_below_drewN (Below.refl _ _) m⟩
theorem eqA51 (d : Nat) (w : World) (x0 y0 : Int) (x1 y1 : Int) :
    (Op.equalIn (d + 2) 51 (.agg #[.int .i64 x0, .int .i64 x1]) (.agg #[.int .i64 y0, .int .i64 y1])).run Try.prog w = .ok (x0 == y0 && (x1 == y1)) w := by
  refine eqA_arr (c := 1) Try.underlying51 (by kernel_rfl) (by kernel_rfl) ?_
  show (Op.eqItems _ _ _ _ _ [0, 1]).run _ _ = _
  refine eqi_cons (by go_simp; rfl) (by go_simp; rfl) (by go_simp) ?_
  exact eqi_last (by go_simp; rfl) (by go_simp; rfl) (by go_simp)
attribute [local go_sem high] eqA45 eqA51
/-- A part of a body's right spine. -/
def dig : Nat → Code → Code
  | n + 1, .seq _ b => dig n b
  | _, c => c
noncomputable def restC : Code := dig 26 (Try.f3.body.getD .skip)
variable {k : Nat} {l0 : List Int} {list done other behind sm passed at_ before : List S45} {acts poss : List Int} {act many d next kind minutes f1 f2 f3 f4 all : Int} {left : List S51} {ok one two three four five : Bool} {now : Nat → List S45} {outs : Nat → Bool}
set_option maxHeartbeats 4000000 in
set_option maxRecDepth 100000 in
theorem walkB {w wc : World} {A21 : Option Addr} {c21 : Nat} {p0 p1 p2 p3 p4 p5 p6 p7 p8 p9 p10 p11 p12 p13 p14 p15 p16 p17 p18 p19 p20 p21 p22 p23 p24 p25 p26 p27 p28 p29 p30 p31 p32 p33 p34 p35 p36 p37 p38 p39 p40 p41 p42 p43 p44 p45 p46 p47 p48 p49 p50 p51 u2 u46 u47 u48 u49 u50 u96 u97 u98 u99 u100 u101 u102 u103 u104 u105 u106 u107 u108 u109 u110 u111 u112 u113 u114 u115 u116 u117 u118 u119 u215 u216 u217 u218 u219 u220 u221 u252 u253 u254 u255 u256 u257 u258 u259 u260 u261 u262 u263 u264 u265 u266 u267 u268 u269 u270 u271 u272 u273 u274 u275 u276 u277 u278 u279 u280 u281 u282 u307 u308 u309 u310 u311 u312 u313 u314 u315 u316 u317 u318 u319 u320 u321 u322 u323 u324 u325 u326 u327 u328 u329 u330 u331 u332 u333 u334 u335 u336 u337 u338 u339 u340 u341 u342 u344 u345 u346 u347 u348 u349 u350 u351 u352 u353 u354 u355 u356 u357 u358 u359 u360 u361 u362 u363 u364 u365 u366 u367 u368 u369 u370 u371 u372 u373 : Value} (HF : Aside0 (Told k l0 ⟨list, done, other, behind, sm, passed, at_, before, acts, poss, act, many, d, next, kind, minutes, f1, f2, f3, f4, all, left, ok, one, two, three, four, five, now, outs⟩)) (R21 : Aside0 (Kd.C (k45) wc A21 sm.length sm)) (C21 : Aside0 (sm.length ≤ c21)) (HB : Aside0 (Below w.heap.size w wc)) :
    let Q' := bodyPost Try.prog Try.f3 fun e w' => e = .returned (.bool true) ∧ Below w.heap.size w w'
    Code.wp Try.prog restC Q' { tmps := #[p0, undef, u2, p1, p2, p3, p4, p5, p4, p6, p7, p8, p7, p9, p10, p11, p12, p13, p14, p12, p13, .slice A21 sm.length c21, p15, p16, p17, p18, p17, .int .i64 next, .bool four, p19, p20, p21, p22, p23, p24, p25, p24, p26, p7, p27, p7, p28, p29, p7, p29, p7, u46, u47, u48, u49, u50, undef, undef, undef, undef, undef, undef, undef, p0, p30, p31, p0, p31, p1, p2, p32, p1, p2, p32, p3, p4, p33, p1, p2, p33, p5, p4, p4, p4, p30, p30, p3, p5, p34, p30, p30, p35, p1, p35, p6, p7, p36, p1, p36, p8, p7, u96, u97, u98, u99, u100, u101, u102, u103, u104, u105, u106, u107, u108, u109, u110, u111, u112, u113, u114, u115, u116, u117, u118, u119, p30, p37, p0, p37, p9, p10, p38, p9, p10, p38, p11, p12, p13, p39, p9, p10, p39, p14, p12, p13, p12, p12, p30, p30, p13, p13, p30, p30, p30, p11, p14, p34, p30, p30, p40, p0, p40, p41, p15, p42, p41, p15, p42, p16, p17, p43, p41, p15, p43, p18, p17, p17, p17, p30, p30, p16, p18, p34, p30, p30, p44, p41, p44, p19, p20, p44, p41, p44, p19, p20, p19, p19, p30, p30, p20, p20, p30, p30, p45, p0, p45, p21, p22, p46, p21, p22, p46, p47, p24, p46, p21, p22, p46, p47, p24, u215, u216, u217, u218, u219, u220, u221, p30, p48, p1, p48, p26, p7, p49, p1, p49, p27, p7, p7, p7, p30, p30, p7, p7, p30, p30, p30, p26, p50, p27, p50, p30, p30, p28, p26, p50, p30, u252, u253, u254, u255, u256, u257, u258, u259, u260, u261, u262, u263, u264, u265, u266, u267, u268, u269, u270, u271, u272, u273, u274, u275, u276, u277, u278, u279, u280, u281, u282, p51, p1, p51, p29, p7, p51, p1, p51, p29, p7, p29, p29, p30, p30, p7, p7, p30, p30, p30, p7, p7, p30, p30, p13, u307, u308, u309, u310, u311, u312, u313, u314, u315, u316, u317, u318, u319, u320, u321, u322, u323, u324, u325, u326, u327, u328, u329, u330, u331, u332, u333, u334, u335, u336, u337, u338, u339, u340, u341, u342, p17, u344, u345, u346, u347, u348, u349, u350, u351, u352, u353, u354, u355, u356, u357, u358, u359, u360, u361, u362, u363, u364, u365, u366, u367, u368, u369, u370, u371, u372, u373, undef, undef, undef, undef, undef, undef, undef, undef, undef, undef, undef, undef, undef, undef, undef, undef, undef, undef, undef, undef, undef, undef, undef, undef, undef, undef, undef, undef, undef, undef, undef, undef, undef, undef, undef, undef, undef, undef, undef, undef, undef, undef, undef, undef, undef, undef, undef, undef, undef, undef, undef, undef, undef, undef, undef, undef, undef, undef, undef, undef, undef, undef, undef, undef, undef, undef, undef, undef, undef, undef], defers := [] } wc := by
  intro Q'
  have hu45 := Try.underlying45
  dsimp only [restC, Try.f3, dig, Option.getD_some]
  have HS : Aside0 (sm.length ≤ 1048576) := ⟨HF.out.sml⟩
  have H1 := Aside0.mk HF.out.nx1
  have H2 := Aside0.mk HF.out.nx2
  have HL := Aside0.mk HF.out.nxl
  have HO0 : Aside0 (outs 0 = false) := ⟨HF.out.out0⟩
  have HON := Aside0.mk HF.out.outn
  have HO := Aside0.mk HF.out.outs_
  clear HF
  cases four with
  | false =>
    go_wp2
    go_ret
    exact ⟨rfl, HB.out⟩
  | true =>
    replace H1 : Aside0 (impl_PassQuarters.f k sm next = some (at_, true)) := ⟨H1.out rfl⟩
    replace H2 : Aside0 (impl_PassQuarters.f k sm (wrap64 (next - 1)) = some (before, true)) := ⟨H2.out rfl⟩
    replace HL : Aside0 (at_.length = sm.length ∧ before.length = sm.length) := ⟨HL.out rfl⟩
    replace HON : Aside0 (outs sm.length = true) := ⟨HON.out rfl⟩
    replace HO : Aside0 (∀ i : Nat, i < sm.length → outs (i + 1) = (outs i || (runs (rd_T45 sm i) && decide ((rd_T45 at_ i).f2 = 0))) ∧ (runs (rd_T45 sm i) = true → (rd_T45 before i).f2 ≠ 0)) := ⟨HO.out rfl⟩
    go_wp2_with (first
      | (go_at_call 18; (with_reducible refine (impl_PassQuarters.calls k _ _ sm next at_ true _ R21.out C21.out H1.out).mono ?_); rintro e w31 ⟨_, rfl, hR, hb⟩; obtain ⟨A51, c51, rfl⟩ := Kd.R_slice hR; replace R21 := Aside0.mk (Kd.C_below R21.out hb); replace HB := Aside0.mk (below_step HB.out hb); have R51 := Aside0.mk (Kd.R_reads' hR).2.2; have C51 := Aside0.mk (Kd.R_reads' hR).2.1; clear hR; clear hb)
      | (go_at_call 18; (with_reducible refine (impl_PassQuarters.calls k _ _ sm (wrap64 (next - 1)) before true _ R21.out C21.out H2.out).mono ?_); rintro e w32 ⟨_, rfl, hR, hb⟩; obtain ⟨A53, c53, rfl⟩ := Kd.R_slice hR; replace R21 := Aside0.mk (Kd.C_below R21.out hb); replace R51 := Aside0.mk (Kd.C_below R51.out hb); replace HB := Aside0.mk (below_step HB.out hb); have R53 := Aside0.mk (Kd.R_reads' hR).2.2; have C53 := Aside0.mk (Kd.R_reads' hR).2.1; clear hR; clear hb))
    clear H1 H2
    go_loopg [55, 56] (sm.length + 1) (fun kq v55 v56 w' => ∃ i : Nat, v55 = .bool (outs i) ∧ v56 = .int .i64 (i : Int) ∧ Aside0 (i + kq = sm.length + 1 ∧ i ≤ sm.length) ∧ Aside0 (Kd.C (k45) w' A21 sm.length sm) ∧ Aside0 (Kd.C (k45) w' A51 at_.length at_) ∧ Aside0 (Kd.C (k45) w' A53 before.length before) ∧ Aside0 (Below w.heap.size w w'))
    case atStart => exact ⟨0, (by rw [HO0.out]), rfl, ⟨by omega⟩, R21, R51, R53, HB⟩
    case round =>
      clear HB R21 R51 R53
      obtain ⟨i, rfl, rfl, HI, R21, R51, R53, HB⟩ := hrel
      cases gk with
      | zero => exact absurd HI.out (by omega)
      | succ k1 =>
        have hwi : wrap64 ((i : Int) + 1) = ((i + 1 : Nat) : Int) := by have := HI.out; have := HS.out; unfold wrap64; omega
        have HW := Aside0.mk hwi
        clear hwi
        by_cases hi : i < sm.length
        · have hi1 : decide (i < sm.length) = true := decide_eq_true hi
          obtain ⟨o1, o2⟩ := HO.out i hi
          have HO1 := Aside0.mk o1
          have HO2 := Aside0.mk o2
          clear o1 o2
          obtain ⟨ad1, e1, x10, x11, x12, x13⟩ := at_T45 R21.out i (Int.natCast_nonneg i) (Int.ofNat_lt.mpr hi)
          cases e1
          have hia : i < at_.length := by rw [HL.out.1]; exact hi
          have hib : i < before.length := by rw [HL.out.2]; exact hi
          simp only [Int.toNat_natCast] at x10 x11 x12 x13
          have hII := Aside0.mk hi
          have hIA := Aside0.mk hia
          have hIB := Aside0.mk hib
          have hi2 := eq_true hi
          clear hi hia hib
          go_upto_region 70 with (fail)
          go_cut [57] from 444 to 0 (fun v57 wc => v57 = .bool (runs (rd_T45 sm i)) ∧ Aside0 (Kd.C (k45) wc (some ad1) sm.length sm) ∧ Aside0 (Kd.C (k45) wc A51 at_.length at_) ∧ Aside0 (Kd.C (k45) wc A53 before.length before) ∧ Aside0 (Below w.heap.size w wc))
          case first =>
            by_cases p0 : (rd_T45 sm i).f0 = 1
            · have qp0 : decide ((rd_T45 sm i).f0 = 1) = true := decide_eq_true p0
              have sp0 := eq_true p0
              by_cases p2 : (rd_T45 sm i).f2 > 0
              · have qp2 : decide ((rd_T45 sm i).f2 > 0) = true := decide_eq_true p2
                have rp2 : decide (0 < (rd_T45 sm i).f2) = true := decide_eq_true p2
                have sp2 := eq_true p2
                have HR : Aside0 (runs (rd_T45 sm i) = true) := ⟨by simp [runs, p0, p2]⟩
                clear p0 p2
                go_wp2
                go_meet
                case rel => exact ⟨(by rw [HR.out]), R21, R51, R53, HB⟩
              · have qp2 : decide ((rd_T45 sm i).f2 > 0) = false := decide_eq_false p2
                have rp2 : decide (0 < (rd_T45 sm i).f2) = false := decide_eq_false p2
                have sp2 := eq_false p2
                by_cases p3 : (rd_T45 sm i).f3 > 0
                · have qp3 : decide ((rd_T45 sm i).f3 > 0) = true := decide_eq_true p3
                  have rp3 : decide (0 < (rd_T45 sm i).f3) = true := decide_eq_true p3
                  have sp3 := eq_true p3
                  have HR : Aside0 (runs (rd_T45 sm i) = true) := ⟨by simp [runs, p0, p2, p3]⟩
                  clear p0 p2 p3
                  go_wp2
                  go_meet
                  case rel => exact ⟨(by rw [HR.out]), R21, R51, R53, HB⟩
                · have qp3 : decide ((rd_T45 sm i).f3 > 0) = false := decide_eq_false p3
                  have rp3 : decide (0 < (rd_T45 sm i).f3) = false := decide_eq_false p3
                  have sp3 := eq_false p3
                  have HR : Aside0 (runs (rd_T45 sm i) = false) := ⟨by simp [runs, p0, p2, p3]⟩
                  clear p0 p2 p3
                  go_wp2
                  go_meet
                  case rel => exact ⟨(by rw [HR.out]), R21, R51, R53, HB⟩
            · have qp0 : decide ((rd_T45 sm i).f0 = 1) = false := decide_eq_false p0
              have sp0 := eq_false p0
              by_cases p3 : (rd_T45 sm i).f3 > 0
              · have qp3 : decide ((rd_T45 sm i).f3 > 0) = true := decide_eq_true p3
                have rp3 : decide (0 < (rd_T45 sm i).f3) = true := decide_eq_true p3
                have sp3 := eq_true p3
                have HR : Aside0 (runs (rd_T45 sm i) = true) := ⟨by simp [runs, p0, p3]⟩
                clear p0 p3
                go_wp2
                go_meet
                case rel => exact ⟨(by rw [HR.out]), R21, R51, R53, HB⟩
              · have qp3 : decide ((rd_T45 sm i).f3 > 0) = false := decide_eq_false p3
                have rp3 : decide (0 < (rd_T45 sm i).f3) = false := decide_eq_false p3
                have sp3 := eq_false p3
                have HR : Aside0 (runs (rd_T45 sm i) = false) := ⟨by simp [runs, p0, p3]⟩
                clear p0 p3
                go_wp2
                go_meet
                case rel => exact ⟨(by rw [HR.out]), R21, R51, R53, HB⟩
          case rest =>
            clear HB R21 R51 R53
            obtain ⟨rfl, R21, R51, R53, HB⟩ := hcut
            clear x10 x11 x12 x13
            obtain ⟨o, ho⟩ : ∃ o, outs i = o := ⟨_, rfl⟩
            obtain ⟨r, hr⟩ : ∃ r, runs (rd_T45 sm i) = r := ⟨_, rfl⟩
            have HOI := Aside0.mk ho
            have HRI := Aside0.mk hr
            rw [ho, hr]
            clear ho hr
            obtain ⟨ad2, e2, x20, x21, x22, x23⟩ := at_T45 R51.out i (Int.natCast_nonneg i) (Int.ofNat_lt.mpr hIA.out)
            cases e2
            obtain ⟨ad3, e3, x30, x31, x32, x33⟩ := at_T45 R53.out i (Int.natCast_nonneg i) (Int.ofNat_lt.mpr hIB.out)
            cases e3
            simp only [Int.toNat_natCast] at x20 x21 x22 x23 x30 x31 x32 x33
            have hia := eq_true hIA.out
            have hib := eq_true hIB.out
            go_upto_region 71 with (fail)
            go_cut [55] from 444 to 0 (fun v55 wc => v55 = .bool (outs (i + 1)) ∧ Aside0 (Kd.C (k45) wc (some ad1) sm.length sm) ∧ Aside0 (Kd.C (k45) wc (some ad2) at_.length at_) ∧ Aside0 (Kd.C (k45) wc (some ad3) before.length before) ∧ Aside0 (Below w.heap.size w wc))
            case first =>
              cases o with
              | true =>
                have HY : Aside0 (outs (i + 1) = true) := ⟨HO1.out.trans (by rw [HOI.out]; rfl)⟩
                go_wp2
                go_meet
                case rel => exact ⟨(by rw [HY.out]), R21, R51, R53, HB⟩
              | false =>
                cases r with
                | false =>
                  have HY : Aside0 (outs (i + 1) = false) := ⟨HO1.out.trans (by rw [HOI.out, HRI.out]; rfl)⟩
                  go_wp2
                  go_meet
                  case rel => exact ⟨(by rw [HY.out]), R21, R51, R53, HB⟩
                | true =>
                  by_cases py : (rd_T45 at_ i).f2 = 0
                  · have q0 : decide ((rd_T45 at_ i).f2 = 0) = true := decide_eq_true py
                    have q1 : ((rd_T45 at_ i).f2 == 0) = true := by simpa using py
                    have sy := eq_true py
                    clear py
                    have HY : Aside0 (outs (i + 1) = true) := ⟨HO1.out.trans (by rw [HOI.out, HRI.out, q0]; rfl)⟩
                    go_wp2
                    go_meet
                    case rel => exact ⟨(by rw [HY.out]), R21, R51, R53, HB⟩
                  · have q0 : decide ((rd_T45 at_ i).f2 = 0) = false := decide_eq_false py
                    have q1 : ((rd_T45 at_ i).f2 == 0) = false := by simpa using py
                    have sy := eq_false py
                    clear py
                    have HY : Aside0 (outs (i + 1) = false) := ⟨HO1.out.trans (by rw [HOI.out, HRI.out, q0]; rfl)⟩
                    go_wp2
                    go_meet
                    case rel => exact ⟨(by rw [HY.out]), R21, R51, R53, HB⟩
            case rest =>
              clear HB R21 R51 R53
              obtain ⟨rfl, R21, R51, R53, HB⟩ := hcut
              clear x20 x21 x22 x23 x30 x31 x32 x33
              obtain ⟨ad4, e4, x40, x41, x42, x43⟩ := at_T45 R53.out i (Int.natCast_nonneg i) (Int.ofNat_lt.mpr hIB.out)
              cases e4
              simp only [Int.toNat_natCast] at x40 x41 x42 x43
              go_upto_region 72 with (fail)
              go_cut [442] from 444 to 0 (fun v442 wc => v442 = .bool false ∧ Aside0 (Kd.C (k45) wc (some ad1) sm.length sm) ∧ Aside0 (Kd.C (k45) wc (some ad2) at_.length at_) ∧ Aside0 (Kd.C (k45) wc (some ad3) before.length before) ∧ Aside0 (Below w.heap.size w wc))
              case first =>
                cases r with
                | false =>
                  go_wp2
                  go_meet
                  case rel => exact ⟨rfl, R21, R51, R53, HB⟩
                | true =>
                  have hz := HO2.out HRI.out
                  have q0 : decide ((rd_T45 before i).f2 = 0) = false := decide_eq_false hz
                  have q1 : ((rd_T45 before i).f2 == 0) = false := by simpa using hz
                  have sy := eq_false hz
                  clear hz
                  go_wp2
                  go_meet
                  case rel => exact ⟨rfl, R21, R51, R53, HB⟩
              case rest =>
                clear HB R21 R51 R53
                obtain ⟨rfl, R21, R51, R53, HB⟩ := hcut
                go_wp2
                go_roundg k1
                case measure => have := HI.out; omega
                case rel => exact ⟨i + 1, rfl, (by first | exact congrArg (Value.int .i64) HW.out | rfl | (simp; done)), ⟨by have := HI.out; have := hII.out; omega⟩, R21, R51, R53, HB⟩
        · have hi1 : decide (i < sm.length) = false := decide_eq_false hi
          obtain rfl : i = sm.length := by have := HI.out; omega
          go_wp2
          go_ret
          exact ⟨by rw [HON.out]; rfl, HB.out⟩
end Go.Proofs.Ytikpbopjhkohmaa.PT

