-- Printed by a program of this session's own.
import Derived.Test.YtpadckbjknjkaaaPAx0
import Derived.Test.YtpadckbjknjkaaaPAx1
import Derived.Test.YtpadckbjknjkaaaPAx2
import Derived.Test.YtpadckbjknjkaaaPAx3
namespace Go.Proofs.Ytpadckbjknjkaaa.PA
open Go.RowKit Go.Proofs.YtpadckbjknjkaaaW.PrintWords Go.Proofs.YtpadckbjknjkaaaW.PrintLast Go.Proofs.YtpadckbjknjkaaaW.PrintMore Go.Proofs.YtpadckbjknjkaaaX
attribute [local go_sem] max2_int min2_int max_two min_two max_three min_three max_four min_four   -- for this text's walks alone
set_option linter.unusedVariables false
set_option linter.unusedSimpArgs false


theorem fl_bcell {W w1 : World} (hb : Below W.heap.size W w1) : (∀ b o, b < W.heap.size → w1.cell? ⟨b, o, none⟩ = W.cell? ⟨b, o, none⟩) ∧ (∀ b o, b < W.heap.size → w1.frozen? ⟨b, o, none⟩ = W.frozen? ⟨b, o, none⟩) :=
  ⟨fun b o h => hb.cell (p := ⟨b, o, none⟩) h, fun b o h => hb.frozen (p := ⟨b, o, none⟩) h⟩
/-- What is in all vessels, from a place on. -/
def levelL : Nat → Int → List S33 → Int → Option Int
  | 0, _, _, _ => none
  | k + 1, s, ys, i => if i < (ys.length : Int) then (if 0 ≤ i then levelL k (wrap64 (s + (rd_T33 ys i).f2)) ys (wrap64 (i + 1)) else none) else some s
set_option maxHeartbeats 4000000 in
set_option maxRecDepth 100000 in
theorem level_calls (k : Nat) (w : World) (g : Nat) (A : Option Addr) (c : Nat) (ys : List S33) (sp ou po r : Int) (hF : w.heap[g]? = some (.cells #[.slice A ys.length c, .int .i64 sp, .int .i64 ou, .int .i64 po] 67 (0, 0))) (hC : Kd.C k33 w A ys.length ys) (h : levelL k 0 ys 0 = some r) :
    Calls Try.prog 43 #[.pointer (some ⟨g, 0, none⟩)] w fun e w' => e = .returned (.int .i64 r) ∧ Below w.heap.size w w' := by
  have c0 : w.cell? ⟨g, 0, none⟩ = some (.slice A ys.length c) := (blk_cell hF 0).trans rfl
  have HC := Aside0.mk hC
  have HB := Aside0.mk (Below.refl w.heap.size w)
  have H' := Aside0.mk h
  clear hF hC h
  go_enter Try.func43, Try.ntmps43
  go_wp2
  go_loopg [3, 11] k (fun kq v3 v11 w' => ∃ (s i : Int), v3 = .int .i64 s ∧ v11 = .int .i64 i ∧ Aside0 (levelL kq s ys i = some r) ∧ Aside0 (kq ≤ k) ∧ Aside0 (Below w.heap.size w w'))
  case atStart => exact ⟨0, 0, (by first | rfl | (simp; done)), (by first | rfl | (simp; done)), H', ⟨Nat.le_refl _⟩, HB⟩
  case round =>
    clear H' HB
    try clear c0
    obtain ⟨s, i, rfl, rfl, HA, HK1, HB⟩ := hrel
    cases gk with
    | zero => exact absurd HA.out (by simp [levelL])
    | succ k1 =>
      have H := HA.out
      clear HA
      simp only [levelL] at H
      by_cases c3 : i < (ys.length : Int)
      · rw [if_pos c3] at H
        have c3b0 : decide (i < (ys.length : Int)) = true := decide_eq_true c3
        by_cases c4 : 0 ≤ i
        · rw [if_pos c4] at H
          have H' := Aside0.mk H
          clear H
          obtain ⟨ad, e1, hx0, hx1, hx2⟩ := at_T33 HC.out i c4 c3
          cases e1
          replace hx0 := pw_cell_below HB.out hx0
          replace hx1 := pw_cell_below HB.out hx1
          replace hx2 := pw_cell_below HB.out hx2
          replace c3 := eq_true c3
          replace c4 := eq_true c4
          go_wp2
          go_roundg k1
          case measure => have := HK1.out; omega
          case rel => exact ⟨(wrap64 (s + (rd_T33 ys i).f2)), (wrap64 (i + 1)), (by first | rfl | (simp; done) | (simp [*]; done)), (by first | rfl | (simp; done) | (simp [*]; done)), H', ⟨by have := HK1.out; omega⟩, ⟨below_alloc HB.out _⟩⟩
        · rw [if_neg c4] at H; cases H
      · rw [if_neg c3] at H
        have c3b0 : decide (i < (ys.length : Int)) = false := decide_eq_false c3
        clear c3
        obtain rfl := Option.some.inj H
        go_wp2
        go_ret
        exact ⟨rfl, HB.out⟩
set_option maxHeartbeats 4000000 in
set_option maxRecDepth 100000 in
theorem is_E (k : Nat) (w : World) (g : Nat) (A : Option Addr) (c : Nat) (ys : List S33) (sp ou po r : Int) (hF : w.heap[g]? = some (.cells #[.slice A ys.length c, .int .i64 sp, .int .i64 ou, .int .i64 po] 67 (0, 0))) (hC : Kd.C k33 w A ys.length ys) (h : levelL k 0 ys 0 = some r) :
    Calls Try.prog 49 #[.pointer (some ⟨g, 0, none⟩)] w fun e w' => e = .returned (.bool (r == 0)) ∧ Below w.heap.size w w' := by
  have c := Aside0.mk (level_calls k w g A c ys sp ou po r hF hC h)
  clear hF hC h
  go_enter Try.func49, Try.ntmps49
  go_wp2_with (go_at_call 43; (with_reducible refine c.out.mono ?_); rintro e w1 ⟨rfl, hb1⟩)
  go_ret
  exact ⟨rfl, hb1⟩
set_option maxHeartbeats 4000000 in
set_option maxRecDepth 100000 in
theorem first1_E_true (w : World) (F I T : Nat) (n at_ : Int) (hI : w.heap[I]? = some (.cells #[.func (.func 49) #[] #[]] 56 (0, 0))) (hT : w.heap[T]? = some (.cells #[.int .i64 at_] 3 (0, 0)))
    (cI : Aside0 (Calls Try.prog 49 #[.pointer (some ⟨F, 0, none⟩)] w (fun e w' => e = .returned (.bool true) ∧ Below w.heap.size w w'))) :
    Calls Try.prog 52 #[.int .i64 n, .pointer (some ⟨F, 0, none⟩), .pointer (some ⟨I, 0, none⟩), .pointer (some ⟨T, 0, none⟩)] w fun e w' => e = .returned (.bool (decide (n < 0))) ∧ ∃ w1, Below w.heap.size w w1 ∧ w' = w1.setCell ⟨T, 0, none⟩ (.int .i64 n) := by
  have i0 : w.cell? ⟨I, 0, none⟩ = some (.func (.func 49) #[] #[]) := (blk_cell hI 0).trans rfl
  have t0 : w.cell? ⟨T, 0, none⟩ = some (.int .i64 at_) := (blk_cell hT 0).trans rfl
  have tz : w.frozen? ⟨T, 0, none⟩ = false := blk_frozen hT 0
  have lT := blk_lt hT
  clear hI hT
  go_enter Try.func52, Try.ntmps52
  go_wp2_with (go_at_call 49; (with_reducible refine cI.out.mono ?_); rintro e w1 ⟨rfl, hb1⟩; obtain ⟨hcc, hff⟩ := fl_bcell hb1; replace hb1 := Aside0.mk hb1)
  go_ret
  exact ⟨rfl, w1, hb1.out, rfl⟩
set_option maxHeartbeats 4000000 in
set_option maxRecDepth 100000 in
theorem first1_E_false (w : World) (F I T : Nat) (n at_ : Int) (hI : w.heap[I]? = some (.cells #[.func (.func 49) #[] #[]] 56 (0, 0))) (hT : w.heap[T]? = some (.cells #[.int .i64 at_] 3 (0, 0)))
    (cI : Aside0 (Calls Try.prog 49 #[.pointer (some ⟨F, 0, none⟩)] w (fun e w' => e = .returned (.bool false) ∧ Below w.heap.size w w'))) :
    Calls Try.prog 52 #[.int .i64 n, .pointer (some ⟨F, 0, none⟩), .pointer (some ⟨I, 0, none⟩), .pointer (some ⟨T, 0, none⟩)] w fun e w' => e = .returned (.bool (decide (at_ < 0))) ∧ ∃ w1, Below w.heap.size w w1 ∧ w' = w1 := by
  have i0 : w.cell? ⟨I, 0, none⟩ = some (.func (.func 49) #[] #[]) := (blk_cell hI 0).trans rfl
  have t0 : w.cell? ⟨T, 0, none⟩ = some (.int .i64 at_) := (blk_cell hT 0).trans rfl
  have tz : w.frozen? ⟨T, 0, none⟩ = false := blk_frozen hT 0
  have lT := blk_lt hT
  clear hI hT
  go_enter Try.func52, Try.ntmps52
  go_wp2_with (go_at_call 49; (with_reducible refine cI.out.mono ?_); rintro e w1 ⟨rfl, hb1⟩; obtain ⟨hcc, hff⟩ := fl_bcell hb1; replace hb1 := Aside0.mk hb1)
  go_ret
  exact ⟨rfl, w1, hb1.out, rfl⟩
set_option maxHeartbeats 4000000 in
set_option maxRecDepth 100000 in
theorem is_M (M : Nat) (mark : Int) (k : Nat) (w : World) (g : Nat) (A : Option Addr) (c : Nat) (ys : List S33) (sp ou po r : Int) (hM : w.heap[M]? = some (.cells #[.int .i64 mark] 3 (0, 0))) (hF : w.heap[g]? = some (.cells #[.slice A ys.length c, .int .i64 sp, .int .i64 ou, .int .i64 po] 67 (0, 0))) (hC : Kd.C k33 w A ys.length ys) (h : levelL k 0 ys 0 = some r) :
    Calls Try.prog 42 #[.pointer (some ⟨g, 0, none⟩), .pointer (some ⟨M, 0, none⟩)] w fun e w' => e = .returned (.bool (decide (r ≤ mark))) ∧ Below w.heap.size w w' := by
  have cc1 := Aside0.mk (fun n => level_calls k (World.drewN w n) g A c ys sp ou po r hF (Kd.C_drewN hC n) h)
  have cc2 := Aside0.mk (fun n => level_calls k (World.drewN w n).drew g A c ys sp ou po r hF (Kd.C_drew (Kd.C_drewN hC n)) h)
  have m0 : w.cell? ⟨M, 0, none⟩ = some (.int .i64 mark) := (blk_cell hM 0).trans rfl
  have lM := blk_lt hM
  have m1 := Aside0.mk m0
  clear hF hC h hM
  go_enter Try.func42, Try.ntmps42
  go_wp2
  go_region_held3 (fun w' => w'.cell? ⟨M, 0, none⟩ = some (.int .i64 mark) ∧ Below w.heap.size w w')
    (first | (refine (fun hbb => ⟨(Below.cell hbb lM).trans m1.out, hbb⟩ : Below w.heap.size w _ → _) ?_; go_split_ands; (repeat (first | assumption | exact Below.refl _ _ | exact below_step (by repeat (first | assumption | exact Below.refl _ _ | apply below_drew1 | apply pw_below_drewN | apply below_alloc)) hb1 | apply below_drew1 | apply pw_below_drewN | apply below_alloc))) | (trace_state; fail))
    (first | (go_at_call 43; refine (cc1.out 0).mono ?_; rintro e w1 ⟨rfl, hb1⟩) | (go_at_call 43; refine (cc2.out 0).mono ?_; rintro e w1 ⟨rfl, hb1⟩) | (go_at_call 43; trace_state; fail))
  all_goals
    go_wp2
    go_split_ands
    go_ret
    exact ⟨rfl, by assumption⟩
set_option maxHeartbeats 4000000 in
set_option maxRecDepth 100000 in
theorem first1_M_true (M : Nat) (mark : Int) (w : World) (F I T : Nat) (n at_ : Int) (hI : w.heap[I]? = some (.cells #[.func (.func 42) #[] #[.pointer (some ⟨M, 0, none⟩)]] 56 (0, 0))) (hT : w.heap[T]? = some (.cells #[.int .i64 at_] 3 (0, 0)))
    (cI : Aside0 (Calls Try.prog 42 #[.pointer (some ⟨F, 0, none⟩), .pointer (some ⟨M, 0, none⟩)] w (fun e w' => e = .returned (.bool true) ∧ Below w.heap.size w w'))) :
    Calls Try.prog 52 #[.int .i64 n, .pointer (some ⟨F, 0, none⟩), .pointer (some ⟨I, 0, none⟩), .pointer (some ⟨T, 0, none⟩)] w fun e w' => e = .returned (.bool (decide (n < 0))) ∧ ∃ w1, Below w.heap.size w w1 ∧ w' = w1.setCell ⟨T, 0, none⟩ (.int .i64 n) := by
  have i0 : w.cell? ⟨I, 0, none⟩ = some (.func (.func 42) #[] #[.pointer (some ⟨M, 0, none⟩)]) := (blk_cell hI 0).trans rfl
  have t0 : w.cell? ⟨T, 0, none⟩ = some (.int .i64 at_) := (blk_cell hT 0).trans rfl
  have tz : w.frozen? ⟨T, 0, none⟩ = false := blk_frozen hT 0
  have lT := blk_lt hT
  clear hI hT
  go_enter Try.func52, Try.ntmps52
  go_wp2_with (go_at_call 42; (with_reducible refine cI.out.mono ?_); rintro e w1 ⟨rfl, hb1⟩; obtain ⟨hcc, hff⟩ := fl_bcell hb1; replace hb1 := Aside0.mk hb1)
  go_ret
  exact ⟨rfl, w1, hb1.out, rfl⟩
set_option maxHeartbeats 4000000 in
set_option maxRecDepth 100000 in
theorem first1_M_false (M : Nat) (mark : Int) (w : World) (F I T : Nat) (n at_ : Int) (hI : w.heap[I]? = some (.cells #[.func (.func 42) #[] #[.pointer (some ⟨M, 0, none⟩)]] 56 (0, 0))) (hT : w.heap[T]? = some (.cells #[.int .i64 at_] 3 (0, 0)))
    (cI : Aside0 (Calls Try.prog 42 #[.pointer (some ⟨F, 0, none⟩), .pointer (some ⟨M, 0, none⟩)] w (fun e w' => e = .returned (.bool false) ∧ Below w.heap.size w w'))) :
    Calls Try.prog 52 #[.int .i64 n, .pointer (some ⟨F, 0, none⟩), .pointer (some ⟨I, 0, none⟩), .pointer (some ⟨T, 0, none⟩)] w fun e w' => e = .returned (.bool (decide (at_ < 0))) ∧ ∃ w1, Below w.heap.size w w1 ∧ w' = w1 := by
  have i0 : w.cell? ⟨I, 0, none⟩ = some (.func (.func 42) #[] #[.pointer (some ⟨M, 0, none⟩)]) := (blk_cell hI 0).trans rfl
  have t0 : w.cell? ⟨T, 0, none⟩ = some (.int .i64 at_) := (blk_cell hT 0).trans rfl
  have tz : w.frozen? ⟨T, 0, none⟩ = false := blk_frozen hT 0
  have lT := blk_lt hT
  clear hI hT
  go_enter Try.func52, Try.ntmps52
  go_wp2_with (go_at_call 42; (with_reducible refine cI.out.mono ?_); rintro e w1 ⟨rfl, hb1⟩; obtain ⟨hcc, hff⟩ := fl_bcell hb1; replace hb1 := Aside0.mk hb1)
  go_ret
  exact ⟨rfl, w1, hb1.out, rfl⟩
set_option maxHeartbeats 4000000 in
set_option maxRecDepth 100000 in
theorem contains_nil (w : World) (n : Int) : Calls Try.prog 54 #[.slice none 0 0, .int .i64 n] w fun e w' => e = .returned (.bool false) ∧ w = w' := by
  have c : Aside0 (Calls Try.prog 55 #[.slice none 0 0, .int .i64 n] w fun e w' => e = .returned (.int .i64 (-1)) ∧ w = w') := by
    constructor
    go_enter Try.func55, Try.ntmps55
    go_wp2
    go_loop [8] (fun i => i = .int .i64 0) (fun _ => 0)
    case atStart => rfl
    case round =>
      subst hrel
      go_wp2
      go_ret
      exact ⟨rfl, rfl⟩
  go_enter Try.func54, Try.ntmps54
  go_wp2_with (go_at_call 55; (with_reducible refine c.out.mono ?_); rintro e w1 ⟨rfl, rfl⟩)
  go_ret
  exact ⟨rfl, rfl⟩

/-- The number of minutes behind which it is so; -1: never. -/
def flowL (K : Nat) (isB : Int → Bool) : Nat → List S33 → Int → Option Int
  | 0, _, _ => none
  | k + 1, ys, n => (levelL K 0 ys 0).bind fun r => if isB r = true then some n else if n < 200 then (impl_minute.f K ys).bind fun m => flowL K isB k m.2.2 (wrap64 (n + 1)) else some (-1)
/-- What stands while it flows. -/
def FInv (w0 W : World) (F I T : Nat) (isV lv : Value) (ys : List S33) (sp ou : Int) : Prop :=
  W.heap[F]? = some (.cells #[lv, .int .i64 sp, .int .i64 ou, .int .i64 0] 67 (0, 0)) ∧ W.heap[I]? = some (.cells #[isV] 56 (0, 0)) ∧ W.heap[T]? = some (.cells #[.int .i64 (-1)] 3 (0, 0)) ∧
  Kd.R k33 33 W w0.heap.size (fun k_ => some k_ = lv.ownBlock) lv ys ∧ Below w0.heap.size w0 W
theorem FInv.below {w0 W W2 : World} {F I T : Nat} {isV lv : Value} {ys : List S33} {sp ou : Int} (h : FInv w0 W F I T isV lv ys sp ou) (hb : Below W.heap.size W W2) : FInv w0 W2 F I T isV lv ys sp ou :=
  ⟨blk_below h.1 hb, blk_below h.2.1 hb, blk_below h.2.2.1 hb, Kd.R_below h.2.2.2.1 hb, below_step h.2.2.2.2 hb⟩
theorem FInv.minute {w0 W W2 : World} {F I T : Nat} {isV lv : Value} {ys zs : List S33} {sp ou : Int} (h : FInv w0 W F I T isV lv ys sp ou)
    (hR : Kd.R k33 33 W2 w0.heap.size (fun k_ => some k_ = lv.ownBlock ∨ W.heap.size ≤ k_) lv zs) (hB : Below w0.heap.size w0 W2) (hK : Kept W W2 (fun k_ => some k_ = lv.ownBlock)) : FInv w0 W2 F I T isV lv zs sp ou :=
  ⟨blk_kept h.1 hK (fun e => Kd.R_ne h.2.2.2.1 h.1 (by decide) e), blk_kept h.2.1 hK (fun e => Kd.R_ne h.2.2.2.1 h.2.1 (by decide) e), blk_kept h.2.2.1 hK (fun e => Kd.R_ne h.2.2.2.1 h.2.2.1 (by decide) e), Kd.R_tight rfl hR, hB⟩
theorem FInv.put1 {w0 W : World} {F I T : Nat} {isV lv : Value} {ys : List S33} {sp ou : Int} (h : FInv w0 W F I T isV lv ys sp ou) (hF : w0.heap.size ≤ F) (x : Int) : FInv w0 (W.setCell ⟨F, 1, none⟩ (.int .i64 x)) F I T isV lv ys x ou :=
  ⟨blk_put h.1 1 _ rfl, blk_far h.2.1 (blk_ne h.2.1 h.1 (by decide)) _, blk_far h.2.2.1 (blk_ne h.2.2.1 h.1 (by decide)) _, Kd.R_set h.2.2.2.1 h.1 (by decide) 1 _, below_set h.2.2.2.2 hF⟩
theorem FInv.put2 {w0 W : World} {F I T : Nat} {isV lv : Value} {ys : List S33} {sp ou : Int} (h : FInv w0 W F I T isV lv ys sp ou) (hF : w0.heap.size ≤ F) (x : Int) : FInv w0 (W.setCell ⟨F, 2, none⟩ (.int .i64 x)) F I T isV lv ys sp x :=
  ⟨blk_put h.1 2 _ rfl, blk_far h.2.1 (blk_ne h.2.1 h.1 (by decide)) _, blk_far h.2.2.1 (blk_ne h.2.2.1 h.1 (by decide)) _, Kd.R_set h.2.2.2.1 h.1 (by decide) 2 _, below_set h.2.2.2.2 hF⟩
set_option maxHeartbeats 8000000 in
set_option maxRecDepth 100000 in
theorem flowing_E (K k : Nat) (w0 w : World) (A : Option Addr) (c : Nat) (xs : List S33) (I T : Nat) (r : Int) (hC : Kd.C k33 w A xs.length xs) (hc : xs.length ≤ c) (hcl : impl_Vessel_45.f xs = some xs)
    (hI : w.heap[I]? = some (.cells #[(.func (.func 49) #[] #[])] 56 (0, 0))) (hT : w.heap[T]? = some (.cells #[.int .i64 (-1)] 3 (0, 0))) (hB : Below w0.heap.size w0 w) (hTg : w0.heap.size ≤ T) (h : flowL K (fun r => r == 0) k xs 0 = some r) :
    Calls Try.prog 51 #[.slice A xs.length c, .slice none 0 0, .int .i64 200, .func (.func 52) #[] #[.pointer (some ⟨I, 0, none⟩), .pointer (some ⟨T, 0, none⟩)]] w fun e w' => (∃ F, e = .returned (.pointer (some ⟨F, 0, none⟩))) ∧ w'.heap[T]? = some (.cells #[.int .i64 r] 3 (0, 0)) ∧ Below w0.heap.size w0 w' := by
  have HC := Aside0.mk hC
  have HI := Aside0.mk hI
  have HT := Aside0.mk hT
  have HB := Aside0.mk hB
  have HL := Aside0.mk hcl
  have H' := Aside0.mk h
  skip
  clear hC hI hT hB hcl h
  go_enter Try.func51, Try.ntmps51
  go_wp2_with (go_at_call 45; (with_reducible refine (impl_Vessel_45.calls A c xs xs _ HC.out hc HL.out).mono ?_); rintro e w1 ⟨lv, rfl, hr1, hb1⟩; obtain ⟨A1, c1, rfl⟩ := Kd.R_slice hr1; have HR1 := Aside0.mk hr1; have HB1 := Aside0.mk hb1; clear hr1 hb1)
  have HV0 : Aside0 (FInv w0 (w1.alloc (.cells #[.slice A1 xs.length c1, .int .i64 0, .int .i64 0, .int .i64 0] 67 (0, 0))) w1.heap.size I T (.func (.func 49) #[] #[]) (.slice A1 xs.length c1) xs 0 0) := ⟨blk_new _ _, blk_alloc (blk_below HI.out HB1.out) _, blk_alloc (blk_below HT.out HB1.out) _, Kd.R_alloc (Kd.R_tight rfl (Kd.R_lower HR1.out (below_size HB.out))) _, below_alloc (below_step HB.out HB1.out) _⟩
  have hFg : w0.heap.size ≤ w1.heap.size := below_size (below_step HB.out HB1.out)
  clear HR1 HB1 HI HT HB HC HL
  generalize w1.alloc (.cells #[.slice A1 xs.length c1, .int .i64 0, .int .i64 0, .int .i64 0] 67 (0, 0)) = w2 at HV0 ⊢
  generalize w1.heap.size = F at HV0 hFg ⊢
  go_loopg [10] k (fun kq v10 w' => ∃ (n : Int) (ys : List S33) (sp ou : Int), v10 = .int .i64 n ∧ Aside0 (flowL K (fun r => r == 0) kq ys n = some r) ∧ Aside0 (kq ≤ k) ∧ Aside0 (0 ≤ n ∧ n ≤ 200) ∧ Aside0 (FInv w0 w' F I T (.func (.func 49) #[] #[]) (.slice A1 xs.length c1) ys sp ou))
  case atStart => exact ⟨0, xs, 0, 0, (by first | rfl | (simp; done)), H', ⟨Nat.le_refl _⟩, ⟨by decide⟩, HV0⟩
  case round =>
    clear H' HV0
    obtain ⟨n, ys, sp, ou, rfl, HA, HK1, HN, HV⟩ := hrel
    cases gk with
    | zero => exact absurd HA.out (by simp [flowL])
    | succ k1 =>
      have H := HA.out
      clear HA
      simp only [flowL] at H
      obtain ⟨r0, e0, H⟩ := Option.bind_eq_some_iff.mp H
      have hn0 : decide (n < 0) = false := decide_eq_false (by have := HN.out; omega)
      have QI := Aside0.mk HV.out.2.1
      have QT := Aside0.mk HV.out.2.2.1
      have hF1 := HV.out.1
      have hlen := (Kd.R_reads' HV.out.2.2.2.1).1
      have hC1 := (Kd.R_reads' HV.out.2.2.2.1).2.2
      rw [hlen] at hF1
      have cI0 := Aside0.mk (is_E K _ F A1 c1 ys sp ou 0 r0 hF1 hC1 e0)
      clear hF1 hC1 hlen e0
      by_cases hb : (r0 == 0) = true
      · rw [if_pos hb] at H
        obtain rfl := Option.some.inj H
        have cI := cI0
        rw [hb] at cI
        clear cI0 hb H
        go_wp2_with (go_at_call 52; (with_reducible refine (first1_E_true _ F I T n (-1) QI.out QT.out cI).mono ?_); rintro e w3 ⟨rfl, w4, hb4, rfl⟩; replace hb4 := Aside0.mk hb4)
        go_ret
        exact ⟨⟨F, rfl⟩, blk_put (blk_below HV.out.2.2.1 hb4.out) 0 _ rfl, below_set (below_step HV.out.2.2.2.2 hb4.out) hTg⟩
      · rw [if_neg hb] at H
        replace hb := Bool.eq_false_iff.mpr hb
        have cI := cI0
        rw [hb] at cI
        clear cI0 hb
        by_cases hn : n < 200
        · rw [if_pos hn] at H
          have hn1 : decide (n < 200) = true := decide_eq_true hn
          obtain ⟨⟨m1, m2, zs⟩, em, H⟩ := Option.bind_eq_some_iff.mp H
          have EM := Aside0.mk em
          have H' := Aside0.mk H
          clear em H hn
          go_wp2_with (first
            | (go_at_call 52; (with_reducible refine (first1_E_false _ F I T n (-1) QI.out QT.out cI).mono ?_); rintro e w3 ⟨rfl, w4, hb4, rfl⟩; have HV3 := Aside0.mk (FInv.below HV.out hb4); have B3 := Aside0.mk HV3.out.2.2.2.2; have R3 := Aside0.mk HV3.out.2.2.2.1; have f0 := (blk_cell HV3.out.1 0).trans rfl; clear hb4)
            | (go_at_call 54; (with_reducible refine (contains_nil _ _).mono ?_); rintro e w5 ⟨rfl, rfl⟩)
            | (go_at_call 47; (with_reducible refine (impl_minute.calls K (fun k_ => some k_ = (Value.slice A1 xs.length c1).ownBlock) (.slice A1 xs.length c1) ys m1 m2 zs w0 _ B3.out R3.out EM.out).mono ?_); rintro e w6 ⟨rfl, hR6, hB6, hK6⟩; have HV6 := Aside0.mk (FInv.minute HV3.out hR6 hB6 hK6); clear hR6 hB6 hK6 f0; have g1 := (blk_cell HV6.out.1 1).trans rfl; have g2 := (blk_cell HV6.out.1 2).trans rfl; have z1 := blk_frozen HV6.out.1 1; have z2 := blk_frozen HV6.out.1 2))

          go_roundg k1
          case measure => have := HK1.out; omega
          case rel => exact ⟨wrap64 (n + 1), zs, wrap64 (sp + m1), wrap64 (ou + m2), (by first | rfl | (simp; done) | (simp [*]; done)), H', ⟨by have := HK1.out; omega⟩, ⟨by have h_ := HN.out; have h2_ : n < 200 := of_decide_eq_true hn1; rw [show wrap64 (n + 1) = n + 1 from by unfold wrap64; omega]; omega⟩, ⟨FInv.put2 (FInv.put1 HV6.out hFg _) hFg _⟩⟩
        · rw [if_neg hn] at H
          have hn1 : decide (n < 200) = false := decide_eq_false hn
          obtain rfl := Option.some.inj H
          clear hn H
          go_wp2_with (go_at_call 52; (with_reducible refine (first1_E_false _ F I T n (-1) QI.out QT.out cI).mono ?_); rintro e w3 ⟨rfl, w4, hb4, rfl⟩; have HV3 := Aside0.mk (FInv.below HV.out hb4); clear hb4)
          go_ret
          exact ⟨⟨F, rfl⟩, HV3.out.2.2.1, HV3.out.2.2.2.2⟩
set_option maxHeartbeats 8000000 in
set_option maxRecDepth 100000 in
theorem flowing_M (M : Nat) (mark : Int) (K k : Nat) (w0 w : World) (A : Option Addr) (c : Nat) (xs : List S33) (I T : Nat) (r : Int) (hM : w0.heap[M]? = some (.cells #[.int .i64 mark] 3 (0, 0))) (hC : Kd.C k33 w A xs.length xs) (hc : xs.length ≤ c) (hcl : impl_Vessel_45.f xs = some xs)
    (hI : w.heap[I]? = some (.cells #[(.func (.func 42) #[] #[.pointer (some ⟨M, 0, none⟩)])] 56 (0, 0))) (hT : w.heap[T]? = some (.cells #[.int .i64 (-1)] 3 (0, 0))) (hB : Below w0.heap.size w0 w) (hTg : w0.heap.size ≤ T) (h : flowL K (fun r => decide (r ≤ mark)) k xs 0 = some r) :
    Calls Try.prog 51 #[.slice A xs.length c, .slice none 0 0, .int .i64 200, .func (.func 52) #[] #[.pointer (some ⟨I, 0, none⟩), .pointer (some ⟨T, 0, none⟩)]] w fun e w' => (∃ F, e = .returned (.pointer (some ⟨F, 0, none⟩))) ∧ w'.heap[T]? = some (.cells #[.int .i64 r] 3 (0, 0)) ∧ Below w0.heap.size w0 w' := by
  have HC := Aside0.mk hC
  have HI := Aside0.mk hI
  have HT := Aside0.mk hT
  have HB := Aside0.mk hB
  have HL := Aside0.mk hcl
  have H' := Aside0.mk h
  have HM0 := Aside0.mk hM
  clear hM
  clear hC hI hT hB hcl h
  go_enter Try.func51, Try.ntmps51
  go_wp2_with (go_at_call 45; (with_reducible refine (impl_Vessel_45.calls A c xs xs _ HC.out hc HL.out).mono ?_); rintro e w1 ⟨lv, rfl, hr1, hb1⟩; obtain ⟨A1, c1, rfl⟩ := Kd.R_slice hr1; have HR1 := Aside0.mk hr1; have HB1 := Aside0.mk hb1; clear hr1 hb1)
  have HV0 : Aside0 (FInv w0 (w1.alloc (.cells #[.slice A1 xs.length c1, .int .i64 0, .int .i64 0, .int .i64 0] 67 (0, 0))) w1.heap.size I T (.func (.func 42) #[] #[.pointer (some ⟨M, 0, none⟩)]) (.slice A1 xs.length c1) xs 0 0) := ⟨blk_new _ _, blk_alloc (blk_below HI.out HB1.out) _, blk_alloc (blk_below HT.out HB1.out) _, Kd.R_alloc (Kd.R_tight rfl (Kd.R_lower HR1.out (below_size HB.out))) _, below_alloc (below_step HB.out HB1.out) _⟩
  have hFg : w0.heap.size ≤ w1.heap.size := below_size (below_step HB.out HB1.out)
  clear HR1 HB1 HI HT HB HC HL
  generalize w1.alloc (.cells #[.slice A1 xs.length c1, .int .i64 0, .int .i64 0, .int .i64 0] 67 (0, 0)) = w2 at HV0 ⊢
  generalize w1.heap.size = F at HV0 hFg ⊢
  go_loopg [10] k (fun kq v10 w' => ∃ (n : Int) (ys : List S33) (sp ou : Int), v10 = .int .i64 n ∧ Aside0 (flowL K (fun r => decide (r ≤ mark)) kq ys n = some r) ∧ Aside0 (kq ≤ k) ∧ Aside0 (0 ≤ n ∧ n ≤ 200) ∧ Aside0 (FInv w0 w' F I T (.func (.func 42) #[] #[.pointer (some ⟨M, 0, none⟩)]) (.slice A1 xs.length c1) ys sp ou))
  case atStart => exact ⟨0, xs, 0, 0, (by first | rfl | (simp; done)), H', ⟨Nat.le_refl _⟩, ⟨by decide⟩, HV0⟩
  case round =>
    clear H' HV0
    obtain ⟨n, ys, sp, ou, rfl, HA, HK1, HN, HV⟩ := hrel
    cases gk with
    | zero => exact absurd HA.out (by simp [flowL])
    | succ k1 =>
      have H := HA.out
      clear HA
      simp only [flowL] at H
      obtain ⟨r0, e0, H⟩ := Option.bind_eq_some_iff.mp H
      have hn0 : decide (n < 0) = false := decide_eq_false (by have := HN.out; omega)
      have QI := Aside0.mk HV.out.2.1
      have QT := Aside0.mk HV.out.2.2.1
      have hF1 := HV.out.1
      have hlen := (Kd.R_reads' HV.out.2.2.2.1).1
      have hC1 := (Kd.R_reads' HV.out.2.2.2.1).2.2
      rw [hlen] at hF1
      have cI0 := Aside0.mk (is_M M mark K _ F A1 c1 ys sp ou 0 r0 (blk_below HM0.out HV.out.2.2.2.2) hF1 hC1 e0)
      clear hF1 hC1 hlen e0
      by_cases hb : decide (r0 ≤ mark) = true
      · rw [if_pos hb] at H
        obtain rfl := Option.some.inj H
        have cI := cI0
        rw [hb] at cI
        clear cI0 hb H
        go_wp2_with (go_at_call 52; (with_reducible refine (first1_M_true M mark _ F I T n (-1) QI.out QT.out cI).mono ?_); rintro e w3 ⟨rfl, w4, hb4, rfl⟩; replace hb4 := Aside0.mk hb4)
        go_ret
        exact ⟨⟨F, rfl⟩, blk_put (blk_below HV.out.2.2.1 hb4.out) 0 _ rfl, below_set (below_step HV.out.2.2.2.2 hb4.out) hTg⟩
      · rw [if_neg hb] at H
        replace hb := Bool.eq_false_iff.mpr hb
        have cI := cI0
        rw [hb] at cI
        clear cI0 hb
        by_cases hn : n < 200
        · rw [if_pos hn] at H
          have hn1 : decide (n < 200) = true := decide_eq_true hn
          obtain ⟨⟨m1, m2, zs⟩, em, H⟩ := Option.bind_eq_some_iff.mp H
          have EM := Aside0.mk em
          have H' := Aside0.mk H
          clear em H hn
          go_wp2_with (first
            | (go_at_call 52; (with_reducible refine (first1_M_false M mark _ F I T n (-1) QI.out QT.out cI).mono ?_); rintro e w3 ⟨rfl, w4, hb4, rfl⟩; have HV3 := Aside0.mk (FInv.below HV.out hb4); have B3 := Aside0.mk HV3.out.2.2.2.2; have R3 := Aside0.mk HV3.out.2.2.2.1; have f0 := (blk_cell HV3.out.1 0).trans rfl; clear hb4)
            | (go_at_call 54; (with_reducible refine (contains_nil _ _).mono ?_); rintro e w5 ⟨rfl, rfl⟩)
            | (go_at_call 47; (with_reducible refine (impl_minute.calls K (fun k_ => some k_ = (Value.slice A1 xs.length c1).ownBlock) (.slice A1 xs.length c1) ys m1 m2 zs w0 _ B3.out R3.out EM.out).mono ?_); rintro e w6 ⟨rfl, hR6, hB6, hK6⟩; have HV6 := Aside0.mk (FInv.minute HV3.out hR6 hB6 hK6); clear hR6 hB6 hK6 f0; have g1 := (blk_cell HV6.out.1 1).trans rfl; have g2 := (blk_cell HV6.out.1 2).trans rfl; have z1 := blk_frozen HV6.out.1 1; have z2 := blk_frozen HV6.out.1 2))

          go_roundg k1
          case measure => have := HK1.out; omega
          case rel => exact ⟨wrap64 (n + 1), zs, wrap64 (sp + m1), wrap64 (ou + m2), (by first | rfl | (simp; done) | (simp [*]; done)), H', ⟨by have := HK1.out; omega⟩, ⟨by have h_ := HN.out; have h2_ : n < 200 := of_decide_eq_true hn1; rw [show wrap64 (n + 1) = n + 1 from by unfold wrap64; omega]; omega⟩, ⟨FInv.put2 (FInv.put1 HV6.out hFg _) hFg _⟩⟩
        · rw [if_neg hn] at H
          have hn1 : decide (n < 200) = false := decide_eq_false hn
          obtain rfl := Option.some.inj H
          clear hn H
          go_wp2_with (go_at_call 52; (with_reducible refine (first1_M_false M mark _ F I T n (-1) QI.out QT.out cI).mono ?_); rintro e w3 ⟨rfl, w4, hb4, rfl⟩; have HV3 := Aside0.mk (FInv.below HV.out hb4); clear hb4)
          go_ret
          exact ⟨⟨F, rfl⟩, HV3.out.2.2.1, HV3.out.2.2.2.2⟩

set_option maxHeartbeats 8000000 in
set_option maxRecDepth 100000 in
theorem first_E (K k : Nat) (w : World) (A : Option Addr) (c : Nat) (xs : List S33) (r : Int) (hC : Kd.C k33 w A xs.length xs) (hc : xs.length ≤ c) (hcl : impl_Vessel_45.f xs = some xs) (h : flowL K (fun r => r == 0) k xs 0 = some r) :
    Calls Try.prog 41 #[.slice A xs.length c, .slice none 0 0, .func (.func 49) #[] #[]] w fun e w' => e = .returned (.int .i64 r) ∧ Below w.heap.size w w' := by
  have hI := Aside0.mk (show ((w.alloc (.cells #[.func (.func 49) #[] #[]] 56 (0, 0))).alloc (.cells #[.int .i64 (-1)] 3 (0, 0))).heap[w.heap.size]? = some (.cells #[.func (.func 49) #[] #[]] 56 (0, 0)) from blk_alloc (blk_new _ _) _)
  have hT := Aside0.mk (show ((w.alloc (.cells #[.func (.func 49) #[] #[]] 56 (0, 0))).alloc (.cells #[.int .i64 (-1)] 3 (0, 0))).heap[w.heap.size + 1]? = some (.cells #[.int .i64 (-1)] 3 (0, 0)) from by
    have h_ := blk_new (w.alloc (.cells #[.func (.func 49) #[] #[]] 56 (0, 0))) (.cells #[.int .i64 (-1)] 3 (0, 0))
    simpa using h_)
  have hB := Aside0.mk (show Below w.heap.size w ((w.alloc (.cells #[.func (.func 49) #[] #[]] 56 (0, 0))).alloc (.cells #[.int .i64 (-1)] 3 (0, 0))) from below_alloc (below_alloc (Below.refl _ _) _) _)
  have hC2 := Aside0.mk (Kd.C_below hC hB.out)
  have HL := Aside0.mk hcl
  have H := Aside0.mk h
  clear hC hcl h
  go_enter Try.func41, Try.ntmps41
  go_wp2_with (go_at_call 51; (with_reducible refine (flowing_E K k w _ A c xs w.heap.size (w.heap.size + 1) r hC2.out hc HL.out hI.out hT.out hB.out (Nat.le_succ _) H.out).mono ?_); rintro e w1 ⟨⟨F, rfl⟩, hT1, hB1⟩; have t0 := (blk_cell hT1 0).trans rfl; replace hB1 := Aside0.mk hB1; clear hT1)
  go_ret
  exact ⟨rfl, hB1.out⟩
set_option maxHeartbeats 8000000 in
set_option maxRecDepth 100000 in
theorem first_M (M : Nat) (mark : Int) (K k : Nat) (w : World) (A : Option Addr) (c : Nat) (xs : List S33) (r : Int) (hM : w.heap[M]? = some (.cells #[.int .i64 mark] 3 (0, 0))) (hC : Kd.C k33 w A xs.length xs) (hc : xs.length ≤ c) (hcl : impl_Vessel_45.f xs = some xs) (h : flowL K (fun r => decide (r ≤ mark)) k xs 0 = some r) :
    Calls Try.prog 41 #[.slice A xs.length c, .slice none 0 0, .func (.func 42) #[] #[.pointer (some ⟨M, 0, none⟩)]] w fun e w' => e = .returned (.int .i64 r) ∧ Below w.heap.size w w' := by
  have hI := Aside0.mk (show ((w.alloc (.cells #[.func (.func 42) #[] #[.pointer (some ⟨M, 0, none⟩)]] 56 (0, 0))).alloc (.cells #[.int .i64 (-1)] 3 (0, 0))).heap[w.heap.size]? = some (.cells #[.func (.func 42) #[] #[.pointer (some ⟨M, 0, none⟩)]] 56 (0, 0)) from blk_alloc (blk_new _ _) _)
  have hT := Aside0.mk (show ((w.alloc (.cells #[.func (.func 42) #[] #[.pointer (some ⟨M, 0, none⟩)]] 56 (0, 0))).alloc (.cells #[.int .i64 (-1)] 3 (0, 0))).heap[w.heap.size + 1]? = some (.cells #[.int .i64 (-1)] 3 (0, 0)) from by
    have h_ := blk_new (w.alloc (.cells #[.func (.func 42) #[] #[.pointer (some ⟨M, 0, none⟩)]] 56 (0, 0))) (.cells #[.int .i64 (-1)] 3 (0, 0))
    simpa using h_)
  have hB := Aside0.mk (show Below w.heap.size w ((w.alloc (.cells #[.func (.func 42) #[] #[.pointer (some ⟨M, 0, none⟩)]] 56 (0, 0))).alloc (.cells #[.int .i64 (-1)] 3 (0, 0))) from below_alloc (below_alloc (Below.refl _ _) _) _)
  have hC2 := Aside0.mk (Kd.C_below hC hB.out)
  have HL := Aside0.mk hcl
  have H := Aside0.mk h
  have HM := Aside0.mk hM
  clear hC hcl h hM
  go_enter Try.func41, Try.ntmps41
  go_wp2_with (go_at_call 51; (with_reducible refine (flowing_M M mark K k w _ A c xs w.heap.size (w.heap.size + 1) r HM.out hC2.out hc HL.out hI.out hT.out hB.out (Nat.le_succ _) H.out).mono ?_); rintro e w1 ⟨⟨F, rfl⟩, hT1, hB1⟩; have t0 := (blk_cell hT1 0).trans rfl; replace hB1 := Aside0.mk hB1; clear hT1)
  go_ret
  exact ⟨rfl, hB1.out⟩
theorem clone_self {l r : List S33} (h : impl_Vessel_45.f l = some r) : r = l := by
  unfold impl_Vessel_45.f at h
  simp only [Option.bind_some, List.length_nil, List.nil_append] at h
  split at h
  · exact (Option.some.inj h).symm
  · cases h
def emptyF (k : Nat) (l0 : List S33) : Option (Int × Bool) := (impl_AreVessels.f k l0).bind fun t => if t = true then (impl_Vessel_45.f l0).bind fun xs => (flowL k (fun r => r == 0) k xs 0).bind fun r => some (if r < 0 then 0 else r, decide (0 ≤ r)) else some (0, false)
set_option maxHeartbeats 8000000 in
set_option maxRecDepth 100000 in
theorem emptyF_calls (k : Nat) (A0 : Option Addr) (c0 : Nat) (l0 : List S33) (r1 : Int) (r2 : Bool) (w : World) (hr0 : Kd.C k33 w A0 l0.length l0) (hc0 : l0.length ≤ c0) (h : emptyF k l0 = some (r1, r2)) :
    Calls Try.prog 32 #[.slice A0 l0.length c0] w fun e w' => e = .returned (.tuple #[.int .i64 r1, .bool r2]) ∧ Below w.heap.size w w' := by
  unfold emptyF at h
  replace h := Option.bind_eq_some_iff.mp h
  obtain ⟨t, ht, h⟩ := h
  have HA := Aside0.mk ht
  have HC := Aside0.mk hr0
  have HB := Aside0.mk (Below.refl w.heap.size w)
  clear ht hr0
  cases t with
  | false =>
    obtain ⟨rfl, rfl⟩ := Prod.mk.inj (Option.some.inj h)
    clear h
    go_enter Try.func32, Try.ntmps32
    go_wp2_with (go_at_call 13; (with_reducible refine (impl_AreVessels.calls k A0 c0 l0 false _ HC.out hc0 HA.out).mono ?_); rintro e w1 ⟨rfl, hb1⟩; replace hb1 := Aside0.mk hb1)
    go_ret2
    exact ⟨rfl, hb1.out⟩
  | true =>
    rw [if_pos rfl] at h
    replace h := Option.bind_eq_some_iff.mp h
    obtain ⟨xs, hxs, h1⟩ := h
    obtain rfl := clone_self hxs
    obtain ⟨r, hr, h2⟩ := Option.bind_eq_some_iff.mp h1
    obtain ⟨rfl, rfl⟩ := Prod.mk.inj (Option.some.inj h2)
    clear h1 h2
    have HX := Aside0.mk hxs
    have HR := Aside0.mk hr
    clear hxs hr
    by_cases hn : r < 0
    · have d1 : decide (r < 0) = true := decide_eq_true hn
      have d2 : decide (0 ≤ r) = false := decide_eq_false (by omega)
      have d3 : (r < 0) = True := eq_true hn
      rw [if_pos hn, d2]
      clear hn
      go_enter Try.func32, Try.ntmps32
      go_wp2_with (first | (go_at_call 13; (with_reducible refine (impl_AreVessels.calls k A0 c0 xs true _ HC.out hc0 HA.out).mono ?_); rintro e w1 ⟨rfl, hb1⟩; have HC1 := Aside0.mk (Kd.C_below HC.out hb1); replace hb1 := Aside0.mk hb1) | (go_at_call 41; (with_reducible refine (first_E k k _ A0 c0 xs r HC1.out hc0 HX.out HR.out).mono ?_); rintro e w2 ⟨rfl, hb2⟩; replace hb2 := Aside0.mk hb2))
      go_ret2
      exact ⟨by first | rfl | simp [d3], below_step hb1.out hb2.out⟩
    · have d1 : decide (r < 0) = false := decide_eq_false hn
      have d2 : decide (0 ≤ r) = true := decide_eq_true (by omega)
      have d3 : (r < 0) = False := eq_false hn
      rw [if_neg hn, d2]
      clear hn
      go_enter Try.func32, Try.ntmps32
      go_wp2_with (first | (go_at_call 13; (with_reducible refine (impl_AreVessels.calls k A0 c0 xs true _ HC.out hc0 HA.out).mono ?_); rintro e w1 ⟨rfl, hb1⟩; have HC1 := Aside0.mk (Kd.C_below HC.out hb1); replace hb1 := Aside0.mk hb1) | (go_at_call 41; (with_reducible refine (first_E k k _ A0 c0 xs r HC1.out hc0 HX.out HR.out).mono ?_); rintro e w2 ⟨rfl, hb2⟩; replace hb2 := Aside0.mk hb2))
      go_ret2
      exact ⟨by first | rfl | simp [d3], below_step hb1.out hb2.out⟩

def markF (k : Nat) (a b c m : Int) : Option (Int × Bool) := (impl_AreVessels.f k [⟨a, b, c⟩]).bind fun t => if t = true then (impl_within.f m 0 a).bind fun t2 => if t2 = true then (impl_Vessel_45.f [⟨a, b, c⟩]).bind fun xs => (flowL k (fun r => decide (r ≤ m)) k xs 0).bind fun r => some (if r < 0 then 0 else r, decide (0 ≤ r)) else some (0, false) else some (0, false)
set_option maxHeartbeats 8000000 in
set_option maxRecDepth 100000 in
theorem markF_calls (k : Nat) (a b c m : Int) (r1 : Int) (r2 : Bool) (w : World) (h : markF k a b c m = some (r1, r2)) :
    Calls Try.prog 24 #[.agg #[.int .i64 a, .int .i64 b, .int .i64 c], .int .i64 m] w fun e w' => e = .returned (.tuple #[.int .i64 r1, .bool r2]) ∧ Below w.heap.size w w' := by
  unfold markF at h
  obtain ⟨ys, hys⟩ : ∃ ys : List S33, ys = [⟨a, b, c⟩] := ⟨_, rfl⟩
  rw [← hys] at h
  have NY := Aside0.mk hys
  clear hys
  have HV := Aside0.mk (show ((w.alloc (.cells #[.int .i64 a, .int .i64 b, .int .i64 c] 33 (0, 0))).alloc (.cells #[.int .i64 m] 3 (0, 0))).heap[w.heap.size]? = some (.cells #[.int .i64 a, .int .i64 b, .int .i64 c] 33 (0, 0)) from blk_alloc (blk_new _ _) _)
  have HM := Aside0.mk (show ((w.alloc (.cells #[.int .i64 a, .int .i64 b, .int .i64 c] 33 (0, 0))).alloc (.cells #[.int .i64 m] 3 (0, 0))).heap[w.heap.size + 1]? = some (.cells #[.int .i64 m] 3 (0, 0)) from by
    have h_ := blk_new (w.alloc (.cells #[.int .i64 a, .int .i64 b, .int .i64 c] 33 (0, 0))) (.cells #[.int .i64 m] 3 (0, 0))
    simpa using h_)
  have HB := Aside0.mk (show Below w.heap.size w ((w.alloc (.cells #[.int .i64 a, .int .i64 b, .int .i64 c] 33 (0, 0))).alloc (.cells #[.int .i64 m] 3 (0, 0))) from below_alloc (below_alloc (Below.refl _ _) _) _)
  have d3 : True := trivial
  replace h := Option.bind_eq_some_iff.mp h
  obtain ⟨t, ht, h⟩ := h
  have HA := Aside0.mk ht
  clear ht
  cases t with
  | false =>
    obtain ⟨rfl, rfl⟩ := Prod.mk.inj (Option.some.inj h)
    clear h
    go_enter Try.func24, Try.ntmps24
    go_wp2_with (first | ((with_reducible refine gate_dst (N := 9) rfl ?_); refine Kd.R_lit k33 _ 33 ?hg (N := 9) ?hd (xs := ([(⟨a, b, c⟩ : S33)] : List (S33))) (inner := [.int .i64 a, .int .i64 b, .int .i64 c]) (ok := fun _ => True) (okp := fun _ => True) ?hr ?hp (fun _ hk => hk) trivial (Below.refl _ _) (Nat.le_refl _) (by simp) ?_; (case hd => rfl); (case hg => rfl); (case hr => first | (go_simp; done) | (go_simp; rfl)); (case hp => exact (Reps.c3 (show Kd.M k33 _ _ _ (⟨a, b, c⟩ : S33) [.int .i64 a, .int .i64 b, .int .i64 c] from (k33_mkM _ _ _ (⟨a, b, c⟩ : S33) )) (Reps.none _ _))); intro v9 w9 ho9 hb hg_ hnew_; clear hg_ hnew_; (first | rw [← NY.out] at ho9 | (simp only [Int.reduceToNat] at ho9; rw [← NY.out] at ho9)); obtain ⟨A1, c1, eo1⟩ := Kd.R_slice ho9; subst eo1; have hc1 := (Kd.R_reads' ho9).2.1; have HC9 := Aside0.mk (Kd.R_reads' ho9).2.2; have HM9 := Aside0.mk (blk_below HM.out hb); have HV9 := Aside0.mk (blk_below HV.out hb); have HB9 := Aside0.mk (below_step HB.out hb); clear ho9 hb) | (go_at_call 13; (with_reducible refine (impl_AreVessels.calls k A1 c1 ys false _ HC9.out hc1 HA.out).mono ?_); rintro e w10 ⟨rfl, hb10⟩; have HC10 := Aside0.mk (Kd.C_below HC9.out hb10); have HM10 := Aside0.mk (blk_below HM9.out hb10); have HB10 := Aside0.mk (below_step HB9.out hb10); have m10 := (blk_cell HM10.out 0).trans rfl; have v10 := (blk_cell (blk_below HV9.out hb10) 0).trans rfl; clear hb10))
    go_ret2
    exact ⟨by first | rfl | simp [d3], HB10.out⟩
  | true =>
    rw [if_pos rfl] at h
    obtain ⟨t2, ht2, h1⟩ := Option.bind_eq_some_iff.mp h
    have HW := Aside0.mk ht2
    clear ht2 h
    cases t2 with
    | false =>
      obtain ⟨rfl, rfl⟩ := Prod.mk.inj (Option.some.inj h1)
      clear h1
      go_enter Try.func24, Try.ntmps24
      go_wp2_with (first | ((with_reducible refine gate_dst (N := 9) rfl ?_); refine Kd.R_lit k33 _ 33 ?hg (N := 9) ?hd (xs := ([(⟨a, b, c⟩ : S33)] : List (S33))) (inner := [.int .i64 a, .int .i64 b, .int .i64 c]) (ok := fun _ => True) (okp := fun _ => True) ?hr ?hp (fun _ hk => hk) trivial (Below.refl _ _) (Nat.le_refl _) (by simp) ?_; (case hd => rfl); (case hg => rfl); (case hr => first | (go_simp; done) | (go_simp; rfl)); (case hp => exact (Reps.c3 (show Kd.M k33 _ _ _ (⟨a, b, c⟩ : S33) [.int .i64 a, .int .i64 b, .int .i64 c] from (k33_mkM _ _ _ (⟨a, b, c⟩ : S33) )) (Reps.none _ _))); intro v9 w9 ho9 hb hg_ hnew_; clear hg_ hnew_; (first | rw [← NY.out] at ho9 | (simp only [Int.reduceToNat] at ho9; rw [← NY.out] at ho9)); obtain ⟨A1, c1, eo1⟩ := Kd.R_slice ho9; subst eo1; have hc1 := (Kd.R_reads' ho9).2.1; have HC9 := Aside0.mk (Kd.R_reads' ho9).2.2; have HM9 := Aside0.mk (blk_below HM.out hb); have HV9 := Aside0.mk (blk_below HV.out hb); have HB9 := Aside0.mk (below_step HB.out hb); clear ho9 hb) | (go_at_call 13; (with_reducible refine (impl_AreVessels.calls k A1 c1 ys true _ HC9.out hc1 HA.out).mono ?_); rintro e w10 ⟨rfl, hb10⟩; have HC10 := Aside0.mk (Kd.C_below HC9.out hb10); have HM10 := Aside0.mk (blk_below HM9.out hb10); have HB10 := Aside0.mk (below_step HB9.out hb10); have m10 := (blk_cell HM10.out 0).trans rfl; have v10 := (blk_cell (blk_below HV9.out hb10) 0).trans rfl; clear hb10) | (go_at_call 34; (with_reducible refine (impl_within.calls m 0 a false _ HW.out).mono ?_); rintro e w11 ⟨rfl, ⟨nd, rfl⟩⟩))
      go_ret2
      exact ⟨by first | rfl | simp [d3], pw_below_drewN HB10.out _⟩
    | true =>
      rw [if_pos rfl] at h1
      obtain ⟨xs, hxs, h2⟩ := Option.bind_eq_some_iff.mp h1
      have exs := clone_self hxs
      rw [exs] at hxs h2
      clear exs
      obtain ⟨r, hr, h3⟩ := Option.bind_eq_some_iff.mp h2
      obtain ⟨rfl, rfl⟩ := Prod.mk.inj (Option.some.inj h3)
      have HX := Aside0.mk hxs
      have HR := Aside0.mk hr
      clear hxs hr h1 h2 h3
      by_cases hn : r < 0
      · have d1 : decide (r < 0) = true := decide_eq_true hn
        have d2 : decide (0 ≤ r) = false := decide_eq_false (by omega)
        have d3 : (r < 0) = True := eq_true hn
        rw [if_pos hn, d2]
        clear hn
        go_enter Try.func24, Try.ntmps24
        go_wp2_with (first | ((with_reducible refine gate_dst (N := 9) rfl ?_); refine Kd.R_lit k33 _ 33 ?hg (N := 9) ?hd (xs := ([(⟨a, b, c⟩ : S33)] : List (S33))) (inner := [.int .i64 a, .int .i64 b, .int .i64 c]) (ok := fun _ => True) (okp := fun _ => True) ?hr ?hp (fun _ hk => hk) trivial (Below.refl _ _) (Nat.le_refl _) (by simp) ?_; (case hd => rfl); (case hg => rfl); (case hr => first | (go_simp; done) | (go_simp; rfl)); (case hp => exact (Reps.c3 (show Kd.M k33 _ _ _ (⟨a, b, c⟩ : S33) [.int .i64 a, .int .i64 b, .int .i64 c] from (k33_mkM _ _ _ (⟨a, b, c⟩ : S33) )) (Reps.none _ _))); intro v9 w9 ho9 hb hg_ hnew_; clear hg_ hnew_; (first | rw [← NY.out] at ho9 | (simp only [Int.reduceToNat] at ho9; rw [← NY.out] at ho9)); obtain ⟨A1, c1, eo1⟩ := Kd.R_slice ho9; subst eo1; have hc1 := (Kd.R_reads' ho9).2.1; have HC9 := Aside0.mk (Kd.R_reads' ho9).2.2; have HM9 := Aside0.mk (blk_below HM.out hb); have HV9 := Aside0.mk (blk_below HV.out hb); have HB9 := Aside0.mk (below_step HB.out hb); clear ho9 hb) | (go_at_call 13; (with_reducible refine (impl_AreVessels.calls k A1 c1 ys true _ HC9.out hc1 HA.out).mono ?_); rintro e w10 ⟨rfl, hb10⟩; have HC10 := Aside0.mk (Kd.C_below HC9.out hb10); have HM10 := Aside0.mk (blk_below HM9.out hb10); have HB10 := Aside0.mk (below_step HB9.out hb10); have m10 := (blk_cell HM10.out 0).trans rfl; have v10 := (blk_cell (blk_below HV9.out hb10) 0).trans rfl; clear hb10) | (go_at_call 34; (with_reducible refine (impl_within.calls m 0 a true _ HW.out).mono ?_); rintro e w11 ⟨rfl, ⟨nd, rfl⟩⟩) | (go_at_call 41; (with_reducible refine (first_M (w.heap.size + 1) m k k _ A1 c1 ys r (blk_drewN HM10.out _) (Kd.C_drewN HC10.out _) hc1 HX.out HR.out).mono ?_); rintro e w12 ⟨rfl, hb12⟩; replace hb12 := Aside0.mk hb12))
        go_ret2
        exact ⟨by first | rfl | simp [d3], below_step (pw_below_drewN HB10.out _) hb12.out⟩
      · have d1 : decide (r < 0) = false := decide_eq_false hn
        have d2 : decide (0 ≤ r) = true := decide_eq_true (by omega)
        have d3 : (r < 0) = False := eq_false hn
        rw [if_neg hn, d2]
        clear hn
        go_enter Try.func24, Try.ntmps24
        go_wp2_with (first | ((with_reducible refine gate_dst (N := 9) rfl ?_); refine Kd.R_lit k33 _ 33 ?hg (N := 9) ?hd (xs := ([(⟨a, b, c⟩ : S33)] : List (S33))) (inner := [.int .i64 a, .int .i64 b, .int .i64 c]) (ok := fun _ => True) (okp := fun _ => True) ?hr ?hp (fun _ hk => hk) trivial (Below.refl _ _) (Nat.le_refl _) (by simp) ?_; (case hd => rfl); (case hg => rfl); (case hr => first | (go_simp; done) | (go_simp; rfl)); (case hp => exact (Reps.c3 (show Kd.M k33 _ _ _ (⟨a, b, c⟩ : S33) [.int .i64 a, .int .i64 b, .int .i64 c] from (k33_mkM _ _ _ (⟨a, b, c⟩ : S33) )) (Reps.none _ _))); intro v9 w9 ho9 hb hg_ hnew_; clear hg_ hnew_; (first | rw [← NY.out] at ho9 | (simp only [Int.reduceToNat] at ho9; rw [← NY.out] at ho9)); obtain ⟨A1, c1, eo1⟩ := Kd.R_slice ho9; subst eo1; have hc1 := (Kd.R_reads' ho9).2.1; have HC9 := Aside0.mk (Kd.R_reads' ho9).2.2; have HM9 := Aside0.mk (blk_below HM.out hb); have HV9 := Aside0.mk (blk_below HV.out hb); have HB9 := Aside0.mk (below_step HB.out hb); clear ho9 hb) | (go_at_call 13; (with_reducible refine (impl_AreVessels.calls k A1 c1 ys true _ HC9.out hc1 HA.out).mono ?_); rintro e w10 ⟨rfl, hb10⟩; have HC10 := Aside0.mk (Kd.C_below HC9.out hb10); have HM10 := Aside0.mk (blk_below HM9.out hb10); have HB10 := Aside0.mk (below_step HB9.out hb10); have m10 := (blk_cell HM10.out 0).trans rfl; have v10 := (blk_cell (blk_below HV9.out hb10) 0).trans rfl; clear hb10) | (go_at_call 34; (with_reducible refine (impl_within.calls m 0 a true _ HW.out).mono ?_); rintro e w11 ⟨rfl, ⟨nd, rfl⟩⟩) | (go_at_call 41; (with_reducible refine (first_M (w.heap.size + 1) m k k _ A1 c1 ys r (blk_drewN HM10.out _) (Kd.C_drewN HC10.out _) hc1 HX.out HR.out).mono ?_); rintro e w12 ⟨rfl, hb12⟩; replace hb12 := Aside0.mk hb12))
        go_ret2
        exact ⟨by first | rfl | simp [d3], below_step (pw_below_drewN HB10.out _) hb12.out⟩

theorem levelL_mono : ∀ (k : Nat) (s : Int) (ys : List S33) (i : Int), LeO (levelL k s ys i) (levelL (k + 1) s ys i)
  | 0, _, _, _ => fun r h => by cases h
  | k + 1, s, ys, i => by
    rw [levelL, levelL]
    exact LeO.ite (LeO.ite (levelL_mono k _ _ _) (LeO.refl _)) (LeO.refl _)
theorem flowL_mono (K : Nat) (isB : Int → Bool) : ∀ (k : Nat) (ys : List S33) (n : Int), LeO (flowL K isB k ys n) (flowL (K + 1) isB (k + 1) ys n)
  | 0, _, _ => fun r h => by cases h
  | k + 1, ys, n => by
    rw [flowL, flowL]
    exact LeO.bind (levelL_mono _ _ _ _) (fun _ => LeO.ite (LeO.refl _) (LeO.ite (LeO.bind (impl_minute.mono _ _) (fun _ => flowL_mono K isB k _ _)) (LeO.refl _)))
theorem emptyF_mono (l : List S33) (k : Nat) : LeO (emptyF k l) (emptyF (k + 1) l) :=
  LeO.bind (impl_AreVessels.mono _ _) (fun _ => LeO.ite (LeO.bind (LeO.refl _) (fun _ => LeO.bind (flowL_mono _ _ _ _ _) (fun _ => LeO.refl _))) (LeO.refl _))
theorem markF_mono (a b c m : Int) (k : Nat) : LeO (markF k a b c m) (markF (k + 1) a b c m) :=
  LeO.bind (impl_AreVessels.mono _ _) (fun _ => LeO.ite (LeO.bind (LeO.refl _) (fun _ => LeO.ite (LeO.bind (LeO.refl _) (fun _ => LeO.bind (flowL_mono _ _ _ _ _) (fun _ => LeO.refl _))) (LeO.refl _))) (LeO.refl _))

/-! ### impl_EmptyTime: function 32, its contract told by hand -/
def impl_EmptyTime.f (k : Nat) (l0 : List (S33)) : Option (Int × Bool) := emptyF k l0
theorem impl_EmptyTime.mono : ∀ a0 k, LeO (impl_EmptyTime.f k a0) (impl_EmptyTime.f (k + 1) a0) := emptyF_mono
theorem impl_EmptyTime.calls (k : Nat) (A0 : Option Addr) (c0 : Nat) (l0 : List (S33)) (r1 : Int) (r2 : Bool) (w : World) (hr0 : Kd.C k33 w A0 l0.length l0) (hc0 : l0.length ≤ c0) (h : impl_EmptyTime.f k l0 = some (r1, r2)) :
    Calls Try.prog 32 #[.slice A0 l0.length c0] w fun e w' => e = .returned (.tuple #[.int .i64 r1, .bool r2]) ∧ Below w.heap.size w w' := emptyF_calls k A0 c0 l0 r1 r2 w hr0 hc0 h

/-! ### laws_FnExactEmptyTime: function 9 -/
def laws_FnExactEmptyTime.j0 : Nat → List (S30) → List (S33) → Bool → Option (Bool)
  | 0, _, _, _ => none
  | k + 1, x0, x6, x34 => if x34 = true then (some false) else ((laws_toVesselS.f k x0).bind fun t187 => ((laws_eqVesselS.f k x6 t187).bind fun t190 => (if t190 = true then (some true) else (some false))))
def laws_FnExactEmptyTime.f (k : Nat) (l0 : List (S30)) : Option (Bool) := (laws_szVesselS.f l0 1048576).bind fun t176 => (if t176 < 0 then (some true) else ((laws_toVesselS.f k l0).bind fun t177 => ((spec_EmptyTime.f k t177).bind fun bt180 => ((laws_toVesselS.f k l0).bind fun t182 => ((impl_EmptyTime.f k t182).bind fun bt185 => (if bt185.1 = bt180.1 then (laws_FnExactEmptyTime.j0 k l0 t182 (bt185.2 != bt180.2)) else (laws_FnExactEmptyTime.j0 k l0 t182 true)))))))
theorem laws_FnExactEmptyTime.mono_l : ∀ k, (∀ y0 y1 y2, LeO (laws_FnExactEmptyTime.j0 k y0 y1 y2) (laws_FnExactEmptyTime.j0 (k + 1) y0 y1 y2))
  | 0 => fun _ _ _ r h => by simp [laws_FnExactEmptyTime.j0] at h
  | k + 1 => by
    have ih0 := laws_FnExactEmptyTime.mono_l k
    · intro y0 y1 y2
      unfold laws_FnExactEmptyTime.j0
      repeat' first
      | (with_reducible exact ih0 _ _ _)
      | (with_reducible exact impl_EmptyTime.mono _ _)
      | (with_reducible exact laws_eqVesselS.mono _ _ _)
      | (with_reducible exact laws_toVesselS.mono _ _)
      | (with_reducible exact spec_EmptyTime.mono _ _)
      | (with_reducible exact LeO.refl _)
      | (with_reducible exact LeO.none _)
      | (with_reducible refine LeO.ite ?_ ?_)
      | (with_reducible refine LeO.bind ?_ (fun _ => ?_))
      | exact ih0 _ _ _
      | exact impl_EmptyTime.mono _ _
      | exact laws_eqVesselS.mono _ _ _
      | exact laws_toVesselS.mono _ _
      | exact spec_EmptyTime.mono _ _
      | exact LeO.none _
      | refine LeO.ite ?_ ?_
      | refine LeO.bind ?_ (fun _ => ?_)
theorem laws_FnExactEmptyTime.mono : ∀ a0 k, LeO (laws_FnExactEmptyTime.f k a0) (laws_FnExactEmptyTime.f (k + 1) a0) := by
  intro a0 k
  have ih0 := laws_FnExactEmptyTime.mono_l k
  unfold laws_FnExactEmptyTime.f
  repeat' first
      | (with_reducible exact ih0 _ _ _)
      | (with_reducible exact impl_EmptyTime.mono _ _)
      | (with_reducible exact laws_eqVesselS.mono _ _ _)
      | (with_reducible exact laws_toVesselS.mono _ _)
      | (with_reducible exact spec_EmptyTime.mono _ _)
      | (with_reducible exact LeO.refl _)
      | (with_reducible exact LeO.none _)
      | (with_reducible refine LeO.ite ?_ ?_)
      | (with_reducible refine LeO.bind ?_ (fun _ => ?_))
      | exact ih0 _ _ _
      | exact impl_EmptyTime.mono _ _
      | exact laws_eqVesselS.mono _ _ _
      | exact laws_toVesselS.mono _ _
      | exact spec_EmptyTime.mono _ _
      | exact LeO.none _
      | refine LeO.ite ?_ ?_
      | refine LeO.bind ?_ (fun _ => ?_)
set_option maxHeartbeats 8000000 in
set_option maxRecDepth 100000 in
theorem laws_FnExactEmptyTime.calls (k : Nat) (A0 : Option Addr) (c0 : Nat) (l0 : List (S30)) (w : World) (hr0 : Kd.C k30 w A0 l0.length l0) (hc0 : l0.length ≤ c0) (h : laws_FnExactEmptyTime.f k l0 = some true) :
    Calls Try.prog 9 #[.slice A0 l0.length c0] w fun e w' => e = .returned (.bool true) ∧ Below w.heap.size w w' := by
  have HR0 := Aside0.mk hr0
  have HC0 := Aside0.mk hc0
  clear hr0 hc0
  have HB := Aside0.mk (Below.refl w.heap.size w)
  have H : ((laws_szVesselS.f l0 1048576).bind fun t176 => (if t176 < 0 then (some true) else ((laws_toVesselS.f k l0).bind fun t177 => ((spec_EmptyTime.f k t177).bind fun bt180 => ((laws_toVesselS.f k l0).bind fun t182 => ((impl_EmptyTime.f k t182).bind fun bt185 => (if bt185.1 = bt180.1 then (laws_FnExactEmptyTime.j0 k l0 t182 (bt185.2 != bt180.2)) else (laws_FnExactEmptyTime.j0 k l0 t182 true)))))))) = some true := h
  clear h
  replace H := Option.bind_eq_some_iff.mp H
  obtain ⟨t176, A20, H⟩ := H
  replace H : (if t176 < 0 then (some true) else ((laws_toVesselS.f k l0).bind fun t177 => ((spec_EmptyTime.f k t177).bind fun bt180 => ((laws_toVesselS.f k l0).bind fun t182 => ((impl_EmptyTime.f k t182).bind fun bt185 => (if bt185.1 = bt180.1 then (laws_FnExactEmptyTime.j0 k l0 t182 (bt185.2 != bt180.2)) else (laws_FnExactEmptyTime.j0 k l0 t182 true))))))) = some true := H
  have A2 := Aside0.mk A20
  clear A20
  by_cases c3 : t176 < 0
  · rw [if_pos c3] at H
    have c3b0 : decide (t176 < 0) = true := decide_eq_true c3
    clear c3
    clear H
    go_enter Try.func9, Try.ntmps9
    go_wp2_with (first | ((with_reducible refine gate_callee (f := 10) rfl ?_); refine goesL_ (some 11) rfl rfl Try.func10 (by kernel_rfl) rfl #[.slice A0 l0.length c0, .int .i64 1048576] rfl (by (try simp only [List.map_toArray, List.map_cons, List.map_nil]); first | done | rfl | (simp only [List.length_drop, List.length_take]; rfl)) ?_; (with_reducible refine (laws_szVesselS.calls _ _ l0 1048576 t176 _ ?side1 ?side2 A2.out).mono ?_); (case side1 => repeat (first | exact HR0.out | (with_reducible refine Kd.C_alloc ?_ _) | (with_reducible refine Kd.C_drewN ?_ _) | (with_reducible refine Kd.C_drew ?_))); (case side2 => exact HC0.out); rintro e w' ⟨rfl, ⟨nd, rfl⟩⟩; refine ⟨_, rfl, ?_⟩))
    go_ret
    exact ⟨by first | rfl | (simp [errW_none, errW_some] <;> rfl) | (simp [*, errW_none, errW_some] <;> rfl), by repeat (first | (with_reducible first | exact HB.out | apply below_alloc | apply pw_below_drewN | apply below_drew1) | exact HB.out)⟩
  · rw [if_neg c3] at H
    have c3b0 : decide (t176 < 0) = false := decide_eq_false c3
    clear c3
    replace H := Option.bind_eq_some_iff.mp H
    obtain ⟨t177, A40, H⟩ := H
    replace H : ((spec_EmptyTime.f k t177).bind fun bt180 => ((laws_toVesselS.f k l0).bind fun t182 => ((impl_EmptyTime.f k t182).bind fun bt185 => (if bt185.1 = bt180.1 then (laws_FnExactEmptyTime.j0 k l0 t182 (bt185.2 != bt180.2)) else (laws_FnExactEmptyTime.j0 k l0 t182 true))))) = some true := H
    have A4 := Aside0.mk A40
    clear A40
    replace H := Option.bind_eq_some_iff.mp H
    obtain ⟨⟨t180, t181⟩, A50, H⟩ := H
    replace H : ((laws_toVesselS.f k l0).bind fun t182 => ((impl_EmptyTime.f k t182).bind fun bt185 => (if bt185.1 = t180 then (laws_FnExactEmptyTime.j0 k l0 t182 (bt185.2 != t181)) else (laws_FnExactEmptyTime.j0 k l0 t182 true)))) = some true := H
    have A5 := Aside0.mk A50
    clear A50
    replace H := Option.bind_eq_some_iff.mp H
    obtain ⟨t182, A60, H⟩ := H
    replace H : ((impl_EmptyTime.f k t182).bind fun bt185 => (if bt185.1 = t180 then (laws_FnExactEmptyTime.j0 k l0 t182 (bt185.2 != t181)) else (laws_FnExactEmptyTime.j0 k l0 t182 true))) = some true := H
    have A6 := Aside0.mk A60
    clear A60
    replace H := Option.bind_eq_some_iff.mp H
    obtain ⟨⟨t185, t186⟩, A70, H⟩ := H
    replace H : (if t185 = t180 then (laws_FnExactEmptyTime.j0 k l0 t182 (t186 != t181)) else (laws_FnExactEmptyTime.j0 k l0 t182 true)) = some true := H
    have A7 := Aside0.mk A70
    clear A70
    have HC8 := Aside0.mk H
    clear H
    go_enter Try.func9, Try.ntmps9
    go_upto_region 8 with (first | ((with_reducible refine gate_callee (f := 10) rfl ?_); refine goesL_ (some 11) rfl rfl Try.func10 (by kernel_rfl) rfl #[.slice A0 l0.length c0, .int .i64 1048576] rfl (by (try simp only [List.map_toArray, List.map_cons, List.map_nil]); first | done | rfl | (simp only [List.length_drop, List.length_take]; rfl)) ?_; (with_reducible refine (laws_szVesselS.calls _ _ l0 1048576 t176 _ ?side1 ?side2 A2.out).mono ?_); (case side1 => repeat (first | exact HR0.out | (with_reducible refine Kd.C_alloc ?_ _) | (with_reducible refine Kd.C_drewN ?_ _) | (with_reducible refine Kd.C_drew ?_))); (case side2 => exact HC0.out); rintro e w' ⟨rfl, ⟨nd, rfl⟩⟩; refine ⟨_, rfl, ?_⟩) | ((with_reducible refine gate_callee (f := 12) rfl ?_); refine goesL_ (some 16) rfl rfl Try.func12 (by kernel_rfl) rfl #[.slice A0 l0.length c0] rfl (by (try simp only [List.map_toArray, List.map_cons, List.map_nil]); first | done | rfl | (simp only [List.length_drop, List.length_take]; rfl)) ?_; (with_reducible refine (laws_toVesselS.calls k _ _ l0 t177 _ ?side1 ?side2 A4.out).mono ?_); (case side1 => repeat (first | exact HR0.out | (with_reducible refine Kd.C_alloc ?_ _) | (with_reducible refine Kd.C_drewN ?_ _) | (with_reducible refine Kd.C_drew ?_))); (case side2 => exact HC0.out); rintro e w9 ⟨v178, rfl, ho0, hb⟩; refine ⟨_, rfl, ?_⟩; have n0_ := Aside0.mk (Kd.R_lower ho0 (below_size (by repeat (first | (with_reducible first | exact HB.out | apply below_alloc | apply pw_below_drewN | apply below_drew1) | exact HB.out)))); have n1_ := Aside0.mk (below_step (by repeat (first | (with_reducible first | exact HB.out | apply below_alloc | apply pw_below_drewN | apply below_drew1) | exact HB.out)) hb); clear HB; have HO179 := n0_; have HB := n1_; clear n0_ n1_; (try clear hb); (try clear hb2); (try clear hk); (try clear hi); (try clear ho0); obtain ⟨Ao10, co10, eo10⟩ := Kd.R_slice HO179.out; subst eo10) | ((with_reducible refine gate_callee (f := 31) rfl ?_); refine goesL_ (some 17) rfl rfl Try.func31 (by kernel_rfl) rfl #[.slice Ao10 t177.length co10] rfl (by (try simp only [List.map_toArray, List.map_cons, List.map_nil]); first | done | rfl | (simp only [List.length_drop, List.length_take]; rfl)) ?_; (with_reducible refine (spec_EmptyTime.calls k _ _ t177 t180 t181 _ ?side1 ?side2 A5.out).mono ?_); (case side1 => repeat (first | exact (Kd.R_reads' HO179.out).2.2 | (with_reducible refine Kd.C_alloc ?_ _) | (with_reducible refine Kd.C_drewN ?_ _) | (with_reducible refine Kd.C_drew ?_))); (case side2 => exact (Kd.R_reads' HO179.out).2.1); rintro e w11 ⟨rfl, hb⟩; refine ⟨_, rfl, ?_⟩; have n0_ := Aside0.mk (Kd.R_below (by (with_reducible repeat (first | apply Kd.R_alloc | apply Kd.R_drewN | apply Kd.R_drew)); exact HO179.out) hb); have n1_ := Aside0.mk (below_step (by repeat (first | (with_reducible first | exact HB.out | apply below_alloc | apply pw_below_drewN | apply below_drew1) | exact HB.out)) hb); clear HO179; clear HB; have HO179 := n0_; have HB := n1_; clear n0_ n1_; (try clear hb); (try clear hb2); (try clear hk); (try clear hi)) | ((with_reducible refine gate_callee (f := 12) rfl ?_); refine goesL_ (some 21) rfl rfl Try.func12 (by kernel_rfl) rfl #[.slice A0 l0.length c0] rfl (by (try simp only [List.map_toArray, List.map_cons, List.map_nil]); first | done | rfl | (simp only [List.length_drop, List.length_take]; rfl)) ?_; (with_reducible refine (laws_toVesselS.calls k _ _ l0 t182 _ ?side1 ?side2 A6.out).mono ?_); (case side1 => repeat (first | exact (Kd.C_below HR0.out HB.out) | (with_reducible refine Kd.C_alloc ?_ _) | (with_reducible refine Kd.C_drewN ?_ _) | (with_reducible refine Kd.C_drew ?_))); (case side2 => exact HC0.out); rintro e w12 ⟨v183, rfl, ho0, hb⟩; refine ⟨_, rfl, ?_⟩; have n0_ := Aside0.mk (Kd.R_elder' (by (with_reducible repeat (first | apply Kd.R_alloc | apply Kd.R_drewN | apply Kd.R_drew)); exact HO179.out) (Kd.R_base ho0) hb); have n1_ := Aside0.mk (Kd.R_lower (Kd.R_new' ho0 (Kd.R_lt (by (with_reducible repeat (first | apply Kd.R_alloc | apply Kd.R_drewN | apply Kd.R_drew)); exact HO179.out))) (below_size (by repeat (first | (with_reducible first | exact HB.out | apply below_alloc | apply pw_below_drewN | apply below_drew1) | exact HB.out)))); have n2_ := Aside0.mk (below_step (by repeat (first | (with_reducible first | exact HB.out | apply below_alloc | apply pw_below_drewN | apply below_drew1) | exact HB.out)) hb); clear HO179; clear HB; have HO179 := n0_; have HO184 := n1_; have HB := n2_; clear n0_ n1_ n2_; (try clear hb); (try clear hb2); (try clear hk); (try clear hi); (try clear ho0); obtain ⟨Ao13, co13, eo13⟩ := Kd.R_slice HO184.out; subst eo13) | ((with_reducible refine gate_callee (f := 32) rfl ?_); refine goesL_ (some 24) rfl rfl Try.func32 (by kernel_rfl) rfl #[.slice Ao13 t182.length co13] rfl (by (try simp only [List.map_toArray, List.map_cons, List.map_nil]); first | done | rfl | (simp only [List.length_drop, List.length_take]; rfl)) ?_; (with_reducible refine (impl_EmptyTime.calls k _ _ t182 t185 t186 _ ?side1 ?side2 A7.out).mono ?_); (case side1 => repeat (first | exact (Kd.R_reads' HO184.out).2.2 | (with_reducible refine Kd.C_alloc ?_ _) | (with_reducible refine Kd.C_drewN ?_ _) | (with_reducible refine Kd.C_drew ?_))); (case side2 => exact (Kd.R_reads' HO184.out).2.1); rintro e w14 ⟨rfl, hb⟩; refine ⟨_, rfl, ?_⟩; have n0_ := Aside0.mk (Kd.R_below (by (with_reducible repeat (first | apply Kd.R_alloc | apply Kd.R_drewN | apply Kd.R_drew)); exact HO179.out) hb); have n1_ := Aside0.mk (Kd.R_below (by (with_reducible repeat (first | apply Kd.R_alloc | apply Kd.R_drewN | apply Kd.R_drew)); exact HO184.out) hb); have n2_ := Aside0.mk (below_step (by repeat (first | (with_reducible first | exact HB.out | apply below_alloc | apply pw_below_drewN | apply below_drew1) | exact HB.out)) hb); clear HO179; clear HO184; clear HB; have HO179 := n0_; have HO184 := n1_; have HB := n2_; clear n0_ n1_ n2_; (try clear hb); (try clear hb2); (try clear hk); (try clear hi)))
    (try simp only [Act.put, List.setIfInBounds_toArray, List.set_cons_zero, List.set_cons_succ])
    go_cut [34] (fun v34 wc => ∃ (kq : Nat) (x34_7 : Bool), v34 = .bool x34_7 ∧ Aside0 (laws_FnExactEmptyTime.j0 kq l0 t182 x34_7 = some true) ∧ Aside0 (kq ≤ k) ∧ Aside0 (Kd.R k33 33 wc w.heap.size (fun _ => True) (.slice Ao13 t182.length co13) t182) ∧ Aside0 (Below w.heap.size w wc))
    case first =>
      have H := HC8.out
      clear HC8
      by_cases c15 : t185 = t180
      · rw [if_pos c15] at H
        have c15b0 : (t185 == t180) = true := beq_iff_eq.mpr c15
        have c15b1 : (t185 != t180) = false := bne_eq_false_iff_eq.mpr c15
        clear c15
        (first | rw [c15b0] | (simp only [i64_w, i32_w]; rw [c15b0]) | skip)
        have H' := Aside0.mk H
        clear H
        go_wp2
        go_meet
        case rel => exact ⟨_, ((t186 != t181)), (by first | rfl | (simp; done) | (simp [*]; done)), H', ⟨by first | omega | exact Nat.le_refl _⟩, ⟨by (with_reducible repeat (first | apply Kd.R_alloc | apply Kd.R_drewN | apply Kd.R_drew)); exact Kd.R_mono HO184.out (fun _ hk => trivial)⟩, ⟨by repeat (first | (with_reducible first | exact HB.out | apply below_alloc | apply pw_below_drewN | apply below_drew1) | exact HB.out)⟩⟩
      · rw [if_neg c15] at H
        have c15b0 : (t185 == t180) = false := beq_eq_false_iff_ne.mpr c15
        have c15b1 : (t185 != t180) = true := bne_iff_ne.mpr c15
        (first | rw [c15b0] | (simp only [i64_w, i32_w]; rw [c15b0]) | skip)
        have H' := Aside0.mk H
        clear H
        go_wp2
        go_meet
        case rel => exact ⟨_, (true), (by first | rfl | (simp; done) | (simp [*]; done)), H', ⟨by first | omega | exact Nat.le_refl _⟩, ⟨by (with_reducible repeat (first | apply Kd.R_alloc | apply Kd.R_drewN | apply Kd.R_drew)); exact Kd.R_mono HO184.out (fun _ hk => trivial)⟩, ⟨by repeat (first | (with_reducible first | exact HB.out | apply below_alloc | apply pw_below_drewN | apply below_drew1) | exact HB.out)⟩⟩
    case rest =>
      clear HC8
      try clear c1
      try clear p2
      try clear c3
      try clear c3b0
      try clear c9
      try clear c10
      try clear c12
      try clear c15
      try clear c15b0
      try clear c15b1
      obtain ⟨kq, x34_7, rfl, HA, HJ7, HO_6, HB⟩ := hcut
      cases kq with
      | zero => exact absurd HA.out (by simp [laws_FnExactEmptyTime.j0])
      | succ kj7 =>
        have H := HA.out
        clear HA
        simp only [laws_FnExactEmptyTime.j0] at H
        by_cases c16 : x34_7 = true
        · subst c16
          have H1 : (some false) = some true := by first | (rw [if_pos rfl] at H; exact H) | rfl
          clear H
          have H := H1
          clear H1
          exact absurd H (by simp)
        · replace c16 := Bool.eq_false_iff.mpr c16
          subst c16
          have H1 : ((laws_toVesselS.f kj7 l0).bind fun t187 => ((laws_eqVesselS.f kj7 t182 t187).bind fun t190 => (if t190 = true then (some true) else (some false)))) = some true := by rw [if_neg (show ¬ (false = true) by decide)] at H; exact H
          clear H
          have H := H1
          clear H1
          replace H := Option.bind_eq_some_iff.mp H
          obtain ⟨t187, A170, H⟩ := H
          replace H : ((laws_eqVesselS.f kj7 t182 t187).bind fun t190 => (if t190 = true then (some true) else (some false))) = some true := H
          have A17 := Aside0.mk A170
          clear A170
          replace H := Option.bind_eq_some_iff.mp H
          obtain ⟨t190, A180, H⟩ := H
          replace H : (if t190 = true then (some true) else (some false)) = some true := H
          have A18 := Aside0.mk A180
          clear A180
          by_cases c19 : t190 = true
          · subst c19
            have H1 : (some true) = some true := by first | (rw [if_pos rfl] at H; exact H) | rfl
            clear H
            have H := H1
            clear H1
            clear H
            go_wp2_with (first | ((with_reducible refine gate_callee (f := 12) rfl ?_); refine goesL_ (some 37) rfl rfl Try.func12 (by kernel_rfl) rfl #[.slice A0 l0.length c0] rfl (by (try simp only [List.map_toArray, List.map_cons, List.map_nil]); first | done | rfl | (simp only [List.length_drop, List.length_take]; rfl)) ?_; (with_reducible refine (laws_toVesselS.calls kj7 _ _ l0 t187 _ ?side1 ?side2 A17.out).mono ?_); (case side1 => repeat (first | exact (Kd.C_below HR0.out HB.out) | (with_reducible refine Kd.C_alloc ?_ _) | (with_reducible refine Kd.C_drewN ?_ _) | (with_reducible refine Kd.C_drew ?_))); (case side2 => exact HC0.out); rintro e w20 ⟨v188, rfl, ho0, hb⟩; refine ⟨_, rfl, ?_⟩; have n0_ := Aside0.mk (Kd.R_elder' (by (with_reducible repeat (first | apply Kd.R_alloc | apply Kd.R_drewN | apply Kd.R_drew)); exact HO_6.out) (Kd.R_base ho0) hb); have n1_ := Aside0.mk (Kd.R_lower (Kd.R_new' ho0 (Kd.R_lt (by (with_reducible repeat (first | apply Kd.R_alloc | apply Kd.R_drewN | apply Kd.R_drew)); exact HO_6.out))) (below_size (by repeat (first | (with_reducible first | exact HB.out | apply below_alloc | apply pw_below_drewN | apply below_drew1) | exact HB.out)))); have n2_ := Aside0.mk (below_step (by repeat (first | (with_reducible first | exact HB.out | apply below_alloc | apply pw_below_drewN | apply below_drew1) | exact HB.out)) hb); clear HO_6; clear HB; have HO_6 := n0_; have HO189 := n1_; have HB := n2_; clear n0_ n1_ n2_; (try clear hb); (try clear hb2); (try clear hk); (try clear hi); (try clear ho0); obtain ⟨Ao21, co21, eo21⟩ := Kd.R_slice HO189.out; subst eo21) | ((with_reducible refine gate_callee (f := 14) rfl ?_); refine goesL_ (some 38) rfl rfl Try.func14 (by kernel_rfl) rfl #[.slice Ao13 t182.length co13, .slice Ao21 t187.length co21] rfl (by (try simp only [List.map_toArray, List.map_cons, List.map_nil]); first | done | rfl | (simp only [List.length_drop, List.length_take]; rfl)) ?_; (with_reducible refine (laws_eqVesselS.calls kj7 _ _ t182 _ _ t187 true _ ?side1 ?side2 ?side3 ?side4 A18.out).mono ?_); (case side1 => repeat (first | exact (Kd.R_reads' HO_6.out).2.2 | (with_reducible refine Kd.C_alloc ?_ _) | (with_reducible refine Kd.C_drewN ?_ _) | (with_reducible refine Kd.C_drew ?_))); (case side2 => exact (Kd.R_reads' HO_6.out).2.1); (case side3 => repeat (first | exact (Kd.R_reads' HO189.out).2.2 | (with_reducible refine Kd.C_alloc ?_ _) | (with_reducible refine Kd.C_drewN ?_ _) | (with_reducible refine Kd.C_drew ?_))); (case side4 => exact (Kd.R_reads' HO189.out).2.1); rintro e w22 ⟨rfl, hb⟩; refine ⟨_, rfl, ?_⟩; have n0_ := Aside0.mk (Kd.R_below (by (with_reducible repeat (first | apply Kd.R_alloc | apply Kd.R_drewN | apply Kd.R_drew)); exact HO_6.out) hb); have n1_ := Aside0.mk (Kd.R_below (by (with_reducible repeat (first | apply Kd.R_alloc | apply Kd.R_drewN | apply Kd.R_drew)); exact HO189.out) hb); have n2_ := Aside0.mk (below_step (by repeat (first | (with_reducible first | exact HB.out | apply below_alloc | apply pw_below_drewN | apply below_drew1) | exact HB.out)) hb); clear HO_6; clear HO189; clear HB; have HO_6 := n0_; have HO189 := n1_; have HB := n2_; clear n0_ n1_ n2_; (try clear hb); (try clear hb2); (try clear hk); (try clear hi)))
            go_ret
            exact ⟨by first | rfl | (simp [errW_none, errW_some] <;> rfl) | (simp [*, errW_none, errW_some] <;> rfl), by repeat (first | (with_reducible first | exact HB.out | apply below_alloc | apply pw_below_drewN | apply below_drew1) | exact HB.out)⟩
          · replace c19 := Bool.eq_false_iff.mpr c19
            subst c19
            have H1 : (some false) = some true := by first | (rw [if_neg (show ¬ (false = true) by decide)] at H; exact H) | rfl
            clear H
            have H := H1
            clear H1
            exact absurd H (by simp)

/-- The one pure statement of laws_FnExactEmptyTime. -/
def laws_FnExactEmptyTime.Pure : Prop := ∀ (l0 : List (S30)), (∀ x ∈ l0, ((Lit.int .i64 x.f0).wf = true ∧ (Lit.int .i64 x.f1).wf = true ∧ (Lit.int .i64 x.f2).wf = true)) → l0.length ≤ 9223372036854775807 → ∃ k, laws_FnExactEmptyTime.f k l0 = some true

/-! ### spec_MarkVessel: function 23 -/
def spec_MarkVessel.j0 : Nat → Int → Bool → Int → Int → Int → Option (Int × Bool)
  | 0, _, _, _, _, _ => none
  | k + 1, x1, x15, x192000, x192001, x192002 => if x15 = true then (some (0, false)) else (if x192002 ≤ x1 then (some (0, true)) else (if x192001 = 0 then (some (0, false)) else (some (wrap64 (Int.tdiv (wrap64 ((wrap64 ((wrap64 (x192002 - x1)) + x192001)) - 1)) x192001), true))))
def spec_MarkVessel.f (k : Nat) (a0_0 : Int) (a0_1 : Int) (a0_2 : Int) (a1 : Int) : Option (Int × Bool) := (spec_l9Vessel.f a0_0 a0_1 a0_2).bind fun t192 => (if t192 = true then ((spec_l1In.f a1 0 a0_0).bind fun t193 => (spec_MarkVessel.j0 k a1 (!t193) a0_0 a0_1 a0_2)) else (spec_MarkVessel.j0 k a1 true a0_0 a0_1 a0_2))
theorem spec_MarkVessel.mono_l : ∀ k, (∀ y0 y1 y2 y3 y4, LeO (spec_MarkVessel.j0 k y0 y1 y2 y3 y4) (spec_MarkVessel.j0 (k + 1) y0 y1 y2 y3 y4))
  | 0 => fun _ _ _ _ _ r h => by simp [spec_MarkVessel.j0] at h
  | k + 1 => by
    have ih0 := spec_MarkVessel.mono_l k
    · intro y0 y1 y2 y3 y4
      unfold spec_MarkVessel.j0
      repeat' first
      | (with_reducible exact ih0 _ _ _ _ _)
      | (with_reducible exact LeO.refl _)
      | (with_reducible exact LeO.none _)
      | (with_reducible refine LeO.ite ?_ ?_)
      | (with_reducible refine LeO.bind ?_ (fun _ => ?_))
      | exact ih0 _ _ _ _ _
      | exact LeO.none _
      | refine LeO.ite ?_ ?_
      | refine LeO.bind ?_ (fun _ => ?_)
theorem spec_MarkVessel.mono : ∀ a0 a1 a2 a3 k, LeO (spec_MarkVessel.f k a0 a1 a2 a3) (spec_MarkVessel.f (k + 1) a0 a1 a2 a3) := by
  intro a0 a1 a2 a3 k
  have ih0 := spec_MarkVessel.mono_l k
  unfold spec_MarkVessel.f
  repeat' first
      | (with_reducible exact ih0 _ _ _ _ _)
      | (with_reducible exact LeO.refl _)
      | (with_reducible exact LeO.none _)
      | (with_reducible refine LeO.ite ?_ ?_)
      | (with_reducible refine LeO.bind ?_ (fun _ => ?_))
      | exact ih0 _ _ _ _ _
      | exact LeO.none _
      | refine LeO.ite ?_ ?_
      | refine LeO.bind ?_ (fun _ => ?_)
set_option maxHeartbeats 8000000 in
set_option maxRecDepth 100000 in
theorem spec_MarkVessel.calls (k : Nat) (a0_0 : Int) (a0_1 : Int) (a0_2 : Int) (a1 : Int) (r1 : Int) (r2 : Bool) (w : World) (h : spec_MarkVessel.f k a0_0 a0_1 a0_2 a1 = some (r1, r2)) :
    Calls Try.prog 23 #[.agg #[.int .i64 a0_0, .int .i64 a0_1, .int .i64 a0_2], .int .i64 a1] w fun e w' => e = .returned (.tuple #[.int .i64 r1, .bool r2]) ∧ Below w.heap.size w w' := by
  have hu33 := Try.underlying33
  have HB := Aside0.mk (Below.refl w.heap.size w)
  have H : ((spec_l9Vessel.f a0_0 a0_1 a0_2).bind fun t192 => (if t192 = true then ((spec_l1In.f a1 0 a0_0).bind fun t193 => (spec_MarkVessel.j0 k a1 (!t193) a0_0 a0_1 a0_2)) else (spec_MarkVessel.j0 k a1 true a0_0 a0_1 a0_2))) = some (r1, r2) := h
  clear h
  have HC3 := Aside0.mk H
  clear H
  go_enter Try.func23, Try.ntmps23
  go_upto_region 1 with (first | ((with_reducible refine gate_dst (N := 2) rfl ?_); refine box_event ?hg (N := 2) ?hd (cs := #[.int .i64 a0_0, .int .i64 a0_1, .int .i64 a0_2]) (t := 33) ?hr ?_; (case hd => rfl); (case hg => rfl); (case hr => first | (go_simp; done) | (go_simp; rfl)); intro gb191 hg w4 hbox hb; have n0_ := Aside0.mk (below_step (by repeat (first | (with_reducible first | exact HB.out | apply below_alloc | apply pw_below_drewN | apply below_drew1) | exact HB.out)) hb); have n1_ := Aside0.mk (hbox); have n2_ := Aside0.mk ((by rw [hg]; exact (below_size (by repeat (first | (with_reducible first | exact HB.out | apply below_alloc | apply pw_below_drewN | apply below_drew1) | exact HB.out))) : w.heap.size ≤ gb191)); have n3_ := Aside0.mk ((by rw [hg]; exact (below_size (by repeat (first | (with_reducible first | exact HB.out | apply below_alloc | apply pw_below_drewN | apply below_drew1) | exact HB.out))) : w.heap.size ≤ gb191)); clear HB; have HB := n0_; have BK191 := n1_; have GW191 := n2_; have GE191 := n3_; clear n0_ n1_ n2_ n3_; clear hb hbox hg))
  (try simp only [Act.put, List.setIfInBounds_toArray, List.set_cons_zero, List.set_cons_succ])
  go_cut [15] (fun v15 wc => ∃ (kq : Nat) (x15_2 : Bool), v15 = .bool x15_2 ∧ Aside0 (spec_MarkVessel.j0 kq a1 x15_2 a0_0 a0_1 a0_2 = some (r1, r2)) ∧ Aside0 (kq ≤ k) ∧ Aside0 (wc.heap[gb191]? = some (.cells #[.int .i64 a0_0, .int .i64 a0_1, .int .i64 a0_2] 33 (0, 0))) ∧ Aside0 (Below w.heap.size w wc))
  case first =>
    have H := HC3.out
    clear HC3
    replace H := Option.bind_eq_some_iff.mp H
    obtain ⟨t192, A50, H⟩ := H
    replace H : (if t192 = true then ((spec_l1In.f a1 0 a0_0).bind fun t193 => (spec_MarkVessel.j0 k a1 (!t193) a0_0 a0_1 a0_2)) else (spec_MarkVessel.j0 k a1 true a0_0 a0_1 a0_2)) = some (r1, r2) := H
    have A5 := Aside0.mk A50
    clear A50
    by_cases c6 : t192 = true
    · subst c6
      have H1 : ((spec_l1In.f a1 0 a0_0).bind fun t193 => (spec_MarkVessel.j0 k a1 (!t193) a0_0 a0_1 a0_2)) = some (r1, r2) := by rw [if_pos rfl] at H; exact H
      clear H
      have H := H1
      clear H1
      replace H := Option.bind_eq_some_iff.mp H
      obtain ⟨t193, A70, H⟩ := H
      replace H : (spec_MarkVessel.j0 k a1 (!t193) a0_0 a0_1 a0_2) = some (r1, r2) := H
      have A7 := Aside0.mk A70
      clear A70
      have H' := Aside0.mk H
      clear H
      have hcz8_0 : w4.cell? ⟨gb191, 0, none⟩ = some (.int .i64 a0_0) := (blk_cell BK191.out 0).trans rfl
      have hcz8_1 : w4.cell? ⟨gb191, 1, none⟩ = some (.int .i64 a0_1) := (blk_cell BK191.out 1).trans rfl
      have hcz8_2 : w4.cell? ⟨gb191, 2, none⟩ = some (.int .i64 a0_2) := (blk_cell BK191.out 2).trans rfl
      have hfz8_0 := blk_frozen BK191.out 0
      have hfz8_1 := blk_frozen BK191.out 1
      have hfz8_2 := blk_frozen BK191.out 2
      go_wp2_with (first | ((with_reducible refine gate_callee (f := 38) rfl ?_); refine goesL_ (some 7) rfl rfl Try.func38 (by kernel_rfl) rfl #[.agg #[.int .i64 a0_0, .int .i64 a0_1, .int .i64 a0_2]] rfl (by (try simp only [List.map_toArray, List.map_cons, List.map_nil]); first | done | rfl | (simp only [List.length_drop, List.length_take]; rfl)) ?_; (with_reducible refine (spec_l9Vessel.calls a0_0 a0_1 a0_2 true _ A5.out).mono ?_); rintro e w9 ⟨rfl, hb⟩; refine ⟨_, rfl, ?_⟩; have n0_ := Aside0.mk (blk_below (g := gb191) (o := .cells #[.int .i64 a0_0, .int .i64 a0_1, .int .i64 a0_2] 33 (0, 0)) (by (with_reducible repeat (first | refine blk_drewN ?_ _ | refine blk_drew ?_ | refine blk_alloc ?_ _)); exact BK191.out) hb); have n1_ := Aside0.mk (below_step (by repeat (first | (with_reducible first | exact HB.out | apply below_alloc | apply pw_below_drewN | apply below_drew1 | refine below_set ?_ GE191.out) | exact HB.out)) hb); clear BK191; clear HB; have BK191 := n0_; have HB := n1_; clear n0_ n1_; (try clear hb); (try clear hb2); (try clear hk); (try clear hi); have hcz10_0 : w9.cell? ⟨gb191, 0, none⟩ = some (.int .i64 a0_0) := (blk_cell BK191.out 0).trans rfl; have hcz10_1 : w9.cell? ⟨gb191, 1, none⟩ = some (.int .i64 a0_1) := (blk_cell BK191.out 1).trans rfl; have hcz10_2 : w9.cell? ⟨gb191, 2, none⟩ = some (.int .i64 a0_2) := (blk_cell BK191.out 2).trans rfl; have hfz10_0 := blk_frozen BK191.out 0; have hfz10_1 := blk_frozen BK191.out 1; have hfz10_2 := blk_frozen BK191.out 2) | (go_at_call 39; (with_reducible refine (spec_l1In.calls a1 0 a0_0 t193 _ A7.out).mono ?_); rintro e w' ⟨rfl, ⟨nd, rfl⟩⟩))
      go_meet
      case rel => exact ⟨_, (!t193), (by first | rfl | (simp; done) | (simp [*]; done)), H', ⟨by first | omega | exact Nat.le_refl _⟩, ⟨by (with_reducible repeat (first | refine blk_drewN ?_ _ | refine blk_drew ?_ | refine blk_alloc ?_ _)); exact BK191.out⟩, ⟨by repeat (first | (with_reducible first | exact HB.out | apply below_alloc | apply pw_below_drewN | apply below_drew1 | refine below_set ?_ GE191.out) | exact HB.out)⟩⟩
    · replace c6 := Bool.eq_false_iff.mpr c6
      subst c6
      have H1 : (spec_MarkVessel.j0 k a1 true a0_0 a0_1 a0_2) = some (r1, r2) := by rw [if_neg (show ¬ (false = true) by decide)] at H; exact H
      clear H
      have H := H1
      clear H1
      have H' := Aside0.mk H
      clear H
      have hcz11_0 : w4.cell? ⟨gb191, 0, none⟩ = some (.int .i64 a0_0) := (blk_cell BK191.out 0).trans rfl
      have hcz11_1 : w4.cell? ⟨gb191, 1, none⟩ = some (.int .i64 a0_1) := (blk_cell BK191.out 1).trans rfl
      have hcz11_2 : w4.cell? ⟨gb191, 2, none⟩ = some (.int .i64 a0_2) := (blk_cell BK191.out 2).trans rfl
      have hfz11_0 := blk_frozen BK191.out 0
      have hfz11_1 := blk_frozen BK191.out 1
      have hfz11_2 := blk_frozen BK191.out 2
      go_wp2_with (first | ((with_reducible refine gate_callee (f := 38) rfl ?_); refine goesL_ (some 7) rfl rfl Try.func38 (by kernel_rfl) rfl #[.agg #[.int .i64 a0_0, .int .i64 a0_1, .int .i64 a0_2]] rfl (by (try simp only [List.map_toArray, List.map_cons, List.map_nil]); first | done | rfl | (simp only [List.length_drop, List.length_take]; rfl)) ?_; (with_reducible refine (spec_l9Vessel.calls a0_0 a0_1 a0_2 false _ A5.out).mono ?_); rintro e w12 ⟨rfl, hb⟩; refine ⟨_, rfl, ?_⟩; have n0_ := Aside0.mk (blk_below (g := gb191) (o := .cells #[.int .i64 a0_0, .int .i64 a0_1, .int .i64 a0_2] 33 (0, 0)) (by (with_reducible repeat (first | refine blk_drewN ?_ _ | refine blk_drew ?_ | refine blk_alloc ?_ _)); exact BK191.out) hb); have n1_ := Aside0.mk (below_step (by repeat (first | (with_reducible first | exact HB.out | apply below_alloc | apply pw_below_drewN | apply below_drew1 | refine below_set ?_ GE191.out) | exact HB.out)) hb); clear BK191; clear HB; have BK191 := n0_; have HB := n1_; clear n0_ n1_; (try clear hb); (try clear hb2); (try clear hk); (try clear hi)))
      go_meet
      case rel => exact ⟨_, (true), (by first | rfl | (simp; done) | (simp [*]; done)), H', ⟨by first | omega | exact Nat.le_refl _⟩, ⟨by (with_reducible repeat (first | refine blk_drewN ?_ _ | refine blk_drew ?_ | refine blk_alloc ?_ _)); exact BK191.out⟩, ⟨by repeat (first | (with_reducible first | exact HB.out | apply below_alloc | apply pw_below_drewN | apply below_drew1 | refine below_set ?_ GE191.out) | exact HB.out)⟩⟩
  case rest =>
    clear HC3
    try clear c2
    try clear p2
    try clear c3
    try clear c6
    try clear hcz10_0
    try clear hcz10_1
    try clear hcz10_2
    try clear hcz11_0
    try clear hcz11_1
    try clear hcz11_2
    try clear hcz8_0
    try clear hcz8_1
    try clear hcz8_2
    try clear hfz10_0
    try clear hfz10_1
    try clear hfz10_2
    try clear hfz11_0
    try clear hfz11_1
    try clear hfz11_2
    try clear hfz8_0
    try clear hfz8_1
    try clear hfz8_2
    obtain ⟨kq, x15_2, rfl, HA, HJ2, BK191, HB⟩ := hcut
    cases kq with
    | zero => exact absurd HA.out (by simp [spec_MarkVessel.j0])
    | succ kj2 =>
      have H := HA.out
      clear HA
      simp only [spec_MarkVessel.j0] at H
      by_cases c13 : x15_2 = true
      · subst c13
        have H1 : (some (0, false)) = some (r1, r2) := by rw [if_pos rfl] at H; exact H
        clear H
        have H := H1
        clear H1
        simp only [Option.some.injEq, Prod.mk.injEq] at H
        obtain ⟨rfl, rfl⟩ := H
        go_wp2
        go_ret2
        exact ⟨by first | rfl | (simp [errW_none, errW_some] <;> rfl) | (simp [*, errW_none, errW_some] <;> rfl), by repeat (first | (with_reducible first | exact HB.out | apply below_alloc | apply pw_below_drewN | apply below_drew1 | refine below_set ?_ GE191.out) | exact HB.out)⟩
      · replace c13 := Bool.eq_false_iff.mpr c13
        subst c13
        have H1 : (if a0_2 ≤ a1 then (some (0, true)) else (if a0_1 = 0 then (some (0, false)) else (some (wrap64 (Int.tdiv (wrap64 ((wrap64 ((wrap64 (a0_2 - a1)) + a0_1)) - 1)) a0_1), true)))) = some (r1, r2) := by rw [if_neg (show ¬ (false = true) by decide)] at H; exact H
        clear H
        have H := H1
        clear H1
        by_cases c14 : a0_2 ≤ a1
        · rw [if_pos c14] at H
          have c14b0 : decide (a0_2 ≤ a1) = true := decide_eq_true c14
          clear c14
          simp only [Option.some.injEq, Prod.mk.injEq] at H
          obtain ⟨rfl, rfl⟩ := H
          have hcz15_0 : wc.cell? ⟨gb191, 0, none⟩ = some (.int .i64 a0_0) := (blk_cell BK191.out 0).trans rfl
          have hcz15_1 : wc.cell? ⟨gb191, 1, none⟩ = some (.int .i64 a0_1) := (blk_cell BK191.out 1).trans rfl
          have hcz15_2 : wc.cell? ⟨gb191, 2, none⟩ = some (.int .i64 a0_2) := (blk_cell BK191.out 2).trans rfl
          have hfz15_0 := blk_frozen BK191.out 0
          have hfz15_1 := blk_frozen BK191.out 1
          have hfz15_2 := blk_frozen BK191.out 2
          go_wp2
          go_ret2
          exact ⟨by first | rfl | (simp [errW_none, errW_some] <;> rfl) | (simp [*, errW_none, errW_some] <;> rfl), by repeat (first | (with_reducible first | exact HB.out | apply below_alloc | apply pw_below_drewN | apply below_drew1 | refine below_set ?_ GE191.out) | exact HB.out)⟩
        · rw [if_neg c14] at H
          have c14b0 : decide (a0_2 ≤ a1) = false := decide_eq_false c14
          clear c14
          by_cases c16 : a0_1 = 0
          · rw [if_pos c16] at H
            have c16b0 : (a0_1 == 0) = true := beq_iff_eq.mpr c16
            have c16b1 : (a0_1 != 0) = false := bne_eq_false_iff_eq.mpr c16
            clear c16
            simp only [Option.some.injEq, Prod.mk.injEq] at H
            obtain ⟨rfl, rfl⟩ := H
            have hcz17_0 : wc.cell? ⟨gb191, 0, none⟩ = some (.int .i64 a0_0) := (blk_cell BK191.out 0).trans rfl
            have hcz17_1 : wc.cell? ⟨gb191, 1, none⟩ = some (.int .i64 a0_1) := (blk_cell BK191.out 1).trans rfl
            have hcz17_2 : wc.cell? ⟨gb191, 2, none⟩ = some (.int .i64 a0_2) := (blk_cell BK191.out 2).trans rfl
            have hfz17_0 := blk_frozen BK191.out 0
            have hfz17_1 := blk_frozen BK191.out 1
            have hfz17_2 := blk_frozen BK191.out 2
            go_wp2
            go_ret2
            exact ⟨by first | rfl | (simp [errW_none, errW_some] <;> rfl) | (simp [*, errW_none, errW_some] <;> rfl), by repeat (first | (with_reducible first | exact HB.out | apply below_alloc | apply pw_below_drewN | apply below_drew1 | refine below_set ?_ GE191.out) | exact HB.out)⟩
          · rw [if_neg c16] at H
            have c16b0 : (a0_1 == 0) = false := beq_eq_false_iff_ne.mpr c16
            have c16b1 : (a0_1 != 0) = true := bne_iff_ne.mpr c16
            simp only [Option.some.injEq, Prod.mk.injEq] at H
            obtain ⟨rfl, rfl⟩ := H
            have hcz18_0 : wc.cell? ⟨gb191, 0, none⟩ = some (.int .i64 a0_0) := (blk_cell BK191.out 0).trans rfl
            have hcz18_1 : wc.cell? ⟨gb191, 1, none⟩ = some (.int .i64 a0_1) := (blk_cell BK191.out 1).trans rfl
            have hcz18_2 : wc.cell? ⟨gb191, 2, none⟩ = some (.int .i64 a0_2) := (blk_cell BK191.out 2).trans rfl
            have hfz18_0 := blk_frozen BK191.out 0
            have hfz18_1 := blk_frozen BK191.out 1
            have hfz18_2 := blk_frozen BK191.out 2
            go_wp2
            go_ret2
            exact ⟨by first | rfl | (simp [errW_none, errW_some] <;> rfl) | (simp [*, errW_none, errW_some] <;> rfl), by repeat (first | (with_reducible first | exact HB.out | apply below_alloc | apply pw_below_drewN | apply below_drew1 | refine below_set ?_ GE191.out) | exact HB.out)⟩

end Go.Proofs.Ytpadckbjknjkaaa.PA
