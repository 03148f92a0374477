/- laws.FnThings answers true for every code. Conditions: the row's. -/
import Derived.Test.YtikpbopjhkohmaaVThingsQTold
set_option linter.unusedVariables false
set_option linter.unusedSimpArgs false
namespace Go.Proofs.Ytikpbopjhkohmaa.PT
open Go.RowKit Go.Proofs.YtikpbopjhkohmaaW.PrintWords Go.Proofs.YtikpbopjhkohmaaW.PrintLast Go.Proofs.YtikpbopjhkohmaaW.PrintMore Go.Proofs.YtikpbopjhkohmaaX
set_option maxHeartbeats 4000000 in
set_option maxRecDepth 100000 in
theorem law_big {l0 : List Int} (h : laws_rBig.f l0 = some true) (A0 : Option Addr) (c0 : Nat) (w : World) (hr0 : Kd.C (Kd.int .u8) w A0 l0.length l0) (hc0 : l0.length ≤ c0) :
    Calls Try.prog 3 #[.slice A0 l0.length c0] w fun e w' => e = .returned (.bool true) ∧ Below w.heap.size w w' := by
  have R0 := Aside0.mk hr0
  have C0 := Aside0.mk hc0
  have H := Aside0.mk h
  have HB := Aside0.mk (Below.refl w.heap.size w)
  clear hr0 hc0 h
  go_enter Try.func3, Try.ntmps3
  go_wp2_with (first | (go_at_call 4; (with_reducible refine (rBig_b _ _ l0 true _ R0.out C0.out H.out).mono ?_); rintro e w1 ⟨rfl, hb⟩; replace HB := Aside0.mk (below_step HB.out hb); clear hb))
  go_ret
  exact ⟨rfl, HB.out⟩
theorem law_row (a0 : Option Addr) (len0 cap0 : Nat) (z0 : List Int) (w : World) (w0 : (a0 = none ∧ len0 = 0 ∧ cap0 = 0 ∧ z0 = []) ∨ ∃ x, a0 = some x ∧ len0 ≤ cap0 ∧ cap0 ≤ maxLen ∧ z0.length = cap0 ∧ (∀ i, i < z0.length → w.cell? (x.add i) = some (.int .u8 (z0.getD i 0))) ∧ ∀ n ∈ z0, (Lit.int .u8 n).wf = true) :
    Calls Try.prog 3 #[.slice a0 len0 cap0] w fun e w' => e = .returned (.bool true) ∧ Below w.heap.size w w' := by
  obtain ⟨l0, rfl, hr0, hm0, hw0, hc0⟩ := ReadsInt.ofRowC w0
  have hC := Kd.C_of_reads (d := (0 : Int)) (h1 := fun _ => rfl) hr0
  by_cases hl : l0.length ≤ 65536
  · have hcod : Go.Proofs.Ytikpbopjhkohmaa.Pure.Cod l0 := ⟨hl, fun x hx => by
      have := hw0 x hx
      simp [Lit.wf, IntKind.min, IntKind.max, IntKind.bits, IntKind.signed] at this
      omega⟩
    obtain ⟨k, ⟨list, done, other, behind, sm, passed, at_, before, acts, poss, act, many, d, next, kind, minutes, f1, f2, f3, f4, all, left, ok, one, two, three, four, five, now, outs⟩, F⟩ := Go.Proofs.Ytikpbopjhkohmaa.Pure.told_ok hcod
    exact law_walk F a0 cap0 w hC hc0
  · refine law_big ?_ a0 cap0 w hC hc0
    unfold laws_rBig.f
    rw [decide_eq_true (by omega)]
end Go.Proofs.Ytikpbopjhkohmaa.PT
