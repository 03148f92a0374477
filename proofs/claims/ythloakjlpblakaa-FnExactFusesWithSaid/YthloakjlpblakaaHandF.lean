/- FusesWith. Conditions: those each lemma names. -/
import Derived.Test.YthloakjlpblakaaHandE
import Derived.Outline
set_option linter.unusedVariables false
set_option linter.unusedSimpArgs false
namespace Go.Proofs.Ythloakjlpblakaa.PB
open Go.RowKit Go.Proofs.YthloakjlpblakaaW.PrintWords Go.Proofs.YthloakjlpblakaaW.PrintLast Go.Proofs.YthloakjlpblakaaW.PrintMore Go.Proofs.YthloakjlpblakaaX
def fusesF (a : Int) : Option (Int × Bool) := if 0 ≤ a ∧ a ≤ 8 then (allF 64 a.toNat).bind fun o => (o[a.toNat]?).map fun l => ((l.length : Int), true) else some (0, false)
set_option maxHeartbeats 8000000 in
set_option maxRecDepth 100000 in
theorem fusesF_calls (a : Int) (r1 : Int) (r2 : Bool) (w : World) (h : fusesF a = some (r1, r2)) :
    Calls Try.prog 16 #[.int .i64 a] w fun e w' => e = .returned (.tuple #[.int .i64 r1, .bool r2]) ∧ Below w.heap.size w w' := by
  unfold fusesF at h
  by_cases ha : 0 ≤ a ∧ a ≤ 8
  · rw [if_pos ha] at h
    obtain ⟨o, ho, h⟩ := Option.bind_eq_some_iff.mp h
    obtain ⟨l, hl, hq⟩ := Option.map_eq_some_iff.mp h
    obtain ⟨n, rfl⟩ : ∃ n : Nat, a = (n : Int) := ⟨a.toNat, by omega⟩
    obtain ⟨rfl, rfl⟩ := Prod.mk.inj hq
    rw [Int.toNat_natCast] at ho hl
    have hw : impl_within.f (n : Int) 0 8 = some true := by unfold impl_within.f; rw [if_pos (by omega)]; simp only [decide_eq_true (show (n : Int) ≤ 8 from ha.2)]
    have HW := Aside0.mk hw
    have HO := Aside0.mk ho
    have HL := Aside0.mk hl
    have hn : n ≤ 8 := by omega
    have HN := Aside0.mk hn
    clear hw ho h hl ha hn hq
    go_enter Try.func16, Try.ntmps16
    go_wp2_with (first
      | (go_at_call 49; (with_reducible refine (impl_within.calls n 0 8 true _ HW.out).mono ?_); rintro e w1 ⟨rfl, ⟨nd, rfl⟩⟩)
      | (go_at_call 50; (with_reducible refine (allF_calls 64 n HN.out _ o HO.out).mono ?_); rintro e w2 ⟨v, rfl, hv, hb⟩; obtain ⟨ad, cap, c, e3, hM, hc⟩ := R_get hv n l HL.out; subst e3; obtain ⟨v28, rfl, hR28⟩ := hM; obtain ⟨A28, c28, rfl⟩ := Kd.R_slice hR28; have cell28 : w2.cell? (ad.add n) = some (.slice A28 l.length c28) := (by have := hc 0 _ rfl; simpa [Kd.slice] using this); have hB := Aside0.mk (show Below w.heap.size w w2 from below_step (pw_below_drewN (Below.refl _ _) _) hb); have i1 : n < o.length := (List.getElem?_eq_some_iff.1 HL.out).1; clear hc hb hv hR28))
    go_ret2
    exact ⟨rfl, hB.out⟩
  · rw [if_neg ha] at h
    obtain ⟨rfl, rfl⟩ := Prod.mk.inj (Option.some.inj h)
    have hw : impl_within.f a 0 8 = some false := by
      unfold impl_within.f
      by_cases h0 : a ≥ 0
      · rw [if_pos h0, decide_eq_false (by omega)]
      · rw [if_neg h0]
    have HW := Aside0.mk hw
    clear hw h ha
    go_enter Try.func16, Try.ntmps16
    go_wp2_with (go_at_call 49; (with_reducible refine (impl_within.calls a 0 8 false _ HW.out).mono ?_); rintro e w1 ⟨rfl, ⟨nd, rfl⟩⟩)
    go_ret2
    exact ⟨rfl, pw_below_drewN (Below.refl _ _) _⟩
end Go.Proofs.Ythloakjlpblakaa.PB
