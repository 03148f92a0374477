/- TimesWith and NextTime: the walks. Conditions: those each lemma names. -/
import Derived.Test.YthloakjlpblakaaVTimesWitHandM
set_option linter.unusedVariables false
set_option linter.unusedSimpArgs false
namespace Go.Proofs.Ythloakjlpblakaa.PB
open Go.RowKit Go.Proofs.YthloakjlpblakaaW.PrintWords Go.Proofs.YthloakjlpblakaaW.PrintLast Go.Proofs.YthloakjlpblakaaW.PrintMore Go.Proofs.YthloakjlpblakaaX

theorem within_yes {n : Nat} (h : n ≤ 8) : impl_within.f (n : Int) 0 8 = some true := by unfold impl_within.f; rw [if_pos (by omega)]; simp only [decide_eq_true (show (n : Int) ≤ 8 by omega)]
theorem within_no {a : Int} (h : ¬ (0 ≤ a ∧ a ≤ 8)) : impl_within.f a 0 8 = some false := by
  unfold impl_within.f
  by_cases h0 : a ≥ 0
  · rw [if_pos h0, decide_eq_false (by omega)]
  · rw [if_neg h0]
def timesF (a : Int) : Option (List (Int × Int) × Bool) := if 0 ≤ a ∧ a ≤ 8 then (allF 64 a.toNat).bind fun o => (o[a.toNat]?).bind fun l => (timesL l).map fun r => (r, true) else some ([], false)
set_option maxHeartbeats 8000000 in
set_option maxRecDepth 100000 in
theorem timesF_calls (a : Int) (r1 : List (Int × Int)) (r2 : Bool) (w : World) (h : timesF a = some (r1, r2)) :
    Calls Try.prog 39 #[.int .i64 a] w fun e w' => ∃ v, e = .returned (.tuple #[v, .bool r2]) ∧ Kd.R kP 27 w' w.heap.size (fun _ => True) v r1 ∧ Below w.heap.size w w' := by
  unfold timesF at h
  by_cases ha : 0 ≤ a ∧ a ≤ 8
  · rw [if_pos ha] at h
    obtain ⟨o, ho, h⟩ := Option.bind_eq_some_iff.mp h
    obtain ⟨l, hl, h⟩ := Option.bind_eq_some_iff.mp h
    obtain ⟨ts, ht, hq⟩ := Option.map_eq_some_iff.mp h
    obtain ⟨n, rfl⟩ : ∃ n : Nat, a = (n : Int) := ⟨a.toNat, by omega⟩
    obtain ⟨rfl, rfl⟩ := Prod.mk.inj hq
    rw [Int.toNat_natCast] at ho hl
    have HW := Aside0.mk (within_yes (n := n) (by omega))
    have HO := Aside0.mk ho
    have HL := Aside0.mk hl
    have HT := Aside0.mk ht
    have HN : Aside0 (n ≤ 8) := ⟨by omega⟩
    clear ho h hl ha hq ht
    go_enter Try.func39, Try.ntmps39
    go_wp2_with (first
      | (go_at_call 49; (with_reducible refine (impl_within.calls n 0 8 true _ HW.out).mono ?_); rintro e w1 ⟨rfl, ⟨nd, rfl⟩⟩)
      | (go_at_call 50; (with_reducible refine (allF_calls 64 n HN.out _ o HO.out).mono ?_); rintro e w2 ⟨v, rfl, hv, hb⟩; obtain ⟨ad, cap, c, e3, hM, hc⟩ := R_get hv n l HL.out; subst e3; obtain ⟨v28, rfl, hR28⟩ := hM; obtain ⟨gs, hG, hA⟩ := kG_of_kF (Kd.R_mono hR28 (fun _ _ => trivial) : Kd.R kF 63 w2 _ (fun _ => True) v28 l); have HG := Aside0.mk hG; have HA := Aside0.mk hA; have cell28 : w2.cell? (ad.add n) = some v28 := (by have := hc 0 _ rfl; simpa [Kd.slice] using this); have HB := Aside0.mk (show Below w.heap.size w w2 from below_step (pw_below_drewN (Below.refl _ _) _) hb); have i1 : n < o.length := (List.getElem?_eq_some_iff.1 HL.out).1; clear hc hb hv hR28 hG hA)
      | (go_at_call 61; (with_reducible refine (timesOf_calls _ _ _ l gs ts HG.out HA.out HT.out).mono ?_); rintro e w3 ⟨u, rfl, hu, hb3⟩; have HU := Aside0.mk (Kd.R_lower hu (below_size HB.out)); have HB3 := Aside0.mk (below_step HB.out hb3); clear hu hb3))
    go_ret2
    exact ⟨_, rfl, HU.out, HB3.out⟩
  · rw [if_neg ha] at h
    obtain ⟨rfl, rfl⟩ := Prod.mk.inj (Option.some.inj h)
    have HW := Aside0.mk (within_no ha)
    clear h ha
    go_enter Try.func39, Try.ntmps39
    go_wp2_with (go_at_call 49; (with_reducible refine (impl_within.calls a 0 8 false _ HW.out).mono ?_); rintro e w1 ⟨rfl, ⟨nd, rfl⟩⟩)
    go_ret2
    exact ⟨_, rfl, Kd.R_nil _ _ _ _ _, pw_below_drewN (Below.refl _ _) _⟩
/-! ### The next time -/
end Go.Proofs.Ythloakjlpblakaa.PB
