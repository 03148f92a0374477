/- Things: lists of them, copied, compared and marked. Conditions: lengths, as each lemma names. -/
import Derived.Test.YtogpednapceljaaLists
import Derived.Test.YtogpednapceljaaPAx5
set_option linter.unusedVariables false
set_option linter.unusedSimpArgs false
namespace Go.Proofs.Ytogpednapceljaa.Pure
open Go.RowKit Go.Proofs.Ytogpednapceljaa.PA Go.Proofs.Ytogpednapceljaa.PL Go.Proofs.YtogpednapceljaaW.PrintWords Go.Proofs.YtogpednapceljaaW.PrintLast Go.Proofs.YtogpednapceljaaW.PrintMore

def convThing (x : S90) : S23 := ⟨x.f0, x.f1, x.f2, x.f3⟩
theorem toThingS_ok {k : Nat} {xs : List S90} (hx : xs.length ≤ 1048576) (hk : xs.length < k) : laws_toThingS.f k xs = some (xs.map convThing) := by
  unfold laws_toThingS.f
  rw [if_pos (by omega), if_pos (by simp; omega)]
  refine conv_go laws_toThingS.l0 convThing ?_ ?_ xs (by omega) xs.length k 0 _ (by omega) (by simp) hk (by intro j hj; omega)
  · intro k xs ys i x hx hi
    have h1 := lt_of hx
    simp only [laws_toThingS.l0]
    rw [if_pos (by omega), if_pos (by omega)]
    simp only [laws_toThing.f, Option.bind_some]
    rw [if_pos (by omega)]
    simp [rd_T90, hx, convThing]
  · intro k xs ys i hi
    simp only [laws_toThingS.l0]
    rw [if_neg (by omega)]
theorem szThingS_ok {xs : List S90} {k : Int} (h : laws_szThingS.f xs 1048576 = some k) (hk : ¬ k < 0) (hx : xs.length ≤ 4611686018427387904) : xs.length ≤ 1048576 := by
  unfold laws_szThingS.f at h
  rw [wr (by omega) (by omega)] at h
  by_cases h1 : (1048576 : Int) - (xs.length : Int) < 0
  · rw [if_pos h1] at h; cases h; omega
  · omega
theorem szThingS_far {xs : List S90} (h : 1048576 < xs.length) (hx : xs.length ≤ 9223372036854775807) : laws_szThingS.f xs 1048576 = some (-1) := by
  unfold laws_szThingS.f
  rw [wr (by omega) (by omega), if_pos (by omega)]
theorem szThingS_ex (xs : List S90) : ∃ k, laws_szThingS.f xs 1048576 = some k := by
  unfold laws_szThingS.f
  split <;> exact ⟨_, rfl⟩
theorem eqThingS_self {k : Nat} {xs : List S23} (hx : xs.length ≤ 1099511627776) (hk : xs.length < k) : laws_eqThingS.f k xs xs = some true := by
  unfold laws_eqThingS.f
  rw [if_pos rfl]
  refine self_go (fun k xs i => laws_eqThingS.l0 k xs xs i) ?_ ?_ xs hx xs.length k 0 (by omega) hk
  · intro k xs i x hx
    have h1 := lt_of hx
    simp only [laws_eqThingS.l0]
    rw [if_pos (by omega), if_pos (by omega), if_pos (by omega)]
    simp [laws_eqThing.f]
  · intro k xs i hi
    simp only [laws_eqThingS.l0]
    rw [if_neg (by omega)]
end Go.Proofs.Ytogpednapceljaa.Pure
