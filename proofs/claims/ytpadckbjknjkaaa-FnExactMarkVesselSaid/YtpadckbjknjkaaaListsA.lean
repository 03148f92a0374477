/- Vessels: lists of them, copied, compared and marked. Conditions: lengths, as each lemma names. -/
import Derived.Test.YtpadckbjknjkaaaLists
import Derived.Test.YtpadckbjknjkaaaPAx4
set_option linter.unusedVariables false
set_option linter.unusedSimpArgs false
namespace Go.Proofs.Ytpadckbjknjkaaa.Pure
open Go.RowKit Go.Proofs.Ytpadckbjknjkaaa.PA Go.Proofs.Ytpadckbjknjkaaa.PL Go.Proofs.YtpadckbjknjkaaaW.PrintWords Go.Proofs.YtpadckbjknjkaaaW.PrintLast Go.Proofs.YtpadckbjknjkaaaW.PrintMore

def convVessel (x : S30) : S33 := ⟨x.f0, x.f1, x.f2⟩
theorem toVesselS_ok {k : Nat} {xs : List S30} (hx : xs.length ≤ 1048576) (hk : xs.length < k) : laws_toVesselS.f k xs = some (xs.map convVessel) := by
  unfold laws_toVesselS.f
  rw [if_pos (by omega), if_pos (by simp; omega)]
  refine conv_go laws_toVesselS.l0 convVessel ?_ ?_ xs (by omega) xs.length k 0 _ (by omega) (by simp) hk (by intro j hj; omega)
  · intro k xs ys i x hx hi
    have h1 := lt_of hx
    simp only [laws_toVesselS.l0]
    rw [if_pos (by omega), if_pos (by omega)]
    simp only [laws_toVessel.f, Option.bind_some]
    rw [if_pos (by omega)]
    simp [rd_T30, hx, convVessel]
  · intro k xs ys i hi
    simp only [laws_toVesselS.l0]
    rw [if_neg (by omega)]
theorem szVesselS_ok {xs : List S30} {k : Int} (h : laws_szVesselS.f xs 1048576 = some k) (hk : ¬ k < 0) (hx : xs.length ≤ 4611686018427387904) : xs.length ≤ 1048576 := by
  unfold laws_szVesselS.f at h
  rw [wr (by omega) (by omega)] at h
  by_cases h1 : (1048576 : Int) - (xs.length : Int) < 0
  · rw [if_pos h1] at h; cases h; omega
  · omega
theorem szVesselS_far {xs : List S30} (h : 1048576 < xs.length) (hx : xs.length ≤ 9223372036854775807) : laws_szVesselS.f xs 1048576 = some (-1) := by
  unfold laws_szVesselS.f
  rw [wr (by omega) (by omega), if_pos (by omega)]
theorem szVesselS_ex (xs : List S30) : ∃ k, laws_szVesselS.f xs 1048576 = some k := by
  unfold laws_szVesselS.f
  split <;> exact ⟨_, rfl⟩
theorem eqVesselS_self {k : Nat} {xs : List S33} (hx : xs.length ≤ 1099511627776) (hk : xs.length < k) : laws_eqVesselS.f k xs xs = some true := by
  unfold laws_eqVesselS.f
  rw [if_pos rfl]
  refine self_go (fun k xs i => laws_eqVesselS.l0 k xs xs i) ?_ ?_ xs hx xs.length k 0 (by omega) hk
  · intro k xs i x hx
    have h1 := lt_of hx
    simp only [laws_eqVesselS.l0]
    rw [if_pos (by omega), if_pos (by omega), if_pos (by omega)]
    simp [laws_eqVessel.f]
  · intro k xs i hi
    simp only [laws_eqVesselS.l0]
    rw [if_neg (by omega)]
end Go.Proofs.Ytpadckbjknjkaaa.Pure
