/- Vessels: lists of them, copied, compared and marked. Conditions: lengths, as each lemma names. -/
import Derived.Test.YtpadckbjknjkaaaLists
import Derived.Test.YtpadckbjknjkaaaPAx4
set_option linter.unusedVariables false
set_option linter.unusedSimpArgs false
namespace Go.Proofs.Ytpadckbjknjkaaa.Pure
open Go.RowKit Go.Proofs.Ytpadckbjknjkaaa.PA Go.Proofs.Ytpadckbjknjkaaa.PL Go.Proofs.YtpadckbjknjkaaaW.PrintWords Go.Proofs.YtpadckbjknjkaaaW.PrintLast Go.Proofs.YtpadckbjknjkaaaW.PrintMore

def mkVessel (c : Int) : S33 := ⟨c, wrap64 (c + 1), wrap64 ((wrap64 (c + 1)) + 1)⟩
def nxVessel (c : Int) : Int := wrap64 ((wrap64 ((wrap64 (c + 1)) + 1)) + 1)
theorem nxVessel_ok (c : Int) (h0 : 0 ≤ c) (h1 : c ≤ 4611686018427387904) : nxVessel c = c + (3 : Nat) := by
  unfold nxVessel
  unfold wrap64
  omega
theorem markVesselS_ok {k : Nat} {xs : List S33} (hx : xs.length ≤ 1099511627776) (hk : xs.length < k) :
    laws_markVesselS.f k xs 1 = some (((1 + 3 * xs.length : Nat) : Int), marked mkVessel 3 xs.length) := by
  unfold laws_markVesselS.f
  refine mark_go laws_markVesselS.l0 mkVessel nxVessel 3 (by omega) nxVessel_ok ?_ ?_ xs.length hx xs.length k 0 xs rfl (by omega) hk (by intro j hj; omega)
  · intro k xs c i hi
    obtain ⟨x, hx⟩ := at_lt hi
    simp only [laws_markVesselS.l0]
    rw [if_pos (by omega), if_pos (by omega)]
    simp [rd_T33, hx, hi, mkVessel, nxVessel]
  · intro k xs c i hi
    simp only [laws_markVesselS.l0]
    rw [if_neg (by omega)]
theorem heldVesselS_ok {k n : Nat} (hx : n ≤ 1099511627776) (hk : n < k) : laws_heldVesselS.f k (marked mkVessel 3 n) 1 = some ((1 + 3 * n : Nat) : Int) := by
  unfold laws_heldVesselS.f
  refine held_go laws_heldVesselS.l0 mkVessel nxVessel 3 (by omega) nxVessel_ok ?_ ?_ n hx n k 0 (by omega) hk
  · intro k xs c i hi
    have h1 := lt_of hi
    simp only [laws_heldVesselS.l0]
    rw [if_pos (by omega), if_pos (by omega)]
    simp [rd_T33, hi, mkVessel, nxVessel]
  · intro k xs c i hi
    simp only [laws_heldVesselS.l0]
    rw [if_neg (by omega)]
end Go.Proofs.Ytpadckbjknjkaaa.Pure
