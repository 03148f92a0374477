/- Things: lists of them, copied, compared and marked. Conditions: lengths, as each lemma names. -/
import Derived.Test.YtogpednapceljaaLists
import Derived.Test.YtogpednapceljaaPAx5
set_option linter.unusedVariables false
set_option linter.unusedSimpArgs false
namespace Go.Proofs.Ytogpednapceljaa.Pure
open Go.RowKit Go.Proofs.Ytogpednapceljaa.PA Go.Proofs.Ytogpednapceljaa.PL Go.Proofs.YtogpednapceljaaW.PrintWords Go.Proofs.YtogpednapceljaaW.PrintLast Go.Proofs.YtogpednapceljaaW.PrintMore

def mkThing (c : Int) : S23 := ⟨c, wrap64 (c + 1), wrap64 ((wrap64 (c + 1)) + 1), wrap64 ((wrap64 ((wrap64 (c + 1)) + 1)) + 1)⟩
def nxThing (c : Int) : Int := wrap64 ((wrap64 ((wrap64 ((wrap64 (c + 1)) + 1)) + 1)) + 1)
theorem nxThing_ok (c : Int) (h0 : 0 ≤ c) (h1 : c ≤ 4611686018427387904) : nxThing c = c + (4 : Nat) := by
  unfold nxThing
  unfold wrap64
  omega
theorem markThingS_ok {k : Nat} {xs : List S23} (hx : xs.length ≤ 1099511627776) (hk : xs.length < k) :
    laws_markThingS.f k xs 1 = some (((1 + 4 * xs.length : Nat) : Int), marked mkThing 4 xs.length) := by
  unfold laws_markThingS.f
  refine mark_go laws_markThingS.l0 mkThing nxThing 4 (by omega) nxThing_ok ?_ ?_ xs.length hx xs.length k 0 xs rfl (by omega) hk (by intro j hj; omega)
  · intro k xs c i hi
    obtain ⟨x, hx⟩ := at_lt hi
    simp only [laws_markThingS.l0]
    rw [if_pos (by omega), if_pos (by omega)]
    simp [rd_T23, hx, hi, mkThing, nxThing]
  · intro k xs c i hi
    simp only [laws_markThingS.l0]
    rw [if_neg (by omega)]
theorem heldThingS_ok {k n : Nat} (hx : n ≤ 1099511627776) (hk : n < k) : laws_heldThingS.f k (marked mkThing 4 n) 1 = some ((1 + 4 * n : Nat) : Int) := by
  unfold laws_heldThingS.f
  refine held_go laws_heldThingS.l0 mkThing nxThing 4 (by omega) nxThing_ok ?_ ?_ n hx n k 0 (by omega) hk
  · intro k xs c i hi
    have h1 := lt_of hi
    simp only [laws_heldThingS.l0]
    rw [if_pos (by omega), if_pos (by omega)]
    simp [rd_T23, hi, mkThing, nxThing]
  · intro k xs c i hi
    simp only [laws_heldThingS.l0]
    rw [if_neg (by omega)]
end Go.Proofs.Ytogpednapceljaa.Pure
