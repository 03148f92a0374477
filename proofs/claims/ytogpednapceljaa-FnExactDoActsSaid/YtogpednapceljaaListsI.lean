/- Lists of whole numbers, compared and marked. Conditions: lengths, as each lemma names. -/
import Derived.Test.YtogpednapceljaaLists
import Derived.Test.YtogpednapceljaaPAx7
set_option linter.unusedVariables false
set_option linter.unusedSimpArgs false
namespace Go.Proofs.Ytogpednapceljaa.Pure
open Go.RowKit Go.Proofs.Ytogpednapceljaa.PA Go.Proofs.Ytogpednapceljaa.PL Go.Proofs.YtogpednapceljaaW.PrintWords Go.Proofs.YtogpednapceljaaW.PrintLast Go.Proofs.YtogpednapceljaaW.PrintMore

theorem rdI_at {xs : List Int} {i : Nat} {x : Int} (h : xs[i]? = some x) : rd xs i = x := by simp [rd, h]
theorem eqIntS_self {k : Nat} {xs : List Int} (hx : xs.length ≤ 1099511627776) (hk : xs.length < k) : laws_eqIntS.f k xs xs = some true := by
  unfold laws_eqIntS.f
  rw [if_pos rfl]
  refine self_go (fun k xs i => laws_eqIntS.l0 k xs xs i) ?_ ?_ xs hx xs.length k 0 (by omega) hk
  · intro k xs i x hx
    have h1 := lt_of hx
    simp only [laws_eqIntS.l0]
    rw [if_pos (by omega), if_pos (by omega), if_pos (by omega), if_pos trivial]
  · intro k xs i hi
    simp only [laws_eqIntS.l0]
    rw [if_neg (by omega)]
end Go.Proofs.Ytogpednapceljaa.Pure
