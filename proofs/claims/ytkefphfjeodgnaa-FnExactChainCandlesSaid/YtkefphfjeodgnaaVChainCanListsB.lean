/- Candles: lists of them, copied, compared and marked. Conditions: lengths, as each lemma names. -/
import Derived.Test.YtkefphfjeodgnaaVChainCanLists
import Derived.Test.YtkefphfjeodgnaaVChainCanPAx22
set_option linter.unusedVariables false
set_option linter.unusedSimpArgs false
namespace Go.Proofs.Ytkefphfjeodgnaa.Pure
open Go.RowKit Go.Proofs.Ytkefphfjeodgnaa.PA Go.Proofs.Ytkefphfjeodgnaa.PL Go.Proofs.YtkefphfjeodgnaaW.PrintWords Go.Proofs.YtkefphfjeodgnaaW.PrintLast Go.Proofs.YtkefphfjeodgnaaW.PrintMore

def mkCandle (c : Int) : S25 := ⟨c, wrap64 (c + 1), wrap64 ((wrap64 (c + 1)) + 1)⟩
def nxCandle (c : Int) : Int := wrap64 ((wrap64 ((wrap64 (c + 1)) + 1)) + 1)
theorem nxCandle_ok (c : Int) (h0 : 0 ≤ c) (h1 : c ≤ 4611686018427387904) : nxCandle c = c + (3 : Nat) := by
  unfold nxCandle
  unfold wrap64
  omega
theorem markCandleS_ok {k : Nat} {xs : List S25} (hx : xs.length ≤ 1099511627776) (hk : xs.length < k) :
    laws_markCandleS.f k xs 1 = some (((1 + 3 * xs.length : Nat) : Int), marked mkCandle 3 xs.length) := by
  unfold laws_markCandleS.f
  refine mark_go laws_markCandleS.l0 mkCandle nxCandle 3 (by omega) nxCandle_ok ?_ ?_ xs.length hx xs.length k 0 xs rfl (by omega) hk (by intro j hj; omega)
  · intro k xs c i hi
    obtain ⟨x, hx⟩ := at_lt hi
    simp only [laws_markCandleS.l0]
    rw [if_pos (by omega), if_pos (by omega)]
    simp [rd_T25, hx, hi, mkCandle, nxCandle]
  · intro k xs c i hi
    simp only [laws_markCandleS.l0]
    rw [if_neg (by omega)]
theorem heldCandleS_ok {k n : Nat} (hx : n ≤ 1099511627776) (hk : n < k) : laws_heldCandleS.f k (marked mkCandle 3 n) 1 = some ((1 + 3 * n : Nat) : Int) := by
  unfold laws_heldCandleS.f
  refine held_go laws_heldCandleS.l0 mkCandle nxCandle 3 (by omega) nxCandle_ok ?_ ?_ n hx n k 0 (by omega) hk
  · intro k xs c i hi
    have h1 := lt_of hi
    simp only [laws_heldCandleS.l0]
    rw [if_pos (by omega), if_pos (by omega)]
    simp [rd_T25, hi, mkCandle, nxCandle]
  · intro k xs c i hi
    simp only [laws_heldCandleS.l0]
    rw [if_neg (by omega)]
end Go.Proofs.Ytkefphfjeodgnaa.Pure
