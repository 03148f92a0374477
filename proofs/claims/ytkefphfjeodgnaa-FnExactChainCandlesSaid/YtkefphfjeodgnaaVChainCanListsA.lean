/- Candles: lists of them, copied, compared and marked. Conditions: lengths, as each lemma names. -/
import Derived.Test.YtkefphfjeodgnaaVChainCanLists
import Derived.Test.YtkefphfjeodgnaaVChainCanPAx17
set_option linter.unusedVariables false
set_option linter.unusedSimpArgs false
namespace Go.Proofs.Ytkefphfjeodgnaa.Pure
open Go.RowKit Go.Proofs.Ytkefphfjeodgnaa.PA Go.Proofs.Ytkefphfjeodgnaa.PL Go.Proofs.YtkefphfjeodgnaaW.PrintWords Go.Proofs.YtkefphfjeodgnaaW.PrintLast Go.Proofs.YtkefphfjeodgnaaW.PrintMore

def convCandle (x : S23) : S25 := ⟨x.f0, x.f1, x.f2⟩
theorem toCandleS_ok {k : Nat} {xs : List S23} (hx : xs.length ≤ 1048576) (hk : xs.length < k) : laws_toCandleS.f k xs = some (xs.map convCandle) := by
  unfold laws_toCandleS.f
  rw [if_pos (by omega), if_pos (by simp; omega)]
  refine conv_go laws_toCandleS.l0 convCandle ?_ ?_ xs (by omega) xs.length k 0 _ (by omega) (by simp) hk (by intro j hj; omega)
  · intro k xs ys i x hx hi
    have h1 := lt_of hx
    simp only [laws_toCandleS.l0]
    rw [if_pos (by omega), if_pos (by omega)]
    simp only [laws_toCandle.f, Option.bind_some]
    rw [if_pos (by omega)]
    simp [rd_T23, hx, convCandle]
  · intro k xs ys i hi
    simp only [laws_toCandleS.l0]
    rw [if_neg (by omega)]
theorem szCandleS_far {xs : List S23} (h : 1048576 < xs.length) (hx : xs.length ≤ 9223372036854775807) : laws_szCandleS.f xs 1048576 = some (-1) := by
  unfold laws_szCandleS.f
  rw [wr (by omega) (by omega), if_pos (by omega)]
theorem szCandleS_ex (xs : List S23) : ∃ k, laws_szCandleS.f xs 1048576 = some k := by
  unfold laws_szCandleS.f
  split <;> exact ⟨_, rfl⟩
theorem eqCandleS_self {k : Nat} {xs : List S25} (hx : xs.length ≤ 1099511627776) (hk : xs.length < k) : laws_eqCandleS.f k xs xs = some true := by
  unfold laws_eqCandleS.f
  rw [if_pos rfl]
  refine self_go (fun k xs i => laws_eqCandleS.l0 k xs xs i) ?_ ?_ xs hx xs.length k 0 (by omega) hk
  · intro k xs i x hx
    have h1 := lt_of hx
    simp only [laws_eqCandleS.l0]
    rw [if_pos (by omega), if_pos (by omega), if_pos (by omega)]
    simp [laws_eqCandle.f]
  · intro k xs i hi
    simp only [laws_eqCandleS.l0]
    rw [if_neg (by omega)]
end Go.Proofs.Ytkefphfjeodgnaa.Pure
