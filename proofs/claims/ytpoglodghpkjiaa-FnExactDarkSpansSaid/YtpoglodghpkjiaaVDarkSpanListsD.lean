/- Candles: lists of them, copied, compared and marked. Conditions: lengths, as each lemma names. -/
import Derived.Test.YtpoglodghpkjiaaVDarkSpanLists
import Derived.Test.YtpoglodghpkjiaaVDarkSpanPDx0
import Derived.Test.YtpoglodghpkjiaaVDarkSpanPDx1
import Derived.Test.YtpoglodghpkjiaaVDarkSpanPDx2
import Derived.Test.YtpoglodghpkjiaaVDarkSpanPDx3
import Derived.Test.YtpoglodghpkjiaaVDarkSpanPDx4
import Derived.Test.YtpoglodghpkjiaaVDarkSpanPDx5
import Derived.Test.YtpoglodghpkjiaaVDarkSpanPDx6
import Derived.Test.YtpoglodghpkjiaaVDarkSpanPDx7
import Derived.Test.YtpoglodghpkjiaaVDarkSpanPDx8
import Derived.Test.YtpoglodghpkjiaaVDarkSpanPDx9
import Derived.Test.YtpoglodghpkjiaaVDarkSpanPDx10
import Derived.Test.YtpoglodghpkjiaaVDarkSpanPDx11
import Derived.Test.YtpoglodghpkjiaaVDarkSpanPDx12
import Derived.Test.YtpoglodghpkjiaaVDarkSpanPDx13
set_option linter.unusedVariables false
set_option linter.unusedSimpArgs false
namespace Go.Proofs.Ytpoglodghpkjiaa.Pure
open Go.RowKit Go.Proofs.Ytpoglodghpkjiaa.PD Go.Proofs.Ytpoglodghpkjiaa.PL Go.Proofs.YtpoglodghpkjiaaW.PrintWords Go.Proofs.YtpoglodghpkjiaaW.PrintLast Go.Proofs.YtpoglodghpkjiaaW.PrintMore

def convCandle (x : S50) : S47 := ⟨x.f0, x.f1, x.f2⟩
theorem toCandleS_ok {k : Nat} {xs : List S50} (hx : xs.length ≤ 1048576) (hk : xs.length < k) : laws_toCandleS.f k xs = some (xs.map convCandle) := by
  unfold laws_toCandleS.f
  rw [if_pos (by omega), if_pos (by simp; omega)]
  refine conv_go laws_toCandleS.l0 convCandle ?_ ?_ xs (by omega) xs.length k 0 _ (by omega) (by simp) hk (by intro j hj; omega)
  · intro k xs ys i x hx hi
    have h1 := lt_of hx
    simp only [laws_toCandleS.l0]
    rw [if_pos (by omega), if_pos (by omega)]
    simp only [laws_toCandle.f, Option.bind_some]
    rw [if_pos (by omega)]
    simp [rd_T50, hx, convCandle]
  · intro k xs ys i hi
    simp only [laws_toCandleS.l0]
    rw [if_neg (by omega)]
theorem szCandleS_far {xs : List S50} (h : 1048576 < xs.length) (hx : xs.length ≤ 9223372036854775807) : laws_szCandleS.f xs 1048576 = some (-1) := by
  unfold laws_szCandleS.f
  rw [wr (by omega) (by omega), if_pos (by omega)]
theorem szCandleS_ex (xs : List S50) : ∃ k, laws_szCandleS.f xs 1048576 = some k := by
  unfold laws_szCandleS.f
  split <;> exact ⟨_, rfl⟩
theorem eqCandleS_self {k : Nat} {xs : List S47} (hx : xs.length ≤ 1099511627776) (hk : xs.length < k) : laws_eqCandleS.f k xs xs = some true := by
  unfold laws_eqCandleS.f
  rw [if_pos rfl]
  refine self_go (fun k xs i => laws_eqCandleS.l0 k xs xs i) ?_ ?_ xs hx xs.length k 0 (by omega) hk
  · intro k xs i x hx
    have h1 := lt_of hx
    simp only [laws_eqCandleS.l0]
    rw [if_pos (by omega), if_pos (by omega), if_pos (by omega)]
    simp [laws_eqCandle.f]
  · intro k xs i hi
    simp only [laws_eqCandleS.l0]
    rw [if_neg (by omega)]
def mkCandle (c : Int) : S47 := ⟨c, wrap64 (c + 1), wrap64 ((wrap64 (c + 1)) + 1)⟩
def nxCandle (c : Int) : Int := wrap64 ((wrap64 ((wrap64 (c + 1)) + 1)) + 1)
theorem nxCandle_ok (c : Int) (h0 : 0 ≤ c) (h1 : c ≤ 4611686018427387904) : nxCandle c = c + (3 : Nat) := by
  unfold nxCandle
  unfold wrap64
  omega
theorem markCandleS_ok {k : Nat} {xs : List S47} (hx : xs.length ≤ 1099511627776) (hk : xs.length < k) :
    laws_markCandleS.f k xs 1 = some (((1 + 3 * xs.length : Nat) : Int), marked mkCandle 3 xs.length) := by
  unfold laws_markCandleS.f
  refine mark_go laws_markCandleS.l0 mkCandle nxCandle 3 (by omega) nxCandle_ok ?_ ?_ xs.length hx xs.length k 0 xs rfl (by omega) hk (by intro j hj; omega)
  · intro k xs c i hi
    obtain ⟨x, hx⟩ := at_lt hi
    simp only [laws_markCandleS.l0]
    rw [if_pos (by omega), if_pos (by omega)]
    simp [rd_T47, hx, hi, mkCandle, nxCandle]
  · intro k xs c i hi
    simp only [laws_markCandleS.l0]
    rw [if_neg (by omega)]
end Go.Proofs.Ytpoglodghpkjiaa.Pure
