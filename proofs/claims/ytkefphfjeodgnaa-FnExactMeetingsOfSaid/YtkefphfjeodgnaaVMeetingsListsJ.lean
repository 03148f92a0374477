/- Pairs: lists of them, copied, compared and marked. Conditions: lengths, as each lemma names. -/
import Derived.Test.YtkefphfjeodgnaaVMeetingsLists
import Derived.Test.YtkefphfjeodgnaaVMeetingsPAx0
import Derived.Test.YtkefphfjeodgnaaVMeetingsPAx1
import Derived.Test.YtkefphfjeodgnaaVMeetingsPAx2
import Derived.Test.YtkefphfjeodgnaaVMeetingsPAx3
import Derived.Test.YtkefphfjeodgnaaVMeetingsPAx4
import Derived.Test.YtkefphfjeodgnaaVMeetingsPAx5
import Derived.Test.YtkefphfjeodgnaaVMeetingsPAx8
import Derived.Test.YtkefphfjeodgnaaVMeetingsPAx9
import Derived.Test.YtkefphfjeodgnaaVMeetingsPAx12
import Derived.Test.YtkefphfjeodgnaaVMeetingsPAx13
import Derived.Test.YtkefphfjeodgnaaVMeetingsPAx17
import Derived.Test.YtkefphfjeodgnaaVMeetingsPAx19
import Derived.Test.YtkefphfjeodgnaaVMeetingsPAx20
import Derived.Test.YtkefphfjeodgnaaVMeetingsPAx21
import Derived.Test.YtkefphfjeodgnaaVMeetingsPAx22
import Derived.Test.YtkefphfjeodgnaaVMeetingsPAx23
import Derived.Test.YtkefphfjeodgnaaVMeetingsPAx24
import Derived.Test.YtkefphfjeodgnaaVMeetingsPAx25
import Derived.Test.YtkefphfjeodgnaaVMeetingsPAx26
import Derived.Test.YtkefphfjeodgnaaVMeetingsPAx27
set_option linter.unusedVariables false
set_option linter.unusedSimpArgs false
namespace Go.Proofs.Ytkefphfjeodgnaa.Pure
open Go.RowKit Go.Proofs.Ytkefphfjeodgnaa.PA Go.Proofs.Ytkefphfjeodgnaa.PL Go.Proofs.YtkefphfjeodgnaaW.PrintWords Go.Proofs.YtkefphfjeodgnaaW.PrintLast Go.Proofs.YtkefphfjeodgnaaW.PrintMore

theorem eqIntA2S_self {k : Nat} {xs : List S28} (hx : xs.length ≤ 1099511627776) (hk : xs.length < k) : laws_eqIntA2S.f k xs xs = some true := by
  unfold laws_eqIntA2S.f
  rw [if_pos rfl]
  refine self_go (fun k xs i => laws_eqIntA2S.l0 k xs xs i) ?_ ?_ xs hx xs.length k 0 (by omega) hk
  · intro k xs i x hx
    have h1 := lt_of hx
    simp only [laws_eqIntA2S.l0]
    rw [if_pos (by omega), if_pos (by omega), if_pos (by omega)]
    simp [laws_eqIntA2.f]
  · intro k xs i hi
    simp only [laws_eqIntA2S.l0]
    rw [if_neg (by omega)]
def mkIntA2 (c : Int) : S28 := ⟨c, wrap64 (c + 1)⟩
def nxIntA2 (c : Int) : Int := wrap64 ((wrap64 (c + 1)) + 1)
theorem nxIntA2_ok (c : Int) (h0 : 0 ≤ c) (h1 : c ≤ 4611686018427387904) : nxIntA2 c = c + (2 : Nat) := by
  unfold nxIntA2
  unfold wrap64
  omega
theorem markIntA2S_ok {k : Nat} {xs : List S28} (hx : xs.length ≤ 1099511627776) (hk : xs.length < k) :
    laws_markIntA2S.f k xs 1 = some (((1 + 2 * xs.length : Nat) : Int), marked mkIntA2 2 xs.length) := by
  unfold laws_markIntA2S.f
  refine mark_go laws_markIntA2S.l0 mkIntA2 nxIntA2 2 (by omega) nxIntA2_ok ?_ ?_ xs.length hx xs.length k 0 xs rfl (by omega) hk (by intro j hj; omega)
  · intro k xs c i hi
    obtain ⟨x, hx⟩ := at_lt hi
    simp only [laws_markIntA2S.l0]
    rw [if_pos (by omega), if_pos (by omega)]
    simp [rd_T28, hx, hi, mkIntA2, nxIntA2]
  · intro k xs c i hi
    simp only [laws_markIntA2S.l0]
    rw [if_neg (by omega)]
theorem heldIntA2S_ok {k n : Nat} (hx : n ≤ 1099511627776) (hk : n < k) : laws_heldIntA2S.f k (marked mkIntA2 2 n) 1 = some ((1 + 2 * n : Nat) : Int) := by
  unfold laws_heldIntA2S.f
  refine held_go laws_heldIntA2S.l0 mkIntA2 nxIntA2 2 (by omega) nxIntA2_ok ?_ ?_ n hx n k 0 (by omega) hk
  · intro k xs c i hi
    have h1 := lt_of hi
    simp only [laws_heldIntA2S.l0]
    rw [if_pos (by omega), if_pos (by omega)]
    simp [rd_T28, hi, mkIntA2, nxIntA2]
  · intro k xs c i hi
    simp only [laws_heldIntA2S.l0]
    rw [if_neg (by omega)]
end Go.Proofs.Ytkefphfjeodgnaa.Pure
