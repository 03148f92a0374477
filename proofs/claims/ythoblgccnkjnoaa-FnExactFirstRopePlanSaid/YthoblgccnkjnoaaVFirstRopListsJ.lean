/- Trips: lists of them, copied, compared and marked. Conditions: lengths, as each lemma names. -/
import Derived.Test.YthoblgccnkjnoaaVFirstRopLists
import Derived.Test.YthoblgccnkjnoaaVFirstRopPAx0
import Derived.Test.YthoblgccnkjnoaaVFirstRopPAx1
import Derived.Test.YthoblgccnkjnoaaVFirstRopPAx2
import Derived.Test.YthoblgccnkjnoaaVFirstRopPAx3
import Derived.Test.YthoblgccnkjnoaaVFirstRopPAx4
import Derived.Test.YthoblgccnkjnoaaVFirstRopPAx5
import Derived.Test.YthoblgccnkjnoaaVFirstRopPAx6
import Derived.Test.YthoblgccnkjnoaaVFirstRopPAx7
import Derived.Test.YthoblgccnkjnoaaVFirstRopPAx8
import Derived.Test.YthoblgccnkjnoaaVFirstRopPAx9
import Derived.Test.YthoblgccnkjnoaaVFirstRopPAx10
import Derived.Test.YthoblgccnkjnoaaVFirstRopPAx11
import Derived.Test.YthoblgccnkjnoaaVFirstRopPAx12
import Derived.Test.YthoblgccnkjnoaaVFirstRopPAx13
import Derived.Test.YthoblgccnkjnoaaVFirstRopPAx14
import Derived.Test.YthoblgccnkjnoaaVFirstRopPAx15
set_option linter.unusedVariables false
set_option linter.unusedSimpArgs false
namespace Go.Proofs.Ythoblgccnkjnoaa.Pure
open Go.RowKit Go.Proofs.Ythoblgccnkjnoaa.PA Go.Proofs.Ythoblgccnkjnoaa.PL Go.Proofs.YthoblgccnkjnoaaW.PrintWords Go.Proofs.YthoblgccnkjnoaaW.PrintLast Go.Proofs.YthoblgccnkjnoaaW.PrintMore

theorem eqIntA3S_self {k : Nat} {xs : List S22} (hx : xs.length ≤ 1099511627776) (hk : xs.length < k) : laws_eqIntA3S.f k xs xs = some true := by
  unfold laws_eqIntA3S.f
  rw [if_pos rfl]
  refine self_go (fun k xs i => laws_eqIntA3S.l0 k xs xs i) ?_ ?_ xs hx xs.length k 0 (by omega) hk
  · intro k xs i x hx
    have h1 := lt_of hx
    simp only [laws_eqIntA3S.l0]
    rw [if_pos (by omega), if_pos (by omega), if_pos (by omega)]
    simp [laws_eqIntA3.f]
  · intro k xs i hi
    simp only [laws_eqIntA3S.l0]
    rw [if_neg (by omega)]
def mkIntA3 (c : Int) : S22 := ⟨c, wrap64 (c + 1), wrap64 ((wrap64 (c + 1)) + 1)⟩
def nxIntA3 (c : Int) : Int := wrap64 ((wrap64 ((wrap64 (c + 1)) + 1)) + 1)
theorem nxIntA3_ok (c : Int) (h0 : 0 ≤ c) (h1 : c ≤ 4611686018427387904) : nxIntA3 c = c + (3 : Nat) := by
  unfold nxIntA3
  unfold wrap64
  omega
theorem markIntA3S_ok {k : Nat} {xs : List S22} (hx : xs.length ≤ 1099511627776) (hk : xs.length < k) :
    laws_markIntA3S.f k xs 1 = some (((1 + 3 * xs.length : Nat) : Int), marked mkIntA3 3 xs.length) := by
  unfold laws_markIntA3S.f
  refine mark_go laws_markIntA3S.l0 mkIntA3 nxIntA3 3 (by omega) nxIntA3_ok ?_ ?_ xs.length hx xs.length k 0 xs rfl (by omega) hk (by intro j hj; omega)
  · intro k xs c i hi
    obtain ⟨x, hx⟩ := at_lt hi
    simp only [laws_markIntA3S.l0]
    rw [if_pos (by omega), if_pos (by omega)]
    simp [rd_T22, hx, hi, mkIntA3, nxIntA3]
  · intro k xs c i hi
    simp only [laws_markIntA3S.l0]
    rw [if_neg (by omega)]
theorem heldIntA3S_ok {k n : Nat} (hx : n ≤ 1099511627776) (hk : n < k) : laws_heldIntA3S.f k (marked mkIntA3 3 n) 1 = some ((1 + 3 * n : Nat) : Int) := by
  unfold laws_heldIntA3S.f
  refine held_go laws_heldIntA3S.l0 mkIntA3 nxIntA3 3 (by omega) nxIntA3_ok ?_ ?_ n hx n k 0 (by omega) hk
  · intro k xs c i hi
    have h1 := lt_of hi
    simp only [laws_heldIntA3S.l0]
    rw [if_pos (by omega), if_pos (by omega)]
    simp [rd_T22, hi, mkIntA3, nxIntA3]
  · intro k xs c i hi
    simp only [laws_heldIntA3S.l0]
    rw [if_neg (by omega)]
end Go.Proofs.Ythoblgccnkjnoaa.Pure
