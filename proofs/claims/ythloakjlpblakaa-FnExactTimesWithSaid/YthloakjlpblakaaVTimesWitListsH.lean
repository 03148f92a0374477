/- Pairs: lists of them, copied, compared and marked. Conditions: lengths, as each lemma names. -/
import Derived.Test.YthloakjlpblakaaVTimesWitLists
import Derived.Test.YthloakjlpblakaaVTimesWitPHx0
import Derived.Test.YthloakjlpblakaaVTimesWitPHx1
import Derived.Test.YthloakjlpblakaaVTimesWitPHx2
import Derived.Test.YthloakjlpblakaaVTimesWitPHx3
import Derived.Test.YthloakjlpblakaaVTimesWitPHx4
import Derived.Test.YthloakjlpblakaaVTimesWitPHx5
import Derived.Test.YthloakjlpblakaaVTimesWitPHx6
import Derived.Test.YthloakjlpblakaaVTimesWitPHx7
set_option linter.unusedVariables false
set_option linter.unusedSimpArgs false
namespace Go.Proofs.Ythloakjlpblakaa.Pure
open Go.RowKit Go.Proofs.Ythloakjlpblakaa.PH Go.Proofs.Ythloakjlpblakaa.PL Go.Proofs.YthloakjlpblakaaW.PrintWords Go.Proofs.YthloakjlpblakaaW.PrintLast Go.Proofs.YthloakjlpblakaaW.PrintMore

theorem eqIntA2S_self {k : Nat} {xs : List S27} (hx : xs.length ≤ 1099511627776) (hk : xs.length < k) : laws_eqIntA2S.f k xs xs = some true := by
  unfold laws_eqIntA2S.f
  rw [if_pos rfl]
  refine self_go (fun k xs i => laws_eqIntA2S.l0 k xs xs i) ?_ ?_ xs hx xs.length k 0 (by omega) hk
  · intro k xs i x hx
    have h1 := lt_of hx
    simp only [laws_eqIntA2S.l0]
    rw [if_pos (by omega), if_pos (by omega), if_pos (by omega)]
    simp [laws_eqIntA2.f]
  · intro k xs i hi
    simp only [laws_eqIntA2S.l0]
    rw [if_neg (by omega)]
def mkIntA2 (c : Int) : S27 := ⟨c, wrap64 (c + 1)⟩
def nxIntA2 (c : Int) : Int := wrap64 ((wrap64 (c + 1)) + 1)
theorem nxIntA2_ok (c : Int) (h0 : 0 ≤ c) (h1 : c ≤ 4611686018427387904) : nxIntA2 c = c + (2 : Nat) := by
  unfold nxIntA2
  unfold wrap64
  omega
theorem markIntA2S_ok {k : Nat} {xs : List S27} (hx : xs.length ≤ 1099511627776) (hk : xs.length < k) :
    laws_markIntA2S.f k xs 1 = some (((1 + 2 * xs.length : Nat) : Int), marked mkIntA2 2 xs.length) := by
  unfold laws_markIntA2S.f
  refine mark_go laws_markIntA2S.l0 mkIntA2 nxIntA2 2 (by omega) nxIntA2_ok ?_ ?_ xs.length hx xs.length k 0 xs rfl (by omega) hk (by intro j hj; omega)
  · intro k xs c i hi
    obtain ⟨x, hx⟩ := at_lt hi
    simp only [laws_markIntA2S.l0]
    rw [if_pos (by omega), if_pos (by omega)]
    simp [rd_T27, hx, hi, mkIntA2, nxIntA2]
  · intro k xs c i hi
    simp only [laws_markIntA2S.l0]
    rw [if_neg (by omega)]
theorem heldIntA2S_ok {k n : Nat} (hx : n ≤ 1099511627776) (hk : n < k) : laws_heldIntA2S.f k (marked mkIntA2 2 n) 1 = some ((1 + 2 * n : Nat) : Int) := by
  unfold laws_heldIntA2S.f
  refine held_go laws_heldIntA2S.l0 mkIntA2 nxIntA2 2 (by omega) nxIntA2_ok ?_ ?_ n hx n k 0 (by omega) hk
  · intro k xs c i hi
    have h1 := lt_of hi
    simp only [laws_heldIntA2S.l0]
    rw [if_pos (by omega), if_pos (by omega)]
    simp [rd_T27, hi, mkIntA2, nxIntA2]
  · intro k xs c i hi
    simp only [laws_heldIntA2S.l0]
    rw [if_neg (by omega)]
end Go.Proofs.Ythloakjlpblakaa.Pure
