/- Lists of whole numbers, compared and marked. Conditions: lengths, as each lemma names. -/
import Derived.Test.YtmhnllcdfjggaaaVOutTogetLists
import Derived.Test.YtmhnllcdfjggaaaVOutTogetPAx0
import Derived.Test.YtmhnllcdfjggaaaVOutTogetPAx1
import Derived.Test.YtmhnllcdfjggaaaVOutTogetPAx2
import Derived.Test.YtmhnllcdfjggaaaVOutTogetPAx3
import Derived.Test.YtmhnllcdfjggaaaVOutTogetPAx4
import Derived.Test.YtmhnllcdfjggaaaVOutTogetPAx5
import Derived.Test.YtmhnllcdfjggaaaVOutTogetPAx6
import Derived.Test.YtmhnllcdfjggaaaVOutTogetPAx7
import Derived.Test.YtmhnllcdfjggaaaVOutTogetPAx8
import Derived.Test.YtmhnllcdfjggaaaVOutTogetPAx9
import Derived.Test.YtmhnllcdfjggaaaVOutTogetPAx10
import Derived.Test.YtmhnllcdfjggaaaVOutTogetPAx11
import Derived.Test.YtmhnllcdfjggaaaVOutTogetPAx12
import Derived.Test.YtmhnllcdfjggaaaVOutTogetPAx13
set_option linter.unusedVariables false
set_option linter.unusedSimpArgs false
namespace Go.Proofs.Ytmhnllcdfjggaaa.Pure
open Go.RowKit Go.Proofs.Ytmhnllcdfjggaaa.PA Go.Proofs.Ytmhnllcdfjggaaa.PL Go.Proofs.YtmhnllcdfjggaaaW.PrintWords Go.Proofs.YtmhnllcdfjggaaaW.PrintLast Go.Proofs.YtmhnllcdfjggaaaW.PrintMore

theorem rdI_at {xs : List Int} {i : Nat} {x : Int} (h : xs[i]? = some x) : rd xs i = x := by simp [rd, h]
theorem eqIntS_self {k : Nat} {xs : List Int} (hx : xs.length ≤ 1099511627776) (hk : xs.length < k) : laws_eqIntS.f k xs xs = some true := by
 unfold laws_eqIntS.f
 rw [if_pos rfl]
 refine self_go (fun k xs i => laws_eqIntS.l0 k xs xs i) ?_ ?_ xs hx xs.length k 0 (by omega) hk
 ·intro k xs i x hx
  have h1 := lt_of hx
  simp only [laws_eqIntS.l0]
  rw [if_pos (by omega), if_pos (by omega), if_pos (by omega), if_pos trivial]
 ·intro k xs i hi
  simp only [laws_eqIntS.l0]
  rw [if_neg (by omega)]
def nxInt (c : Int) : Int := wrap64 (c + 1)
theorem nxInt_ok (c : Int) (h0 : 0 ≤ c) (h1 : c ≤ 4611686018427387904) : nxInt c = c + (1 : Nat) := by
 unfold nxInt
 unfold wrap64
 omega
theorem markIntS_ok {k : Nat} {xs : List Int} (hx : xs.length ≤ 1099511627776) (hk : xs.length < k) :
 laws_markIntS.f k xs 1 = some (((1 + 1 * xs.length : Nat) : Int), marked (fun c => c) 1 xs.length) := by
 unfold laws_markIntS.f
 refine mark_go laws_markIntS.l0 (fun c => c) nxInt 1 (by omega) nxInt_ok ?_ ?_ xs.length hx xs.length k 0 xs rfl (by omega) hk (by intro j hj; omega)
 ·intro k xs c i hi
  simp only [laws_markIntS.l0]
  rw [if_pos (by omega), if_pos (by omega)]
  simp [nxInt]
 ·intro k xs c i hi
  simp only [laws_markIntS.l0]
  rw [if_neg (by omega)]
theorem heldIntS_ok {k n : Nat} (hx : n ≤ 1099511627776) (hk : n < k) : laws_heldIntS.f k (marked (fun c => c) 1 n) 1 = some ((1 + 1 * n : Nat) : Int) := by
 unfold laws_heldIntS.f
 refine held_go laws_heldIntS.l0 (fun c => c) nxInt 1 (by omega) nxInt_ok ?_ ?_ n hx n k 0 (by omega) hk
 ·intro k xs c i hi
  have h1 := lt_of hi
  simp only [laws_heldIntS.l0]
  rw [if_pos (by omega), if_pos (by omega), rdI_at hi, if_pos rfl]
  rfl
 ·intro k xs c i hi
  simp only [laws_heldIntS.l0]
  rw [if_neg (by omega)]
end Go.Proofs.Ytmhnllcdfjggaaa.Pure
