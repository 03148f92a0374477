/- Things: lists of them, copied, compared and marked. Conditions: lengths, as each lemma names. -/
import Derived.Test.YtnajkfdgkghgbaaVRunMixedLists
import Derived.Test.YtnajkfdgkghgbaaVRunMixedPAx0
import Derived.Test.YtnajkfdgkghgbaaVRunMixedPAx1
import Derived.Test.YtnajkfdgkghgbaaVRunMixedPAx2
import Derived.Test.YtnajkfdgkghgbaaVRunMixedPAx3
import Derived.Test.YtnajkfdgkghgbaaVRunMixedPAx4
import Derived.Test.YtnajkfdgkghgbaaVRunMixedPAx5
import Derived.Test.YtnajkfdgkghgbaaVRunMixedPAx6
import Derived.Test.YtnajkfdgkghgbaaVRunMixedPAx7
import Derived.Test.YtnajkfdgkghgbaaVRunMixedPAx8
import Derived.Test.YtnajkfdgkghgbaaVRunMixedPAx9
import Derived.Test.YtnajkfdgkghgbaaVRunMixedPAx10
set_option linter.unusedVariables false
set_option linter.unusedSimpArgs false
namespace Go.Proofs.Ytnajkfdgkghgbaa.Pure
open Go.RowKit Go.Proofs.Ytnajkfdgkghgbaa.PA Go.Proofs.Ytnajkfdgkghgbaa.PL Go.Proofs.YtnajkfdgkghgbaaW.PrintWords Go.Proofs.YtnajkfdgkghgbaaW.PrintLast Go.Proofs.YtnajkfdgkghgbaaW.PrintMore

def convThing (x : S69) : S57 := ⟨x.f0, x.f1, x.f2, x.f3⟩
theorem toThingS_ok {k : Nat} {xs : List S69} (hx : xs.length ≤ 1048576) (hk : xs.length < k) : laws_toThingS.f k xs = some (xs.map convThing) := by
  unfold laws_toThingS.f
  rw [if_pos (by omega), if_pos (by simp; omega)]
  refine conv_go laws_toThingS.l0 convThing ?_ ?_ xs (by omega) xs.length k 0 _ (by omega) (by simp) hk (by intro j hj; omega)
  · intro k xs ys i x hx hi
    have h1 := lt_of hx
    simp only [laws_toThingS.l0]
    rw [if_pos (by omega), if_pos (by omega)]
    simp only [laws_toThing.f, Option.bind_some]
    rw [if_pos (by omega)]
    simp [rd_T69, hx, convThing]
  · intro k xs ys i hi
    simp only [laws_toThingS.l0]
    rw [if_neg (by omega)]
theorem eqThingS_self {k : Nat} {xs : List S57} (hx : xs.length ≤ 1099511627776) (hk : xs.length < k) : laws_eqThingS.f k xs xs = some true := by
  unfold laws_eqThingS.f
  rw [if_pos rfl]
  refine self_go (fun k xs i => laws_eqThingS.l0 k xs xs i) ?_ ?_ xs hx xs.length k 0 (by omega) hk
  · intro k xs i x hx
    have h1 := lt_of hx
    simp only [laws_eqThingS.l0]
    rw [if_pos (by omega), if_pos (by omega), if_pos (by omega)]
    simp [laws_eqThing.f]
  · intro k xs i hi
    simp only [laws_eqThingS.l0]
    rw [if_neg (by omega)]
def mkThing (c : Int) : S57 := ⟨c, wrap64 (c + 1), wrap64 ((wrap64 (c + 1)) + 1), wrap64 ((wrap64 ((wrap64 (c + 1)) + 1)) + 1)⟩
def nxThing (c : Int) : Int := wrap64 ((wrap64 ((wrap64 ((wrap64 (c + 1)) + 1)) + 1)) + 1)
theorem nxThing_ok (c : Int) (h0 : 0 ≤ c) (h1 : c ≤ 4611686018427387904) : nxThing c = c + (4 : Nat) := by
  unfold nxThing
  unfold wrap64
  omega
theorem markThingS_ok {k : Nat} {xs : List S57} (hx : xs.length ≤ 1099511627776) (hk : xs.length < k) :
    laws_markThingS.f k xs 1 = some (((1 + 4 * xs.length : Nat) : Int), marked mkThing 4 xs.length) := by
  unfold laws_markThingS.f
  refine mark_go laws_markThingS.l0 mkThing nxThing 4 (by omega) nxThing_ok ?_ ?_ xs.length hx xs.length k 0 xs rfl (by omega) hk (by intro j hj; omega)
  · intro k xs c i hi
    obtain ⟨x, hx⟩ := at_lt hi
    simp only [laws_markThingS.l0]
    rw [if_pos (by omega), if_pos (by omega)]
    simp [rd_T57, hx, hi, mkThing, nxThing]
  · intro k xs c i hi
    simp only [laws_markThingS.l0]
    rw [if_neg (by omega)]
end Go.Proofs.Ytnajkfdgkghgbaa.Pure
