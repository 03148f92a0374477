/- spec.l6Find at a time that no table has; fractions. Conditions: none. -/
import Derived.Test.YthloakjlpblakaaVFirstFusPFx7
set_option linter.unusedVariables false
set_option linter.unusedSimpArgs false
namespace Go.Proofs.Ythloakjlpblakaa.Pure
open Go.RowKit Go.Proofs.Ythloakjlpblakaa.PF Go.Proofs.YthloakjlpblakaaW.PrintWords Go.Proofs.YthloakjlpblakaaW.PrintLast
def noT (t1 t2 : Int) (l : List S54) : Prop := ∀ x ∈ l, (x.f0.f0 == t1 && (x.f0.f1 == t2)) = false
theorem w1 (n : Nat) (h : n ≤ 1000) : wrap64 ((n : Int) + 1) = ((n + 1 : Nat) : Int) := by
  rw [show ((n : Int) + 1) = ((n + 1 : Nat) : Int) by omega]
  have h1 : IntKind.i64.wrap ((n + 1 : Nat) : Int) = ((n + 1 : Nat) : Int) := IntWalk.i64_in _ (by omega)
  rwa [i64_w] at h1
theorem find_l1 (T : List (List S54)) (t1 t2 : Int) (n : Nat) (hn : n < T.length) (hT : T.length ≤ 100) (l : List S54) (hl : rd_L4 T (n : Int) = l) (hs : l.length ≤ 100) (h : noT t1 t2 l) :
    ∀ (d i k : Nat), d = l.length - i → i ≤ l.length → spec_l6Find.l1 (k + d + 1) T (n : Int) (i : Int) t1 t2 = spec_l6Find.l0 k T ((n + 1 : Nat) : Int) t1 t2
  | 0, i, k, hd, hi => by
    rw [spec_l6Find.l1, if_pos (by omega), if_pos (by omega), hl, if_neg (by omega), w1 n (by omega)]
  | d + 1, i, k, hd, hi => by
    have hx : (rd_T54 l (i : Int)) ∈ l := by
      unfold rd_T54
      rw [Int.toNat_natCast, List.getD_eq_getElem?_getD, List.getElem?_eq_getElem (by omega)]
      exact List.getElem_mem _
    rw [spec_l6Find.l1, if_pos (by omega), if_pos (by omega), hl, if_pos (by omega), if_pos (by omega), h _ hx, if_neg (by decide), w1 i (by omega)]
    exact find_l1 T t1 t2 n hn hT l hl hs h d (i + 1) k (by omega) (by omega)
theorem find_none (T : List (List S54)) (t1 t2 : Int) (h9 : T.length = 9) (hs : ∀ l ∈ T, l.length ≤ 100 ∧ noT t1 t2 l) :
    ∀ (d n k : Nat), n + d = 9 → spec_l6Find.l0 (k + 102 * d + 1) T (n : Int) t1 t2 = some (-1, ⟨#[]⟩)
  | 0, n, k, hd => by
    rw [spec_l6Find.l0, if_neg (by omega)]
  | d + 1, n, k, hd => by
    have hx : rd_L4 T (n : Int) ∈ T := by
      unfold rd_L4
      rw [Int.toNat_natCast, List.getD_eq_getElem?_getD, List.getElem?_eq_getElem (by omega)]
      exact List.getElem_mem _
    obtain ⟨h1, h2⟩ := hs _ hx
    rw [spec_l6Find.l0, if_pos (by omega)]
    have e := find_l1 T t1 t2 n (by omega) (by omega) _ rfl h1 h2 _ 0 (k + 102 * (d + 1) - (rd_L4 T (n : Int)).length - 1) rfl (by omega)
    rw [show k + 102 * (d + 1) - (rd_L4 T (n : Int)).length - 1 + ((rd_L4 T (n : Int)).length - 0) + 1 = k + 102 * (d + 1) by omega] at e
    rw [show ((0 : Int)) = ((0 : Nat) : Int) from rfl, e]
    have := find_none T t1 t2 h9 hs d (n + 1) (k + 102 * (d + 1) - (rd_L4 T (n : Int)).length - 1 - 102 * d - 1) (by omega)
    rw [show k + 102 * (d + 1) - (rd_L4 T (n : Int)).length - 1 - 102 * d - 1 + 102 * d + 1 = k + 102 * (d + 1) - (rd_L4 T (n : Int)).length - 1 by omega] at this
    exact this
end Go.Proofs.Ythloakjlpblakaa.Pure
