/- All times, with both sides' tables: what the kernel evaluates. Conditions: none. -/
import Derived.Test.YthloakjlpblakaaVNextTimeMirH
import Derived.Test.YthloakjlpblakaaVNextTimeTimesP
set_option linter.unusedVariables false
set_option linter.unusedSimpArgs false
namespace Go.Proofs.Ythloakjlpblakaa.Pure
open Go.RowKit Go.Proofs.Ythloakjlpblakaa.PH Go.Proofs.YthloakjlpblakaaW.PrintWords Go.Proofs.YthloakjlpblakaaW.PrintLast
def tmS (x : S54) : Int × Int := (x.f0.f0, x.f0.f1)
def tms (l : List S54) : List (Int × Int) := l.map tmS
def unionU (T : List (List S54)) : List (Int × Int) := (tms T.flatten).foldl (fun u x => if PB.inB x u then u else PB.insU u x) []
def chkL (n : Nat) (o : List (List PB.FT)) (T : List (List S54)) : Bool := (match o[n]?, T[n]? with
    | some l, some ts => PB.okL l (tms ts)
    | _, _ => false) && (T.length == n + 1 && (PB.okL o.flatten (unionU T) && (PB.strictB (unionU T) && (PB.sameB (tms T.flatten) (unionU T) && (T.all (fun l => decide (l.length ≤ 1000)) && (tms T.flatten).all PB.smB)))))
def chkW (n : Nat) : Bool := match PB.allF 64 n, mTab.f 4000 n with
  | some o, some T => chkL n o T
  | _, _ => false
theorem chk7 : (List.range 8).all chkW = true := by
  set_option maxRecDepth 100000 in kernel_rfl
theorem chk8 : chkW 8 = true := by
  set_option maxRecDepth 100000 in kernel_rfl
theorem chk_all (n : Nat) (h : n ≤ 8) : chkW n = true := by
  rcases Nat.lt_or_ge n 8 with h2 | h2
  · exact List.all_eq_true.1 chk7 n (List.mem_range.2 h2)
  · rw [show n = 8 by omega]; exact chk8
theorem chk_get (n : Nat) (h : n ≤ 8) : ∃ o T, PB.allF 64 n = some o ∧ spec_l6Table.f 4000 n = some T ∧ chkL n o T = true := by
  have hc := chk_all n h
  unfold chkW at hc
  split at hc
  · rename_i o T h1 h2
    exact ⟨o, T, h1, by rw [mTabF_eq]; exact h2, hc⟩
  · cases hc
end Go.Proofs.Ythloakjlpblakaa.Pure
