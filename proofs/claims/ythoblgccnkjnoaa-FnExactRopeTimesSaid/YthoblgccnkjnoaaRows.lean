/-
  No cell of these rows narrows 'for every input' (looked for: loops, veiled, ifaces, maps, wideKeys, modest, calm, conditions, laid).
  DERIVED. THE GIVEN ROWS OF THIS SEAT. 4 by the template 'for every input the law returns true; each argument reads behind the call as it read before'; 0 by the template 'total and deterministic' (their statements: YthoblgccnkjnoaaTotals.lean).
  GIVEN WITH THE SEED: the statements are not yours to turn. If you find one false, say at which input.
  Laid BY PROGRAM, IN A SANDBOX (cutbox-rows.mjs): the forced cells as the released guide's own fill.sh prints them over the translation 6c7242c8e7fdd2ff… (all of the seat's roots in one cut). By AI agents, Wed Nov 11 2026. No macro, syntax, notation, axiom, sorry.
-/
import Derived.Test.YthoblgccnkjnoaaChecked
import GoSem.Claim
import GoSem.ClaimJoined
import GoSem.ClaimMapViews
import Derived.JoinedTies
import Derived.KernelRfl
namespace Go.Proofs.Ythoblgccnkjnoaa
/- THE CELL 'sum', in the pinned program and in every row, IS THE sha256 OF THE DUMP (.gsa) THAT YthoblgccnkjnoaaProg.lean LOADS. Nothing in Lean hashes anything: it is a label: what it is worth is what the hold of that sum in a sandbox is worth. -/
noncomputable def Try.pinned : Pinned := { name := "ythoblgccnkjnoaa", sum := "6c7242c8e7fdd2ffcfd55ee53de73ad6bb63de0a80bbf3569e81f9315d99f1bb", checked := Try.checked }
namespace Rows
def none {H : Type} : Left H := { results := [], args := [] }

/-- 'laws.FnExactFirstRopePlan': WHATEVER THE INPUT: true; the input reads as it did. -/
def fnExactFirstRopePlanSpec : ChangeSpec := { name := "fnExactFirstRopePlan", fn := fun _ => fun
  | [d1, d2] => { results := [.lit (.bool true)], args := [d1, d2] }
  | _ => none }
def fnExactFirstRopePlanRow : OpenClaim := { program := "ythoblgccnkjnoaa", sum := "6c7242c8e7fdd2ffcfd55ee53de73ad6bb63de0a80bbf3569e81f9315d99f1bb", func := "loop.example/g01187/laws.FnExactFirstRopePlan", spec := "fnExactFirstRopePlan", unfollowed := true, recurses := true, apart := false }
def FnExactFirstRopePlanSaid : Prop := fnExactFirstRopePlanRow.holds Try.pinned (OpenSpec.ofChange fnExactFirstRopePlanSpec)

/-- ITS FALSE NEIGHBOUR: 'it returns false'. Refute it at one input. -/
def fnExactFirstRopePlanWrong : ChangeSpec := { name := "fnExactFirstRopePlan", fn := fun _ => fun
  | [d1, d2] => { results := [.lit (.bool false)], args := [d1, d2] }
  | _ => none }
def FnExactFirstRopePlanWrongFalsely : Prop := fnExactFirstRopePlanRow.holds Try.pinned (OpenSpec.ofChange fnExactFirstRopePlanWrong)

/-- 'laws.FnExactSortRopes': WHATEVER THE INPUT: true; the input reads as it did. -/
def fnExactSortRopesSpec : ChangeSpec := { name := "fnExactSortRopes", fn := fun _ => fun
  | [d] => { results := [.lit (.bool true)], args := [d] }
  | _ => none }
def fnExactSortRopesRow : OpenClaim := { program := "ythoblgccnkjnoaa", sum := "6c7242c8e7fdd2ffcfd55ee53de73ad6bb63de0a80bbf3569e81f9315d99f1bb", func := "loop.example/g01187/laws.FnExactSortRopes", spec := "fnExactSortRopes", unfollowed := true, recurses := true, apart := false }
def FnExactSortRopesSaid : Prop := fnExactSortRopesRow.holds Try.pinned (OpenSpec.ofChange fnExactSortRopesSpec)

/-- ITS FALSE NEIGHBOUR: 'it returns false'. Refute it at one input. -/
def fnExactSortRopesWrong : ChangeSpec := { name := "fnExactSortRopes", fn := fun _ => fun
  | [d] => { results := [.lit (.bool false)], args := [d] }
  | _ => none }
def FnExactSortRopesWrongFalsely : Prop := fnExactSortRopesRow.holds Try.pinned (OpenSpec.ofChange fnExactSortRopesWrong)

/-- 'laws.FnExactLongestBurn': WHATEVER THE INPUT: true; the input reads as it did. -/
def fnExactLongestBurnSpec : ChangeSpec := { name := "fnExactLongestBurn", fn := fun _ => fun
  | [d] => { results := [.lit (.bool true)], args := [d] }
  | _ => none }
def fnExactLongestBurnRow : OpenClaim := { program := "ythoblgccnkjnoaa", sum := "6c7242c8e7fdd2ffcfd55ee53de73ad6bb63de0a80bbf3569e81f9315d99f1bb", func := "loop.example/g01187/laws.FnExactLongestBurn", spec := "fnExactLongestBurn", unfollowed := true, recurses := true, apart := false }
def FnExactLongestBurnSaid : Prop := fnExactLongestBurnRow.holds Try.pinned (OpenSpec.ofChange fnExactLongestBurnSpec)

/-- ITS FALSE NEIGHBOUR: 'it returns false'. Refute it at one input. -/
def fnExactLongestBurnWrong : ChangeSpec := { name := "fnExactLongestBurn", fn := fun _ => fun
  | [d] => { results := [.lit (.bool false)], args := [d] }
  | _ => none }
def FnExactLongestBurnWrongFalsely : Prop := fnExactLongestBurnRow.holds Try.pinned (OpenSpec.ofChange fnExactLongestBurnWrong)

/-- 'laws.FnExactRopeTimes': WHATEVER THE INPUT: true; the input reads as it did. -/
def fnExactRopeTimesSpec : ChangeSpec := { name := "fnExactRopeTimes", fn := fun _ => fun
  | [d] => { results := [.lit (.bool true)], args := [d] }
  | _ => none }
def fnExactRopeTimesRow : OpenClaim := { program := "ythoblgccnkjnoaa", sum := "6c7242c8e7fdd2ffcfd55ee53de73ad6bb63de0a80bbf3569e81f9315d99f1bb", func := "loop.example/g01187/laws.FnExactRopeTimes", spec := "fnExactRopeTimes", unfollowed := true, recurses := true, apart := false }
def FnExactRopeTimesSaid : Prop := fnExactRopeTimesRow.holds Try.pinned (OpenSpec.ofChange fnExactRopeTimesSpec)

/-- ITS FALSE NEIGHBOUR: 'it returns false'. Refute it at one input. -/
def fnExactRopeTimesWrong : ChangeSpec := { name := "fnExactRopeTimes", fn := fun _ => fun
  | [d] => { results := [.lit (.bool false)], args := [d] }
  | _ => none }
def FnExactRopeTimesWrongFalsely : Prop := fnExactRopeTimesRow.holds Try.pinned (OpenSpec.ofChange fnExactRopeTimesWrong)

/- THE SECOND FORM. 'bulk': how many values and letters a reading holds, each counted each time it is reached (what is shared counts as often as it is met; a slice's spare places count too). A statement '..UptoSaid' is the law's where the arguments, and the package variables that the reading takes, are together of bulk at most 1048576: NARROWER than '..Said'. Prove '..Said' where nothing that the law and all that it calls make is longer than what came in: it says more and counts as full. Else prove '..UptoSaid'. A law counts once. -/
mutual
def uptoBulk {H : Type} : DataW H → Nat
  | .lit (.string bytes) => bytes.length + 1
  | .lit _ => 1
  | .nil => 1
  | .ptr d => uptoBulk d + 1
  | .slice elems spare => uptoBulkAll elems + uptoBulkAll spare + 1
  | .agg parts => uptoBulkAll parts + 1
  | .iface _ d => uptoBulk d + 1
  | .map entries => uptoBulkEntries entries + 1
  | .held _ => 1
def uptoBulkAll {H : Type} : List (DataW H) → Nat
  | [] => 0
  | d :: r => uptoBulk d + uptoBulkAll r
def uptoBulkEntries {H : Type} : List (Lit × DataW H) → Nat
  | [] => 0
  | x :: r => uptoBulkEntry x + uptoBulkEntries r
def uptoBulkEntry {H : Type} : Lit × DataW H → Nat
  | (.string bytes, d) => bytes.length + uptoBulk d + 1
  | (_, d) => uptoBulk d + 1
 end
def uptoSmall : (H : Type) → List (DataW H) → Bool := fun _ ds => decide (uptoBulkAll ds ≤ 1048576)
def OpenSpec.upto (s : _root_.Go.ChangeSpec) : _root_.Go.OpenSpec := { _root_.Go.OpenSpec.ofChange s with cond := some uptoSmall }

/-- 'laws.FnExactFirstRopePlan', WHERE WHAT IT READS IS OF BULK AT MOST 1048576: true; the input reads as it did. -/
def fnExactFirstRopePlanUptoRow : OpenClaim := { program := "ythoblgccnkjnoaa", sum := "6c7242c8e7fdd2ffcfd55ee53de73ad6bb63de0a80bbf3569e81f9315d99f1bb", func := "loop.example/g01187/laws.FnExactFirstRopePlan", spec := "fnExactFirstRopePlan", unfollowed := true, recurses := true, apart := false, narrowed := true }
def FnExactFirstRopePlanUptoSaid : Prop := fnExactFirstRopePlanUptoRow.holds Try.pinned (OpenSpec.upto fnExactFirstRopePlanSpec)

/-- 'laws.FnExactSortRopes', WHERE WHAT IT READS IS OF BULK AT MOST 1048576: true; the input reads as it did. -/
def fnExactSortRopesUptoRow : OpenClaim := { program := "ythoblgccnkjnoaa", sum := "6c7242c8e7fdd2ffcfd55ee53de73ad6bb63de0a80bbf3569e81f9315d99f1bb", func := "loop.example/g01187/laws.FnExactSortRopes", spec := "fnExactSortRopes", unfollowed := true, recurses := true, apart := false, narrowed := true }
def FnExactSortRopesUptoSaid : Prop := fnExactSortRopesUptoRow.holds Try.pinned (OpenSpec.upto fnExactSortRopesSpec)

/-- 'laws.FnExactLongestBurn', WHERE WHAT IT READS IS OF BULK AT MOST 1048576: true; the input reads as it did. -/
def fnExactLongestBurnUptoRow : OpenClaim := { program := "ythoblgccnkjnoaa", sum := "6c7242c8e7fdd2ffcfd55ee53de73ad6bb63de0a80bbf3569e81f9315d99f1bb", func := "loop.example/g01187/laws.FnExactLongestBurn", spec := "fnExactLongestBurn", unfollowed := true, recurses := true, apart := false, narrowed := true }
def FnExactLongestBurnUptoSaid : Prop := fnExactLongestBurnUptoRow.holds Try.pinned (OpenSpec.upto fnExactLongestBurnSpec)

/-- 'laws.FnExactRopeTimes', WHERE WHAT IT READS IS OF BULK AT MOST 1048576: true; the input reads as it did. -/
def fnExactRopeTimesUptoRow : OpenClaim := { program := "ythoblgccnkjnoaa", sum := "6c7242c8e7fdd2ffcfd55ee53de73ad6bb63de0a80bbf3569e81f9315d99f1bb", func := "loop.example/g01187/laws.FnExactRopeTimes", spec := "fnExactRopeTimes", unfollowed := true, recurses := true, apart := false, narrowed := true }
def FnExactRopeTimesUptoSaid : Prop := fnExactRopeTimesUptoRow.holds Try.pinned (OpenSpec.upto fnExactRopeTimesSpec)

end Rows
end Go.Proofs.Ythoblgccnkjnoaa
