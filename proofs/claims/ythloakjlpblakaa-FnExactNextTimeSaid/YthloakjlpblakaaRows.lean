/-
  No cell of these rows narrows 'for every input' (looked for: loops, veiled, ifaces, maps, wideKeys, modest, calm, conditions, laid).
  DERIVED. THE GIVEN ROWS OF THIS SEAT. 12 by the template 'for every input the law returns true; each argument reads behind the call as it read before'; 0 by the template 'total and deterministic' (their statements: YthloakjlpblakaaTotals.lean).
  GIVEN WITH THE SEED: the statements are not yours to turn. If you find one false, say at which input.
  Laid BY PROGRAM, IN A SANDBOX (cutbox-rows.mjs): the forced cells as the released guide's own fill.sh prints them over the translation 3691261237a578cd… (all of the seat's roots in one cut). By AI agents, Wed Nov 11 2026. No macro, syntax, notation, axiom, sorry.
-/
import Derived.Test.YthloakjlpblakaaChecked
import GoSem.Claim
import GoSem.ClaimJoined
import GoSem.ClaimMapViews
import Derived.JoinedTies
import Derived.KernelRfl
namespace Go.Proofs.Ythloakjlpblakaa
/- THE CELL 'sum', in the pinned program and in every row, IS THE sha256 OF THE DUMP (.gsa) THAT YthloakjlpblakaaProg.lean LOADS. Nothing in Lean hashes anything: it is a label: what it is worth is what the hold of that sum in a sandbox is worth. -/
noncomputable def Try.pinned : Pinned := { name := "ythloakjlpblakaa", sum := "3691261237a578cd88a80961436c34d3e21c3083c49e262adca7ea31eac0530e", checked := Try.checked }
namespace Rows
def none {H : Type} : Left H := { results := [], args := [] }

/-- 'laws.FnExactFusesWith': WHATEVER THE INPUT: true; the input reads as it did. -/
def fnExactFusesWithSpec : ChangeSpec := { name := "fnExactFusesWith", fn := fun _ => fun
  | [d] => { results := [.lit (.bool true)], args := [d] }
  | _ => none }
def fnExactFusesWithRow : OpenClaim := { program := "ythloakjlpblakaa", sum := "3691261237a578cd88a80961436c34d3e21c3083c49e262adca7ea31eac0530e", func := "loop.example/g01187/laws.FnExactFusesWith", spec := "fnExactFusesWith", apart := false }
def FnExactFusesWithSaid : Prop := fnExactFusesWithRow.holds Try.pinned (OpenSpec.ofChange fnExactFusesWithSpec)

/-- ITS FALSE NEIGHBOUR: 'it returns false'. Refute it at one input. -/
def fnExactFusesWithWrong : ChangeSpec := { name := "fnExactFusesWith", fn := fun _ => fun
  | [d] => { results := [.lit (.bool false)], args := [d] }
  | _ => none }
def FnExactFusesWithWrongFalsely : Prop := fnExactFusesWithRow.holds Try.pinned (OpenSpec.ofChange fnExactFusesWithWrong)

/-- 'laws.FnExactIsFuse': WHATEVER THE INPUT: true; the input reads as it did. -/
def fnExactIsFuseSpec : ChangeSpec := { name := "fnExactIsFuse", fn := fun _ => fun
  | [d] => { results := [.lit (.bool true)], args := [d] }
  | _ => none }
def fnExactIsFuseRow : OpenClaim := { program := "ythloakjlpblakaa", sum := "3691261237a578cd88a80961436c34d3e21c3083c49e262adca7ea31eac0530e", func := "loop.example/g01187/laws.FnExactIsFuse", spec := "fnExactIsFuse", recurses := true, apart := false }
def FnExactIsFuseSaid : Prop := fnExactIsFuseRow.holds Try.pinned (OpenSpec.ofChange fnExactIsFuseSpec)

/-- ITS FALSE NEIGHBOUR: 'it returns false'. Refute it at one input. -/
def fnExactIsFuseWrong : ChangeSpec := { name := "fnExactIsFuse", fn := fun _ => fun
  | [d] => { results := [.lit (.bool false)], args := [d] }
  | _ => none }
def FnExactIsFuseWrongFalsely : Prop := fnExactIsFuseRow.holds Try.pinned (OpenSpec.ofChange fnExactIsFuseWrong)

/-- 'laws.FnExactRopesIn': WHATEVER THE INPUT: true; the input reads as it did. -/
def fnExactRopesInSpec : ChangeSpec := { name := "fnExactRopesIn", fn := fun _ => fun
  | [d] => { results := [.lit (.bool true)], args := [d] }
  | _ => none }
def fnExactRopesInRow : OpenClaim := { program := "ythloakjlpblakaa", sum := "3691261237a578cd88a80961436c34d3e21c3083c49e262adca7ea31eac0530e", func := "loop.example/g01187/laws.FnExactRopesIn", spec := "fnExactRopesIn", recurses := true, apart := false }
def FnExactRopesInSaid : Prop := fnExactRopesInRow.holds Try.pinned (OpenSpec.ofChange fnExactRopesInSpec)

/-- ITS FALSE NEIGHBOUR: 'it returns false'. Refute it at one input. -/
def fnExactRopesInWrong : ChangeSpec := { name := "fnExactRopesIn", fn := fun _ => fun
  | [d] => { results := [.lit (.bool false)], args := [d] }
  | _ => none }
def FnExactRopesInWrongFalsely : Prop := fnExactRopesInRow.holds Try.pinned (OpenSpec.ofChange fnExactRopesInWrong)

/-- 'laws.FnExactFuseTime': WHATEVER THE INPUT: true; the input reads as it did. -/
def fnExactFuseTimeSpec : ChangeSpec := { name := "fnExactFuseTime", fn := fun _ => fun
  | [d] => { results := [.lit (.bool true)], args := [d] }
  | _ => none }
def fnExactFuseTimeRow : OpenClaim := { program := "ythloakjlpblakaa", sum := "3691261237a578cd88a80961436c34d3e21c3083c49e262adca7ea31eac0530e", func := "loop.example/g01187/laws.FnExactFuseTime", spec := "fnExactFuseTime", recurses := true, apart := false }
def FnExactFuseTimeSaid : Prop := fnExactFuseTimeRow.holds Try.pinned (OpenSpec.ofChange fnExactFuseTimeSpec)

/-- ITS FALSE NEIGHBOUR: 'it returns false'. Refute it at one input. -/
def fnExactFuseTimeWrong : ChangeSpec := { name := "fnExactFuseTime", fn := fun _ => fun
  | [d] => { results := [.lit (.bool false)], args := [d] }
  | _ => none }
def FnExactFuseTimeWrongFalsely : Prop := fnExactFuseTimeRow.holds Try.pinned (OpenSpec.ofChange fnExactFuseTimeWrong)

/-- 'laws.FnExactTurnFuse': WHATEVER THE INPUT: true; the input reads as it did. -/
def fnExactTurnFuseSpec : ChangeSpec := { name := "fnExactTurnFuse", fn := fun _ => fun
  | [d] => { results := [.lit (.bool true)], args := [d] }
  | _ => none }
def fnExactTurnFuseRow : OpenClaim := { program := "ythloakjlpblakaa", sum := "3691261237a578cd88a80961436c34d3e21c3083c49e262adca7ea31eac0530e", func := "loop.example/g01187/laws.FnExactTurnFuse", spec := "fnExactTurnFuse", recurses := true, apart := false }
def FnExactTurnFuseSaid : Prop := fnExactTurnFuseRow.holds Try.pinned (OpenSpec.ofChange fnExactTurnFuseSpec)

/-- ITS FALSE NEIGHBOUR: 'it returns false'. Refute it at one input. -/
def fnExactTurnFuseWrong : ChangeSpec := { name := "fnExactTurnFuse", fn := fun _ => fun
  | [d] => { results := [.lit (.bool false)], args := [d] }
  | _ => none }
def FnExactTurnFuseWrongFalsely : Prop := fnExactTurnFuseRow.holds Try.pinned (OpenSpec.ofChange fnExactTurnFuseWrong)

/-- 'laws.FnExactFewestRopes': WHATEVER THE INPUT: true; the input reads as it did. -/
def fnExactFewestRopesSpec : ChangeSpec := { name := "fnExactFewestRopes", fn := fun _ => fun
  | [d] => { results := [.lit (.bool true)], args := [d] }
  | _ => none }
def fnExactFewestRopesRow : OpenClaim := { program := "ythloakjlpblakaa", sum := "3691261237a578cd88a80961436c34d3e21c3083c49e262adca7ea31eac0530e", func := "loop.example/g01187/laws.FnExactFewestRopes", spec := "fnExactFewestRopes", apart := false }
def FnExactFewestRopesSaid : Prop := fnExactFewestRopesRow.holds Try.pinned (OpenSpec.ofChange fnExactFewestRopesSpec)

/-- ITS FALSE NEIGHBOUR: 'it returns false'. Refute it at one input. -/
def fnExactFewestRopesWrong : ChangeSpec := { name := "fnExactFewestRopes", fn := fun _ => fun
  | [d] => { results := [.lit (.bool false)], args := [d] }
  | _ => none }
def FnExactFewestRopesWrongFalsely : Prop := fnExactFewestRopesRow.holds Try.pinned (OpenSpec.ofChange fnExactFewestRopesWrong)

/-- 'laws.FnExactFirstFuse': WHATEVER THE INPUT: true; the input reads as it did. -/
def fnExactFirstFuseSpec : ChangeSpec := { name := "fnExactFirstFuse", fn := fun _ => fun
  | [d] => { results := [.lit (.bool true)], args := [d] }
  | _ => none }
def fnExactFirstFuseRow : OpenClaim := { program := "ythloakjlpblakaa", sum := "3691261237a578cd88a80961436c34d3e21c3083c49e262adca7ea31eac0530e", func := "loop.example/g01187/laws.FnExactFirstFuse", spec := "fnExactFirstFuse", apart := false }
def FnExactFirstFuseSaid : Prop := fnExactFirstFuseRow.holds Try.pinned (OpenSpec.ofChange fnExactFirstFuseSpec)

/-- ITS FALSE NEIGHBOUR: 'it returns false'. Refute it at one input. -/
def fnExactFirstFuseWrong : ChangeSpec := { name := "fnExactFirstFuse", fn := fun _ => fun
  | [d] => { results := [.lit (.bool false)], args := [d] }
  | _ => none }
def FnExactFirstFuseWrongFalsely : Prop := fnExactFirstFuseRow.holds Try.pinned (OpenSpec.ofChange fnExactFirstFuseWrong)

/-- 'laws.FnExactKindsIn': WHATEVER THE INPUT: true; the input reads as it did. -/
def fnExactKindsInSpec : ChangeSpec := { name := "fnExactKindsIn", fn := fun _ => fun
  | [d] => { results := [.lit (.bool true)], args := [d] }
  | _ => none }
def fnExactKindsInRow : OpenClaim := { program := "ythloakjlpblakaa", sum := "3691261237a578cd88a80961436c34d3e21c3083c49e262adca7ea31eac0530e", func := "loop.example/g01187/laws.FnExactKindsIn", spec := "fnExactKindsIn", recurses := true, apart := false }
def FnExactKindsInSaid : Prop := fnExactKindsInRow.holds Try.pinned (OpenSpec.ofChange fnExactKindsInSpec)

/-- ITS FALSE NEIGHBOUR: 'it returns false'. Refute it at one input. -/
def fnExactKindsInWrong : ChangeSpec := { name := "fnExactKindsIn", fn := fun _ => fun
  | [d] => { results := [.lit (.bool false)], args := [d] }
  | _ => none }
def FnExactKindsInWrongFalsely : Prop := fnExactKindsInRow.holds Try.pinned (OpenSpec.ofChange fnExactKindsInWrong)

/-- 'laws.FnExactFuseLights': WHATEVER THE INPUT: true; the input reads as it did. -/
def fnExactFuseLightsSpec : ChangeSpec := { name := "fnExactFuseLights", fn := fun _ => fun
  | [d] => { results := [.lit (.bool true)], args := [d] }
  | _ => none }
def fnExactFuseLightsRow : OpenClaim := { program := "ythloakjlpblakaa", sum := "3691261237a578cd88a80961436c34d3e21c3083c49e262adca7ea31eac0530e", func := "loop.example/g01187/laws.FnExactFuseLights", spec := "fnExactFuseLights", recurses := true, apart := false }
def FnExactFuseLightsSaid : Prop := fnExactFuseLightsRow.holds Try.pinned (OpenSpec.ofChange fnExactFuseLightsSpec)

/-- ITS FALSE NEIGHBOUR: 'it returns false'. Refute it at one input. -/
def fnExactFuseLightsWrong : ChangeSpec := { name := "fnExactFuseLights", fn := fun _ => fun
  | [d] => { results := [.lit (.bool false)], args := [d] }
  | _ => none }
def FnExactFuseLightsWrongFalsely : Prop := fnExactFuseLightsRow.holds Try.pinned (OpenSpec.ofChange fnExactFuseLightsWrong)

/-- 'laws.FnExactTimesWith': WHATEVER THE INPUT: true; the input reads as it did. -/
def fnExactTimesWithSpec : ChangeSpec := { name := "fnExactTimesWith", fn := fun _ => fun
  | [d] => { results := [.lit (.bool true)], args := [d] }
  | _ => none }
def fnExactTimesWithRow : OpenClaim := { program := "ythloakjlpblakaa", sum := "3691261237a578cd88a80961436c34d3e21c3083c49e262adca7ea31eac0530e", func := "loop.example/g01187/laws.FnExactTimesWith", spec := "fnExactTimesWith", unfollowed := true, recurses := true, apart := false }
def FnExactTimesWithSaid : Prop := fnExactTimesWithRow.holds Try.pinned (OpenSpec.ofChange fnExactTimesWithSpec)

/-- ITS FALSE NEIGHBOUR: 'it returns false'. Refute it at one input. -/
def fnExactTimesWithWrong : ChangeSpec := { name := "fnExactTimesWith", fn := fun _ => fun
  | [d] => { results := [.lit (.bool false)], args := [d] }
  | _ => none }
def FnExactTimesWithWrongFalsely : Prop := fnExactTimesWithRow.holds Try.pinned (OpenSpec.ofChange fnExactTimesWithWrong)

/-- 'laws.FnExactNextTime': WHATEVER THE INPUT: true; the input reads as it did. -/
def fnExactNextTimeSpec : ChangeSpec := { name := "fnExactNextTime", fn := fun _ => fun
  | [d1, d2] => { results := [.lit (.bool true)], args := [d1, d2] }
  | _ => none }
def fnExactNextTimeRow : OpenClaim := { program := "ythloakjlpblakaa", sum := "3691261237a578cd88a80961436c34d3e21c3083c49e262adca7ea31eac0530e", func := "loop.example/g01187/laws.FnExactNextTime", spec := "fnExactNextTime", unfollowed := true, recurses := true, apart := false }
def FnExactNextTimeSaid : Prop := fnExactNextTimeRow.holds Try.pinned (OpenSpec.ofChange fnExactNextTimeSpec)

/-- ITS FALSE NEIGHBOUR: 'it returns false'. Refute it at one input. -/
def fnExactNextTimeWrong : ChangeSpec := { name := "fnExactNextTime", fn := fun _ => fun
  | [d1, d2] => { results := [.lit (.bool false)], args := [d1, d2] }
  | _ => none }
def FnExactNextTimeWrongFalsely : Prop := fnExactNextTimeRow.holds Try.pinned (OpenSpec.ofChange fnExactNextTimeWrong)

/-- 'laws.FnFuses': WHATEVER THE INPUT: true; the input reads as it did. -/
def fnFusesSpec : ChangeSpec := { name := "fnFuses", fn := fun _ => fun
  | [d] => { results := [.lit (.bool true)], args := [d] }
  | _ => none }
def fnFusesRow : OpenClaim := { program := "ythloakjlpblakaa", sum := "3691261237a578cd88a80961436c34d3e21c3083c49e262adca7ea31eac0530e", func := "loop.example/g01187/laws.FnFuses", spec := "fnFuses", unfollowed := true, recurses := true, apart := false }
def FnFusesSaid : Prop := fnFusesRow.holds Try.pinned (OpenSpec.ofChange fnFusesSpec)

/-- ITS FALSE NEIGHBOUR: 'it returns false'. Refute it at one input. -/
def fnFusesWrong : ChangeSpec := { name := "fnFuses", fn := fun _ => fun
  | [d] => { results := [.lit (.bool false)], args := [d] }
  | _ => none }
def FnFusesWrongFalsely : Prop := fnFusesRow.holds Try.pinned (OpenSpec.ofChange fnFusesWrong)

/- THE SECOND FORM. 'bulk': how many values and letters a reading holds, each counted each time it is reached (what is shared counts as often as it is met; a slice's spare places count too). A statement '..UptoSaid' is the law's where the arguments, and the package variables that the reading takes, are together of bulk at most 1048576: NARROWER than '..Said'. Prove '..Said' where nothing that the law and all that it calls make is longer than what came in: it says more and counts as full. Else prove '..UptoSaid'. A law counts once. -/
mutual
def uptoBulk {H : Type} : DataW H → Nat
  | .lit (.string bytes) => bytes.length + 1
  | .lit _ => 1
  | .nil => 1
  | .ptr d => uptoBulk d + 1
  | .slice elems spare => uptoBulkAll elems + uptoBulkAll spare + 1
  | .agg parts => uptoBulkAll parts + 1
  | .iface _ d => uptoBulk d + 1
  | .map entries => uptoBulkEntries entries + 1
  | .held _ => 1
def uptoBulkAll {H : Type} : List (DataW H) → Nat
  | [] => 0
  | d :: r => uptoBulk d + uptoBulkAll r
def uptoBulkEntries {H : Type} : List (Lit × DataW H) → Nat
  | [] => 0
  | x :: r => uptoBulkEntry x + uptoBulkEntries r
def uptoBulkEntry {H : Type} : Lit × DataW H → Nat
  | (.string bytes, d) => bytes.length + uptoBulk d + 1
  | (_, d) => uptoBulk d + 1
 end
def uptoSmall : (H : Type) → List (DataW H) → Bool := fun _ ds => decide (uptoBulkAll ds ≤ 1048576)
def OpenSpec.upto (s : _root_.Go.ChangeSpec) : _root_.Go.OpenSpec := { _root_.Go.OpenSpec.ofChange s with cond := some uptoSmall }

/-- 'laws.FnExactFusesWith', WHERE WHAT IT READS IS OF BULK AT MOST 1048576: true; the input reads as it did. -/
def fnExactFusesWithUptoRow : OpenClaim := { program := "ythloakjlpblakaa", sum := "3691261237a578cd88a80961436c34d3e21c3083c49e262adca7ea31eac0530e", func := "loop.example/g01187/laws.FnExactFusesWith", spec := "fnExactFusesWith", apart := false, narrowed := true }
def FnExactFusesWithUptoSaid : Prop := fnExactFusesWithUptoRow.holds Try.pinned (OpenSpec.upto fnExactFusesWithSpec)

/-- 'laws.FnExactIsFuse', WHERE WHAT IT READS IS OF BULK AT MOST 1048576: true; the input reads as it did. -/
def fnExactIsFuseUptoRow : OpenClaim := { program := "ythloakjlpblakaa", sum := "3691261237a578cd88a80961436c34d3e21c3083c49e262adca7ea31eac0530e", func := "loop.example/g01187/laws.FnExactIsFuse", spec := "fnExactIsFuse", recurses := true, apart := false, narrowed := true }
def FnExactIsFuseUptoSaid : Prop := fnExactIsFuseUptoRow.holds Try.pinned (OpenSpec.upto fnExactIsFuseSpec)

/-- 'laws.FnExactRopesIn', WHERE WHAT IT READS IS OF BULK AT MOST 1048576: true; the input reads as it did. -/
def fnExactRopesInUptoRow : OpenClaim := { program := "ythloakjlpblakaa", sum := "3691261237a578cd88a80961436c34d3e21c3083c49e262adca7ea31eac0530e", func := "loop.example/g01187/laws.FnExactRopesIn", spec := "fnExactRopesIn", recurses := true, apart := false, narrowed := true }
def FnExactRopesInUptoSaid : Prop := fnExactRopesInUptoRow.holds Try.pinned (OpenSpec.upto fnExactRopesInSpec)

/-- 'laws.FnExactFuseTime', WHERE WHAT IT READS IS OF BULK AT MOST 1048576: true; the input reads as it did. -/
def fnExactFuseTimeUptoRow : OpenClaim := { program := "ythloakjlpblakaa", sum := "3691261237a578cd88a80961436c34d3e21c3083c49e262adca7ea31eac0530e", func := "loop.example/g01187/laws.FnExactFuseTime", spec := "fnExactFuseTime", recurses := true, apart := false, narrowed := true }
def FnExactFuseTimeUptoSaid : Prop := fnExactFuseTimeUptoRow.holds Try.pinned (OpenSpec.upto fnExactFuseTimeSpec)

/-- 'laws.FnExactTurnFuse', WHERE WHAT IT READS IS OF BULK AT MOST 1048576: true; the input reads as it did. -/
def fnExactTurnFuseUptoRow : OpenClaim := { program := "ythloakjlpblakaa", sum := "3691261237a578cd88a80961436c34d3e21c3083c49e262adca7ea31eac0530e", func := "loop.example/g01187/laws.FnExactTurnFuse", spec := "fnExactTurnFuse", recurses := true, apart := false, narrowed := true }
def FnExactTurnFuseUptoSaid : Prop := fnExactTurnFuseUptoRow.holds Try.pinned (OpenSpec.upto fnExactTurnFuseSpec)

/-- 'laws.FnExactFewestRopes', WHERE WHAT IT READS IS OF BULK AT MOST 1048576: true; the input reads as it did. -/
def fnExactFewestRopesUptoRow : OpenClaim := { program := "ythloakjlpblakaa", sum := "3691261237a578cd88a80961436c34d3e21c3083c49e262adca7ea31eac0530e", func := "loop.example/g01187/laws.FnExactFewestRopes", spec := "fnExactFewestRopes", apart := false, narrowed := true }
def FnExactFewestRopesUptoSaid : Prop := fnExactFewestRopesUptoRow.holds Try.pinned (OpenSpec.upto fnExactFewestRopesSpec)

/-- 'laws.FnExactFirstFuse', WHERE WHAT IT READS IS OF BULK AT MOST 1048576: true; the input reads as it did. -/
def fnExactFirstFuseUptoRow : OpenClaim := { program := "ythloakjlpblakaa", sum := "3691261237a578cd88a80961436c34d3e21c3083c49e262adca7ea31eac0530e", func := "loop.example/g01187/laws.FnExactFirstFuse", spec := "fnExactFirstFuse", apart := false, narrowed := true }
def FnExactFirstFuseUptoSaid : Prop := fnExactFirstFuseUptoRow.holds Try.pinned (OpenSpec.upto fnExactFirstFuseSpec)

/-- 'laws.FnExactKindsIn', WHERE WHAT IT READS IS OF BULK AT MOST 1048576: true; the input reads as it did. -/
def fnExactKindsInUptoRow : OpenClaim := { program := "ythloakjlpblakaa", sum := "3691261237a578cd88a80961436c34d3e21c3083c49e262adca7ea31eac0530e", func := "loop.example/g01187/laws.FnExactKindsIn", spec := "fnExactKindsIn", recurses := true, apart := false, narrowed := true }
def FnExactKindsInUptoSaid : Prop := fnExactKindsInUptoRow.holds Try.pinned (OpenSpec.upto fnExactKindsInSpec)

/-- 'laws.FnExactFuseLights', WHERE WHAT IT READS IS OF BULK AT MOST 1048576: true; the input reads as it did. -/
def fnExactFuseLightsUptoRow : OpenClaim := { program := "ythloakjlpblakaa", sum := "3691261237a578cd88a80961436c34d3e21c3083c49e262adca7ea31eac0530e", func := "loop.example/g01187/laws.FnExactFuseLights", spec := "fnExactFuseLights", recurses := true, apart := false, narrowed := true }
def FnExactFuseLightsUptoSaid : Prop := fnExactFuseLightsUptoRow.holds Try.pinned (OpenSpec.upto fnExactFuseLightsSpec)

/-- 'laws.FnExactTimesWith', WHERE WHAT IT READS IS OF BULK AT MOST 1048576: true; the input reads as it did. -/
def fnExactTimesWithUptoRow : OpenClaim := { program := "ythloakjlpblakaa", sum := "3691261237a578cd88a80961436c34d3e21c3083c49e262adca7ea31eac0530e", func := "loop.example/g01187/laws.FnExactTimesWith", spec := "fnExactTimesWith", unfollowed := true, recurses := true, apart := false, narrowed := true }
def FnExactTimesWithUptoSaid : Prop := fnExactTimesWithUptoRow.holds Try.pinned (OpenSpec.upto fnExactTimesWithSpec)

/-- 'laws.FnExactNextTime', WHERE WHAT IT READS IS OF BULK AT MOST 1048576: true; the input reads as it did. -/
def fnExactNextTimeUptoRow : OpenClaim := { program := "ythloakjlpblakaa", sum := "3691261237a578cd88a80961436c34d3e21c3083c49e262adca7ea31eac0530e", func := "loop.example/g01187/laws.FnExactNextTime", spec := "fnExactNextTime", unfollowed := true, recurses := true, apart := false, narrowed := true }
def FnExactNextTimeUptoSaid : Prop := fnExactNextTimeUptoRow.holds Try.pinned (OpenSpec.upto fnExactNextTimeSpec)

/-- 'laws.FnFuses', WHERE WHAT IT READS IS OF BULK AT MOST 1048576: true; the input reads as it did. -/
def fnFusesUptoRow : OpenClaim := { program := "ythloakjlpblakaa", sum := "3691261237a578cd88a80961436c34d3e21c3083c49e262adca7ea31eac0530e", func := "loop.example/g01187/laws.FnFuses", spec := "fnFuses", unfollowed := true, recurses := true, apart := false, narrowed := true }
def FnFusesUptoSaid : Prop := fnFusesUptoRow.holds Try.pinned (OpenSpec.upto fnFusesSpec)

end Rows
end Go.Proofs.Ythloakjlpblakaa
