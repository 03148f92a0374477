/-
  No cell of these rows narrows 'for every input' (looked for: loops, veiled, ifaces, maps, wideKeys, modest, calm, conditions, laid).
  DERIVED. THE GIVEN ROWS OF THIS SEAT. 14 by the template 'for every input the law returns true; each argument reads behind the call as it read before'; 0 by the template 'total and deterministic' (their statements: YtogpednapceljaaTotals.lean).
  GIVEN WITH THE SEED: the statements are not yours to turn. If you find one false, say at which input.
  Laid BY PROGRAM, IN A SANDBOX (cutbox-rows.mjs): the forced cells as the released guide's own fill.sh prints them over the translation 6950626bdac147e6… (all of the seat's roots in one cut). By AI agents, Wed Nov 11 2026. No macro, syntax, notation, axiom, sorry.
-/
import Derived.Test.YtogpednapceljaaChecked
import GoSem.Claim
import GoSem.ClaimJoined
import GoSem.ClaimMapViews
import Derived.JoinedTies
import Derived.KernelRfl
namespace Go.Proofs.Ytogpednapceljaa
/- THE CELL 'sum', in the pinned program and in every row, IS THE sha256 OF THE DUMP (.gsa) THAT YtogpednapceljaaProg.lean LOADS. Nothing in Lean hashes anything: it is a label: what it is worth is what the hold of that sum in a sandbox is worth. -/
noncomputable def Try.pinned : Pinned := { name := "ytogpednapceljaa", sum := "6950626bdac147e60b2e77e03e31b23876b44b9b5dceb4010e08bf64206f20ce", checked := Try.checked }
namespace Rows
def none {H : Type} : Left H := { results := [], args := [] }

/-- 'laws.FnExactNewThing': WHATEVER THE INPUT: true; the input reads as it did. -/
def fnExactNewThingSpec : ChangeSpec := { name := "fnExactNewThing", fn := fun _ => fun
  | [d1, d2] => { results := [.lit (.bool true)], args := [d1, d2] }
  | _ => none }
def fnExactNewThingRow : OpenClaim := { program := "ytogpednapceljaa", sum := "6950626bdac147e60b2e77e03e31b23876b44b9b5dceb4010e08bf64206f20ce", func := "loop.example/g01187/laws.FnExactNewThing", spec := "fnExactNewThing", plainKeys := false, apart := false }
def FnExactNewThingSaid : Prop := fnExactNewThingRow.holds Try.pinned (OpenSpec.ofChange fnExactNewThingSpec)

/-- ITS FALSE NEIGHBOUR: 'it returns false'. Refute it at one input. -/
def fnExactNewThingWrong : ChangeSpec := { name := "fnExactNewThing", fn := fun _ => fun
  | [d1, d2] => { results := [.lit (.bool false)], args := [d1, d2] }
  | _ => none }
def FnExactNewThingWrongFalsely : Prop := fnExactNewThingRow.holds Try.pinned (OpenSpec.ofChange fnExactNewThingWrong)

/-- 'laws.FnExactAreThings': WHATEVER THE INPUT: true; the input reads as it did. -/
def fnExactAreThingsSpec : ChangeSpec := { name := "fnExactAreThings", fn := fun _ => fun
  | [d] => { results := [.lit (.bool true)], args := [d] }
  | _ => none }
def fnExactAreThingsRow : OpenClaim := { program := "ytogpednapceljaa", sum := "6950626bdac147e60b2e77e03e31b23876b44b9b5dceb4010e08bf64206f20ce", func := "loop.example/g01187/laws.FnExactAreThings", spec := "fnExactAreThings", unfollowed := true, recurses := true, plainKeys := false, apart := false }
def FnExactAreThingsSaid : Prop := fnExactAreThingsRow.holds Try.pinned (OpenSpec.ofChange fnExactAreThingsSpec)

/-- ITS FALSE NEIGHBOUR: 'it returns false'. Refute it at one input. -/
def fnExactAreThingsWrong : ChangeSpec := { name := "fnExactAreThings", fn := fun _ => fun
  | [d] => { results := [.lit (.bool false)], args := [d] }
  | _ => none }
def FnExactAreThingsWrongFalsely : Prop := fnExactAreThingsRow.holds Try.pinned (OpenSpec.ofChange fnExactAreThingsWrong)

/-- 'laws.FnExactKitThings': WHATEVER THE INPUT: true; the input reads as it did. -/
def fnExactKitThingsSpec : ChangeSpec := { name := "fnExactKitThings", fn := fun _ => fun
  | [d1, d2] => { results := [.lit (.bool true)], args := [d1, d2] }
  | _ => none }
def fnExactKitThingsRow : OpenClaim := { program := "ytogpednapceljaa", sum := "6950626bdac147e60b2e77e03e31b23876b44b9b5dceb4010e08bf64206f20ce", func := "loop.example/g01187/laws.FnExactKitThings", spec := "fnExactKitThings", plainKeys := false, apart := false }
def FnExactKitThingsSaid : Prop := fnExactKitThingsRow.holds Try.pinned (OpenSpec.ofChange fnExactKitThingsSpec)

/-- ITS FALSE NEIGHBOUR: 'it returns false'. Refute it at one input. -/
def fnExactKitThingsWrong : ChangeSpec := { name := "fnExactKitThings", fn := fun _ => fun
  | [d1, d2] => { results := [.lit (.bool false)], args := [d1, d2] }
  | _ => none }
def FnExactKitThingsWrongFalsely : Prop := fnExactKitThingsRow.holds Try.pinned (OpenSpec.ofChange fnExactKitThingsWrong)

/-- 'laws.FnExactBurnAll': WHATEVER THE INPUT: true; the input reads as it did. -/
def fnExactBurnAllSpec : ChangeSpec := { name := "fnExactBurnAll", fn := fun _ => fun
  | [d] => { results := [.lit (.bool true)], args := [d] }
  | _ => none }
def fnExactBurnAllRow : OpenClaim := { program := "ytogpednapceljaa", sum := "6950626bdac147e60b2e77e03e31b23876b44b9b5dceb4010e08bf64206f20ce", func := "loop.example/g01187/laws.FnExactBurnAll", spec := "fnExactBurnAll", unfollowed := true, recurses := true, plainKeys := false, apart := false }
def FnExactBurnAllSaid : Prop := fnExactBurnAllRow.holds Try.pinned (OpenSpec.ofChange fnExactBurnAllSpec)

/-- ITS FALSE NEIGHBOUR: 'it returns false'. Refute it at one input. -/
def fnExactBurnAllWrong : ChangeSpec := { name := "fnExactBurnAll", fn := fun _ => fun
  | [d] => { results := [.lit (.bool false)], args := [d] }
  | _ => none }
def FnExactBurnAllWrongFalsely : Prop := fnExactBurnAllRow.holds Try.pinned (OpenSpec.ofChange fnExactBurnAllWrong)

/-- 'laws.FnExactNextQuarter': WHATEVER THE INPUT: true; the input reads as it did. -/
def fnExactNextQuarterSpec : ChangeSpec := { name := "fnExactNextQuarter", fn := fun _ => fun
  | [d] => { results := [.lit (.bool true)], args := [d] }
  | _ => none }
def fnExactNextQuarterRow : OpenClaim := { program := "ytogpednapceljaa", sum := "6950626bdac147e60b2e77e03e31b23876b44b9b5dceb4010e08bf64206f20ce", func := "loop.example/g01187/laws.FnExactNextQuarter", spec := "fnExactNextQuarter", unfollowed := true, recurses := true, plainKeys := false, apart := false }
def FnExactNextQuarterSaid : Prop := fnExactNextQuarterRow.holds Try.pinned (OpenSpec.ofChange fnExactNextQuarterSpec)

/-- ITS FALSE NEIGHBOUR: 'it returns false'. Refute it at one input. -/
def fnExactNextQuarterWrong : ChangeSpec := { name := "fnExactNextQuarter", fn := fun _ => fun
  | [d] => { results := [.lit (.bool false)], args := [d] }
  | _ => none }
def FnExactNextQuarterWrongFalsely : Prop := fnExactNextQuarterRow.holds Try.pinned (OpenSpec.ofChange fnExactNextQuarterWrong)

/-- 'laws.FnExactPossibleActs': WHATEVER THE INPUT: true; the input reads as it did. -/
def fnExactPossibleActsSpec : ChangeSpec := { name := "fnExactPossibleActs", fn := fun _ => fun
  | [d] => { results := [.lit (.bool true)], args := [d] }
  | _ => none }
def fnExactPossibleActsRow : OpenClaim := { program := "ytogpednapceljaa", sum := "6950626bdac147e60b2e77e03e31b23876b44b9b5dceb4010e08bf64206f20ce", func := "loop.example/g01187/laws.FnExactPossibleActs", spec := "fnExactPossibleActs", unfollowed := true, recurses := true, plainKeys := false, apart := false }
def FnExactPossibleActsSaid : Prop := fnExactPossibleActsRow.holds Try.pinned (OpenSpec.ofChange fnExactPossibleActsSpec)

/-- ITS FALSE NEIGHBOUR: 'it returns false'. Refute it at one input. -/
def fnExactPossibleActsWrong : ChangeSpec := { name := "fnExactPossibleActs", fn := fun _ => fun
  | [d] => { results := [.lit (.bool false)], args := [d] }
  | _ => none }
def FnExactPossibleActsWrongFalsely : Prop := fnExactPossibleActsRow.holds Try.pinned (OpenSpec.ofChange fnExactPossibleActsWrong)

/-- 'laws.FnExactLeftMinutes': WHATEVER THE INPUT: true; the input reads as it did. -/
def fnExactLeftMinutesSpec : ChangeSpec := { name := "fnExactLeftMinutes", fn := fun _ => fun
  | [d] => { results := [.lit (.bool true)], args := [d] }
  | _ => none }
def fnExactLeftMinutesRow : OpenClaim := { program := "ytogpednapceljaa", sum := "6950626bdac147e60b2e77e03e31b23876b44b9b5dceb4010e08bf64206f20ce", func := "loop.example/g01187/laws.FnExactLeftMinutes", spec := "fnExactLeftMinutes", unfollowed := true, recurses := true, plainKeys := false, apart := false }
def FnExactLeftMinutesSaid : Prop := fnExactLeftMinutesRow.holds Try.pinned (OpenSpec.ofChange fnExactLeftMinutesSpec)

/-- ITS FALSE NEIGHBOUR: 'it returns false'. Refute it at one input. -/
def fnExactLeftMinutesWrong : ChangeSpec := { name := "fnExactLeftMinutes", fn := fun _ => fun
  | [d] => { results := [.lit (.bool false)], args := [d] }
  | _ => none }
def FnExactLeftMinutesWrongFalsely : Prop := fnExactLeftMinutesRow.holds Try.pinned (OpenSpec.ofChange fnExactLeftMinutesWrong)

/-- 'laws.FnExactPassQuarters': WHATEVER THE INPUT: true; the input reads as it did. -/
def fnExactPassQuartersSpec : ChangeSpec := { name := "fnExactPassQuarters", fn := fun _ => fun
  | [d1, d2] => { results := [.lit (.bool true)], args := [d1, d2] }
  | _ => none }
def fnExactPassQuartersRow : OpenClaim := { program := "ytogpednapceljaa", sum := "6950626bdac147e60b2e77e03e31b23876b44b9b5dceb4010e08bf64206f20ce", func := "loop.example/g01187/laws.FnExactPassQuarters", spec := "fnExactPassQuarters", unfollowed := true, recurses := true, plainKeys := false, apart := false }
def FnExactPassQuartersSaid : Prop := fnExactPassQuartersRow.holds Try.pinned (OpenSpec.ofChange fnExactPassQuartersSpec)

/-- ITS FALSE NEIGHBOUR: 'it returns false'. Refute it at one input. -/
def fnExactPassQuartersWrong : ChangeSpec := { name := "fnExactPassQuarters", fn := fun _ => fun
  | [d1, d2] => { results := [.lit (.bool false)], args := [d1, d2] }
  | _ => none }
def FnExactPassQuartersWrongFalsely : Prop := fnExactPassQuartersRow.holds Try.pinned (OpenSpec.ofChange fnExactPassQuartersWrong)

/-- 'laws.FnExactDoAct': WHATEVER THE INPUT: true; the input reads as it did. -/
def fnExactDoActSpec : ChangeSpec := { name := "fnExactDoAct", fn := fun _ => fun
  | [d1, d2] => { results := [.lit (.bool true)], args := [d1, d2] }
  | _ => none }
def fnExactDoActRow : OpenClaim := { program := "ytogpednapceljaa", sum := "6950626bdac147e60b2e77e03e31b23876b44b9b5dceb4010e08bf64206f20ce", func := "loop.example/g01187/laws.FnExactDoAct", spec := "fnExactDoAct", unfollowed := true, recurses := true, plainKeys := false, apart := false }
def FnExactDoActSaid : Prop := fnExactDoActRow.holds Try.pinned (OpenSpec.ofChange fnExactDoActSpec)

/-- ITS FALSE NEIGHBOUR: 'it returns false'. Refute it at one input. -/
def fnExactDoActWrong : ChangeSpec := { name := "fnExactDoAct", fn := fun _ => fun
  | [d1, d2] => { results := [.lit (.bool false)], args := [d1, d2] }
  | _ => none }
def FnExactDoActWrongFalsely : Prop := fnExactDoActRow.holds Try.pinned (OpenSpec.ofChange fnExactDoActWrong)

/-- 'laws.FnExactDoActs': WHATEVER THE INPUT: true; the input reads as it did. -/
def fnExactDoActsSpec : ChangeSpec := { name := "fnExactDoActs", fn := fun _ => fun
  | [d1, d2] => { results := [.lit (.bool true)], args := [d1, d2] }
  | _ => none }
def fnExactDoActsRow : OpenClaim := { program := "ytogpednapceljaa", sum := "6950626bdac147e60b2e77e03e31b23876b44b9b5dceb4010e08bf64206f20ce", func := "loop.example/g01187/laws.FnExactDoActs", spec := "fnExactDoActs", unfollowed := true, recurses := true, plainKeys := false, apart := false }
def FnExactDoActsSaid : Prop := fnExactDoActsRow.holds Try.pinned (OpenSpec.ofChange fnExactDoActsSpec)

/-- ITS FALSE NEIGHBOUR: 'it returns false'. Refute it at one input. -/
def fnExactDoActsWrong : ChangeSpec := { name := "fnExactDoActs", fn := fun _ => fun
  | [d1, d2] => { results := [.lit (.bool false)], args := [d1, d2] }
  | _ => none }
def FnExactDoActsWrongFalsely : Prop := fnExactDoActsRow.holds Try.pinned (OpenSpec.ofChange fnExactDoActsWrong)

/-- 'laws.FnExactRunMixed': WHATEVER THE INPUT: true; the input reads as it did. -/
def fnExactRunMixedSpec : ChangeSpec := { name := "fnExactRunMixed", fn := fun _ => fun
  | [d1, d2] => { results := [.lit (.bool true)], args := [d1, d2] }
  | _ => none }
def fnExactRunMixedRow : OpenClaim := { program := "ytogpednapceljaa", sum := "6950626bdac147e60b2e77e03e31b23876b44b9b5dceb4010e08bf64206f20ce", func := "loop.example/g01187/laws.FnExactRunMixed", spec := "fnExactRunMixed", unfollowed := true, recurses := true, plainKeys := false, apart := false }
def FnExactRunMixedSaid : Prop := fnExactRunMixedRow.holds Try.pinned (OpenSpec.ofChange fnExactRunMixedSpec)

/-- ITS FALSE NEIGHBOUR: 'it returns false'. Refute it at one input. -/
def fnExactRunMixedWrong : ChangeSpec := { name := "fnExactRunMixed", fn := fun _ => fun
  | [d1, d2] => { results := [.lit (.bool false)], args := [d1, d2] }
  | _ => none }
def FnExactRunMixedWrongFalsely : Prop := fnExactRunMixedRow.holds Try.pinned (OpenSpec.ofChange fnExactRunMixedWrong)

/-- 'laws.FnThings': WHATEVER THE INPUT: true; the input reads as it did. -/
def fnThingsSpec : ChangeSpec := { name := "fnThings", fn := fun _ => fun
  | [d] => { results := [.lit (.bool true)], args := [d] }
  | _ => none }
def fnThingsRow : OpenClaim := { program := "ytogpednapceljaa", sum := "6950626bdac147e60b2e77e03e31b23876b44b9b5dceb4010e08bf64206f20ce", func := "loop.example/g01187/laws.FnThings", spec := "fnThings", unfollowed := true, recurses := true, plainKeys := false, apart := false }
def FnThingsSaid : Prop := fnThingsRow.holds Try.pinned (OpenSpec.ofChange fnThingsSpec)

/-- ITS FALSE NEIGHBOUR: 'it returns false'. Refute it at one input. -/
def fnThingsWrong : ChangeSpec := { name := "fnThings", fn := fun _ => fun
  | [d] => { results := [.lit (.bool false)], args := [d] }
  | _ => none }
def FnThingsWrongFalsely : Prop := fnThingsRow.holds Try.pinned (OpenSpec.ofChange fnThingsWrong)

/-- 'laws.FnExactMixedTimes': WHATEVER THE INPUT: true; the input reads as it did. -/
def fnExactMixedTimesSpec : ChangeSpec := { name := "fnExactMixedTimes", fn := fun _ => fun
  | [d1, d2] => { results := [.lit (.bool true)], args := [d1, d2] }
  | _ => none }
def fnExactMixedTimesRow : OpenClaim := { program := "ytogpednapceljaa", sum := "6950626bdac147e60b2e77e03e31b23876b44b9b5dceb4010e08bf64206f20ce", func := "loop.example/g01187/laws.FnExactMixedTimes", spec := "fnExactMixedTimes", unfollowed := true, recurses := true, plainKeys := false, apart := false }
def FnExactMixedTimesSaid : Prop := fnExactMixedTimesRow.holds Try.pinned (OpenSpec.ofChange fnExactMixedTimesSpec)

/-- ITS FALSE NEIGHBOUR: 'it returns false'. Refute it at one input. -/
def fnExactMixedTimesWrong : ChangeSpec := { name := "fnExactMixedTimes", fn := fun _ => fun
  | [d1, d2] => { results := [.lit (.bool false)], args := [d1, d2] }
  | _ => none }
def FnExactMixedTimesWrongFalsely : Prop := fnExactMixedTimesRow.holds Try.pinned (OpenSpec.ofChange fnExactMixedTimesWrong)

/-- 'laws.FnMixed': WHATEVER THE INPUT: true; the input reads as it did. -/
def fnMixedSpec : ChangeSpec := { name := "fnMixed", fn := fun _ => fun
  | [d] => { results := [.lit (.bool true)], args := [d] }
  | _ => none }
def fnMixedRow : OpenClaim := { program := "ytogpednapceljaa", sum := "6950626bdac147e60b2e77e03e31b23876b44b9b5dceb4010e08bf64206f20ce", func := "loop.example/g01187/laws.FnMixed", spec := "fnMixed", unfollowed := true, recurses := true, plainKeys := false, apart := false }
def FnMixedSaid : Prop := fnMixedRow.holds Try.pinned (OpenSpec.ofChange fnMixedSpec)

/-- ITS FALSE NEIGHBOUR: 'it returns false'. Refute it at one input. -/
def fnMixedWrong : ChangeSpec := { name := "fnMixed", fn := fun _ => fun
  | [d] => { results := [.lit (.bool false)], args := [d] }
  | _ => none }
def FnMixedWrongFalsely : Prop := fnMixedRow.holds Try.pinned (OpenSpec.ofChange fnMixedWrong)

/- THE SECOND FORM. 'bulk': how many values and letters a reading holds, each counted each time it is reached (what is shared counts as often as it is met; a slice's spare places count too). A statement '..UptoSaid' is the law's where the arguments, and the package variables that the reading takes, are together of bulk at most 1048576: NARROWER than '..Said'. Prove '..Said' where nothing that the law and all that it calls make is longer than what came in: it says more and counts as full. Else prove '..UptoSaid'. A law counts once. -/
mutual
def uptoBulk {H : Type} : DataW H → Nat
  | .lit (.string bytes) => bytes.length + 1
  | .lit _ => 1
  | .nil => 1
  | .ptr d => uptoBulk d + 1
  | .slice elems spare => uptoBulkAll elems + uptoBulkAll spare + 1
  | .agg parts => uptoBulkAll parts + 1
  | .iface _ d => uptoBulk d + 1
  | .map entries => uptoBulkEntries entries + 1
  | .held _ => 1
def uptoBulkAll {H : Type} : List (DataW H) → Nat
  | [] => 0
  | d :: r => uptoBulk d + uptoBulkAll r
def uptoBulkEntries {H : Type} : List (Lit × DataW H) → Nat
  | [] => 0
  | x :: r => uptoBulkEntry x + uptoBulkEntries r
def uptoBulkEntry {H : Type} : Lit × DataW H → Nat
  | (.string bytes, d) => bytes.length + uptoBulk d + 1
  | (_, d) => uptoBulk d + 1
 end
def uptoSmall : (H : Type) → List (DataW H) → Bool := fun _ ds => decide (uptoBulkAll ds ≤ 1048576)
def OpenSpec.upto (s : _root_.Go.ChangeSpec) : _root_.Go.OpenSpec := { _root_.Go.OpenSpec.ofChange s with cond := some uptoSmall }

/-- 'laws.FnExactNewThing', WHERE WHAT IT READS IS OF BULK AT MOST 1048576: true; the input reads as it did. -/
def fnExactNewThingUptoRow : OpenClaim := { program := "ytogpednapceljaa", sum := "6950626bdac147e60b2e77e03e31b23876b44b9b5dceb4010e08bf64206f20ce", func := "loop.example/g01187/laws.FnExactNewThing", spec := "fnExactNewThing", plainKeys := false, apart := false, narrowed := true }
def FnExactNewThingUptoSaid : Prop := fnExactNewThingUptoRow.holds Try.pinned (OpenSpec.upto fnExactNewThingSpec)

/-- 'laws.FnExactAreThings', WHERE WHAT IT READS IS OF BULK AT MOST 1048576: true; the input reads as it did. -/
def fnExactAreThingsUptoRow : OpenClaim := { program := "ytogpednapceljaa", sum := "6950626bdac147e60b2e77e03e31b23876b44b9b5dceb4010e08bf64206f20ce", func := "loop.example/g01187/laws.FnExactAreThings", spec := "fnExactAreThings", unfollowed := true, recurses := true, plainKeys := false, apart := false, narrowed := true }
def FnExactAreThingsUptoSaid : Prop := fnExactAreThingsUptoRow.holds Try.pinned (OpenSpec.upto fnExactAreThingsSpec)

/-- 'laws.FnExactKitThings', WHERE WHAT IT READS IS OF BULK AT MOST 1048576: true; the input reads as it did. -/
def fnExactKitThingsUptoRow : OpenClaim := { program := "ytogpednapceljaa", sum := "6950626bdac147e60b2e77e03e31b23876b44b9b5dceb4010e08bf64206f20ce", func := "loop.example/g01187/laws.FnExactKitThings", spec := "fnExactKitThings", plainKeys := false, apart := false, narrowed := true }
def FnExactKitThingsUptoSaid : Prop := fnExactKitThingsUptoRow.holds Try.pinned (OpenSpec.upto fnExactKitThingsSpec)

/-- 'laws.FnExactBurnAll', WHERE WHAT IT READS IS OF BULK AT MOST 1048576: true; the input reads as it did. -/
def fnExactBurnAllUptoRow : OpenClaim := { program := "ytogpednapceljaa", sum := "6950626bdac147e60b2e77e03e31b23876b44b9b5dceb4010e08bf64206f20ce", func := "loop.example/g01187/laws.FnExactBurnAll", spec := "fnExactBurnAll", unfollowed := true, recurses := true, plainKeys := false, apart := false, narrowed := true }
def FnExactBurnAllUptoSaid : Prop := fnExactBurnAllUptoRow.holds Try.pinned (OpenSpec.upto fnExactBurnAllSpec)

/-- 'laws.FnExactNextQuarter', WHERE WHAT IT READS IS OF BULK AT MOST 1048576: true; the input reads as it did. -/
def fnExactNextQuarterUptoRow : OpenClaim := { program := "ytogpednapceljaa", sum := "6950626bdac147e60b2e77e03e31b23876b44b9b5dceb4010e08bf64206f20ce", func := "loop.example/g01187/laws.FnExactNextQuarter", spec := "fnExactNextQuarter", unfollowed := true, recurses := true, plainKeys := false, apart := false, narrowed := true }
def FnExactNextQuarterUptoSaid : Prop := fnExactNextQuarterUptoRow.holds Try.pinned (OpenSpec.upto fnExactNextQuarterSpec)

/-- 'laws.FnExactPossibleActs', WHERE WHAT IT READS IS OF BULK AT MOST 1048576: true; the input reads as it did. -/
def fnExactPossibleActsUptoRow : OpenClaim := { program := "ytogpednapceljaa", sum := "6950626bdac147e60b2e77e03e31b23876b44b9b5dceb4010e08bf64206f20ce", func := "loop.example/g01187/laws.FnExactPossibleActs", spec := "fnExactPossibleActs", unfollowed := true, recurses := true, plainKeys := false, apart := false, narrowed := true }
def FnExactPossibleActsUptoSaid : Prop := fnExactPossibleActsUptoRow.holds Try.pinned (OpenSpec.upto fnExactPossibleActsSpec)

/-- 'laws.FnExactLeftMinutes', WHERE WHAT IT READS IS OF BULK AT MOST 1048576: true; the input reads as it did. -/
def fnExactLeftMinutesUptoRow : OpenClaim := { program := "ytogpednapceljaa", sum := "6950626bdac147e60b2e77e03e31b23876b44b9b5dceb4010e08bf64206f20ce", func := "loop.example/g01187/laws.FnExactLeftMinutes", spec := "fnExactLeftMinutes", unfollowed := true, recurses := true, plainKeys := false, apart := false, narrowed := true }
def FnExactLeftMinutesUptoSaid : Prop := fnExactLeftMinutesUptoRow.holds Try.pinned (OpenSpec.upto fnExactLeftMinutesSpec)

/-- 'laws.FnExactPassQuarters', WHERE WHAT IT READS IS OF BULK AT MOST 1048576: true; the input reads as it did. -/
def fnExactPassQuartersUptoRow : OpenClaim := { program := "ytogpednapceljaa", sum := "6950626bdac147e60b2e77e03e31b23876b44b9b5dceb4010e08bf64206f20ce", func := "loop.example/g01187/laws.FnExactPassQuarters", spec := "fnExactPassQuarters", unfollowed := true, recurses := true, plainKeys := false, apart := false, narrowed := true }
def FnExactPassQuartersUptoSaid : Prop := fnExactPassQuartersUptoRow.holds Try.pinned (OpenSpec.upto fnExactPassQuartersSpec)

/-- 'laws.FnExactDoAct', WHERE WHAT IT READS IS OF BULK AT MOST 1048576: true; the input reads as it did. -/
def fnExactDoActUptoRow : OpenClaim := { program := "ytogpednapceljaa", sum := "6950626bdac147e60b2e77e03e31b23876b44b9b5dceb4010e08bf64206f20ce", func := "loop.example/g01187/laws.FnExactDoAct", spec := "fnExactDoAct", unfollowed := true, recurses := true, plainKeys := false, apart := false, narrowed := true }
def FnExactDoActUptoSaid : Prop := fnExactDoActUptoRow.holds Try.pinned (OpenSpec.upto fnExactDoActSpec)

/-- 'laws.FnExactDoActs', WHERE WHAT IT READS IS OF BULK AT MOST 1048576: true; the input reads as it did. -/
def fnExactDoActsUptoRow : OpenClaim := { program := "ytogpednapceljaa", sum := "6950626bdac147e60b2e77e03e31b23876b44b9b5dceb4010e08bf64206f20ce", func := "loop.example/g01187/laws.FnExactDoActs", spec := "fnExactDoActs", unfollowed := true, recurses := true, plainKeys := false, apart := false, narrowed := true }
def FnExactDoActsUptoSaid : Prop := fnExactDoActsUptoRow.holds Try.pinned (OpenSpec.upto fnExactDoActsSpec)

/-- 'laws.FnExactRunMixed', WHERE WHAT IT READS IS OF BULK AT MOST 1048576: true; the input reads as it did. -/
def fnExactRunMixedUptoRow : OpenClaim := { program := "ytogpednapceljaa", sum := "6950626bdac147e60b2e77e03e31b23876b44b9b5dceb4010e08bf64206f20ce", func := "loop.example/g01187/laws.FnExactRunMixed", spec := "fnExactRunMixed", unfollowed := true, recurses := true, plainKeys := false, apart := false, narrowed := true }
def FnExactRunMixedUptoSaid : Prop := fnExactRunMixedUptoRow.holds Try.pinned (OpenSpec.upto fnExactRunMixedSpec)

/-- 'laws.FnThings', WHERE WHAT IT READS IS OF BULK AT MOST 1048576: true; the input reads as it did. -/
def fnThingsUptoRow : OpenClaim := { program := "ytogpednapceljaa", sum := "6950626bdac147e60b2e77e03e31b23876b44b9b5dceb4010e08bf64206f20ce", func := "loop.example/g01187/laws.FnThings", spec := "fnThings", unfollowed := true, recurses := true, plainKeys := false, apart := false, narrowed := true }
def FnThingsUptoSaid : Prop := fnThingsUptoRow.holds Try.pinned (OpenSpec.upto fnThingsSpec)

/-- 'laws.FnExactMixedTimes', WHERE WHAT IT READS IS OF BULK AT MOST 1048576: true; the input reads as it did. -/
def fnExactMixedTimesUptoRow : OpenClaim := { program := "ytogpednapceljaa", sum := "6950626bdac147e60b2e77e03e31b23876b44b9b5dceb4010e08bf64206f20ce", func := "loop.example/g01187/laws.FnExactMixedTimes", spec := "fnExactMixedTimes", unfollowed := true, recurses := true, plainKeys := false, apart := false, narrowed := true }
def FnExactMixedTimesUptoSaid : Prop := fnExactMixedTimesUptoRow.holds Try.pinned (OpenSpec.upto fnExactMixedTimesSpec)

/-- 'laws.FnMixed', WHERE WHAT IT READS IS OF BULK AT MOST 1048576: true; the input reads as it did. -/
def fnMixedUptoRow : OpenClaim := { program := "ytogpednapceljaa", sum := "6950626bdac147e60b2e77e03e31b23876b44b9b5dceb4010e08bf64206f20ce", func := "loop.example/g01187/laws.FnMixed", spec := "fnMixed", unfollowed := true, recurses := true, plainKeys := false, apart := false, narrowed := true }
def FnMixedUptoSaid : Prop := fnMixedUptoRow.holds Try.pinned (OpenSpec.upto fnMixedSpec)

end Rows
end Go.Proofs.Ytogpednapceljaa
