/-
  No cell of these rows narrows 'for every input' (looked for: loops, veiled, ifaces, maps, wideKeys, modest, calm, conditions, laid).
  DERIVED. THE GIVEN ROWS OF THIS SEAT. 7 by the template 'for every input the law returns true; each argument reads behind the call as it read before'; 0 by the template 'total and deterministic' (their statements: YtpadckbjknjkaaaTotals.lean).
  GIVEN WITH THE SEED: the statements are not yours to turn. If you find one false, say at which input.
  Laid BY PROGRAM, IN A SANDBOX (cutbox-rows.mjs): the forced cells as the released guide's own fill.sh prints them over the translation f3af6bc713735c22… (all of the seat's roots in one cut). By AI agents, Wed Nov 11 2026. No macro, syntax, notation, axiom, sorry.
-/
import Derived.Test.YtpadckbjknjkaaaChecked
import GoSem.Claim
import GoSem.ClaimJoined
import GoSem.ClaimMapViews
import Derived.JoinedTies
import Derived.KernelRfl
namespace Go.Proofs.Ytpadckbjknjkaaa
/- THE CELL 'sum', in the pinned program and in every row, IS THE sha256 OF THE DUMP (.gsa) THAT YtpadckbjknjkaaaProg.lean LOADS. Nothing in Lean hashes anything: it is a label: what it is worth is what the hold of that sum in a sandbox is worth. -/
noncomputable def Try.pinned : Pinned := { name := "ytpadckbjknjkaaa", sum := "f3af6bc713735c22aba2a41aaefb2d02b0827efcb190614fd409f1dcd9d9a3d1", checked := Try.checked }
namespace Rows
def none {H : Type} : Left H := { results := [], args := [] }

/-- 'laws.FnExactAreVessels': WHATEVER THE INPUT: true; the input reads as it did. -/
def fnExactAreVesselsSpec : ChangeSpec := { name := "fnExactAreVessels", fn := fun _ => fun
  | [d] => { results := [.lit (.bool true)], args := [d] }
  | _ => none }
def fnExactAreVesselsRow : OpenClaim := { program := "ytpadckbjknjkaaa", sum := "f3af6bc713735c22aba2a41aaefb2d02b0827efcb190614fd409f1dcd9d9a3d1", func := "loop.example/g01187/laws.FnExactAreVessels", spec := "fnExactAreVessels", unfollowed := true, recurses := true, apart := false }
def FnExactAreVesselsSaid : Prop := fnExactAreVesselsRow.holds Try.pinned (OpenSpec.ofChange fnExactAreVesselsSpec)

/-- ITS FALSE NEIGHBOUR: 'it returns false'. Refute it at one input. -/
def fnExactAreVesselsWrong : ChangeSpec := { name := "fnExactAreVessels", fn := fun _ => fun
  | [d] => { results := [.lit (.bool false)], args := [d] }
  | _ => none }
def FnExactAreVesselsWrongFalsely : Prop := fnExactAreVesselsRow.holds Try.pinned (OpenSpec.ofChange fnExactAreVesselsWrong)

/-- 'laws.FnExactFewestFillings': WHATEVER THE INPUT: true; the input reads as it did. -/
def fnExactFewestFillingsSpec : ChangeSpec := { name := "fnExactFewestFillings", fn := fun _ => fun
  | [d1, d2] => { results := [.lit (.bool true)], args := [d1, d2] }
  | _ => none }
def fnExactFewestFillingsRow : OpenClaim := { program := "ytpadckbjknjkaaa", sum := "f3af6bc713735c22aba2a41aaefb2d02b0827efcb190614fd409f1dcd9d9a3d1", func := "loop.example/g01187/laws.FnExactFewestFillings", spec := "fnExactFewestFillings", unfollowed := true, recurses := true, apart := false }
def FnExactFewestFillingsSaid : Prop := fnExactFewestFillingsRow.holds Try.pinned (OpenSpec.ofChange fnExactFewestFillingsSpec)

/-- ITS FALSE NEIGHBOUR: 'it returns false'. Refute it at one input. -/
def fnExactFewestFillingsWrong : ChangeSpec := { name := "fnExactFewestFillings", fn := fun _ => fun
  | [d1, d2] => { results := [.lit (.bool false)], args := [d1, d2] }
  | _ => none }
def FnExactFewestFillingsWrongFalsely : Prop := fnExactFewestFillingsRow.holds Try.pinned (OpenSpec.ofChange fnExactFewestFillingsWrong)

/-- 'laws.FnExactLastingPlan': WHATEVER THE INPUT: true; the input reads as it did. -/
def fnExactLastingPlanSpec : ChangeSpec := { name := "fnExactLastingPlan", fn := fun _ => fun
  | [d1, d2] => { results := [.lit (.bool true)], args := [d1, d2] }
  | _ => none }
def fnExactLastingPlanRow : OpenClaim := { program := "ytpadckbjknjkaaa", sum := "f3af6bc713735c22aba2a41aaefb2d02b0827efcb190614fd409f1dcd9d9a3d1", func := "loop.example/g01187/laws.FnExactLastingPlan", spec := "fnExactLastingPlan", unfollowed := true, recurses := true, apart := false }
def FnExactLastingPlanSaid : Prop := fnExactLastingPlanRow.holds Try.pinned (OpenSpec.ofChange fnExactLastingPlanSpec)

/-- ITS FALSE NEIGHBOUR: 'it returns false'. Refute it at one input. -/
def fnExactLastingPlanWrong : ChangeSpec := { name := "fnExactLastingPlan", fn := fun _ => fun
  | [d1, d2] => { results := [.lit (.bool false)], args := [d1, d2] }
  | _ => none }
def FnExactLastingPlanWrongFalsely : Prop := fnExactLastingPlanRow.holds Try.pinned (OpenSpec.ofChange fnExactLastingPlanWrong)

/-- 'laws.FnExactMarkVessel': WHATEVER THE INPUT: true; the input reads as it did. -/
def fnExactMarkVesselSpec : ChangeSpec := { name := "fnExactMarkVessel", fn := fun _ => fun
  | [d1, d2] => { results := [.lit (.bool true)], args := [d1, d2] }
  | _ => none }
def fnExactMarkVesselRow : OpenClaim := { program := "ytpadckbjknjkaaa", sum := "f3af6bc713735c22aba2a41aaefb2d02b0827efcb190614fd409f1dcd9d9a3d1", func := "loop.example/g01187/laws.FnExactMarkVessel", spec := "fnExactMarkVessel", unfollowed := true, recurses := true, apart := false }
def FnExactMarkVesselSaid : Prop := fnExactMarkVesselRow.holds Try.pinned (OpenSpec.ofChange fnExactMarkVesselSpec)

/-- ITS FALSE NEIGHBOUR: 'it returns false'. Refute it at one input. -/
def fnExactMarkVesselWrong : ChangeSpec := { name := "fnExactMarkVessel", fn := fun _ => fun
  | [d1, d2] => { results := [.lit (.bool false)], args := [d1, d2] }
  | _ => none }
def FnExactMarkVesselWrongFalsely : Prop := fnExactMarkVesselRow.holds Try.pinned (OpenSpec.ofChange fnExactMarkVesselWrong)

/-- 'laws.FnExactSwapVessels': WHATEVER THE INPUT: true; the input reads as it did. -/
def fnExactSwapVesselsSpec : ChangeSpec := { name := "fnExactSwapVessels", fn := fun _ => fun
  | [d1, d2, d3] => { results := [.lit (.bool true)], args := [d1, d2, d3] }
  | _ => none }
def fnExactSwapVesselsRow : OpenClaim := { program := "ytpadckbjknjkaaa", sum := "f3af6bc713735c22aba2a41aaefb2d02b0827efcb190614fd409f1dcd9d9a3d1", func := "loop.example/g01187/laws.FnExactSwapVessels", spec := "fnExactSwapVessels", unfollowed := true, recurses := true, apart := false }
def FnExactSwapVesselsSaid : Prop := fnExactSwapVesselsRow.holds Try.pinned (OpenSpec.ofChange fnExactSwapVesselsSpec)

/-- ITS FALSE NEIGHBOUR: 'it returns false'. Refute it at one input. -/
def fnExactSwapVesselsWrong : ChangeSpec := { name := "fnExactSwapVessels", fn := fun _ => fun
  | [d1, d2, d3] => { results := [.lit (.bool false)], args := [d1, d2, d3] }
  | _ => none }
def FnExactSwapVesselsWrongFalsely : Prop := fnExactSwapVesselsRow.holds Try.pinned (OpenSpec.ofChange fnExactSwapVesselsWrong)

/-- 'laws.FnExactPassMinute': WHATEVER THE INPUT: true; the input reads as it did. -/
def fnExactPassMinuteSpec : ChangeSpec := { name := "fnExactPassMinute", fn := fun _ => fun
  | [d] => { results := [.lit (.bool true)], args := [d] }
  | _ => none }
def fnExactPassMinuteRow : OpenClaim := { program := "ytpadckbjknjkaaa", sum := "f3af6bc713735c22aba2a41aaefb2d02b0827efcb190614fd409f1dcd9d9a3d1", func := "loop.example/g01187/laws.FnExactPassMinute", spec := "fnExactPassMinute", unfollowed := true, recurses := true, apart := false }
def FnExactPassMinuteSaid : Prop := fnExactPassMinuteRow.holds Try.pinned (OpenSpec.ofChange fnExactPassMinuteSpec)

/-- ITS FALSE NEIGHBOUR: 'it returns false'. Refute it at one input. -/
def fnExactPassMinuteWrong : ChangeSpec := { name := "fnExactPassMinute", fn := fun _ => fun
  | [d] => { results := [.lit (.bool false)], args := [d] }
  | _ => none }
def FnExactPassMinuteWrongFalsely : Prop := fnExactPassMinuteRow.holds Try.pinned (OpenSpec.ofChange fnExactPassMinuteWrong)

/-- 'laws.FnExactEmptyTime': WHATEVER THE INPUT: true; the input reads as it did. -/
def fnExactEmptyTimeSpec : ChangeSpec := { name := "fnExactEmptyTime", fn := fun _ => fun
  | [d] => { results := [.lit (.bool true)], args := [d] }
  | _ => none }
def fnExactEmptyTimeRow : OpenClaim := { program := "ytpadckbjknjkaaa", sum := "f3af6bc713735c22aba2a41aaefb2d02b0827efcb190614fd409f1dcd9d9a3d1", func := "loop.example/g01187/laws.FnExactEmptyTime", spec := "fnExactEmptyTime", unfollowed := true, recurses := true, apart := false }
def FnExactEmptyTimeSaid : Prop := fnExactEmptyTimeRow.holds Try.pinned (OpenSpec.ofChange fnExactEmptyTimeSpec)

/-- ITS FALSE NEIGHBOUR: 'it returns false'. Refute it at one input. -/
def fnExactEmptyTimeWrong : ChangeSpec := { name := "fnExactEmptyTime", fn := fun _ => fun
  | [d] => { results := [.lit (.bool false)], args := [d] }
  | _ => none }
def FnExactEmptyTimeWrongFalsely : Prop := fnExactEmptyTimeRow.holds Try.pinned (OpenSpec.ofChange fnExactEmptyTimeWrong)

/- THE SECOND FORM. 'bulk': how many values and letters a reading holds, each counted each time it is reached (what is shared counts as often as it is met; a slice's spare places count too). A statement '..UptoSaid' is the law's where the arguments, and the package variables that the reading takes, are together of bulk at most 1048576: NARROWER than '..Said'. Prove '..Said' where nothing that the law and all that it calls make is longer than what came in: it says more and counts as full. Else prove '..UptoSaid'. A law counts once. -/
mutual
def uptoBulk {H : Type} : DataW H → Nat
  | .lit (.string bytes) => bytes.length + 1
  | .lit _ => 1
  | .nil => 1
  | .ptr d => uptoBulk d + 1
  | .slice elems spare => uptoBulkAll elems + uptoBulkAll spare + 1
  | .agg parts => uptoBulkAll parts + 1
  | .iface _ d => uptoBulk d + 1
  | .map entries => uptoBulkEntries entries + 1
  | .held _ => 1
def uptoBulkAll {H : Type} : List (DataW H) → Nat
  | [] => 0
  | d :: r => uptoBulk d + uptoBulkAll r
def uptoBulkEntries {H : Type} : List (Lit × DataW H) → Nat
  | [] => 0
  | x :: r => uptoBulkEntry x + uptoBulkEntries r
def uptoBulkEntry {H : Type} : Lit × DataW H → Nat
  | (.string bytes, d) => bytes.length + uptoBulk d + 1
  | (_, d) => uptoBulk d + 1
 end
def uptoSmall : (H : Type) → List (DataW H) → Bool := fun _ ds => decide (uptoBulkAll ds ≤ 1048576)
def OpenSpec.upto (s : _root_.Go.ChangeSpec) : _root_.Go.OpenSpec := { _root_.Go.OpenSpec.ofChange s with cond := some uptoSmall }

/-- 'laws.FnExactAreVessels', WHERE WHAT IT READS IS OF BULK AT MOST 1048576: true; the input reads as it did. -/
def fnExactAreVesselsUptoRow : OpenClaim := { program := "ytpadckbjknjkaaa", sum := "f3af6bc713735c22aba2a41aaefb2d02b0827efcb190614fd409f1dcd9d9a3d1", func := "loop.example/g01187/laws.FnExactAreVessels", spec := "fnExactAreVessels", unfollowed := true, recurses := true, apart := false, narrowed := true }
def FnExactAreVesselsUptoSaid : Prop := fnExactAreVesselsUptoRow.holds Try.pinned (OpenSpec.upto fnExactAreVesselsSpec)

/-- 'laws.FnExactFewestFillings', WHERE WHAT IT READS IS OF BULK AT MOST 1048576: true; the input reads as it did. -/
def fnExactFewestFillingsUptoRow : OpenClaim := { program := "ytpadckbjknjkaaa", sum := "f3af6bc713735c22aba2a41aaefb2d02b0827efcb190614fd409f1dcd9d9a3d1", func := "loop.example/g01187/laws.FnExactFewestFillings", spec := "fnExactFewestFillings", unfollowed := true, recurses := true, apart := false, narrowed := true }
def FnExactFewestFillingsUptoSaid : Prop := fnExactFewestFillingsUptoRow.holds Try.pinned (OpenSpec.upto fnExactFewestFillingsSpec)

/-- 'laws.FnExactLastingPlan', WHERE WHAT IT READS IS OF BULK AT MOST 1048576: true; the input reads as it did. -/
def fnExactLastingPlanUptoRow : OpenClaim := { program := "ytpadckbjknjkaaa", sum := "f3af6bc713735c22aba2a41aaefb2d02b0827efcb190614fd409f1dcd9d9a3d1", func := "loop.example/g01187/laws.FnExactLastingPlan", spec := "fnExactLastingPlan", unfollowed := true, recurses := true, apart := false, narrowed := true }
def FnExactLastingPlanUptoSaid : Prop := fnExactLastingPlanUptoRow.holds Try.pinned (OpenSpec.upto fnExactLastingPlanSpec)

/-- 'laws.FnExactMarkVessel', WHERE WHAT IT READS IS OF BULK AT MOST 1048576: true; the input reads as it did. -/
def fnExactMarkVesselUptoRow : OpenClaim := { program := "ytpadckbjknjkaaa", sum := "f3af6bc713735c22aba2a41aaefb2d02b0827efcb190614fd409f1dcd9d9a3d1", func := "loop.example/g01187/laws.FnExactMarkVessel", spec := "fnExactMarkVessel", unfollowed := true, recurses := true, apart := false, narrowed := true }
def FnExactMarkVesselUptoSaid : Prop := fnExactMarkVesselUptoRow.holds Try.pinned (OpenSpec.upto fnExactMarkVesselSpec)

/-- 'laws.FnExactSwapVessels', WHERE WHAT IT READS IS OF BULK AT MOST 1048576: true; the input reads as it did. -/
def fnExactSwapVesselsUptoRow : OpenClaim := { program := "ytpadckbjknjkaaa", sum := "f3af6bc713735c22aba2a41aaefb2d02b0827efcb190614fd409f1dcd9d9a3d1", func := "loop.example/g01187/laws.FnExactSwapVessels", spec := "fnExactSwapVessels", unfollowed := true, recurses := true, apart := false, narrowed := true }
def FnExactSwapVesselsUptoSaid : Prop := fnExactSwapVesselsUptoRow.holds Try.pinned (OpenSpec.upto fnExactSwapVesselsSpec)

/-- 'laws.FnExactPassMinute', WHERE WHAT IT READS IS OF BULK AT MOST 1048576: true; the input reads as it did. -/
def fnExactPassMinuteUptoRow : OpenClaim := { program := "ytpadckbjknjkaaa", sum := "f3af6bc713735c22aba2a41aaefb2d02b0827efcb190614fd409f1dcd9d9a3d1", func := "loop.example/g01187/laws.FnExactPassMinute", spec := "fnExactPassMinute", unfollowed := true, recurses := true, apart := false, narrowed := true }
def FnExactPassMinuteUptoSaid : Prop := fnExactPassMinuteUptoRow.holds Try.pinned (OpenSpec.upto fnExactPassMinuteSpec)

/-- 'laws.FnExactEmptyTime', WHERE WHAT IT READS IS OF BULK AT MOST 1048576: true; the input reads as it did. -/
def fnExactEmptyTimeUptoRow : OpenClaim := { program := "ytpadckbjknjkaaa", sum := "f3af6bc713735c22aba2a41aaefb2d02b0827efcb190614fd409f1dcd9d9a3d1", func := "loop.example/g01187/laws.FnExactEmptyTime", spec := "fnExactEmptyTime", unfollowed := true, recurses := true, apart := false, narrowed := true }
def FnExactEmptyTimeUptoSaid : Prop := fnExactEmptyTimeUptoRow.holds Try.pinned (OpenSpec.upto fnExactEmptyTimeSpec)

end Rows
end Go.Proofs.Ytpadckbjknjkaaa
