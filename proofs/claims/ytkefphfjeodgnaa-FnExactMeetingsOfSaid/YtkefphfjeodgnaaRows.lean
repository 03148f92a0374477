/-
  No cell of these rows narrows 'for every input' (looked for: loops, veiled, ifaces, maps, wideKeys, modest, calm, conditions, laid).
  DERIVED. THE GIVEN ROWS OF THIS SEAT. 14 by the template 'for every input the law returns true; each argument reads behind the call as it read before'; 0 by the template 'total and deterministic' (their statements: YtkefphfjeodgnaaTotals.lean).
  GIVEN WITH THE SEED: the statements are not yours to turn. If you find one false, say at which input.
  Laid BY PROGRAM, IN A SANDBOX (cutbox-rows.mjs): the forced cells as the released guide's own fill.sh prints them over the translation ca5c5eb447a0cdad… (all of the seat's roots in one cut). By AI agents, Wed Nov 11 2026. No macro, syntax, notation, axiom, sorry.
-/
import Derived.Test.YtkefphfjeodgnaaChecked
import GoSem.Claim
import GoSem.ClaimJoined
import GoSem.ClaimMapViews
import Derived.JoinedTies
import Derived.KernelRfl
namespace Go.Proofs.Ytkefphfjeodgnaa
/- THE CELL 'sum', in the pinned program and in every row, IS THE sha256 OF THE DUMP (.gsa) THAT YtkefphfjeodgnaaProg.lean LOADS. Nothing in Lean hashes anything: it is a label: what it is worth is what the hold of that sum in a sandbox is worth. -/
noncomputable def Try.pinned : Pinned := { name := "ytkefphfjeodgnaa", sum := "ca5c5eb447a0cdad5da6cf14d3cf67bf5e65b1f8f1debbf160c92bb50fd4a18b", checked := Try.checked }
namespace Rows
def none {H : Type} : Left H := { results := [], args := [] }

/-- 'laws.FnExactIsCandle': WHATEVER THE INPUT: true; the input reads as it did. -/
def fnExactIsCandleSpec : ChangeSpec := { name := "fnExactIsCandle", fn := fun _ => fun
  | [d] => { results := [.lit (.bool true)], args := [d] }
  | _ => none }
def fnExactIsCandleRow : OpenClaim := { program := "ytkefphfjeodgnaa", sum := "ca5c5eb447a0cdad5da6cf14d3cf67bf5e65b1f8f1debbf160c92bb50fd4a18b", func := "loop.example/g01187/laws.FnExactIsCandle", spec := "fnExactIsCandle", apart := false }
def FnExactIsCandleSaid : Prop := fnExactIsCandleRow.holds Try.pinned (OpenSpec.ofChange fnExactIsCandleSpec)

/-- ITS FALSE NEIGHBOUR: 'it returns false'. Refute it at one input. -/
def fnExactIsCandleWrong : ChangeSpec := { name := "fnExactIsCandle", fn := fun _ => fun
  | [d] => { results := [.lit (.bool false)], args := [d] }
  | _ => none }
def FnExactIsCandleWrongFalsely : Prop := fnExactIsCandleRow.holds Try.pinned (OpenSpec.ofChange fnExactIsCandleWrong)

/-- 'laws.FnExactOutAt': WHATEVER THE INPUT: true; the input reads as it did. -/
def fnExactOutAtSpec : ChangeSpec := { name := "fnExactOutAt", fn := fun _ => fun
  | [d] => { results := [.lit (.bool true)], args := [d] }
  | _ => none }
def fnExactOutAtRow : OpenClaim := { program := "ytkefphfjeodgnaa", sum := "ca5c5eb447a0cdad5da6cf14d3cf67bf5e65b1f8f1debbf160c92bb50fd4a18b", func := "loop.example/g01187/laws.FnExactOutAt", spec := "fnExactOutAt", apart := false }
def FnExactOutAtSaid : Prop := fnExactOutAtRow.holds Try.pinned (OpenSpec.ofChange fnExactOutAtSpec)

/-- ITS FALSE NEIGHBOUR: 'it returns false'. Refute it at one input. -/
def fnExactOutAtWrong : ChangeSpec := { name := "fnExactOutAt", fn := fun _ => fun
  | [d] => { results := [.lit (.bool false)], args := [d] }
  | _ => none }
def FnExactOutAtWrongFalsely : Prop := fnExactOutAtRow.holds Try.pinned (OpenSpec.ofChange fnExactOutAtWrong)

/-- 'laws.FnExactTimeOf': WHATEVER THE INPUT: true; the input reads as it did. -/
def fnExactTimeOfSpec : ChangeSpec := { name := "fnExactTimeOf", fn := fun _ => fun
  | [d1, d2] => { results := [.lit (.bool true)], args := [d1, d2] }
  | _ => none }
def fnExactTimeOfRow : OpenClaim := { program := "ytkefphfjeodgnaa", sum := "ca5c5eb447a0cdad5da6cf14d3cf67bf5e65b1f8f1debbf160c92bb50fd4a18b", func := "loop.example/g01187/laws.FnExactTimeOf", spec := "fnExactTimeOf", apart := false }
def FnExactTimeOfSaid : Prop := fnExactTimeOfRow.holds Try.pinned (OpenSpec.ofChange fnExactTimeOfSpec)

/-- ITS FALSE NEIGHBOUR: 'it returns false'. Refute it at one input. -/
def fnExactTimeOfWrong : ChangeSpec := { name := "fnExactTimeOf", fn := fun _ => fun
  | [d1, d2] => { results := [.lit (.bool false)], args := [d1, d2] }
  | _ => none }
def FnExactTimeOfWrongFalsely : Prop := fnExactTimeOfRow.holds Try.pinned (OpenSpec.ofChange fnExactTimeOfWrong)

/-- 'laws.FnCandles': WHATEVER THE INPUT: true; the input reads as it did. -/
def fnCandlesSpec : ChangeSpec := { name := "fnCandles", fn := fun _ => fun
  | [d] => { results := [.lit (.bool true)], args := [d] }
  | _ => none }
def fnCandlesRow : OpenClaim := { program := "ytkefphfjeodgnaa", sum := "ca5c5eb447a0cdad5da6cf14d3cf67bf5e65b1f8f1debbf160c92bb50fd4a18b", func := "loop.example/g01187/laws.FnCandles", spec := "fnCandles", unfollowed := true, recurses := true, apart := false }
def FnCandlesSaid : Prop := fnCandlesRow.holds Try.pinned (OpenSpec.ofChange fnCandlesSpec)

/-- ITS FALSE NEIGHBOUR: 'it returns false'. Refute it at one input. -/
def fnCandlesWrong : ChangeSpec := { name := "fnCandles", fn := fun _ => fun
  | [d] => { results := [.lit (.bool false)], args := [d] }
  | _ => none }
def FnCandlesWrongFalsely : Prop := fnCandlesRow.holds Try.pinned (OpenSpec.ofChange fnCandlesWrong)

/-- 'laws.FnExactLengthAt': WHATEVER THE INPUT: true; the input reads as it did. -/
def fnExactLengthAtSpec : ChangeSpec := { name := "fnExactLengthAt", fn := fun _ => fun
  | [d1, d2] => { results := [.lit (.bool true)], args := [d1, d2] }
  | _ => none }
def fnExactLengthAtRow : OpenClaim := { program := "ytkefphfjeodgnaa", sum := "ca5c5eb447a0cdad5da6cf14d3cf67bf5e65b1f8f1debbf160c92bb50fd4a18b", func := "loop.example/g01187/laws.FnExactLengthAt", spec := "fnExactLengthAt", apart := false }
def FnExactLengthAtSaid : Prop := fnExactLengthAtRow.holds Try.pinned (OpenSpec.ofChange fnExactLengthAtSpec)

/-- ITS FALSE NEIGHBOUR: 'it returns false'. Refute it at one input. -/
def fnExactLengthAtWrong : ChangeSpec := { name := "fnExactLengthAt", fn := fun _ => fun
  | [d1, d2] => { results := [.lit (.bool false)], args := [d1, d2] }
  | _ => none }
def FnExactLengthAtWrongFalsely : Prop := fnExactLengthAtRow.holds Try.pinned (OpenSpec.ofChange fnExactLengthAtWrong)

/-- 'laws.FnExactLightTotal': WHATEVER THE INPUT: true; the input reads as it did. -/
def fnExactLightTotalSpec : ChangeSpec := { name := "fnExactLightTotal", fn := fun _ => fun
  | [d] => { results := [.lit (.bool true)], args := [d] }
  | _ => none }
def fnExactLightTotalRow : OpenClaim := { program := "ytkefphfjeodgnaa", sum := "ca5c5eb447a0cdad5da6cf14d3cf67bf5e65b1f8f1debbf160c92bb50fd4a18b", func := "loop.example/g01187/laws.FnExactLightTotal", spec := "fnExactLightTotal", unfollowed := true, recurses := true, apart := false }
def FnExactLightTotalSaid : Prop := fnExactLightTotalRow.holds Try.pinned (OpenSpec.ofChange fnExactLightTotalSpec)

/-- ITS FALSE NEIGHBOUR: 'it returns false'. Refute it at one input. -/
def fnExactLightTotalWrong : ChangeSpec := { name := "fnExactLightTotal", fn := fun _ => fun
  | [d] => { results := [.lit (.bool false)], args := [d] }
  | _ => none }
def FnExactLightTotalWrongFalsely : Prop := fnExactLightTotalRow.holds Try.pinned (OpenSpec.ofChange fnExactLightTotalWrong)

/-- 'laws.FnExactRatioTimes': WHATEVER THE INPUT: true; the input reads as it did. -/
def fnExactRatioTimesSpec : ChangeSpec := { name := "fnExactRatioTimes", fn := fun _ => fun
  | [d1, d2, d3, d4] => { results := [.lit (.bool true)], args := [d1, d2, d3, d4] }
  | _ => none }
def fnExactRatioTimesRow : OpenClaim := { program := "ytkefphfjeodgnaa", sum := "ca5c5eb447a0cdad5da6cf14d3cf67bf5e65b1f8f1debbf160c92bb50fd4a18b", func := "loop.example/g01187/laws.FnExactRatioTimes", spec := "fnExactRatioTimes", apart := false }
def FnExactRatioTimesSaid : Prop := fnExactRatioTimesRow.holds Try.pinned (OpenSpec.ofChange fnExactRatioTimesSpec)

/-- ITS FALSE NEIGHBOUR: 'it returns false'. Refute it at one input. -/
def fnExactRatioTimesWrong : ChangeSpec := { name := "fnExactRatioTimes", fn := fun _ => fun
  | [d1, d2, d3, d4] => { results := [.lit (.bool false)], args := [d1, d2, d3, d4] }
  | _ => none }
def FnExactRatioTimesWrongFalsely : Prop := fnExactRatioTimesRow.holds Try.pinned (OpenSpec.ofChange fnExactRatioTimesWrong)

/-- 'laws.FnManyCandles': WHATEVER THE INPUT: true; the input reads as it did. -/
def fnManyCandlesSpec : ChangeSpec := { name := "fnManyCandles", fn := fun _ => fun
  | [d] => { results := [.lit (.bool true)], args := [d] }
  | _ => none }
def fnManyCandlesRow : OpenClaim := { program := "ytkefphfjeodgnaa", sum := "ca5c5eb447a0cdad5da6cf14d3cf67bf5e65b1f8f1debbf160c92bb50fd4a18b", func := "loop.example/g01187/laws.FnManyCandles", spec := "fnManyCandles", unfollowed := true, recurses := true, apart := false }
def FnManyCandlesSaid : Prop := fnManyCandlesRow.holds Try.pinned (OpenSpec.ofChange fnManyCandlesSpec)

/-- ITS FALSE NEIGHBOUR: 'it returns false'. Refute it at one input. -/
def fnManyCandlesWrong : ChangeSpec := { name := "fnManyCandles", fn := fun _ => fun
  | [d] => { results := [.lit (.bool false)], args := [d] }
  | _ => none }
def FnManyCandlesWrongFalsely : Prop := fnManyCandlesRow.holds Try.pinned (OpenSpec.ofChange fnManyCandlesWrong)

/-- 'laws.FnExactBurningAt': WHATEVER THE INPUT: true; the input reads as it did. -/
def fnExactBurningAtSpec : ChangeSpec := { name := "fnExactBurningAt", fn := fun _ => fun
  | [d1, d2] => { results := [.lit (.bool true)], args := [d1, d2] }
  | _ => none }
def fnExactBurningAtRow : OpenClaim := { program := "ytkefphfjeodgnaa", sum := "ca5c5eb447a0cdad5da6cf14d3cf67bf5e65b1f8f1debbf160c92bb50fd4a18b", func := "loop.example/g01187/laws.FnExactBurningAt", spec := "fnExactBurningAt", unfollowed := true, recurses := true, apart := false }
def FnExactBurningAtSaid : Prop := fnExactBurningAtRow.holds Try.pinned (OpenSpec.ofChange fnExactBurningAtSpec)

/-- ITS FALSE NEIGHBOUR: 'it returns false'. Refute it at one input. -/
def fnExactBurningAtWrong : ChangeSpec := { name := "fnExactBurningAt", fn := fun _ => fun
  | [d1, d2] => { results := [.lit (.bool false)], args := [d1, d2] }
  | _ => none }
def FnExactBurningAtWrongFalsely : Prop := fnExactBurningAtRow.holds Try.pinned (OpenSpec.ofChange fnExactBurningAtWrong)

/-- 'laws.FnExactMostBurning': WHATEVER THE INPUT: true; the input reads as it did. -/
def fnExactMostBurningSpec : ChangeSpec := { name := "fnExactMostBurning", fn := fun _ => fun
  | [d] => { results := [.lit (.bool true)], args := [d] }
  | _ => none }
def fnExactMostBurningRow : OpenClaim := { program := "ytkefphfjeodgnaa", sum := "ca5c5eb447a0cdad5da6cf14d3cf67bf5e65b1f8f1debbf160c92bb50fd4a18b", func := "loop.example/g01187/laws.FnExactMostBurning", spec := "fnExactMostBurning", unfollowed := true, recurses := true, apart := false }
def FnExactMostBurningSaid : Prop := fnExactMostBurningRow.holds Try.pinned (OpenSpec.ofChange fnExactMostBurningSpec)

/-- ITS FALSE NEIGHBOUR: 'it returns false'. Refute it at one input. -/
def fnExactMostBurningWrong : ChangeSpec := { name := "fnExactMostBurning", fn := fun _ => fun
  | [d] => { results := [.lit (.bool false)], args := [d] }
  | _ => none }
def FnExactMostBurningWrongFalsely : Prop := fnExactMostBurningRow.holds Try.pinned (OpenSpec.ofChange fnExactMostBurningWrong)

/-- 'laws.FnExactChainCandles': WHATEVER THE INPUT: true; the input reads as it did. -/
def fnExactChainCandlesSpec : ChangeSpec := { name := "fnExactChainCandles", fn := fun _ => fun
  | [d] => { results := [.lit (.bool true)], args := [d] }
  | _ => none }
def fnExactChainCandlesRow : OpenClaim := { program := "ytkefphfjeodgnaa", sum := "ca5c5eb447a0cdad5da6cf14d3cf67bf5e65b1f8f1debbf160c92bb50fd4a18b", func := "loop.example/g01187/laws.FnExactChainCandles", spec := "fnExactChainCandles", unfollowed := true, recurses := true, apart := false }
def FnExactChainCandlesSaid : Prop := fnExactChainCandlesRow.holds Try.pinned (OpenSpec.ofChange fnExactChainCandlesSpec)

/-- ITS FALSE NEIGHBOUR: 'it returns false'. Refute it at one input. -/
def fnExactChainCandlesWrong : ChangeSpec := { name := "fnExactChainCandles", fn := fun _ => fun
  | [d] => { results := [.lit (.bool false)], args := [d] }
  | _ => none }
def FnExactChainCandlesWrongFalsely : Prop := fnExactChainCandlesRow.holds Try.pinned (OpenSpec.ofChange fnExactChainCandlesWrong)

/-- 'laws.FnExactMeetingsOf': WHATEVER THE INPUT: true; the input reads as it did. -/
def fnExactMeetingsOfSpec : ChangeSpec := { name := "fnExactMeetingsOf", fn := fun _ => fun
  | [d1, d2] => { results := [.lit (.bool true)], args := [d1, d2] }
  | _ => none }
def fnExactMeetingsOfRow : OpenClaim := { program := "ytkefphfjeodgnaa", sum := "ca5c5eb447a0cdad5da6cf14d3cf67bf5e65b1f8f1debbf160c92bb50fd4a18b", func := "loop.example/g01187/laws.FnExactMeetingsOf", spec := "fnExactMeetingsOf", unfollowed := true, recurses := true, apart := false }
def FnExactMeetingsOfSaid : Prop := fnExactMeetingsOfRow.holds Try.pinned (OpenSpec.ofChange fnExactMeetingsOfSpec)

/-- ITS FALSE NEIGHBOUR: 'it returns false'. Refute it at one input. -/
def fnExactMeetingsOfWrong : ChangeSpec := { name := "fnExactMeetingsOf", fn := fun _ => fun
  | [d1, d2] => { results := [.lit (.bool false)], args := [d1, d2] }
  | _ => none }
def FnExactMeetingsOfWrongFalsely : Prop := fnExactMeetingsOfRow.holds Try.pinned (OpenSpec.ofChange fnExactMeetingsOfWrong)

/-- 'laws.FnExactOrderAt': WHATEVER THE INPUT: true; the input reads as it did. -/
def fnExactOrderAtSpec : ChangeSpec := { name := "fnExactOrderAt", fn := fun _ => fun
  | [d1, d2] => { results := [.lit (.bool true)], args := [d1, d2] }
  | _ => none }
def fnExactOrderAtRow : OpenClaim := { program := "ytkefphfjeodgnaa", sum := "ca5c5eb447a0cdad5da6cf14d3cf67bf5e65b1f8f1debbf160c92bb50fd4a18b", func := "loop.example/g01187/laws.FnExactOrderAt", spec := "fnExactOrderAt", unfollowed := true, recurses := true, apart := false }
def FnExactOrderAtSaid : Prop := fnExactOrderAtRow.holds Try.pinned (OpenSpec.ofChange fnExactOrderAtSpec)

/-- ITS FALSE NEIGHBOUR: 'it returns false'. Refute it at one input. -/
def fnExactOrderAtWrong : ChangeSpec := { name := "fnExactOrderAt", fn := fun _ => fun
  | [d1, d2] => { results := [.lit (.bool false)], args := [d1, d2] }
  | _ => none }
def FnExactOrderAtWrongFalsely : Prop := fnExactOrderAtRow.holds Try.pinned (OpenSpec.ofChange fnExactOrderAtWrong)

/-- 'laws.FnExactDarkSpans': WHATEVER THE INPUT: true; the input reads as it did. -/
def fnExactDarkSpansSpec : ChangeSpec := { name := "fnExactDarkSpans", fn := fun _ => fun
  | [d] => { results := [.lit (.bool true)], args := [d] }
  | _ => none }
def fnExactDarkSpansRow : OpenClaim := { program := "ytkefphfjeodgnaa", sum := "ca5c5eb447a0cdad5da6cf14d3cf67bf5e65b1f8f1debbf160c92bb50fd4a18b", func := "loop.example/g01187/laws.FnExactDarkSpans", spec := "fnExactDarkSpans", unfollowed := true, recurses := true, apart := false }
def FnExactDarkSpansSaid : Prop := fnExactDarkSpansRow.holds Try.pinned (OpenSpec.ofChange fnExactDarkSpansSpec)

/-- ITS FALSE NEIGHBOUR: 'it returns false'. Refute it at one input. -/
def fnExactDarkSpansWrong : ChangeSpec := { name := "fnExactDarkSpans", fn := fun _ => fun
  | [d] => { results := [.lit (.bool false)], args := [d] }
  | _ => none }
def FnExactDarkSpansWrongFalsely : Prop := fnExactDarkSpansRow.holds Try.pinned (OpenSpec.ofChange fnExactDarkSpansWrong)

/- THE SECOND FORM. 'bulk': how many values and letters a reading holds, each counted each time it is reached (what is shared counts as often as it is met; a slice's spare places count too). A statement '..UptoSaid' is the law's where the arguments, and the package variables that the reading takes, are together of bulk at most 1048576: NARROWER than '..Said'. Prove '..Said' where nothing that the law and all that it calls make is longer than what came in: it says more and counts as full. Else prove '..UptoSaid'. A law counts once. -/
mutual
def uptoBulk {H : Type} : DataW H → Nat
  | .lit (.string bytes) => bytes.length + 1
  | .lit _ => 1
  | .nil => 1
  | .ptr d => uptoBulk d + 1
  | .slice elems spare => uptoBulkAll elems + uptoBulkAll spare + 1
  | .agg parts => uptoBulkAll parts + 1
  | .iface _ d => uptoBulk d + 1
  | .map entries => uptoBulkEntries entries + 1
  | .held _ => 1
def uptoBulkAll {H : Type} : List (DataW H) → Nat
  | [] => 0
  | d :: r => uptoBulk d + uptoBulkAll r
def uptoBulkEntries {H : Type} : List (Lit × DataW H) → Nat
  | [] => 0
  | x :: r => uptoBulkEntry x + uptoBulkEntries r
def uptoBulkEntry {H : Type} : Lit × DataW H → Nat
  | (.string bytes, d) => bytes.length + uptoBulk d + 1
  | (_, d) => uptoBulk d + 1
 end
def uptoSmall : (H : Type) → List (DataW H) → Bool := fun _ ds => decide (uptoBulkAll ds ≤ 1048576)
def OpenSpec.upto (s : _root_.Go.ChangeSpec) : _root_.Go.OpenSpec := { _root_.Go.OpenSpec.ofChange s with cond := some uptoSmall }

/-- 'laws.FnExactIsCandle', WHERE WHAT IT READS IS OF BULK AT MOST 1048576: true; the input reads as it did. -/
def fnExactIsCandleUptoRow : OpenClaim := { program := "ytkefphfjeodgnaa", sum := "ca5c5eb447a0cdad5da6cf14d3cf67bf5e65b1f8f1debbf160c92bb50fd4a18b", func := "loop.example/g01187/laws.FnExactIsCandle", spec := "fnExactIsCandle", apart := false, narrowed := true }
def FnExactIsCandleUptoSaid : Prop := fnExactIsCandleUptoRow.holds Try.pinned (OpenSpec.upto fnExactIsCandleSpec)

/-- 'laws.FnExactOutAt', WHERE WHAT IT READS IS OF BULK AT MOST 1048576: true; the input reads as it did. -/
def fnExactOutAtUptoRow : OpenClaim := { program := "ytkefphfjeodgnaa", sum := "ca5c5eb447a0cdad5da6cf14d3cf67bf5e65b1f8f1debbf160c92bb50fd4a18b", func := "loop.example/g01187/laws.FnExactOutAt", spec := "fnExactOutAt", apart := false, narrowed := true }
def FnExactOutAtUptoSaid : Prop := fnExactOutAtUptoRow.holds Try.pinned (OpenSpec.upto fnExactOutAtSpec)

/-- 'laws.FnExactTimeOf', WHERE WHAT IT READS IS OF BULK AT MOST 1048576: true; the input reads as it did. -/
def fnExactTimeOfUptoRow : OpenClaim := { program := "ytkefphfjeodgnaa", sum := "ca5c5eb447a0cdad5da6cf14d3cf67bf5e65b1f8f1debbf160c92bb50fd4a18b", func := "loop.example/g01187/laws.FnExactTimeOf", spec := "fnExactTimeOf", apart := false, narrowed := true }
def FnExactTimeOfUptoSaid : Prop := fnExactTimeOfUptoRow.holds Try.pinned (OpenSpec.upto fnExactTimeOfSpec)

/-- 'laws.FnCandles', WHERE WHAT IT READS IS OF BULK AT MOST 1048576: true; the input reads as it did. -/
def fnCandlesUptoRow : OpenClaim := { program := "ytkefphfjeodgnaa", sum := "ca5c5eb447a0cdad5da6cf14d3cf67bf5e65b1f8f1debbf160c92bb50fd4a18b", func := "loop.example/g01187/laws.FnCandles", spec := "fnCandles", unfollowed := true, recurses := true, apart := false, narrowed := true }
def FnCandlesUptoSaid : Prop := fnCandlesUptoRow.holds Try.pinned (OpenSpec.upto fnCandlesSpec)

/-- 'laws.FnExactLengthAt', WHERE WHAT IT READS IS OF BULK AT MOST 1048576: true; the input reads as it did. -/
def fnExactLengthAtUptoRow : OpenClaim := { program := "ytkefphfjeodgnaa", sum := "ca5c5eb447a0cdad5da6cf14d3cf67bf5e65b1f8f1debbf160c92bb50fd4a18b", func := "loop.example/g01187/laws.FnExactLengthAt", spec := "fnExactLengthAt", apart := false, narrowed := true }
def FnExactLengthAtUptoSaid : Prop := fnExactLengthAtUptoRow.holds Try.pinned (OpenSpec.upto fnExactLengthAtSpec)

/-- 'laws.FnExactLightTotal', WHERE WHAT IT READS IS OF BULK AT MOST 1048576: true; the input reads as it did. -/
def fnExactLightTotalUptoRow : OpenClaim := { program := "ytkefphfjeodgnaa", sum := "ca5c5eb447a0cdad5da6cf14d3cf67bf5e65b1f8f1debbf160c92bb50fd4a18b", func := "loop.example/g01187/laws.FnExactLightTotal", spec := "fnExactLightTotal", unfollowed := true, recurses := true, apart := false, narrowed := true }
def FnExactLightTotalUptoSaid : Prop := fnExactLightTotalUptoRow.holds Try.pinned (OpenSpec.upto fnExactLightTotalSpec)

/-- 'laws.FnExactRatioTimes', WHERE WHAT IT READS IS OF BULK AT MOST 1048576: true; the input reads as it did. -/
def fnExactRatioTimesUptoRow : OpenClaim := { program := "ytkefphfjeodgnaa", sum := "ca5c5eb447a0cdad5da6cf14d3cf67bf5e65b1f8f1debbf160c92bb50fd4a18b", func := "loop.example/g01187/laws.FnExactRatioTimes", spec := "fnExactRatioTimes", apart := false, narrowed := true }
def FnExactRatioTimesUptoSaid : Prop := fnExactRatioTimesUptoRow.holds Try.pinned (OpenSpec.upto fnExactRatioTimesSpec)

/-- 'laws.FnManyCandles', WHERE WHAT IT READS IS OF BULK AT MOST 1048576: true; the input reads as it did. -/
def fnManyCandlesUptoRow : OpenClaim := { program := "ytkefphfjeodgnaa", sum := "ca5c5eb447a0cdad5da6cf14d3cf67bf5e65b1f8f1debbf160c92bb50fd4a18b", func := "loop.example/g01187/laws.FnManyCandles", spec := "fnManyCandles", unfollowed := true, recurses := true, apart := false, narrowed := true }
def FnManyCandlesUptoSaid : Prop := fnManyCandlesUptoRow.holds Try.pinned (OpenSpec.upto fnManyCandlesSpec)

/-- 'laws.FnExactBurningAt', WHERE WHAT IT READS IS OF BULK AT MOST 1048576: true; the input reads as it did. -/
def fnExactBurningAtUptoRow : OpenClaim := { program := "ytkefphfjeodgnaa", sum := "ca5c5eb447a0cdad5da6cf14d3cf67bf5e65b1f8f1debbf160c92bb50fd4a18b", func := "loop.example/g01187/laws.FnExactBurningAt", spec := "fnExactBurningAt", unfollowed := true, recurses := true, apart := false, narrowed := true }
def FnExactBurningAtUptoSaid : Prop := fnExactBurningAtUptoRow.holds Try.pinned (OpenSpec.upto fnExactBurningAtSpec)

/-- 'laws.FnExactMostBurning', WHERE WHAT IT READS IS OF BULK AT MOST 1048576: true; the input reads as it did. -/
def fnExactMostBurningUptoRow : OpenClaim := { program := "ytkefphfjeodgnaa", sum := "ca5c5eb447a0cdad5da6cf14d3cf67bf5e65b1f8f1debbf160c92bb50fd4a18b", func := "loop.example/g01187/laws.FnExactMostBurning", spec := "fnExactMostBurning", unfollowed := true, recurses := true, apart := false, narrowed := true }
def FnExactMostBurningUptoSaid : Prop := fnExactMostBurningUptoRow.holds Try.pinned (OpenSpec.upto fnExactMostBurningSpec)

/-- 'laws.FnExactChainCandles', WHERE WHAT IT READS IS OF BULK AT MOST 1048576: true; the input reads as it did. -/
def fnExactChainCandlesUptoRow : OpenClaim := { program := "ytkefphfjeodgnaa", sum := "ca5c5eb447a0cdad5da6cf14d3cf67bf5e65b1f8f1debbf160c92bb50fd4a18b", func := "loop.example/g01187/laws.FnExactChainCandles", spec := "fnExactChainCandles", unfollowed := true, recurses := true, apart := false, narrowed := true }
def FnExactChainCandlesUptoSaid : Prop := fnExactChainCandlesUptoRow.holds Try.pinned (OpenSpec.upto fnExactChainCandlesSpec)

/-- 'laws.FnExactMeetingsOf', WHERE WHAT IT READS IS OF BULK AT MOST 1048576: true; the input reads as it did. -/
def fnExactMeetingsOfUptoRow : OpenClaim := { program := "ytkefphfjeodgnaa", sum := "ca5c5eb447a0cdad5da6cf14d3cf67bf5e65b1f8f1debbf160c92bb50fd4a18b", func := "loop.example/g01187/laws.FnExactMeetingsOf", spec := "fnExactMeetingsOf", unfollowed := true, recurses := true, apart := false, narrowed := true }
def FnExactMeetingsOfUptoSaid : Prop := fnExactMeetingsOfUptoRow.holds Try.pinned (OpenSpec.upto fnExactMeetingsOfSpec)

/-- 'laws.FnExactOrderAt', WHERE WHAT IT READS IS OF BULK AT MOST 1048576: true; the input reads as it did. -/
def fnExactOrderAtUptoRow : OpenClaim := { program := "ytkefphfjeodgnaa", sum := "ca5c5eb447a0cdad5da6cf14d3cf67bf5e65b1f8f1debbf160c92bb50fd4a18b", func := "loop.example/g01187/laws.FnExactOrderAt", spec := "fnExactOrderAt", unfollowed := true, recurses := true, apart := false, narrowed := true }
def FnExactOrderAtUptoSaid : Prop := fnExactOrderAtUptoRow.holds Try.pinned (OpenSpec.upto fnExactOrderAtSpec)

/-- 'laws.FnExactDarkSpans', WHERE WHAT IT READS IS OF BULK AT MOST 1048576: true; the input reads as it did. -/
def fnExactDarkSpansUptoRow : OpenClaim := { program := "ytkefphfjeodgnaa", sum := "ca5c5eb447a0cdad5da6cf14d3cf67bf5e65b1f8f1debbf160c92bb50fd4a18b", func := "loop.example/g01187/laws.FnExactDarkSpans", spec := "fnExactDarkSpans", unfollowed := true, recurses := true, apart := false, narrowed := true }
def FnExactDarkSpansUptoSaid : Prop := fnExactDarkSpansUptoRow.holds Try.pinned (OpenSpec.upto fnExactDarkSpansSpec)

end Rows
end Go.Proofs.Ytkefphfjeodgnaa
