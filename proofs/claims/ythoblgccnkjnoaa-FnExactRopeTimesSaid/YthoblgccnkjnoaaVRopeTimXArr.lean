/- Small laws on arrays as values: '==' of two arrays of one type is the conjunction of their elements' '=='. Conditions: none beyond those each lemma names. -/
import Derived.Laws.StructEq
import Derived.ChangeKeysEq
import Derived.WalkKit
import Derived.LoopN
import Derived.WalkSpells
import Derived.Test.YthoblgccnkjnoaaVRopeTimWWords
namespace Go.Proofs.YthoblgccnkjnoaaX
section
variable {P : Program} {d c : Nat} {e : TypeId} {xs ys : Array Value} {i : Nat} {is : List Nat} {a b : Value} {r s : Bool} {w : World}
end
/-- An element of an array of whole numbers, by value. -/
@[go_sem] theorem run_index_agg {P : Program} {t : TypeId} {cs : Array Value} {k : IntKind} {i : Int} {w : World} (h : P.underlying t = some (.array (P.arrayLen t) (P.elem t))) :
    (Instr.index t (.agg cs) (.int k i)).run P w =
      if 0 ≤ i ∧ i < P.arrayLen t then ((sizeOf (P.elem t)).run P w).andThen fun s w => (part (P.elem t) cs (i.toNat * s)).run P w
      else (boundsPanic k i (P.arrayLen t) .index).run P w := by
  by_cases hi : 0 ≤ i ∧ i < (P.arrayLen t : Int)
  · simp [Instr.index, run_underlying h, asIntOf, hi]
  · simp [Instr.index, run_underlying h, asIntOf, hi]
/-- One round more of a loop that is walked round by round. -/
theorem rounds_go {P : Program} {c : Code} {Q : Exit → Act → World → Prop} {n : Nat} {a : Act} {w : World} (h : c.wp P (Exit.then (Code.rounds P c Q n) Q) a w) : Code.rounds P c Q (n + 1) a w := h
/-- A slice that is nil has no elements. -/
theorem C_none_nil {α : Type} {d : Go.Proofs.YthoblgccnkjnoaaW.PrintWords.Kd α} {w : World} {n : Nat} {xs : List α} (h : d.C w none n xs) : xs = [] := by
  cases xs with
  | nil => rfl
  | cons x r =>
    have hl := Go.Proofs.YthoblgccnkjnoaaW.PrintWords.Kd.C_len h
    obtain ⟨ad, c, e, _⟩ := Go.Proofs.YthoblgccnkjnoaaW.PrintWords.Kd.C_get h x 0 (by omega) (by simp at hl; omega)
    cases e
theorem eql_nil {P : Program} {t e : TypeId} {a : Option Addr} {n c n' c' : Nat} {b : Bool} (h : P.underlying t = some (.slice e)) (hb : a.isNone = b) (w : World) : (binOp .eql t (.slice a n c) (.slice none n' c')).run P w = .ok (.bool b) w := by
  rw [Lib.run_eql_slice_nil w t e a n c n' c' h, hb]
end Go.Proofs.YthoblgccnkjnoaaX
