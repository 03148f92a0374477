/- Small laws on arrays as values: '==' of two arrays of one type is the conjunction of their elements' '=='. Conditions: none beyond those each lemma names. -/
import Derived.Laws.StructEq
import Derived.ChangeKeysEq
import Derived.WalkKit
import Derived.LoopN
import Derived.WalkSpells
import Derived.Test.YtikpbopjhkohmaaVThingsWWords
namespace Go.Proofs.YtikpbopjhkohmaaX
section
variable {P : Program} {d c : Nat} {e : TypeId} {xs ys : Array Value} {i : Nat} {is : List Nat} {a b : Value} {r s : Bool} {w : World}
theorem eqi_last (ha : (part e xs (i * c)).run P w = .ok a w) (hb : (part e ys (i * c)).run P w = .ok b w) (he : (Op.equalIn d e a b).run P w = .ok r w) : (Op.eqItems d e c xs ys [i]).run P w = .ok r w := by
  simp only [Op.eqItems, Sem.run_bind, ha, hb, he, Result.andThen_ok]
  cases r <;> simp
theorem eqi_cons (ha : (part e xs (i * c)).run P w = .ok a w) (hb : (part e ys (i * c)).run P w = .ok b w) (he : (Op.equalIn d e a b).run P w = .ok r w) (hr : (Op.eqItems d e c xs ys is).run P w = .ok s w) : (Op.eqItems d e c xs ys (i :: is)).run P w = .ok (r && s) w := by
  simp only [Op.eqItems, Sem.run_bind, ha, hb, he, Result.andThen_ok]
  cases r
  · simp
  · simpa using hr
theorem eqA_arr {t : TypeId} {n : Nat} (hu : P.underlying t = some (.array n e)) (hs : (P.info? e).isSome = true) (hc : P.cellsOf e = c) (h : (Op.eqItems d e c xs ys (List.range n)).run P w = .ok r w) : (Op.equalIn (d + 1) t (.agg xs) (.agg ys)).run P w = .ok r w := by
  obtain ⟨inf, hi⟩ := Option.isSome_iff_exists.mp hs
  rw [run_equalIn_array (P := P) (w := w) d xs ys hu hi, hc]
  exact h
end
/-- An element of an array of whole numbers, by value. -/
@[go_sem] theorem run_index_agg {P : Program} {t : TypeId} {cs : Array Value} {k : IntKind} {i : Int} {w : World} (h : P.underlying t = some (.array (P.arrayLen t) (P.elem t))) :
    (Instr.index t (.agg cs) (.int k i)).run P w =
      if 0 ≤ i ∧ i < P.arrayLen t then ((sizeOf (P.elem t)).run P w).andThen fun s w => (part (P.elem t) cs (i.toNat * s)).run P w
      else (boundsPanic k i (P.arrayLen t) .index).run P w := by
  by_cases hi : 0 ≤ i ∧ i < (P.arrayLen t : Int)
  · simp [Instr.index, run_underlying h, asIntOf, hi]
  · simp [Instr.index, run_underlying h, asIntOf, hi]
/-- A slice that is nil has no elements. -/
theorem C_none_nil {α : Type} {d : Go.Proofs.YtikpbopjhkohmaaW.PrintWords.Kd α} {w : World} {n : Nat} {xs : List α} (h : d.C w none n xs) : xs = [] := by
  cases xs with
  | nil => rfl
  | cons x r =>
    have hl := Go.Proofs.YtikpbopjhkohmaaW.PrintWords.Kd.C_len h
    obtain ⟨ad, c, e, _⟩ := Go.Proofs.YtikpbopjhkohmaaW.PrintWords.Kd.C_get h x 0 (by omega) (by simp at hl; omega)
    cases e
theorem eql_nil {P : Program} {t e : TypeId} {a : Option Addr} {n c n' c' : Nat} {b : Bool} (h : P.underlying t = some (.slice e)) (hb : a.isNone = b) (w : World) : (binOp .eql t (.slice a n c) (.slice none n' c')).run P w = .ok (.bool b) w := by
  rw [Lib.run_eql_slice_nil w t e a n c n' c' h, hb]
end Go.Proofs.YtikpbopjhkohmaaX
