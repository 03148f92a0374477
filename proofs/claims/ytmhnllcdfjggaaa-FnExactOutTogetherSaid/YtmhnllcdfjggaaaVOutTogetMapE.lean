import Derived.Test.YtmhnllcdfjggaaaVOutTogetMapX
import Derived.Test.YtmhnllcdfjggaaaVOutTogetWKept
import Derived.Maps.Range
namespace Go.Proofs.Ytmhnllcdfjggaaa.Mp
open Go.RowKit Go.Maps Go.Proofs.YtmhnllcdfjggaaaW.PrintWords
open Go.ChangeMaps (setBlock)
set_option linter.unusedVariables false
set_option linter.unusedSimpArgs false
theorem grown_set {w w1 : World} (hw : w1 = w ∨ w1 = w.drew) (b : Nat) (o : Obj) : w.grownBy (setBlock w1 b o) (some b) := by
 have hh : w1.heap = w.heap ∧ w1.os = w.os ∧ w1.tape = w.tape ∧ w1.output = w.output := by rcases hw with rfl | rfl <;> exact ⟨rfl, rfl, rfl, rfl⟩
 refine ⟨hh.2.1, hh.2.2.1, hh.2.2.2, ?_, ?_⟩
 ·simp [setBlock, hh.1]
 ·intro i hi hne
  rw [heap_set_ne (by rintro rfl; exact hne rfl), hh.1]
theorem below_grown {w0 w w1 : World} {b : Nat} (h : Below w0.heap.size w0 w) (hg : w.grownBy w1 (some b)) (hb : w0.heap.size ≤ b) : Below w0.heap.size w0 w1 :=
 ⟨hg.os.trans h.os, hg.tape.trans h.tape, hg.output.trans h.output, Nat.le_trans h.size hg.size, fun i hi => (hg.block i (Nat.lt_of_lt_of_le hi h.size) (by intro e; injection e with e; omega)).trans (h.block i hi)⟩
section
variable {ops : Array Oper} {rest : List Oper} {o : Oper} {a : Act} {Q : Exit → Act → World → Prop} {W : World}
theorem skip_run {w1 : World} (hgd : o.guard = none) (hN : o.dst = none) (hrun : (execOp a.eval o).run Try.prog W = .ok .skip w1) (h : wpList Try.prog ops Q rest a w1) : wpList Try.prog ops Q (o :: rest) a W := by
 refine wpList_plain hgd fun K hK => ?_
 unfold Oper.wp
 rw [hrun]
 show K (a.put o.dst undef) w1
 rw [hN]
 exact hK _ _ h
theorem make_event (hgd : o.guard = none) (hop : o.op = .makeMap 52 none)
 (h : ∀ b w1, b = W.heap.size → MapAt w1 b [] → Below W.heap.size W w1 → wpList Try.prog ops Q rest (a.put o.dst (.map (some b))) w1) : wpList Try.prog ops Q (o :: rest) a W := by
 refine Kd.event_run (w1 := W.alloc (.map #[] 0)) (v := .map (some W.heap.size)) hgd ?_ (h _ _ rfl (MapAt.made W) (below_alloc (Below.refl _ _) _))
 have : (Instr.makeMap 52 none).run Try.prog W = .ok (.map (some W.heap.size)) (W.alloc (.map #[] 0)) := by
  simp [Instr.makeMap, newObj, Sem.run, Result.andThen]
 simp [execOp, hop, this, Result.andThen]
theorem upd_event {m x v : Operand} (hgd : o.guard = none) (hop : o.op = .mapUpdate 52 m x v ∨ o.op = .insert 52 m x v) (hN : o.dst = none) {b : Nat} {ks : List Sp} {s : Sp} {p t : Int}
 (HM : MapAt W b ks) (hs : s.ok) (hm : a.eval m = .map (some b)) (hx : a.eval x = s.v) (hv : a.eval v = .agg #[.int .i64 p, .int .i64 t])
 (h : ∀ w1 ks', MapAt w1 b ks' → (∀ x, x ∈ ks' ↔ x ∈ ks ∨ x = s) → W.grownBy w1 (some b) → wpList Try.prog ops Q rest a w1) : wpList Try.prog ops Q (o :: rest) a W := by
 obtain ⟨ob, ks', hrun, h1, h2⟩ := HM.update s hs p t
 refine skip_run (w1 := setBlock W b ob) hgd hN ?_ (h _ _ h1 h2 (grown_set (Or.inl rfl) _ _))
 rcases hop with hop | hop <;> simp [execOp, hop, hm, hx, hv, hrun, Result.andThen]
theorem look_event {m x : Operand} (hgd : o.guard = none) (hop : o.op = .lookup 52 m x true) {b : Nat} {ks : List Sp} {s : Sp}
 (HM : MapAt W b ks) (hs : s.ok) (hm : a.eval m = .map (some b)) (hx : a.eval x = s.v)
 (h : ∀ p t : Int, wpList Try.prog ops Q rest (a.put o.dst (.tuple #[.agg #[.int .i64 p, .int .i64 t], .bool (decide (s ∈ ks))])) W) : wpList Try.prog ops Q (o :: rest) a W := by
 obtain ⟨p, t, hrun⟩ := HM.lookup s hs
 refine Kd.event_run (w1 := W) hgd ?_ (h p t)
 simp [execOp, hop, hm, hx, hrun, Result.andThen]
theorem range_event {m : Operand} (hgd : o.guard = none) (hop : o.op = .range 52 m) {b : Nat} {ks : List Sp}
 (HM : MapAt W b ks) (hm : a.eval m = .map (some b))
 (h : ∀ r w1, r = W.heap.size → IterAt w1 r b ks ks → Below W.heap.size W w1 → wpList Try.prog ops Q rest (a.put o.dst (.pointer (some ⟨r, 0, none⟩))) w1) : wpList Try.prog ops Q (o :: rest) a W := by
 obtain ⟨ob, hrun, h1⟩ := HM.range
 refine Kd.event_run (w1 := W.alloc ob) hgd ?_ (h _ _ rfl h1 (below_alloc (Below.refl _ _) _))
 simp [execOp, hop, hm, hrun, Result.andThen]
theorem next_event {it : Operand} (hgd : o.guard = none) (hop : o.op = .next it false) {w1 : World} {v : Value} {r : Nat}
 (hit : a.eval it = .pointer (some ⟨r, 0, none⟩)) (hrun : ∀ ty, (Instr.next (.pointer (some ⟨r, 0, none⟩)) false ty).run Try.prog W = .ok v w1)
 (h : wpList Try.prog ops Q rest (a.put o.dst v) w1) : wpList Try.prog ops Q (o :: rest) a W := by
 refine Kd.event_run (w1 := w1) hgd ?_ h
 simp [execOp, hop, hit, hrun, Result.andThen]
theorem entry_event {it : Operand} (hgd : o.guard = none) (hop : o.op = .entry it) {r b : Nat} {ks left : List Sp} {s : Sp} {p t : Int}
 (HS : StepAt W r b ks left s p t) (hit : a.eval it = .pointer (some ⟨r, 0, none⟩))
 (h : wpList Try.prog ops Q rest (a.put o.dst (.tuple #[s.v, .agg #[.int .i64 p, .int .i64 t]])) W) : wpList Try.prog ops Q (o :: rest) a W := by
 refine Kd.event_run (w1 := W) hgd ?_ h
 simp [execOp, hop, hit, HS.entry, Result.andThen]
end
/-- 'next', whichever entry comes: as a step of the loop. -/
theorem IterAt.next' {w : World} {r b : Nat} {ks left : List Sp} (h : IterAt w r b ks left) :
 (left = [] ∧ ∀ ty, (Instr.next (.pointer (some ⟨r, 0, none⟩)) false ty).run Try.prog w = .ok (.tuple #[.bool false]) w) ∨
 ∃ s p t left' w2, (∀ ty, (Instr.next (.pointer (some ⟨r, 0, none⟩)) false ty).run Try.prog w = .ok (.tuple #[.bool true, s.v, .agg #[.int .i64 p, .int .i64 t]]) w2) ∧
  StepAt w2 r b ks left' s p t ∧ w.grownBy w2 (some r) ∧ s ∈ left ∧ left'.length < left.length ∧ ∀ x, x ∈ left' ↔ x ∈ left ∧ x ≠ s := by
 rcases h.next 0 with ⟨h1, h2⟩ | ⟨s, p, t, left', ob, w1, hw, h2, h3, h4⟩
 ·exact Or.inl ⟨h1, fun ty => h2⟩
 ·exact Or.inr ⟨s, p, t, left', _, fun ty => h2, h3, grown_set hw _ _, h4⟩
end Go.Proofs.Ytmhnllcdfjggaaa.Mp
