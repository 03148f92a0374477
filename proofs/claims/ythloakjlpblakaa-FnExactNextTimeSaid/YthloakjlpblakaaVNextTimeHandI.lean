/- A fuse's parts; the times at which its ropes burn out; how many kinds of fuses are in it. Conditions: those each lemma names. -/
import Derived.Test.YthloakjlpblakaaVNextTimeHandH
set_option linter.unusedVariables false
set_option linter.unusedSimpArgs false
namespace Go.Proofs.Ythloakjlpblakaa.PB
open Go.RowKit Go.Proofs.YthloakjlpblakaaW.PrintWords Go.Proofs.YthloakjlpblakaaW.PrintLast Go.Proofs.YthloakjlpblakaaW.PrintMore Go.Proofs.YthloakjlpblakaaX

theorem FAt.over {w w1 : World} {row : Option Nat} (hg : w.grownBy w1 row) (hty : ∀ k, row = some k → ∀ cells, w.heap[k]? ≠ some (.cells cells 66 (0, 0))) : ∀ {t : FT} {g : Nat}, FAt w t g → FAt w1 t g
  | .spark, g, h => blk_grown h hg (fun he => hty g he.symm _ h)
  | .node _ _ _ _, g, ⟨ga, gb, h1, h2, h3⟩ => ⟨ga, gb, blk_grown h1 hg (fun he => hty g he.symm _ h1), FAt.over hg hty h2, FAt.over hg hty h3⟩
theorem At2.over {w w1 : World} {row : Option Nat} (hg : w.grownBy w1 row) (hty : ∀ k, row = some k → ∀ cells, w.heap[k]? ≠ some (.cells cells 66 (0, 0))) : ∀ {ts : List FT} {gs : List (Option Nat)}, At2 w ts gs → At2 w1 ts gs
  | [], [], _ => trivial
  | _ :: _, some _ :: _, ⟨h1, h2⟩ => ⟨h1.over hg hty, At2.over hg hty h2⟩
  | [], _ :: _, h => h.elim
  | _ :: _, [], h => h.elim
  | _ :: _, none :: _, h => h.elim
theorem R_no66 {α : Type} {d : Kd α} {e : Nat} {w : World} {base : Nat} {ok : Nat → Prop} {v : Value} {xs : List α} (h : d.R e w base ok v xs) (he : e ≠ 66) : ∀ k, v.ownBlock = some k → ∀ cells, w.heap[k]? ≠ some (.cells cells 66 (0, 0)) := by
  intro k hk cells hc
  obtain ⟨inner, ho⟩ := Kd.R_own h
  obtain ⟨cells', hc'⟩ := own_typed ho k hk
  rw [hc] at hc'
  injection hc' with hc'
  injection hc' with _ hc'
  exact he hc'.symm
/-- Pairs of numbers. -/
def kP : Kd (Int × Int) := Kd.pair (Kd.int .i64) (Kd.int .i64)
theorem kP_M (w : World) (b : Nat) (ok : Nat → Prop) (x : Int × Int) : kP.M w b ok x [.int .i64 x.1, .int .i64 x.2] := ⟨[.int .i64 x.1], [.int .i64 x.2], rfl, rfl, rfl⟩
theorem kP_info : (Try.prog.info? 27).map (fun i => (i.zero, i.size, i.bytes)) = some (some (.agg #[.int .i64 0, .int .i64 0]), kP.sz, 16) := by kernel_rfl
end Go.Proofs.Ythloakjlpblakaa.PB
