/- Rows of pointers to fuses: joined; a fuse's parts. Conditions: those each lemma names. -/
import Derived.Test.YthloakjlpblakaaVTimesWitHandE
import Derived.Outline
set_option linter.unusedVariables false
set_option linter.unusedSimpArgs false
namespace Go.Proofs.Ythloakjlpblakaa.PB
open Go.RowKit Go.Proofs.YthloakjlpblakaaW.PrintWords Go.Proofs.YthloakjlpblakaaW.PrintLast Go.Proofs.YthloakjlpblakaaW.PrintMore Go.Proofs.YthloakjlpblakaaX

theorem fptr1 (x : Option Nat) : (fptr x).oneCell' = true := by cases x <;> rfl
def kG : Kd (Option Nat) := Kd.scalar fptr fptr1
/-- The fuses that lie at blocks. -/
def At2 (w : World) : List FT → List (Option Nat) → Prop
  | [], [] => True
  | t :: ts, some g :: gs => FAt w t g ∧ At2 w ts gs
  | _, _ => False
theorem At2.below {w w' : World} (hb : Below w.heap.size w w') : ∀ {ts : List FT} {gs : List (Option Nat)}, At2 w ts gs → At2 w' ts gs
  | [], [], _ => trivial
  | _ :: _, some _ :: _, ⟨h1, h2⟩ => ⟨h1.below hb, h2.below hb⟩
  | [], _ :: _, h => h.elim
  | _ :: _, [], h => h.elim
  | _ :: _, none :: _, h => h.elim
theorem At2.length {w : World} : ∀ {ts : List FT} {gs : List (Option Nat)}, At2 w ts gs → gs.length = ts.length
  | [], [], _ => rfl
  | _ :: _, some _ :: _, ⟨_, h2⟩ => by simp [h2.length]
  | [], _ :: _, h => h.elim
  | _ :: _, [], h => h.elim
  | _ :: _, none :: _, h => h.elim
theorem At2.get {w : World} : ∀ {ts : List FT} {gs : List (Option Nat)}, At2 w ts gs → ∀ (i : Nat) (t : FT), ts[i]? = some t → ∃ g, gs[i]? = some (some g) ∧ FAt w t g
  | t :: _, some g :: _, ⟨h1, _⟩, 0, _, e => by simp at e; subst e; exact ⟨g, rfl, h1⟩
  | _ :: _, some _ :: _, ⟨_, h2⟩, i + 1, t, e => by simpa using h2.get i t (by simpa using e)
  | [], [], _, _, _, e => by simp at e
  | [], _ :: _, h, _, _, _ => h.elim
  | _ :: _, [], h, _, _, _ => h.elim
  | _ :: _, none :: _, h, _, _, _ => h.elim
theorem below_none {w w1 : World} (h : w.grownBy w1 none) : Below w.heap.size w w1 := (Below.refl w.heap.size w).grown h (Nat.le_refl _) (fun k hk => by cases hk)
end Go.Proofs.Ythloakjlpblakaa.PB
