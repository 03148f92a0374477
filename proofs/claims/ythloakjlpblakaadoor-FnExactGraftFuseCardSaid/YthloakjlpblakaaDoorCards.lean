/-
  DERIVED. GIVEN WITH THE SEED: THE CARDS: each row of YthloakjlpblakaaDoorRows.lean that lists a variable, with what it lists TIED to the program's text (the seventh form; the later family's looks); each row that meets fmt, with fmt's text TOLD by the authors' own Lean function (tested against real Go, not proved from fmt's source: count such statements apart). THE CARD IS WHAT COUNTS. Prove the row's statement (the work); the ties are given (YthloakjlpblakaaDoorTie.lean); close each card by the builder's one call (the guide's Derived/Test/ToyasCard.lean, 'card_holds'). Laid BY PROGRAM, IN A SANDBOX (cutbox-door.mjs). By AI agents, Wed Nov 11 2026. No macro, syntax, notation, axiom, sorry.
-/
import Derived.Test.YthloakjlpblakaaDoorRows
import GoSem.ClaimSeven
namespace Go.Proofs.YthloakjlpblakaaDoor
namespace Rows

/-- THE TIED CARD OF 'laws.FnExactGraftFuse'. -/
def fnExactGraftFuseCard : Claim7 := { stood := { row := fnExactGraftFuseRow, standIns := [], harness := (true, "4e3fa48a910c27de334df0f3ce33afd9660bd56a76b3f27ef77e8451b6d7cec9"), looks := false }, kinds := [], alts := [], laidByText := true, laidKinds := [.data, .pinned], laidTests := true, laidLooks := .later }
def FnExactGraftFuseCardSaid : Prop := Claim7.holds Tryd.pinned (.plain (OpenSpec.ofChange fnExactGraftFuseSpec)) fnExactGraftFuseCard

/-- THE SECOND FORM's CARD OF 'laws.FnExactGraftFuse'. -/
def fnExactGraftFuseUptoCard : Claim7 := { stood := { row := fnExactGraftFuseUptoRow, standIns := [], harness := (true, "4e3fa48a910c27de334df0f3ce33afd9660bd56a76b3f27ef77e8451b6d7cec9"), looks := false }, kinds := [], alts := [], laidByText := true, laidKinds := [.data, .pinned], laidTests := true, laidLooks := .later }
def FnExactGraftFuseUptoCardSaid : Prop := Claim7.holds Tryd.pinned (.plain (OpenSpec.upto fnExactGraftFuseSpec)) fnExactGraftFuseUptoCard
end Rows
end Go.Proofs.YthloakjlpblakaaDoor
