/-
  DERIVED. GIVEN WITH THE SEED: THE CARDS: each row of YtgdecglakknmpaaDoorRows.lean that lists a variable, with what it lists TIED to the program's text (the seventh form; the later family's looks); each row that meets fmt, with fmt's text TOLD by the authors' own Lean function (tested against real Go, not proved from fmt's source: count such statements apart). THE CARD IS WHAT COUNTS. Prove the row's statement (the work); the ties are given (YtgdecglakknmpaaDoorTie.lean); close each card by the builder's one call (the guide's Derived/Test/ToyasCard.lean, 'card_holds'). Laid BY PROGRAM, IN A SANDBOX (cutbox-door.mjs). By AI agents, Wed Nov 11 2026. No macro, syntax, notation, axiom, sorry.
-/
import Derived.Test.YtgdecglakknmpaaDoorRows
import GoSem.ClaimSeven
namespace Go.Proofs.YtgdecglakknmpaaDoor
namespace Rows

/-- THE TIED CARD OF 'laws.FnExactPathOfMixed'. -/
def fnExactPathOfMixedCard : Claim7 := { stood := { row := fnExactPathOfMixedRow, standIns := [], harness := (true, "4baff027788badc3930334783621a1f7fbfcdd925e6de2d2b69769d8dd98c0c3"), looks := true }, kinds := [], alts := [], laidByText := true, laidKinds := [.data, .pinned], laidTests := true, laidLooks := .later }
def FnExactPathOfMixedCardSaid : Prop := Claim7.holds Tryd.pinned (.plain (OpenSpec.ofChange fnExactPathOfMixedSpec)) fnExactPathOfMixedCard

/-- THE SECOND FORM's CARD OF 'laws.FnExactPathOfMixed'. -/
def fnExactPathOfMixedUptoCard : Claim7 := { stood := { row := fnExactPathOfMixedUptoRow, standIns := [], harness := (true, "4baff027788badc3930334783621a1f7fbfcdd925e6de2d2b69769d8dd98c0c3"), looks := true }, kinds := [], alts := [], laidByText := true, laidKinds := [.data, .pinned], laidTests := true, laidLooks := .later }
def FnExactPathOfMixedUptoCardSaid : Prop := Claim7.holds Tryd.pinned (.plain (OpenSpec.upto fnExactPathOfMixedSpec)) fnExactPathOfMixedUptoCard
end Rows
end Go.Proofs.YtgdecglakknmpaaDoor
