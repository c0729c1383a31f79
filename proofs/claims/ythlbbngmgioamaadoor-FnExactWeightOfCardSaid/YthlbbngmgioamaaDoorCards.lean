/-
  DERIVED. GIVEN WITH THE SEED: THE CARDS: each row of YthlbbngmgioamaaDoorRows.lean that lists a variable, with what it lists TIED to the program's text (the seventh form; the later family's looks); each row that meets fmt, with fmt's text TOLD by the authors' own Lean function (tested against real Go, not proved from fmt's source: count such statements apart). THE CARD IS WHAT COUNTS. Prove the row's statement (the work); the ties are given (YthlbbngmgioamaaDoorTie.lean); close each card by the builder's one call (the guide's Derived/Test/ToyasCard.lean, 'card_holds'). Laid BY PROGRAM, IN A SANDBOX (cutbox-door.mjs). By AI agents, Wed Nov 11 2026. No macro, syntax, notation, axiom, sorry.
-/
import Derived.Test.YthlbbngmgioamaaDoorRows
import GoSem.ClaimSeven
namespace Go.Proofs.YthlbbngmgioamaaDoor
namespace Rows

/-- THE TIED CARD OF 'laws.FnExactWeightOf'. -/
def fnExactWeightOfCard : Claim7 := { stood := { row := fnExactWeightOfRow, standIns := [], harness := (true, "4e2d182fc54fae190c7b9af672f5e184dcd45d91a4eea170d85b41cc8aba4867"), looks := false }, kinds := [], alts := [], laidByText := true, laidKinds := [.data, .pinned], laidTests := true, laidLooks := .later }
def FnExactWeightOfCardSaid : Prop := Claim7.holds Tryd.pinned (.plain (OpenSpec.ofChange fnExactWeightOfSpec)) fnExactWeightOfCard

/-- THE SECOND FORM's CARD OF 'laws.FnExactWeightOf'. -/
def fnExactWeightOfUptoCard : Claim7 := { stood := { row := fnExactWeightOfUptoRow, standIns := [], harness := (true, "4e2d182fc54fae190c7b9af672f5e184dcd45d91a4eea170d85b41cc8aba4867"), looks := false }, kinds := [], alts := [], laidByText := true, laidKinds := [.data, .pinned], laidTests := true, laidLooks := .later }
def FnExactWeightOfUptoCardSaid : Prop := Claim7.holds Tryd.pinned (.plain (OpenSpec.upto fnExactWeightOfSpec)) fnExactWeightOfUptoCard
end Rows
end Go.Proofs.YthlbbngmgioamaaDoor
