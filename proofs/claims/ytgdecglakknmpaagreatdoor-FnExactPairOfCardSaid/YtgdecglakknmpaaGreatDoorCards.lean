/-
  DERIVED. GIVEN WITH THE SEED: THE CARDS: each row of YtgdecglakknmpaaGreatDoorRows.lean that lists a variable, with what it lists TIED to the program's text (the seventh form; the later family's looks); each row that meets fmt, with fmt's text TOLD by the authors' own Lean function (tested against real Go, not proved from fmt's source: count such statements apart). THE CARD IS WHAT COUNTS. Prove the row's statement (the work); the ties are given (YtgdecglakknmpaaGreatDoorTie.lean); close each card by the builder's one call (the guide's Derived/Test/ToyasCard.lean, 'card_holds'). Laid BY PROGRAM, IN A SANDBOX (cutbox-door.mjs). By AI agents, Wed Nov 11 2026. No macro, syntax, notation, axiom, sorry.
-/
import Derived.Test.YtgdecglakknmpaaGreatDoorRows
import GoSem.ClaimSeven
namespace Go.Proofs.YtgdecglakknmpaaGreatDoor
namespace Rows

/-- THE TIED CARD OF 'laws.FnExactReflectBefore'. -/
def fnExactReflectBeforeCard : Claim7 := { stood := { row := fnExactReflectBeforeRow, standIns := [], harness := (true, "5bcd3cf5c7456378da8258f74d9aa837b996fcbcf5c241f4ec6be73876367c3e"), looks := true }, kinds := [], alts := [], laidByText := true, laidKinds := [.data, .pinned], laidTests := true, laidLooks := .later }
def FnExactReflectBeforeCardSaid : Prop := Claim7.holds Tryz.pinned (.plain (OpenSpec.ofChange fnExactReflectBeforeSpec)) fnExactReflectBeforeCard

/-- THE TIED CARD OF 'laws.FnExactReflectBehind'. -/
def fnExactReflectBehindCard : Claim7 := { stood := { row := fnExactReflectBehindRow, standIns := [], harness := (true, "5bcd3cf5c7456378da8258f74d9aa837b996fcbcf5c241f4ec6be73876367c3e"), looks := true }, kinds := [], alts := [], laidByText := true, laidKinds := [.data, .pinned], laidTests := true, laidLooks := .later }
def FnExactReflectBehindCardSaid : Prop := Claim7.holds Tryz.pinned (.plain (OpenSpec.ofChange fnExactReflectBehindSpec)) fnExactReflectBehindCard

/-- THE TIED CARD OF 'laws.FnExactPairOf'. -/
def fnExactPairOfCard : Claim7 := { stood := { row := fnExactPairOfRow, standIns := [], harness := (true, "5bcd3cf5c7456378da8258f74d9aa837b996fcbcf5c241f4ec6be73876367c3e"), looks := true }, kinds := [], alts := [], laidByText := true, laidKinds := [.data, .pinned], laidTests := true, laidLooks := .later }
def FnExactPairOfCardSaid : Prop := Claim7.holds Tryz.pinned (.plain (OpenSpec.ofChange fnExactPairOfSpec)) fnExactPairOfCard

/-- THE SECOND FORM's CARD OF 'laws.FnExactReflectBefore'. -/
def fnExactReflectBeforeUptoCard : Claim7 := { stood := { row := fnExactReflectBeforeUptoRow, standIns := [], harness := (true, "5bcd3cf5c7456378da8258f74d9aa837b996fcbcf5c241f4ec6be73876367c3e"), looks := true }, kinds := [], alts := [], laidByText := true, laidKinds := [.data, .pinned], laidTests := true, laidLooks := .later }
def FnExactReflectBeforeUptoCardSaid : Prop := Claim7.holds Tryz.pinned (.plain (OpenSpec.upto fnExactReflectBeforeSpec)) fnExactReflectBeforeUptoCard

/-- THE SECOND FORM's CARD OF 'laws.FnExactReflectBehind'. -/
def fnExactReflectBehindUptoCard : Claim7 := { stood := { row := fnExactReflectBehindUptoRow, standIns := [], harness := (true, "5bcd3cf5c7456378da8258f74d9aa837b996fcbcf5c241f4ec6be73876367c3e"), looks := true }, kinds := [], alts := [], laidByText := true, laidKinds := [.data, .pinned], laidTests := true, laidLooks := .later }
def FnExactReflectBehindUptoCardSaid : Prop := Claim7.holds Tryz.pinned (.plain (OpenSpec.upto fnExactReflectBehindSpec)) fnExactReflectBehindUptoCard

/-- THE SECOND FORM's CARD OF 'laws.FnExactPairOf'. -/
def fnExactPairOfUptoCard : Claim7 := { stood := { row := fnExactPairOfUptoRow, standIns := [], harness := (true, "5bcd3cf5c7456378da8258f74d9aa837b996fcbcf5c241f4ec6be73876367c3e"), looks := true }, kinds := [], alts := [], laidByText := true, laidKinds := [.data, .pinned], laidTests := true, laidLooks := .later }
def FnExactPairOfUptoCardSaid : Prop := Claim7.holds Tryz.pinned (.plain (OpenSpec.upto fnExactPairOfSpec)) fnExactPairOfUptoCard
end Rows
end Go.Proofs.YtgdecglakknmpaaGreatDoor
