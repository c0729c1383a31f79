/-
  DERIVED. GIVEN WITH THE SEED: THE CARDS: each row of YtpijameimeihgaaDoorRows.lean that lists a variable, with what it lists TIED to the program's text (the seventh form; the later family's looks); each row that meets fmt, with fmt's text TOLD by the authors' own Lean function (tested against real Go, not proved from fmt's source: count such statements apart). THE CARD IS WHAT COUNTS. Prove the row's statement (the work); the ties are given (YtpijameimeihgaaDoorTie.lean); close each card by the builder's one call (the guide's Derived/Test/ToyasCard.lean, 'card_holds'). Laid BY PROGRAM, IN A SANDBOX (cutbox-door.mjs). By AI agents, Wed Nov 11 2026. No macro, syntax, notation, axiom, sorry.
-/
import Derived.Test.YtpijameimeihgaaDoorRows
import GoSem.ClaimSeven
namespace Go.Proofs.YtpijameimeihgaaDoor
namespace Rows

/-- THE TIED CARD OF 'laws.FnExactIsBetween'. -/
def fnExactIsBetweenCard : Claim7 := { stood := { row := fnExactIsBetweenRow, standIns := [], harness := (true, "704b4026ae197f479df4788c838f6271af62715bb0c1940d068e3795dc87c137"), looks := false }, kinds := [], alts := [], laidByText := true, laidKinds := [.data, .pinned], laidTests := true, laidLooks := .later }
def FnExactIsBetweenCardSaid : Prop := Claim7.holds Tryd.pinned (.plain (OpenSpec.ofChange fnExactIsBetweenSpec)) fnExactIsBetweenCard

/-- THE TIED CARD OF 'laws.FnExactFirstAt'. -/
def fnExactFirstAtCard : Claim7 := { stood := { row := fnExactFirstAtRow, standIns := [], harness := (true, "704b4026ae197f479df4788c838f6271af62715bb0c1940d068e3795dc87c137"), looks := false }, kinds := [], alts := [], laidByText := true, laidKinds := [.data, .pinned], laidTests := true, laidLooks := .later }
def FnExactFirstAtCardSaid : Prop := Claim7.holds Tryd.pinned (.plain (OpenSpec.ofChange fnExactFirstAtSpec)) fnExactFirstAtCard

/-- THE TIED CARD OF 'laws.FnExactLastAt'. -/
def fnExactLastAtCard : Claim7 := { stood := { row := fnExactLastAtRow, standIns := [], harness := (true, "704b4026ae197f479df4788c838f6271af62715bb0c1940d068e3795dc87c137"), looks := false }, kinds := [], alts := [], laidByText := true, laidKinds := [.data, .pinned], laidTests := true, laidLooks := .later }
def FnExactLastAtCardSaid : Prop := Claim7.holds Tryd.pinned (.plain (OpenSpec.ofChange fnExactLastAtSpec)) fnExactLastAtCard

/-- THE TIED CARD OF 'laws.FnExactTouchText'. -/
def fnExactTouchTextCard : Claim7 := { stood := { row := fnExactTouchTextRow, standIns := [], harness := (true, "704b4026ae197f479df4788c838f6271af62715bb0c1940d068e3795dc87c137"), looks := false }, kinds := [], alts := [], laidByText := true, laidKinds := [.data, .pinned], laidTests := true, laidLooks := .later }
def FnExactTouchTextCardSaid : Prop := Claim7.holds Tryd.pinned (.plain (OpenSpec.ofChange fnExactTouchTextSpec)) fnExactTouchTextCard

/-- THE TIED CARD OF 'laws.FnExactIsMixed'. -/
def fnExactIsMixedCard : Claim7 := { stood := { row := fnExactIsMixedRow, standIns := [], harness := (true, "704b4026ae197f479df4788c838f6271af62715bb0c1940d068e3795dc87c137"), looks := false }, kinds := [], alts := [], laidByText := true, laidKinds := [.data, .pinned], laidTests := true, laidLooks := .later }
def FnExactIsMixedCardSaid : Prop := Claim7.holds Tryd.pinned (.plain (OpenSpec.ofChange fnExactIsMixedSpec)) fnExactIsMixedCard

/-- THE TIED CARD OF 'laws.FnExactMixedOfPath'. -/
def fnExactMixedOfPathCard : Claim7 := { stood := { row := fnExactMixedOfPathRow, standIns := [], harness := (true, "704b4026ae197f479df4788c838f6271af62715bb0c1940d068e3795dc87c137"), looks := false }, kinds := [], alts := [], laidByText := true, laidKinds := [.data, .pinned], laidTests := true, laidLooks := .later }
def FnExactMixedOfPathCardSaid : Prop := Claim7.holds Tryd.pinned (.plain (OpenSpec.ofChange fnExactMixedOfPathSpec)) fnExactMixedOfPathCard

/-- THE SECOND FORM's CARD OF 'laws.FnExactIsBetween'. -/
def fnExactIsBetweenUptoCard : Claim7 := { stood := { row := fnExactIsBetweenUptoRow, standIns := [], harness := (true, "704b4026ae197f479df4788c838f6271af62715bb0c1940d068e3795dc87c137"), looks := false }, kinds := [], alts := [], laidByText := true, laidKinds := [.data, .pinned], laidTests := true, laidLooks := .later }
def FnExactIsBetweenUptoCardSaid : Prop := Claim7.holds Tryd.pinned (.plain (OpenSpec.upto fnExactIsBetweenSpec)) fnExactIsBetweenUptoCard

/-- THE SECOND FORM's CARD OF 'laws.FnExactFirstAt'. -/
def fnExactFirstAtUptoCard : Claim7 := { stood := { row := fnExactFirstAtUptoRow, standIns := [], harness := (true, "704b4026ae197f479df4788c838f6271af62715bb0c1940d068e3795dc87c137"), looks := false }, kinds := [], alts := [], laidByText := true, laidKinds := [.data, .pinned], laidTests := true, laidLooks := .later }
def FnExactFirstAtUptoCardSaid : Prop := Claim7.holds Tryd.pinned (.plain (OpenSpec.upto fnExactFirstAtSpec)) fnExactFirstAtUptoCard

/-- THE SECOND FORM's CARD OF 'laws.FnExactLastAt'. -/
def fnExactLastAtUptoCard : Claim7 := { stood := { row := fnExactLastAtUptoRow, standIns := [], harness := (true, "704b4026ae197f479df4788c838f6271af62715bb0c1940d068e3795dc87c137"), looks := false }, kinds := [], alts := [], laidByText := true, laidKinds := [.data, .pinned], laidTests := true, laidLooks := .later }
def FnExactLastAtUptoCardSaid : Prop := Claim7.holds Tryd.pinned (.plain (OpenSpec.upto fnExactLastAtSpec)) fnExactLastAtUptoCard

/-- THE SECOND FORM's CARD OF 'laws.FnExactTouchText'. -/
def fnExactTouchTextUptoCard : Claim7 := { stood := { row := fnExactTouchTextUptoRow, standIns := [], harness := (true, "704b4026ae197f479df4788c838f6271af62715bb0c1940d068e3795dc87c137"), looks := false }, kinds := [], alts := [], laidByText := true, laidKinds := [.data, .pinned], laidTests := true, laidLooks := .later }
def FnExactTouchTextUptoCardSaid : Prop := Claim7.holds Tryd.pinned (.plain (OpenSpec.upto fnExactTouchTextSpec)) fnExactTouchTextUptoCard

/-- THE SECOND FORM's CARD OF 'laws.FnExactIsMixed'. -/
def fnExactIsMixedUptoCard : Claim7 := { stood := { row := fnExactIsMixedUptoRow, standIns := [], harness := (true, "704b4026ae197f479df4788c838f6271af62715bb0c1940d068e3795dc87c137"), looks := false }, kinds := [], alts := [], laidByText := true, laidKinds := [.data, .pinned], laidTests := true, laidLooks := .later }
def FnExactIsMixedUptoCardSaid : Prop := Claim7.holds Tryd.pinned (.plain (OpenSpec.upto fnExactIsMixedSpec)) fnExactIsMixedUptoCard

/-- THE SECOND FORM's CARD OF 'laws.FnExactMixedOfPath'. -/
def fnExactMixedOfPathUptoCard : Claim7 := { stood := { row := fnExactMixedOfPathUptoRow, standIns := [], harness := (true, "704b4026ae197f479df4788c838f6271af62715bb0c1940d068e3795dc87c137"), looks := false }, kinds := [], alts := [], laidByText := true, laidKinds := [.data, .pinned], laidTests := true, laidLooks := .later }
def FnExactMixedOfPathUptoCardSaid : Prop := Claim7.holds Tryd.pinned (.plain (OpenSpec.upto fnExactMixedOfPathSpec)) fnExactMixedOfPathUptoCard
end Rows
end Go.Proofs.YtpijameimeihgaaDoor
