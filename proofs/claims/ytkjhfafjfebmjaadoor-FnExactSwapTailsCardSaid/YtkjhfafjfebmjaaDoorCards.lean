/-
  DERIVED. GIVEN WITH THE SEED: THE CARDS: each row of YtkjhfafjfebmjaaDoorRows.lean that lists a variable, with what it lists TIED to the program's text (the seventh form; the later family's looks); each row that meets fmt, with fmt's text TOLD by the authors' own Lean function (tested against real Go, not proved from fmt's source: count such statements apart). THE CARD IS WHAT COUNTS. Prove the row's statement (the work); the ties are given (YtkjhfafjfebmjaaDoorTie.lean); close each card by the builder's one call (the guide's Derived/Test/ToyasCard.lean, 'card_holds'). Laid BY PROGRAM, IN A SANDBOX (cutbox-door.mjs). By AI agents, Wed Nov 11 2026. No macro, syntax, notation, axiom, sorry.
-/
import Derived.Test.YtkjhfafjfebmjaaDoorRows
import GoSem.ClaimSeven
namespace Go.Proofs.YtkjhfafjfebmjaaDoor
namespace Rows

/-- THE TIED CARD OF 'laws.FnExactIsWay'. -/
def fnExactIsWayCard : Claim7 := { stood := { row := fnExactIsWayRow, standIns := [], harness := (true, "580314836e4d06203258e7a6343d5daecdb141c96daea868ea1b61cf8f269dae"), looks := false }, kinds := [], alts := [], laidByText := true, laidKinds := [.data, .pinned], laidTests := true, laidLooks := .later }
def FnExactIsWayCardSaid : Prop := Claim7.holds Tryd.pinned (.plain (OpenSpec.ofChange fnExactIsWaySpec)) fnExactIsWayCard

/-- THE TIED CARD OF 'laws.FnExactEndOfWay'. -/
def fnExactEndOfWayCard : Claim7 := { stood := { row := fnExactEndOfWayRow, standIns := [], harness := (true, "580314836e4d06203258e7a6343d5daecdb141c96daea868ea1b61cf8f269dae"), looks := false }, kinds := [], alts := [], laidByText := true, laidKinds := [.data, .pinned], laidTests := true, laidLooks := .later }
def FnExactEndOfWayCardSaid : Prop := Claim7.holds Tryd.pinned (.plain (OpenSpec.ofChange fnExactEndOfWaySpec)) fnExactEndOfWayCard

/-- THE TIED CARD OF 'laws.FnExactCellsOfWay'. -/
def fnExactCellsOfWayCard : Claim7 := { stood := { row := fnExactCellsOfWayRow, standIns := [], harness := (true, "580314836e4d06203258e7a6343d5daecdb141c96daea868ea1b61cf8f269dae"), looks := false }, kinds := [], alts := [], laidByText := true, laidKinds := [.data, .pinned], laidTests := true, laidLooks := .later }
def FnExactCellsOfWayCardSaid : Prop := Claim7.holds Tryd.pinned (.plain (OpenSpec.ofChange fnExactCellsOfWaySpec)) fnExactCellsOfWayCard

/-- THE TIED CARD OF 'laws.FnExactDoMeet'. -/
def fnExactDoMeetCard : Claim7 := { stood := { row := fnExactDoMeetRow, standIns := [], harness := (true, "580314836e4d06203258e7a6343d5daecdb141c96daea868ea1b61cf8f269dae"), looks := false }, kinds := [], alts := [], laidByText := true, laidKinds := [.data, .pinned], laidTests := true, laidLooks := .later }
def FnExactDoMeetCardSaid : Prop := Claim7.holds Tryd.pinned (.plain (OpenSpec.ofChange fnExactDoMeetSpec)) fnExactDoMeetCard

/-- THE TIED CARD OF 'laws.FnExactFirstMeetingOf'. -/
def fnExactFirstMeetingOfCard : Claim7 := { stood := { row := fnExactFirstMeetingOfRow, standIns := [], harness := (true, "580314836e4d06203258e7a6343d5daecdb141c96daea868ea1b61cf8f269dae"), looks := false }, kinds := [], alts := [], laidByText := true, laidKinds := [.data, .pinned], laidTests := true, laidLooks := .later }
def FnExactFirstMeetingOfCardSaid : Prop := Claim7.holds Tryd.pinned (.plain (OpenSpec.ofChange fnExactFirstMeetingOfSpec)) fnExactFirstMeetingOfCard

/-- THE TIED CARD OF 'laws.FnExactSwapTails'. -/
def fnExactSwapTailsCard : Claim7 := { stood := { row := fnExactSwapTailsRow, standIns := [], harness := (true, "580314836e4d06203258e7a6343d5daecdb141c96daea868ea1b61cf8f269dae"), looks := false }, kinds := [], alts := [], laidByText := true, laidKinds := [.data, .pinned], laidTests := true, laidLooks := .later }
def FnExactSwapTailsCardSaid : Prop := Claim7.holds Tryd.pinned (.plain (OpenSpec.ofChange fnExactSwapTailsSpec)) fnExactSwapTailsCard

/-- THE SECOND FORM's CARD OF 'laws.FnExactIsWay'. -/
def fnExactIsWayUptoCard : Claim7 := { stood := { row := fnExactIsWayUptoRow, standIns := [], harness := (true, "580314836e4d06203258e7a6343d5daecdb141c96daea868ea1b61cf8f269dae"), looks := false }, kinds := [], alts := [], laidByText := true, laidKinds := [.data, .pinned], laidTests := true, laidLooks := .later }
def FnExactIsWayUptoCardSaid : Prop := Claim7.holds Tryd.pinned (.plain (OpenSpec.upto fnExactIsWaySpec)) fnExactIsWayUptoCard

/-- THE SECOND FORM's CARD OF 'laws.FnExactEndOfWay'. -/
def fnExactEndOfWayUptoCard : Claim7 := { stood := { row := fnExactEndOfWayUptoRow, standIns := [], harness := (true, "580314836e4d06203258e7a6343d5daecdb141c96daea868ea1b61cf8f269dae"), looks := false }, kinds := [], alts := [], laidByText := true, laidKinds := [.data, .pinned], laidTests := true, laidLooks := .later }
def FnExactEndOfWayUptoCardSaid : Prop := Claim7.holds Tryd.pinned (.plain (OpenSpec.upto fnExactEndOfWaySpec)) fnExactEndOfWayUptoCard

/-- THE SECOND FORM's CARD OF 'laws.FnExactCellsOfWay'. -/
def fnExactCellsOfWayUptoCard : Claim7 := { stood := { row := fnExactCellsOfWayUptoRow, standIns := [], harness := (true, "580314836e4d06203258e7a6343d5daecdb141c96daea868ea1b61cf8f269dae"), looks := false }, kinds := [], alts := [], laidByText := true, laidKinds := [.data, .pinned], laidTests := true, laidLooks := .later }
def FnExactCellsOfWayUptoCardSaid : Prop := Claim7.holds Tryd.pinned (.plain (OpenSpec.upto fnExactCellsOfWaySpec)) fnExactCellsOfWayUptoCard

/-- THE SECOND FORM's CARD OF 'laws.FnExactDoMeet'. -/
def fnExactDoMeetUptoCard : Claim7 := { stood := { row := fnExactDoMeetUptoRow, standIns := [], harness := (true, "580314836e4d06203258e7a6343d5daecdb141c96daea868ea1b61cf8f269dae"), looks := false }, kinds := [], alts := [], laidByText := true, laidKinds := [.data, .pinned], laidTests := true, laidLooks := .later }
def FnExactDoMeetUptoCardSaid : Prop := Claim7.holds Tryd.pinned (.plain (OpenSpec.upto fnExactDoMeetSpec)) fnExactDoMeetUptoCard

/-- THE SECOND FORM's CARD OF 'laws.FnExactFirstMeetingOf'. -/
def fnExactFirstMeetingOfUptoCard : Claim7 := { stood := { row := fnExactFirstMeetingOfUptoRow, standIns := [], harness := (true, "580314836e4d06203258e7a6343d5daecdb141c96daea868ea1b61cf8f269dae"), looks := false }, kinds := [], alts := [], laidByText := true, laidKinds := [.data, .pinned], laidTests := true, laidLooks := .later }
def FnExactFirstMeetingOfUptoCardSaid : Prop := Claim7.holds Tryd.pinned (.plain (OpenSpec.upto fnExactFirstMeetingOfSpec)) fnExactFirstMeetingOfUptoCard

/-- THE SECOND FORM's CARD OF 'laws.FnExactSwapTails'. -/
def fnExactSwapTailsUptoCard : Claim7 := { stood := { row := fnExactSwapTailsUptoRow, standIns := [], harness := (true, "580314836e4d06203258e7a6343d5daecdb141c96daea868ea1b61cf8f269dae"), looks := false }, kinds := [], alts := [], laidByText := true, laidKinds := [.data, .pinned], laidTests := true, laidLooks := .later }
def FnExactSwapTailsUptoCardSaid : Prop := Claim7.holds Tryd.pinned (.plain (OpenSpec.upto fnExactSwapTailsSpec)) fnExactSwapTailsUptoCard
end Rows
end Go.Proofs.YtkjhfafjfebmjaaDoor
