/-
  No cell of these rows narrows 'for every input' (looked for: loops, veiled, ifaces, maps, wideKeys, modest, calm, conditions, laid).
  DERIVED. THE GIVEN ROWS OF THIS SEAT. 6 by the template 'for every input the law returns true; each argument reads behind the call as it read before'; 0 by the template 'total and deterministic' (their statements: YtcaineapegpoeaaTotals.lean).
  GIVEN WITH THE SEED: the statements are not yours to turn. If you find one false, say at which input.
  Laid BY PROGRAM, IN A SANDBOX (cutbox-rows.mjs): the forced cells as the released guide's own fill.sh prints them over the translation 558de446283241ff… (all of the seat's roots in one cut). By AI agents, Wed Nov 11 2026. No macro, syntax, notation, axiom, sorry.
-/
import Derived.Test.YtcaineapegpoeaaChecked
import GoSem.Claim
import GoSem.ClaimJoined
import GoSem.ClaimMapViews
import Derived.JoinedTies
import Derived.KernelRfl
namespace Go.Proofs.Ytcaineapegpoeaa
/- THE CELL 'sum', in the pinned program and in every row, IS THE sha256 OF THE DUMP (.gsa) THAT YtcaineapegpoeaaProg.lean LOADS. Nothing in Lean hashes anything: it is a label: what it is worth is what the hold of that sum in a sandbox is worth. -/
noncomputable def Try.pinned : Pinned := { name := "ytcaineapegpoeaa", sum := "558de446283241ffd27245634d0717c719081277dccd70f157cb804da0a452bf", checked := Try.checked }
namespace Rows
def none {H : Type} : Left H := { results := [], args := [] }

/-- 'laws.FnExactWinChance': WHATEVER THE INPUT: true; the input reads as it did. -/
def fnExactWinChanceSpec : ChangeSpec := { name := "fnExactWinChance", fn := fun _ => fun
  | [d1, d2, d3] => { results := [.lit (.bool true)], args := [d1, d2, d3] }
  | _ => none }
def fnExactWinChanceRow : OpenClaim := { program := "ytcaineapegpoeaa", sum := "558de446283241ffd27245634d0717c719081277dccd70f157cb804da0a452bf", func := "loop.example/g01218/laws.FnExactWinChance", spec := "fnExactWinChance", apart := false }
def FnExactWinChanceSaid : Prop := fnExactWinChanceRow.holds Try.pinned (OpenSpec.ofChange fnExactWinChanceSpec)

/-- ITS FALSE NEIGHBOUR: 'it returns false'. Refute it at one input. -/
def fnExactWinChanceWrong : ChangeSpec := { name := "fnExactWinChance", fn := fun _ => fun
  | [d1, d2, d3] => { results := [.lit (.bool false)], args := [d1, d2, d3] }
  | _ => none }
def FnExactWinChanceWrongFalsely : Prop := fnExactWinChanceRow.holds Try.pinned (OpenSpec.ofChange fnExactWinChanceWrong)

/-- 'laws.FnExactRuinChance': WHATEVER THE INPUT: true; the input reads as it did. -/
def fnExactRuinChanceSpec : ChangeSpec := { name := "fnExactRuinChance", fn := fun _ => fun
  | [d1, d2, d3] => { results := [.lit (.bool true)], args := [d1, d2, d3] }
  | _ => none }
def fnExactRuinChanceRow : OpenClaim := { program := "ytcaineapegpoeaa", sum := "558de446283241ffd27245634d0717c719081277dccd70f157cb804da0a452bf", func := "loop.example/g01218/laws.FnExactRuinChance", spec := "fnExactRuinChance", apart := false }
def FnExactRuinChanceSaid : Prop := fnExactRuinChanceRow.holds Try.pinned (OpenSpec.ofChange fnExactRuinChanceSpec)

/-- ITS FALSE NEIGHBOUR: 'it returns false'. Refute it at one input. -/
def fnExactRuinChanceWrong : ChangeSpec := { name := "fnExactRuinChance", fn := fun _ => fun
  | [d1, d2, d3] => { results := [.lit (.bool false)], args := [d1, d2, d3] }
  | _ => none }
def FnExactRuinChanceWrongFalsely : Prop := fnExactRuinChanceRow.holds Try.pinned (OpenSpec.ofChange fnExactRuinChanceWrong)

/-- 'laws.FnExactMeanHeld': WHATEVER THE INPUT: true; the input reads as it did. -/
def fnExactMeanHeldSpec : ChangeSpec := { name := "fnExactMeanHeld", fn := fun _ => fun
  | [d1, d2, d3] => { results := [.lit (.bool true)], args := [d1, d2, d3] }
  | _ => none }
def fnExactMeanHeldRow : OpenClaim := { program := "ytcaineapegpoeaa", sum := "558de446283241ffd27245634d0717c719081277dccd70f157cb804da0a452bf", func := "loop.example/g01218/laws.FnExactMeanHeld", spec := "fnExactMeanHeld", apart := false }
def FnExactMeanHeldSaid : Prop := fnExactMeanHeldRow.holds Try.pinned (OpenSpec.ofChange fnExactMeanHeldSpec)

/-- ITS FALSE NEIGHBOUR: 'it returns false'. Refute it at one input. -/
def fnExactMeanHeldWrong : ChangeSpec := { name := "fnExactMeanHeld", fn := fun _ => fun
  | [d1, d2, d3] => { results := [.lit (.bool false)], args := [d1, d2, d3] }
  | _ => none }
def FnExactMeanHeldWrongFalsely : Prop := fnExactMeanHeldRow.holds Try.pinned (OpenSpec.ofChange fnExactMeanHeldWrong)

/-- 'laws.FnExactMeanGames': WHATEVER THE INPUT: true; the input reads as it did. -/
def fnExactMeanGamesSpec : ChangeSpec := { name := "fnExactMeanGames", fn := fun _ => fun
  | [d1, d2, d3] => { results := [.lit (.bool true)], args := [d1, d2, d3] }
  | _ => none }
def fnExactMeanGamesRow : OpenClaim := { program := "ytcaineapegpoeaa", sum := "558de446283241ffd27245634d0717c719081277dccd70f157cb804da0a452bf", func := "loop.example/g01218/laws.FnExactMeanGames", spec := "fnExactMeanGames", apart := false }
def FnExactMeanGamesSaid : Prop := fnExactMeanGamesRow.holds Try.pinned (OpenSpec.ofChange fnExactMeanGamesSpec)

/-- ITS FALSE NEIGHBOUR: 'it returns false'. Refute it at one input. -/
def fnExactMeanGamesWrong : ChangeSpec := { name := "fnExactMeanGames", fn := fun _ => fun
  | [d1, d2, d3] => { results := [.lit (.bool false)], args := [d1, d2, d3] }
  | _ => none }
def FnExactMeanGamesWrongFalsely : Prop := fnExactMeanGamesRow.holds Try.pinned (OpenSpec.ofChange fnExactMeanGamesWrong)

/-- 'laws.FnExactFirstWonOfWinners': WHATEVER THE INPUT: true; the input reads as it did. -/
def fnExactFirstWonOfWinnersSpec : ChangeSpec := { name := "fnExactFirstWonOfWinners", fn := fun _ => fun
  | [d1, d2, d3] => { results := [.lit (.bool true)], args := [d1, d2, d3] }
  | _ => none }
def fnExactFirstWonOfWinnersRow : OpenClaim := { program := "ytcaineapegpoeaa", sum := "558de446283241ffd27245634d0717c719081277dccd70f157cb804da0a452bf", func := "loop.example/g01218/laws.FnExactFirstWonOfWinners", spec := "fnExactFirstWonOfWinners", apart := false }
def FnExactFirstWonOfWinnersSaid : Prop := fnExactFirstWonOfWinnersRow.holds Try.pinned (OpenSpec.ofChange fnExactFirstWonOfWinnersSpec)

/-- ITS FALSE NEIGHBOUR: 'it returns false'. Refute it at one input. -/
def fnExactFirstWonOfWinnersWrong : ChangeSpec := { name := "fnExactFirstWonOfWinners", fn := fun _ => fun
  | [d1, d2, d3] => { results := [.lit (.bool false)], args := [d1, d2, d3] }
  | _ => none }
def FnExactFirstWonOfWinnersWrongFalsely : Prop := fnExactFirstWonOfWinnersRow.holds Try.pinned (OpenSpec.ofChange fnExactFirstWonOfWinnersWrong)

/-- 'laws.FnExactEverRuined': WHATEVER THE INPUT: true; the input reads as it did. -/
def fnExactEverRuinedSpec : ChangeSpec := { name := "fnExactEverRuined", fn := fun _ => fun
  | [d1, d2] => { results := [.lit (.bool true)], args := [d1, d2] }
  | _ => none }
def fnExactEverRuinedRow : OpenClaim := { program := "ytcaineapegpoeaa", sum := "558de446283241ffd27245634d0717c719081277dccd70f157cb804da0a452bf", func := "loop.example/g01218/laws.FnExactEverRuined", spec := "fnExactEverRuined", apart := false }
def FnExactEverRuinedSaid : Prop := fnExactEverRuinedRow.holds Try.pinned (OpenSpec.ofChange fnExactEverRuinedSpec)

/-- ITS FALSE NEIGHBOUR: 'it returns false'. Refute it at one input. -/
def fnExactEverRuinedWrong : ChangeSpec := { name := "fnExactEverRuined", fn := fun _ => fun
  | [d1, d2] => { results := [.lit (.bool false)], args := [d1, d2] }
  | _ => none }
def FnExactEverRuinedWrongFalsely : Prop := fnExactEverRuinedRow.holds Try.pinned (OpenSpec.ofChange fnExactEverRuinedWrong)

/- THE SECOND FORM. 'bulk': how many values and letters a reading holds, each counted each time it is reached (what is shared counts as often as it is met; a slice's spare places count too). A statement '..UptoSaid' is the law's where the arguments, and the package variables that the reading takes, are together of bulk at most 1048576: NARROWER than '..Said'. Prove '..Said' where nothing that the law and all that it calls make is longer than what came in: it says more and counts as full. Else prove '..UptoSaid'. A law counts once. -/
mutual
def uptoBulk {H : Type} : DataW H → Nat
  | .lit (.string bytes) => bytes.length + 1
  | .lit _ => 1
  | .nil => 1
  | .ptr d => uptoBulk d + 1
  | .slice elems spare => uptoBulkAll elems + uptoBulkAll spare + 1
  | .agg parts => uptoBulkAll parts + 1
  | .iface _ d => uptoBulk d + 1
  | .map entries => uptoBulkEntries entries + 1
  | .held _ => 1
def uptoBulkAll {H : Type} : List (DataW H) → Nat
  | [] => 0
  | d :: r => uptoBulk d + uptoBulkAll r
def uptoBulkEntries {H : Type} : List (Lit × DataW H) → Nat
  | [] => 0
  | x :: r => uptoBulkEntry x + uptoBulkEntries r
def uptoBulkEntry {H : Type} : Lit × DataW H → Nat
  | (.string bytes, d) => bytes.length + uptoBulk d + 1
  | (_, d) => uptoBulk d + 1
 end
def uptoSmall : (H : Type) → List (DataW H) → Bool := fun _ ds => decide (uptoBulkAll ds ≤ 1048576)
def OpenSpec.upto (s : _root_.Go.ChangeSpec) : _root_.Go.OpenSpec := { _root_.Go.OpenSpec.ofChange s with cond := some uptoSmall }

/-- 'laws.FnExactWinChance', WHERE WHAT IT READS IS OF BULK AT MOST 1048576: true; the input reads as it did. -/
def fnExactWinChanceUptoRow : OpenClaim := { program := "ytcaineapegpoeaa", sum := "558de446283241ffd27245634d0717c719081277dccd70f157cb804da0a452bf", func := "loop.example/g01218/laws.FnExactWinChance", spec := "fnExactWinChance", apart := false, narrowed := true }
def FnExactWinChanceUptoSaid : Prop := fnExactWinChanceUptoRow.holds Try.pinned (OpenSpec.upto fnExactWinChanceSpec)

/-- 'laws.FnExactRuinChance', WHERE WHAT IT READS IS OF BULK AT MOST 1048576: true; the input reads as it did. -/
def fnExactRuinChanceUptoRow : OpenClaim := { program := "ytcaineapegpoeaa", sum := "558de446283241ffd27245634d0717c719081277dccd70f157cb804da0a452bf", func := "loop.example/g01218/laws.FnExactRuinChance", spec := "fnExactRuinChance", apart := false, narrowed := true }
def FnExactRuinChanceUptoSaid : Prop := fnExactRuinChanceUptoRow.holds Try.pinned (OpenSpec.upto fnExactRuinChanceSpec)

/-- 'laws.FnExactMeanHeld', WHERE WHAT IT READS IS OF BULK AT MOST 1048576: true; the input reads as it did. -/
def fnExactMeanHeldUptoRow : OpenClaim := { program := "ytcaineapegpoeaa", sum := "558de446283241ffd27245634d0717c719081277dccd70f157cb804da0a452bf", func := "loop.example/g01218/laws.FnExactMeanHeld", spec := "fnExactMeanHeld", apart := false, narrowed := true }
def FnExactMeanHeldUptoSaid : Prop := fnExactMeanHeldUptoRow.holds Try.pinned (OpenSpec.upto fnExactMeanHeldSpec)

/-- 'laws.FnExactMeanGames', WHERE WHAT IT READS IS OF BULK AT MOST 1048576: true; the input reads as it did. -/
def fnExactMeanGamesUptoRow : OpenClaim := { program := "ytcaineapegpoeaa", sum := "558de446283241ffd27245634d0717c719081277dccd70f157cb804da0a452bf", func := "loop.example/g01218/laws.FnExactMeanGames", spec := "fnExactMeanGames", apart := false, narrowed := true }
def FnExactMeanGamesUptoSaid : Prop := fnExactMeanGamesUptoRow.holds Try.pinned (OpenSpec.upto fnExactMeanGamesSpec)

/-- 'laws.FnExactFirstWonOfWinners', WHERE WHAT IT READS IS OF BULK AT MOST 1048576: true; the input reads as it did. -/
def fnExactFirstWonOfWinnersUptoRow : OpenClaim := { program := "ytcaineapegpoeaa", sum := "558de446283241ffd27245634d0717c719081277dccd70f157cb804da0a452bf", func := "loop.example/g01218/laws.FnExactFirstWonOfWinners", spec := "fnExactFirstWonOfWinners", apart := false, narrowed := true }
def FnExactFirstWonOfWinnersUptoSaid : Prop := fnExactFirstWonOfWinnersUptoRow.holds Try.pinned (OpenSpec.upto fnExactFirstWonOfWinnersSpec)

/-- 'laws.FnExactEverRuined', WHERE WHAT IT READS IS OF BULK AT MOST 1048576: true; the input reads as it did. -/
def fnExactEverRuinedUptoRow : OpenClaim := { program := "ytcaineapegpoeaa", sum := "558de446283241ffd27245634d0717c719081277dccd70f157cb804da0a452bf", func := "loop.example/g01218/laws.FnExactEverRuined", spec := "fnExactEverRuined", apart := false, narrowed := true }
def FnExactEverRuinedUptoSaid : Prop := fnExactEverRuinedUptoRow.holds Try.pinned (OpenSpec.upto fnExactEverRuinedSpec)

end Rows
end Go.Proofs.Ytcaineapegpoeaa
