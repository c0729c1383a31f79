/-
  No cell of these rows narrows 'for every input' (looked for: loops, veiled, ifaces, maps, wideKeys, modest, calm, conditions, laid).
  DERIVED. THE GIVEN ROWS OF THIS SEAT. 6 by the template 'for every input the law returns true; each argument reads behind the call as it read before'; 0 by the template 'total and deterministic' (their statements: YtdfalmgiicbnhaaTotals.lean).
  GIVEN WITH THE SEED: the statements are not yours to turn. If you find one false, say at which input.
  Laid BY PROGRAM, IN A SANDBOX (cutbox-rows.mjs): the forced cells as the released guide's own fill.sh prints them over the translation d0ffe53bf5c23e1d… (all of the seat's roots in one cut). By AI agents, Wed Nov 11 2026. No macro, syntax, notation, axiom, sorry.
-/
import Derived.Test.YtdfalmgiicbnhaaChecked
import GoSem.Claim
import GoSem.ClaimJoined
import GoSem.ClaimMapViews
import Derived.JoinedTies
import Derived.KernelRfl
namespace Go.Proofs.Ytdfalmgiicbnhaa
/- THE CELL 'sum', in the pinned program and in every row, IS THE sha256 OF THE DUMP (.gsa) THAT YtdfalmgiicbnhaaProg.lean LOADS. Nothing in Lean hashes anything: it is a label: what it is worth is what the hold of that sum in a sandbox is worth. -/
noncomputable def Try.pinned : Pinned := { name := "ytdfalmgiicbnhaa", sum := "d0ffe53bf5c23e1d782a33b88d1a0e87f69c14682271954d4c9f25ec770e9a73", checked := Try.checked }
namespace Rows
def none {H : Type} : Left H := { results := [], args := [] }

/-- 'laws.FnExactIsCell': WHATEVER THE INPUT: true; the input reads as it did. -/
def fnExactIsCellSpec : ChangeSpec := { name := "fnExactIsCell", fn := fun _ => fun
  | [d] => { results := [.lit (.bool true)], args := [d] }
  | _ => none }
def fnExactIsCellRow : OpenClaim := { program := "ytdfalmgiicbnhaa", sum := "d0ffe53bf5c23e1d782a33b88d1a0e87f69c14682271954d4c9f25ec770e9a73", func := "loop.example/g01218/laws.FnExactIsCell", spec := "fnExactIsCell", apart := false }
def FnExactIsCellSaid : Prop := fnExactIsCellRow.holds Try.pinned (OpenSpec.ofChange fnExactIsCellSpec)

/-- ITS FALSE NEIGHBOUR: 'it returns false'. Refute it at one input. -/
def fnExactIsCellWrong : ChangeSpec := { name := "fnExactIsCell", fn := fun _ => fun
  | [d] => { results := [.lit (.bool false)], args := [d] }
  | _ => none }
def FnExactIsCellWrongFalsely : Prop := fnExactIsCellRow.holds Try.pinned (OpenSpec.ofChange fnExactIsCellWrong)

/-- 'laws.FnExactCountWins': WHATEVER THE INPUT: true; the input reads as it did. -/
def fnExactCountWinsSpec : ChangeSpec := { name := "fnExactCountWins", fn := fun _ => fun
  | [d1, d2, d3] => { results := [.lit (.bool true)], args := [d1, d2, d3] }
  | _ => none }
def fnExactCountWinsRow : OpenClaim := { program := "ytdfalmgiicbnhaa", sum := "d0ffe53bf5c23e1d782a33b88d1a0e87f69c14682271954d4c9f25ec770e9a73", func := "loop.example/g01218/laws.FnExactCountWins", spec := "fnExactCountWins", apart := false }
def FnExactCountWinsSaid : Prop := fnExactCountWinsRow.holds Try.pinned (OpenSpec.ofChange fnExactCountWinsSpec)

/-- ITS FALSE NEIGHBOUR: 'it returns false'. Refute it at one input. -/
def fnExactCountWinsWrong : ChangeSpec := { name := "fnExactCountWins", fn := fun _ => fun
  | [d1, d2, d3] => { results := [.lit (.bool false)], args := [d1, d2, d3] }
  | _ => none }
def FnExactCountWinsWrongFalsely : Prop := fnExactCountWinsRow.holds Try.pinned (OpenSpec.ofChange fnExactCountWinsWrong)

/-- 'laws.FnExactIsChance': WHATEVER THE INPUT: true; the input reads as it did. -/
def fnExactIsChanceSpec : ChangeSpec := { name := "fnExactIsChance", fn := fun _ => fun
  | [d] => { results := [.lit (.bool true)], args := [d] }
  | _ => none }
def fnExactIsChanceRow : OpenClaim := { program := "ytdfalmgiicbnhaa", sum := "d0ffe53bf5c23e1d782a33b88d1a0e87f69c14682271954d4c9f25ec770e9a73", func := "loop.example/g01218/laws.FnExactIsChance", spec := "fnExactIsChance", apart := false }
def FnExactIsChanceSaid : Prop := fnExactIsChanceRow.holds Try.pinned (OpenSpec.ofChange fnExactIsChanceSpec)

/-- ITS FALSE NEIGHBOUR: 'it returns false'. Refute it at one input. -/
def fnExactIsChanceWrong : ChangeSpec := { name := "fnExactIsChance", fn := fun _ => fun
  | [d] => { results := [.lit (.bool false)], args := [d] }
  | _ => none }
def FnExactIsChanceWrongFalsely : Prop := fnExactIsChanceRow.holds Try.pinned (OpenSpec.ofChange fnExactIsChanceWrong)

/-- 'laws.FnExactFairVisits': WHATEVER THE INPUT: true; the input reads as it did. -/
def fnExactFairVisitsSpec : ChangeSpec := { name := "fnExactFairVisits", fn := fun _ => fun
  | [d1, d2, d3] => { results := [.lit (.bool true)], args := [d1, d2, d3] }
  | _ => none }
def fnExactFairVisitsRow : OpenClaim := { program := "ytdfalmgiicbnhaa", sum := "d0ffe53bf5c23e1d782a33b88d1a0e87f69c14682271954d4c9f25ec770e9a73", func := "loop.example/g01218/laws.FnExactFairVisits", spec := "fnExactFairVisits", apart := false }
def FnExactFairVisitsSaid : Prop := fnExactFairVisitsRow.holds Try.pinned (OpenSpec.ofChange fnExactFairVisitsSpec)

/-- ITS FALSE NEIGHBOUR: 'it returns false'. Refute it at one input. -/
def fnExactFairVisitsWrong : ChangeSpec := { name := "fnExactFairVisits", fn := fun _ => fun
  | [d1, d2, d3] => { results := [.lit (.bool false)], args := [d1, d2, d3] }
  | _ => none }
def FnExactFairVisitsWrongFalsely : Prop := fnExactFairVisitsRow.holds Try.pinned (OpenSpec.ofChange fnExactFairVisitsWrong)

/-- 'laws.FnExactCompareChances': WHATEVER THE INPUT: true; the input reads as it did. -/
def fnExactCompareChancesSpec : ChangeSpec := { name := "fnExactCompareChances", fn := fun _ => fun
  | [d1, d2] => { results := [.lit (.bool true)], args := [d1, d2] }
  | _ => none }
def fnExactCompareChancesRow : OpenClaim := { program := "ytdfalmgiicbnhaa", sum := "d0ffe53bf5c23e1d782a33b88d1a0e87f69c14682271954d4c9f25ec770e9a73", func := "loop.example/g01218/laws.FnExactCompareChances", spec := "fnExactCompareChances", apart := false }
def FnExactCompareChancesSaid : Prop := fnExactCompareChancesRow.holds Try.pinned (OpenSpec.ofChange fnExactCompareChancesSpec)

/-- ITS FALSE NEIGHBOUR: 'it returns false'. Refute it at one input. -/
def fnExactCompareChancesWrong : ChangeSpec := { name := "fnExactCompareChances", fn := fun _ => fun
  | [d1, d2] => { results := [.lit (.bool false)], args := [d1, d2] }
  | _ => none }
def FnExactCompareChancesWrongFalsely : Prop := fnExactCompareChancesRow.holds Try.pinned (OpenSpec.ofChange fnExactCompareChancesWrong)

/-- 'laws.FnExactCountWays': WHATEVER THE INPUT: true; the input reads as it did. -/
def fnExactCountWaysSpec : ChangeSpec := { name := "fnExactCountWays", fn := fun _ => fun
  | [d1, d2] => { results := [.lit (.bool true)], args := [d1, d2] }
  | _ => none }
def fnExactCountWaysRow : OpenClaim := { program := "ytdfalmgiicbnhaa", sum := "d0ffe53bf5c23e1d782a33b88d1a0e87f69c14682271954d4c9f25ec770e9a73", func := "loop.example/g01218/laws.FnExactCountWays", spec := "fnExactCountWays", apart := false }
def FnExactCountWaysSaid : Prop := fnExactCountWaysRow.holds Try.pinned (OpenSpec.ofChange fnExactCountWaysSpec)

/-- ITS FALSE NEIGHBOUR: 'it returns false'. Refute it at one input. -/
def fnExactCountWaysWrong : ChangeSpec := { name := "fnExactCountWays", fn := fun _ => fun
  | [d1, d2] => { results := [.lit (.bool false)], args := [d1, d2] }
  | _ => none }
def FnExactCountWaysWrongFalsely : Prop := fnExactCountWaysRow.holds Try.pinned (OpenSpec.ofChange fnExactCountWaysWrong)

/- THE SECOND FORM. 'bulk': how many values and letters a reading holds, each counted each time it is reached (what is shared counts as often as it is met; a slice's spare places count too). A statement '..UptoSaid' is the law's where the arguments, and the package variables that the reading takes, are together of bulk at most 1048576: NARROWER than '..Said'. Prove '..Said' where nothing that the law and all that it calls make is longer than what came in: it says more and counts as full. Else prove '..UptoSaid'. A law counts once. -/
mutual
def uptoBulk {H : Type} : DataW H → Nat
  | .lit (.string bytes) => bytes.length + 1
  | .lit _ => 1
  | .nil => 1
  | .ptr d => uptoBulk d + 1
  | .slice elems spare => uptoBulkAll elems + uptoBulkAll spare + 1
  | .agg parts => uptoBulkAll parts + 1
  | .iface _ d => uptoBulk d + 1
  | .map entries => uptoBulkEntries entries + 1
  | .held _ => 1
def uptoBulkAll {H : Type} : List (DataW H) → Nat
  | [] => 0
  | d :: r => uptoBulk d + uptoBulkAll r
def uptoBulkEntries {H : Type} : List (Lit × DataW H) → Nat
  | [] => 0
  | x :: r => uptoBulkEntry x + uptoBulkEntries r
def uptoBulkEntry {H : Type} : Lit × DataW H → Nat
  | (.string bytes, d) => bytes.length + uptoBulk d + 1
  | (_, d) => uptoBulk d + 1
 end
def uptoSmall : (H : Type) → List (DataW H) → Bool := fun _ ds => decide (uptoBulkAll ds ≤ 1048576)
def OpenSpec.upto (s : _root_.Go.ChangeSpec) : _root_.Go.OpenSpec := { _root_.Go.OpenSpec.ofChange s with cond := some uptoSmall }

/-- 'laws.FnExactIsCell', WHERE WHAT IT READS IS OF BULK AT MOST 1048576: true; the input reads as it did. -/
def fnExactIsCellUptoRow : OpenClaim := { program := "ytdfalmgiicbnhaa", sum := "d0ffe53bf5c23e1d782a33b88d1a0e87f69c14682271954d4c9f25ec770e9a73", func := "loop.example/g01218/laws.FnExactIsCell", spec := "fnExactIsCell", apart := false, narrowed := true }
def FnExactIsCellUptoSaid : Prop := fnExactIsCellUptoRow.holds Try.pinned (OpenSpec.upto fnExactIsCellSpec)

/-- 'laws.FnExactCountWins', WHERE WHAT IT READS IS OF BULK AT MOST 1048576: true; the input reads as it did. -/
def fnExactCountWinsUptoRow : OpenClaim := { program := "ytdfalmgiicbnhaa", sum := "d0ffe53bf5c23e1d782a33b88d1a0e87f69c14682271954d4c9f25ec770e9a73", func := "loop.example/g01218/laws.FnExactCountWins", spec := "fnExactCountWins", apart := false, narrowed := true }
def FnExactCountWinsUptoSaid : Prop := fnExactCountWinsUptoRow.holds Try.pinned (OpenSpec.upto fnExactCountWinsSpec)

/-- 'laws.FnExactIsChance', WHERE WHAT IT READS IS OF BULK AT MOST 1048576: true; the input reads as it did. -/
def fnExactIsChanceUptoRow : OpenClaim := { program := "ytdfalmgiicbnhaa", sum := "d0ffe53bf5c23e1d782a33b88d1a0e87f69c14682271954d4c9f25ec770e9a73", func := "loop.example/g01218/laws.FnExactIsChance", spec := "fnExactIsChance", apart := false, narrowed := true }
def FnExactIsChanceUptoSaid : Prop := fnExactIsChanceUptoRow.holds Try.pinned (OpenSpec.upto fnExactIsChanceSpec)

/-- 'laws.FnExactFairVisits', WHERE WHAT IT READS IS OF BULK AT MOST 1048576: true; the input reads as it did. -/
def fnExactFairVisitsUptoRow : OpenClaim := { program := "ytdfalmgiicbnhaa", sum := "d0ffe53bf5c23e1d782a33b88d1a0e87f69c14682271954d4c9f25ec770e9a73", func := "loop.example/g01218/laws.FnExactFairVisits", spec := "fnExactFairVisits", apart := false, narrowed := true }
def FnExactFairVisitsUptoSaid : Prop := fnExactFairVisitsUptoRow.holds Try.pinned (OpenSpec.upto fnExactFairVisitsSpec)

/-- 'laws.FnExactCompareChances', WHERE WHAT IT READS IS OF BULK AT MOST 1048576: true; the input reads as it did. -/
def fnExactCompareChancesUptoRow : OpenClaim := { program := "ytdfalmgiicbnhaa", sum := "d0ffe53bf5c23e1d782a33b88d1a0e87f69c14682271954d4c9f25ec770e9a73", func := "loop.example/g01218/laws.FnExactCompareChances", spec := "fnExactCompareChances", apart := false, narrowed := true }
def FnExactCompareChancesUptoSaid : Prop := fnExactCompareChancesUptoRow.holds Try.pinned (OpenSpec.upto fnExactCompareChancesSpec)

/-- 'laws.FnExactCountWays', WHERE WHAT IT READS IS OF BULK AT MOST 1048576: true; the input reads as it did. -/
def fnExactCountWaysUptoRow : OpenClaim := { program := "ytdfalmgiicbnhaa", sum := "d0ffe53bf5c23e1d782a33b88d1a0e87f69c14682271954d4c9f25ec770e9a73", func := "loop.example/g01218/laws.FnExactCountWays", spec := "fnExactCountWays", apart := false, narrowed := true }
def FnExactCountWaysUptoSaid : Prop := fnExactCountWaysUptoRow.holds Try.pinned (OpenSpec.upto fnExactCountWaysSpec)

end Rows
end Go.Proofs.Ytdfalmgiicbnhaa
