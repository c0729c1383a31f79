/-
  No cell of these rows narrows 'for every input' (looked for: loops, veiled, ifaces, maps, wideKeys, modest, calm, conditions, laid).
  DERIVED. THE GIVEN ROWS OF THIS SEAT. 5 by the template 'for every input the law returns true; each argument reads behind the call as it read before'; 0 by the template 'total and deterministic' (their statements: YtpccmlaaebaobaaTotals.lean).
  GIVEN WITH THE SEED: the statements are not yours to turn. If you find one false, say at which input.
  Laid BY PROGRAM, IN A SANDBOX (cutbox-rows.mjs): the forced cells as the released guide's own fill.sh prints them over the translation 486bcb756be95cb1… (all of the seat's roots in one cut). By AI agents, Wed Nov 11 2026. No macro, syntax, notation, axiom, sorry.
-/
import Derived.Test.YtpccmlaaebaobaaChecked
import GoSem.Claim
import GoSem.ClaimJoined
import GoSem.ClaimMapViews
import Derived.JoinedTies
import Derived.KernelRfl
namespace Go.Proofs.Ytpccmlaaebaobaa
/- THE CELL 'sum', in the pinned program and in every row, IS THE sha256 OF THE DUMP (.gsa) THAT YtpccmlaaebaobaaProg.lean LOADS. Nothing in Lean hashes anything: it is a label: what it is worth is what the hold of that sum in a sandbox is worth. -/
noncomputable def Try.pinned : Pinned := { name := "ytpccmlaaebaobaa", sum := "486bcb756be95cb1a1fda17cb9b7b8e9d2721df32c95ca31d230e62c06d3dc29", checked := Try.checked }
namespace Rows
def none {H : Type} : Left H := { results := [], args := [] }

/-- 'laws.FnExactCountNoFloor': WHATEVER THE INPUT: true; the input reads as it did. -/
def fnExactCountNoFloorSpec : ChangeSpec := { name := "fnExactCountNoFloor", fn := fun _ => fun
  | [d] => { results := [.lit (.bool true)], args := [d] }
  | _ => none }
def fnExactCountNoFloorRow : OpenClaim := { program := "ytpccmlaaebaobaa", sum := "486bcb756be95cb1a1fda17cb9b7b8e9d2721df32c95ca31d230e62c06d3dc29", func := "loop.example/g01218/laws.FnExactCountNoFloor", spec := "fnExactCountNoFloor", unfollowed := true, recurses := true, apart := false }
def FnExactCountNoFloorSaid : Prop := fnExactCountNoFloorRow.holds Try.pinned (OpenSpec.ofChange fnExactCountNoFloorSpec)

/-- ITS FALSE NEIGHBOUR: 'it returns false'. Refute it at one input. -/
def fnExactCountNoFloorWrong : ChangeSpec := { name := "fnExactCountNoFloor", fn := fun _ => fun
  | [d] => { results := [.lit (.bool false)], args := [d] }
  | _ => none }
def FnExactCountNoFloorWrongFalsely : Prop := fnExactCountNoFloorRow.holds Try.pinned (OpenSpec.ofChange fnExactCountNoFloorWrong)

/-- 'laws.FnExactCountColors': WHATEVER THE INPUT: true; the input reads as it did. -/
def fnExactCountColorsSpec : ChangeSpec := { name := "fnExactCountColors", fn := fun _ => fun
  | [d1, d2, d3, d4] => { results := [.lit (.bool true)], args := [d1, d2, d3, d4] }
  | _ => none }
def fnExactCountColorsRow : OpenClaim := { program := "ytpccmlaaebaobaa", sum := "486bcb756be95cb1a1fda17cb9b7b8e9d2721df32c95ca31d230e62c06d3dc29", func := "loop.example/g01218/laws.FnExactCountColors", spec := "fnExactCountColors", unfollowed := true, recurses := true, apart := false }
def FnExactCountColorsSaid : Prop := fnExactCountColorsRow.holds Try.pinned (OpenSpec.ofChange fnExactCountColorsSpec)

/-- ITS FALSE NEIGHBOUR: 'it returns false'. Refute it at one input. -/
def fnExactCountColorsWrong : ChangeSpec := { name := "fnExactCountColors", fn := fun _ => fun
  | [d1, d2, d3, d4] => { results := [.lit (.bool false)], args := [d1, d2, d3, d4] }
  | _ => none }
def FnExactCountColorsWrongFalsely : Prop := fnExactCountColorsRow.holds Try.pinned (OpenSpec.ofChange fnExactCountColorsWrong)

/-- 'laws.FnExactCountMixed': WHATEVER THE INPUT: true; the input reads as it did. -/
def fnExactCountMixedSpec : ChangeSpec := { name := "fnExactCountMixed", fn := fun _ => fun
  | [d1, d2] => { results := [.lit (.bool true)], args := [d1, d2] }
  | _ => none }
def fnExactCountMixedRow : OpenClaim := { program := "ytpccmlaaebaobaa", sum := "486bcb756be95cb1a1fda17cb9b7b8e9d2721df32c95ca31d230e62c06d3dc29", func := "loop.example/g01218/laws.FnExactCountMixed", spec := "fnExactCountMixed", unfollowed := true, recurses := true, apart := false }
def FnExactCountMixedSaid : Prop := fnExactCountMixedRow.holds Try.pinned (OpenSpec.ofChange fnExactCountMixedSpec)

/-- ITS FALSE NEIGHBOUR: 'it returns false'. Refute it at one input. -/
def fnExactCountMixedWrong : ChangeSpec := { name := "fnExactCountMixed", fn := fun _ => fun
  | [d1, d2] => { results := [.lit (.bool false)], args := [d1, d2] }
  | _ => none }
def FnExactCountMixedWrongFalsely : Prop := fnExactCountMixedRow.holds Try.pinned (OpenSpec.ofChange fnExactCountMixedWrong)

/-- 'laws.FnExactMomentsOf': WHATEVER THE INPUT: true; the input reads as it did. -/
def fnExactMomentsOfSpec : ChangeSpec := { name := "fnExactMomentsOf", fn := fun _ => fun
  | [d1, d2] => { results := [.lit (.bool true)], args := [d1, d2] }
  | _ => none }
def fnExactMomentsOfRow : OpenClaim := { program := "ytpccmlaaebaobaa", sum := "486bcb756be95cb1a1fda17cb9b7b8e9d2721df32c95ca31d230e62c06d3dc29", func := "loop.example/g01218/laws.FnExactMomentsOf", spec := "fnExactMomentsOf", unfollowed := true, recurses := true, apart := false }
def FnExactMomentsOfSaid : Prop := fnExactMomentsOfRow.holds Try.pinned (OpenSpec.ofChange fnExactMomentsOfSpec)

/-- ITS FALSE NEIGHBOUR: 'it returns false'. Refute it at one input. -/
def fnExactMomentsOfWrong : ChangeSpec := { name := "fnExactMomentsOf", fn := fun _ => fun
  | [d1, d2] => { results := [.lit (.bool false)], args := [d1, d2] }
  | _ => none }
def FnExactMomentsOfWrongFalsely : Prop := fnExactMomentsOfRow.holds Try.pinned (OpenSpec.ofChange fnExactMomentsOfWrong)

/-- 'laws.FnExactLevelsOf': WHATEVER THE INPUT: true; the input reads as it did. -/
def fnExactLevelsOfSpec : ChangeSpec := { name := "fnExactLevelsOf", fn := fun _ => fun
  | [d] => { results := [.lit (.bool true)], args := [d] }
  | _ => none }
def fnExactLevelsOfRow : OpenClaim := { program := "ytpccmlaaebaobaa", sum := "486bcb756be95cb1a1fda17cb9b7b8e9d2721df32c95ca31d230e62c06d3dc29", func := "loop.example/g01218/laws.FnExactLevelsOf", spec := "fnExactLevelsOf", unfollowed := true, recurses := true, apart := false }
def FnExactLevelsOfSaid : Prop := fnExactLevelsOfRow.holds Try.pinned (OpenSpec.ofChange fnExactLevelsOfSpec)

/-- ITS FALSE NEIGHBOUR: 'it returns false'. Refute it at one input. -/
def fnExactLevelsOfWrong : ChangeSpec := { name := "fnExactLevelsOf", fn := fun _ => fun
  | [d] => { results := [.lit (.bool false)], args := [d] }
  | _ => none }
def FnExactLevelsOfWrongFalsely : Prop := fnExactLevelsOfRow.holds Try.pinned (OpenSpec.ofChange fnExactLevelsOfWrong)

/- THE SECOND FORM. 'bulk': how many values and letters a reading holds, each counted each time it is reached (what is shared counts as often as it is met; a slice's spare places count too). A statement '..UptoSaid' is the law's where the arguments, and the package variables that the reading takes, are together of bulk at most 1048576: NARROWER than '..Said'. Prove '..Said' where nothing that the law and all that it calls make is longer than what came in: it says more and counts as full. Else prove '..UptoSaid'. A law counts once. -/
mutual
def uptoBulk {H : Type} : DataW H → Nat
  | .lit (.string bytes) => bytes.length + 1
  | .lit _ => 1
  | .nil => 1
  | .ptr d => uptoBulk d + 1
  | .slice elems spare => uptoBulkAll elems + uptoBulkAll spare + 1
  | .agg parts => uptoBulkAll parts + 1
  | .iface _ d => uptoBulk d + 1
  | .map entries => uptoBulkEntries entries + 1
  | .held _ => 1
def uptoBulkAll {H : Type} : List (DataW H) → Nat
  | [] => 0
  | d :: r => uptoBulk d + uptoBulkAll r
def uptoBulkEntries {H : Type} : List (Lit × DataW H) → Nat
  | [] => 0
  | x :: r => uptoBulkEntry x + uptoBulkEntries r
def uptoBulkEntry {H : Type} : Lit × DataW H → Nat
  | (.string bytes, d) => bytes.length + uptoBulk d + 1
  | (_, d) => uptoBulk d + 1
 end
def uptoSmall : (H : Type) → List (DataW H) → Bool := fun _ ds => decide (uptoBulkAll ds ≤ 1048576)
def OpenSpec.upto (s : _root_.Go.ChangeSpec) : _root_.Go.OpenSpec := { _root_.Go.OpenSpec.ofChange s with cond := some uptoSmall }

/-- 'laws.FnExactCountNoFloor', WHERE WHAT IT READS IS OF BULK AT MOST 1048576: true; the input reads as it did. -/
def fnExactCountNoFloorUptoRow : OpenClaim := { program := "ytpccmlaaebaobaa", sum := "486bcb756be95cb1a1fda17cb9b7b8e9d2721df32c95ca31d230e62c06d3dc29", func := "loop.example/g01218/laws.FnExactCountNoFloor", spec := "fnExactCountNoFloor", unfollowed := true, recurses := true, apart := false, narrowed := true }
def FnExactCountNoFloorUptoSaid : Prop := fnExactCountNoFloorUptoRow.holds Try.pinned (OpenSpec.upto fnExactCountNoFloorSpec)

/-- 'laws.FnExactCountColors', WHERE WHAT IT READS IS OF BULK AT MOST 1048576: true; the input reads as it did. -/
def fnExactCountColorsUptoRow : OpenClaim := { program := "ytpccmlaaebaobaa", sum := "486bcb756be95cb1a1fda17cb9b7b8e9d2721df32c95ca31d230e62c06d3dc29", func := "loop.example/g01218/laws.FnExactCountColors", spec := "fnExactCountColors", unfollowed := true, recurses := true, apart := false, narrowed := true }
def FnExactCountColorsUptoSaid : Prop := fnExactCountColorsUptoRow.holds Try.pinned (OpenSpec.upto fnExactCountColorsSpec)

/-- 'laws.FnExactCountMixed', WHERE WHAT IT READS IS OF BULK AT MOST 1048576: true; the input reads as it did. -/
def fnExactCountMixedUptoRow : OpenClaim := { program := "ytpccmlaaebaobaa", sum := "486bcb756be95cb1a1fda17cb9b7b8e9d2721df32c95ca31d230e62c06d3dc29", func := "loop.example/g01218/laws.FnExactCountMixed", spec := "fnExactCountMixed", unfollowed := true, recurses := true, apart := false, narrowed := true }
def FnExactCountMixedUptoSaid : Prop := fnExactCountMixedUptoRow.holds Try.pinned (OpenSpec.upto fnExactCountMixedSpec)

/-- 'laws.FnExactMomentsOf', WHERE WHAT IT READS IS OF BULK AT MOST 1048576: true; the input reads as it did. -/
def fnExactMomentsOfUptoRow : OpenClaim := { program := "ytpccmlaaebaobaa", sum := "486bcb756be95cb1a1fda17cb9b7b8e9d2721df32c95ca31d230e62c06d3dc29", func := "loop.example/g01218/laws.FnExactMomentsOf", spec := "fnExactMomentsOf", unfollowed := true, recurses := true, apart := false, narrowed := true }
def FnExactMomentsOfUptoSaid : Prop := fnExactMomentsOfUptoRow.holds Try.pinned (OpenSpec.upto fnExactMomentsOfSpec)

/-- 'laws.FnExactLevelsOf', WHERE WHAT IT READS IS OF BULK AT MOST 1048576: true; the input reads as it did. -/
def fnExactLevelsOfUptoRow : OpenClaim := { program := "ytpccmlaaebaobaa", sum := "486bcb756be95cb1a1fda17cb9b7b8e9d2721df32c95ca31d230e62c06d3dc29", func := "loop.example/g01218/laws.FnExactLevelsOf", spec := "fnExactLevelsOf", unfollowed := true, recurses := true, apart := false, narrowed := true }
def FnExactLevelsOfUptoSaid : Prop := fnExactLevelsOfUptoRow.holds Try.pinned (OpenSpec.upto fnExactLevelsOfSpec)

end Rows
end Go.Proofs.Ytpccmlaaebaobaa
