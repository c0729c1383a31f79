/-
  No cell of these rows narrows 'for every input' (looked for: loops, veiled, ifaces, maps, wideKeys, modest, calm, conditions, laid).
  DERIVED. THE GIVEN ROWS OF THIS SEAT. 5 by the template 'for every input the law returns true; each argument reads behind the call as it read before'; 0 by the template 'total and deterministic' (their statements: YtobdaglkdnfnlaaTotals.lean).
  GIVEN WITH THE SEED: the statements are not yours to turn. If you find one false, say at which input.
  Laid BY PROGRAM, IN A SANDBOX (cutbox-rows.mjs): the forced cells as the released guide's own fill.sh prints them over the translation eb5f42f3b5bfd9cd… (all of the seat's roots in one cut). By AI agents, Wed Nov 11 2026. No macro, syntax, notation, axiom, sorry.
-/
import Derived.Test.YtobdaglkdnfnlaaChecked
import GoSem.Claim
import GoSem.ClaimJoined
import GoSem.ClaimMapViews
import Derived.JoinedTies
import Derived.KernelRfl
namespace Go.Proofs.Ytobdaglkdnfnlaa
/- THE CELL 'sum', in the pinned program and in every row, IS THE sha256 OF THE DUMP (.gsa) THAT YtobdaglkdnfnlaaProg.lean LOADS. Nothing in Lean hashes anything: it is a label: what it is worth is what the hold of that sum in a sandbox is worth. -/
noncomputable def Try.pinned : Pinned := { name := "ytobdaglkdnfnlaa", sum := "eb5f42f3b5bfd9cdf14fd4b3b6ba4f06df03130785346ef043c393bd907b4e4a", checked := Try.checked }
namespace Rows
def none {H : Type} : Left H := { results := [], args := [] }

/-- 'laws.FnExactCountDelannoy': WHATEVER THE INPUT: true; the input reads as it did. -/
def fnExactCountDelannoySpec : ChangeSpec := { name := "fnExactCountDelannoy", fn := fun _ => fun
  | [d1, d2] => { results := [.lit (.bool true)], args := [d1, d2] }
  | _ => none }
def fnExactCountDelannoyRow : OpenClaim := { program := "ytobdaglkdnfnlaa", sum := "eb5f42f3b5bfd9cdf14fd4b3b6ba4f06df03130785346ef043c393bd907b4e4a", func := "loop.example/g01218/laws.FnExactCountDelannoy", spec := "fnExactCountDelannoy", unfollowed := true, recurses := true, apart := false }
def FnExactCountDelannoySaid : Prop := fnExactCountDelannoyRow.holds Try.pinned (OpenSpec.ofChange fnExactCountDelannoySpec)

/-- ITS FALSE NEIGHBOUR: 'it returns false'. Refute it at one input. -/
def fnExactCountDelannoyWrong : ChangeSpec := { name := "fnExactCountDelannoy", fn := fun _ => fun
  | [d1, d2] => { results := [.lit (.bool false)], args := [d1, d2] }
  | _ => none }
def FnExactCountDelannoyWrongFalsely : Prop := fnExactCountDelannoyRow.holds Try.pinned (OpenSpec.ofChange fnExactCountDelannoyWrong)

/-- 'laws.FnExactCountSchroder': WHATEVER THE INPUT: true; the input reads as it did. -/
def fnExactCountSchroderSpec : ChangeSpec := { name := "fnExactCountSchroder", fn := fun _ => fun
  | [d] => { results := [.lit (.bool true)], args := [d] }
  | _ => none }
def fnExactCountSchroderRow : OpenClaim := { program := "ytobdaglkdnfnlaa", sum := "eb5f42f3b5bfd9cdf14fd4b3b6ba4f06df03130785346ef043c393bd907b4e4a", func := "loop.example/g01218/laws.FnExactCountSchroder", spec := "fnExactCountSchroder", unfollowed := true, recurses := true, apart := false }
def FnExactCountSchroderSaid : Prop := fnExactCountSchroderRow.holds Try.pinned (OpenSpec.ofChange fnExactCountSchroderSpec)

/-- ITS FALSE NEIGHBOUR: 'it returns false'. Refute it at one input. -/
def fnExactCountSchroderWrong : ChangeSpec := { name := "fnExactCountSchroder", fn := fun _ => fun
  | [d] => { results := [.lit (.bool false)], args := [d] }
  | _ => none }
def FnExactCountSchroderWrongFalsely : Prop := fnExactCountSchroderRow.holds Try.pinned (OpenSpec.ofChange fnExactCountSchroderWrong)

/-- 'laws.FnGridsCounted': WHATEVER THE INPUT: true; the input reads as it did. -/
def fnGridsCountedSpec : ChangeSpec := { name := "fnGridsCounted", fn := fun _ => fun
  | [d1, d2] => { results := [.lit (.bool true)], args := [d1, d2] }
  | _ => none }
def fnGridsCountedRow : OpenClaim := { program := "ytobdaglkdnfnlaa", sum := "eb5f42f3b5bfd9cdf14fd4b3b6ba4f06df03130785346ef043c393bd907b4e4a", func := "loop.example/g01218/laws.FnGridsCounted", spec := "fnGridsCounted", unfollowed := true, recurses := true, apart := false }
def FnGridsCountedSaid : Prop := fnGridsCountedRow.holds Try.pinned (OpenSpec.ofChange fnGridsCountedSpec)

/-- ITS FALSE NEIGHBOUR: 'it returns false'. Refute it at one input. -/
def fnGridsCountedWrong : ChangeSpec := { name := "fnGridsCounted", fn := fun _ => fun
  | [d1, d2] => { results := [.lit (.bool false)], args := [d1, d2] }
  | _ => none }
def FnGridsCountedWrongFalsely : Prop := fnGridsCountedRow.holds Try.pinned (OpenSpec.ofChange fnGridsCountedWrong)

/-- 'laws.FnExactIsLevels': WHATEVER THE INPUT: true; the input reads as it did. -/
def fnExactIsLevelsSpec : ChangeSpec := { name := "fnExactIsLevels", fn := fun _ => fun
  | [d] => { results := [.lit (.bool true)], args := [d] }
  | _ => none }
def fnExactIsLevelsRow : OpenClaim := { program := "ytobdaglkdnfnlaa", sum := "eb5f42f3b5bfd9cdf14fd4b3b6ba4f06df03130785346ef043c393bd907b4e4a", func := "loop.example/g01218/laws.FnExactIsLevels", spec := "fnExactIsLevels", unfollowed := true, recurses := true, apart := false }
def FnExactIsLevelsSaid : Prop := fnExactIsLevelsRow.holds Try.pinned (OpenSpec.ofChange fnExactIsLevelsSpec)

/-- ITS FALSE NEIGHBOUR: 'it returns false'. Refute it at one input. -/
def fnExactIsLevelsWrong : ChangeSpec := { name := "fnExactIsLevels", fn := fun _ => fun
  | [d] => { results := [.lit (.bool false)], args := [d] }
  | _ => none }
def FnExactIsLevelsWrongFalsely : Prop := fnExactIsLevelsRow.holds Try.pinned (OpenSpec.ofChange fnExactIsLevelsWrong)

/-- 'laws.FnExactShiftMoments': WHATEVER THE INPUT: true; the input reads as it did. -/
def fnExactShiftMomentsSpec : ChangeSpec := { name := "fnExactShiftMoments", fn := fun _ => fun
  | [d1, d2] => { results := [.lit (.bool true)], args := [d1, d2] }
  | _ => none }
def fnExactShiftMomentsRow : OpenClaim := { program := "ytobdaglkdnfnlaa", sum := "eb5f42f3b5bfd9cdf14fd4b3b6ba4f06df03130785346ef043c393bd907b4e4a", func := "loop.example/g01218/laws.FnExactShiftMoments", spec := "fnExactShiftMoments", unfollowed := true, recurses := true, apart := false }
def FnExactShiftMomentsSaid : Prop := fnExactShiftMomentsRow.holds Try.pinned (OpenSpec.ofChange fnExactShiftMomentsSpec)

/-- ITS FALSE NEIGHBOUR: 'it returns false'. Refute it at one input. -/
def fnExactShiftMomentsWrong : ChangeSpec := { name := "fnExactShiftMoments", fn := fun _ => fun
  | [d1, d2] => { results := [.lit (.bool false)], args := [d1, d2] }
  | _ => none }
def FnExactShiftMomentsWrongFalsely : Prop := fnExactShiftMomentsRow.holds Try.pinned (OpenSpec.ofChange fnExactShiftMomentsWrong)

/- THE SECOND FORM. 'bulk': how many values and letters a reading holds, each counted each time it is reached (what is shared counts as often as it is met; a slice's spare places count too). A statement '..UptoSaid' is the law's where the arguments, and the package variables that the reading takes, are together of bulk at most 1048576: NARROWER than '..Said'. Prove '..Said' where nothing that the law and all that it calls make is longer than what came in: it says more and counts as full. Else prove '..UptoSaid'. A law counts once. -/
mutual
def uptoBulk {H : Type} : DataW H → Nat
  | .lit (.string bytes) => bytes.length + 1
  | .lit _ => 1
  | .nil => 1
  | .ptr d => uptoBulk d + 1
  | .slice elems spare => uptoBulkAll elems + uptoBulkAll spare + 1
  | .agg parts => uptoBulkAll parts + 1
  | .iface _ d => uptoBulk d + 1
  | .map entries => uptoBulkEntries entries + 1
  | .held _ => 1
def uptoBulkAll {H : Type} : List (DataW H) → Nat
  | [] => 0
  | d :: r => uptoBulk d + uptoBulkAll r
def uptoBulkEntries {H : Type} : List (Lit × DataW H) → Nat
  | [] => 0
  | x :: r => uptoBulkEntry x + uptoBulkEntries r
def uptoBulkEntry {H : Type} : Lit × DataW H → Nat
  | (.string bytes, d) => bytes.length + uptoBulk d + 1
  | (_, d) => uptoBulk d + 1
 end
def uptoSmall : (H : Type) → List (DataW H) → Bool := fun _ ds => decide (uptoBulkAll ds ≤ 1048576)
def OpenSpec.upto (s : _root_.Go.ChangeSpec) : _root_.Go.OpenSpec := { _root_.Go.OpenSpec.ofChange s with cond := some uptoSmall }

/-- 'laws.FnExactCountDelannoy', WHERE WHAT IT READS IS OF BULK AT MOST 1048576: true; the input reads as it did. -/
def fnExactCountDelannoyUptoRow : OpenClaim := { program := "ytobdaglkdnfnlaa", sum := "eb5f42f3b5bfd9cdf14fd4b3b6ba4f06df03130785346ef043c393bd907b4e4a", func := "loop.example/g01218/laws.FnExactCountDelannoy", spec := "fnExactCountDelannoy", unfollowed := true, recurses := true, apart := false, narrowed := true }
def FnExactCountDelannoyUptoSaid : Prop := fnExactCountDelannoyUptoRow.holds Try.pinned (OpenSpec.upto fnExactCountDelannoySpec)

/-- 'laws.FnExactCountSchroder', WHERE WHAT IT READS IS OF BULK AT MOST 1048576: true; the input reads as it did. -/
def fnExactCountSchroderUptoRow : OpenClaim := { program := "ytobdaglkdnfnlaa", sum := "eb5f42f3b5bfd9cdf14fd4b3b6ba4f06df03130785346ef043c393bd907b4e4a", func := "loop.example/g01218/laws.FnExactCountSchroder", spec := "fnExactCountSchroder", unfollowed := true, recurses := true, apart := false, narrowed := true }
def FnExactCountSchroderUptoSaid : Prop := fnExactCountSchroderUptoRow.holds Try.pinned (OpenSpec.upto fnExactCountSchroderSpec)

/-- 'laws.FnGridsCounted', WHERE WHAT IT READS IS OF BULK AT MOST 1048576: true; the input reads as it did. -/
def fnGridsCountedUptoRow : OpenClaim := { program := "ytobdaglkdnfnlaa", sum := "eb5f42f3b5bfd9cdf14fd4b3b6ba4f06df03130785346ef043c393bd907b4e4a", func := "loop.example/g01218/laws.FnGridsCounted", spec := "fnGridsCounted", unfollowed := true, recurses := true, apart := false, narrowed := true }
def FnGridsCountedUptoSaid : Prop := fnGridsCountedUptoRow.holds Try.pinned (OpenSpec.upto fnGridsCountedSpec)

/-- 'laws.FnExactIsLevels', WHERE WHAT IT READS IS OF BULK AT MOST 1048576: true; the input reads as it did. -/
def fnExactIsLevelsUptoRow : OpenClaim := { program := "ytobdaglkdnfnlaa", sum := "eb5f42f3b5bfd9cdf14fd4b3b6ba4f06df03130785346ef043c393bd907b4e4a", func := "loop.example/g01218/laws.FnExactIsLevels", spec := "fnExactIsLevels", unfollowed := true, recurses := true, apart := false, narrowed := true }
def FnExactIsLevelsUptoSaid : Prop := fnExactIsLevelsUptoRow.holds Try.pinned (OpenSpec.upto fnExactIsLevelsSpec)

/-- 'laws.FnExactShiftMoments', WHERE WHAT IT READS IS OF BULK AT MOST 1048576: true; the input reads as it did. -/
def fnExactShiftMomentsUptoRow : OpenClaim := { program := "ytobdaglkdnfnlaa", sum := "eb5f42f3b5bfd9cdf14fd4b3b6ba4f06df03130785346ef043c393bd907b4e4a", func := "loop.example/g01218/laws.FnExactShiftMoments", spec := "fnExactShiftMoments", unfollowed := true, recurses := true, apart := false, narrowed := true }
def FnExactShiftMomentsUptoSaid : Prop := fnExactShiftMomentsUptoRow.holds Try.pinned (OpenSpec.upto fnExactShiftMomentsSpec)

end Rows
end Go.Proofs.Ytobdaglkdnfnlaa
