/-
  No cell of these rows narrows 'for every input' (looked for: loops, veiled, ifaces, maps, wideKeys, modest, calm, conditions, laid).
  DERIVED. THE GIVEN ROWS OF THIS SEAT. 6 by the template 'for every input the law returns true; each argument reads behind the call as it read before'; 0 by the template 'total and deterministic' (their statements: YtaneoolaknnkaaaTotals.lean).
  GIVEN WITH THE SEED: the statements are not yours to turn. If you find one false, say at which input.
  Laid BY PROGRAM, IN A SANDBOX (cutbox-rows.mjs): the forced cells as the released guide's own fill.sh prints them over the translation 76b408e2f344775b… (all of the seat's roots in one cut). By AI agents, Wed Nov 11 2026. No macro, syntax, notation, axiom, sorry.
-/
import Derived.Test.YtaneoolaknnkaaaChecked
import GoSem.Claim
import GoSem.ClaimJoined
import GoSem.ClaimMapViews
import Derived.JoinedTies
import Derived.KernelRfl
namespace Go.Proofs.Ytaneoolaknnkaaa
/- THE CELL 'sum', in the pinned program and in every row, IS THE sha256 OF THE DUMP (.gsa) THAT YtaneoolaknnkaaaProg.lean LOADS. Nothing in Lean hashes anything: it is a label: what it is worth is what the hold of that sum in a sandbox is worth. -/
noncomputable def Try.pinned : Pinned := { name := "ytaneoolaknnkaaa", sum := "76b408e2f344775b87ea5286399ead0fa7c173cf63bdb92aa30e3bcb1ac08c84", checked := Try.checked }
namespace Rows
def none {H : Type} : Left H := { results := [], args := [] }

/-- 'laws.FnExactHankelOf': WHATEVER THE INPUT: true; the input reads as it did. -/
def fnExactHankelOfSpec : ChangeSpec := { name := "fnExactHankelOf", fn := fun _ => fun
  | [d1, d2] => { results := [.lit (.bool true)], args := [d1, d2] }
  | _ => none }
def fnExactHankelOfRow : OpenClaim := { program := "ytaneoolaknnkaaa", sum := "76b408e2f344775b87ea5286399ead0fa7c173cf63bdb92aa30e3bcb1ac08c84", func := "loop.example/g01218/laws.FnExactHankelOf", spec := "fnExactHankelOf", unfollowed := true, recurses := true, apart := false }
def FnExactHankelOfSaid : Prop := fnExactHankelOfRow.holds Try.pinned (OpenSpec.ofChange fnExactHankelOfSpec)

/-- ITS FALSE NEIGHBOUR: 'it returns false'. Refute it at one input. -/
def fnExactHankelOfWrong : ChangeSpec := { name := "fnExactHankelOf", fn := fun _ => fun
  | [d1, d2] => { results := [.lit (.bool false)], args := [d1, d2] }
  | _ => none }
def FnExactHankelOfWrongFalsely : Prop := fnExactHankelOfRow.holds Try.pinned (OpenSpec.ofChange fnExactHankelOfWrong)

/-- 'laws.FnExactDeterminantOf': WHATEVER THE INPUT: true; the input reads as it did. -/
def fnExactDeterminantOfSpec : ChangeSpec := { name := "fnExactDeterminantOf", fn := fun _ => fun
  | [d] => { results := [.lit (.bool true)], args := [d] }
  | _ => none }
def fnExactDeterminantOfRow : OpenClaim := { program := "ytaneoolaknnkaaa", sum := "76b408e2f344775b87ea5286399ead0fa7c173cf63bdb92aa30e3bcb1ac08c84", func := "loop.example/g01218/laws.FnExactDeterminantOf", spec := "fnExactDeterminantOf", unfollowed := true, recurses := true, apart := false }
def FnExactDeterminantOfSaid : Prop := fnExactDeterminantOfRow.holds Try.pinned (OpenSpec.ofChange fnExactDeterminantOfSpec)

/-- ITS FALSE NEIGHBOUR: 'it returns false'. Refute it at one input. -/
def fnExactDeterminantOfWrong : ChangeSpec := { name := "fnExactDeterminantOf", fn := fun _ => fun
  | [d] => { results := [.lit (.bool false)], args := [d] }
  | _ => none }
def FnExactDeterminantOfWrongFalsely : Prop := fnExactDeterminantOfRow.holds Try.pinned (OpenSpec.ofChange fnExactDeterminantOfWrong)

/-- 'laws.FnExactDownsOf': WHATEVER THE INPUT: true; the input reads as it did. -/
def fnExactDownsOfSpec : ChangeSpec := { name := "fnExactDownsOf", fn := fun _ => fun
  | [d] => { results := [.lit (.bool true)], args := [d] }
  | _ => none }
def fnExactDownsOfRow : OpenClaim := { program := "ytaneoolaknnkaaa", sum := "76b408e2f344775b87ea5286399ead0fa7c173cf63bdb92aa30e3bcb1ac08c84", func := "loop.example/g01218/laws.FnExactDownsOf", spec := "fnExactDownsOf", unfollowed := true, recurses := true, apart := false }
def FnExactDownsOfSaid : Prop := fnExactDownsOfRow.holds Try.pinned (OpenSpec.ofChange fnExactDownsOfSpec)

/-- ITS FALSE NEIGHBOUR: 'it returns false'. Refute it at one input. -/
def fnExactDownsOfWrong : ChangeSpec := { name := "fnExactDownsOf", fn := fun _ => fun
  | [d] => { results := [.lit (.bool false)], args := [d] }
  | _ => none }
def FnExactDownsOfWrongFalsely : Prop := fnExactDownsOfRow.holds Try.pinned (OpenSpec.ofChange fnExactDownsOfWrong)

/-- 'laws.FnExactWaysMatrix': WHATEVER THE INPUT: true; the input reads as it did. -/
def fnExactWaysMatrixSpec : ChangeSpec := { name := "fnExactWaysMatrix", fn := fun _ => fun
  | [d1, d2] => { results := [.lit (.bool true)], args := [d1, d2] }
  | _ => none }
def fnExactWaysMatrixRow : OpenClaim := { program := "ytaneoolaknnkaaa", sum := "76b408e2f344775b87ea5286399ead0fa7c173cf63bdb92aa30e3bcb1ac08c84", func := "loop.example/g01218/laws.FnExactWaysMatrix", spec := "fnExactWaysMatrix", unfollowed := true, recurses := true, apart := false }
def FnExactWaysMatrixSaid : Prop := fnExactWaysMatrixRow.holds Try.pinned (OpenSpec.ofChange fnExactWaysMatrixSpec)

/-- ITS FALSE NEIGHBOUR: 'it returns false'. Refute it at one input. -/
def fnExactWaysMatrixWrong : ChangeSpec := { name := "fnExactWaysMatrix", fn := fun _ => fun
  | [d1, d2] => { results := [.lit (.bool false)], args := [d1, d2] }
  | _ => none }
def FnExactWaysMatrixWrongFalsely : Prop := fnExactWaysMatrixRow.holds Try.pinned (OpenSpec.ofChange fnExactWaysMatrixWrong)

/-- 'laws.FnExactCountApart': WHATEVER THE INPUT: true; the input reads as it did. -/
def fnExactCountApartSpec : ChangeSpec := { name := "fnExactCountApart", fn := fun _ => fun
  | [d1, d2] => { results := [.lit (.bool true)], args := [d1, d2] }
  | _ => none }
def fnExactCountApartRow : OpenClaim := { program := "ytaneoolaknnkaaa", sum := "76b408e2f344775b87ea5286399ead0fa7c173cf63bdb92aa30e3bcb1ac08c84", func := "loop.example/g01218/laws.FnExactCountApart", spec := "fnExactCountApart", unfollowed := true, recurses := true, apart := false }
def FnExactCountApartSaid : Prop := fnExactCountApartRow.holds Try.pinned (OpenSpec.ofChange fnExactCountApartSpec)

/-- ITS FALSE NEIGHBOUR: 'it returns false'. Refute it at one input. -/
def fnExactCountApartWrong : ChangeSpec := { name := "fnExactCountApart", fn := fun _ => fun
  | [d1, d2] => { results := [.lit (.bool false)], args := [d1, d2] }
  | _ => none }
def FnExactCountApartWrongFalsely : Prop := fnExactCountApartRow.holds Try.pinned (OpenSpec.ofChange fnExactCountApartWrong)

/-- 'laws.FnFansAndCubes': WHATEVER THE INPUT: true; the input reads as it did. -/
def fnFansAndCubesSpec : ChangeSpec := { name := "fnFansAndCubes", fn := fun _ => fun
  | [d1, d2] => { results := [.lit (.bool true)], args := [d1, d2] }
  | _ => none }
def fnFansAndCubesRow : OpenClaim := { program := "ytaneoolaknnkaaa", sum := "76b408e2f344775b87ea5286399ead0fa7c173cf63bdb92aa30e3bcb1ac08c84", func := "loop.example/g01218/laws.FnFansAndCubes", spec := "fnFansAndCubes", unfollowed := true, recurses := true, apart := false }
def FnFansAndCubesSaid : Prop := fnFansAndCubesRow.holds Try.pinned (OpenSpec.ofChange fnFansAndCubesSpec)

/-- ITS FALSE NEIGHBOUR: 'it returns false'. Refute it at one input. -/
def fnFansAndCubesWrong : ChangeSpec := { name := "fnFansAndCubes", fn := fun _ => fun
  | [d1, d2] => { results := [.lit (.bool false)], args := [d1, d2] }
  | _ => none }
def FnFansAndCubesWrongFalsely : Prop := fnFansAndCubesRow.holds Try.pinned (OpenSpec.ofChange fnFansAndCubesWrong)

/- THE SECOND FORM. 'bulk': how many values and letters a reading holds, each counted each time it is reached (what is shared counts as often as it is met; a slice's spare places count too). A statement '..UptoSaid' is the law's where the arguments, and the package variables that the reading takes, are together of bulk at most 1048576: NARROWER than '..Said'. Prove '..Said' where nothing that the law and all that it calls make is longer than what came in: it says more and counts as full. Else prove '..UptoSaid'. A law counts once. -/
mutual
def uptoBulk {H : Type} : DataW H → Nat
  | .lit (.string bytes) => bytes.length + 1
  | .lit _ => 1
  | .nil => 1
  | .ptr d => uptoBulk d + 1
  | .slice elems spare => uptoBulkAll elems + uptoBulkAll spare + 1
  | .agg parts => uptoBulkAll parts + 1
  | .iface _ d => uptoBulk d + 1
  | .map entries => uptoBulkEntries entries + 1
  | .held _ => 1
def uptoBulkAll {H : Type} : List (DataW H) → Nat
  | [] => 0
  | d :: r => uptoBulk d + uptoBulkAll r
def uptoBulkEntries {H : Type} : List (Lit × DataW H) → Nat
  | [] => 0
  | x :: r => uptoBulkEntry x + uptoBulkEntries r
def uptoBulkEntry {H : Type} : Lit × DataW H → Nat
  | (.string bytes, d) => bytes.length + uptoBulk d + 1
  | (_, d) => uptoBulk d + 1
 end
def uptoSmall : (H : Type) → List (DataW H) → Bool := fun _ ds => decide (uptoBulkAll ds ≤ 1048576)
def OpenSpec.upto (s : _root_.Go.ChangeSpec) : _root_.Go.OpenSpec := { _root_.Go.OpenSpec.ofChange s with cond := some uptoSmall }

/-- 'laws.FnExactHankelOf', WHERE WHAT IT READS IS OF BULK AT MOST 1048576: true; the input reads as it did. -/
def fnExactHankelOfUptoRow : OpenClaim := { program := "ytaneoolaknnkaaa", sum := "76b408e2f344775b87ea5286399ead0fa7c173cf63bdb92aa30e3bcb1ac08c84", func := "loop.example/g01218/laws.FnExactHankelOf", spec := "fnExactHankelOf", unfollowed := true, recurses := true, apart := false, narrowed := true }
def FnExactHankelOfUptoSaid : Prop := fnExactHankelOfUptoRow.holds Try.pinned (OpenSpec.upto fnExactHankelOfSpec)

/-- 'laws.FnExactDeterminantOf', WHERE WHAT IT READS IS OF BULK AT MOST 1048576: true; the input reads as it did. -/
def fnExactDeterminantOfUptoRow : OpenClaim := { program := "ytaneoolaknnkaaa", sum := "76b408e2f344775b87ea5286399ead0fa7c173cf63bdb92aa30e3bcb1ac08c84", func := "loop.example/g01218/laws.FnExactDeterminantOf", spec := "fnExactDeterminantOf", unfollowed := true, recurses := true, apart := false, narrowed := true }
def FnExactDeterminantOfUptoSaid : Prop := fnExactDeterminantOfUptoRow.holds Try.pinned (OpenSpec.upto fnExactDeterminantOfSpec)

/-- 'laws.FnExactDownsOf', WHERE WHAT IT READS IS OF BULK AT MOST 1048576: true; the input reads as it did. -/
def fnExactDownsOfUptoRow : OpenClaim := { program := "ytaneoolaknnkaaa", sum := "76b408e2f344775b87ea5286399ead0fa7c173cf63bdb92aa30e3bcb1ac08c84", func := "loop.example/g01218/laws.FnExactDownsOf", spec := "fnExactDownsOf", unfollowed := true, recurses := true, apart := false, narrowed := true }
def FnExactDownsOfUptoSaid : Prop := fnExactDownsOfUptoRow.holds Try.pinned (OpenSpec.upto fnExactDownsOfSpec)

/-- 'laws.FnExactWaysMatrix', WHERE WHAT IT READS IS OF BULK AT MOST 1048576: true; the input reads as it did. -/
def fnExactWaysMatrixUptoRow : OpenClaim := { program := "ytaneoolaknnkaaa", sum := "76b408e2f344775b87ea5286399ead0fa7c173cf63bdb92aa30e3bcb1ac08c84", func := "loop.example/g01218/laws.FnExactWaysMatrix", spec := "fnExactWaysMatrix", unfollowed := true, recurses := true, apart := false, narrowed := true }
def FnExactWaysMatrixUptoSaid : Prop := fnExactWaysMatrixUptoRow.holds Try.pinned (OpenSpec.upto fnExactWaysMatrixSpec)

/-- 'laws.FnExactCountApart', WHERE WHAT IT READS IS OF BULK AT MOST 1048576: true; the input reads as it did. -/
def fnExactCountApartUptoRow : OpenClaim := { program := "ytaneoolaknnkaaa", sum := "76b408e2f344775b87ea5286399ead0fa7c173cf63bdb92aa30e3bcb1ac08c84", func := "loop.example/g01218/laws.FnExactCountApart", spec := "fnExactCountApart", unfollowed := true, recurses := true, apart := false, narrowed := true }
def FnExactCountApartUptoSaid : Prop := fnExactCountApartUptoRow.holds Try.pinned (OpenSpec.upto fnExactCountApartSpec)

/-- 'laws.FnFansAndCubes', WHERE WHAT IT READS IS OF BULK AT MOST 1048576: true; the input reads as it did. -/
def fnFansAndCubesUptoRow : OpenClaim := { program := "ytaneoolaknnkaaa", sum := "76b408e2f344775b87ea5286399ead0fa7c173cf63bdb92aa30e3bcb1ac08c84", func := "loop.example/g01218/laws.FnFansAndCubes", spec := "fnFansAndCubes", unfollowed := true, recurses := true, apart := false, narrowed := true }
def FnFansAndCubesUptoSaid : Prop := fnFansAndCubesUptoRow.holds Try.pinned (OpenSpec.upto fnFansAndCubesSpec)

end Rows
end Go.Proofs.Ytaneoolaknnkaaa
