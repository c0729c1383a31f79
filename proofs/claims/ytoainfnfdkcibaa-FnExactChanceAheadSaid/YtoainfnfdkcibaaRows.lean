/-
  No cell of these rows narrows 'for every input' (looked for: loops, veiled, ifaces, maps, wideKeys, modest, calm, conditions, laid).
  DERIVED. THE GIVEN ROWS OF THIS SEAT. 5 by the template 'for every input the law returns true; each argument reads behind the call as it read before'; 0 by the template 'total and deterministic' (their statements: YtoainfnfdkcibaaTotals.lean).
  GIVEN WITH THE SEED: the statements are not yours to turn. If you find one false, say at which input.
  Laid BY PROGRAM, IN A SANDBOX (cutbox-rows.mjs): the forced cells as the released guide's own fill.sh prints them over the translation 7eefa3363c5da3d5… (all of the seat's roots in one cut). By AI agents, Wed Nov 11 2026. No macro, syntax, notation, axiom, sorry.
-/
import Derived.Test.YtoainfnfdkcibaaChecked
import GoSem.Claim
import GoSem.ClaimJoined
import GoSem.ClaimMapViews
import Derived.JoinedTies
import Derived.KernelRfl
namespace Go.Proofs.Ytoainfnfdkcibaa
/- THE CELL 'sum', in the pinned program and in every row, IS THE sha256 OF THE DUMP (.gsa) THAT YtoainfnfdkcibaaProg.lean LOADS. Nothing in Lean hashes anything: it is a label: what it is worth is what the hold of that sum in a sandbox is worth. -/
noncomputable def Try.pinned : Pinned := { name := "ytoainfnfdkcibaa", sum := "7eefa3363c5da3d5051f146dce80fc978693ac67340edd3a5a7df352304e6b75", checked := Try.checked }
namespace Rows
def none {H : Type} : Left H := { results := [], args := [] }

/-- 'laws.FnExactChanceNeverBehind': WHATEVER THE INPUT: true; the input reads as it did. -/
def fnExactChanceNeverBehindSpec : ChangeSpec := { name := "fnExactChanceNeverBehind", fn := fun _ => fun
  | [d1, d2, d3] => { results := [.lit (.bool true)], args := [d1, d2, d3] }
  | _ => none }
def fnExactChanceNeverBehindRow : OpenClaim := { program := "ytoainfnfdkcibaa", sum := "7eefa3363c5da3d5051f146dce80fc978693ac67340edd3a5a7df352304e6b75", func := "loop.example/g01218/laws.FnExactChanceNeverBehind", spec := "fnExactChanceNeverBehind", apart := false }
def FnExactChanceNeverBehindSaid : Prop := fnExactChanceNeverBehindRow.holds Try.pinned (OpenSpec.ofChange fnExactChanceNeverBehindSpec)

/-- ITS FALSE NEIGHBOUR: 'it returns false'. Refute it at one input. -/
def fnExactChanceNeverBehindWrong : ChangeSpec := { name := "fnExactChanceNeverBehind", fn := fun _ => fun
  | [d1, d2, d3] => { results := [.lit (.bool false)], args := [d1, d2, d3] }
  | _ => none }
def FnExactChanceNeverBehindWrongFalsely : Prop := fnExactChanceNeverBehindRow.holds Try.pinned (OpenSpec.ofChange fnExactChanceNeverBehindWrong)

/-- 'laws.FnExactChanceAhead': WHATEVER THE INPUT: true; the input reads as it did. -/
def fnExactChanceAheadSpec : ChangeSpec := { name := "fnExactChanceAhead", fn := fun _ => fun
  | [d1, d2, d3] => { results := [.lit (.bool true)], args := [d1, d2, d3] }
  | _ => none }
def fnExactChanceAheadRow : OpenClaim := { program := "ytoainfnfdkcibaa", sum := "7eefa3363c5da3d5051f146dce80fc978693ac67340edd3a5a7df352304e6b75", func := "loop.example/g01218/laws.FnExactChanceAhead", spec := "fnExactChanceAhead", apart := false }
def FnExactChanceAheadSaid : Prop := fnExactChanceAheadRow.holds Try.pinned (OpenSpec.ofChange fnExactChanceAheadSpec)

/-- ITS FALSE NEIGHBOUR: 'it returns false'. Refute it at one input. -/
def fnExactChanceAheadWrong : ChangeSpec := { name := "fnExactChanceAhead", fn := fun _ => fun
  | [d1, d2, d3] => { results := [.lit (.bool false)], args := [d1, d2, d3] }
  | _ => none }
def FnExactChanceAheadWrongFalsely : Prop := fnExactChanceAheadRow.holds Try.pinned (OpenSpec.ofChange fnExactChanceAheadWrong)

/-- 'laws.FnExactCountFans': WHATEVER THE INPUT: true; the input reads as it did. -/
def fnExactCountFansSpec : ChangeSpec := { name := "fnExactCountFans", fn := fun _ => fun
  | [d1, d2] => { results := [.lit (.bool true)], args := [d1, d2] }
  | _ => none }
def fnExactCountFansRow : OpenClaim := { program := "ytoainfnfdkcibaa", sum := "7eefa3363c5da3d5051f146dce80fc978693ac67340edd3a5a7df352304e6b75", func := "loop.example/g01218/laws.FnExactCountFans", spec := "fnExactCountFans", apart := false }
def FnExactCountFansSaid : Prop := fnExactCountFansRow.holds Try.pinned (OpenSpec.ofChange fnExactCountFansSpec)

/-- ITS FALSE NEIGHBOUR: 'it returns false'. Refute it at one input. -/
def fnExactCountFansWrong : ChangeSpec := { name := "fnExactCountFans", fn := fun _ => fun
  | [d1, d2] => { results := [.lit (.bool false)], args := [d1, d2] }
  | _ => none }
def FnExactCountFansWrongFalsely : Prop := fnExactCountFansRow.holds Try.pinned (OpenSpec.ofChange fnExactCountFansWrong)

/-- 'laws.FnExactCountCubes': WHATEVER THE INPUT: true; the input reads as it did. -/
def fnExactCountCubesSpec : ChangeSpec := { name := "fnExactCountCubes", fn := fun _ => fun
  | [d1, d2, d3] => { results := [.lit (.bool true)], args := [d1, d2, d3] }
  | _ => none }
def fnExactCountCubesRow : OpenClaim := { program := "ytoainfnfdkcibaa", sum := "7eefa3363c5da3d5051f146dce80fc978693ac67340edd3a5a7df352304e6b75", func := "loop.example/g01218/laws.FnExactCountCubes", spec := "fnExactCountCubes", apart := false }
def FnExactCountCubesSaid : Prop := fnExactCountCubesRow.holds Try.pinned (OpenSpec.ofChange fnExactCountCubesSpec)

/-- ITS FALSE NEIGHBOUR: 'it returns false'. Refute it at one input. -/
def fnExactCountCubesWrong : ChangeSpec := { name := "fnExactCountCubes", fn := fun _ => fun
  | [d1, d2, d3] => { results := [.lit (.bool false)], args := [d1, d2, d3] }
  | _ => none }
def FnExactCountCubesWrongFalsely : Prop := fnExactCountCubesRow.holds Try.pinned (OpenSpec.ofChange fnExactCountCubesWrong)

/-- 'laws.FnExactAllWays': WHATEVER THE INPUT: true; the input reads as it did. -/
def fnExactAllWaysSpec : ChangeSpec := { name := "fnExactAllWays", fn := fun _ => fun
  | [d1, d2] => { results := [.lit (.bool true)], args := [d1, d2] }
  | _ => none }
def fnExactAllWaysRow : OpenClaim := { program := "ytoainfnfdkcibaa", sum := "7eefa3363c5da3d5051f146dce80fc978693ac67340edd3a5a7df352304e6b75", func := "loop.example/g01218/laws.FnExactAllWays", spec := "fnExactAllWays", recurses := true, apart := false }
def FnExactAllWaysSaid : Prop := fnExactAllWaysRow.holds Try.pinned (OpenSpec.ofChange fnExactAllWaysSpec)

/-- ITS FALSE NEIGHBOUR: 'it returns false'. Refute it at one input. -/
def fnExactAllWaysWrong : ChangeSpec := { name := "fnExactAllWays", fn := fun _ => fun
  | [d1, d2] => { results := [.lit (.bool false)], args := [d1, d2] }
  | _ => none }
def FnExactAllWaysWrongFalsely : Prop := fnExactAllWaysRow.holds Try.pinned (OpenSpec.ofChange fnExactAllWaysWrong)

/- THE SECOND FORM. 'bulk': how many values and letters a reading holds, each counted each time it is reached (what is shared counts as often as it is met; a slice's spare places count too). A statement '..UptoSaid' is the law's where the arguments, and the package variables that the reading takes, are together of bulk at most 1048576: NARROWER than '..Said'. Prove '..Said' where nothing that the law and all that it calls make is longer than what came in: it says more and counts as full. Else prove '..UptoSaid'. A law counts once. -/
mutual
def uptoBulk {H : Type} : DataW H → Nat
  | .lit (.string bytes) => bytes.length + 1
  | .lit _ => 1
  | .nil => 1
  | .ptr d => uptoBulk d + 1
  | .slice elems spare => uptoBulkAll elems + uptoBulkAll spare + 1
  | .agg parts => uptoBulkAll parts + 1
  | .iface _ d => uptoBulk d + 1
  | .map entries => uptoBulkEntries entries + 1
  | .held _ => 1
def uptoBulkAll {H : Type} : List (DataW H) → Nat
  | [] => 0
  | d :: r => uptoBulk d + uptoBulkAll r
def uptoBulkEntries {H : Type} : List (Lit × DataW H) → Nat
  | [] => 0
  | x :: r => uptoBulkEntry x + uptoBulkEntries r
def uptoBulkEntry {H : Type} : Lit × DataW H → Nat
  | (.string bytes, d) => bytes.length + uptoBulk d + 1
  | (_, d) => uptoBulk d + 1
 end
def uptoSmall : (H : Type) → List (DataW H) → Bool := fun _ ds => decide (uptoBulkAll ds ≤ 1048576)
def OpenSpec.upto (s : _root_.Go.ChangeSpec) : _root_.Go.OpenSpec := { _root_.Go.OpenSpec.ofChange s with cond := some uptoSmall }

/-- 'laws.FnExactChanceNeverBehind', WHERE WHAT IT READS IS OF BULK AT MOST 1048576: true; the input reads as it did. -/
def fnExactChanceNeverBehindUptoRow : OpenClaim := { program := "ytoainfnfdkcibaa", sum := "7eefa3363c5da3d5051f146dce80fc978693ac67340edd3a5a7df352304e6b75", func := "loop.example/g01218/laws.FnExactChanceNeverBehind", spec := "fnExactChanceNeverBehind", apart := false, narrowed := true }
def FnExactChanceNeverBehindUptoSaid : Prop := fnExactChanceNeverBehindUptoRow.holds Try.pinned (OpenSpec.upto fnExactChanceNeverBehindSpec)

/-- 'laws.FnExactChanceAhead', WHERE WHAT IT READS IS OF BULK AT MOST 1048576: true; the input reads as it did. -/
def fnExactChanceAheadUptoRow : OpenClaim := { program := "ytoainfnfdkcibaa", sum := "7eefa3363c5da3d5051f146dce80fc978693ac67340edd3a5a7df352304e6b75", func := "loop.example/g01218/laws.FnExactChanceAhead", spec := "fnExactChanceAhead", apart := false, narrowed := true }
def FnExactChanceAheadUptoSaid : Prop := fnExactChanceAheadUptoRow.holds Try.pinned (OpenSpec.upto fnExactChanceAheadSpec)

/-- 'laws.FnExactCountFans', WHERE WHAT IT READS IS OF BULK AT MOST 1048576: true; the input reads as it did. -/
def fnExactCountFansUptoRow : OpenClaim := { program := "ytoainfnfdkcibaa", sum := "7eefa3363c5da3d5051f146dce80fc978693ac67340edd3a5a7df352304e6b75", func := "loop.example/g01218/laws.FnExactCountFans", spec := "fnExactCountFans", apart := false, narrowed := true }
def FnExactCountFansUptoSaid : Prop := fnExactCountFansUptoRow.holds Try.pinned (OpenSpec.upto fnExactCountFansSpec)

/-- 'laws.FnExactCountCubes', WHERE WHAT IT READS IS OF BULK AT MOST 1048576: true; the input reads as it did. -/
def fnExactCountCubesUptoRow : OpenClaim := { program := "ytoainfnfdkcibaa", sum := "7eefa3363c5da3d5051f146dce80fc978693ac67340edd3a5a7df352304e6b75", func := "loop.example/g01218/laws.FnExactCountCubes", spec := "fnExactCountCubes", apart := false, narrowed := true }
def FnExactCountCubesUptoSaid : Prop := fnExactCountCubesUptoRow.holds Try.pinned (OpenSpec.upto fnExactCountCubesSpec)

/-- 'laws.FnExactAllWays', WHERE WHAT IT READS IS OF BULK AT MOST 1048576: true; the input reads as it did. -/
def fnExactAllWaysUptoRow : OpenClaim := { program := "ytoainfnfdkcibaa", sum := "7eefa3363c5da3d5051f146dce80fc978693ac67340edd3a5a7df352304e6b75", func := "loop.example/g01218/laws.FnExactAllWays", spec := "fnExactAllWays", recurses := true, apart := false, narrowed := true }
def FnExactAllWaysUptoSaid : Prop := fnExactAllWaysUptoRow.holds Try.pinned (OpenSpec.upto fnExactAllWaysSpec)

end Rows
end Go.Proofs.Ytoainfnfdkcibaa
