/-
  No cell of these rows narrows 'for every input' (looked for: loops, veiled, ifaces, maps, wideKeys, modest, calm, conditions, laid).
  DERIVED. THE GIVEN ROWS OF THIS SEAT. 6 by the template 'for every input the law returns true; each argument reads behind the call as it read before'; 0 by the template 'total and deterministic' (their statements: YtkjmkkeiolifoaaTotals.lean).
  GIVEN WITH THE SEED: the statements are not yours to turn. If you find one false, say at which input.
  Laid BY PROGRAM, IN A SANDBOX (cutbox-rows.mjs): the forced cells as the released guide's own fill.sh prints them over the translation 0120679daa2ae35b… (all of the seat's roots in one cut). By AI agents, Wed Nov 11 2026. No macro, syntax, notation, axiom, sorry.
-/
import Derived.Test.YtkjmkkeiolifoaaChecked
import GoSem.Claim
import GoSem.ClaimJoined
import GoSem.ClaimMapViews
import Derived.JoinedTies
import Derived.KernelRfl
namespace Go.Proofs.Ytkjmkkeiolifoaa
/- THE CELL 'sum', in the pinned program and in every row, IS THE sha256 OF THE DUMP (.gsa) THAT YtkjmkkeiolifoaaProg.lean LOADS. Nothing in Lean hashes anything: it is a label: what it is worth is what the hold of that sum in a sandbox is worth. -/
noncomputable def Try.pinned : Pinned := { name := "ytkjmkkeiolifoaa", sum := "0120679daa2ae35b163379b1e33296c6edbcb197a1b8938324508aa54f182094", checked := Try.checked }
namespace Rows
def none {H : Type} : Left H := { results := [], args := [] }

/-- 'laws.FnExactRuinWithin': WHATEVER THE INPUT: true; the input reads as it did. -/
def fnExactRuinWithinSpec : ChangeSpec := { name := "fnExactRuinWithin", fn := fun _ => fun
  | [d1, d2, d3, d4] => { results := [.lit (.bool true)], args := [d1, d2, d3, d4] }
  | _ => none }
def fnExactRuinWithinRow : OpenClaim := { program := "ytkjmkkeiolifoaa", sum := "0120679daa2ae35b163379b1e33296c6edbcb197a1b8938324508aa54f182094", func := "loop.example/g01218/laws.FnExactRuinWithin", spec := "fnExactRuinWithin", apart := false }
def FnExactRuinWithinSaid : Prop := fnExactRuinWithinRow.holds Try.pinned (OpenSpec.ofChange fnExactRuinWithinSpec)

/-- ITS FALSE NEIGHBOUR: 'it returns false'. Refute it at one input. -/
def fnExactRuinWithinWrong : ChangeSpec := { name := "fnExactRuinWithin", fn := fun _ => fun
  | [d1, d2, d3, d4] => { results := [.lit (.bool false)], args := [d1, d2, d3, d4] }
  | _ => none }
def FnExactRuinWithinWrongFalsely : Prop := fnExactRuinWithinRow.holds Try.pinned (OpenSpec.ofChange fnExactRuinWithinWrong)

/-- 'laws.FnExactWinWithin': WHATEVER THE INPUT: true; the input reads as it did. -/
def fnExactWinWithinSpec : ChangeSpec := { name := "fnExactWinWithin", fn := fun _ => fun
  | [d1, d2, d3, d4] => { results := [.lit (.bool true)], args := [d1, d2, d3, d4] }
  | _ => none }
def fnExactWinWithinRow : OpenClaim := { program := "ytkjmkkeiolifoaa", sum := "0120679daa2ae35b163379b1e33296c6edbcb197a1b8938324508aa54f182094", func := "loop.example/g01218/laws.FnExactWinWithin", spec := "fnExactWinWithin", apart := false }
def FnExactWinWithinSaid : Prop := fnExactWinWithinRow.holds Try.pinned (OpenSpec.ofChange fnExactWinWithinSpec)

/-- ITS FALSE NEIGHBOUR: 'it returns false'. Refute it at one input. -/
def fnExactWinWithinWrong : ChangeSpec := { name := "fnExactWinWithin", fn := fun _ => fun
  | [d1, d2, d3, d4] => { results := [.lit (.bool false)], args := [d1, d2, d3, d4] }
  | _ => none }
def FnExactWinWithinWrongFalsely : Prop := fnExactWinWithinRow.holds Try.pinned (OpenSpec.ofChange fnExactWinWithinWrong)

/-- 'laws.FnExactStillPlaying': WHATEVER THE INPUT: true; the input reads as it did. -/
def fnExactStillPlayingSpec : ChangeSpec := { name := "fnExactStillPlaying", fn := fun _ => fun
  | [d1, d2, d3, d4] => { results := [.lit (.bool true)], args := [d1, d2, d3, d4] }
  | _ => none }
def fnExactStillPlayingRow : OpenClaim := { program := "ytkjmkkeiolifoaa", sum := "0120679daa2ae35b163379b1e33296c6edbcb197a1b8938324508aa54f182094", func := "loop.example/g01218/laws.FnExactStillPlaying", spec := "fnExactStillPlaying", apart := false }
def FnExactStillPlayingSaid : Prop := fnExactStillPlayingRow.holds Try.pinned (OpenSpec.ofChange fnExactStillPlayingSpec)

/-- ITS FALSE NEIGHBOUR: 'it returns false'. Refute it at one input. -/
def fnExactStillPlayingWrong : ChangeSpec := { name := "fnExactStillPlaying", fn := fun _ => fun
  | [d1, d2, d3, d4] => { results := [.lit (.bool false)], args := [d1, d2, d3, d4] }
  | _ => none }
def FnExactStillPlayingWrongFalsely : Prop := fnExactStillPlayingRow.holds Try.pinned (OpenSpec.ofChange fnExactStillPlayingWrong)

/-- 'laws.FnExactHeldAfter': WHATEVER THE INPUT: true; the input reads as it did. -/
def fnExactHeldAfterSpec : ChangeSpec := { name := "fnExactHeldAfter", fn := fun _ => fun
  | [d1, d2, d3, d4] => { results := [.lit (.bool true)], args := [d1, d2, d3, d4] }
  | _ => none }
def fnExactHeldAfterRow : OpenClaim := { program := "ytkjmkkeiolifoaa", sum := "0120679daa2ae35b163379b1e33296c6edbcb197a1b8938324508aa54f182094", func := "loop.example/g01218/laws.FnExactHeldAfter", spec := "fnExactHeldAfter", apart := false }
def FnExactHeldAfterSaid : Prop := fnExactHeldAfterRow.holds Try.pinned (OpenSpec.ofChange fnExactHeldAfterSpec)

/-- ITS FALSE NEIGHBOUR: 'it returns false'. Refute it at one input. -/
def fnExactHeldAfterWrong : ChangeSpec := { name := "fnExactHeldAfter", fn := fun _ => fun
  | [d1, d2, d3, d4] => { results := [.lit (.bool false)], args := [d1, d2, d3, d4] }
  | _ => none }
def FnExactHeldAfterWrongFalsely : Prop := fnExactHeldAfterRow.holds Try.pinned (OpenSpec.ofChange fnExactHeldAfterWrong)

/-- 'laws.FnExactBoldChance': WHATEVER THE INPUT: true; the input reads as it did. -/
def fnExactBoldChanceSpec : ChangeSpec := { name := "fnExactBoldChance", fn := fun _ => fun
  | [d1, d2, d3] => { results := [.lit (.bool true)], args := [d1, d2, d3] }
  | _ => none }
def fnExactBoldChanceRow : OpenClaim := { program := "ytkjmkkeiolifoaa", sum := "0120679daa2ae35b163379b1e33296c6edbcb197a1b8938324508aa54f182094", func := "loop.example/g01218/laws.FnExactBoldChance", spec := "fnExactBoldChance", recurses := true, apart := false }
def FnExactBoldChanceSaid : Prop := fnExactBoldChanceRow.holds Try.pinned (OpenSpec.ofChange fnExactBoldChanceSpec)

/-- ITS FALSE NEIGHBOUR: 'it returns false'. Refute it at one input. -/
def fnExactBoldChanceWrong : ChangeSpec := { name := "fnExactBoldChance", fn := fun _ => fun
  | [d1, d2, d3] => { results := [.lit (.bool false)], args := [d1, d2, d3] }
  | _ => none }
def FnExactBoldChanceWrongFalsely : Prop := fnExactBoldChanceRow.holds Try.pinned (OpenSpec.ofChange fnExactBoldChanceWrong)

/-- 'laws.FnExactAllMixed': WHATEVER THE INPUT: true; the input reads as it did. -/
def fnExactAllMixedSpec : ChangeSpec := { name := "fnExactAllMixed", fn := fun _ => fun
  | [d] => { results := [.lit (.bool true)], args := [d] }
  | _ => none }
def fnExactAllMixedRow : OpenClaim := { program := "ytkjmkkeiolifoaa", sum := "0120679daa2ae35b163379b1e33296c6edbcb197a1b8938324508aa54f182094", func := "loop.example/g01218/laws.FnExactAllMixed", spec := "fnExactAllMixed", recurses := true, apart := false }
def FnExactAllMixedSaid : Prop := fnExactAllMixedRow.holds Try.pinned (OpenSpec.ofChange fnExactAllMixedSpec)

/-- ITS FALSE NEIGHBOUR: 'it returns false'. Refute it at one input. -/
def fnExactAllMixedWrong : ChangeSpec := { name := "fnExactAllMixed", fn := fun _ => fun
  | [d] => { results := [.lit (.bool false)], args := [d] }
  | _ => none }
def FnExactAllMixedWrongFalsely : Prop := fnExactAllMixedRow.holds Try.pinned (OpenSpec.ofChange fnExactAllMixedWrong)

/- THE SECOND FORM. 'bulk': how many values and letters a reading holds, each counted each time it is reached (what is shared counts as often as it is met; a slice's spare places count too). A statement '..UptoSaid' is the law's where the arguments, and the package variables that the reading takes, are together of bulk at most 1048576: NARROWER than '..Said'. Prove '..Said' where nothing that the law and all that it calls make is longer than what came in: it says more and counts as full. Else prove '..UptoSaid'. A law counts once. -/
mutual
def uptoBulk {H : Type} : DataW H → Nat
  | .lit (.string bytes) => bytes.length + 1
  | .lit _ => 1
  | .nil => 1
  | .ptr d => uptoBulk d + 1
  | .slice elems spare => uptoBulkAll elems + uptoBulkAll spare + 1
  | .agg parts => uptoBulkAll parts + 1
  | .iface _ d => uptoBulk d + 1
  | .map entries => uptoBulkEntries entries + 1
  | .held _ => 1
def uptoBulkAll {H : Type} : List (DataW H) → Nat
  | [] => 0
  | d :: r => uptoBulk d + uptoBulkAll r
def uptoBulkEntries {H : Type} : List (Lit × DataW H) → Nat
  | [] => 0
  | x :: r => uptoBulkEntry x + uptoBulkEntries r
def uptoBulkEntry {H : Type} : Lit × DataW H → Nat
  | (.string bytes, d) => bytes.length + uptoBulk d + 1
  | (_, d) => uptoBulk d + 1
 end
def uptoSmall : (H : Type) → List (DataW H) → Bool := fun _ ds => decide (uptoBulkAll ds ≤ 1048576)
def OpenSpec.upto (s : _root_.Go.ChangeSpec) : _root_.Go.OpenSpec := { _root_.Go.OpenSpec.ofChange s with cond := some uptoSmall }

/-- 'laws.FnExactRuinWithin', WHERE WHAT IT READS IS OF BULK AT MOST 1048576: true; the input reads as it did. -/
def fnExactRuinWithinUptoRow : OpenClaim := { program := "ytkjmkkeiolifoaa", sum := "0120679daa2ae35b163379b1e33296c6edbcb197a1b8938324508aa54f182094", func := "loop.example/g01218/laws.FnExactRuinWithin", spec := "fnExactRuinWithin", apart := false, narrowed := true }
def FnExactRuinWithinUptoSaid : Prop := fnExactRuinWithinUptoRow.holds Try.pinned (OpenSpec.upto fnExactRuinWithinSpec)

/-- 'laws.FnExactWinWithin', WHERE WHAT IT READS IS OF BULK AT MOST 1048576: true; the input reads as it did. -/
def fnExactWinWithinUptoRow : OpenClaim := { program := "ytkjmkkeiolifoaa", sum := "0120679daa2ae35b163379b1e33296c6edbcb197a1b8938324508aa54f182094", func := "loop.example/g01218/laws.FnExactWinWithin", spec := "fnExactWinWithin", apart := false, narrowed := true }
def FnExactWinWithinUptoSaid : Prop := fnExactWinWithinUptoRow.holds Try.pinned (OpenSpec.upto fnExactWinWithinSpec)

/-- 'laws.FnExactStillPlaying', WHERE WHAT IT READS IS OF BULK AT MOST 1048576: true; the input reads as it did. -/
def fnExactStillPlayingUptoRow : OpenClaim := { program := "ytkjmkkeiolifoaa", sum := "0120679daa2ae35b163379b1e33296c6edbcb197a1b8938324508aa54f182094", func := "loop.example/g01218/laws.FnExactStillPlaying", spec := "fnExactStillPlaying", apart := false, narrowed := true }
def FnExactStillPlayingUptoSaid : Prop := fnExactStillPlayingUptoRow.holds Try.pinned (OpenSpec.upto fnExactStillPlayingSpec)

/-- 'laws.FnExactHeldAfter', WHERE WHAT IT READS IS OF BULK AT MOST 1048576: true; the input reads as it did. -/
def fnExactHeldAfterUptoRow : OpenClaim := { program := "ytkjmkkeiolifoaa", sum := "0120679daa2ae35b163379b1e33296c6edbcb197a1b8938324508aa54f182094", func := "loop.example/g01218/laws.FnExactHeldAfter", spec := "fnExactHeldAfter", apart := false, narrowed := true }
def FnExactHeldAfterUptoSaid : Prop := fnExactHeldAfterUptoRow.holds Try.pinned (OpenSpec.upto fnExactHeldAfterSpec)

/-- 'laws.FnExactBoldChance', WHERE WHAT IT READS IS OF BULK AT MOST 1048576: true; the input reads as it did. -/
def fnExactBoldChanceUptoRow : OpenClaim := { program := "ytkjmkkeiolifoaa", sum := "0120679daa2ae35b163379b1e33296c6edbcb197a1b8938324508aa54f182094", func := "loop.example/g01218/laws.FnExactBoldChance", spec := "fnExactBoldChance", recurses := true, apart := false, narrowed := true }
def FnExactBoldChanceUptoSaid : Prop := fnExactBoldChanceUptoRow.holds Try.pinned (OpenSpec.upto fnExactBoldChanceSpec)

/-- 'laws.FnExactAllMixed', WHERE WHAT IT READS IS OF BULK AT MOST 1048576: true; the input reads as it did. -/
def fnExactAllMixedUptoRow : OpenClaim := { program := "ytkjmkkeiolifoaa", sum := "0120679daa2ae35b163379b1e33296c6edbcb197a1b8938324508aa54f182094", func := "loop.example/g01218/laws.FnExactAllMixed", spec := "fnExactAllMixed", recurses := true, apart := false, narrowed := true }
def FnExactAllMixedUptoSaid : Prop := fnExactAllMixedUptoRow.holds Try.pinned (OpenSpec.upto fnExactAllMixedSpec)

end Rows
end Go.Proofs.Ytkjmkkeiolifoaa
