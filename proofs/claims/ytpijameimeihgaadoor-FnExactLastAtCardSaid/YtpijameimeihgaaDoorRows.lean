/-
  NARROWER THAN 'FOR EVERY INPUT', by the rows' own cells (each row's printed sentence says how): FnExactIsBetween: laid · FnExactFirstAt: laid · FnExactLastAt: laid · FnExactTouchText: laid · FnExactIsMixed: laid · FnExactMixedOfPath: laid.
  DERIVED. THE GIVEN ROWS OF THIS SEAT. 6 by the template 'for every input the law returns true; each argument reads behind the call as it read before'; 0 by the template 'total and deterministic' (their statements: YtpijameimeihgaaDoorTotals.lean).
  GIVEN WITH THE SEED: the statements are not yours to turn. If you find one false, say at which input.
  Laid BY PROGRAM, IN A SANDBOX (cutbox-rows.mjs): the forced cells as the released guide's own fill.sh prints them over the translation 9899dde3f2f426ed… (all of the seat's roots in one cut). By AI agents, Wed Nov 11 2026. No macro, syntax, notation, axiom, sorry.
-/
import Derived.Test.YtpijameimeihgaaDoorChecked
import GoSem.PinnedTables
import GoSem.Claim
import GoSem.ClaimJoined
import GoSem.ClaimMapViews
import Derived.JoinedTies
import Derived.KernelRfl
namespace Go.Proofs.YtpijameimeihgaaDoor
/- THE CELL 'sum', in the pinned program and in every row, IS THE sha256 OF THE DUMP (.gsa) THAT YtpijameimeihgaaDoorProg.lean LOADS. Nothing in Lean hashes anything: it is a label: what it is worth is what the hold of that sum in a sandbox is worth. -/
noncomputable def Tryd.pinned : Pinned := { name := "ytpijameimeihgaadoor", sum := "9899dde3f2f426ed2a5a51d5102ea63577f5ca8121c61ee4b394476c1c5ac2e8", checked := Tryd.checked }
namespace Rows
def none {H : Type} : Left H := { results := [], args := [] }

/- WHAT THE LISTED PACKAGE-LEVEL VARIABLES READ AS WHEN THE CALL BEGINS. Each datum BY PROGRAM (the guide's laid-datum.mjs) off the statement by which the dump's own 'gosem.cut.vars' lays the variable. In a bare row this is a premise. The card (YtpijameimeihgaaDoorCards.lean) ties it to the program's text. -/
def laid_unicode_utf8_acceptRanges {H : Type} : DataW H := .agg [.agg [.lit (.int .u8 128), .lit (.int .u8 191)], .agg [.lit (.int .u8 160), .lit (.int .u8 191)], .agg [.lit (.int .u8 128), .lit (.int .u8 159)], .agg [.lit (.int .u8 144), .lit (.int .u8 191)], .agg [.lit (.int .u8 128), .lit (.int .u8 143)], .agg [.lit (.int .u8 0), .lit (.int .u8 0)], .agg [.lit (.int .u8 0), .lit (.int .u8 0)], .agg [.lit (.int .u8 0), .lit (.int .u8 0)], .agg [.lit (.int .u8 0), .lit (.int .u8 0)], .agg [.lit (.int .u8 0), .lit (.int .u8 0)], .agg [.lit (.int .u8 0), .lit (.int .u8 0)], .agg [.lit (.int .u8 0), .lit (.int .u8 0)], .agg [.lit (.int .u8 0), .lit (.int .u8 0)], .agg [.lit (.int .u8 0), .lit (.int .u8 0)], .agg [.lit (.int .u8 0), .lit (.int .u8 0)], .agg [.lit (.int .u8 0), .lit (.int .u8 0)]]
/-- One of Go's own tables, pinned by name: the form's constant. -/
def laid_unicode_utf8_first : DataW Unit := Go.Pinned.utf8First

/-- 'laws.FnExactIsBetween': WHATEVER THE INPUT: true; the input reads as it did. -/
def fnExactIsBetweenSpec : ChangeSpec := { name := "fnExactIsBetween", fn := fun _ => fun
  | [d1, d2, d3] => { results := [.lit (.bool true)], args := [d1, d2, d3] }
  | _ => none }
def fnExactIsBetweenRow : OpenClaim := { program := "ytpijameimeihgaadoor", sum := "9899dde3f2f426ed2a5a51d5102ea63577f5ca8121c61ee4b394476c1c5ac2e8", func := "loop.example/g01218/laws.FnExactIsBetween", spec := "fnExactIsBetween", inPlace := ["internal/bytealg.IndexByteString", "internal/bytealg.IndexString"], named := ["unicode/utf8.first", "unicode/utf8.acceptRanges", "internal/bytealg.MaxLen"], apart := false, laid := [("unicode/utf8.acceptRanges", laid_unicode_utf8_acceptRanges), ("unicode/utf8.first", laid_unicode_utf8_first)] }
def FnExactIsBetweenSaid : Prop := fnExactIsBetweenRow.holds Tryd.pinned (OpenSpec.ofChange fnExactIsBetweenSpec)

/-- ITS FALSE NEIGHBOUR: 'it returns false'. Refute it at one input. -/
def fnExactIsBetweenWrong : ChangeSpec := { name := "fnExactIsBetween", fn := fun _ => fun
  | [d1, d2, d3] => { results := [.lit (.bool false)], args := [d1, d2, d3] }
  | _ => none }
def FnExactIsBetweenWrongFalsely : Prop := fnExactIsBetweenRow.holds Tryd.pinned (OpenSpec.ofChange fnExactIsBetweenWrong)

/-- 'laws.FnExactFirstAt': WHATEVER THE INPUT: true; the input reads as it did. -/
def fnExactFirstAtSpec : ChangeSpec := { name := "fnExactFirstAt", fn := fun _ => fun
  | [d1, d2] => { results := [.lit (.bool true)], args := [d1, d2] }
  | _ => none }
def fnExactFirstAtRow : OpenClaim := { program := "ytpijameimeihgaadoor", sum := "9899dde3f2f426ed2a5a51d5102ea63577f5ca8121c61ee4b394476c1c5ac2e8", func := "loop.example/g01218/laws.FnExactFirstAt", spec := "fnExactFirstAt", inPlace := ["internal/bytealg.IndexByteString", "internal/bytealg.IndexString"], named := ["unicode/utf8.first", "unicode/utf8.acceptRanges", "internal/bytealg.MaxLen"], apart := false, laid := [("unicode/utf8.acceptRanges", laid_unicode_utf8_acceptRanges), ("unicode/utf8.first", laid_unicode_utf8_first)] }
def FnExactFirstAtSaid : Prop := fnExactFirstAtRow.holds Tryd.pinned (OpenSpec.ofChange fnExactFirstAtSpec)

/-- ITS FALSE NEIGHBOUR: 'it returns false'. Refute it at one input. -/
def fnExactFirstAtWrong : ChangeSpec := { name := "fnExactFirstAt", fn := fun _ => fun
  | [d1, d2] => { results := [.lit (.bool false)], args := [d1, d2] }
  | _ => none }
def FnExactFirstAtWrongFalsely : Prop := fnExactFirstAtRow.holds Tryd.pinned (OpenSpec.ofChange fnExactFirstAtWrong)

/-- 'laws.FnExactLastAt': WHATEVER THE INPUT: true; the input reads as it did. -/
def fnExactLastAtSpec : ChangeSpec := { name := "fnExactLastAt", fn := fun _ => fun
  | [d1, d2] => { results := [.lit (.bool true)], args := [d1, d2] }
  | _ => none }
def fnExactLastAtRow : OpenClaim := { program := "ytpijameimeihgaadoor", sum := "9899dde3f2f426ed2a5a51d5102ea63577f5ca8121c61ee4b394476c1c5ac2e8", func := "loop.example/g01218/laws.FnExactLastAt", spec := "fnExactLastAt", inPlace := ["internal/bytealg.IndexByteString", "internal/bytealg.IndexString"], unfollowed := true, recurses := true, named := ["unicode/utf8.first", "unicode/utf8.acceptRanges", "internal/bytealg.MaxLen"], apart := false, laid := [("unicode/utf8.acceptRanges", laid_unicode_utf8_acceptRanges), ("unicode/utf8.first", laid_unicode_utf8_first)] }
def FnExactLastAtSaid : Prop := fnExactLastAtRow.holds Tryd.pinned (OpenSpec.ofChange fnExactLastAtSpec)

/-- ITS FALSE NEIGHBOUR: 'it returns false'. Refute it at one input. -/
def fnExactLastAtWrong : ChangeSpec := { name := "fnExactLastAt", fn := fun _ => fun
  | [d1, d2] => { results := [.lit (.bool false)], args := [d1, d2] }
  | _ => none }
def FnExactLastAtWrongFalsely : Prop := fnExactLastAtRow.holds Tryd.pinned (OpenSpec.ofChange fnExactLastAtWrong)

/-- 'laws.FnExactTouchText': WHATEVER THE INPUT: true; the input reads as it did. -/
def fnExactTouchTextSpec : ChangeSpec := { name := "fnExactTouchText", fn := fun _ => fun
  | [d1, d2, d3] => { results := [.lit (.bool true)], args := [d1, d2, d3] }
  | _ => none }
def fnExactTouchTextRow : OpenClaim := { program := "ytpijameimeihgaadoor", sum := "9899dde3f2f426ed2a5a51d5102ea63577f5ca8121c61ee4b394476c1c5ac2e8", func := "loop.example/g01218/laws.FnExactTouchText", spec := "fnExactTouchText", inPlace := ["internal/bytealg.IndexByteString", "internal/bytealg.IndexString"], named := ["unicode/utf8.first", "unicode/utf8.acceptRanges", "internal/bytealg.MaxLen"], apart := false, laid := [("unicode/utf8.acceptRanges", laid_unicode_utf8_acceptRanges), ("unicode/utf8.first", laid_unicode_utf8_first)] }
def FnExactTouchTextSaid : Prop := fnExactTouchTextRow.holds Tryd.pinned (OpenSpec.ofChange fnExactTouchTextSpec)

/-- ITS FALSE NEIGHBOUR: 'it returns false'. Refute it at one input. -/
def fnExactTouchTextWrong : ChangeSpec := { name := "fnExactTouchText", fn := fun _ => fun
  | [d1, d2, d3] => { results := [.lit (.bool false)], args := [d1, d2, d3] }
  | _ => none }
def FnExactTouchTextWrongFalsely : Prop := fnExactTouchTextRow.holds Tryd.pinned (OpenSpec.ofChange fnExactTouchTextWrong)

/-- 'laws.FnExactIsMixed': WHATEVER THE INPUT: true; the input reads as it did. -/
def fnExactIsMixedSpec : ChangeSpec := { name := "fnExactIsMixed", fn := fun _ => fun
  | [d] => { results := [.lit (.bool true)], args := [d] }
  | _ => none }
def fnExactIsMixedRow : OpenClaim := { program := "ytpijameimeihgaadoor", sum := "9899dde3f2f426ed2a5a51d5102ea63577f5ca8121c61ee4b394476c1c5ac2e8", func := "loop.example/g01218/laws.FnExactIsMixed", spec := "fnExactIsMixed", inPlace := ["internal/bytealg.IndexByteString", "internal/bytealg.IndexString"], named := ["unicode/utf8.first", "unicode/utf8.acceptRanges", "internal/bytealg.MaxLen"], apart := false, laid := [("unicode/utf8.acceptRanges", laid_unicode_utf8_acceptRanges), ("unicode/utf8.first", laid_unicode_utf8_first)] }
def FnExactIsMixedSaid : Prop := fnExactIsMixedRow.holds Tryd.pinned (OpenSpec.ofChange fnExactIsMixedSpec)

/-- ITS FALSE NEIGHBOUR: 'it returns false'. Refute it at one input. -/
def fnExactIsMixedWrong : ChangeSpec := { name := "fnExactIsMixed", fn := fun _ => fun
  | [d] => { results := [.lit (.bool false)], args := [d] }
  | _ => none }
def FnExactIsMixedWrongFalsely : Prop := fnExactIsMixedRow.holds Tryd.pinned (OpenSpec.ofChange fnExactIsMixedWrong)

/-- 'laws.FnExactMixedOfPath': WHATEVER THE INPUT: true; the input reads as it did. -/
def fnExactMixedOfPathSpec : ChangeSpec := { name := "fnExactMixedOfPath", fn := fun _ => fun
  | [d] => { results := [.lit (.bool true)], args := [d] }
  | _ => none }
def fnExactMixedOfPathRow : OpenClaim := { program := "ytpijameimeihgaadoor", sum := "9899dde3f2f426ed2a5a51d5102ea63577f5ca8121c61ee4b394476c1c5ac2e8", func := "loop.example/g01218/laws.FnExactMixedOfPath", spec := "fnExactMixedOfPath", inPlace := ["internal/bytealg.IndexByteString", "internal/bytealg.IndexString"], named := ["unicode/utf8.first", "unicode/utf8.acceptRanges", "internal/bytealg.MaxLen"], apart := false, laid := [("unicode/utf8.acceptRanges", laid_unicode_utf8_acceptRanges), ("unicode/utf8.first", laid_unicode_utf8_first)] }
def FnExactMixedOfPathSaid : Prop := fnExactMixedOfPathRow.holds Tryd.pinned (OpenSpec.ofChange fnExactMixedOfPathSpec)

/-- ITS FALSE NEIGHBOUR: 'it returns false'. Refute it at one input. -/
def fnExactMixedOfPathWrong : ChangeSpec := { name := "fnExactMixedOfPath", fn := fun _ => fun
  | [d] => { results := [.lit (.bool false)], args := [d] }
  | _ => none }
def FnExactMixedOfPathWrongFalsely : Prop := fnExactMixedOfPathRow.holds Tryd.pinned (OpenSpec.ofChange fnExactMixedOfPathWrong)

/- THE SECOND FORM. 'bulk': how many values and letters a reading holds, each counted each time it is reached (what is shared counts as often as it is met; a slice's spare places count too). A statement '..UptoSaid' is the law's where the arguments, and the package variables that the reading takes, are together of bulk at most 1048576: NARROWER than '..Said'. Prove '..Said' where nothing that the law and all that it calls make is longer than what came in: it says more and counts as full. Else prove '..UptoSaid'. A law counts once. -/
mutual
def uptoBulk {H : Type} : DataW H → Nat
  | .lit (.string bytes) => bytes.length + 1
  | .lit _ => 1
  | .nil => 1
  | .ptr d => uptoBulk d + 1
  | .slice elems spare => uptoBulkAll elems + uptoBulkAll spare + 1
  | .agg parts => uptoBulkAll parts + 1
  | .iface _ d => uptoBulk d + 1
  | .map entries => uptoBulkEntries entries + 1
  | .held _ => 1
def uptoBulkAll {H : Type} : List (DataW H) → Nat
  | [] => 0
  | d :: r => uptoBulk d + uptoBulkAll r
def uptoBulkEntries {H : Type} : List (Lit × DataW H) → Nat
  | [] => 0
  | x :: r => uptoBulkEntry x + uptoBulkEntries r
def uptoBulkEntry {H : Type} : Lit × DataW H → Nat
  | (.string bytes, d) => bytes.length + uptoBulk d + 1
  | (_, d) => uptoBulk d + 1
 end
def uptoSmall : (H : Type) → List (DataW H) → Bool := fun _ ds => decide (uptoBulkAll ds ≤ 1048576)
def OpenSpec.upto (s : _root_.Go.ChangeSpec) : _root_.Go.OpenSpec := { _root_.Go.OpenSpec.ofChange s with cond := some uptoSmall }

/-- 'laws.FnExactIsBetween', WHERE WHAT IT READS IS OF BULK AT MOST 1048576: true; the input reads as it did. -/
def fnExactIsBetweenUptoRow : OpenClaim := { program := "ytpijameimeihgaadoor", sum := "9899dde3f2f426ed2a5a51d5102ea63577f5ca8121c61ee4b394476c1c5ac2e8", func := "loop.example/g01218/laws.FnExactIsBetween", spec := "fnExactIsBetween", inPlace := ["internal/bytealg.IndexByteString", "internal/bytealg.IndexString"], named := ["unicode/utf8.first", "unicode/utf8.acceptRanges", "internal/bytealg.MaxLen"], apart := false, laid := [("unicode/utf8.acceptRanges", laid_unicode_utf8_acceptRanges), ("unicode/utf8.first", laid_unicode_utf8_first)], narrowed := true }
def FnExactIsBetweenUptoSaid : Prop := fnExactIsBetweenUptoRow.holds Tryd.pinned (OpenSpec.upto fnExactIsBetweenSpec)

/-- 'laws.FnExactFirstAt', WHERE WHAT IT READS IS OF BULK AT MOST 1048576: true; the input reads as it did. -/
def fnExactFirstAtUptoRow : OpenClaim := { program := "ytpijameimeihgaadoor", sum := "9899dde3f2f426ed2a5a51d5102ea63577f5ca8121c61ee4b394476c1c5ac2e8", func := "loop.example/g01218/laws.FnExactFirstAt", spec := "fnExactFirstAt", inPlace := ["internal/bytealg.IndexByteString", "internal/bytealg.IndexString"], named := ["unicode/utf8.first", "unicode/utf8.acceptRanges", "internal/bytealg.MaxLen"], apart := false, laid := [("unicode/utf8.acceptRanges", laid_unicode_utf8_acceptRanges), ("unicode/utf8.first", laid_unicode_utf8_first)], narrowed := true }
def FnExactFirstAtUptoSaid : Prop := fnExactFirstAtUptoRow.holds Tryd.pinned (OpenSpec.upto fnExactFirstAtSpec)

/-- 'laws.FnExactLastAt', WHERE WHAT IT READS IS OF BULK AT MOST 1048576: true; the input reads as it did. -/
def fnExactLastAtUptoRow : OpenClaim := { program := "ytpijameimeihgaadoor", sum := "9899dde3f2f426ed2a5a51d5102ea63577f5ca8121c61ee4b394476c1c5ac2e8", func := "loop.example/g01218/laws.FnExactLastAt", spec := "fnExactLastAt", inPlace := ["internal/bytealg.IndexByteString", "internal/bytealg.IndexString"], unfollowed := true, recurses := true, named := ["unicode/utf8.first", "unicode/utf8.acceptRanges", "internal/bytealg.MaxLen"], apart := false, laid := [("unicode/utf8.acceptRanges", laid_unicode_utf8_acceptRanges), ("unicode/utf8.first", laid_unicode_utf8_first)], narrowed := true }
def FnExactLastAtUptoSaid : Prop := fnExactLastAtUptoRow.holds Tryd.pinned (OpenSpec.upto fnExactLastAtSpec)

/-- 'laws.FnExactTouchText', WHERE WHAT IT READS IS OF BULK AT MOST 1048576: true; the input reads as it did. -/
def fnExactTouchTextUptoRow : OpenClaim := { program := "ytpijameimeihgaadoor", sum := "9899dde3f2f426ed2a5a51d5102ea63577f5ca8121c61ee4b394476c1c5ac2e8", func := "loop.example/g01218/laws.FnExactTouchText", spec := "fnExactTouchText", inPlace := ["internal/bytealg.IndexByteString", "internal/bytealg.IndexString"], named := ["unicode/utf8.first", "unicode/utf8.acceptRanges", "internal/bytealg.MaxLen"], apart := false, laid := [("unicode/utf8.acceptRanges", laid_unicode_utf8_acceptRanges), ("unicode/utf8.first", laid_unicode_utf8_first)], narrowed := true }
def FnExactTouchTextUptoSaid : Prop := fnExactTouchTextUptoRow.holds Tryd.pinned (OpenSpec.upto fnExactTouchTextSpec)

/-- 'laws.FnExactIsMixed', WHERE WHAT IT READS IS OF BULK AT MOST 1048576: true; the input reads as it did. -/
def fnExactIsMixedUptoRow : OpenClaim := { program := "ytpijameimeihgaadoor", sum := "9899dde3f2f426ed2a5a51d5102ea63577f5ca8121c61ee4b394476c1c5ac2e8", func := "loop.example/g01218/laws.FnExactIsMixed", spec := "fnExactIsMixed", inPlace := ["internal/bytealg.IndexByteString", "internal/bytealg.IndexString"], named := ["unicode/utf8.first", "unicode/utf8.acceptRanges", "internal/bytealg.MaxLen"], apart := false, laid := [("unicode/utf8.acceptRanges", laid_unicode_utf8_acceptRanges), ("unicode/utf8.first", laid_unicode_utf8_first)], narrowed := true }
def FnExactIsMixedUptoSaid : Prop := fnExactIsMixedUptoRow.holds Tryd.pinned (OpenSpec.upto fnExactIsMixedSpec)

/-- 'laws.FnExactMixedOfPath', WHERE WHAT IT READS IS OF BULK AT MOST 1048576: true; the input reads as it did. -/
def fnExactMixedOfPathUptoRow : OpenClaim := { program := "ytpijameimeihgaadoor", sum := "9899dde3f2f426ed2a5a51d5102ea63577f5ca8121c61ee4b394476c1c5ac2e8", func := "loop.example/g01218/laws.FnExactMixedOfPath", spec := "fnExactMixedOfPath", inPlace := ["internal/bytealg.IndexByteString", "internal/bytealg.IndexString"], named := ["unicode/utf8.first", "unicode/utf8.acceptRanges", "internal/bytealg.MaxLen"], apart := false, laid := [("unicode/utf8.acceptRanges", laid_unicode_utf8_acceptRanges), ("unicode/utf8.first", laid_unicode_utf8_first)], narrowed := true }
def FnExactMixedOfPathUptoSaid : Prop := fnExactMixedOfPathUptoRow.holds Tryd.pinned (OpenSpec.upto fnExactMixedOfPathSpec)

end Rows
end Go.Proofs.YtpijameimeihgaaDoor
