/-
  NARROWER THAN 'FOR EVERY INPUT', by the rows' own cells (each row's printed sentence says how): FnExactIsWay: laid · FnExactEndOfWay: laid · FnExactCellsOfWay: laid · FnExactDoMeet: laid · FnExactFirstMeetingOf: laid · FnExactSwapTails: laid.
  DERIVED. THE GIVEN ROWS OF THIS SEAT. 6 by the template 'for every input the law returns true; each argument reads behind the call as it read before'; 0 by the template 'total and deterministic' (their statements: YtkjhfafjfebmjaaDoorTotals.lean).
  GIVEN WITH THE SEED: the statements are not yours to turn. If you find one false, say at which input.
  Laid BY PROGRAM, IN A SANDBOX (cutbox-rows.mjs): the forced cells as the released guide's own fill.sh prints them over the translation 239cac8e267ca98d… (all of the seat's roots in one cut). By AI agents, Wed Nov 11 2026. No macro, syntax, notation, axiom, sorry.
-/
import Derived.Test.YtkjhfafjfebmjaaDoorChecked
import GoSem.PinnedTables
import GoSem.Claim
import GoSem.ClaimJoined
import GoSem.ClaimMapViews
import Derived.JoinedTies
import Derived.KernelRfl
namespace Go.Proofs.YtkjhfafjfebmjaaDoor
/- THE CELL 'sum', in the pinned program and in every row, IS THE sha256 OF THE DUMP (.gsa) THAT YtkjhfafjfebmjaaDoorProg.lean LOADS. Nothing in Lean hashes anything: it is a label: what it is worth is what the hold of that sum in a sandbox is worth. -/
noncomputable def Tryd.pinned : Pinned := { name := "ytkjhfafjfebmjaadoor", sum := "239cac8e267ca98d4b9888c85292278c2912c0372406c7e61b2586367fbe3c06", checked := Tryd.checked }
namespace Rows
def none {H : Type} : Left H := { results := [], args := [] }

/- WHAT THE LISTED PACKAGE-LEVEL VARIABLES READ AS WHEN THE CALL BEGINS. Each datum BY PROGRAM (the guide's laid-datum.mjs) off the statement by which the dump's own 'gosem.cut.vars' lays the variable. In a bare row this is a premise. The card (YtkjhfafjfebmjaaDoorCards.lean) ties it to the program's text. -/
def laid_unicode_utf8_acceptRanges {H : Type} : DataW H := .agg [.agg [.lit (.int .u8 128), .lit (.int .u8 191)], .agg [.lit (.int .u8 160), .lit (.int .u8 191)], .agg [.lit (.int .u8 128), .lit (.int .u8 159)], .agg [.lit (.int .u8 144), .lit (.int .u8 191)], .agg [.lit (.int .u8 128), .lit (.int .u8 143)], .agg [.lit (.int .u8 0), .lit (.int .u8 0)], .agg [.lit (.int .u8 0), .lit (.int .u8 0)], .agg [.lit (.int .u8 0), .lit (.int .u8 0)], .agg [.lit (.int .u8 0), .lit (.int .u8 0)], .agg [.lit (.int .u8 0), .lit (.int .u8 0)], .agg [.lit (.int .u8 0), .lit (.int .u8 0)], .agg [.lit (.int .u8 0), .lit (.int .u8 0)], .agg [.lit (.int .u8 0), .lit (.int .u8 0)], .agg [.lit (.int .u8 0), .lit (.int .u8 0)], .agg [.lit (.int .u8 0), .lit (.int .u8 0)], .agg [.lit (.int .u8 0), .lit (.int .u8 0)]]
/-- One of Go's own tables, pinned by name: the form's constant. -/
def laid_unicode_utf8_first : DataW Unit := Go.Pinned.utf8First

/-- 'laws.FnExactIsWay': WHATEVER THE INPUT: true; the input reads as it did. -/
def fnExactIsWaySpec : ChangeSpec := { name := "fnExactIsWay", fn := fun _ => fun
  | [d] => { results := [.lit (.bool true)], args := [d] }
  | _ => none }
def fnExactIsWayRow : OpenClaim := { program := "ytkjhfafjfebmjaadoor", sum := "239cac8e267ca98d4b9888c85292278c2912c0372406c7e61b2586367fbe3c06", func := "loop.example/g01218/laws.FnExactIsWay", spec := "fnExactIsWay", inPlace := ["internal/bytealg.IndexByteString", "internal/bytealg.IndexString"], named := ["unicode/utf8.first", "unicode/utf8.acceptRanges", "internal/bytealg.MaxLen"], apart := false, laid := [("unicode/utf8.acceptRanges", laid_unicode_utf8_acceptRanges), ("unicode/utf8.first", laid_unicode_utf8_first)] }
def FnExactIsWaySaid : Prop := fnExactIsWayRow.holds Tryd.pinned (OpenSpec.ofChange fnExactIsWaySpec)

/-- ITS FALSE NEIGHBOUR: 'it returns false'. Refute it at one input. -/
def fnExactIsWayWrong : ChangeSpec := { name := "fnExactIsWay", fn := fun _ => fun
  | [d] => { results := [.lit (.bool false)], args := [d] }
  | _ => none }
def FnExactIsWayWrongFalsely : Prop := fnExactIsWayRow.holds Tryd.pinned (OpenSpec.ofChange fnExactIsWayWrong)

/-- 'laws.FnExactEndOfWay': WHATEVER THE INPUT: true; the input reads as it did. -/
def fnExactEndOfWaySpec : ChangeSpec := { name := "fnExactEndOfWay", fn := fun _ => fun
  | [d] => { results := [.lit (.bool true)], args := [d] }
  | _ => none }
def fnExactEndOfWayRow : OpenClaim := { program := "ytkjhfafjfebmjaadoor", sum := "239cac8e267ca98d4b9888c85292278c2912c0372406c7e61b2586367fbe3c06", func := "loop.example/g01218/laws.FnExactEndOfWay", spec := "fnExactEndOfWay", inPlace := ["internal/bytealg.IndexByteString", "internal/bytealg.IndexString"], named := ["unicode/utf8.first", "unicode/utf8.acceptRanges", "internal/bytealg.MaxLen"], apart := false, laid := [("unicode/utf8.acceptRanges", laid_unicode_utf8_acceptRanges), ("unicode/utf8.first", laid_unicode_utf8_first)] }
def FnExactEndOfWaySaid : Prop := fnExactEndOfWayRow.holds Tryd.pinned (OpenSpec.ofChange fnExactEndOfWaySpec)

/-- ITS FALSE NEIGHBOUR: 'it returns false'. Refute it at one input. -/
def fnExactEndOfWayWrong : ChangeSpec := { name := "fnExactEndOfWay", fn := fun _ => fun
  | [d] => { results := [.lit (.bool false)], args := [d] }
  | _ => none }
def FnExactEndOfWayWrongFalsely : Prop := fnExactEndOfWayRow.holds Tryd.pinned (OpenSpec.ofChange fnExactEndOfWayWrong)

/-- 'laws.FnExactCellsOfWay': WHATEVER THE INPUT: true; the input reads as it did. -/
def fnExactCellsOfWaySpec : ChangeSpec := { name := "fnExactCellsOfWay", fn := fun _ => fun
  | [d] => { results := [.lit (.bool true)], args := [d] }
  | _ => none }
def fnExactCellsOfWayRow : OpenClaim := { program := "ytkjhfafjfebmjaadoor", sum := "239cac8e267ca98d4b9888c85292278c2912c0372406c7e61b2586367fbe3c06", func := "loop.example/g01218/laws.FnExactCellsOfWay", spec := "fnExactCellsOfWay", inPlace := ["internal/bytealg.IndexByteString", "internal/bytealg.IndexString"], named := ["unicode/utf8.first", "unicode/utf8.acceptRanges", "internal/bytealg.MaxLen"], apart := false, laid := [("unicode/utf8.acceptRanges", laid_unicode_utf8_acceptRanges), ("unicode/utf8.first", laid_unicode_utf8_first)] }
def FnExactCellsOfWaySaid : Prop := fnExactCellsOfWayRow.holds Tryd.pinned (OpenSpec.ofChange fnExactCellsOfWaySpec)

/-- ITS FALSE NEIGHBOUR: 'it returns false'. Refute it at one input. -/
def fnExactCellsOfWayWrong : ChangeSpec := { name := "fnExactCellsOfWay", fn := fun _ => fun
  | [d] => { results := [.lit (.bool false)], args := [d] }
  | _ => none }
def FnExactCellsOfWayWrongFalsely : Prop := fnExactCellsOfWayRow.holds Tryd.pinned (OpenSpec.ofChange fnExactCellsOfWayWrong)

/-- 'laws.FnExactDoMeet': WHATEVER THE INPUT: true; the input reads as it did. -/
def fnExactDoMeetSpec : ChangeSpec := { name := "fnExactDoMeet", fn := fun _ => fun
  | [d1, d2] => { results := [.lit (.bool true)], args := [d1, d2] }
  | _ => none }
def fnExactDoMeetRow : OpenClaim := { program := "ytkjhfafjfebmjaadoor", sum := "239cac8e267ca98d4b9888c85292278c2912c0372406c7e61b2586367fbe3c06", func := "loop.example/g01218/laws.FnExactDoMeet", spec := "fnExactDoMeet", inPlace := ["internal/bytealg.IndexByteString", "internal/bytealg.IndexString"], named := ["unicode/utf8.first", "unicode/utf8.acceptRanges", "internal/bytealg.MaxLen"], apart := false, laid := [("unicode/utf8.acceptRanges", laid_unicode_utf8_acceptRanges), ("unicode/utf8.first", laid_unicode_utf8_first)] }
def FnExactDoMeetSaid : Prop := fnExactDoMeetRow.holds Tryd.pinned (OpenSpec.ofChange fnExactDoMeetSpec)

/-- ITS FALSE NEIGHBOUR: 'it returns false'. Refute it at one input. -/
def fnExactDoMeetWrong : ChangeSpec := { name := "fnExactDoMeet", fn := fun _ => fun
  | [d1, d2] => { results := [.lit (.bool false)], args := [d1, d2] }
  | _ => none }
def FnExactDoMeetWrongFalsely : Prop := fnExactDoMeetRow.holds Tryd.pinned (OpenSpec.ofChange fnExactDoMeetWrong)

/-- 'laws.FnExactFirstMeetingOf': WHATEVER THE INPUT: true; the input reads as it did. -/
def fnExactFirstMeetingOfSpec : ChangeSpec := { name := "fnExactFirstMeetingOf", fn := fun _ => fun
  | [d1, d2] => { results := [.lit (.bool true)], args := [d1, d2] }
  | _ => none }
def fnExactFirstMeetingOfRow : OpenClaim := { program := "ytkjhfafjfebmjaadoor", sum := "239cac8e267ca98d4b9888c85292278c2912c0372406c7e61b2586367fbe3c06", func := "loop.example/g01218/laws.FnExactFirstMeetingOf", spec := "fnExactFirstMeetingOf", inPlace := ["internal/bytealg.IndexByteString", "internal/bytealg.IndexString"], named := ["unicode/utf8.first", "unicode/utf8.acceptRanges", "internal/bytealg.MaxLen"], apart := false, laid := [("unicode/utf8.acceptRanges", laid_unicode_utf8_acceptRanges), ("unicode/utf8.first", laid_unicode_utf8_first)] }
def FnExactFirstMeetingOfSaid : Prop := fnExactFirstMeetingOfRow.holds Tryd.pinned (OpenSpec.ofChange fnExactFirstMeetingOfSpec)

/-- ITS FALSE NEIGHBOUR: 'it returns false'. Refute it at one input. -/
def fnExactFirstMeetingOfWrong : ChangeSpec := { name := "fnExactFirstMeetingOf", fn := fun _ => fun
  | [d1, d2] => { results := [.lit (.bool false)], args := [d1, d2] }
  | _ => none }
def FnExactFirstMeetingOfWrongFalsely : Prop := fnExactFirstMeetingOfRow.holds Tryd.pinned (OpenSpec.ofChange fnExactFirstMeetingOfWrong)

/-- 'laws.FnExactSwapTails': WHATEVER THE INPUT: true; the input reads as it did. -/
def fnExactSwapTailsSpec : ChangeSpec := { name := "fnExactSwapTails", fn := fun _ => fun
  | [d1, d2] => { results := [.lit (.bool true)], args := [d1, d2] }
  | _ => none }
def fnExactSwapTailsRow : OpenClaim := { program := "ytkjhfafjfebmjaadoor", sum := "239cac8e267ca98d4b9888c85292278c2912c0372406c7e61b2586367fbe3c06", func := "loop.example/g01218/laws.FnExactSwapTails", spec := "fnExactSwapTails", inPlace := ["internal/bytealg.IndexByteString", "internal/bytealg.IndexString"], named := ["unicode/utf8.first", "unicode/utf8.acceptRanges", "internal/bytealg.MaxLen"], apart := false, laid := [("unicode/utf8.acceptRanges", laid_unicode_utf8_acceptRanges), ("unicode/utf8.first", laid_unicode_utf8_first)] }
def FnExactSwapTailsSaid : Prop := fnExactSwapTailsRow.holds Tryd.pinned (OpenSpec.ofChange fnExactSwapTailsSpec)

/-- ITS FALSE NEIGHBOUR: 'it returns false'. Refute it at one input. -/
def fnExactSwapTailsWrong : ChangeSpec := { name := "fnExactSwapTails", fn := fun _ => fun
  | [d1, d2] => { results := [.lit (.bool false)], args := [d1, d2] }
  | _ => none }
def FnExactSwapTailsWrongFalsely : Prop := fnExactSwapTailsRow.holds Tryd.pinned (OpenSpec.ofChange fnExactSwapTailsWrong)

/- THE SECOND FORM. 'bulk': how many values and letters a reading holds, each counted each time it is reached (what is shared counts as often as it is met; a slice's spare places count too). A statement '..UptoSaid' is the law's where the arguments, and the package variables that the reading takes, are together of bulk at most 1048576: NARROWER than '..Said'. Prove '..Said' where nothing that the law and all that it calls make is longer than what came in: it says more and counts as full. Else prove '..UptoSaid'. A law counts once. -/
mutual
def uptoBulk {H : Type} : DataW H → Nat
  | .lit (.string bytes) => bytes.length + 1
  | .lit _ => 1
  | .nil => 1
  | .ptr d => uptoBulk d + 1
  | .slice elems spare => uptoBulkAll elems + uptoBulkAll spare + 1
  | .agg parts => uptoBulkAll parts + 1
  | .iface _ d => uptoBulk d + 1
  | .map entries => uptoBulkEntries entries + 1
  | .held _ => 1
def uptoBulkAll {H : Type} : List (DataW H) → Nat
  | [] => 0
  | d :: r => uptoBulk d + uptoBulkAll r
def uptoBulkEntries {H : Type} : List (Lit × DataW H) → Nat
  | [] => 0
  | x :: r => uptoBulkEntry x + uptoBulkEntries r
def uptoBulkEntry {H : Type} : Lit × DataW H → Nat
  | (.string bytes, d) => bytes.length + uptoBulk d + 1
  | (_, d) => uptoBulk d + 1
 end
def uptoSmall : (H : Type) → List (DataW H) → Bool := fun _ ds => decide (uptoBulkAll ds ≤ 1048576)
def OpenSpec.upto (s : _root_.Go.ChangeSpec) : _root_.Go.OpenSpec := { _root_.Go.OpenSpec.ofChange s with cond := some uptoSmall }

/-- 'laws.FnExactIsWay', WHERE WHAT IT READS IS OF BULK AT MOST 1048576: true; the input reads as it did. -/
def fnExactIsWayUptoRow : OpenClaim := { program := "ytkjhfafjfebmjaadoor", sum := "239cac8e267ca98d4b9888c85292278c2912c0372406c7e61b2586367fbe3c06", func := "loop.example/g01218/laws.FnExactIsWay", spec := "fnExactIsWay", inPlace := ["internal/bytealg.IndexByteString", "internal/bytealg.IndexString"], named := ["unicode/utf8.first", "unicode/utf8.acceptRanges", "internal/bytealg.MaxLen"], apart := false, laid := [("unicode/utf8.acceptRanges", laid_unicode_utf8_acceptRanges), ("unicode/utf8.first", laid_unicode_utf8_first)], narrowed := true }
def FnExactIsWayUptoSaid : Prop := fnExactIsWayUptoRow.holds Tryd.pinned (OpenSpec.upto fnExactIsWaySpec)

/-- 'laws.FnExactEndOfWay', WHERE WHAT IT READS IS OF BULK AT MOST 1048576: true; the input reads as it did. -/
def fnExactEndOfWayUptoRow : OpenClaim := { program := "ytkjhfafjfebmjaadoor", sum := "239cac8e267ca98d4b9888c85292278c2912c0372406c7e61b2586367fbe3c06", func := "loop.example/g01218/laws.FnExactEndOfWay", spec := "fnExactEndOfWay", inPlace := ["internal/bytealg.IndexByteString", "internal/bytealg.IndexString"], named := ["unicode/utf8.first", "unicode/utf8.acceptRanges", "internal/bytealg.MaxLen"], apart := false, laid := [("unicode/utf8.acceptRanges", laid_unicode_utf8_acceptRanges), ("unicode/utf8.first", laid_unicode_utf8_first)], narrowed := true }
def FnExactEndOfWayUptoSaid : Prop := fnExactEndOfWayUptoRow.holds Tryd.pinned (OpenSpec.upto fnExactEndOfWaySpec)

/-- 'laws.FnExactCellsOfWay', WHERE WHAT IT READS IS OF BULK AT MOST 1048576: true; the input reads as it did. -/
def fnExactCellsOfWayUptoRow : OpenClaim := { program := "ytkjhfafjfebmjaadoor", sum := "239cac8e267ca98d4b9888c85292278c2912c0372406c7e61b2586367fbe3c06", func := "loop.example/g01218/laws.FnExactCellsOfWay", spec := "fnExactCellsOfWay", inPlace := ["internal/bytealg.IndexByteString", "internal/bytealg.IndexString"], named := ["unicode/utf8.first", "unicode/utf8.acceptRanges", "internal/bytealg.MaxLen"], apart := false, laid := [("unicode/utf8.acceptRanges", laid_unicode_utf8_acceptRanges), ("unicode/utf8.first", laid_unicode_utf8_first)], narrowed := true }
def FnExactCellsOfWayUptoSaid : Prop := fnExactCellsOfWayUptoRow.holds Tryd.pinned (OpenSpec.upto fnExactCellsOfWaySpec)

/-- 'laws.FnExactDoMeet', WHERE WHAT IT READS IS OF BULK AT MOST 1048576: true; the input reads as it did. -/
def fnExactDoMeetUptoRow : OpenClaim := { program := "ytkjhfafjfebmjaadoor", sum := "239cac8e267ca98d4b9888c85292278c2912c0372406c7e61b2586367fbe3c06", func := "loop.example/g01218/laws.FnExactDoMeet", spec := "fnExactDoMeet", inPlace := ["internal/bytealg.IndexByteString", "internal/bytealg.IndexString"], named := ["unicode/utf8.first", "unicode/utf8.acceptRanges", "internal/bytealg.MaxLen"], apart := false, laid := [("unicode/utf8.acceptRanges", laid_unicode_utf8_acceptRanges), ("unicode/utf8.first", laid_unicode_utf8_first)], narrowed := true }
def FnExactDoMeetUptoSaid : Prop := fnExactDoMeetUptoRow.holds Tryd.pinned (OpenSpec.upto fnExactDoMeetSpec)

/-- 'laws.FnExactFirstMeetingOf', WHERE WHAT IT READS IS OF BULK AT MOST 1048576: true; the input reads as it did. -/
def fnExactFirstMeetingOfUptoRow : OpenClaim := { program := "ytkjhfafjfebmjaadoor", sum := "239cac8e267ca98d4b9888c85292278c2912c0372406c7e61b2586367fbe3c06", func := "loop.example/g01218/laws.FnExactFirstMeetingOf", spec := "fnExactFirstMeetingOf", inPlace := ["internal/bytealg.IndexByteString", "internal/bytealg.IndexString"], named := ["unicode/utf8.first", "unicode/utf8.acceptRanges", "internal/bytealg.MaxLen"], apart := false, laid := [("unicode/utf8.acceptRanges", laid_unicode_utf8_acceptRanges), ("unicode/utf8.first", laid_unicode_utf8_first)], narrowed := true }
def FnExactFirstMeetingOfUptoSaid : Prop := fnExactFirstMeetingOfUptoRow.holds Tryd.pinned (OpenSpec.upto fnExactFirstMeetingOfSpec)

/-- 'laws.FnExactSwapTails', WHERE WHAT IT READS IS OF BULK AT MOST 1048576: true; the input reads as it did. -/
def fnExactSwapTailsUptoRow : OpenClaim := { program := "ytkjhfafjfebmjaadoor", sum := "239cac8e267ca98d4b9888c85292278c2912c0372406c7e61b2586367fbe3c06", func := "loop.example/g01218/laws.FnExactSwapTails", spec := "fnExactSwapTails", inPlace := ["internal/bytealg.IndexByteString", "internal/bytealg.IndexString"], named := ["unicode/utf8.first", "unicode/utf8.acceptRanges", "internal/bytealg.MaxLen"], apart := false, laid := [("unicode/utf8.acceptRanges", laid_unicode_utf8_acceptRanges), ("unicode/utf8.first", laid_unicode_utf8_first)], narrowed := true }
def FnExactSwapTailsUptoSaid : Prop := fnExactSwapTailsUptoRow.holds Tryd.pinned (OpenSpec.upto fnExactSwapTailsSpec)

end Rows
end Go.Proofs.YtkjhfafjfebmjaaDoor
