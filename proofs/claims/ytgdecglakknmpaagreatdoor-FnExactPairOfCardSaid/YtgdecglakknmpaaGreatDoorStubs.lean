/- Contracts of functions that the printer does not take, in the printer's own form. No condition. -/
import Derived.Test.YtgdecglakknmpaaGreatDoorProg
import Derived.Shelf.Strings.SlTrimAscii
import Derived.Test.YtgdecglakknmpaaGreatDoorLays
import Derived.Test.YtgdecglakknmpaaGreatDoorRt
import Derived.Test.YtgdecglakknmpaaGreatDoorWWords
import Derived.Test.YtgdecglakknmpaaGreatDoorWLast
import Derived.Test.YtgdecglakknmpaaGreatDoorWMore
import Derived.WalkKit
import Derived.KernelRfl
import Derived.Below
namespace Go.Proofs.YtgdecglakknmpaaGreatDoor.Stub
open Go.RowKit Go.Proofs.YtgdecglakknmpaaGreatDoorW.PrintWords Go.Proofs.YtgdecglakknmpaaGreatDoorW.PrintLast Go.Lib Go.Shelf
set_option linter.unusedVariables false
set_option linter.unusedSimpArgs false
/-- strings.Trim at a cutset of ASCII bytes, by the shelf's contract. -/
def strings_Trim.f (a0 : ByteArray) (a1 : ByteArray) : Option ByteArray :=
  if a0.size ≤ 9223372036854775807 then if a1.size < 4294967281 then if a1.data.toList.all (fun b => decide (b.toNat < 128)) = true then some ⟨(Lib.trimS a0.data.toList a1.data.toList).toArray⟩ else none else none else none
theorem strings_Trim.calls (a0 : ByteArray) (a1 : ByteArray) (r : ByteArray) (w : World) (h : strings_Trim.f a0 a1 = some r) :
    Calls Tryz.prog 30 #[.string a0, .string a1] w fun e w' => e = .returned (.string r) ∧ Below w.heap.size w w' := by
  unfold strings_Trim.f at h
  by_cases h1 : a0.size ≤ 9223372036854775807
  · rw [if_pos h1] at h
    by_cases h2 : a1.size < 4294967281
    · rw [if_pos h2] at h
      by_cases h3 : a1.data.toList.all (fun b => decide (b.toNat < 128)) = true
      · rw [if_pos h3] at h
        obtain rfl := Option.some.inj h
        exact Any.strings_Trim_laid Tryz.lays160 (by kernel_rfl) a0 a1 w h1 h2 (ascii_of_all h3)
      · rw [if_neg h3] at h; cases h
    · rw [if_neg h2] at h; cases h
  · rw [if_neg h1] at h; cases h

/-- A path with U and D exchanged, by the library's replacer. -/
def impl_turned.f (a0 : ByteArray) : Option ByteArray := if a0.size ≤ 1000 then some ⟨a0.data.map Rp.turnB⟩ else none
theorem impl_turned.calls (a0 : ByteArray) (r : ByteArray) (w : World) (h : impl_turned.f a0 = some r) :
    Calls Tryz.prog 17 #[.string a0] w fun e w' => e = .returned (.string r) ∧ Below w.heap.size w w' := by
  unfold impl_turned.f at h
  by_cases c : a0.size ≤ 1000
  · rw [if_pos c] at h
    cases h
    exact Rp.turned_run w a0 c
  · rw [if_neg c] at h; cases h
/-- .. by the reference's own loop. -/
def spec_paTurn.f (a0 : ByteArray) : Option ByteArray := if a0.size ≤ 1000 then some ⟨a0.data.map Rp.turnP⟩ else none
theorem spec_paTurn.calls (a0 : ByteArray) (r : ByteArray) (w : World) (h : spec_paTurn.f a0 = some r) :
    Calls Tryz.prog 15 #[.string a0] w fun e w' => e = .returned (.string r) ∧ Below w.heap.size w w' := by
  unfold spec_paTurn.f at h
  by_cases c : a0.size ≤ 1000
  · rw [if_pos c] at h
    cases h
    exact Rp.pa_run w a0 c
  · rw [if_neg c] at h; cases h


end Go.Proofs.YtgdecglakknmpaaGreatDoor.Stub
