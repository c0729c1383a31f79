/- Contracts of functions that the printer does not take, in the printer's own form. No condition. -/
import Derived.Test.YtoglhflnfkmkcaaCb
import Derived.Test.YtoglhflnfkmkcaaWWords
import Derived.Test.YtoglhflnfkmkcaaWMore
import Derived.Below
namespace Go.Proofs.Ytoglhflnfkmkcaa.Stub
open Go.RowKit Go.Proofs.YtoglhflnfkmkcaaW.PrintWords Go.Proofs.YtoglhflnfkmkcaaW.PrintLast Go.Proofs.YtoglhflnfkmkcaaW.PrintMore
theorem impl_CountBetween.calls (k : Nat) (a0 a1 a2 a3 : Int) (r0 : Int) (r1 : Bool) (w : World) (h : impl_CountBetween.f k a0 a1 a2 a3 = some (r0, r1)) :
    Calls Try.prog 20 #[.int .i64 a0, .int .i64 a1, .int .i64 a2, .int .i64 a3] w fun e w' => e = .returned (.tuple #[.int .i64 r0, .bool r1]) ∧ Below w.heap.size w w' := Cb.calls k a0 a1 a2 a3 r0 r1 w h
end Go.Proofs.Ytoglhflnfkmkcaa.Stub
