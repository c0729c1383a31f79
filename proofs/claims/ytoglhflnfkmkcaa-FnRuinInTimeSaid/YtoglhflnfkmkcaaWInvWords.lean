import Derived.Test.YtoglhflnfkmkcaaWInv
import Derived.Test.YtoglhflnfkmkcaaWFootNe
namespace Go.Proofs.YtoglhflnfkmkcaaW.PrintWords
open Go.RowKit
end Go.Proofs.YtoglhflnfkmkcaaW.PrintWords
namespace Go.Proofs.YtoglhflnfkmkcaaW.PrintLast
end Go.Proofs.YtoglhflnfkmkcaaW.PrintLast
