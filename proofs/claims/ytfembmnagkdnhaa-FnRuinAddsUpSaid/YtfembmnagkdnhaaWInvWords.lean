import Derived.Test.YtfembmnagkdnhaaWInv
import Derived.Test.YtfembmnagkdnhaaWFootNe
namespace Go.Proofs.YtfembmnagkdnhaaW.PrintWords
open Go.RowKit
end Go.Proofs.YtfembmnagkdnhaaW.PrintWords
namespace Go.Proofs.YtfembmnagkdnhaaW.PrintLast
end Go.Proofs.YtfembmnagkdnhaaW.PrintLast
