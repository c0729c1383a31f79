import Derived.Test.YtfembmnagkdnhaaWApart
import Derived.Test.YtfembmnagkdnhaaWArr
/-! ### 42. append(v, make([]T, n)...): the operation comes as_ append with the number in the second place -/
namespace Go.Proofs.YtfembmnagkdnhaaW.PrintWords
open Go.RowKit
end Go.Proofs.YtfembmnagkdnhaaW.PrintWords
