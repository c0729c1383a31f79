import Derived.Test.YtfembmnagkdnhaaWWords
/-! ### 58. A guarded operation whose guard is known to want it: the same goal without the guard -/
namespace Go.Proofs.YtfembmnagkdnhaaW.PrintWords
open Go.RowKit
end Go.Proofs.YtfembmnagkdnhaaW.PrintWords
