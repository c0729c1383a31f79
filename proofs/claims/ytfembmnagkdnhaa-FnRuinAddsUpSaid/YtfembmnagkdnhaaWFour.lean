import Derived.Test.YtfembmnagkdnhaaWTab
/-! ### 56. Four, five, six operations that may come up next, in any order -/
namespace Go.Proofs.YtfembmnagkdnhaaW.PrintLast
end Go.Proofs.YtfembmnagkdnhaaW.PrintLast
