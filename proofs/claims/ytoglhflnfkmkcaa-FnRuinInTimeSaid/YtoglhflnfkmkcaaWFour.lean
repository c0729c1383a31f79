import Derived.Test.YtoglhflnfkmkcaaWTab
/-! ### 56. Four, five, six operations that may come up next, in any order -/
namespace Go.Proofs.YtoglhflnfkmkcaaW.PrintLast
end Go.Proofs.YtoglhflnfkmkcaaW.PrintLast
