import Derived.Test.YtfembmnagkdnhaaWFootNe
/-! ### 54. Behind orders that were drawn quietly: the same facts at the world's new name; a flat row's foot -/
namespace Go.Proofs.YtfembmnagkdnhaaW.PrintWords
open Go.RowKit
end Go.Proofs.YtfembmnagkdnhaaW.PrintWords
