import Derived.Test.YtfembmnagkdnhaaWN
/-! ### 52. A row that stays read whatever happens to a block (a set of blocks) doesn't lie there -/
namespace Go.Proofs.YtfembmnagkdnhaaW.PrintWords
open Go.RowKit
end Go.Proofs.YtfembmnagkdnhaaW.PrintWords
