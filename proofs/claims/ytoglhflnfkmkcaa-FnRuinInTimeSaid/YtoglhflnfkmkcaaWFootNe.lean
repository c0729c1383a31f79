import Derived.Test.YtoglhflnfkmkcaaWN
/-! ### 52. A row that stays read whatever happens to a block (a set of blocks) doesn't lie there -/
namespace Go.Proofs.YtoglhflnfkmkcaaW.PrintWords
open Go.RowKit
end Go.Proofs.YtoglhflnfkmkcaaW.PrintWords
