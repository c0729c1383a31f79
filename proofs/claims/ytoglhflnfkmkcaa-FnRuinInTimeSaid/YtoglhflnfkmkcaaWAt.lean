import Derived.Test.YtoglhflnfkmkcaaWFootNe
/-! ### 54. Behind orders that were drawn quietly: the same facts at the world's new name; a flat row's foot -/
namespace Go.Proofs.YtoglhflnfkmkcaaW.PrintWords
open Go.RowKit
end Go.Proofs.YtoglhflnfkmkcaaW.PrintWords
