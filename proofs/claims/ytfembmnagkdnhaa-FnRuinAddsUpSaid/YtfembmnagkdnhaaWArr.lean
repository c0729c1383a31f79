import Derived.Test.YtfembmnagkdnhaaWWords
/-! ### 41. Arrays '[n]T' as_ values: a kind (a field, an element of a row), an element read, an element set -/
namespace Go.Proofs.YtfembmnagkdnhaaW.PrintWords
open Go.RowKit
end Go.Proofs.YtfembmnagkdnhaaW.PrintWords
