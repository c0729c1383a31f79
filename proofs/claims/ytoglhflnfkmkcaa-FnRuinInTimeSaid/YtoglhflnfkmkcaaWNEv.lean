import Derived.Test.YtoglhflnfkmkcaaWN
/-! ### 48. N's events: append, a whole row appended, zeros appended, literals, make, stores, cuts, an element taken out -/
namespace Go.Proofs.YtoglhflnfkmkcaaW.PrintWords
open Go.RowKit
end Go.Proofs.YtoglhflnfkmkcaaW.PrintWords
