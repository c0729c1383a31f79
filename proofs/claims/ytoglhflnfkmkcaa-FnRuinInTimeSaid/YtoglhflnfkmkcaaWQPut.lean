import Derived.Test.YtoglhflnfkmkcaaWWords
import Derived.Test.YtoglhflnfkmkcaaWLast
/-! ### 39. Stores into a row that may begin inside its block (Q): Q_form, Q_elem, Q_seg; scalars: Q_cell, Q_putg -/
namespace Go.Proofs.YtoglhflnfkmkcaaW.PrintWords
open Go.RowKit
end Go.Proofs.YtoglhflnfkmkcaaW.PrintWords
