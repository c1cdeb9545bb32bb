/- Plain facts about the functions that copy, compare and measure. -/
import Derived.Test.YtkhommmhkeohbaaQfD
namespace Go.Proofs.Sx
open Go.RowKit
set_option linter.unusedVariables false
set_option linter.unusedSimpArgs false

end Go.Proofs.Sx
