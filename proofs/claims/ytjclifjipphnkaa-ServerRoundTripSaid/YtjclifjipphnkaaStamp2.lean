/- What stamp.Units, Short and Long, and stamp's reference of Time, Units, Short and Long compute. -/
import Derived.Test.YtjclifjipphnkaaStamp
namespace Go.Proofs.Ytjclifjipphnkaa
open Go.RowKit
set_option linter.unusedSimpArgs false
set_option linter.unusedVariables false
set_option maxRecDepth 100000
end Go.Proofs.Ytjclifjipphnkaa
