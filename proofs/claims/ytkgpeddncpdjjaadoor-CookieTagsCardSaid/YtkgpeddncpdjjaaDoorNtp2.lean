/- What ntpmsg.Encode and its reference compute. -/
import Derived.Test.YtkgpeddncpdjjaaDoorNtp
namespace Go.Proofs.YtkgpeddncpdjjaaDoor
open Go.RowKit
set_option linter.unusedSimpArgs false
set_option linter.unusedVariables false
set_option maxRecDepth 100000
theorem nchk_3 {l v m st po pr : Int} (h : nchk l v m st po pr ≠ 0) : nchk l v m st po pr = 3 := by unfold nchk at *; split <;> simp_all
end Go.Proofs.YtkgpeddncpdjjaaDoor
