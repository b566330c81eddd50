/- What ntpmsg.Encode and its reference compute. -/
import Derived.Test.YtickoncgnjgciaaNtp
namespace Go.Proofs.Ytickoncgnjgciaa
open Go.RowKit
set_option linter.unusedSimpArgs false
set_option linter.unusedVariables false
theorem nchk_3 {l v m st po pr : Int} (h : nchk l v m st po pr ≠ 0) : nchk l v m st po pr = 3 := by unfold nchk at *; split <;> simp_all
end Go.Proofs.Ytickoncgnjgciaa
