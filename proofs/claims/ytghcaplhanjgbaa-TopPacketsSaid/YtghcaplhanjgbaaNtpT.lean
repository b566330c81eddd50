/- The type of headers: its size, its zero; small laws on memory for regions that draw their order. -/
import Derived.Test.YtghcaplhanjgbaaBlk
namespace Go.Proofs.Ytghcaplhanjgbaa
open Go.RowKit
set_option linter.unusedSimpArgs false
set_option linter.unusedVariables false
set_option maxRecDepth 100000
abbrev zN : List Value := [.int .i64 0, .int .i64 0, .int .i64 0, .int .i64 0, .int .i64 0, .int .i64 0, .int .u32 0, .int .u32 0, .int .u32 0, .int .u64 0, .int .u64 0, .int .u64 0, .int .u64 0]
theorem zeroNtp : (Try.prog.info? 25).map (·.zero) = some (some (.agg zN.toArray)) := by kernel_rfl
theorem sizeNtp : (Try.prog.info? 25).map (·.size) = some 13 := by kernel_rfl
end Go.Proofs.Ytghcaplhanjgbaa
