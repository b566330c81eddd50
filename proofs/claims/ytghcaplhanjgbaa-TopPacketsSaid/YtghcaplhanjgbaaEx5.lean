/- The contract of Parse of the reference. -/
import Derived.Test.YtghcaplhanjgbaaEx4
namespace Go.Proofs.Ytghcaplhanjgbaa
open Go.RowKit
set_option linter.unusedSimpArgs false
set_option linter.unusedVariables false
set_option maxRecDepth 100000
/-- the state of the loop -/
def RParR (w0 : World) (PR : Flds × List Int × Int) (l : List Int) (wr : World) (av lv : Value) : Prop :=
  ∃ (T : List XT) (A : Option Addr) (c k f : Nat), lv = .slice A T.length c ∧ XOT wr w0.heap.size A c T ∧ av = .int .i64 k ∧ k ≤ l.length ∧ l.length - k ≤ f ∧ prs f (flds T) (l.drop k) = PR ∧ T.length ≤ 16 ∧ Below w0.heap.size w0 wr
end Go.Proofs.Ytghcaplhanjgbaa
