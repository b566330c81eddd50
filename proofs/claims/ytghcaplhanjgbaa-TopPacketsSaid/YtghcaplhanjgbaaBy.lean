/- The library's bytes.Equal, bytes.Clone and bytes.Repeat at one byte and twelve. -/
import Derived.Test.YtghcaplhanjgbaaStr
import Derived.Test.YtghcaplhanjgbaaSlices
import Derived.Test.YtghcaplhanjgbaaOwn
import Derived.Test.YtghcaplhanjgbaaKp
import Derived.Lib.MakeNoZero
import Derived.Laws.CopyOwn
import Derived.Laws.Externs
import Derived.Deep.RegionLaw
import Derived.WalkSpells
namespace Go.Proofs.Ytghcaplhanjgbaa
open Go.RowKit
set_option linter.unusedSimpArgs false
set_option linter.unusedVariables false
set_option maxRecDepth 100000
theorem strOf_conv' {w : World} {lo hi c n : Nat} {A : Option Addr} {l : List Int} (hn : l.length = n) (h : Bs w lo hi A l) :
    (convert 27 9 (.slice A n c)).run Try.prog w = .ok (.string (strOf l)) w := by
  by_cases h0 : 0 < n
  · exact strOf_conv hn h h0
  · obtain rfl : n = 0 := by omega
    obtain rfl : l = [] := List.eq_nil_of_length_eq_zero hn
    rcases A with _ | a
    · simp [convert, run_underlying Try.underlying27, run_underlying Try.underlying9, run_underlying Try.underlying5, strOf, loadCells, loadCellsFrom, Sem.run_bind]
      simp [Conv.bytesToString]
      rfl
    · exact run_convert_bytes_back (P := Try.prog) w 27 9 5 a c [] Try.underlying27 Try.underlying5 Try.underlying9 (fun j hj => absurd hj (by simp))
theorem strOf_inj {l m : List Int} (hl : Byt l) (hm : Byt m) : (strOf l = strOf m) ↔ l = m := ⟨fun h => by rw [← bl_strOf hl, ← bl_strOf hm, h], fun h => by rw [h]⟩
end Go.Proofs.Ytghcaplhanjgbaa
