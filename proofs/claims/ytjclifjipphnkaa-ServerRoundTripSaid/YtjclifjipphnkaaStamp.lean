/- What the functions of package stamp, of package fixed below it, and of stamp's reference compute with numbers. -/
import Derived.Test.YtjclifjipphnkaaBits
namespace Go.Proofs.Ytjclifjipphnkaa
open Go.RowKit
set_option linter.unusedSimpArgs false
set_option linter.unusedVariables false
set_option maxRecDepth 100000
def spQ (t : Int) : Int := t / 1000000000
def spR (t : Int) : Int := t % 1000000000
/-- the units of the nanoseconds of t -/
def spF (t : Int) : Int := t % 1000000000 * 4294967296 / 1000000000
theorem spF_rng (t : Int) : 0 ≤ spF t ∧ spF t ≤ 4294967295 := by unfold spF; omega
theorem spR_rng (t : Int) : 0 ≤ spR t ∧ spR t ≤ 999999999 := by unfold spR; omega
theorem spQ_rng {t : Int} (h1 : -9223372036854775808 ≤ t) (h2 : t ≤ 9223372036854775807) : -9223372037 ≤ spQ t ∧ spQ t ≤ 9223372036 := by unfold spQ; omega
theorem spQR (t : Int) : t = spQ t * 1000000000 + spR t := by unfold spQ spR; omega
theorem spFR (t : Int) : spR t * 4294967296 / 1000000000 = spF t := rfl
set_option maxHeartbeats 400000 in
theorem rsplit_any (t : Int) (w : World) (h1 : -9223372036854775808 ≤ t) (h2 : t ≤ 9223372036854775807) :
    Calls Try.prog 66 #[.int .i64 t] w fun e w' => e = .returned (.tuple #[.int .i64 (spQ t), .int .i64 (spR t)]) ∧ w = w' := by
  obtain ⟨d1, d2, d3, d4, d5⟩ := tdm t 1000000000 (by decide)
  have D1 := Lib.hid d1
  clear d1
  go_enter Try.func66, Try.ntmps66
  go_wp2
  all_goals
    go_ret2
    have d1 := D1.out
    refine ⟨tup2 (vint ?_) (vint ?_), rfl⟩ <;> (first | unfold spQ | unfold spR) <;> (try unfold wrap64) <;> omega
end Go.Proofs.Ytjclifjipphnkaa
