/- The plain laws on timestamps: numbers alone, no program. -/
import Derived.Test.YtickoncgnjgciaaStamp2
namespace Go.Proofs.Ytickoncgnjgciaa
open Go.RowKit
set_option linter.unusedSimpArgs false
set_option linter.unusedVariables false
/-- an instant in units, rounded down -/
def unU (t : Int) : Int := spQ t * 4294967296 + spF t
theorem nanos_U (t : Int) : nanosN (unU t) = t := by
  have h := spF_rng t
  have e1 : unU t / 4294967296 = spQ t := by unfold unU; omega
  have e2 : unU t % 4294967296 = spF t := by unfold unU; omega
  unfold nanosN
  rw [e1, e2]
  unfold nanoN spF spQ
  omega
theorem tmV_eq (s p : Int) : tmV s p = nanosN (unU p + diffN s (ofN p)) := by
  have e1 : (unU p + diffN s (ofN p)) % 4294967296 = tmLow s p % 4294967296 := by unfold unU tmLow; omega
  have e2 : (unU p + diffN s (ofN p)) / 4294967296 = tmHi s p := by unfold unU tmHi tmLow; omega
  unfold tmV nanosN
  rw [e1, e2]
theorem diff_U {a b : Int} (h : -9223372036854775808 ≤ unU a - unU b ∧ unU a - unU b ≤ 9223372036854775807) : diffN (ofN a) (ofN b) = unU a - unU b := by
  have e1 : ofN a = unU a % 18446744073709551616 := rfl
  have e2 : ofN b = unU b % 18446744073709551616 := rfl
  rw [e1, e2]; unfold diffN wrap64; omega
/-- units between instants -/
theorem unU_le {a b : Int} (h : a ≤ b) : unU a ≤ unU b := by
  have ha := spF_rng a
  have hb := spF_rng b
  unfold unU
  by_cases hq : spQ a = spQ b
  · have hr : spR a ≤ spR b := by have h1 := spQR a; have h2 := spQR b; omega
    have : spF a ≤ spF b := by unfold spF; unfold spR at hr; omega
    omega
  · have : spQ a < spQ b := by unfold spQ at *; omega
    omega
/-- instants d apart (d times an exact number of units per 1953125 ns) -/
theorem unU_scale (t : Int) : 1953125 * unU t ≤ 8388608 * t ∧ 8388608 * t < 1953125 * unU t + 1953125 := by
  unfold unU spQ spF; omega
theorem unU_near {a b : Int} (h1 : a - b < 2147483648000000000) (h2 : b - a < 2147483648000000000) : -9223372036854775808 < unU a - unU b ∧ unU a - unU b < 9223372036854775808 := by
  have ha := unU_scale a
  have hb := unU_scale b
  omega
theorem back_V {t p : Int} (h1 : t - p < 2147483648000000000) (h2 : p - t < 2147483648000000000) : tmV (ofN t) p = t := by
  have h := unU_near h1 h2
  rw [tmV_eq, diff_U (by omega), show unU p + (unU t - unU p) = unU t by omega, nanos_U]
theorem nanos_scale (v : Int) : 8388608 * nanosN v ≥ 1953125 * v ∧ 8388608 * nanosN v < 1953125 * v + 8388608 := by
  unfold nanosN nanoN; omega
theorem U_nanos (v : Int) : v ≤ unU (nanosN v) ∧ unU (nanosN v) ≤ v + 4 := by
  have h1 := nanos_scale v
  have h2 := unU_scale (nanosN v)
  omega
/-- what Time reads, in units -/
def tmU (s p : Int) : Int := unU p + diffN s (ofN p)
theorem near_diff {s p : Int} (h0 : 0 ≤ s) (h1 : s ≤ 18446744073709551615) : diffN (ofN (tmV s p)) s = unU (tmV s p) - tmU s p ∧ 0 ≤ unU (tmV s p) - tmU s p ∧ unU (tmV s p) - tmU s p ≤ 4 := by
  have e : tmV s p = nanosN (tmU s p) := tmV_eq s p
  have hu := U_nanos (tmU s p)
  rw [← e] at hu
  have e1 : ofN (tmV s p) = unU (tmV s p) % 18446744073709551616 := rfl
  have e2 : ofN p = unU p % 18446744073709551616 := rfl
  have e3 : tmU s p = unU p + wrap64 (s - unU p % 18446744073709551616) := by rw [← e2]; rfl
  refine ⟨?_, by omega, by omega⟩
  rw [e1]
  unfold diffN
  rw [e3] at hu ⊢
  unfold wrap64 at *
  omega
theorem near_apart (s p : Int) : -2147483648000000001 ≤ tmV s p - p ∧ tmV s p - p ≤ 2147483648000000001 := by
  have e : tmV s p = nanosN (tmU s p) := tmV_eq s p
  have h1 := nanos_scale (tmU s p)
  rw [← e] at h1
  have h2 := unU_scale p
  have h3 := diffN_rng s (ofN p)
  unfold tmU at h1
  omega
theorem diff_self (a : Int) : diffN a a = 0 := by unfold diffN wrap64; omega
theorem diff_neg {a b : Int} (h : diffN a b ≠ -9223372036854775808) : diffN b a = -diffN a b := by unfold diffN wrap64 at *; omega
theorem diff_add {a b c : Int} (h1 : -2305843009213693952 < diffN a b) (h2 : diffN a b < 2305843009213693952) (h3 : -2305843009213693952 < diffN b c) (h4 : diffN b c < 2305843009213693952) : diffN a c = diffN a b + diffN b c := by unfold diffN wrap64 at *; omega
end Go.Proofs.Ytickoncgnjgciaa
