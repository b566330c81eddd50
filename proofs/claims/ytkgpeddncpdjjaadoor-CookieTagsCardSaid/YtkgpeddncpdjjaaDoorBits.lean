/- Bit operations on unsigned 64-bit numbers and on ints as arithmetic. No function of the program occurs here. -/
import Derived.Test.YtkgpeddncpdjjaaDoorBase
import Derived.Laws.BitsLemmas
import Derived.Laws.BitsAllLaws
namespace Go.Proofs.YtkgpeddncpdjjaaDoor
open Go.RowKit
set_option linter.unusedSimpArgs false
set_option linter.unusedVariables false
set_option maxRecDepth 100000
theorem wraps_u64 (n : Int) (h₀ : 0 ≤ n) (h₁ : n < 2 ^ 64) : IntKind.u64.wrap n = n := by rw [IntKind.wrap_u64]; omega
theorem wraps_i64 (n : Int) (h₀ : 0 ≤ n) (h₁ : n < 2 ^ 63) : IntKind.i64.wrap n = n := by rw [IntKind.wrap_i64]; omega
theorem or_u64 (i : Nat) (x y : Int) (h0 : 0 ≤ x) (hx : x % 2 ^ i = 0) (h1 : x < 18446744073709551616) (h2 : 0 ≤ y) (h3 : y < 2 ^ i) (h4 : y < 18446744073709551616) : bits .or .u64 x y = x + y :=
  bits_join .u64 64 (by decide) wraps_u64 i x y h0 hx h1 h2 h3 h4
theorem or_u64_1 (x y : Int) (h0 : 0 ≤ x) (hx : x % 2 = 0) (h1 : x < 18446744073709551616) (h2 : 0 ≤ y) (h3 : y < 2) : bits .or .u64 x y = x + y :=
  or_u64 1 x y h0 (by simpa using hx) h1 h2 (by simpa using h3) (by omega)
theorem or_u64_8 (x y : Int) (h0 : 0 ≤ x) (hx : x % 256 = 0) (h1 : x < 18446744073709551616) (h2 : 0 ≤ y) (h3 : y < 256) : bits .or .u64 x y = x + y :=
  or_u64 8 x y h0 (by simpa using hx) h1 h2 (by simpa using h3) (by omega)
theorem i64_mask32 (n : Int) : bits .and .i64 n 4294967295 = n % 4294967296 := by
  have hm : (BitVec.ofInt 64 4294967295).toNat = 2 ^ 32 - 1 := by decide
  have key : (BitVec.ofInt 64 n &&& BitVec.ofInt 64 4294967295).toNat = (n % ((2 ^ 64 : Nat) : Int)).toNat % 2 ^ 32 := by
    rw [BitVec.toNat_and, BitVec.toNat_ofInt, hm, Nat.and_two_pow_sub_one_eq_mod]
  show IntKind.i64.wrap ((BitVec.ofInt 64 n &&& BitVec.ofInt 64 4294967295).toNat : Nat) = n % 4294967296
  rw [key, IntKind.wrap_i64]
  omega
theorem u64_mask32 (n : Int) (h0 : 0 ≤ n) (h1 : n < 18446744073709551616) : bits .and .u64 n 4294967295 = n % 4294967296 :=
  bits_mask .u64 64 (by decide) wraps_u64 32 (by decide) n h0 h1
theorem i64_or32 (x y : Int) (hx : x % 4294967296 = 0) (h0 : -9223372036854775808 ≤ x) (h1 : x < 9223372036854775808) (h2 : 0 ≤ y) (h3 : y < 4294967296) : bits .or .i64 x y = x + y := by
  have kx : (BitVec.ofInt 64 x).toNat = 2 ^ 32 * ((x % 18446744073709551616).toNat / 2 ^ 32) := by rw [BitVec.toNat_ofInt]; omega
  have ky : (BitVec.ofInt 64 y).toNat = y.toNat := by rw [BitVec.toNat_ofInt]; omega
  have key : (BitVec.ofInt 64 x ||| BitVec.ofInt 64 y).toNat = 2 ^ 32 * ((x % 18446744073709551616).toNat / 2 ^ 32) + y.toNat := by
    rw [BitVec.toNat_or, kx, ky, ← Nat.two_pow_add_eq_or_of_lt (by omega)]
  show IntKind.i64.wrap ((BitVec.ofInt 64 x ||| BitVec.ofInt 64 y).toNat : Nat) = x + y
  rw [key, IntKind.wrap_i64]
  omega
theorem or_u64_32 (x y : Int) (h0 : 0 ≤ x) (hx : x % 4294967296 = 0) (h1 : x < 18446744073709551616) (h2 : 0 ≤ y) (h3 : y < 4294967296) : bits .or .u64 x y = x + y :=
  or_u64 32 x y h0 (by simpa using hx) h1 h2 (by simpa using h3) (by omega)
theorem or_u64_4 (x y : Int) (h0 : 0 ≤ x) (hx : x % 16 = 0) (h1 : x < 18446744073709551616) (h2 : 0 ≤ y) (h3 : y < 16) : bits .or .u64 x y = x + y :=
  or_u64 4 x y h0 (by simpa using hx) h1 h2 (by simpa using h3) (by omega)
theorem u64_mask4 (n : Int) (h0 : 0 ≤ n) (h1 : n < 18446744073709551616) : bits .and .u64 n 15 = n % 16 :=
  bits_mask .u64 64 (by decide) wraps_u64 4 (by decide) n h0 h1
/-- Go's quotient and remainder (towards zero) by a number above 0, for linear arithmetic -/
theorem tdm (t c : Int) (hc : 0 < c) : t = c * t.tdiv c + t.tmod c ∧ (0 ≤ t → 0 ≤ t.tmod c) ∧ (t ≤ 0 → t.tmod c ≤ 0) ∧ t.tmod c < c ∧ -c < t.tmod c := by
  refine ⟨(Int.mul_tdiv_add_tmod t c).symm, fun h => Int.tmod_nonneg c h, fun h => ?_, Int.tmod_lt_of_pos t hc, ?_⟩
  · have := Int.tmod_nonneg (a := -t) c (by omega)
    rw [Int.neg_tmod] at this; omega
  · have := Int.tmod_lt_of_pos (-t) hc
    rw [Int.neg_tmod] at this; omega
end Go.Proofs.YtkgpeddncpdjjaaDoor
