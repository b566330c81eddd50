/- What the functions of the reference of layer 1 compute: absolute value, product in two words, long division, signed result, MulDiv. -/
import Derived.Test.YtofgebmmgblkfaaBits
namespace Go.Proofs.Ytofgebmmgblkfaa
open Go.RowKit
set_option linter.unusedSimpArgs false
set_option linter.unusedVariables false
theorem mul_bd {x y m n : Int} (hx : 0 ≤ x) (hx' : x ≤ m) (hy : 0 ≤ y) (hy' : y ≤ n) : 0 ≤ x * y ∧ x * y ≤ m * n :=
  ⟨Int.mul_nonneg hx hy, Int.mul_le_mul hx' hy' hy (by omega)⟩
theorem ret_pair {k l : IntKind} {a b c d : Int} (h : a = b) (h' : c = d) : Ending.returned (.tuple #[.int k a, .int l c]) = .returned (.tuple #[.int k b, .int l d]) := by rw [h, h']
/-- the product of two words out of the products of their halves -/
theorem prod_parts (a b : Int) : a * b = (a / 4294967296 * (b / 4294967296)) * 18446744073709551616 + (a / 4294967296 * (b % 4294967296) + a % 4294967296 * (b / 4294967296)) * 4294967296 + a % 4294967296 * (b % 4294967296) := by
  have ha : a = a / 4294967296 * 4294967296 + a % 4294967296 := by omega
  have hb : b = b / 4294967296 * 4294967296 + b % 4294967296 := by omega
  generalize a / 4294967296 = p at *
  generalize a % 4294967296 = q at *
  generalize b / 4294967296 = r at *
  generalize b % 4294967296 = s at *
  subst ha hb
  grind
set_option maxHeartbeats 400000 in
theorem r01size_any (n : Int) (w : World) (h1 : -9223372036854775808 ≤ n) (h2 : n ≤ 9223372036854775807) :
    Calls Try.prog 34 #[.int .i64 n] w fun e w' => e = .returned (.int .u64 (n.natAbs : Int)) ∧ w = w' := by
  go_enter Try.func34, Try.ntmps34
  go_wp2
  all_goals
    go_ret
    exact ⟨ret_int (by omega), rfl⟩
/-- the number of two words, and the words of a number -/
def two (hi lo : Int) : Int := hi * 18446744073709551616 + lo
def top64 (n : Int) : Int := n / 18446744073709551616
def low64 (n : Int) : Int := n % 18446744073709551616
theorem two_parts (n : Int) : two (top64 n) (low64 n) = n := by unfold two top64 low64; omega
theorem top_bd {n : Int} (h : 0 ≤ n) (h' : n ≤ 340282366920938463463374607431768211455) : 0 ≤ top64 n ∧ top64 n ≤ 18446744073709551615 := by unfold top64; omega
theorem low_bd (n : Int) : 0 ≤ low64 n ∧ low64 n ≤ 18446744073709551615 := by unfold low64; omega
set_option maxHeartbeats 400000 in
theorem r01product_any (a b : Int) (w : World) (h1 : 0 ≤ a) (h2 : a ≤ 18446744073709551615) (h3 : 0 ≤ b) (h4 : b ≤ 18446744073709551615) :
    Calls Try.prog 33 #[.int .u64 a, .int .u64 b] w fun e w' => e = .returned (.tuple #[.int .u64 (top64 (a * b)), .int .u64 (low64 (a * b))]) ∧ w = w' := by
  have p11 := mul_bd (x := a / 4294967296) (y := b / 4294967296) (m := 4294967295) (n := 4294967295) (by omega) (by omega) (by omega) (by omega)
  have p10 := mul_bd (x := a / 4294967296) (y := b % 4294967296) (m := 4294967295) (n := 4294967295) (by omega) (by omega) (by omega) (by omega)
  have p01 := mul_bd (x := a % 4294967296) (y := b / 4294967296) (m := 4294967295) (n := 4294967295) (by omega) (by omega) (by omega) (by omega)
  have p00 := mul_bd (x := a % 4294967296) (y := b % 4294967296) (m := 4294967295) (n := 4294967295) (by omega) (by omega) (by omega) (by omega)
  have HP := Lib.hid (prod_parts a b)
  go_enter Try.func33, Try.ntmps33
  go_wp2
  go_ret2
  refine ⟨ret_pair ?_ ?_, rfl⟩
  all_goals
    first | unfold top64 | unfold low64
    rw [HP.out]
    clear HP
    generalize a / 4294967296 * (b / 4294967296) = x at *
    generalize a / 4294967296 * (b % 4294967296) = y at *
    generalize a % 4294967296 * (b / 4294967296) = z at *
    generalize a % 4294967296 * (b % 4294967296) = u at *
    omega
def sgn (neg : Bool) (hi lo : Int) : Int := if 0 < hi ∨ 9223372036854775808 < lo ∨ (lo = 9223372036854775808 ∧ neg = false) then 0 else if neg = false then lo else -lo
def sgnOk (neg : Bool) (hi lo : Int) : Bool := decide (¬ (0 < hi ∨ 9223372036854775808 < lo ∨ (lo = 9223372036854775808 ∧ neg = false)))
theorem ret_ib {k : IntKind} {a b : Int} {c d : Bool} (h : a = b) (h' : c = d) : Ending.returned (.tuple #[.int k a, .bool c]) = .returned (.tuple #[.int k b, .bool d]) := by rw [h, h']
set_option maxHeartbeats 400000 in
theorem r01signed_any (neg : Bool) (hi lo : Int) (w : World) (h1 : 0 ≤ hi) (h2 : hi ≤ 18446744073709551615) (h3 : 0 ≤ lo) (h4 : lo ≤ 18446744073709551615) :
    Calls Try.prog 36 #[.bool neg, .int .u64 hi, .int .u64 lo] w fun e w' => e = .returned (.tuple #[.int .i64 (sgn neg hi lo), .bool (sgnOk neg hi lo)]) ∧ w = w' := by
  rcases (by omega : lo = 0 ∨ 1 ≤ lo) with h5 | h5 <;> cases neg
  all_goals
    go_enter Try.func36, Try.ntmps36
    go_wp2
    all_goals
      go_ret2
      refine ⟨ret_ib ?_ ?_, rfl⟩
    all_goals
      first | (unfold sgn; simp at *; omega) | (unfold sgnOk; simp at *; omega) | (simp_all [sgn]; done) | (simp_all [sgn]; omega) | (simp_all [sgnOk]; omega) | skip
def DivRel (hi lo c : Int) (k : Nat) (a b x y z : Int) : Prop :=
  0 ≤ a ∧ a < 18446744073709551616 ∧ 0 ≤ b ∧ b < 18446744073709551616 ∧ 0 ≤ x ∧ x < 18446744073709551616 ∧ 0 ≤ y ∧ y < 18446744073709551616 ∧ 0 ≤ z ∧ z < c ∧ two x y < 2 ^ k ∧
    two hi lo * 2 ^ k = (two x y * c + z) * 340282366920938463463374607431768211456 + two a b
theorem pow_le_128 {k : Nat} (h : k < 128) : (2 : Int) ^ k * 2 ≤ 340282366920938463463374607431768211456 := by
  have h1 : (2 : Nat) ^ (k + 1) ≤ 2 ^ 128 := Nat.pow_le_pow_right (by decide) (by omega)
  have h2 : ((2 ^ (k + 1) : Nat) : Int) ≤ ((2 ^ 128 : Nat) : Int) := by exact_mod_cast h1
  rw [Int.natCast_pow, Int.pow_succ] at h2
  exact h2
theorem div_start (hi lo c : Int) (h1 : 0 ≤ hi) (h2 : hi ≤ 18446744073709551615) (h3 : 0 ≤ lo) (h4 : lo ≤ 18446744073709551615) (h5 : 1 ≤ c) : DivRel hi lo c 0 hi lo 0 0 0 := by
  refine ⟨h1, by omega, h3, by omega, by omega, by omega, by omega, by omega, by omega, by omega, by simp [two], by simp [two]⟩
theorem div_core {hi lo c : Int} {k : Nat} {a b x y z : Int} (hk : k < 128) (h5 : 1 ≤ c) (h6 : c ≤ 18446744073709551615) (h : DivRel hi lo c k a b x y z) (d z' : Int) (hd : d = 0 ∨ d = 1)
    (hz : z' = 2 * z + a / 9223372036854775808 - d * c) (hz0 : 0 ≤ z') (hz1 : z' < c) :
    DivRel hi lo c (k + 1) ((a * 2) % 18446744073709551616 + b / 9223372036854775808) (b * 2 % 18446744073709551616) ((x * 2) % 18446744073709551616 + y / 9223372036854775808) ((y * 2) % 18446744073709551616 + d) z' := by
  obtain ⟨ha, ha', hb, hb', hx, hx', hy, hy', hz', hz'', hq, hN⟩ := h
  have hp := pow_le_128 hk
  have e1 : two ((a * 2) % 18446744073709551616 + b / 9223372036854775808) (b * 2 % 18446744073709551616) = 2 * two a b - a / 9223372036854775808 * 340282366920938463463374607431768211456 := by unfold two; omega
  have e2 : two ((x * 2) % 18446744073709551616 + y / 9223372036854775808) ((y * 2) % 18446744073709551616 + d) = 2 * two x y + d := by unfold two at *; omega
  refine ⟨by omega, by omega, by omega, by omega, by omega, by omega, by omega, by omega, hz0, hz1, ?_, ?_⟩
  · rw [e2, Int.pow_succ]; omega
  · rw [e2, e1, hz, Int.pow_succ, ← Int.mul_assoc, hN]; grind
theorem div_yes {hi lo c : Int} {k : Nat} {a b x y z : Int} (hk : (k : Int) < 128) (h5 : 1 ≤ c) (h6 : c ≤ 18446744073709551615) (h : DivRel hi lo c k a b x y z)
    (ht : z / 9223372036854775808 = 1 ∨ c ≤ bits BinOp.or IntKind.u64 (IntKind.u64.wrap (z * 2)) (a / 9223372036854775808)) :
    DivRel hi lo c (k + 1) (bits BinOp.or IntKind.u64 (IntKind.u64.wrap (a * 2)) (b / 9223372036854775808)) (IntKind.u64.wrap (b * 2)) (bits BinOp.or IntKind.u64 (IntKind.u64.wrap (x * 2)) (y / 9223372036854775808)) (bits BinOp.or IntKind.u64 (IntKind.u64.wrap (y * 2)) 1)
      (IntKind.u64.wrap (bits BinOp.or IntKind.u64 (IntKind.u64.wrap (z * 2)) (a / 9223372036854775808) - c)) := by
  have h' := h
  obtain ⟨ha, ha', hb, hb', hx, hx', hy, hy', hz', hz'', hq, hN⟩ := h'
  simp only [IntKind.wrap_u64] at *
  rw [or_u64_1 _ (a / 9223372036854775808) (by omega) (by omega) (by omega) (by omega) (by omega)] at *
  rw [or_u64_1 _ (b / 9223372036854775808) (by omega) (by omega) (by omega) (by omega) (by omega), or_u64_1 _ (y / 9223372036854775808) (by omega) (by omega) (by omega) (by omega) (by omega), or_u64_1 _ 1 (by omega) (by omega) (by omega) (by omega) (by omega)]
  exact div_core (by omega) h5 h6 h 1 _ (.inr rfl) (by omega) (by omega) (by omega)
theorem div_no {hi lo c : Int} {k : Nat} {a b x y z : Int} (hk : (k : Int) < 128) (h5 : 1 ≤ c) (h6 : c ≤ 18446744073709551615) (h : DivRel hi lo c k a b x y z)
    (h0 : ¬ z / 9223372036854775808 = 1) (ht : bits BinOp.or IntKind.u64 (IntKind.u64.wrap (z * 2)) (a / 9223372036854775808) < c) :
    DivRel hi lo c (k + 1) (bits BinOp.or IntKind.u64 (IntKind.u64.wrap (a * 2)) (b / 9223372036854775808)) (IntKind.u64.wrap (b * 2)) (bits BinOp.or IntKind.u64 (IntKind.u64.wrap (x * 2)) (y / 9223372036854775808)) (IntKind.u64.wrap (y * 2))
      (bits BinOp.or IntKind.u64 (IntKind.u64.wrap (z * 2)) (a / 9223372036854775808)) := by
  have h' := h
  obtain ⟨ha, ha', hb, hb', hx, hx', hy, hy', hz', hz'', hq, hN⟩ := h'
  simp only [IntKind.wrap_u64] at *
  rw [or_u64_1 _ (a / 9223372036854775808) (by omega) (by omega) (by omega) (by omega) (by omega)] at *
  rw [or_u64_1 _ (b / 9223372036854775808) (by omega) (by omega) (by omega) (by omega) (by omega), or_u64_1 _ (y / 9223372036854775808) (by omega) (by omega) (by omega) (by omega) (by omega)]
  have := div_core (by omega) h5 h6 h 0 (z * 2 % 18446744073709551616 + a / 9223372036854775808) (.inl rfl) (by omega) (by omega) (by omega)
  simpa using this
theorem div_end {hi lo c : Int} {k : Nat} {a b x y z : Int} (hk : 128 ≤ (k : Int)) (hk' : k ≤ 128) (h5 : 1 ≤ c) (h : DivRel hi lo c k a b x y z) : x = top64 (two hi lo / c) ∧ y = low64 (two hi lo / c) ∧ z = two hi lo % c := by
  obtain ⟨ha, ha', hb, hb', hx, hx', hy, hy', hz', hz'', hq, hN⟩ := h
  obtain rfl : k = 128 := by omega
  have e : two hi lo = two x y * c + z := by
    have : (2 : Int) ^ 128 = 340282366920938463463374607431768211456 := by decide
    rw [this] at hN
    unfold two at hN ⊢
    generalize (x * 18446744073709551616 + y) * c = q at *
    omega
  have e1 : two hi lo / c = two x y := by
    rw [e, Int.mul_comm, Int.add_comm, Int.add_mul_ediv_left _ _ (by omega), Int.ediv_eq_zero_of_lt hz' hz'']; omega
  have e2 : two hi lo % c = z := by
    rw [e, Int.mul_comm, Int.add_comm, Int.add_mul_emod_self_left, Int.emod_eq_of_lt hz' hz'']
  rw [e1, e2]
  unfold top64 low64 two
  omega
set_option maxRecDepth 100000 in
set_option maxHeartbeats 400000 in
theorem r01divide_any (hi lo c : Int) (w : World) (h1 : 0 ≤ hi) (h2 : hi ≤ 18446744073709551615) (h3 : 0 ≤ lo) (h4 : lo ≤ 18446744073709551615) (h5 : 1 ≤ c) (h6 : c ≤ 18446744073709551615) :
    Calls Try.prog 35 #[.int .u64 hi, .int .u64 lo, .int .u64 c] w fun e w' => e = .returned (.tuple #[.int .u64 (top64 (two hi lo / c)), .int .u64 (low64 (two hi lo / c)), .int .u64 (two hi lo % c)]) ∧ w = w' := by
  go_enter Try.func35, Try.ntmps35
  go_wp2
  go_loop [0, 1, 9, 10, 11, 12] (fun hi' lo' q1 q0 r i => ∃ k : Nat, k ≤ 128 ∧ ∃ a b x y z : Int, hi' = .int .u64 a ∧ lo' = .int .u64 b ∧ q1 = .int .u64 x ∧ q0 = .int .u64 y ∧ r = .int .u64 z ∧ i = .int .i64 k ∧ DivRel hi lo c k a b x y z) (fun _ _ _ _ _ i => 128 - (intOf i).toNat)
  case atStart => exact ⟨0, by omega, _, _, _, _, _, rfl, rfl, rfl, rfl, rfl, rfl, div_start hi lo c h1 h2 h3 h4 h5⟩
  case round =>
    obtain ⟨k, hk, a, b, x, y, z, rfl, rfl, rfl, rfl, rfl, rfl, hR⟩ := hrel
    go_wp2
    · exact ⟨⟨k + 1, by omega, _, _, _, _, _, rfl, rfl, rfl, rfl, rfl, by go_num, div_yes (by assumption) h5 h6 hR (.inl (by assumption))⟩, by simp [intOf]; omega⟩
    · exact ⟨⟨k + 1, by omega, _, _, _, _, _, rfl, rfl, rfl, rfl, rfl, by go_num, div_yes (by assumption) h5 h6 hR (by simp_all)⟩, by simp [intOf]; omega⟩
    · exact ⟨⟨k + 1, by omega, _, _, _, _, _, rfl, rfl, rfl, rfl, rfl, by go_num, div_no (by assumption) h5 h6 hR (by assumption) (by simp_all)⟩, by simp [intOf]; omega⟩
    · obtain ⟨e1, e2, e3⟩ := div_end (by assumption) hk h5 hR
      go_ret3
      exact ⟨tup3 (vint e1) (vint e2) (vint e3), rfl⟩
theorem r01divide_n (n c : Int) (w : World) (h1 : 0 ≤ n) (h2 : n ≤ 340282366920938463463374607431768211455) (h5 : 1 ≤ c) (h6 : c ≤ 18446744073709551615) :
    Calls Try.prog 35 #[.int .u64 (top64 n), .int .u64 (low64 n), .int .u64 c] w fun e w' => e = .returned (.tuple #[.int .u64 (top64 (n / c)), .int .u64 (low64 (n / c)), .int .u64 (n % c)]) ∧ w = w' := by
  have t := top_bd h1 h2
  have l := low_bd n
  have h := r01divide_any (top64 n) (low64 n) c w t.1 t.2 l.1 l.2 h5 h6
  rw [two_parts] at h
  exact h
def sgnMD (a b : Int) : Bool := (decide (a < 0)) != (decide (b < 0))
/-- what MulDiv returns for a divisor above 0 -/
def mdSize (a b c : Int) : Int := if sgnMD a b = true ∧ 0 < ((a.natAbs : Int) * b.natAbs) % c then ((a.natAbs : Int) * b.natAbs) / c + 1 else ((a.natAbs : Int) * b.natAbs) / c
def mdVal (a b c : Int) : Int := sgn (sgnMD a b) (top64 (mdSize a b c)) (low64 (mdSize a b c))
def mdOk (a b c : Int) : Bool := sgnOk (sgnMD a b) (top64 (mdSize a b c)) (low64 (mdSize a b c))
theorem r01signed_eq {neg N : Bool} {hi H lo L : Int} (w : World) (e1 : neg = N) (e2 : hi = H) (e3 : lo = L) (h1 : 0 ≤ H) (h2 : H ≤ 18446744073709551615) (h3 : 0 ≤ L) (h4 : L ≤ 18446744073709551615) :
    Calls Try.prog 36 #[.bool neg, .int .u64 hi, .int .u64 lo] w fun e w' => e = .returned (.tuple #[.int .i64 (sgn N H L), .bool (sgnOk N H L)]) ∧ w = w' := by
  subst e1 e2 e3
  exact r01signed_any _ _ _ _ h1 h2 h3 h4
theorem mdSize_bd (a b c : Int) (h1 : -9223372036854775808 ≤ a) (h2 : a ≤ 9223372036854775807) (h3 : -9223372036854775808 ≤ b) (h4 : b ≤ 9223372036854775807) (h5 : 1 ≤ c) : 0 ≤ mdSize a b c ∧ mdSize a b c ≤ 85070591730234615865843651857942052865 := by
  have hm := mul_bd (x := (a.natAbs : Int)) (y := (b.natAbs : Int)) (m := 9223372036854775808) (n := 9223372036854775808) (by omega) (by omega) (by omega) (by omega)
  have h6 : 0 ≤ (a.natAbs : Int) * b.natAbs / c := Int.ediv_nonneg hm.1 (by omega)
  have h7 : (a.natAbs : Int) * b.natAbs / c ≤ (a.natAbs : Int) * b.natAbs := Int.ediv_le_self _ hm.1
  unfold mdSize
  split <;> omega
set_option maxHeartbeats 1000000 in
theorem r01muldiv_any (a b c : Int) (w : World) (h1 : -9223372036854775808 ≤ a) (h2 : a ≤ 9223372036854775807) (h3 : -9223372036854775808 ≤ b) (h4 : b ≤ 9223372036854775807) (h5 : 1 ≤ c) (h6 : c ≤ 9223372036854775807) :
    Calls Try.prog 26 #[.int .i64 a, .int .i64 b, .int .i64 c] w fun e w' => e = .returned (.tuple #[.int .i64 (mdVal a b c), .bool (mdOk a b c)]) ∧ w = w' := by
  have hm := mul_bd (x := (a.natAbs : Int)) (y := (b.natAbs : Int)) (m := 9223372036854775808) (n := 9223372036854775808) (by omega) (by omega) (by omega) (by omega)
  have hbd := mdSize_bd a b c h1 h2 h3 h4 h5
  have hq : 0 ≤ (a.natAbs : Int) * b.natAbs / c := Int.ediv_nonneg hm.1 (by omega)
  have hq' : (a.natAbs : Int) * b.natAbs / c ≤ (a.natAbs : Int) * b.natAbs := Int.ediv_le_self _ hm.1
  have hc0 : decide (c < 0) = false := by simp; omega
  have HS : Hid (sgnMD a b = ((decide (a < 0)) != (decide (b < 0)))) := rfl
  have HD : Hid (mdSize a b c = if sgnMD a b = true ∧ 0 < ((a.natAbs : Int) * b.natAbs) % c then ((a.natAbs : Int) * b.natAbs) / c + 1 else ((a.natAbs : Int) * b.natAbs) / c) := rfl
  have HA : Hid ((c.natAbs : Int) = c) := by show (c.natAbs : Int) = c; omega
  rcases (by omega : a < 0 ∨ 0 ≤ a) with ha | ha <;> rcases (by omega : b < 0 ∨ 0 ≤ b) with hb | hb
  all_goals
    go_enter Try.func26, Try.ntmps26
    go_wp2_with fail
    refine (r01size_any _ _ (by omega) (by omega)).mono ?_
    rintro e w' ⟨rfl, rfl⟩
    go_wp2_with fail
    refine (r01size_any _ _ (by omega) (by omega)).mono ?_
    rintro e w' ⟨rfl, rfl⟩
    go_wp2_with fail
    refine (r01product_any _ _ _ (by omega) (by omega) (by omega) (by omega)).mono ?_
    rintro e w' ⟨rfl, rfl⟩
    go_wp2_with fail
    refine (r01size_any _ _ (by omega) (by omega)).mono ?_
    rintro e w' ⟨rfl, rfl⟩
    rw [HA.out]
    go_wp2_with fail
    refine (r01divide_n _ _ _ (by omega) (by omega) (by omega) (by omega)).mono ?_
    rintro e w' ⟨rfl, rfl⟩
    go_wp2_with fail
    all_goals
      refine (r01signed_eq (N := sgnMD a b) (H := top64 (mdSize a b c)) (L := low64 (mdSize a b c)) _ ?_ ?_ ?_ (by unfold top64; omega) (by unfold top64; omega) (by unfold low64; omega) (by unfold low64; omega)).mono ?_
      rotate_left 3
      rintro e w' ⟨rfl, rfl⟩
      go_wp2
      go_ret2
      exact ⟨rfl, rfl⟩
      · rw [HS.out]; simp [*]
      all_goals
        rw [HD.out, HS.out]
        simp [*, top64, low64, IntKind.wrap_u64] at *
        try omega
end Go.Proofs.Ytofgebmmgblkfaa
