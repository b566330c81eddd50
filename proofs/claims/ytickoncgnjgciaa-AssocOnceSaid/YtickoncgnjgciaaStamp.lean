/- What the functions of package stamp, of package fixed below it, and of stamp's reference compute with numbers. -/
import Derived.Test.YtickoncgnjgciaaBits
namespace Go.Proofs.Ytickoncgnjgciaa
open Go.RowKit
set_option linter.unusedSimpArgs false
set_option linter.unusedVariables false
/-- the two numbers that stamp divides by -/
def Secs (b : Int) : Prop := b = 1000000000 ∨ b = 4294967296000000000
set_option maxHeartbeats 400000 in
theorem divide_any (a b : Int) (w : World) (h1 : -9223372036854775808 ≤ a) (h2 : a ≤ 9223372036854775807) (hb : Secs b) :
    Calls Try.prog 46 #[.int .i64 a, .int .i64 b] w fun e w' => e = .returned (.tuple #[.int .i64 (a.tdiv b), .int .i64 (a.tmod b), .bool true]) ∧ Below w.heap.size w w' := by
  have hd := tdm a b (by rcases hb with rfl | rfl <;> decide)
  have hw : a ≠ -9223372036854775808 → IntKind.i64.wrap (a.tdiv b) = a.tdiv b := fun ha => by
    rw [IntKind.wrap_i64]
    rcases hb with rfl | rfl <;> (obtain ⟨d1, d2, d3, d4, d5⟩ := hd; omega)
  by_cases ha : a = -9223372036854775808
  · subst ha
    clear hd hw
    rcases hb with rfl | rfl
    all_goals
      go_enter Try.func46, Try.ntmps46
      go_wp2
      go_region_held3 (fun w' => Below w.heap.size w w') ((repeat (first | assumption | exact Below.refl _ _ | refine Below.drew ?_ | refine below_drewN ?_ _ | refine Below.setCell ?_ (by first | omega | (simp; done) | (simp <;> omega)) _ | refine Below.alloc ?_ (by first | omega | (simp; done) | (simp <;> omega)) _ | refine Below.trans ?_ (Below.mono (by assumption) (by first | omega | (simp; done) | (simp <;> omega)))))) (fail)
      go_wp2
      go_ret3
      exact ⟨tup3 (vint (by decide)) (vint (by decide)) rfl, by assumption⟩
  · have ha' : (a == -9223372036854775808) = false := by simpa using ha
    rcases hb with rfl | rfl
    all_goals
      obtain ⟨d1, d2, d3, d4, d5⟩ := hd
      have hw := hw ha
      clear d1 ha
      go_enter Try.func46, Try.ntmps46
      go_wp2
      go_region_held3 (fun w' => Below w.heap.size w w') ((repeat (first | assumption | exact Below.refl _ _ | refine Below.drew ?_ | refine below_drewN ?_ _ | refine Below.setCell ?_ (by first | omega | (simp; done) | (simp <;> omega)) _ | refine Below.alloc ?_ (by first | omega | (simp; done) | (simp <;> omega)) _ | refine Below.trans ?_ (Below.mono (by assumption) (by first | omega | (simp; done) | (simp <;> omega)))))) (fail)
      go_wp2
      go_ret3
      exact ⟨rfl, by assumption⟩
set_option maxHeartbeats 400000 in
theorem floor_any (a b : Int) (w : World) (h1 : -9223372036854775808 ≤ a) (h2 : a ≤ 9223372036854775807) (hb : Secs b) :
    Calls Try.prog 40 #[.int .i64 a, .int .i64 b] w fun e w' => e = .returned (.tuple #[.int .i64 (a / b), .bool true]) ∧ Below w.heap.size w w' := by
  have hd := tdm a b (by rcases hb with rfl | rfl <;> decide)
  have hc := divide_any a b w h1 h2 hb
  rcases hb with rfl | rfl
  all_goals
    obtain ⟨d1, d2, d3, d4, d5⟩ := hd
    have D1 := Lib.hid d1
    clear d1
    go_enter Try.func40, Try.ntmps40
    go_wp2_with (first | (go_at_call 46; ((with_reducible refine hc.mono ?_); rintro e w1 ⟨rfl, hb⟩)))
  all_goals
    have d1 := D1.out
    go_ret2
    refine ⟨tup2 (vint ?_) rfl, hb⟩
    try unfold wrap64
    first | omega | (simp at *; omega)
def spQ (t : Int) : Int := t / 1000000000
def spR (t : Int) : Int := t % 1000000000
/-- the units of the nanoseconds of t -/
def spF (t : Int) : Int := t % 1000000000 * 4294967296 / 1000000000
theorem spF_rng (t : Int) : 0 ≤ spF t ∧ spF t ≤ 4294967295 := by unfold spF; omega
theorem spR_rng (t : Int) : 0 ≤ spR t ∧ spR t ≤ 999999999 := by unfold spR; omega
theorem spQ_rng {t : Int} (h1 : -9223372036854775808 ≤ t) (h2 : t ≤ 9223372036854775807) : -9223372037 ≤ spQ t ∧ spQ t ≤ 9223372036 := by unfold spQ; omega
theorem spQR (t : Int) : t = spQ t * 1000000000 + spR t := by unfold spQ spR; omega
theorem spFR (t : Int) : spR t * 4294967296 / 1000000000 = spF t := rfl
set_option maxHeartbeats 400000 in
theorem rsplit_any (t : Int) (w : World) (h1 : -9223372036854775808 ≤ t) (h2 : t ≤ 9223372036854775807) :
    Calls Try.prog 32 #[.int .i64 t] w fun e w' => e = .returned (.tuple #[.int .i64 (spQ t), .int .i64 (spR t)]) ∧ w = w' := by
  obtain ⟨d1, d2, d3, d4, d5⟩ := tdm t 1000000000 (by decide)
  have D1 := Lib.hid d1
  clear d1
  go_enter Try.func32, Try.ntmps32
  go_wp2
  all_goals
    go_ret2
    have d1 := D1.out
    refine ⟨tup2 (vint ?_) (vint ?_), rfl⟩ <;> (first | unfold spQ | unfold spR) <;> (try unfold wrap64) <;> omega
theorem tdiv_pos {a b : Int} (h : 0 ≤ a) : a.tdiv b = a / b := Int.tdiv_eq_ediv_of_nonneg h
set_option maxHeartbeats 400000 in
theorem split_any (t : Int) (w : World) (h1 : -9223372036854775808 ≤ t) (h2 : t ≤ 9223372036854775807) :
    Calls Try.prog 31 #[.int .i64 t] w fun e w' => e = .returned (.tuple #[.int .i64 (spQ t), .int .i64 (spF t)]) ∧ Below w.heap.size w w' := by
  have hc := floor_any t 1000000000 w h1 h2 (.inl rfl)
  go_enter Try.func31, Try.ntmps31
  go_wp2_with (first | (go_at_call 40; ((with_reducible refine hc.mono ?_); rintro e w1 ⟨rfl, hb⟩)))
  go_ret2
  refine ⟨tup2 (vint ?_) (vint ?_), hb⟩
  · unfold spQ; first | rfl | omega
  · have a2 : wrap64 (t - wrap64 (t / 1000000000 * 1000000000)) = t % 1000000000 := by unfold wrap64; omega
    have a3 : wrap64 (t % 1000000000 * 4294967296) = t % 1000000000 * 4294967296 := by unfold wrap64; omega
    rw [a2, a3, tdiv_pos (by omega)]
    unfold spF wrap64; omega
/-- the timestamp of an instant -/
def ofN (t : Int) : Int := (spQ t * 4294967296 + spF t) % 18446744073709551616
theorem ofN_rng (t : Int) : 0 ≤ ofN t ∧ ofN t < 18446744073709551616 := by unfold ofN; omega
def eraN (t : Int) : Int := t / 4294967296000000000
def diffN (a b : Int) : Int := wrap64 (a - b)
theorem diffN_rng (a b : Int) : -9223372036854775808 ≤ diffN a b ∧ diffN a b ≤ 9223372036854775807 := by unfold diffN wrap64; omega
/-- units below a second in nanoseconds, rounded up -/
def nanoN (f : Int) : Int := (f * 1000000000 + 4294967295) / 4294967296
theorem nanoN_rng {f : Int} (h0 : 0 ≤ f) (h1 : f ≤ 4294967295) : 0 ≤ nanoN f ∧ nanoN f ≤ 1000000000 := by unfold nanoN; omega
def nanosN (u : Int) : Int := u / 4294967296 * 1000000000 + nanoN (u % 4294967296)
set_option maxHeartbeats 400000 in
theorem of_any (t : Int) (w : World) (h1 : -9223372036854775808 ≤ t) (h2 : t ≤ 9223372036854775807) :
    Calls Try.prog 22 #[.int .i64 t] w fun e w' => e = .returned (.int .u64 (ofN t)) ∧ Below w.heap.size w w' := by
  have hc := split_any t w h1 h2
  have hf := spF_rng t
  have hw : IntKind.u64.wrap (spF t) = spF t := by rw [IntKind.wrap_u64]; omega
  have ho : bits .or .u64 (IntKind.u64.wrap (IntKind.u64.wrap (spQ t) * 4294967296)) (spF t) = ofN t := by
    rw [or_u64_32 _ _ (by rw [IntKind.wrap_u64]; omega) (by rw [IntKind.wrap_u64, IntKind.wrap_u64]; omega) (by rw [IntKind.wrap_u64]; omega) hf.1 (by omega), IntKind.wrap_u64, IntKind.wrap_u64]
    unfold ofN; omega
  go_enter Try.func22, Try.ntmps22
  go_wp2_with (first | (go_at_call 31; ((with_reducible refine hc.mono ?_); rintro e w1 ⟨rfl, hb⟩)))
  go_ret
  exact ⟨rfl, hb⟩
set_option maxHeartbeats 400000 in
theorem rof_any (t : Int) (w : World) (h1 : -9223372036854775808 ≤ t) (h2 : t ≤ 9223372036854775807) :
    Calls Try.prog 24 #[.int .i64 t] w fun e w' => e = .returned (.int .u64 (ofN t)) ∧ Below w.heap.size w w' := by
  have hc := rsplit_any t w h1 h2
  have hr := spR_rng t
  have hr1 := hr.1
  have hr2 := hr.2
  have hf := spF_rng t
  go_enter Try.func24, Try.ntmps24
  go_wp2_with (first | (go_at_call 32; ((with_reducible refine hc.mono ?_); rintro e w1 ⟨rfl, rfl⟩)))
  go_ret
  refine ⟨ret_int ?_, Below.refl _ _⟩
  rw [spFR t, IntKind.wrap_u64, IntKind.wrap_u64, IntKind.wrap_u64]
  unfold ofN; omega
set_option maxHeartbeats 400000 in
theorem diff_any (a b : Int) (w : World) : Calls Try.prog 23 #[.int .u64 a, .int .u64 b] w fun e w' => e = .returned (.int .i64 (diffN a b)) ∧ w = w' := by
  go_enter Try.func23, Try.ntmps23
  go_wp2
  go_ret
  refine ⟨ret_int ?_, rfl⟩
  rw [IntKind.wrap_u64]; unfold diffN wrap64; omega
set_option maxHeartbeats 400000 in
theorem rdiff_any (a b : Int) (w : World) : Calls Try.prog 51 #[.int .u64 a, .int .u64 b] w fun e w' => e = .returned (.int .i64 (diffN a b)) ∧ w = w' := by
  go_enter Try.func51, Try.ntmps51
  go_wp2
  go_ret
  refine ⟨ret_int ?_, rfl⟩
  rw [IntKind.wrap_u64]; unfold diffN wrap64; omega
set_option maxHeartbeats 400000 in
theorem nano_any (f : Int) (w : World) (h0 : 0 ≤ f) (h1 : f ≤ 4294967295) : Calls Try.prog 50 #[.int .i64 f] w fun e w' => e = .returned (.int .i64 (nanoN f)) ∧ w = w' := by
  go_enter Try.func50, Try.ntmps50
  go_wp2
  go_ret
  refine ⟨ret_int ?_, rfl⟩
  first | rfl | (unfold nanoN; omega)
set_option maxHeartbeats 400000 in
theorem above_any (f : Int) (w : World) (h0 : 0 ≤ f) (h1 : f ≤ 4294967295) : Calls Try.prog 52 #[.int .i64 f] w fun e w' => e = .returned (.int .i64 (nanoN f)) ∧ w = w' := by
  go_enter Try.func52, Try.ntmps52
  go_wp2
  go_ret
  refine ⟨ret_int ?_, rfl⟩
  first | rfl | (unfold nanoN; omega) | (rw [tdiv_pos (by omega)]; rfl)
/-- a product as a 128-bit number: its low half, where the high half is 0 -/
theorem mul64_lo (a b : Int) (w : World) (h0 : 0 ≤ a) (h1 : a ≤ 11000000000) (hb : b = 1000000000) :
    Calls Try.prog 54 #[.int .u64 a, .int .u64 b] w fun e w' => e = .returned (.tuple #[.int .u64 0, .int .u64 (a * 1000000000)]) ∧ w = w' := by
  subst hb
  have m1 : bits .and .u64 a 4294967295 = a % 4294967296 := u64_mask32 a h0 (by omega)
  have m2 : bits .and .u64 1000000000 4294967295 = 1000000000 := by decide
  have m3 : bits .and .u64 (a / 4294967296 * 1000000000 + a % 4294967296 * 1000000000 / 4294967296) 4294967295 = (a / 4294967296 * 1000000000 + a % 4294967296 * 1000000000 / 4294967296) % 4294967296 := u64_mask32 _ (by omega) (by omega)
  go_enter Try.func54, Try.ntmps54
  go_wp2
  go_ret2
  refine ⟨tup2 (vint ?_) rfl, rfl⟩
  omega
def sizeN (n : Int) : Int := if n < 0 then -n else n
set_option maxHeartbeats 400000 in
theorem size_any (n : Int) (w : World) (h1 : -9223372036854775808 ≤ n) (h2 : n ≤ 9223372036854775807) :
    Calls Try.prog 55 #[.int .i64 n] w fun e w' => e = .returned (.int .u64 (sizeN n)) ∧ w = w' := by
  have HD : Hid (sizeN n = if n < 0 then -n else n) := rfl
  go_enter Try.func55, Try.ntmps55
  go_wp2
  all_goals
    go_ret
    refine ⟨ret_int ?_, rfl⟩
    rw [HD.out]
    first | (rw [IntKind.wrap_u64, IntKind.wrap_u64]; split <;> omega) | (rw [IntKind.wrap_u64]; split <;> omega) | (split <;> omega)
def sgnOk (m : Int) (neg : Bool) : Bool := if neg then decide (m ≤ 9223372036854775808) else decide (m ≤ 9223372036854775807)
def sgnV (m : Int) (neg : Bool) : Int := if sgnOk m neg then (if neg then -m else m) else 0
set_option maxHeartbeats 400000 in
theorem signed_any (m : Int) (neg : Bool) (w : World) (h1 : 0 ≤ m) (h2 : m ≤ 18446744073709551615) :
    Calls Try.prog 56 #[.int .u64 m, .bool neg] w fun e w' => e = .returned (.tuple #[.int .i64 (sgnV m neg), .bool (sgnOk m neg)]) ∧ w = w' := by
  have HV : Hid (sgnV m neg = if sgnOk m neg then (if neg then -m else m) else 0) := rfl
  have HO : Hid (sgnOk m neg = if neg then decide (m ≤ 9223372036854775808) else decide (m ≤ 9223372036854775807)) := rfl
  cases neg
  all_goals
    go_enter Try.func56, Try.ntmps56
    go_wp2
  all_goals
    go_ret2
    refine ⟨tup2 (vint ?_) (vbool ?_), rfl⟩
    · unfold sgnV sgnOk
      simp only [if_true, Bool.false_eq_true, if_false, decide_eq_true_eq]
      split <;> first | omega | (rw [IntKind.wrap_u64]; unfold wrap64; omega) | (unfold wrap64; omega)
    · unfold sgnOk
      simp only [if_true, Bool.false_eq_true, if_false]
      symm
      first | (apply decide_eq_true; omega) | (apply decide_eq_false; omega)
/-- whether a number is an int -/
def inI (n : Int) : Bool := decide (-9223372036854775808 ≤ n ∧ n ≤ 9223372036854775807)
def orI (n : Int) : Int := if inI n then n else 0
theorem sgn_mul (a : Int) : sgnV (sizeN a * 1000000000) (decide (a < 0)) = orI (a * 1000000000) ∧ sgnOk (sizeN a * 1000000000) (decide (a < 0)) = inI (a * 1000000000) := by
  have hO : sgnOk (sizeN a * 1000000000) (decide (a < 0)) = inI (a * 1000000000) := by
    unfold sgnOk inI sizeN
    by_cases h : a < 0
    · simp only [h, decide_true, if_true]; congr 1; apply propext; constructor <;> omega
    · simp only [h, decide_false, if_false, Bool.false_eq_true]; congr 1; apply propext; constructor <;> omega
  refine ⟨?_, hO⟩
  unfold sgnV orI
  rw [hO]
  unfold sizeN
  by_cases h : a < 0
  · simp only [h, decide_true, if_true]; split <;> omega
  · simp only [h, decide_false, if_false, Bool.false_eq_true]
set_option maxHeartbeats 400000 in
theorem mul_any (a : Int) (w : World) (h1 : -11000000000 ≤ a) (h2 : a ≤ 11000000000) :
    Calls Try.prog 48 #[.int .i64 a, .int .i64 1000000000] w fun e w' => e = .returned (.tuple #[.int .i64 (orI (a * 1000000000)), .bool (inI (a * 1000000000))]) ∧ w = w' := by
  have hs : 0 ≤ sizeN a ∧ sizeN a ≤ 11000000000 := by unfold sizeN; split <;> omega
  have h9 : sizeN 1000000000 = 1000000000 := rfl
  have hc1 := fun W => size_any a W (by omega) (by omega)
  have hc2 := fun W => size_any 1000000000 W (by omega) (by omega)
  rw [h9] at hc2
  have hc3 := fun W => mul64_lo (sizeN a) 1000000000 W hs.1 hs.2 rfl
  have hc4 := fun W => signed_any (sizeN a * 1000000000) (decide (a < 0)) W (by omega) (by omega)
  rw [(sgn_mul a).1, (sgn_mul a).2] at hc4
  have hd : (decide (a < 0) != false) = decide (a < 0) := by simp
  go_enter Try.func48, Try.ntmps48
  go_wp2_with (first | (go_at_call 55; ((with_reducible refine (hc1 _).mono ?_); rintro e w1 ⟨rfl, rfl⟩)) | (go_at_call 55; ((with_reducible refine (hc2 _).mono ?_); rintro e w1 ⟨rfl, rfl⟩)) | (go_at_call 54; ((with_reducible refine (hc3 _).mono ?_); rintro e w1 ⟨rfl, rfl⟩)) | (go_at_call 56; ((with_reducible refine (hc4 _).mono ?_); rintro e w1 ⟨rfl, rfl⟩)))
  go_ret2
  exact ⟨rfl, rfl⟩
set_option maxHeartbeats 400000 in
theorem add_any (a b : Int) (w : World) (h1 : -9223372036854775808 ≤ a) (h2 : a ≤ 9223372036854775807) (h3 : 0 ≤ b) (h4 : b ≤ 1000000000) :
    Calls Try.prog 49 #[.int .i64 a, .int .i64 b] w fun e w' => e = .returned (.tuple #[.int .i64 (orI (a + b)), .bool (inI (a + b))]) ∧ w = w' := by
  by_cases hi : a + b ≤ 9223372036854775807
  · have HO : Hid (inI (a + b) = true) := decide_eq_true (by omega)
    have HV : Hid (orI (a + b) = a + b) := by show orI (a + b) = _; unfold orI; rw [HO.out]; rfl
    have db : decide (b < 0) = false := decide_eq_false (by omega)
    by_cases ha : a < 0
    · have da : decide (a < 0) = true := decide_eq_true ha
      go_enter Try.func49, Try.ntmps49
      go_wp2
      all_goals
        go_ret2
        refine ⟨tup2 (vint ?_) (vbool ?_), rfl⟩
        · rw [HV.out]
        · rw [HO.out]
    · have da : decide (a < 0) = false := decide_eq_false ha
      have ds : decide (a + b < 0) = false := decide_eq_false (by omega)
      go_enter Try.func49, Try.ntmps49
      go_wp2
      all_goals
        go_ret2
        refine ⟨tup2 (vint ?_) (vbool ?_), rfl⟩
        · rw [HV.out]
        · rw [HO.out]
  · have HO : Hid (inI (a + b) = false) := decide_eq_false (by omega)
    have HV : Hid (orI (a + b) = 0) := by show orI (a + b) = _; unfold orI; rw [HO.out]; rfl
    have hw : wrap64 (a + b) = a + b - 18446744073709551616 := by unfold wrap64; omega
    have db : decide (b < 0) = false := decide_eq_false (by omega)
    have da : decide (a < 0) = false := decide_eq_false (by omega)
    have ds : decide (a + b - 18446744073709551616 < 0) = true := decide_eq_true (by omega)
    go_enter Try.func49, Try.ntmps49
    go_wp2
    go_ret2
    refine ⟨tup2 (vint ?_) (vbool ?_), rfl⟩
    · rw [HV.out]
    · rw [HO.out]
/-- the instant of a timestamp near a pivot: the units of the pivot and the difference, added -/
def tmLow (s p : Int) : Int := spF p + diffN s (ofN p) % 4294967296
def tmHi (s p : Int) : Int := spQ p + (diffN s (ofN p) / 4294967296 + tmLow s p / 4294967296)
def tmV (s p : Int) : Int := tmHi s p * 1000000000 + nanoN (tmLow s p % 4294967296)
def maxT (t : Int) : Prop := -8000000000000000000 ≤ t ∧ t ≤ 8000000000000000000
instance (t : Int) : Decidable (maxT t) := by unfold maxT; infer_instance
def tmE (s p : Int) : Int := if maxT p then (if maxT (tmV s p) then 0 else 3) else 2
theorem tmLow_rng (s p : Int) : 0 ≤ tmLow s p ∧ tmLow s p ≤ 8589934590 := by have := spF_rng p; unfold tmLow; omega
theorem tmHi_rng {s p : Int} (h : maxT p) : -10147483648 ≤ tmHi s p ∧ tmHi s p ≤ 10147483648 := by
  have h1 := tmLow_rng s p
  have h2 := diffN_rng s (ofN p)
  unfold maxT at h
  have h3 : -8000000000 ≤ spQ p ∧ spQ p ≤ 8000000000 := by unfold spQ; omega
  unfold tmHi
  omega
set_option maxHeartbeats 4000000 in
theorem time_any (s p : Int) (w : World) (h1 : -9223372036854775808 ≤ p) (h2 : p ≤ 9223372036854775807) :
    Calls Try.prog 44 #[.int .u64 s, .int .i64 p] w fun e w' => e = .returned (.tuple #[.int .i64 (z0 (tmE s p) (tmV s p)), .int .i64 (tmE s p)]) ∧ Below w.heap.size w w' := by
  by_cases hp : maxT p
  · have hp1 := hp.1
    have hp2 := hp.2
    have hc1 := split_any p w h1 h2
    have hc2 := fun W => of_any p W h1 h2
    have hl := tmLow_rng s p
    have hh := tmHi_rng (s := s) hp
    have hd := diffN_rng s (ofN p)
    have hm := i64_mask32 (diffN s (ofN p))
    have hm2 := i64_mask32 (tmLow s p)
    have eL : spF p + diffN s (ofN p) % 4294967296 = tmLow s p := rfl
    have hw1 : wrap64 (spF p + diffN s (ofN p) % 4294967296) = tmLow s p := by rw [eL]; unfold wrap64; omega
    have hw2 : wrap64 (spQ p + wrap64 (diffN s (ofN p) / 4294967296 + tmLow s p / 4294967296)) = tmHi s p := by
      have e : tmHi s p = spQ p + (diffN s (ofN p) / 4294967296 + tmLow s p / 4294967296) := rfl
      rw [e] at hh ⊢
      unfold wrap64; omega
    have hn := nanoN_rng (f := tmLow s p % 4294967296) (by omega) (by omega)
    have hw3 : wrap64 (spQ p + (diffN s (ofN p) / 4294967296 + tmLow s p / 4294967296)) = tmHi s p := by
      have e : tmHi s p = spQ p + (diffN s (ofN p) / 4294967296 + tmLow s p / 4294967296) := rfl
      rw [e] at hh ⊢
      unfold wrap64; omega
    have hc5 := fun W => nano_any (tmLow s p % 4294967296) W (by omega) (by omega)
    have eV : tmV s p = tmHi s p * 1000000000 + nanoN (tmLow s p % 4294967296) := rfl
    by_cases hM : -9223372036854775808 ≤ tmHi s p * 1000000000 ∧ tmHi s p * 1000000000 ≤ 9223372036854775807
    · have hMi : inI (tmHi s p * 1000000000) = true := decide_eq_true hM
      have hMv : orI (tmHi s p * 1000000000) = tmHi s p * 1000000000 := by unfold orI; rw [hMi]; rfl
      have hc6 := fun W => add_any (tmHi s p * 1000000000) (nanoN (tmLow s p % 4294967296)) W hM.1 hM.2 hn.1 hn.2
      rw [← eV] at hc6
      by_cases hV : maxT (tmV s p)
      · have hVi : inI (tmV s p) = true := decide_eq_true (by unfold maxT at hV; omega)
        have hVv : orI (tmV s p) = tmV s p := by unfold orI; rw [hVi]; rfl
        have HE : Hid (tmE s p = 0) := by show tmE s p = 0; unfold tmE; rw [if_pos hp, if_pos hV]
        have HZ : Hid (z0 (tmE s p) (tmV s p) = tmV s p) := by show z0 _ _ = _; rw [HE.out]; rfl
        have hV1 := hV.1
        have hV2 := hV.2
        clear hM hV eV
        go_enter Try.func44, Try.ntmps44
        go_wp2_with (first | (go_at_call 31; ((with_reducible refine hc1.mono ?_); rintro e w1 ⟨rfl, hb1⟩)) | (go_at_call 22; ((with_reducible refine (hc2 _).mono ?_); rintro e w2 ⟨rfl, hb2⟩)) | (go_at_call 23; ((with_reducible refine (diff_any s (ofN p) _).mono ?_); rintro e w3 ⟨rfl, rfl⟩)) | (go_at_call 48; ((with_reducible refine (mul_any (tmHi s p) _ (by omega) (by omega)).mono ?_); rintro e w4 ⟨rfl, rfl⟩)) | (go_at_call 50; ((with_reducible refine (hc5 _).mono ?_); rintro e w5 ⟨rfl, rfl⟩)) | (go_at_call 49; ((with_reducible refine (hc6 _).mono ?_); rintro e w6 ⟨rfl, rfl⟩)))
        go_ret2
        exact ⟨tup2 (vint HZ.out.symm) (vint HE.out.symm), hb1.trans (hb2.mono hb1.size)⟩
      · have HE : Hid (tmE s p = 3) := by show tmE s p = 3; unfold tmE; rw [if_pos hp, if_neg hV]
        have HZ : Hid (z0 (tmE s p) (tmV s p) = 0) := by show z0 _ _ = _; rw [HE.out]; rfl
        by_cases hI : -9223372036854775808 ≤ tmV s p ∧ tmV s p ≤ 9223372036854775807
        · have hVi : inI (tmV s p) = true := decide_eq_true hI
          have hVv : orI (tmV s p) = tmV s p := by unfold orI; rw [hVi]; rfl
          unfold maxT at hV
          by_cases hlo : -8000000000000000000 ≤ tmV s p
          · have hhi : 8000000000000000000 < tmV s p := by omega
            clear hM hV eV hI
            go_enter Try.func44, Try.ntmps44
            go_wp2_with (first | (go_at_call 31; ((with_reducible refine hc1.mono ?_); rintro e w1 ⟨rfl, hb1⟩)) | (go_at_call 22; ((with_reducible refine (hc2 _).mono ?_); rintro e w2 ⟨rfl, hb2⟩)) | (go_at_call 23; ((with_reducible refine (diff_any s (ofN p) _).mono ?_); rintro e w3 ⟨rfl, rfl⟩)) | (go_at_call 48; ((with_reducible refine (mul_any (tmHi s p) _ (by omega) (by omega)).mono ?_); rintro e w4 ⟨rfl, rfl⟩)) | (go_at_call 50; ((with_reducible refine (hc5 _).mono ?_); rintro e w5 ⟨rfl, rfl⟩)) | (go_at_call 49; ((with_reducible refine (hc6 _).mono ?_); rintro e w6 ⟨rfl, rfl⟩)))
            go_ret2
            exact ⟨tup2 (vint HZ.out.symm) (vint HE.out.symm), hb1.trans (hb2.mono hb1.size)⟩
          · clear hM hV eV hI
            go_enter Try.func44, Try.ntmps44
            go_wp2_with (first | (go_at_call 31; ((with_reducible refine hc1.mono ?_); rintro e w1 ⟨rfl, hb1⟩)) | (go_at_call 22; ((with_reducible refine (hc2 _).mono ?_); rintro e w2 ⟨rfl, hb2⟩)) | (go_at_call 23; ((with_reducible refine (diff_any s (ofN p) _).mono ?_); rintro e w3 ⟨rfl, rfl⟩)) | (go_at_call 48; ((with_reducible refine (mul_any (tmHi s p) _ (by omega) (by omega)).mono ?_); rintro e w4 ⟨rfl, rfl⟩)) | (go_at_call 50; ((with_reducible refine (hc5 _).mono ?_); rintro e w5 ⟨rfl, rfl⟩)) | (go_at_call 49; ((with_reducible refine (hc6 _).mono ?_); rintro e w6 ⟨rfl, rfl⟩)))
            go_ret2
            exact ⟨tup2 (vint HZ.out.symm) (vint HE.out.symm), hb1.trans (hb2.mono hb1.size)⟩
        · have hVi : inI (tmV s p) = false := decide_eq_false hI
          clear hM hV eV hI
          go_enter Try.func44, Try.ntmps44
          go_wp2_with (first | (go_at_call 31; ((with_reducible refine hc1.mono ?_); rintro e w1 ⟨rfl, hb1⟩)) | (go_at_call 22; ((with_reducible refine (hc2 _).mono ?_); rintro e w2 ⟨rfl, hb2⟩)) | (go_at_call 23; ((with_reducible refine (diff_any s (ofN p) _).mono ?_); rintro e w3 ⟨rfl, rfl⟩)) | (go_at_call 48; ((with_reducible refine (mul_any (tmHi s p) _ (by omega) (by omega)).mono ?_); rintro e w4 ⟨rfl, rfl⟩)) | (go_at_call 50; ((with_reducible refine (hc5 _).mono ?_); rintro e w5 ⟨rfl, rfl⟩)) | (go_at_call 49; ((with_reducible refine (hc6 _).mono ?_); rintro e w6 ⟨rfl, rfl⟩)))
          go_ret2
          exact ⟨tup2 (vint HZ.out.symm) (vint HE.out.symm), hb1.trans (hb2.mono hb1.size)⟩
    · have hMi : inI (tmHi s p * 1000000000) = false := decide_eq_false hM
      have hV : ¬ maxT (tmV s p) := by unfold maxT; omega
      have HE : Hid (tmE s p = 3) := by show tmE s p = 3; unfold tmE; rw [if_pos hp, if_neg hV]
      have HZ : Hid (z0 (tmE s p) (tmV s p) = 0) := by show z0 _ _ = _; rw [HE.out]; rfl
      clear hM hV eV
      go_enter Try.func44, Try.ntmps44
      go_wp2_with (first | (go_at_call 31; ((with_reducible refine hc1.mono ?_); rintro e w1 ⟨rfl, hb1⟩)) | (go_at_call 22; ((with_reducible refine (hc2 _).mono ?_); rintro e w2 ⟨rfl, hb2⟩)) | (go_at_call 23; ((with_reducible refine (diff_any s (ofN p) _).mono ?_); rintro e w3 ⟨rfl, rfl⟩)) | (go_at_call 48; ((with_reducible refine (mul_any (tmHi s p) _ (by omega) (by omega)).mono ?_); rintro e w4 ⟨rfl, rfl⟩)) | (go_at_call 50; ((with_reducible refine (hc5 _).mono ?_); rintro e w5 ⟨rfl, rfl⟩)) | (go_at_call 49; ((with_reducible refine (hc6 _).mono ?_); rintro e w6 ⟨rfl, rfl⟩)))
      go_ret2
      exact ⟨tup2 (vint HZ.out.symm) (vint HE.out.symm), hb1.trans (hb2.mono hb1.size)⟩
  · have HE : Hid (tmE s p = 2) := by show tmE s p = 2; unfold tmE; rw [if_neg hp]
    have HZ : Hid (z0 (tmE s p) (tmV s p) = 0) := by show z0 _ _ = 0; rw [HE.out]; rfl
    unfold maxT at hp
    by_cases hp1 : -8000000000000000000 ≤ p
    · have hp2 : 8000000000000000000 < p := by omega
      clear hp
      go_enter Try.func44, Try.ntmps44
      go_wp2
      go_ret2
      exact ⟨tup2 (vint HZ.out.symm) (vint HE.out.symm), Below.refl _ _⟩
    · clear hp
      go_enter Try.func44, Try.ntmps44
      go_wp2
      go_ret2
      exact ⟨tup2 (vint HZ.out.symm) (vint HE.out.symm), Below.refl _ _⟩
end Go.Proofs.Ytickoncgnjgciaa
