/- Associations: the numbers that Receive computes; reading, instant, New, Pending and their references. -/
import Derived.Test.YtickoncgnjgciaaStampPure
import Derived.Test.YtickoncgnjgciaaNtp7
import Derived.Test.YtickoncgnjgciaaNtpT
import Derived.Test.YtickoncgnjgciaaBlk2
namespace Go.Proofs.Ytickoncgnjgciaa
open Go.RowKit
set_option linter.unusedSimpArgs false
set_option linter.unusedVariables false
/-- is a reading within the limit -/
def rdB (n : Int) : Bool := decide (-4503599627370496 ≤ n ∧ n ≤ 4503599627370496)
theorem rdB_iff {n : Int} : rdB n = true ↔ -4503599627370496 ≤ n ∧ n ≤ 4503599627370496 := by simp [rdB]
def insT (s now : Int) : Int := tmV s (3900000000000000000 + now) - 3900000000000000000
def insB (s now : Int) : Bool := rdB (insT s now)
def insV (s now : Int) : Int := if insB s now then insT s now else 0
theorem ins_near {s now : Int} (h : rdB now = true) : -2160000000000000000 ≤ insT s now ∧ insT s now ≤ 2160000000000000000 := by
  obtain ⟨h1, h2⟩ := rdB_iff.1 h
  have hd := diffN_rng s (ofN (3900000000000000000 + now))
  have e : tmV s (3900000000000000000 + now) = nanosN (tmU s (3900000000000000000 + now)) := tmV_eq s _
  have hs := nanos_scale (tmU s (3900000000000000000 + now))
  have hu := unU_scale (3900000000000000000 + now)
  unfold insT
  rw [e]
  unfold tmU at hs ⊢
  omega
theorem ins_E {s now : Int} (h : rdB now = true) : tmE s (3900000000000000000 + now) = 0 := by
  obtain ⟨h1, h2⟩ := rdB_iff.1 h
  have hn := ins_near (s := s) h
  unfold insT at hn
  have m1 : maxT (3900000000000000000 + now) := by unfold maxT; omega
  have m2 : maxT (tmV s (3900000000000000000 + now)) := by unfold maxT; omega
  unfold tmE
  rw [if_pos m1, if_pos m2]
set_option maxHeartbeats 400000 in
theorem reading_any (n : Int) (w : World) : Calls Try.prog 25 #[.int .i64 n] w fun e w' => e = .returned (.bool (rdB n)) ∧ w = w' := by
  by_cases h1 : -4503599627370496 ≤ n <;> by_cases h2 : n ≤ 4503599627370496
  all_goals
    have hR : Hid (rdB n = decide (-4503599627370496 ≤ n ∧ n ≤ 4503599627370496)) := rfl
    go_enter Try.func25, Try.ntmps25
    go_wp2
    go_ret
    exact ⟨ret_bool (by rw [hR.out]; simp [*]), rfl⟩
set_option maxHeartbeats 400000 in
theorem rin_any (n : Int) (w : World) : Calls Try.prog 26 #[.int .i64 n] w fun e w' => e = .returned (.bool (rdB n)) ∧ w = w' := by
  by_cases h1 : -4503599627370496 ≤ n <;> by_cases h2 : n ≤ 4503599627370496
  all_goals
    have hR : Hid (rdB n = decide (-4503599627370496 ≤ n ∧ n ≤ 4503599627370496)) := rfl
    go_enter Try.func26, Try.ntmps26
    go_wp2
    go_ret
    exact ⟨ret_bool (by rw [hR.out]; simp [*]), rfl⟩
set_option maxHeartbeats 400000 in
theorem lin_any (n : Int) (w : World) : Calls Try.prog 21 #[.int .i64 n] w fun e w' => e = .returned (.bool (rdB n)) ∧ w = w' := by
  by_cases h1 : -4503599627370496 ≤ n <;> by_cases h2 : n ≤ 4503599627370496
  all_goals
    have hR : Hid (rdB n = decide (-4503599627370496 ≤ n ∧ n ≤ 4503599627370496)) := rfl
    go_enter Try.func21, Try.ntmps21
    go_wp2
    go_ret
    exact ⟨ret_bool (by rw [hR.out]; simp [*]), rfl⟩
set_option maxHeartbeats 1000000 in
theorem instant_any (s now : Int) (w : World) (h : rdB now = true) : Calls Try.prog 36 #[.int .u64 s, .int .i64 now] w fun e w' => e = .returned (.tuple #[.int .i64 (insV s now), .bool (insB s now)]) ∧ Below w.heap.size w w' := by
  obtain ⟨h1, h2⟩ := rdB_iff.1 h
  have hn := ins_near (s := s) h
  have hp : IntKind.i64.wrap (3900000000000000000 + now) = 3900000000000000000 + now := by rw [IntKind.wrap_i64]; omega
  have hE := fun W => time_any s (3900000000000000000 + now) W (by omega) (by omega)
  rw [ins_E h, z0_zero] at hE
  have hT : Hid (tmV s (3900000000000000000 + now) - 3900000000000000000 = insT s now) := rfl
  obtain ⟨T, hT'⟩ : ∃ T, T = tmV s (3900000000000000000 + now) := ⟨_, rfl⟩
  rw [← hT'] at hE hT
  have hTv : T = insT s now + 3900000000000000000 := by have := hT.out; omega
  clear hT hT'
  subst hTv
  have hw : IntKind.i64.wrap (insT s now + 3900000000000000000 - 3900000000000000000) = insT s now := by rw [IntKind.wrap_i64]; omega
  have hw' : insT s now + 3900000000000000000 - 3900000000000000000 = insT s now := by omega
  have hr := fun W => reading_any (insT s now) W
  cases hB : insB s now with
  | true =>
    have hV : Hid (insV s now = insT s now) := by show insV s now = _; unfold insV; rw [hB]; rfl
    have hB' : rdB (insT s now) = true := hB
    simp only [hB'] at hr
    clear hB hB'
    go_enter Try.func36, Try.ntmps36
    go_wp2_with fail
    with_reducible refine (hE _).mono ?_
    rintro e w1 ⟨rfl, b1⟩
    go_wp2_with fail
    with_reducible refine (hr _).mono ?_
    rintro e w2 ⟨rfl, rfl⟩
    go_wp2
    go_ret2
    exact ⟨tup2 (vint hV.out.symm) rfl, b1⟩
  | false =>
    have hV : Hid (insV s now = 0) := by show insV s now = _; unfold insV; rw [hB]; rfl
    have hB' : rdB (insT s now) = false := hB
    simp only [hB'] at hr
    clear hB hB'
    go_enter Try.func36, Try.ntmps36
    go_wp2_with fail
    with_reducible refine (hE _).mono ?_
    rintro e w1 ⟨rfl, b1⟩
    go_wp2_with fail
    with_reducible refine (hr _).mono ?_
    rintro e w2 ⟨rfl, rfl⟩
    go_wp2
    go_ret2
    exact ⟨tup2 (vint hV.out.symm) rfl, b1⟩
set_option maxHeartbeats 1000000 in
theorem rinstant_any (s now : Int) (w : World) (h : rdB now = true) : Calls Try.prog 39 #[.int .u64 s, .int .i64 now] w fun e w' => e = .returned (.tuple #[.int .i64 (insV s now), .bool (insB s now)]) ∧ Below w.heap.size w w' := by
  obtain ⟨h1, h2⟩ := rdB_iff.1 h
  have hn := ins_near (s := s) h
  have hp : IntKind.i64.wrap (3900000000000000000 + now) = 3900000000000000000 + now := by rw [IntKind.wrap_i64]; omega
  have hE := fun W => rtime_any s (3900000000000000000 + now) W (by omega) (by omega)
  rw [ins_E h, z0_zero] at hE
  have hT : Hid (tmV s (3900000000000000000 + now) - 3900000000000000000 = insT s now) := rfl
  obtain ⟨T, hT'⟩ : ∃ T, T = tmV s (3900000000000000000 + now) := ⟨_, rfl⟩
  rw [← hT'] at hE hT
  have hTv : T = insT s now + 3900000000000000000 := by have := hT.out; omega
  clear hT hT'
  subst hTv
  have hw : IntKind.i64.wrap (insT s now + 3900000000000000000 - 3900000000000000000) = insT s now := by rw [IntKind.wrap_i64]; omega
  have hw' : insT s now + 3900000000000000000 - 3900000000000000000 = insT s now := by omega
  have hr := fun W => rin_any (insT s now) W
  cases hB : insB s now with
  | true =>
    have hV : Hid (insV s now = insT s now) := by show insV s now = _; unfold insV; rw [hB]; rfl
    have hB' : rdB (insT s now) = true := hB
    simp only [hB'] at hr
    clear hB hB'
    go_enter Try.func39, Try.ntmps39
    go_wp2_with fail
    with_reducible refine (hE _).mono ?_
    rintro e w1 ⟨rfl, b1⟩
    go_wp2_with fail
    with_reducible refine (hr _).mono ?_
    rintro e w2 ⟨rfl, rfl⟩
    go_wp2
    go_ret2
    exact ⟨tup2 (vint hV.out.symm) rfl, b1⟩
  | false =>
    have hV : Hid (insV s now = 0) := by show insV s now = _; unfold insV; rw [hB]; rfl
    have hB' : rdB (insT s now) = false := hB
    simp only [hB'] at hr
    clear hB hB'
    go_enter Try.func39, Try.ntmps39
    go_wp2_with fail
    with_reducible refine (hE _).mono ?_
    rintro e w1 ⟨rfl, b1⟩
    go_wp2_with fail
    with_reducible refine (hr _).mono ?_
    rintro e w2 ⟨rfl, rfl⟩
    go_wp2
    go_ret2
    exact ⟨tup2 (vint hV.out.symm) rfl, b1⟩
end Go.Proofs.Ytickoncgnjgciaa
