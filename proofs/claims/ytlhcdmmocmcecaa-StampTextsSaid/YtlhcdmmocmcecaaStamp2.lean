/- What stamp.Units, Short and Long, and stamp's reference of Time, Units, Short and Long compute. -/
import Derived.Test.YtlhcdmmocmcecaaStamp
namespace Go.Proofs.Ytlhcdmmocmcecaa
open Go.RowKit
set_option linter.unusedSimpArgs false
set_option linter.unusedVariables false
set_option maxHeartbeats 4000000 in
theorem rtime_any (s p : Int) (w : World) (h1 : -9223372036854775808 ≤ p) (h2 : p ≤ 9223372036854775807) :
    Calls Try.prog 18 #[.int .u64 s, .int .i64 p] w fun e w' => e = .returned (.tuple #[.int .i64 (z0 (tmE s p) (tmV s p)), .int .i64 (tmE s p)]) ∧ Below w.heap.size w w' := by
  by_cases hp : maxT p
  · have hp1 := hp.1
    have hp2 := hp.2
    have hc1 := rsplit_any p w h1 h2
    have hc2 := fun W => rof_any p W h1 h2
    have hl := tmLow_rng s p
    have hh := tmHi_rng (s := s) hp
    have hh1 := hh.1
    have hh2 := hh.2
    have hd := diffN_rng s (ofN p)
    have hr := spR_rng p
    have hr1 := hr.1
    have hr2 := hr.2
    have hf := spFR p
    have hm := i64_mask32 (diffN s (ofN p))
    have hm2 := i64_mask32 (tmLow s p)
    have eL : spF p + diffN s (ofN p) % 4294967296 = tmLow s p := rfl
    have hw1 : wrap64 (spF p + diffN s (ofN p) % 4294967296) = tmLow s p := by rw [eL]; unfold wrap64; omega
    have eH : tmHi s p = spQ p + (diffN s (ofN p) / 4294967296 + tmLow s p / 4294967296) := rfl
    have hw2 : wrap64 (wrap64 (spQ p + diffN s (ofN p) / 4294967296) + tmLow s p / 4294967296) = tmHi s p := by
      rw [eH] at hh ⊢
      unfold wrap64; omega
    have hw3 : wrap64 (spQ p + diffN s (ofN p) / 4294967296 + tmLow s p / 4294967296) = tmHi s p := by
      rw [eH] at hh ⊢
      unfold wrap64; omega
    have eH' : spQ p + diffN s (ofN p) / 4294967296 + tmLow s p / 4294967296 = tmHi s p := by rw [eH]; omega
    have hn := nanoN_rng (f := tmLow s p % 4294967296) (by omega) (by omega)
    have hn1 := hn.1
    have hn2 := hn.2
    have hc5 := fun W => above_any (tmLow s p % 4294967296) W (by omega) (by omega)
    have eV : tmHi s p * 1000000000 + nanoN (tmLow s p % 4294967296) = tmV s p := rfl
    clear eH
    by_cases hA : tmHi s p ≤ 8000000000
    · by_cases hB : -8000000001 ≤ tmHi s p
      · by_cases hV : maxT (tmV s p)
        · have HE : Hid (tmE s p = 0) := by show tmE s p = 0; unfold tmE; rw [if_pos hp, if_pos hV]
          have HZ : Hid (z0 (tmE s p) (tmV s p) = tmV s p) := by show z0 _ _ = _; rw [HE.out]; rfl
          have hV1 := hV.1
          have hV2 := hV.2
          clear hV
          go_enter Try.func18, Try.ntmps18
          go_wp2_with (first | (go_at_call 36; ((with_reducible refine hc1.mono ?_); rintro e w1 ⟨rfl, rfl⟩)) | (go_at_call 13; ((with_reducible refine (hc2 _).mono ?_); rintro e w2 ⟨rfl, hb2⟩)) | (go_at_call 22; ((with_reducible refine (rdiff_any s (ofN p) _).mono ?_); rintro e w3 ⟨rfl, rfl⟩)) | (go_at_call 41; ((with_reducible refine (hc5 _).mono ?_); rintro e w5 ⟨rfl, rfl⟩)))
          go_ret2
          exact ⟨tup2 (vint HZ.out.symm) (vint HE.out.symm), hb2⟩
        · have HE : Hid (tmE s p = 3) := by show tmE s p = 3; unfold tmE; rw [if_pos hp, if_neg hV]
          have HZ : Hid (z0 (tmE s p) (tmV s p) = 0) := by show z0 _ _ = _; rw [HE.out]; rfl
          unfold maxT at hV
          by_cases hlo : -8000000000000000000 ≤ tmV s p
          · have hhi : 8000000000000000000 < tmV s p := by omega
            clear hV
            go_enter Try.func18, Try.ntmps18
            go_wp2_with (first | (go_at_call 36; ((with_reducible refine hc1.mono ?_); rintro e w1 ⟨rfl, rfl⟩)) | (go_at_call 13; ((with_reducible refine (hc2 _).mono ?_); rintro e w2 ⟨rfl, hb2⟩)) | (go_at_call 22; ((with_reducible refine (rdiff_any s (ofN p) _).mono ?_); rintro e w3 ⟨rfl, rfl⟩)) | (go_at_call 41; ((with_reducible refine (hc5 _).mono ?_); rintro e w5 ⟨rfl, rfl⟩)))
            go_ret2
            exact ⟨tup2 (vint HZ.out.symm) (vint HE.out.symm), hb2⟩
          · clear hV
            go_enter Try.func18, Try.ntmps18
            go_wp2_with (first | (go_at_call 36; ((with_reducible refine hc1.mono ?_); rintro e w1 ⟨rfl, rfl⟩)) | (go_at_call 13; ((with_reducible refine (hc2 _).mono ?_); rintro e w2 ⟨rfl, hb2⟩)) | (go_at_call 22; ((with_reducible refine (rdiff_any s (ofN p) _).mono ?_); rintro e w3 ⟨rfl, rfl⟩)) | (go_at_call 41; ((with_reducible refine (hc5 _).mono ?_); rintro e w5 ⟨rfl, rfl⟩)))
            go_ret2
            exact ⟨tup2 (vint HZ.out.symm) (vint HE.out.symm), hb2⟩
      · have hV : ¬ maxT (tmV s p) := by unfold maxT; omega
        have HE : Hid (tmE s p = 3) := by show tmE s p = 3; unfold tmE; rw [if_pos hp, if_neg hV]
        have HZ : Hid (z0 (tmE s p) (tmV s p) = 0) := by show z0 _ _ = _; rw [HE.out]; rfl
        clear hV
        go_enter Try.func18, Try.ntmps18
        go_wp2_with (first | (go_at_call 36; ((with_reducible refine hc1.mono ?_); rintro e w1 ⟨rfl, rfl⟩)) | (go_at_call 13; ((with_reducible refine (hc2 _).mono ?_); rintro e w2 ⟨rfl, hb2⟩)) | (go_at_call 22; ((with_reducible refine (rdiff_any s (ofN p) _).mono ?_); rintro e w3 ⟨rfl, rfl⟩)) | (go_at_call 41; ((with_reducible refine (hc5 _).mono ?_); rintro e w5 ⟨rfl, rfl⟩)))
        go_ret2
        exact ⟨tup2 (vint HZ.out.symm) (vint HE.out.symm), hb2⟩
    · have hV : ¬ maxT (tmV s p) := by unfold maxT; omega
      have HE : Hid (tmE s p = 3) := by show tmE s p = 3; unfold tmE; rw [if_pos hp, if_neg hV]
      have HZ : Hid (z0 (tmE s p) (tmV s p) = 0) := by show z0 _ _ = _; rw [HE.out]; rfl
      clear hV
      go_enter Try.func18, Try.ntmps18
      go_wp2_with (first | (go_at_call 36; ((with_reducible refine hc1.mono ?_); rintro e w1 ⟨rfl, rfl⟩)) | (go_at_call 13; ((with_reducible refine (hc2 _).mono ?_); rintro e w2 ⟨rfl, hb2⟩)) | (go_at_call 22; ((with_reducible refine (rdiff_any s (ofN p) _).mono ?_); rintro e w3 ⟨rfl, rfl⟩)) | (go_at_call 41; ((with_reducible refine (hc5 _).mono ?_); rintro e w5 ⟨rfl, rfl⟩)))
      go_ret2
      exact ⟨tup2 (vint HZ.out.symm) (vint HE.out.symm), hb2⟩
  · have HE : Hid (tmE s p = 2) := by show tmE s p = 2; unfold tmE; rw [if_neg hp]
    have HZ : Hid (z0 (tmE s p) (tmV s p) = 0) := by show z0 _ _ = 0; rw [HE.out]; rfl
    unfold maxT at hp
    by_cases hp1 : -8000000000000000000 ≤ p
    · have hp2 : 8000000000000000000 < p := by omega
      clear hp
      go_enter Try.func18, Try.ntmps18
      go_wp2
      go_ret2
      exact ⟨tup2 (vint HZ.out.symm) (vint HE.out.symm), Below.refl _ _⟩
    · clear hp
      go_enter Try.func18, Try.ntmps18
      go_wp2
      go_ret2
      exact ⟨tup2 (vint HZ.out.symm) (vint HE.out.symm), Below.refl _ _⟩
def unV (ns : Int) : Int := spQ ns * 4294967296 + spF ns
def unOk (ns : Int) : Bool := decide (-2147483648 ≤ spQ ns ∧ spQ ns ≤ 2147483647)
def unZ (ns : Int) : Int := if unOk ns then unV ns else 0
set_option maxHeartbeats 1000000 in
theorem units_any (ns : Int) (w : World) (h1 : -9223372036854775808 ≤ ns) (h2 : ns ≤ 9223372036854775807) :
    Calls Try.prog 23 #[.int .i64 ns] w fun e w' => e = .returned (.tuple #[.int .i64 (unZ ns), .bool (unOk ns)]) ∧ Below w.heap.size w w' := by
  have hc := split_any ns w h1 h2
  have hf := spF_rng ns
  have hq := spQ_rng h1 h2
  have hq1 := hq.1
  have hq2 := hq.2
  by_cases hA : -2147483648 ≤ spQ ns
  · by_cases hB : spQ ns ≤ 2147483647
    · have HO : Hid (unOk ns = true) := decide_eq_true ⟨hA, hB⟩
      have HZ : Hid (unZ ns = spQ ns * 4294967296 + spF ns) := by show unZ ns = _; unfold unZ; rw [HO.out]; rfl
      have ho : bits .or .i64 (spQ ns * 4294967296) (spF ns) = spQ ns * 4294967296 + spF ns := i64_or32 _ _ (by omega) (by omega) (by omega) hf.1 (by omega)
      go_enter Try.func23, Try.ntmps23
      go_wp2_with (first | (go_at_call 35; ((with_reducible refine hc.mono ?_); rintro e w1 ⟨rfl, hb⟩)))
      go_ret2
      exact ⟨tup2 (vint HZ.out.symm) (vbool HO.out.symm), hb⟩
    · have HO : Hid (unOk ns = false) := decide_eq_false (by omega)
      have HZ : Hid (unZ ns = 0) := by show unZ ns = _; unfold unZ; rw [HO.out]; rfl
      go_enter Try.func23, Try.ntmps23
      go_wp2_with (first | (go_at_call 35; ((with_reducible refine hc.mono ?_); rintro e w1 ⟨rfl, hb⟩)))
      go_ret2
      exact ⟨tup2 (vint HZ.out.symm) (vbool HO.out.symm), hb⟩
  · have HO : Hid (unOk ns = false) := decide_eq_false (by omega)
    have HZ : Hid (unZ ns = 0) := by show unZ ns = _; unfold unZ; rw [HO.out]; rfl
    go_enter Try.func23, Try.ntmps23
    go_wp2_with (first | (go_at_call 35; ((with_reducible refine hc.mono ?_); rintro e w1 ⟨rfl, hb⟩)))
    go_ret2
    exact ⟨tup2 (vint HZ.out.symm) (vbool HO.out.symm), hb⟩
set_option maxHeartbeats 1000000 in
theorem runits_any (ns : Int) (w : World) (h1 : -9223372036854775808 ≤ ns) (h2 : ns ≤ 9223372036854775807) :
    Calls Try.prog 24 #[.int .i64 ns] w fun e w' => e = .returned (.tuple #[.int .i64 (unZ ns), .bool (unOk ns)]) ∧ w = w' := by
  have hc := rsplit_any ns w h1 h2
  have hr := spR_rng ns
  have hr1 := hr.1
  have hr2 := hr.2
  have hfr := spFR ns
  have hf := spF_rng ns
  have hq := spQ_rng h1 h2
  have hq1 := hq.1
  have hq2 := hq.2
  by_cases hA : -2147483648 ≤ spQ ns
  · by_cases hB : spQ ns ≤ 2147483647
    · have HO : Hid (unOk ns = true) := decide_eq_true ⟨hA, hB⟩
      have HZ : Hid (unZ ns = spQ ns * 4294967296 + spF ns) := by show unZ ns = _; unfold unZ; rw [HO.out]; rfl
      go_enter Try.func24, Try.ntmps24
      go_wp2_with (first | (go_at_call 36; ((with_reducible refine hc.mono ?_); rintro e w1 ⟨rfl, rfl⟩)))
      go_ret2
      exact ⟨tup2 (vint HZ.out.symm) (vbool HO.out.symm), rfl⟩
    · have HO : Hid (unOk ns = false) := decide_eq_false (by omega)
      have HZ : Hid (unZ ns = 0) := by show unZ ns = _; unfold unZ; rw [HO.out]; rfl
      go_enter Try.func24, Try.ntmps24
      go_wp2_with (first | (go_at_call 36; ((with_reducible refine hc.mono ?_); rintro e w1 ⟨rfl, rfl⟩)))
      go_ret2
      exact ⟨tup2 (vint HZ.out.symm) (vbool HO.out.symm), rfl⟩
  · have HO : Hid (unOk ns = false) := decide_eq_false (by omega)
    have HZ : Hid (unZ ns = 0) := by show unZ ns = _; unfold unZ; rw [HO.out]; rfl
    go_enter Try.func24, Try.ntmps24
    go_wp2_with (first | (go_at_call 36; ((with_reducible refine hc.mono ?_); rintro e w1 ⟨rfl, rfl⟩)))
    go_ret2
    exact ⟨tup2 (vint HZ.out.symm) (vbool HO.out.symm), rfl⟩
end Go.Proofs.Ytlhcdmmocmcecaa
