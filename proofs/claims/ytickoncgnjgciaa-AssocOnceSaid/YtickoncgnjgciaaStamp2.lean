/- What stamp.Units, Short and Long, and stamp's reference of Time, Units, Short and Long compute. -/
import Derived.Test.YtickoncgnjgciaaStamp
namespace Go.Proofs.Ytickoncgnjgciaa
open Go.RowKit
set_option linter.unusedSimpArgs false
set_option linter.unusedVariables false
set_option maxHeartbeats 4000000 in
theorem rtime_any (s p : Int) (w : World) (h1 : -9223372036854775808 ≤ p) (h2 : p ≤ 9223372036854775807) :
    Calls Try.prog 45 #[.int .u64 s, .int .i64 p] w fun e w' => e = .returned (.tuple #[.int .i64 (z0 (tmE s p) (tmV s p)), .int .i64 (tmE s p)]) ∧ Below w.heap.size w w' := by
  by_cases hp : maxT p
  · have hp1 := hp.1
    have hp2 := hp.2
    have hc1 := rsplit_any p w h1 h2
    have hc2 := fun W => rof_any p W h1 h2
    have hl := tmLow_rng s p
    have hh := tmHi_rng (s := s) hp
    have hh1 := hh.1
    have hh2 := hh.2
    have hd := diffN_rng s (ofN p)
    have hr := spR_rng p
    have hr1 := hr.1
    have hr2 := hr.2
    have hf := spFR p
    have hm := i64_mask32 (diffN s (ofN p))
    have hm2 := i64_mask32 (tmLow s p)
    have eL : spF p + diffN s (ofN p) % 4294967296 = tmLow s p := rfl
    have hw1 : wrap64 (spF p + diffN s (ofN p) % 4294967296) = tmLow s p := by rw [eL]; unfold wrap64; omega
    have eH : tmHi s p = spQ p + (diffN s (ofN p) / 4294967296 + tmLow s p / 4294967296) := rfl
    have hw2 : wrap64 (wrap64 (spQ p + diffN s (ofN p) / 4294967296) + tmLow s p / 4294967296) = tmHi s p := by
      rw [eH] at hh ⊢
      unfold wrap64; omega
    have hw3 : wrap64 (spQ p + diffN s (ofN p) / 4294967296 + tmLow s p / 4294967296) = tmHi s p := by
      rw [eH] at hh ⊢
      unfold wrap64; omega
    have eH' : spQ p + diffN s (ofN p) / 4294967296 + tmLow s p / 4294967296 = tmHi s p := by rw [eH]; omega
    have hn := nanoN_rng (f := tmLow s p % 4294967296) (by omega) (by omega)
    have hn1 := hn.1
    have hn2 := hn.2
    have hc5 := fun W => above_any (tmLow s p % 4294967296) W (by omega) (by omega)
    have eV : tmHi s p * 1000000000 + nanoN (tmLow s p % 4294967296) = tmV s p := rfl
    clear eH
    by_cases hA : tmHi s p ≤ 8000000000
    · by_cases hB : -8000000001 ≤ tmHi s p
      · by_cases hV : maxT (tmV s p)
        · have HE : Hid (tmE s p = 0) := by show tmE s p = 0; unfold tmE; rw [if_pos hp, if_pos hV]
          have HZ : Hid (z0 (tmE s p) (tmV s p) = tmV s p) := by show z0 _ _ = _; rw [HE.out]; rfl
          have hV1 := hV.1
          have hV2 := hV.2
          clear hV
          go_enter Try.func45, Try.ntmps45
          go_wp2_with (first | (go_at_call 32; ((with_reducible refine hc1.mono ?_); rintro e w1 ⟨rfl, rfl⟩)) | (go_at_call 24; ((with_reducible refine (hc2 _).mono ?_); rintro e w2 ⟨rfl, hb2⟩)) | (go_at_call 51; ((with_reducible refine (rdiff_any s (ofN p) _).mono ?_); rintro e w3 ⟨rfl, rfl⟩)) | (go_at_call 52; ((with_reducible refine (hc5 _).mono ?_); rintro e w5 ⟨rfl, rfl⟩)))
          go_ret2
          exact ⟨tup2 (vint HZ.out.symm) (vint HE.out.symm), hb2⟩
        · have HE : Hid (tmE s p = 3) := by show tmE s p = 3; unfold tmE; rw [if_pos hp, if_neg hV]
          have HZ : Hid (z0 (tmE s p) (tmV s p) = 0) := by show z0 _ _ = _; rw [HE.out]; rfl
          unfold maxT at hV
          by_cases hlo : -8000000000000000000 ≤ tmV s p
          · have hhi : 8000000000000000000 < tmV s p := by omega
            clear hV
            go_enter Try.func45, Try.ntmps45
            go_wp2_with (first | (go_at_call 32; ((with_reducible refine hc1.mono ?_); rintro e w1 ⟨rfl, rfl⟩)) | (go_at_call 24; ((with_reducible refine (hc2 _).mono ?_); rintro e w2 ⟨rfl, hb2⟩)) | (go_at_call 51; ((with_reducible refine (rdiff_any s (ofN p) _).mono ?_); rintro e w3 ⟨rfl, rfl⟩)) | (go_at_call 52; ((with_reducible refine (hc5 _).mono ?_); rintro e w5 ⟨rfl, rfl⟩)))
            go_ret2
            exact ⟨tup2 (vint HZ.out.symm) (vint HE.out.symm), hb2⟩
          · clear hV
            go_enter Try.func45, Try.ntmps45
            go_wp2_with (first | (go_at_call 32; ((with_reducible refine hc1.mono ?_); rintro e w1 ⟨rfl, rfl⟩)) | (go_at_call 24; ((with_reducible refine (hc2 _).mono ?_); rintro e w2 ⟨rfl, hb2⟩)) | (go_at_call 51; ((with_reducible refine (rdiff_any s (ofN p) _).mono ?_); rintro e w3 ⟨rfl, rfl⟩)) | (go_at_call 52; ((with_reducible refine (hc5 _).mono ?_); rintro e w5 ⟨rfl, rfl⟩)))
            go_ret2
            exact ⟨tup2 (vint HZ.out.symm) (vint HE.out.symm), hb2⟩
      · have hV : ¬ maxT (tmV s p) := by unfold maxT; omega
        have HE : Hid (tmE s p = 3) := by show tmE s p = 3; unfold tmE; rw [if_pos hp, if_neg hV]
        have HZ : Hid (z0 (tmE s p) (tmV s p) = 0) := by show z0 _ _ = _; rw [HE.out]; rfl
        clear hV
        go_enter Try.func45, Try.ntmps45
        go_wp2_with (first | (go_at_call 32; ((with_reducible refine hc1.mono ?_); rintro e w1 ⟨rfl, rfl⟩)) | (go_at_call 24; ((with_reducible refine (hc2 _).mono ?_); rintro e w2 ⟨rfl, hb2⟩)) | (go_at_call 51; ((with_reducible refine (rdiff_any s (ofN p) _).mono ?_); rintro e w3 ⟨rfl, rfl⟩)) | (go_at_call 52; ((with_reducible refine (hc5 _).mono ?_); rintro e w5 ⟨rfl, rfl⟩)))
        go_ret2
        exact ⟨tup2 (vint HZ.out.symm) (vint HE.out.symm), hb2⟩
    · have hV : ¬ maxT (tmV s p) := by unfold maxT; omega
      have HE : Hid (tmE s p = 3) := by show tmE s p = 3; unfold tmE; rw [if_pos hp, if_neg hV]
      have HZ : Hid (z0 (tmE s p) (tmV s p) = 0) := by show z0 _ _ = _; rw [HE.out]; rfl
      clear hV
      go_enter Try.func45, Try.ntmps45
      go_wp2_with (first | (go_at_call 32; ((with_reducible refine hc1.mono ?_); rintro e w1 ⟨rfl, rfl⟩)) | (go_at_call 24; ((with_reducible refine (hc2 _).mono ?_); rintro e w2 ⟨rfl, hb2⟩)) | (go_at_call 51; ((with_reducible refine (rdiff_any s (ofN p) _).mono ?_); rintro e w3 ⟨rfl, rfl⟩)) | (go_at_call 52; ((with_reducible refine (hc5 _).mono ?_); rintro e w5 ⟨rfl, rfl⟩)))
      go_ret2
      exact ⟨tup2 (vint HZ.out.symm) (vint HE.out.symm), hb2⟩
  · have HE : Hid (tmE s p = 2) := by show tmE s p = 2; unfold tmE; rw [if_neg hp]
    have HZ : Hid (z0 (tmE s p) (tmV s p) = 0) := by show z0 _ _ = 0; rw [HE.out]; rfl
    unfold maxT at hp
    by_cases hp1 : -8000000000000000000 ≤ p
    · have hp2 : 8000000000000000000 < p := by omega
      clear hp
      go_enter Try.func45, Try.ntmps45
      go_wp2
      go_ret2
      exact ⟨tup2 (vint HZ.out.symm) (vint HE.out.symm), Below.refl _ _⟩
    · clear hp
      go_enter Try.func45, Try.ntmps45
      go_wp2
      go_ret2
      exact ⟨tup2 (vint HZ.out.symm) (vint HE.out.symm), Below.refl _ _⟩
end Go.Proofs.Ytickoncgnjgciaa
