/- awake of the laws on stamp returns true. -/
import Derived.Test.YtlhcdmmocmcecaaStamp4
namespace Go.Proofs.Ytlhcdmmocmcecaa
open Go.RowKit
set_option linter.unusedSimpArgs false
set_option linter.unusedVariables false
abbrev exS : ByteArray := ⟨#[48, 48, 48, 48, 48, 48, 48, 49, 46, 56, 48, 48, 48, 48, 48, 48, 48]⟩
theorem ex1 : z0 0 (tmV 6442450944 0) = 1500000000 := by decide +kernel
theorem ex2 : tmE 6442450944 0 = 0 := by decide +kernel
theorem ex3 : z0 0 (tmV 6442450944 4294967296000000000) = 4294967297500000000 := by decide +kernel
theorem ex4 : tmE 6442450944 4294967296000000000 = 0 := by decide +kernel
theorem ex5 : ofN 1500000000 = 6442450944 := by decide +kernel
theorem ex6 : ofN (-1) = 18446744073709551611 := by decide +kernel
theorem ex7 : eraN (-1) = -1 := by decide +kernel
theorem ex8 : eraN 4294967296000000000 = 1 := by decide +kernel
theorem ex9 : unZ 1500000000 = 6442450944 := by decide +kernel
theorem ex10 : unOk 1500000000 = true := by decide +kernel
theorem ex11 : z0 0 (shortN 1000000000) = 65536 := by decide +kernel
theorem ex12 : shortErr 1000000000 = 0 := by decide +kernel
theorem ex13 : psV exS = 6442450944 := by decide +kernel
theorem ex14 : psE exS = 0 := by decide +kernel
theorem ex15 : nanosN 1 = 1 := by decide +kernel
theorem ex16 : nanosN (-1) = 0 := by decide +kernel
theorem ex17 : longN 1 = 15259 := by decide +kernel
theorem ex18 : diffN 1 2 = -1 := by decide +kernel
theorem ex19 : strOf (tx 6442450944 16) = exS := by decide +kernel
set_option maxHeartbeats 4000000 in
theorem awake_any (w : World) : Calls Try.prog 16 #[] w fun e w' => e = .returned (.bool true) ∧ Below w.heap.size w w' := by
  have c1 := fun W => time_any 6442450944 0 W (by omega) (by omega)
  have c2 := fun W => time_any 6442450944 4294967296000000000 W (by omega) (by omega)
  have c3 := fun W => of_any 1500000000 W (by omega) (by omega)
  have c4 := fun W => of_any (-1) W (by omega) (by omega)
  have c5 := fun W => era_any (-1) W (by omega) (by omega)
  have c6 := fun W => era_any 4294967296000000000 W (by omega) (by omega)
  have c7 := fun W => units_any 1500000000 W (by omega) (by omega)
  have c8 := fun W => short_any 1000000000 W (by omega) (by omega)
  have c9 := fun W => parse_any exS W (by decide)
  have c10 := fun W => nanos_any 1 W (by omega) (by omega)
  have c11 := fun W => nanos_any (-1) W (by omega) (by omega)
  have c12 := fun W => long_any 1 W (by omega) (by omega)
  have c13 := fun W => diff_any 1 2 W
  have c14 := fun W => text_any 6442450944 W (by omega) (by omega)
  have B0 : Below w.heap.size w w := Below.refl _ _
  simp only [ex1, ex2, ex3, ex4, ex5, ex6, ex7, ex8, ex9, ex10, ex11, ex12, ex13, ex14, ex15, ex16, ex17, ex18, ex19] at c1 c2 c3 c4 c5 c6 c7 c8 c9 c10 c11 c12 c13 c14
  go_enter Try.func16, Try.ntmps16
  go_wp2_with fail
  refine (c1 _).mono ?_
  rintro e w1 ⟨rfl, hb⟩
  have B1 := (B0).trans (hb.mono (B0).size)
  clear hb
  go_wp2_with fail
  refine (c2 _).mono ?_
  rintro e w2 ⟨rfl, hb⟩
  have B2 := (B1).trans (hb.mono (B1).size)
  clear hb
  go_wp2_with fail
  refine (c3 _).mono ?_
  rintro e w3 ⟨rfl, hb⟩
  have B3 := (B2).trans (hb.mono (B2).size)
  clear hb
  go_wp2_with fail
  refine (c4 _).mono ?_
  rintro e w4 ⟨rfl, hb⟩
  have B4 := (B3).trans (hb.mono (B3).size)
  clear hb
  go_wp2_with fail
  refine (c5 _).mono ?_
  rintro e w5 ⟨rfl, hb⟩
  have B5 := (B4).trans (hb.mono (B4).size)
  clear hb
  go_wp2_with fail
  refine (c6 _).mono ?_
  rintro e w6 ⟨rfl, hb⟩
  have B6 := (B5).trans (hb.mono (B5).size)
  clear hb
  go_wp2_with fail
  refine (c7 _).mono ?_
  rintro e w7 ⟨rfl, hb⟩
  have B7 := (B6).trans (hb.mono (B6).size)
  clear hb
  go_wp2_with fail
  refine (c8 _).mono ?_
  rintro e _ ⟨rfl, rfl⟩
  go_wp2_with fail
  refine (c9 _).mono ?_
  rintro e _ ⟨rfl, rfl⟩
  go_wp2_with fail
  refine (c10 _).mono ?_
  rintro e _ ⟨rfl, rfl⟩
  go_wp2_with fail
  refine (c11 _).mono ?_
  rintro e _ ⟨rfl, rfl⟩
  go_wp2_with fail
  refine (c12 _).mono ?_
  rintro e _ ⟨rfl, rfl⟩
  go_wp2_with fail
  refine (c13 _).mono ?_
  rintro e _ ⟨rfl, rfl⟩
  go_wp2_with fail
  refine (c14 _).mono ?_
  rintro e w8 ⟨rfl, hb⟩
  have B8 := (B7).trans (hb.mono (B7).size)
  clear hb
  go_wp2
  go_ret
  exact ⟨rfl, B8⟩
end Go.Proofs.Ytlhcdmmocmcecaa
