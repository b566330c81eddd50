/- The chapter's examples hold: the law's function awake returns true. -/
import Derived.Test.YtickoncgnjgciaaAsJ
namespace Go.Proofs.Ytickoncgnjgciaa
open Go.RowKit
set_option linter.unusedSimpArgs false
set_option linter.unusedVariables false
set_option maxRecDepth 100000 in
set_option maxHeartbeats 8000000 in
theorem awake_any (w : World) : Calls Try.prog 11 #[] w fun e w' => e = .returned (.bool true) ∧ Below w.heap.size w w' := by
  go_enter Try.func11, Try.ntmps11
  go_wp2_with fail
  with_reducible refine (new_ok 4 w (by omega) (by omega)).mono ?_
  rintro e w1 ⟨rfl, H1, b1⟩
  have z1 := H1.lt
  go_wp2_with fail
  with_reducible refine (new_no 0 w1 (by omega)).mono ?_
  rintro e w2 ⟨rfl, rfl⟩
  go_wp2_with fail
  with_reducible refine (send_ok w.heap.size 4 0 0 false 0 0 0 0 0 0 0 0 0 1000 77 w1 H1 (by decide)).mono ?_
  rintro e w2 ⟨rfl, H2, g2⟩
  have B2 := b1.trans (g2.below (by omega) (Nat.le_refl _))
  have z2 := H2.lt
  clear H1 b1 g2 z1
  go_wp2_with (first | (refine wpl_alloc (by rfl) 31 (by rfl) (.agg (zN).toArray) (zN) zeroNtp rfl ?_; intro w3 J3 s3 b3) | (refine wpl_store (by rfl) 31 _ _ (by rfl) w2.heap.size (by rfl) _ (by rfl) _ rfl 31 _ J3 (by rfl) _ sizeNtp (by rfl) (by simp [Value.oneCell']) ?_; intro w4 J4 s4 g4))
  have H4 := (H2.below b3 (by omega)).but g4 (by omega)
  have B4 := (B2.trans (b3.mono B2.size)).trans (g4.below (by omega) (by omega))
  have z4 := J4.lt
  clear H2 B2 b3 J3 g4
  have hE := send_err w.heap.size 4 1000 77 true 0 0 0 0 0 0 0 0 0 2000 77 w4 H4 (by decide)
  rw [show sendE 2000 77 77 = 10 by decide] at hE
  with_reducible refine hE.mono ?_
  rintro e w5 ⟨rfl, b5⟩
  have H5 := H4.below b5 (by omega)
  have J5 := J4.below b5 (by omega)
  have B5 := B4.trans (b5.mono B4.size)
  have z5 := b5.size
  clear hE H4 J4 B4 b5
  go_wp2_with (first | (refine wpl_alloc (by rfl) 31 (by rfl) (.agg (zN).toArray) (zN) zeroNtp rfl ?_; intro w6 K6 s6 b6) | (refine wpl_store (by rfl) 31 _ _ (by rfl) w5.heap.size (by rfl) _ (by rfl) _ rfl 31 _ K6 (by rfl) _ sizeNtp (by rfl) (by simp [Value.oneCell']) ?_; intro w7 K7 s7 g7))
  have H7 := (H5.below b6 (by omega)).but g7 (by omega)
  have J7 := (J5.below b6 (by omega)).but g7 (by omega)
  have B7 := (B5.trans (b6.mono B5.size)).trans (g7.below (by omega) (by omega))
  clear H5 J5 B5 b6 K6 K7 g7
  have hE := send_err w.heap.size 4 1000 77 true 0 0 0 0 0 0 0 0 0 2000 0 w7 H7 (by decide)
  rw [show sendE 2000 0 77 = 2 by decide] at hE
  with_reducible refine hE.mono ?_
  rintro e w8 ⟨rfl, b8⟩
  have H8 := H7.below b8 (by omega)
  have J8 := J7.below b8 (by omega)
  have B8 := B7.trans (b8.mono B7.size)
  have z8 := b8.size
  clear hE H7 J7 B7 b8
  go_wp2_with (first | (refine wpl_alloc (by rfl) 31 (by rfl) (.agg (zN).toArray) (zN) zeroNtp rfl ?_; intro w9 K9 s9 b9) | (refine wpl_store (by rfl) 31 _ _ (by rfl) w8.heap.size (by rfl) _ (by rfl) _ rfl 31 _ K9 (by rfl) _ sizeNtp (by rfl) (by simp [Value.oneCell']) ?_; intro w10 K10 s10 g10) | (refine wpl_load (by rfl) 31 _ (by rfl) w2.heap.size (by rfl) 31 _ ((J8.below b9 (by omega)).but g10 (by omega)) _ Try.underlying31 rfl _ sizeNtp (by rfl) ?_))
  have H10 := (H8.below b9 (by omega)).but g10 (by omega)
  have B10 := (B8.trans (b9.mono B8.size)).trans (g10.below (by omega) (by omega))
  clear H8 J8 B8 b9 K9 K10 g10
  with_reducible refine (pending_any w.heap.size 4 1000 77 true 0 0 0 0 0 0 0 0 0 w10 H10).mono ?_
  rintro e w11 ⟨rfl, rfl⟩
  have hO1 := fun W => rof_any 3900000000000001500 W (by omega) (by omega)
  have hO2 := fun W => rof_any 3900000000000001600 W (by omega) (by omega)
  rw [X1_of] at hO1
  rw [X2_of] at hO2
  go_wp2_with fail
  with_reducible refine (hO1 _).mono ?_
  rintro e w11 ⟨rfl, b11⟩
  have H11 := H10.below b11 (by omega)
  have B11 := B10.trans (b11.mono B10.size)
  have z11 := b11.size
  clear H10 B10 b11 hO1
  go_wp2_with fail
  with_reducible refine (hO2 _).mono ?_
  rintro e w12 ⟨rfl, b12⟩
  have H12 := H11.below b12 (by omega)
  have B12 := B11.trans (b12.mono B11.size)
  have z12 := b12.size
  clear H11 B11 b12 hO2
  go_wp2_with (first | (refine wpl_alloc (by rfl) 31 (by rfl) (.agg (zN).toArray) (zN) zeroNtp rfl ?_; intro w13 P13 s13 b13) | (refine wpl_store (by rfl) 31 _ _ (by rfl) w12.heap.size (by rfl) _ (by rfl) _ rfl 31 _ P13 (by rfl) _ sizeNtp (by rfl) (by simp [Value.oneCell']) ?_; intro w14 P14 s14 g14) | (refine wpl_load (by rfl) 31 _ (by rfl) w12.heap.size (by rfl) 31 _ P14 _ Try.underlying31 rfl _ sizeNtp (by rfl) ?_))
  have H14 := (H12.below b13 (by omega)).but g14 (by omega)
  have B14 := (B12.trans (b13.mono B12.size)).trans (g14.below (by omega) (by omega))
  have z14 := P14.lt
  clear H12 B12 b13 P13 g14
  with_reducible refine (ex_r1 _ _ H14).mono ?_
  rintro e w15 ⟨rfl, H15, g15⟩
  have P15 := P14.but g15 (by omega)
  have B15 := B14.trans (g15.below B14.size (Nat.le_refl _))
  have z15 := g15.size
  clear H14 P14 B14 g15
  go_wp2_with (first
     | (refine wpl_alloc (by rfl) 40 (by rfl) (.agg (zH).toArray) (zH) zeroHeard rfl ?_; intro w16 Q16 s16 b16) | (refine wpl_store (by rfl) 40 _ _ (by rfl) w15.heap.size (by rfl) _ (by rfl) _ rfl 40 _ Q16 (by rfl) _ sizeHeard (by rfl) (by simp [Value.oneCell']) ?_; intro w17 Q17 s17 g17)
     | (refine wpl_storeg (by rfl) 28 _ _ (by rfl) w12.heap.size 10 (by rfl) (.int .u64 77) (by rfl) (by rfl) (by simp [Value.oneCell']) _ _ ([.int .i64 0, .int .i64 4, .int .i64 4, .int .i64 1, .int .i64 0, .int .i64 0, .int .u32 0, .int .u32 0, .int .u32 0, .int .u64 0, .int .u64 77, .int .u64 X1, .int .u64 X2]) ((P15.below b16 (by omega)).but g17 (by omega)) (by simp) sizeU64 (by rfl) ?_; intro w18 P18 s18 g18)
     | (refine wpl_load (by rfl) 31 _ (by rfl) w12.heap.size (by rfl) 31 _ P18 _ Try.underlying31 rfl _ sizeNtp (by rfl) ?_))
  have H18 := ((H15.below b16 (by omega)).but g17 (by omega)).but g18 (by omega)
  have Q18 := Q17.but g18 (by omega)
  have B18 := ((B15.trans (b16.mono B15.size)).trans (g17.below (by omega) (by omega))).trans (g18.below (by omega) (by omega))
  clear H15 P15 B15 b16 Q16 Q17 g17 g18
  with_reducible refine (ex_r2 _ _ H18).mono ?_
  rintro e w19 ⟨rfl, H19, g19⟩
  have P19 := P18.but g19 (by omega)
  have Q19 := Q18.but g19 (by omega)
  have B19 := B18.trans (g19.below B18.size (Nat.le_refl _))
  have z19 := g19.size
  clear H18 P18 B18 g19 Q18
  go_wp2_with (first
     | (refine wpl_alloc (by rfl) 40 (by rfl) (.agg (zH).toArray) (zH) zeroHeard rfl ?_; intro w20 R20 s20 b20) | (refine wpl_store (by rfl) 40 _ _ (by rfl) w19.heap.size (by rfl) _ (by rfl) _ rfl 40 _ R20 (by rfl) _ sizeHeard (by rfl) (by simp [Value.oneCell']) ?_; intro w21 R21 s21 g21)
     | (refine wpl_load (by rfl) 31 _ (by rfl) w12.heap.size (by rfl) 31 _ ((P19.below b20 (by omega)).but g21 (by omega)) _ Try.underlying31 rfl _ sizeNtp (by rfl) ?_))
  have H21 := (H19.below b20 (by omega)).but g21 (by omega)
  have P21 := (P19.below b20 (by omega)).but g21 (by omega)
  have Q21 := (Q19.below b20 (by omega)).but g21 (by omega)
  have B21 := (B19.trans (b20.mono B19.size)).trans (g21.below (by omega) (by omega))
  clear H19 P19 B19 b20 R20 g21 Q19
  with_reducible refine (ex_r3 _ _ H21).mono ?_
  rintro e w22 ⟨rfl, H22, g22⟩
  have P22 := P21.but g22 (by omega)
  have Q22 := Q21.but g22 (by omega)
  have R22 := R21.but g22 (by omega)
  have B22 := B21.trans (g22.below B21.size (Nat.le_refl _))
  have z22 := g22.size
  clear H21 P21 B21 g22 Q21 R21
  go_wp2_with (first
     | (refine wpl_alloc (by rfl) 40 (by rfl) (.agg (zH).toArray) (zH) zeroHeard rfl ?_; intro w23 T23 s23 b23) | (refine wpl_store (by rfl) 40 _ _ (by rfl) w22.heap.size (by rfl) _ (by rfl) _ rfl 40 _ T23 (by rfl) _ sizeHeard (by rfl) (by simp [Value.oneCell']) ?_; intro w24 T24 s24 g24)
     | (refine wpl_load (by rfl) 31 _ (by rfl) w12.heap.size (by rfl) 31 _ ((P22.below b23 (by omega)).but g24 (by omega)) _ Try.underlying31 rfl _ sizeNtp (by rfl) ?_))
  have H24 := (H22.below b23 (by omega)).but g24 (by omega)
  have Q24 := (Q22.below b23 (by omega)).but g24 (by omega)
  have R24 := (R22.below b23 (by omega)).but g24 (by omega)
  have B24 := (B22.trans (b23.mono B22.size)).trans (g24.below (by omega) (by omega))
  clear H22 P22 B22 b23 T23 g24 Q22 R22
  with_reducible refine (ex_r4 _ _ H24).mono ?_
  rintro e w25 ⟨rfl, H25, g25⟩
  have Q25 := Q24.but g25 (by omega)
  have R25 := R24.but g25 (by omega)
  have T25 := T24.but g25 (by omega)
  have B25 := B24.trans (g25.below B24.size (Nat.le_refl _))
  have z25 := g25.size
  clear H24 B24 g25 Q24 R24 T24
  go_wp2_with (first | (refine wpl_alloc (by rfl) 40 (by rfl) (.agg (zH).toArray) (zH) zeroHeard rfl ?_; intro w26 U26 s26 b26) | (refine wpl_store (by rfl) 40 _ _ (by rfl) w25.heap.size (by rfl) _ (by rfl) _ rfl 40 _ U26 (by rfl) _ sizeHeard (by rfl) (by simp [Value.oneCell']) ?_; intro w27 U27 s27 g27))
  have H27 := (H25.below b26 (by omega)).but g27 (by omega)
  have Q27 := (Q25.below b26 (by omega)).but g27 (by omega)
  have R27 := (R25.below b26 (by omega)).but g27 (by omega)
  have T27 := (T25.below b26 (by omega)).but g27 (by omega)
  have B27 := (B25.trans (b26.mono B25.size)).trans (g27.below (by omega) (by omega))
  have z27 := U27.lt
  clear H25 B25 b26 U26 g27 Q25 R25 T25
  with_reducible refine (counts_any _ _ _ _ _ _ _ _ _ _ _ _ _ _ _ H27).mono ?_
  rintro e w28 ⟨b, cp, rfl, hrow, hb1, hb2, hcp, b28⟩
  have H28 := H27.below b28 (by omega)
  have Q28 := Q27.below b28 (by omega)
  have R28 := R27.below b28 (by omega)
  have T28 := T27.below b28 (by omega)
  have U28 := U27.below b28 (by omega)
  have B28 := B27.trans (b28.mono B27.size)
  clear H27 B27 b28 Q27 R27 T27 U27
  have r0 : w28.cell? ⟨b, 0, none⟩ = some (.int .i64 1) := hrow 0 (by simp)
  have r1 : w28.cell? ⟨b, 1, none⟩ = some (.int .i64 1) := hrow 1 (by simp)
  have r2 : w28.cell? ⟨b, 2, none⟩ = some (.int .i64 1) := hrow 2 (by simp)
  have r7 : w28.cell? ⟨b, 7, none⟩ = some (.int .i64 1) := hrow 7 (by simp)
  clear hrow
  go_wp2_with (first
     | (refine wpl_load (by rfl) 40 _ (by rfl) w15.heap.size (by rfl) 40 _ Q28 _ Try.underlying40 rfl _ sizeHeard (by rfl) ?_) | (refine wpl_load (by rfl) 40 _ (by rfl) w19.heap.size (by rfl) 40 _ R28 _ Try.underlying40 rfl _ sizeHeard (by rfl) ?_) | (refine wpl_load (by rfl) 40 _ (by rfl) w22.heap.size (by rfl) 40 _ T28 _ Try.underlying40 rfl _ sizeHeard (by rfl) ?_) | (refine wpl_load (by rfl) 40 _ (by rfl) w25.heap.size (by rfl) 40 _ U28 _ Try.underlying40 rfl _ sizeHeard (by rfl) ?_)
     | (go_at_call 18; ((with_reducible refine (pending_any _ _ _ _ _ _ _ _ _ _ _ _ _ _ _ H28).mono ?_); rintro e w1 ⟨rfl, rfl⟩)))
  go_ret
  exact ⟨rfl, B28⟩
end Go.Proofs.Ytickoncgnjgciaa
