/- awake of the laws on wire returns true. -/
import Derived.Test.YtkacncacfnhdjaaReader
import Derived.Test.YtkacncacfnhdjaaSlices
namespace Go.Proofs.Ytkacncacfnhdjaa
open Go.RowKit
set_option linter.unusedSimpArgs false
set_option linter.unusedVariables false
set_option maxRecDepth 100000
theorem but_below {g B : Nat} {w w' : World} (h : But g w w') (h1 : B ≤ w.heap.size) (h2 : B ≤ g) : Below B w w' := below_of_grown h h1 (by simp; omega)
theorem ex_get : getR [7, 1, 2] 1 2 = .tuple #[.int .u64 258, .int .i64 0] := by kernel_rfl
theorem ex_bytes : [7] ++ bytesB 2 258 = [7, 1, 2] := by decide
theorem ex_int : intB (tkL [255, 254, 5] 0 2 (szB 2)) = -2 := by decide
theorem ex_rest : tkR [255, 254, 5] 0 2 (szB 2) = [5] := by decide
theorem ex_err : tkE [255, 254, 5] 0 2 (szB 2) = 0 := by decide
theorem ex_uint : numB (tkL [5] 0 2 (szB 2)) = 0 := by decide
theorem ex_rest2 : tkR [5] 0 2 (szB 2) = [5] := by decide
theorem ex_err2 : tkE [5] 0 2 (szB 2) = 5 := by decide
theorem ex_ap : apE 16777216 3 = 3 := by decide
set_option maxHeartbeats 4000000 in
theorem awake_any (w : World) : Calls Try.prog 11 #[] w fun e w' => e = .returned (.bool true) ∧ Below w.heap.size w w' := by
  have hL := Ow.lit w [7] #[.int .u8 7] rfl (by decide) (by simp)
  go_enter Try.func11, Try.ntmps11
  go_wp2_with fail
  refine (append_ok (some ⟨w.heap.size, 0, none⟩) 1 1 w.heap.size (w.heap.size + 1) [7] 258 2 _ rfl hL.bs' (by simp) (by simp) (by omega) (by omega) (by omega) (by decide)).mono ?_
  rintro e w1 ⟨rfl, hO1, hz1, hb1⟩
  rw [ex_bytes] at hO1
  simp only [World.size_alloc] at hO1 hz1 hb1
  have B1 : Below w.heap.size w w1 := ((Below.refl _ w).alloc (Nat.le_refl _) _).trans (hb1.mono (by omega))
  have s1 : w.heap.size + 1 < w1.heap.size := by omega
  clear hL hb1 hz1
  have hL2 := Ow.lit w1 [7, 1, 2] #[.int .u8 7, .int .u8 1, .int .u8 2] rfl (by decide) (by simp)
  go_wp2_with fail
  refine (get_any (some ⟨w1.heap.size, 0, none⟩) 3 3 w1.heap.size (w1.heap.size + 1) [7, 1, 2] 1 2 _ rfl hL2.bs' (by omega) (by omega) (by omega)).mono ?_
  rintro e w2 ⟨rfl, rfl⟩
  rw [ex_get]
  have hO2 := hO1.alloc (.cells #[.int .u8 7, .int .u8 1, .int .u8 2] 5)
  have hL3 := Ow.lit (w1.alloc (.cells #[.int .u8 7, .int .u8 1, .int .u8 2] 5)) [255, 254, 5] #[.int .u8 255, .int .u8 254, .int .u8 5] rfl (by decide) (by simp)
  have hO3 := hO2.alloc (.cells #[.int .u8 255, .int .u8 254, .int .u8 5] 5)
  simp only [World.size_alloc] at hL3
  clear hL2 hO1 hO2
  go_wp2_with fail
  refine (newReader_any (some ⟨w1.heap.size + 1, 0, none⟩) 3 3 (w1.heap.size + 1) (w1.heap.size + 2) [255, 254, 5] _ rfl hL3.bs' (by simp) (by simp)).mono ?_
  rintro e w3 ⟨g, rfl, hR, hgz, hb3⟩
  have hO4 := hO3.below hb3 (Nat.le_refl _)
  simp only [World.size_alloc] at hb3 hR
  have B3 : Below w.heap.size w w3 := ((B1.alloc (by omega) _).alloc (by simp; omega) _).trans (hb3.mono (by omega))
  have s3 := hb3.size
  simp only [World.size_alloc] at s3
  have hg1 : w1.heap.size + 1 + 1 ≤ g := by obtain ⟨_, _, _, _, _, _, _, _, h, _⟩ := hR; omega
  have hg2 : g < w3.heap.size := hR.lt
  clear hL3 hO3 hb3 hgz
  go_wp2_with fail
  refine (int_any _ g [255, 254, 5] 0 2 _ hR).mono ?_
  rintro e w4 ⟨rfl, hR4, hg4, s4⟩
  rw [ex_rest, ex_err] at hR4
  rw [ex_int]
  have hO5 := hO4.grown hg4 (by intro x hx; injection hx with hx; injection hx with hx; simp; omega)
  have B4 := B3.trans (but_below hg4 (by omega) (by omega))
  clear hO4 B3 hR hg4
  go_wp2_with fail
  refine (left_any _ g [5] 0 _ hR4).mono ?_
  rintro e w5 ⟨rfl, rfl⟩
  go_wp2_with fail
  refine (uint_any _ g [5] 0 2 _ hR4).mono ?_
  rintro e w6 ⟨rfl, hR6, hg6, s6⟩
  rw [ex_rest2, ex_err2] at hR6
  rw [ex_uint]
  have hO6 := hO5.grown hg6 (by intro x hx; injection hx with hx; injection hx with hx; simp; omega)
  have B6 := B4.trans (but_below hg6 (by omega) (by omega))
  clear hO5 B4 hR4 hg6
  go_wp2_with fail
  refine (append_err none 0 0 16777216 3 _ (by omega) (by omega) (by rw [ex_ap]; decide)).mono ?_
  rintro e w7 ⟨rfl, rfl⟩
  rw [ex_ap]
  have hL7 := Ow.lit w6 [7, 1, 2] #[.int .u8 7, .int .u8 1, .int .u8 2] rfl (by decide) (by simp)
  have hO7 := hO6.alloc (.cells #[.int .u8 7, .int .u8 1, .int .u8 2] 5)
  clear hO6
  go_wp2_with fail
  refine (equal_any (some ⟨w.heap.size + 1, 0, none⟩) (some ⟨w6.heap.size, 0, none⟩) 3 3 3 3 _ _ _ _ [7, 1, 2] [7, 1, 2] _ rfl rfl hO7.bs hL7.bs (by simp) (by simp) (by omega) (by omega)).mono ?_
  rintro e w8 ⟨rfl, hb8⟩
  rw [eqB_self]
  have hR8 := (hR6.below ((Below.refl w6.heap.size w6).alloc (Nat.le_refl _) (.cells #[.int .u8 7, .int .u8 1, .int .u8 2] 5)) hR6.lt).below hb8 (by have := hR6.lt; simp; omega)
  simp only [World.size_alloc] at hb8
  have B8 : Below w.heap.size w w8 := (B6.alloc (by omega) _).trans (hb8.mono (by omega))
  clear hb8 hR6 B6 hO7 hL7
  go_wp2_with fail
  refine (err_any _ g [5] 5 _ hR8).mono ?_
  rintro e w9 ⟨rfl, rfl⟩
  go_wp2
  go_ret
  exact ⟨rfl, B8⟩
end Go.Proofs.Ytkacncacfnhdjaa
