/- What server.Interval and the reference's Interval compute. -/
import Derived.Test.YtjclifjipphnkaaSvL
namespace Go.Proofs.Ytjclifjipphnkaa
open Go.RowKit
set_option linter.unusedSimpArgs false
set_option linter.unusedVariables false
set_option maxRecDepth 100000
def ivLo (d : List Int) : Int := i64 (numB (d.take 8))
def ivHi (d : List Int) : Int := i64 (numB (d.drop 8))
/-- the error of an interval's bytes, and its ends -/
def irE (d : List Int) : Int := if d.length = 16 then (if ivB (ivLo d) (ivHi d) = true then 0 else 2) else 7
def irA (d : List Int) : Int := if irE d = 0 then ivLo d else 0
def irB (d : List Int) : Int := if irE d = 0 then ivHi d else 0
theorem irE_cases (d : List Int) : (d.length ≠ 16 ∧ irE d = 7 ∧ irA d = 0 ∧ irB d = 0) ∨ (d.length = 16 ∧ ivB (ivLo d) (ivHi d) = false ∧ irE d = 2 ∧ irA d = 0 ∧ irB d = 0) ∨ (d.length = 16 ∧ ivB (ivLo d) (ivHi d) = true ∧ irE d = 0 ∧ irA d = ivLo d ∧ irB d = ivHi d) := by
  unfold irA irB irE
  by_cases h : d.length = 16
  · cases h2 : ivB (ivLo d) (ivHi d) <;> simp [h]
  · simp [h]
set_option maxHeartbeats 2000000 in
theorem read_any (A : Option Addr) (c hi : Nat) (d : List Int) (n : Nat) (w : World) (hn : d.length = n) (hB : Bs w 0 hi A d) (hh : hi ≤ w.heap.size) (hnc : n ≤ c) (hc : c ≤ 9223372036854775807) :
    Calls Try.prog 47 #[.slice A n c] w fun e w' => e = .returned (.tuple #[.agg (ivL (irA d) (irB d)).toArray, .int .i64 (irE d)]) ∧ Below w.heap.size w w' := by
  rcases irE_cases d with ⟨h1, h2, h3, h4⟩ | ⟨h1, h2, h3, h4, h5⟩ | ⟨h1, h2, h3, h4, h5⟩
  · rw [h2, h3, h4]
    have hne : ((n : Int) != 16) = true := by simp; omega
    clear h1 h2 h3 h4
    go_enter Try.func47, Try.ntmps47
    go_wp2_with (first
      | (refine wpl_store (by rfl) 46 _ _ (by rfl) w.heap.size (by rfl) _ (by rfl) _ rfl 46 _ J1 (by rfl) _ sizeIv (by rfl) (by simp [Value.oneCell']) ?_; intro w6 J6 s6 g6)
      | (refine wpl_alloc (by rfl) 46 (by rfl) (.agg (ivL 0 0).toArray) (ivL 0 0) zeroIv rfl ?_; intro w1 J1 s1 b1))
    obtain ⟨k0, k1⟩ := cells2 J6
    refine bodyPost_ret (v := .tuple #[.agg (ivL 0 0).toArray, .int .i64 7]) (by simp [results, Try.results47, go_sem, k0, k1]) rfl ?_
    exact ⟨rfl, b1.trans (g6.below (by omega) (by omega))⟩
  all_goals
    obtain rfl : n = 16 := by omega
    have hG0 : ∀ W, Bs W 0 hi A d → Calls Try.prog 62 #[.slice A 16 c, .int .i64 0, .int .i64 8] W fun e w' => e = .returned (.tuple #[.int .u64 (numB (d.take 8)), .int .i64 0]) ∧ W = w' := fun W HB => by
      have := rget_any A 16 c 0 hi d 0 8 W h1 HB hnc hc (by omega)
      rwa [getR, getE_0 (by omega) (by rw [h1]; omega), z0_zero] at this
    have hG8 : ∀ W, Bs W 0 hi A d → Calls Try.prog 62 #[.slice A 16 c, .int .i64 8, .int .i64 8] W fun e w' => e = .returned (.tuple #[.int .u64 (numB (d.drop 8)), .int .i64 0]) ∧ W = w' := fun W HB => by
      have := rget_any A 16 c 0 hi d 8 8 W h1 HB hnc hc (by omega)
      rw [getR, getE_0 (by omega) (by rw [h1]; omega), z0_zero] at this
      unfold getV at this
      rwa [show (8 : Int).toNat = 8 from rfl, List.take_of_length_le (by rw [List.length_drop]; omega)] at this
    have hC := fun W => ivcheck_any (ivLo d) (ivHi d) W
    rw [h3, h4, h5]
    have hlo : wrap64 (numB (d.take 8)) = ivLo d := rfl
    have hhi : wrap64 (numB (d.drop 8)) = ivHi d := rfl
    clear h3 h4 h5
  · simp only [ivE_no h2] at hC
    clear h1 h2
    go_enter Try.func47, Try.ntmps47
    go_wp2_with (first
      | (go_at_call 62; ((with_reducible refine (hG0 _ (hB.below b1 hh)).mono ?_); rintro e w2 ⟨rfl, rfl⟩))
      | (go_at_call 62; ((with_reducible refine (hG8 _ (hB.below b1 hh)).mono ?_); rintro e w2 ⟨rfl, rfl⟩))
      | ((refine wpl_alloc (by rfl) 46 (by rfl) (.agg (ivL 0 0).toArray) (ivL 0 0) zeroIv rfl ?_; intro w3 K3 s3 b3); (have J3 := J1.below b3 (by omega)))
      | ((refine wpl_store (by rfl) 46 _ _ (by rfl) w1.heap.size (by rfl) _ (by rfl) _ rfl 46 _ K3 (by rfl) _ sizeIv (by rfl) (by simp [Value.oneCell']) ?_; intro w4 K4 s4 g4); (have J4 := J3.but g4 (by omega)))
      | (refine wpl_load (by rfl) 46 _ (by rfl) w1.heap.size (by rfl) 46 _ K4 _ Try.underlying46 rfl _ sizeIv (by rfl) ?_)
      | (go_at_call 43; ((with_reducible refine (hC _).mono ?_); rintro e w5 ⟨rfl, b5⟩; (have J5 := J4.below b5 (by omega)); (have K5 := K4.below b5 (by omega)); (have z5 := b5.size)))
      | (refine wpl_load (by rfl) 46 _ (by rfl) w1.heap.size (by rfl) 46 _ K5 _ Try.underlying46 rfl _ sizeIv (by rfl) ?_)
      | (refine wpl_store (by rfl) 46 _ _ (by rfl) w.heap.size (by rfl) _ (by rfl) _ rfl 46 _ J5 (by rfl) _ sizeIv (by rfl) (by simp [Value.oneCell']) ?_; intro w6 J6 s6 g6)
      | (refine wpl_alloc (by rfl) 46 (by rfl) (.agg (ivL 0 0).toArray) (ivL 0 0) zeroIv rfl ?_; intro w1 J1 s1 b1))
    obtain ⟨k0, k1⟩ := cells2 J6
    refine bodyPost_ret (v := .tuple #[.agg (ivL 0 0).toArray, .int .i64 2]) (by simp [results, Try.results47, go_sem, k0, k1]) rfl ?_
    exact ⟨rfl, (((b1.trans (b3.mono (by omega))).trans (g4.below (by omega) (by omega))).trans (b5.mono (by omega))).trans (g6.below (by omega) (by omega))⟩
  · simp only [show ivE (ivLo d) (ivHi d) = 0 from if_pos h2] at hC
    clear h1 h2
    go_enter Try.func47, Try.ntmps47
    go_wp2_with (first
      | (go_at_call 62; ((with_reducible refine (hG0 _ (hB.below b1 hh)).mono ?_); rintro e w2 ⟨rfl, rfl⟩))
      | (go_at_call 62; ((with_reducible refine (hG8 _ (hB.below b1 hh)).mono ?_); rintro e w2 ⟨rfl, rfl⟩))
      | ((refine wpl_alloc (by rfl) 46 (by rfl) (.agg (ivL 0 0).toArray) (ivL 0 0) zeroIv rfl ?_; intro w3 K3 s3 b3); (have J3 := J1.below b3 (by omega)))
      | ((refine wpl_store (by rfl) 46 _ _ (by rfl) w1.heap.size (by rfl) _ (by rfl) _ rfl 46 _ K3 (by rfl) _ sizeIv (by rfl) (by simp [Value.oneCell']) ?_; intro w4 K4 s4 g4); (have J4 := J3.but g4 (by omega)))
      | (refine wpl_load (by rfl) 46 _ (by rfl) w1.heap.size (by rfl) 46 _ K4 _ Try.underlying46 rfl _ sizeIv (by rfl) ?_)
      | (go_at_call 43; ((with_reducible refine (hC _).mono ?_); rintro e w5 ⟨rfl, b5⟩; (have J5 := J4.below b5 (by omega)); (have K5 := K4.below b5 (by omega)); (have z5 := b5.size)))
      | (refine wpl_load (by rfl) 46 _ (by rfl) w1.heap.size (by rfl) 46 _ K5 _ Try.underlying46 rfl _ sizeIv (by rfl) ?_)
      | (refine wpl_store (by rfl) 46 _ _ (by rfl) w.heap.size (by rfl) _ (by rfl) _ rfl 46 _ J5 (by rfl) _ sizeIv (by rfl) (by simp [Value.oneCell']) ?_; intro w6 J6 s6 g6)
      | (refine wpl_alloc (by rfl) 46 (by rfl) (.agg (ivL 0 0).toArray) (ivL 0 0) zeroIv rfl ?_; intro w1 J1 s1 b1))
    obtain ⟨k0, k1⟩ := cells2 J6
    refine bodyPost_ret (v := .tuple #[.agg (ivL (ivLo d) (ivHi d)).toArray, .int .i64 0]) (by simp [results, Try.results47, go_sem, k0, k1]) rfl ?_
    exact ⟨rfl, (((b1.trans (b3.mono (by omega))).trans (g4.below (by omega) (by omega))).trans (b5.mono (by omega))).trans (g6.below (by omega) (by omega))⟩
end Go.Proofs.Ytjclifjipphnkaa
