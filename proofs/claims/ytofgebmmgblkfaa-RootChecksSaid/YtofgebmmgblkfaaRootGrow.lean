/- What root.Grow and its reference compute. -/
import Derived.Test.YtofgebmmgblkfaaRoot
namespace Go.Proofs.Ytofgebmmgblkfaa
open Go.RowKit
set_option linter.unusedSimpArgs false
set_option linter.unusedVariables false
def inc (span tol : Int) : Int := (span * tol + 999999999) / 1000000000
theorem inc_parts (span tol : Int) : span / 1000000000 * tol + (span % 1000000000 * tol + 999999999) / 1000000000 = inc span tol := by
  have h : span * tol = 1000000000 * (span / 1000000000 * tol) + span % 1000000000 * tol := by
    have := Int.mul_ediv_add_emod span 1000000000
    grind
  unfold inc
  rw [h]
  omega
def growErr (s d p span tol : Int) : Int := if chk s d p = 0 ∧ 0 ≤ span ∧ span ≤ 9007199254740992 ∧ 0 ≤ tol ∧ tol ≤ 500000 then chk s d (p + inc span tol) else 3
theorem chk_03 (s d p : Int) : chk s d p = 0 ∨ chk s d p = 3 := by unfold chk; split <;> simp
theorem chk_ok {s d p : Int} (h : chk s d p = 0) : 1 ≤ s ∧ s ≤ 16 ∧ 0 ≤ d ∧ d ≤ 9007199254740992 ∧ 0 ≤ p ∧ p ≤ 9007199254740992 := by unfold chk at h; split at h <;> omega
set_option maxHeartbeats 1000000 in
theorem grow_any (s d p r span tol : Int) (w : World) :
    Calls Try.prog 8 #[root s d p r, .int .i64 span, .int .i64 tol] w fun e w' => e = .returned (.tuple #[rootOr (growErr s d p span tol) s d (p + inc span tol) r, .int .i64 (growErr s d p span tol)]) ∧ Below w.heap.size w w' := by
  by_cases h : chk s d p = 0 ∧ 0 ≤ span ∧ span ≤ 9007199254740992 ∧ 0 ≤ tol ∧ tol ≤ 500000
  · have HE : Hid (growErr s d p span tol = chk s d (p + inc span tol)) := by show growErr s d p span tol = _; simp [growErr, h]
    have HI := Lib.hid (inc_parts span tol)
    obtain ⟨h0, h1, h2, h3, h4⟩ := h
    have hk := chk_ok h0
    have b1 := mul_bd (x := span / 1000000000) (y := tol) (m := 9007200) (n := 500000) (by omega) (by omega) (by omega) (by omega)
    have b2 := mul_bd (x := span % 1000000000) (y := tol) (m := 999999999) (n := 500000) (by omega) (by omega) (by omega) (by omega)
    have HK := Lib.hid h0
    clear h0
    go_enter Try.func8, Try.ntmps8
    go_wp2_with (first | (go_at_call 13; ((with_reducible refine (check_any _ _ _ _ _).mono ?_); rintro e w1 ⟨rfl, hb⟩; (have hS : (((w1).cell? ⟨w.heap.size, 0, none⟩ = some (.int .i64 s) ∧ (w1).cell? ⟨w.heap.size, 1, none⟩ = some (.int .i64 d) ∧ (w1).cell? ⟨w.heap.size, 2, none⟩ = some (.int .i64 p) ∧ (w1).cell? ⟨w.heap.size, 3, none⟩ = some (.int .u32 r) ∧ (∀ o, (w1).frozen? ⟨w.heap.size, o, none⟩ = false)) ∧ ((w1).cell? ⟨w.heap.size + 1, 0, none⟩ = some (.int .i64 0) ∧ (w1).cell? ⟨w.heap.size + 1, 1, none⟩ = some (.int .i64 0) ∧ (w1).cell? ⟨w.heap.size + 1, 2, none⟩ = some (.int .i64 0) ∧ (w1).cell? ⟨w.heap.size + 1, 3, none⟩ = some (.int .u32 0) ∧ (∀ o, (w1).frozen? ⟨w.heap.size + 1, o, none⟩ = false)) ∧ w.heap.size + 1 < (w1).heap.size ∧ Below w.heap.size w (w1)) := by ((go_split_ands; (repeat' apply And.intro) <;> first | assumption | (refine kept_cell hb ?_ ?_ <;> first | assumption | omega | (dsimp only; omega) | (simp <;> omega) | (simp [go_sem, *]; done)) | (refine kept_frozen hb ?_ ?_ <;> first | assumption | omega | (intro o; simp [go_sem, *]; done) | (dsimp only; omega) | (simp <;> omega)) | (intro o; simp [go_sem, *]; done) | (simp [go_sem, *]; done) | (simp <;> omega) | (have hq := hb.size; omega) | (have hq := hb.size; simp at hq; omega) | ((repeat (first | assumption | exact Below.refl _ _ | refine Below.drew ?_ | refine below_drewN ?_ _ | refine Below.setCell ?_ (by first | omega | (simp; done) | (simp <;> omega)) _ | refine Below.alloc ?_ (by first | omega | (simp; done) | (simp <;> omega)) _ | refine Below.trans ?_ (Below.mono (by assumption) (by first | omega | (simp; done) | (simp <;> omega))))); done)))); clear hb; go_split_ands)) | (go_at_call 24; ((with_reducible refine (isSpan_any _ _).mono ?_); rintro e w1 ⟨rfl, rfl⟩)))
    rw [show span / 1000000000 * tol + (span % 1000000000 * tol + 1000000000 - 1) / 1000000000 = inc span tol from by rw [← HI.out]; omega]
    go_wp2_with (first | (go_at_call 25; ((with_reducible refine (checked_any _ _ _ _ _).mono ?_); rintro e w1 ⟨rfl, hb⟩; (have hS : (((w1).cell? ⟨w.heap.size + 1, 0, none⟩ = some (.int .i64 0) ∧ (w1).cell? ⟨w.heap.size + 1, 1, none⟩ = some (.int .i64 0) ∧ (w1).cell? ⟨w.heap.size + 1, 2, none⟩ = some (.int .i64 0) ∧ (w1).cell? ⟨w.heap.size + 1, 3, none⟩ = some (.int .u32 0) ∧ (∀ o, (w1).frozen? ⟨w.heap.size + 1, o, none⟩ = false)) ∧ w.heap.size + 1 < (w1).heap.size ∧ Below w.heap.size w (w1)) := by ((go_split_ands; (repeat' apply And.intro) <;> first | assumption | (refine kept_cell hb ?_ ?_ <;> first | assumption | omega | (dsimp only; omega) | (simp <;> omega) | (simp [go_sem, *]; done)) | (refine kept_frozen hb ?_ ?_ <;> first | assumption | omega | (intro o; simp [go_sem, *]; done) | (dsimp only; omega) | (simp <;> omega)) | (intro o; simp [go_sem, *]; done) | (simp [go_sem, *]; done) | (simp <;> omega) | (have hq := hb.size; omega) | (have hq := hb.size; simp at hq; omega) | ((repeat (first | assumption | exact Below.refl _ _ | refine Below.drew ?_ | refine below_drewN ?_ _ | refine Below.setCell ?_ (by first | omega | (simp; done) | (simp <;> omega)) _ | refine Below.alloc ?_ (by first | omega | (simp; done) | (simp <;> omega)) _ | refine Below.trans ?_ (Below.mono (by assumption) (by first | omega | (simp; done) | (simp <;> omega))))); done)))); clear hb; go_split_ands)))
    rw [HE.out]
    refine bodyPost_ret (v := .tuple #[rootOr (chk s d (p + inc span tol)) s d (p + inc span tol) r, .int .i64 (chk s d (p + inc span tol))]) (by simp [results, Try.results8, go_sem, *]) rfl ⟨rfl, ?_⟩
    (repeat (first | assumption | exact Below.refl _ _ | refine Below.drew ?_ | refine below_drewN ?_ _ | refine Below.setCell ?_ (by first | omega | (simp; done) | (simp <;> omega)) _ | refine Below.alloc ?_ (by first | omega | (simp; done) | (simp <;> omega)) _ | refine Below.trans ?_ (Below.mono (by assumption) (by first | omega | (simp; done) | (simp <;> omega)))))
  · have HE : Hid (growErr s d p span tol = 3) := by show growErr s d p span tol = _; unfold growErr; rw [if_neg h]
    rw [HE.out]
    simp only [rootOr, z0_three]
    by_cases h0 : chk s d p = 0
    · by_cases h1 : 0 ≤ span ∧ span ≤ 9007199254740992
      · have h2 : tol < 0 ∨ 500000 < tol := by omega
        go_enter Try.func8, Try.ntmps8
        go_wp2_with (first | (go_at_call 13; ((with_reducible refine (check_any _ _ _ _ _).mono ?_); rintro e w1 ⟨rfl, hb⟩; (have hS : (((w1).cell? ⟨w.heap.size, 0, none⟩ = some (.int .i64 s) ∧ (w1).cell? ⟨w.heap.size, 1, none⟩ = some (.int .i64 d) ∧ (w1).cell? ⟨w.heap.size, 2, none⟩ = some (.int .i64 p) ∧ (w1).cell? ⟨w.heap.size, 3, none⟩ = some (.int .u32 r) ∧ (∀ o, (w1).frozen? ⟨w.heap.size, o, none⟩ = false)) ∧ ((w1).cell? ⟨w.heap.size + 1, 0, none⟩ = some (.int .i64 0) ∧ (w1).cell? ⟨w.heap.size + 1, 1, none⟩ = some (.int .i64 0) ∧ (w1).cell? ⟨w.heap.size + 1, 2, none⟩ = some (.int .i64 0) ∧ (w1).cell? ⟨w.heap.size + 1, 3, none⟩ = some (.int .u32 0) ∧ (∀ o, (w1).frozen? ⟨w.heap.size + 1, o, none⟩ = false)) ∧ w.heap.size + 1 < (w1).heap.size ∧ Below w.heap.size w (w1)) := by ((go_split_ands; (repeat' apply And.intro) <;> first | assumption | (refine kept_cell hb ?_ ?_ <;> first | assumption | omega | (dsimp only; omega) | (simp <;> omega) | (simp [go_sem, *]; done)) | (refine kept_frozen hb ?_ ?_ <;> first | assumption | omega | (intro o; simp [go_sem, *]; done) | (dsimp only; omega) | (simp <;> omega)) | (intro o; simp [go_sem, *]; done) | (simp [go_sem, *]; done) | (simp <;> omega) | (have hq := hb.size; omega) | (have hq := hb.size; simp at hq; omega) | ((repeat (first | assumption | exact Below.refl _ _ | refine Below.drew ?_ | refine below_drewN ?_ _ | refine Below.setCell ?_ (by first | omega | (simp; done) | (simp <;> omega)) _ | refine Below.alloc ?_ (by first | omega | (simp; done) | (simp <;> omega)) _ | refine Below.trans ?_ (Below.mono (by assumption) (by first | omega | (simp; done) | (simp <;> omega))))); done)))); clear hb; go_split_ands)) | (go_at_call 24; ((with_reducible refine (isSpan_any _ _).mono ?_); rintro e w1 ⟨rfl, rfl⟩)))
        all_goals
          refine bodyPost_ret (v := .tuple #[root 0 0 0 0, .int .i64 3]) (by simp [results, Try.results8, go_sem, *]) rfl ⟨rfl, ?_⟩
          (repeat (first | assumption | exact Below.refl _ _ | refine Below.drew ?_ | refine below_drewN ?_ _ | refine Below.setCell ?_ (by first | omega | (simp; done) | (simp <;> omega)) _ | refine Below.alloc ?_ (by first | omega | (simp; done) | (simp <;> omega)) _ | refine Below.trans ?_ (Below.mono (by assumption) (by first | omega | (simp; done) | (simp <;> omega)))))
      · have h2 : decide (0 ≤ span ∧ span ≤ 9007199254740992) = false := by simpa using h1
        clear h h1
        go_enter Try.func8, Try.ntmps8
        go_wp2_with (first | (go_at_call 13; ((with_reducible refine (check_any _ _ _ _ _).mono ?_); rintro e w1 ⟨rfl, hb⟩; (have hS : (((w1).cell? ⟨w.heap.size, 0, none⟩ = some (.int .i64 s) ∧ (w1).cell? ⟨w.heap.size, 1, none⟩ = some (.int .i64 d) ∧ (w1).cell? ⟨w.heap.size, 2, none⟩ = some (.int .i64 p) ∧ (w1).cell? ⟨w.heap.size, 3, none⟩ = some (.int .u32 r) ∧ (∀ o, (w1).frozen? ⟨w.heap.size, o, none⟩ = false)) ∧ ((w1).cell? ⟨w.heap.size + 1, 0, none⟩ = some (.int .i64 0) ∧ (w1).cell? ⟨w.heap.size + 1, 1, none⟩ = some (.int .i64 0) ∧ (w1).cell? ⟨w.heap.size + 1, 2, none⟩ = some (.int .i64 0) ∧ (w1).cell? ⟨w.heap.size + 1, 3, none⟩ = some (.int .u32 0) ∧ (∀ o, (w1).frozen? ⟨w.heap.size + 1, o, none⟩ = false)) ∧ w.heap.size + 1 < (w1).heap.size ∧ Below w.heap.size w (w1)) := by ((go_split_ands; (repeat' apply And.intro) <;> first | assumption | (refine kept_cell hb ?_ ?_ <;> first | assumption | omega | (dsimp only; omega) | (simp <;> omega) | (simp [go_sem, *]; done)) | (refine kept_frozen hb ?_ ?_ <;> first | assumption | omega | (intro o; simp [go_sem, *]; done) | (dsimp only; omega) | (simp <;> omega)) | (intro o; simp [go_sem, *]; done) | (simp [go_sem, *]; done) | (simp <;> omega) | (have hq := hb.size; omega) | (have hq := hb.size; simp at hq; omega) | ((repeat (first | assumption | exact Below.refl _ _ | refine Below.drew ?_ | refine below_drewN ?_ _ | refine Below.setCell ?_ (by first | omega | (simp; done) | (simp <;> omega)) _ | refine Below.alloc ?_ (by first | omega | (simp; done) | (simp <;> omega)) _ | refine Below.trans ?_ (Below.mono (by assumption) (by first | omega | (simp; done) | (simp <;> omega))))); done)))); clear hb; go_split_ands)) | (go_at_call 24; ((with_reducible refine (isSpan_any _ _).mono ?_); rintro e w1 ⟨rfl, rfl⟩)))
        all_goals
          refine bodyPost_ret (v := .tuple #[root 0 0 0 0, .int .i64 3]) (by simp [results, Try.results8, go_sem, *]) rfl ⟨rfl, ?_⟩
          (repeat (first | assumption | exact Below.refl _ _ | refine Below.drew ?_ | refine below_drewN ?_ _ | refine Below.setCell ?_ (by first | omega | (simp; done) | (simp <;> omega)) _ | refine Below.alloc ?_ (by first | omega | (simp; done) | (simp <;> omega)) _ | refine Below.trans ?_ (Below.mono (by assumption) (by first | omega | (simp; done) | (simp <;> omega)))))
    · have h1 : (chk s d p != 0) = true := by simpa using h0
      clear h
      go_enter Try.func8, Try.ntmps8
      go_wp2_with (first | (go_at_call 13; ((with_reducible refine (check_any _ _ _ _ _).mono ?_); rintro e w1 ⟨rfl, hb⟩; (have hS : (((w1).cell? ⟨w.heap.size, 0, none⟩ = some (.int .i64 s) ∧ (w1).cell? ⟨w.heap.size, 1, none⟩ = some (.int .i64 d) ∧ (w1).cell? ⟨w.heap.size, 2, none⟩ = some (.int .i64 p) ∧ (w1).cell? ⟨w.heap.size, 3, none⟩ = some (.int .u32 r) ∧ (∀ o, (w1).frozen? ⟨w.heap.size, o, none⟩ = false)) ∧ ((w1).cell? ⟨w.heap.size + 1, 0, none⟩ = some (.int .i64 0) ∧ (w1).cell? ⟨w.heap.size + 1, 1, none⟩ = some (.int .i64 0) ∧ (w1).cell? ⟨w.heap.size + 1, 2, none⟩ = some (.int .i64 0) ∧ (w1).cell? ⟨w.heap.size + 1, 3, none⟩ = some (.int .u32 0) ∧ (∀ o, (w1).frozen? ⟨w.heap.size + 1, o, none⟩ = false)) ∧ w.heap.size + 1 < (w1).heap.size ∧ Below w.heap.size w (w1)) := by ((go_split_ands; (repeat' apply And.intro) <;> first | assumption | (refine kept_cell hb ?_ ?_ <;> first | assumption | omega | (dsimp only; omega) | (simp <;> omega) | (simp [go_sem, *]; done)) | (refine kept_frozen hb ?_ ?_ <;> first | assumption | omega | (intro o; simp [go_sem, *]; done) | (dsimp only; omega) | (simp <;> omega)) | (intro o; simp [go_sem, *]; done) | (simp [go_sem, *]; done) | (simp <;> omega) | (have hq := hb.size; omega) | (have hq := hb.size; simp at hq; omega) | ((repeat (first | assumption | exact Below.refl _ _ | refine Below.drew ?_ | refine below_drewN ?_ _ | refine Below.setCell ?_ (by first | omega | (simp; done) | (simp <;> omega)) _ | refine Below.alloc ?_ (by first | omega | (simp; done) | (simp <;> omega)) _ | refine Below.trans ?_ (Below.mono (by assumption) (by first | omega | (simp; done) | (simp <;> omega))))); done)))); clear hb; go_split_ands)) | (go_at_call 24; ((with_reducible refine (isSpan_any _ _).mono ?_); rintro e w1 ⟨rfl, rfl⟩)))
      all_goals
        refine bodyPost_ret (v := .tuple #[root 0 0 0 0, .int .i64 3]) (by simp [results, Try.results8, go_sem, *]) rfl ⟨rfl, ?_⟩
        (repeat (first | assumption | exact Below.refl _ _ | refine Below.drew ?_ | refine below_drewN ?_ _ | refine Below.setCell ?_ (by first | omega | (simp; done) | (simp <;> omega)) _ | refine Below.alloc ?_ (by first | omega | (simp; done) | (simp <;> omega)) _ | refine Below.trans ?_ (Below.mono (by assumption) (by first | omega | (simp; done) | (simp <;> omega)))))
theorem inc_bd {span tol : Int} (h1 : 0 ≤ span) (h2 : span ≤ 9007199254740992) (h3 : 0 ≤ tol) (h4 : tol ≤ 500000) : 0 ≤ inc span tol ∧ inc span tol ≤ 4503599627371 := by
  have b := mul_bd (x := span) (y := tol) (m := 9007199254740992) (n := 500000) h1 h2 h3 h4
  unfold inc; omega
theorem md_inc {span tol : Int} (h1 : 0 ≤ span) (h2 : span ≤ 9007199254740992) (h3 : 0 ≤ tol) (h4 : tol ≤ 500000) : mdVal (-span) tol 1000000000 = -inc span tol := by
  have b := mul_bd (x := span) (y := tol) (m := 9007199254740992) (n := 500000) h1 h2 h3 h4
  have e : ((-span).natAbs : Int) * (tol.natAbs : Int) = span * tol := by
    rw [show ((-span).natAbs : Int) = span from by omega, show (tol.natAbs : Int) = tol from by omega]
  have ht : decide (tol < 0) = false := by simp; omega
  unfold mdVal mdSize
  rw [e]
  unfold sgnMD inc
  rw [ht]
  rcases (by omega : span = 0 ∨ 0 < span) with h0 | h0
  · subst h0
    simp [sgn, top64, low64]
  · have hs : decide (-span < 0) = true := by simp; omega
    rw [hs]
    generalize span * tol = x at *
    unfold sgn top64 low64
    simp
    split <;> split <;> omega
theorem r01muldiv_inc (span tol : Int) (w : World) (h1 : 0 ≤ span) (h2 : span ≤ 9007199254740992) (h3 : 0 ≤ tol) (h4 : tol ≤ 500000) :
    Calls Try.prog 26 #[.int .i64 (-span), .int .i64 tol, .int .i64 1000000000] w fun e w' => e = .returned (.tuple #[.int .i64 (-inc span tol), .bool (mdOk (-span) tol 1000000000)]) ∧ w = w' := by
  rw [← md_inc h1 h2 h3 h4]
  exact r01muldiv_any _ _ _ _ (by omega) (by omega) (by omega) (by omega) (by omega) (by omega)
set_option maxHeartbeats 1000000 in
theorem rgrow_any (s d p r span tol : Int) (w : World) :
    Calls Try.prog 9 #[root s d p r, .int .i64 span, .int .i64 tol] w fun e w' => e = .returned (.tuple #[rootOr (growErr s d p span tol) s d (p + inc span tol) r, .int .i64 (growErr s d p span tol)]) ∧ Below w.heap.size w w' := by
  by_cases h : chk s d p = 0 ∧ 0 ≤ span ∧ span ≤ 9007199254740992 ∧ 0 ≤ tol ∧ tol ≤ 500000
  · have HE : Hid (growErr s d p span tol = chk s d (p + inc span tol)) := by show growErr s d p span tol = _; simp [growErr, h]
    obtain ⟨h0, h1, h2, h3, h4⟩ := h
    have hk := chk_ok h0
    have hi := inc_bd h1 h2 h3 h4
    have h0' : (chk s d p != 0) = false := by simpa using h0
    clear h0
    go_enter Try.func9, Try.ntmps9
    go_wp2_with (first | (go_at_call 19; ((with_reducible refine (rcheck_any _ _ _ _ _).mono ?_); rintro e w1 ⟨rfl, hb⟩; (have hS : (((w1).cell? ⟨w.heap.size, 0, none⟩ = some (.int .i64 s) ∧ (w1).cell? ⟨w.heap.size, 1, none⟩ = some (.int .i64 d) ∧ (w1).cell? ⟨w.heap.size, 2, none⟩ = some (.int .i64 p) ∧ (w1).cell? ⟨w.heap.size, 3, none⟩ = some (.int .u32 r) ∧ (∀ o, (w1).frozen? ⟨w.heap.size, o, none⟩ = false)) ∧ ((w1).cell? ⟨w.heap.size + 1, 0, none⟩ = some (.int .i64 0) ∧ (w1).cell? ⟨w.heap.size + 1, 1, none⟩ = some (.int .i64 0) ∧ (w1).cell? ⟨w.heap.size + 1, 2, none⟩ = some (.int .i64 0) ∧ (w1).cell? ⟨w.heap.size + 1, 3, none⟩ = some (.int .u32 0) ∧ (∀ o, (w1).frozen? ⟨w.heap.size + 1, o, none⟩ = false)) ∧ w.heap.size + 1 < (w1).heap.size ∧ Below w.heap.size w (w1)) := by ((go_split_ands; (repeat' apply And.intro) <;> first | assumption | (refine kept_cell hb ?_ ?_ <;> first | assumption | omega | (dsimp only; omega) | (simp <;> omega) | (simp [go_sem, *]; done)) | (refine kept_frozen hb ?_ ?_ <;> first | assumption | omega | (intro o; simp [go_sem, *]; done) | (dsimp only; omega) | (simp <;> omega)) | (intro o; simp [go_sem, *]; done) | (simp [go_sem, *]; done) | (simp <;> omega) | (have hq := hb.size; omega) | (have hq := hb.size; simp at hq; omega) | ((repeat (first | assumption | exact Below.refl _ _ | refine Below.drew ?_ | refine below_drewN ?_ _ | refine Below.setCell ?_ (by first | omega | (simp; done) | (simp <;> omega)) _ | refine Below.alloc ?_ (by first | omega | (simp; done) | (simp <;> omega)) _ | refine Below.trans ?_ (Below.mono (by assumption) (by first | omega | (simp; done) | (simp <;> omega))))); done)))); clear hb; go_split_ands)) | (go_at_call 26; ((with_reducible refine (r01muldiv_inc _ _ _ h1 h2 h3 h4).mono ?_); rintro e w1 ⟨rfl, rfl⟩)))
    go_wp2_with (first | (go_at_call 27; ((with_reducible refine (right_any _ _ _ _ _).mono ?_); rintro e w1 ⟨rfl, hb⟩; (have hS : (((w1).cell? ⟨w.heap.size + 1, 0, none⟩ = some (.int .i64 0) ∧ (w1).cell? ⟨w.heap.size + 1, 1, none⟩ = some (.int .i64 0) ∧ (w1).cell? ⟨w.heap.size + 1, 2, none⟩ = some (.int .i64 0) ∧ (w1).cell? ⟨w.heap.size + 1, 3, none⟩ = some (.int .u32 0) ∧ (∀ o, (w1).frozen? ⟨w.heap.size + 1, o, none⟩ = false)) ∧ w.heap.size + 1 < (w1).heap.size ∧ Below w.heap.size w (w1)) := by ((go_split_ands; (repeat' apply And.intro) <;> first | assumption | (refine kept_cell hb ?_ ?_ <;> first | assumption | omega | (dsimp only; omega) | (simp <;> omega) | (simp [go_sem, *]; done)) | (refine kept_frozen hb ?_ ?_ <;> first | assumption | omega | (intro o; simp [go_sem, *]; done) | (dsimp only; omega) | (simp <;> omega)) | (intro o; simp [go_sem, *]; done) | (simp [go_sem, *]; done) | (simp <;> omega) | (have hq := hb.size; omega) | (have hq := hb.size; simp at hq; omega) | ((repeat (first | assumption | exact Below.refl _ _ | refine Below.drew ?_ | refine below_drewN ?_ _ | refine Below.setCell ?_ (by first | omega | (simp; done) | (simp <;> omega)) _ | refine Below.alloc ?_ (by first | omega | (simp; done) | (simp <;> omega)) _ | refine Below.trans ?_ (Below.mono (by assumption) (by first | omega | (simp; done) | (simp <;> omega))))); done)))); clear hb; go_split_ands)))
    rw [HE.out]
    refine bodyPost_ret (v := .tuple #[rootOr (chk s d (p + inc span tol)) s d (p + inc span tol) r, .int .i64 (chk s d (p + inc span tol))]) (by simp [results, Try.results9, go_sem, *]) rfl ⟨rfl, ?_⟩
    (repeat (first | assumption | exact Below.refl _ _ | refine Below.drew ?_ | refine below_drewN ?_ _ | refine Below.setCell ?_ (by first | omega | (simp; done) | (simp <;> omega)) _ | refine Below.alloc ?_ (by first | omega | (simp; done) | (simp <;> omega)) _ | refine Below.trans ?_ (Below.mono (by assumption) (by first | omega | (simp; done) | (simp <;> omega)))))
  · have HE : Hid (growErr s d p span tol = 3) := by show growErr s d p span tol = _; unfold growErr; rw [if_neg h]
    rw [HE.out]
    simp only [rootOr, z0_three]
    have h' : (chk s d p != 0) = true ∨ ((chk s d p != 0) = false ∧ (span < 0 ∨ 9007199254740992 < span ∨ tol < 0 ∨ 500000 < tol)) := by
      by_cases h0 : chk s d p = 0
      · right; refine ⟨by simpa using h0, by omega⟩
      · left; simpa using h0
    clear h
    rcases h' with h | ⟨h, h1⟩
    · go_enter Try.func9, Try.ntmps9
      go_wp2_with (first | (go_at_call 19; ((with_reducible refine (rcheck_any _ _ _ _ _).mono ?_); rintro e w1 ⟨rfl, hb⟩; (have hS : (((w1).cell? ⟨w.heap.size, 0, none⟩ = some (.int .i64 s) ∧ (w1).cell? ⟨w.heap.size, 1, none⟩ = some (.int .i64 d) ∧ (w1).cell? ⟨w.heap.size, 2, none⟩ = some (.int .i64 p) ∧ (w1).cell? ⟨w.heap.size, 3, none⟩ = some (.int .u32 r) ∧ (∀ o, (w1).frozen? ⟨w.heap.size, o, none⟩ = false)) ∧ ((w1).cell? ⟨w.heap.size + 1, 0, none⟩ = some (.int .i64 0) ∧ (w1).cell? ⟨w.heap.size + 1, 1, none⟩ = some (.int .i64 0) ∧ (w1).cell? ⟨w.heap.size + 1, 2, none⟩ = some (.int .i64 0) ∧ (w1).cell? ⟨w.heap.size + 1, 3, none⟩ = some (.int .u32 0) ∧ (∀ o, (w1).frozen? ⟨w.heap.size + 1, o, none⟩ = false)) ∧ w.heap.size + 1 < (w1).heap.size ∧ Below w.heap.size w (w1)) := by ((go_split_ands; (repeat' apply And.intro) <;> first | assumption | (refine kept_cell hb ?_ ?_ <;> first | assumption | omega | (dsimp only; omega) | (simp <;> omega) | (simp [go_sem, *]; done)) | (refine kept_frozen hb ?_ ?_ <;> first | assumption | omega | (intro o; simp [go_sem, *]; done) | (dsimp only; omega) | (simp <;> omega)) | (intro o; simp [go_sem, *]; done) | (simp [go_sem, *]; done) | (simp <;> omega) | (have hq := hb.size; omega) | (have hq := hb.size; simp at hq; omega) | ((repeat (first | assumption | exact Below.refl _ _ | refine Below.drew ?_ | refine below_drewN ?_ _ | refine Below.setCell ?_ (by first | omega | (simp; done) | (simp <;> omega)) _ | refine Below.alloc ?_ (by first | omega | (simp; done) | (simp <;> omega)) _ | refine Below.trans ?_ (Below.mono (by assumption) (by first | omega | (simp; done) | (simp <;> omega))))); done)))); clear hb; go_split_ands)))
      refine bodyPost_ret (v := .tuple #[root 0 0 0 0, .int .i64 3]) (by simp [results, Try.results9, go_sem, *]) rfl ⟨rfl, ?_⟩
      (repeat (first | assumption | exact Below.refl _ _ | refine Below.drew ?_ | refine below_drewN ?_ _ | refine Below.setCell ?_ (by first | omega | (simp; done) | (simp <;> omega)) _ | refine Below.alloc ?_ (by first | omega | (simp; done) | (simp <;> omega)) _ | refine Below.trans ?_ (Below.mono (by assumption) (by first | omega | (simp; done) | (simp <;> omega)))))
    · rcases h1 with h1 | h1 | h1 | h1
      all_goals
        go_enter Try.func9, Try.ntmps9
        go_wp2_with (first | (go_at_call 19; ((with_reducible refine (rcheck_any _ _ _ _ _).mono ?_); rintro e w1 ⟨rfl, hb⟩; (have hS : (((w1).cell? ⟨w.heap.size, 0, none⟩ = some (.int .i64 s) ∧ (w1).cell? ⟨w.heap.size, 1, none⟩ = some (.int .i64 d) ∧ (w1).cell? ⟨w.heap.size, 2, none⟩ = some (.int .i64 p) ∧ (w1).cell? ⟨w.heap.size, 3, none⟩ = some (.int .u32 r) ∧ (∀ o, (w1).frozen? ⟨w.heap.size, o, none⟩ = false)) ∧ ((w1).cell? ⟨w.heap.size + 1, 0, none⟩ = some (.int .i64 0) ∧ (w1).cell? ⟨w.heap.size + 1, 1, none⟩ = some (.int .i64 0) ∧ (w1).cell? ⟨w.heap.size + 1, 2, none⟩ = some (.int .i64 0) ∧ (w1).cell? ⟨w.heap.size + 1, 3, none⟩ = some (.int .u32 0) ∧ (∀ o, (w1).frozen? ⟨w.heap.size + 1, o, none⟩ = false)) ∧ w.heap.size + 1 < (w1).heap.size ∧ Below w.heap.size w (w1)) := by ((go_split_ands; (repeat' apply And.intro) <;> first | assumption | (refine kept_cell hb ?_ ?_ <;> first | assumption | omega | (dsimp only; omega) | (simp <;> omega) | (simp [go_sem, *]; done)) | (refine kept_frozen hb ?_ ?_ <;> first | assumption | omega | (intro o; simp [go_sem, *]; done) | (dsimp only; omega) | (simp <;> omega)) | (intro o; simp [go_sem, *]; done) | (simp [go_sem, *]; done) | (simp <;> omega) | (have hq := hb.size; omega) | (have hq := hb.size; simp at hq; omega) | ((repeat (first | assumption | exact Below.refl _ _ | refine Below.drew ?_ | refine below_drewN ?_ _ | refine Below.setCell ?_ (by first | omega | (simp; done) | (simp <;> omega)) _ | refine Below.alloc ?_ (by first | omega | (simp; done) | (simp <;> omega)) _ | refine Below.trans ?_ (Below.mono (by assumption) (by first | omega | (simp; done) | (simp <;> omega))))); done)))); clear hb; go_split_ands)) | fail)
        all_goals
          refine bodyPost_ret (v := .tuple #[root 0 0 0 0, .int .i64 3]) (by simp [results, Try.results9, go_sem, *]) rfl ⟨rfl, ?_⟩
          (repeat (first | assumption | exact Below.refl _ _ | refine Below.drew ?_ | refine below_drewN ?_ _ | refine Below.setCell ?_ (by first | omega | (simp; done) | (simp <;> omega)) _ | refine Below.alloc ?_ (by first | omega | (simp; done) | (simp <;> omega)) _ | refine Below.trans ?_ (Below.mono (by assumption) (by first | omega | (simp; done) | (simp <;> omega)))))
end Go.Proofs.Ytofgebmmgblkfaa
