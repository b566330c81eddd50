/- What each function of package root, and of its reference, computes. -/
import Derived.Test.YtfipjmipbpnjoaaRef01
namespace Go.Proofs.Ytfipjmipbpnjoaa
open Go.RowKit
set_option linter.unusedSimpArgs false
set_option linter.unusedVariables false
set_option maxRecDepth 100000
def spanB (n : Int) : Bool := decide (0 ≤ n) && decide (n ≤ 9007199254740992)
def chk (s d p : Int) : Int := if 1 ≤ s ∧ s ≤ 16 ∧ 0 ≤ d ∧ d ≤ 9007199254740992 ∧ 0 ≤ p ∧ p ≤ 9007199254740992 then 0 else 3
abbrev root (s d p r : Int) : Value := .agg #[.int .i64 s, .int .i64 d, .int .i64 p, .int .u32 r]
abbrev rootOr (c s d p r : Int) : Value := root (z0 c s) (z0 c d) (z0 c p) (z0 c r)
set_option maxHeartbeats 400000 in
theorem isSpan_any (n : Int) (w : World) :
    Calls Try.prog 8 #[.int .i64 n] w fun e w' => e = .returned (.bool (decide (0 ≤ n ∧ n ≤ 9007199254740992))) ∧ w = w' := by
  by_cases h1 : 0 ≤ n <;> by_cases h2 : n ≤ 9007199254740992
  all_goals
    go_enter Try.func8, Try.ntmps8
    go_wp2
    go_ret
    exact ⟨by simp [*], rfl⟩
set_option maxHeartbeats 400000 in
theorem check_any (s d p r : Int) (w : World) :
    Calls Try.prog 5 #[root s d p r] w fun e w' => e = .returned (.int .i64 (chk s d p)) ∧ Below w.heap.size w w' := by
  go_enter Try.func5, Try.ntmps5
  go_wp2
  all_goals
    go_ret
    refine ⟨ret_int ?_, by (repeat (first | assumption | exact Below.refl _ _ | refine Below.drew ?_ | refine below_drewN ?_ _ | refine Below.setCell ?_ (by first | omega | (simp; done) | (simp <;> omega)) _ | refine Below.alloc ?_ (by first | omega | (simp; done) | (simp <;> omega)) _ | refine Below.trans ?_ (Below.mono (by assumption) (by first | omega | (simp; done) | (simp <;> omega)))))⟩
    unfold chk; simp at *; omega
set_option maxHeartbeats 400000 in
theorem checked_any (s d p r : Int) (w : World) :
    Calls Try.prog 12 #[root s d p r] w fun e w' => e = .returned (.tuple #[rootOr (chk s d p) s d p r, .int .i64 (chk s d p)]) ∧ Below w.heap.size w w' := by
  by_cases h : chk s d p = 0
  · simp only [rootOr, h, z0_zero]
    go_enter Try.func12, Try.ntmps12
    go_wp2_with (go_at_call 5; ((with_reducible refine (check_any _ _ _ _ _).mono ?_); rintro e w1 ⟨rfl, hb⟩; obtain ⟨hc, hf⟩ := bcell hb; have hz := hb.size; try simp at hz; (try have hz0 : w.heap.size < w1.heap.size := by omega); (try have hz1 : w.heap.size + 1 < w1.heap.size := by omega); (try have hz2 : w.heap.size + 2 < w1.heap.size := by omega); (try have hz3 : w.heap.size + 3 < w1.heap.size := by omega); (try have hz4 : w.heap.size + 4 < w1.heap.size := by omega); (try have hz5 : w.heap.size + 5 < w1.heap.size := by omega)))
    refine bodyPost_ret (v := .tuple #[root s d p r, .int .i64 0]) (by simp [results, Try.results12, go_sem, *]) rfl ⟨rfl, ?_⟩
    (repeat (first | assumption | exact Below.refl _ _ | refine Below.drew ?_ | refine below_drewN ?_ _ | refine Below.setCell ?_ (by first | omega | (simp; done) | (simp <;> omega)) _ | refine Below.alloc ?_ (by first | omega | (simp; done) | (simp <;> omega)) _ | refine Below.trans ?_ (Below.mono (by assumption) (by first | omega | (simp; done) | (simp <;> omega)))))
  · have h' : (chk s d p != 0) = true := by simpa using h
    simp only [rootOr, z0_no h]
    go_enter Try.func12, Try.ntmps12
    go_wp2_with (go_at_call 5; ((with_reducible refine (check_any _ _ _ _ _).mono ?_); rintro e w1 ⟨rfl, hb⟩; obtain ⟨hc, hf⟩ := bcell hb; have hz := hb.size; try simp at hz; (try have hz0 : w.heap.size < w1.heap.size := by omega); (try have hz1 : w.heap.size + 1 < w1.heap.size := by omega); (try have hz2 : w.heap.size + 2 < w1.heap.size := by omega); (try have hz3 : w.heap.size + 3 < w1.heap.size := by omega); (try have hz4 : w.heap.size + 4 < w1.heap.size := by omega); (try have hz5 : w.heap.size + 5 < w1.heap.size := by omega)))
    refine bodyPost_ret (v := .tuple #[root 0 0 0 0, .int .i64 (chk s d p)]) (by simp [results, Try.results12, go_sem, *]) rfl ⟨rfl, ?_⟩
    (repeat (first | assumption | exact Below.refl _ _ | refine Below.drew ?_ | refine below_drewN ?_ _ | refine Below.setCell ?_ (by first | omega | (simp; done) | (simp <;> omega)) _ | refine Below.alloc ?_ (by first | omega | (simp; done) | (simp <;> omega)) _ | refine Below.trans ?_ (Below.mono (by assumption) (by first | omega | (simp; done) | (simp <;> omega)))))
def dist (s d p : Int) : Int := if chk s d p = 0 then (d + 1) / 2 + p else 0
set_option maxHeartbeats 400000 in
theorem distance_any (s d p r : Int) (w : World) :
    Calls Try.prog 6 #[root s d p r] w fun e w' => e = .returned (.int .i64 (dist s d p)) ∧ Below w.heap.size w w' := by
  by_cases h : chk s d p = 0
  · have hk : 0 ≤ d ∧ d ≤ 9007199254740992 ∧ 0 ≤ p ∧ p ≤ 9007199254740992 := by unfold chk at h; split at h <;> omega
    have HD : Hid (dist s d p = (d + 1) / 2 + p) := by show dist s d p = _; simp [dist, h]
    go_enter Try.func6, Try.ntmps6
    go_wp2_with (go_at_call 5; ((with_reducible refine (check_any _ _ _ _ _).mono ?_); rintro e w1 ⟨rfl, hb⟩; obtain ⟨hc, hf⟩ := bcell hb; have hz := hb.size; try simp at hz; (try have hz0 : w.heap.size < w1.heap.size := by omega); (try have hz1 : w.heap.size + 1 < w1.heap.size := by omega); (try have hz2 : w.heap.size + 2 < w1.heap.size := by omega); (try have hz3 : w.heap.size + 3 < w1.heap.size := by omega); (try have hz4 : w.heap.size + 4 < w1.heap.size := by omega); (try have hz5 : w.heap.size + 5 < w1.heap.size := by omega)))
    go_ret
    exact ⟨ret_int HD.out.symm, by (repeat (first | assumption | exact Below.refl _ _ | refine Below.drew ?_ | refine below_drewN ?_ _ | refine Below.setCell ?_ (by first | omega | (simp; done) | (simp <;> omega)) _ | refine Below.alloc ?_ (by first | omega | (simp; done) | (simp <;> omega)) _ | refine Below.trans ?_ (Below.mono (by assumption) (by first | omega | (simp; done) | (simp <;> omega)))))⟩
  · have h' : (chk s d p != 0) = true := by simpa using h
    have HD : Hid (dist s d p = 0) := by show dist s d p = _; simp [dist, h]
    go_enter Try.func6, Try.ntmps6
    go_wp2_with (go_at_call 5; ((with_reducible refine (check_any _ _ _ _ _).mono ?_); rintro e w1 ⟨rfl, hb⟩; obtain ⟨hc, hf⟩ := bcell hb; have hz := hb.size; try simp at hz; (try have hz0 : w.heap.size < w1.heap.size := by omega); (try have hz1 : w.heap.size + 1 < w1.heap.size := by omega); (try have hz2 : w.heap.size + 2 < w1.heap.size := by omega); (try have hz3 : w.heap.size + 3 < w1.heap.size := by omega); (try have hz4 : w.heap.size + 4 < w1.heap.size := by omega); (try have hz5 : w.heap.size + 5 < w1.heap.size := by omega)))
    go_ret
    exact ⟨ret_int HD.out.symm, by (repeat (first | assumption | exact Below.refl _ _ | refine Below.drew ?_ | refine below_drewN ?_ _ | refine Below.setCell ?_ (by first | omega | (simp; done) | (simp <;> omega)) _ | refine Below.alloc ?_ (by first | omega | (simp; done) | (simp <;> omega)) _ | refine Below.trans ?_ (Below.mono (by assumption) (by first | omega | (simp; done) | (simp <;> omega)))))⟩
/-- the order of roots -/
def better (s d p r s' d' p' r' : Int) : Bool := if chk s d p = 0 ∧ chk s' d' p' = 0 then (if s = s' then (if dist s d p = dist s' d' p' then decide (r < r') else decide (dist s d p < dist s' d' p')) else decide (s < s')) else false
set_option maxHeartbeats 1000000 in
theorem better_any (s d p r s' d' p' r' : Int) (w : World) :
    Calls Try.prog 4 #[root s d p r, root s' d' p' r'] w fun e w' => e = .returned (.bool (better s d p r s' d' p' r')) ∧ Below w.heap.size w w' := by
  have HD : Hid (better s d p r s' d' p' r' = if chk s d p = 0 ∧ chk s' d' p' = 0 then (if s = s' then (if dist s d p = dist s' d' p' then decide (r < r') else decide (dist s d p < dist s' d' p')) else decide (s < s')) else false) := rfl
  go_enter Try.func4, Try.ntmps4
  go_wp2_with (go_at_call 5; ((with_reducible refine (check_any _ _ _ _ _).mono ?_); rintro e w1 ⟨rfl, hb⟩; (have hS : (((w1).cell? ⟨w.heap.size, 0, none⟩ = some (.int .i64 s) ∧ (w1).cell? ⟨w.heap.size, 1, none⟩ = some (.int .i64 d) ∧ (w1).cell? ⟨w.heap.size, 2, none⟩ = some (.int .i64 p) ∧ (w1).cell? ⟨w.heap.size, 3, none⟩ = some (.int .u32 r)) ∧ ((w1).cell? ⟨w.heap.size + 1, 0, none⟩ = some (.int .i64 s') ∧ (w1).cell? ⟨w.heap.size + 1, 1, none⟩ = some (.int .i64 d') ∧ (w1).cell? ⟨w.heap.size + 1, 2, none⟩ = some (.int .i64 p') ∧ (w1).cell? ⟨w.heap.size + 1, 3, none⟩ = some (.int .u32 r')) ∧ w.heap.size + 1 < (w1).heap.size ∧ Below w.heap.size w (w1)) := by ((go_split_ands; (repeat' apply And.intro) <;> first | assumption | (refine kept_cell hb ?_ ?_ <;> first | assumption | omega | (dsimp only; omega) | (simp <;> omega) | (simp [go_sem, *]; done)) | (refine kept_frozen hb ?_ ?_ <;> first | assumption | omega | (intro o; simp [go_sem, *]; done) | (dsimp only; omega) | (simp <;> omega)) | (intro o; simp [go_sem, *]; done) | (simp [go_sem, *]; done) | (simp <;> omega) | (have hq := hb.size; omega) | (have hq := hb.size; simp at hq; omega) | ((repeat (first | assumption | exact Below.refl _ _ | refine Below.drew ?_ | refine below_drewN ?_ _ | refine Below.setCell ?_ (by first | omega | (simp; done) | (simp <;> omega)) _ | refine Below.alloc ?_ (by first | omega | (simp; done) | (simp <;> omega)) _ | refine Below.trans ?_ (Below.mono (by assumption) (by first | omega | (simp; done) | (simp <;> omega))))); done)))); clear hb; go_split_ands))
  rotate_left 2
  · go_region_held3 (fun w' => (((w').cell? ⟨w.heap.size, 0, none⟩ = some (.int .i64 s) ∧ (w').cell? ⟨w.heap.size, 1, none⟩ = some (.int .i64 d) ∧ (w').cell? ⟨w.heap.size, 2, none⟩ = some (.int .i64 p) ∧ (w').cell? ⟨w.heap.size, 3, none⟩ = some (.int .u32 r)) ∧ ((w').cell? ⟨w.heap.size + 1, 0, none⟩ = some (.int .i64 s') ∧ (w').cell? ⟨w.heap.size + 1, 1, none⟩ = some (.int .i64 d') ∧ (w').cell? ⟨w.heap.size + 1, 2, none⟩ = some (.int .i64 p') ∧ (w').cell? ⟨w.heap.size + 1, 3, none⟩ = some (.int .u32 r')) ∧ w.heap.size + 1 < (w').heap.size ∧ Below w.heap.size w (w'))) ((go_split_ands; (repeat' apply And.intro) <;> first | assumption | (refine kept_cell hb ?_ ?_ <;> first | assumption | omega | (dsimp only; omega) | (simp <;> omega) | (simp [go_sem, *]; done)) | (refine kept_frozen hb ?_ ?_ <;> first | assumption | omega | (intro o; simp [go_sem, *]; done) | (dsimp only; omega) | (simp <;> omega)) | (intro o; simp [go_sem, *]; done) | (simp [go_sem, *]; done) | (simp <;> omega) | (have hq := hb.size; omega) | (have hq := hb.size; simp at hq; omega) | ((repeat (first | assumption | exact Below.refl _ _ | refine Below.drew ?_ | refine below_drewN ?_ _ | refine Below.setCell ?_ (by first | omega | (simp; done) | (simp <;> omega)) _ | refine Below.alloc ?_ (by first | omega | (simp; done) | (simp <;> omega)) _ | refine Below.trans ?_ (Below.mono (by assumption) (by first | omega | (simp; done) | (simp <;> omega))))); done))) (first | (go_at_call 6; ((with_reducible refine (distance_any _ _ _ _ _).mono ?_); rintro e w1 ⟨rfl, hb⟩)))
    go_split_ands
    go_wp2
    all_goals
      go_ret
      refine ⟨ret_bool ?_, by (repeat (first | assumption | exact Below.refl _ _ | refine Below.drew ?_ | refine below_drewN ?_ _ | refine Below.setCell ?_ (by first | omega | (simp; done) | (simp <;> omega)) _ | refine Below.alloc ?_ (by first | omega | (simp; done) | (simp <;> omega)) _ | refine Below.trans ?_ (Below.mono (by assumption) (by first | omega | (simp; done) | (simp <;> omega)))))⟩
      rw [HD.out]
      simp_all
  all_goals
    go_ret
    refine ⟨ret_bool ?_, by (repeat (first | assumption | exact Below.refl _ _ | refine Below.drew ?_ | refine below_drewN ?_ _ | refine Below.setCell ?_ (by first | omega | (simp; done) | (simp <;> omega)) _ | refine Below.alloc ?_ (by first | omega | (simp; done) | (simp <;> omega)) _ | refine Below.trans ?_ (Below.mono (by assumption) (by first | omega | (simp; done) | (simp <;> omega)))))⟩
    rw [HD.out]
    simp_all
end Go.Proofs.Ytfipjmipbpnjoaa
