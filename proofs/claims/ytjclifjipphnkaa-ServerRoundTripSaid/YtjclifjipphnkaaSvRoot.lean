/- What root.Check and root.Fields, and their reference, compute; for texts that stand on the header's. -/
import Derived.Test.YtjclifjipphnkaaStamp3
import Derived.Test.YtjclifjipphnkaaBlk2
namespace Go.Proofs.Ytjclifjipphnkaa
open Go.RowKit
set_option linter.unusedSimpArgs false
set_option linter.unusedVariables false
set_option maxRecDepth 100000
def spanB (n : Int) : Bool := decide (0 ≤ n) && decide (n ≤ 9007199254740992)
def chk (s d p : Int) : Int := if 1 ≤ s ∧ s ≤ 16 ∧ 0 ≤ d ∧ d ≤ 9007199254740992 ∧ 0 ≤ p ∧ p ≤ 9007199254740992 then 0 else 3
abbrev root (s d p r : Int) : Value := .agg #[.int .i64 s, .int .i64 d, .int .i64 p, .int .u32 r]
abbrev rootOr (c s d p r : Int) : Value := root (z0 c s) (z0 c d) (z0 c p) (z0 c r)
set_option maxHeartbeats 400000 in
theorem isSpan_any (n : Int) (w : World) :
    Calls Try.prog 58 #[.int .i64 n] w fun e w' => e = .returned (.bool (decide (0 ≤ n ∧ n ≤ 9007199254740992))) ∧ w = w' := by
  by_cases h1 : 0 ≤ n <;> by_cases h2 : n ≤ 9007199254740992
  all_goals
    go_enter Try.func58, Try.ntmps58
    go_wp2
    go_ret
    exact ⟨by simp [*], rfl⟩
set_option maxHeartbeats 400000 in
theorem check_any (s d p r : Int) (w : World) :
    Calls Try.prog 33 #[root s d p r] w fun e w' => e = .returned (.int .i64 (chk s d p)) ∧ Below w.heap.size w w' := by
  go_enter Try.func33, Try.ntmps33
  go_wp2
  all_goals
    go_ret
    refine ⟨ret_int ?_, by (repeat (first | assumption | exact Below.refl _ _ | refine Below.drew ?_ | refine below_drewN ?_ _ | refine Below.setCell ?_ (by first | omega | (simp; done) | (simp <;> omega)) _ | refine Below.alloc ?_ (by first | omega | (simp; done) | (simp <;> omega)) _ | refine Below.trans ?_ (Below.mono (by assumption) (by first | omega | (simp; done) | (simp <;> omega)))))⟩
    unfold chk; simp at *; omega
set_option maxHeartbeats 400000 in
theorem rcheck_any (s d p r : Int) (w : World) :
    Calls Try.prog 30 #[root s d p r] w fun e w' => e = .returned (.int .i64 (chk s d p)) ∧ Below w.heap.size w w' := by
  go_enter Try.func30, Try.ntmps30
  go_wp2
  all_goals
    go_ret
    refine ⟨ret_int ?_, by (repeat (first | assumption | exact Below.refl _ _ | refine Below.drew ?_ | refine below_drewN ?_ _ | refine Below.setCell ?_ (by first | omega | (simp; done) | (simp <;> omega)) _ | refine Below.alloc ?_ (by first | omega | (simp; done) | (simp <;> omega)) _ | refine Below.trans ?_ (Below.mono (by assumption) (by first | omega | (simp; done) | (simp <;> omega)))))⟩
    unfold chk; simp at *; omega
theorem chk_ok {s d p : Int} (h : chk s d p = 0) : 1 ≤ s ∧ s ≤ 16 ∧ 0 ≤ d ∧ d ≤ 9007199254740992 ∧ 0 ≤ p ∧ p ≤ 9007199254740992 := by unfold chk at h; split at h <;> omega
theorem chk_03 (s d p : Int) : chk s d p = 0 ∨ chk s d p = 3 := by unfold chk; split <;> simp
def fieldsErr (s d p : Int) : Int := if chk s d p = 0 ∧ shortErr d = 0 then shortErr p else 3
theorem shortErr_03 (n : Int) : shortErr n = 0 ∨ shortErr n = 3 := by unfold shortErr; split <;> simp
set_option maxHeartbeats 400000 in
theorem fields_any (s d p r : Int) (w : World) :
    Calls Try.prog 12 #[root s d p r] w fun e w' => e = .returned (.tuple #[.int .u32 (z0 (fieldsErr s d p) (shortN d)), .int .u32 (z0 (fieldsErr s d p) (shortN p)), .int .i64 (fieldsErr s d p)]) ∧ Below w.heap.size w w' := by
  by_cases h : chk s d p = 0
  · obtain ⟨k1, k2, k3, k4, k5, k6⟩ := chk_ok h
    have h' : (chk s d p != 0) = false := by simpa using h
    rcases shortErr_03 d with hd | hd
    · have HE : Hid (fieldsErr s d p = shortErr p) := by show fieldsErr s d p = _; simp [fieldsErr, h, hd]
      have hd' : Hid (z0 (shortErr d) (shortN d) = shortN d) := z0_ok hd
      rcases shortErr_03 p with hp | hp
      · rw [HE.out, hp, z0_zero, z0_zero]
        have hp' : Hid (z0 (shortErr p) (shortN p) = shortN p) := z0_ok hp
        have hdd : (shortErr d != 0) = false := by simp [hd]
        have hpp : (shortErr p != 0) = false := by simp [hp]
        clear h hd hp
        go_enter Try.func12, Try.ntmps12
        go_wp2_with (first | (go_at_call 33; ((with_reducible refine (check_any _ _ _ _ _).mono ?_); rintro e w1 ⟨rfl, hb⟩; (have hS : (((w1).cell? ⟨w.heap.size, 0, none⟩ = some (.int .i64 s) ∧ (w1).cell? ⟨w.heap.size, 1, none⟩ = some (.int .i64 d) ∧ (w1).cell? ⟨w.heap.size, 2, none⟩ = some (.int .i64 p) ∧ (w1).cell? ⟨w.heap.size, 3, none⟩ = some (.int .u32 r) ∧ (∀ o, (w1).frozen? ⟨w.heap.size, o, none⟩ = false)) ∧ w.heap.size < (w1).heap.size ∧ Below w.heap.size w (w1)) := by ((go_split_ands; (repeat' apply And.intro) <;> first | assumption | (refine kept_cell hb ?_ ?_ <;> first | assumption | omega | (dsimp only; omega) | (simp <;> omega) | (simp [go_sem, *]; done)) | (refine kept_frozen hb ?_ ?_ <;> first | assumption | omega | (intro o; simp [go_sem, *]; done) | (dsimp only; omega) | (simp <;> omega)) | (intro o; simp [go_sem, *]; done) | (simp [go_sem, *]; done) | (simp <;> omega) | (have hq := hb.size; omega) | (have hq := hb.size; simp at hq; omega) | ((repeat (first | assumption | exact Below.refl _ _ | refine Below.drew ?_ | refine below_drewN ?_ _ | refine Below.setCell ?_ (by first | omega | (simp; done) | (simp <;> omega)) _ | refine Below.alloc ?_ (by first | omega | (simp; done) | (simp <;> omega)) _ | refine Below.trans ?_ (Below.mono (by assumption) (by first | omega | (simp; done) | (simp <;> omega))))); done)))); clear hb; go_split_ands)) | (go_at_call 34; ((with_reducible refine (short_any _ _ (by omega) (by omega)).mono ?_); rintro e w1 ⟨rfl, rfl⟩)))
        go_ret3
        exact ⟨tup3 (vint hd'.out) (vint hp'.out) rfl, by (repeat (first | assumption | exact Below.refl _ _ | refine Below.drew ?_ | refine below_drewN ?_ _ | refine Below.setCell ?_ (by first | omega | (simp; done) | (simp <;> omega)) _ | refine Below.alloc ?_ (by first | omega | (simp; done) | (simp <;> omega)) _ | refine Below.trans ?_ (Below.mono (by assumption) (by first | omega | (simp; done) | (simp <;> omega)))))⟩
      · rw [HE.out, hp, z0_three, z0_three]
        have hdd : (shortErr d != 0) = false := by simp [hd]
        have hpp : (shortErr p != 0) = true := by simp [hp]
        have HP := Lib.hid hp
        clear h hd hp
        go_enter Try.func12, Try.ntmps12
        go_wp2_with (first | (go_at_call 33; ((with_reducible refine (check_any _ _ _ _ _).mono ?_); rintro e w1 ⟨rfl, hb⟩; (have hS : (((w1).cell? ⟨w.heap.size, 0, none⟩ = some (.int .i64 s) ∧ (w1).cell? ⟨w.heap.size, 1, none⟩ = some (.int .i64 d) ∧ (w1).cell? ⟨w.heap.size, 2, none⟩ = some (.int .i64 p) ∧ (w1).cell? ⟨w.heap.size, 3, none⟩ = some (.int .u32 r) ∧ (∀ o, (w1).frozen? ⟨w.heap.size, o, none⟩ = false)) ∧ w.heap.size < (w1).heap.size ∧ Below w.heap.size w (w1)) := by ((go_split_ands; (repeat' apply And.intro) <;> first | assumption | (refine kept_cell hb ?_ ?_ <;> first | assumption | omega | (dsimp only; omega) | (simp <;> omega) | (simp [go_sem, *]; done)) | (refine kept_frozen hb ?_ ?_ <;> first | assumption | omega | (intro o; simp [go_sem, *]; done) | (dsimp only; omega) | (simp <;> omega)) | (intro o; simp [go_sem, *]; done) | (simp [go_sem, *]; done) | (simp <;> omega) | (have hq := hb.size; omega) | (have hq := hb.size; simp at hq; omega) | ((repeat (first | assumption | exact Below.refl _ _ | refine Below.drew ?_ | refine below_drewN ?_ _ | refine Below.setCell ?_ (by first | omega | (simp; done) | (simp <;> omega)) _ | refine Below.alloc ?_ (by first | omega | (simp; done) | (simp <;> omega)) _ | refine Below.trans ?_ (Below.mono (by assumption) (by first | omega | (simp; done) | (simp <;> omega))))); done)))); clear hb; go_split_ands)) | (go_at_call 34; ((with_reducible refine (short_any _ _ (by omega) (by omega)).mono ?_); rintro e w1 ⟨rfl, rfl⟩)))
        go_ret3
        exact ⟨tup3 rfl rfl (vint HP.out), by (repeat (first | assumption | exact Below.refl _ _ | refine Below.drew ?_ | refine below_drewN ?_ _ | refine Below.setCell ?_ (by first | omega | (simp; done) | (simp <;> omega)) _ | refine Below.alloc ?_ (by first | omega | (simp; done) | (simp <;> omega)) _ | refine Below.trans ?_ (Below.mono (by assumption) (by first | omega | (simp; done) | (simp <;> omega)))))⟩
    · have HE : Hid (fieldsErr s d p = 3) := by show fieldsErr s d p = _; simp [fieldsErr, hd]
      rw [HE.out, z0_three, z0_three]
      have hdd : (shortErr d != 0) = true := by simp [hd]
      have HP := Lib.hid hd
      clear h hd
      go_enter Try.func12, Try.ntmps12
      go_wp2_with (first | (go_at_call 33; ((with_reducible refine (check_any _ _ _ _ _).mono ?_); rintro e w1 ⟨rfl, hb⟩; (have hS : (((w1).cell? ⟨w.heap.size, 0, none⟩ = some (.int .i64 s) ∧ (w1).cell? ⟨w.heap.size, 1, none⟩ = some (.int .i64 d) ∧ (w1).cell? ⟨w.heap.size, 2, none⟩ = some (.int .i64 p) ∧ (w1).cell? ⟨w.heap.size, 3, none⟩ = some (.int .u32 r) ∧ (∀ o, (w1).frozen? ⟨w.heap.size, o, none⟩ = false)) ∧ w.heap.size < (w1).heap.size ∧ Below w.heap.size w (w1)) := by ((go_split_ands; (repeat' apply And.intro) <;> first | assumption | (refine kept_cell hb ?_ ?_ <;> first | assumption | omega | (dsimp only; omega) | (simp <;> omega) | (simp [go_sem, *]; done)) | (refine kept_frozen hb ?_ ?_ <;> first | assumption | omega | (intro o; simp [go_sem, *]; done) | (dsimp only; omega) | (simp <;> omega)) | (intro o; simp [go_sem, *]; done) | (simp [go_sem, *]; done) | (simp <;> omega) | (have hq := hb.size; omega) | (have hq := hb.size; simp at hq; omega) | ((repeat (first | assumption | exact Below.refl _ _ | refine Below.drew ?_ | refine below_drewN ?_ _ | refine Below.setCell ?_ (by first | omega | (simp; done) | (simp <;> omega)) _ | refine Below.alloc ?_ (by first | omega | (simp; done) | (simp <;> omega)) _ | refine Below.trans ?_ (Below.mono (by assumption) (by first | omega | (simp; done) | (simp <;> omega))))); done)))); clear hb; go_split_ands)) | (go_at_call 34; ((with_reducible refine (short_any _ _ (by omega) (by omega)).mono ?_); rintro e w1 ⟨rfl, rfl⟩)))
      go_ret3
      exact ⟨tup3 rfl rfl (vint HP.out), by (repeat (first | assumption | exact Below.refl _ _ | refine Below.drew ?_ | refine below_drewN ?_ _ | refine Below.setCell ?_ (by first | omega | (simp; done) | (simp <;> omega)) _ | refine Below.alloc ?_ (by first | omega | (simp; done) | (simp <;> omega)) _ | refine Below.trans ?_ (Below.mono (by assumption) (by first | omega | (simp; done) | (simp <;> omega)))))⟩
  · have HE : Hid (fieldsErr s d p = 3) := by show fieldsErr s d p = _; simp [fieldsErr, h]
    have h' : (chk s d p != 0) = true := by simpa using h
    have HC : Hid (chk s d p = 3) := (chk_03 s d p).resolve_left h
    rw [HE.out, z0_three, z0_three]
    clear h
    go_enter Try.func12, Try.ntmps12
    go_wp2_with (first | (go_at_call 33; ((with_reducible refine (check_any _ _ _ _ _).mono ?_); rintro e w1 ⟨rfl, hb⟩; (have hS : (((w1).cell? ⟨w.heap.size, 0, none⟩ = some (.int .i64 s) ∧ (w1).cell? ⟨w.heap.size, 1, none⟩ = some (.int .i64 d) ∧ (w1).cell? ⟨w.heap.size, 2, none⟩ = some (.int .i64 p) ∧ (w1).cell? ⟨w.heap.size, 3, none⟩ = some (.int .u32 r) ∧ (∀ o, (w1).frozen? ⟨w.heap.size, o, none⟩ = false)) ∧ w.heap.size < (w1).heap.size ∧ Below w.heap.size w (w1)) := by ((go_split_ands; (repeat' apply And.intro) <;> first | assumption | (refine kept_cell hb ?_ ?_ <;> first | assumption | omega | (dsimp only; omega) | (simp <;> omega) | (simp [go_sem, *]; done)) | (refine kept_frozen hb ?_ ?_ <;> first | assumption | omega | (intro o; simp [go_sem, *]; done) | (dsimp only; omega) | (simp <;> omega)) | (intro o; simp [go_sem, *]; done) | (simp [go_sem, *]; done) | (simp <;> omega) | (have hq := hb.size; omega) | (have hq := hb.size; simp at hq; omega) | ((repeat (first | assumption | exact Below.refl _ _ | refine Below.drew ?_ | refine below_drewN ?_ _ | refine Below.setCell ?_ (by first | omega | (simp; done) | (simp <;> omega)) _ | refine Below.alloc ?_ (by first | omega | (simp; done) | (simp <;> omega)) _ | refine Below.trans ?_ (Below.mono (by assumption) (by first | omega | (simp; done) | (simp <;> omega))))); done)))); clear hb; go_split_ands)) | (go_at_call 34; ((with_reducible refine (short_any _ _ (by omega) (by omega)).mono ?_); rintro e w1 ⟨rfl, rfl⟩)))
    go_ret3
    exact ⟨tup3 rfl rfl (vint HC.out), by (repeat (first | assumption | exact Below.refl _ _ | refine Below.drew ?_ | refine below_drewN ?_ _ | refine Below.setCell ?_ (by first | omega | (simp; done) | (simp <;> omega)) _ | refine Below.alloc ?_ (by first | omega | (simp; done) | (simp <;> omega)) _ | refine Below.trans ?_ (Below.mono (by assumption) (by first | omega | (simp; done) | (simp <;> omega)))))⟩
set_option maxHeartbeats 400000 in
theorem rfields_any (s d p r : Int) (w : World) :
    Calls Try.prog 31 #[root s d p r] w fun e w' => e = .returned (.tuple #[.int .u32 (z0 (fieldsErr s d p) (shortN d)), .int .u32 (z0 (fieldsErr s d p) (shortN p)), .int .i64 (fieldsErr s d p)]) ∧ Below w.heap.size w w' := by
  by_cases h : chk s d p = 0
  · obtain ⟨k1, k2, k3, k4, k5, k6⟩ := chk_ok h
    have h' : (chk s d p != 0) = false := by simpa using h
    rcases shortErr_03 d with hd | hd
    · have HE : Hid (fieldsErr s d p = shortErr p) := by show fieldsErr s d p = _; simp [fieldsErr, h, hd]
      have hd' : Hid (z0 (shortErr d) (shortN d) = shortN d) := z0_ok hd
      rcases shortErr_03 p with hp | hp
      · rw [HE.out, hp, z0_zero, z0_zero]
        have hp' : Hid (z0 (shortErr p) (shortN p) = shortN p) := z0_ok hp
        have hdd : (shortErr d != 0) = false := by simp [hd]
        have hpp : (shortErr p != 0) = false := by simp [hp]
        clear h hd hp
        go_enter Try.func31, Try.ntmps31
        go_wp2_with (first | (go_at_call 30; ((with_reducible refine (rcheck_any _ _ _ _ _).mono ?_); rintro e w1 ⟨rfl, hb⟩; (have hS : (((w1).cell? ⟨w.heap.size, 0, none⟩ = some (.int .i64 s) ∧ (w1).cell? ⟨w.heap.size, 1, none⟩ = some (.int .i64 d) ∧ (w1).cell? ⟨w.heap.size, 2, none⟩ = some (.int .i64 p) ∧ (w1).cell? ⟨w.heap.size, 3, none⟩ = some (.int .u32 r) ∧ (∀ o, (w1).frozen? ⟨w.heap.size, o, none⟩ = false)) ∧ w.heap.size < (w1).heap.size ∧ Below w.heap.size w (w1)) := by ((go_split_ands; (repeat' apply And.intro) <;> first | assumption | (refine kept_cell hb ?_ ?_ <;> first | assumption | omega | (dsimp only; omega) | (simp <;> omega) | (simp [go_sem, *]; done)) | (refine kept_frozen hb ?_ ?_ <;> first | assumption | omega | (intro o; simp [go_sem, *]; done) | (dsimp only; omega) | (simp <;> omega)) | (intro o; simp [go_sem, *]; done) | (simp [go_sem, *]; done) | (simp <;> omega) | (have hq := hb.size; omega) | (have hq := hb.size; simp at hq; omega) | ((repeat (first | assumption | exact Below.refl _ _ | refine Below.drew ?_ | refine below_drewN ?_ _ | refine Below.setCell ?_ (by first | omega | (simp; done) | (simp <;> omega)) _ | refine Below.alloc ?_ (by first | omega | (simp; done) | (simp <;> omega)) _ | refine Below.trans ?_ (Below.mono (by assumption) (by first | omega | (simp; done) | (simp <;> omega))))); done)))); clear hb; go_split_ands)) | (go_at_call 57; ((with_reducible refine (rshort_any _ _ (by omega) (by omega)).mono ?_); rintro e w1 ⟨rfl, rfl⟩)))
        go_ret3
        exact ⟨tup3 (vint hd'.out) (vint hp'.out) rfl, by (repeat (first | assumption | exact Below.refl _ _ | refine Below.drew ?_ | refine below_drewN ?_ _ | refine Below.setCell ?_ (by first | omega | (simp; done) | (simp <;> omega)) _ | refine Below.alloc ?_ (by first | omega | (simp; done) | (simp <;> omega)) _ | refine Below.trans ?_ (Below.mono (by assumption) (by first | omega | (simp; done) | (simp <;> omega)))))⟩
      · rw [HE.out, hp, z0_three, z0_three]
        have hdd : (shortErr d != 0) = false := by simp [hd]
        have hpp : (shortErr p != 0) = true := by simp [hp]
        have HP := Lib.hid hp
        clear h hd hp
        go_enter Try.func31, Try.ntmps31
        go_wp2_with (first | (go_at_call 30; ((with_reducible refine (rcheck_any _ _ _ _ _).mono ?_); rintro e w1 ⟨rfl, hb⟩; (have hS : (((w1).cell? ⟨w.heap.size, 0, none⟩ = some (.int .i64 s) ∧ (w1).cell? ⟨w.heap.size, 1, none⟩ = some (.int .i64 d) ∧ (w1).cell? ⟨w.heap.size, 2, none⟩ = some (.int .i64 p) ∧ (w1).cell? ⟨w.heap.size, 3, none⟩ = some (.int .u32 r) ∧ (∀ o, (w1).frozen? ⟨w.heap.size, o, none⟩ = false)) ∧ w.heap.size < (w1).heap.size ∧ Below w.heap.size w (w1)) := by ((go_split_ands; (repeat' apply And.intro) <;> first | assumption | (refine kept_cell hb ?_ ?_ <;> first | assumption | omega | (dsimp only; omega) | (simp <;> omega) | (simp [go_sem, *]; done)) | (refine kept_frozen hb ?_ ?_ <;> first | assumption | omega | (intro o; simp [go_sem, *]; done) | (dsimp only; omega) | (simp <;> omega)) | (intro o; simp [go_sem, *]; done) | (simp [go_sem, *]; done) | (simp <;> omega) | (have hq := hb.size; omega) | (have hq := hb.size; simp at hq; omega) | ((repeat (first | assumption | exact Below.refl _ _ | refine Below.drew ?_ | refine below_drewN ?_ _ | refine Below.setCell ?_ (by first | omega | (simp; done) | (simp <;> omega)) _ | refine Below.alloc ?_ (by first | omega | (simp; done) | (simp <;> omega)) _ | refine Below.trans ?_ (Below.mono (by assumption) (by first | omega | (simp; done) | (simp <;> omega))))); done)))); clear hb; go_split_ands)) | (go_at_call 57; ((with_reducible refine (rshort_any _ _ (by omega) (by omega)).mono ?_); rintro e w1 ⟨rfl, rfl⟩)))
        go_ret3
        exact ⟨tup3 rfl rfl (vint HP.out), by (repeat (first | assumption | exact Below.refl _ _ | refine Below.drew ?_ | refine below_drewN ?_ _ | refine Below.setCell ?_ (by first | omega | (simp; done) | (simp <;> omega)) _ | refine Below.alloc ?_ (by first | omega | (simp; done) | (simp <;> omega)) _ | refine Below.trans ?_ (Below.mono (by assumption) (by first | omega | (simp; done) | (simp <;> omega)))))⟩
    · have HE : Hid (fieldsErr s d p = 3) := by show fieldsErr s d p = _; simp [fieldsErr, hd]
      rw [HE.out, z0_three, z0_three]
      have hdd : (shortErr d != 0) = true := by simp [hd]
      have HP := Lib.hid hd
      clear h hd
      go_enter Try.func31, Try.ntmps31
      go_wp2_with (first | (go_at_call 30; ((with_reducible refine (rcheck_any _ _ _ _ _).mono ?_); rintro e w1 ⟨rfl, hb⟩; (have hS : (((w1).cell? ⟨w.heap.size, 0, none⟩ = some (.int .i64 s) ∧ (w1).cell? ⟨w.heap.size, 1, none⟩ = some (.int .i64 d) ∧ (w1).cell? ⟨w.heap.size, 2, none⟩ = some (.int .i64 p) ∧ (w1).cell? ⟨w.heap.size, 3, none⟩ = some (.int .u32 r) ∧ (∀ o, (w1).frozen? ⟨w.heap.size, o, none⟩ = false)) ∧ w.heap.size < (w1).heap.size ∧ Below w.heap.size w (w1)) := by ((go_split_ands; (repeat' apply And.intro) <;> first | assumption | (refine kept_cell hb ?_ ?_ <;> first | assumption | omega | (dsimp only; omega) | (simp <;> omega) | (simp [go_sem, *]; done)) | (refine kept_frozen hb ?_ ?_ <;> first | assumption | omega | (intro o; simp [go_sem, *]; done) | (dsimp only; omega) | (simp <;> omega)) | (intro o; simp [go_sem, *]; done) | (simp [go_sem, *]; done) | (simp <;> omega) | (have hq := hb.size; omega) | (have hq := hb.size; simp at hq; omega) | ((repeat (first | assumption | exact Below.refl _ _ | refine Below.drew ?_ | refine below_drewN ?_ _ | refine Below.setCell ?_ (by first | omega | (simp; done) | (simp <;> omega)) _ | refine Below.alloc ?_ (by first | omega | (simp; done) | (simp <;> omega)) _ | refine Below.trans ?_ (Below.mono (by assumption) (by first | omega | (simp; done) | (simp <;> omega))))); done)))); clear hb; go_split_ands)) | (go_at_call 57; ((with_reducible refine (rshort_any _ _ (by omega) (by omega)).mono ?_); rintro e w1 ⟨rfl, rfl⟩)))
      go_ret3
      exact ⟨tup3 rfl rfl (vint HP.out), by (repeat (first | assumption | exact Below.refl _ _ | refine Below.drew ?_ | refine below_drewN ?_ _ | refine Below.setCell ?_ (by first | omega | (simp; done) | (simp <;> omega)) _ | refine Below.alloc ?_ (by first | omega | (simp; done) | (simp <;> omega)) _ | refine Below.trans ?_ (Below.mono (by assumption) (by first | omega | (simp; done) | (simp <;> omega)))))⟩
  · have HE : Hid (fieldsErr s d p = 3) := by show fieldsErr s d p = _; simp [fieldsErr, h]
    have h' : (chk s d p != 0) = true := by simpa using h
    have HC : Hid (chk s d p = 3) := (chk_03 s d p).resolve_left h
    rw [HE.out, z0_three, z0_three]
    clear h
    go_enter Try.func31, Try.ntmps31
    go_wp2_with (first | (go_at_call 30; ((with_reducible refine (rcheck_any _ _ _ _ _).mono ?_); rintro e w1 ⟨rfl, hb⟩; (have hS : (((w1).cell? ⟨w.heap.size, 0, none⟩ = some (.int .i64 s) ∧ (w1).cell? ⟨w.heap.size, 1, none⟩ = some (.int .i64 d) ∧ (w1).cell? ⟨w.heap.size, 2, none⟩ = some (.int .i64 p) ∧ (w1).cell? ⟨w.heap.size, 3, none⟩ = some (.int .u32 r) ∧ (∀ o, (w1).frozen? ⟨w.heap.size, o, none⟩ = false)) ∧ w.heap.size < (w1).heap.size ∧ Below w.heap.size w (w1)) := by ((go_split_ands; (repeat' apply And.intro) <;> first | assumption | (refine kept_cell hb ?_ ?_ <;> first | assumption | omega | (dsimp only; omega) | (simp <;> omega) | (simp [go_sem, *]; done)) | (refine kept_frozen hb ?_ ?_ <;> first | assumption | omega | (intro o; simp [go_sem, *]; done) | (dsimp only; omega) | (simp <;> omega)) | (intro o; simp [go_sem, *]; done) | (simp [go_sem, *]; done) | (simp <;> omega) | (have hq := hb.size; omega) | (have hq := hb.size; simp at hq; omega) | ((repeat (first | assumption | exact Below.refl _ _ | refine Below.drew ?_ | refine below_drewN ?_ _ | refine Below.setCell ?_ (by first | omega | (simp; done) | (simp <;> omega)) _ | refine Below.alloc ?_ (by first | omega | (simp; done) | (simp <;> omega)) _ | refine Below.trans ?_ (Below.mono (by assumption) (by first | omega | (simp; done) | (simp <;> omega))))); done)))); clear hb; go_split_ands)) | (go_at_call 57; ((with_reducible refine (rshort_any _ _ (by omega) (by omega)).mono ?_); rintro e w1 ⟨rfl, rfl⟩)))
    go_ret3
    exact ⟨tup3 rfl rfl rfl, by (repeat (first | assumption | exact Below.refl _ _ | refine Below.drew ?_ | refine below_drewN ?_ _ | refine Below.setCell ?_ (by first | omega | (simp; done) | (simp <;> omega)) _ | refine Below.alloc ?_ (by first | omega | (simp; done) | (simp <;> omega)) _ | refine Below.trans ?_ (Below.mono (by assumption) (by first | omega | (simp; done) | (simp <;> omega)))))⟩

end Go.Proofs.Ytjclifjipphnkaa
