/- RootFollows (P29.2, P29.5, P29.6): for every input the law returns true, and its arguments read afterwards as before. No condition. -/
import Derived.Test.YtofgebmmgblkfaaRootLaws
import Derived.Test.YtofgebmmgblkfaaRow
namespace Go.Proofs.Ytofgebmmgblkfaa
open Go.ChangeShapes Go.WideShapes Go.ChangeAt Go.RowKit Go.Joins
set_option linter.unusedSimpArgs false
set_option linter.unusedVariables false
theorem fields_ok {s d p r : Int} (h : fieldsErr s d p = 0) (w : World) :
    Calls Try.prog 17 #[root s d p r] w fun e w' => e = .returned (.tuple #[.int .u32 (shortN d), .int .u32 (shortN p), .int .i64 0]) ∧ Below w.heap.size w w' := by
  have c := fields_any s d p r w
  rw [h, z0_zero, z0_zero] at c
  exact c
theorem fields_no {s d p r : Int} (h : fieldsErr s d p ≠ 0) (w : World) :
    Calls Try.prog 17 #[root s d p r] w fun e w' => e = .returned (.tuple #[.int .u32 0, .int .u32 0, .int .i64 (fieldsErr s d p)]) ∧ Below w.heap.size w w' := by
  have c := fields_any s d p r w
  rw [z0_no h, z0_no h] at c
  exact c
theorem shortErr_ok {n : Int} (h : shortErr n = 0) : 0 ≤ n ∧ 0 ≤ shortN n ∧ shortN n ≤ 4294967295 ∧ n ≤ longN (shortN n) := by
  have h0 : 0 ≤ n ∧ shortN n ≤ 4294967295 := by unfold shortErr at h; split at h <;> omega
  obtain ⟨h1, h2⟩ := h0
  refine ⟨h1, ?_, h2, ?_⟩ <;> unfold longN shortN at * <;> omega
set_option maxHeartbeats 1000000 in
theorem follows_no (s d p r o dd dp a self : Int) (w : World) (h : fieldsErr s d p ≠ 0) :
    Calls Try.prog 7 #[root s d p r, samp o dd dp a, .int .u32 self] w fun e w' => e = .returned (.bool true) ∧ Below w.heap.size w w' := by
  have hb : (fieldsErr s d p != 0) = true := by simpa using h
  have C := Lib.hid (fun w => fields_no (r := r) h w)
  clear h
  go_enter Try.func7, Try.ntmps7
  go_wp2_with fail
  refine (C.out _).mono ?_
  rintro e w1 ⟨rfl, hb⟩
  (have hS : (((w1).cell? ⟨w.heap.size, 0, none⟩ = some (.int .i64 s) ∧ (w1).cell? ⟨w.heap.size, 1, none⟩ = some (.int .i64 d) ∧ (w1).cell? ⟨w.heap.size, 2, none⟩ = some (.int .i64 p) ∧ (w1).cell? ⟨w.heap.size, 3, none⟩ = some (.int .u32 r) ∧ (∀ o, (w1).frozen? ⟨w.heap.size, o, none⟩ = false)) ∧ ((w1).cell? ⟨w.heap.size + 1, 0, none⟩ = some (.int .i64 o) ∧ (w1).cell? ⟨w.heap.size + 1, 1, none⟩ = some (.int .i64 dd) ∧ (w1).cell? ⟨w.heap.size + 1, 2, none⟩ = some (.int .i64 dp) ∧ (w1).cell? ⟨w.heap.size + 1, 3, none⟩ = some (.int .i64 a) ∧ (∀ o, (w1).frozen? ⟨w.heap.size + 1, o, none⟩ = false)) ∧ w.heap.size < (w1).heap.size ∧ w.heap.size + 1 < (w1).heap.size ∧ Below w.heap.size w (w1)) := by ((go_split_ands; (repeat' apply And.intro) <;> first | assumption | (refine kept_cell hb ?_ ?_ <;> first | assumption | omega | (dsimp only; omega) | (simp <;> omega) | (simp [go_sem, *]; done)) | (refine kept_frozen hb ?_ ?_ <;> first | assumption | omega | (intro o; simp [go_sem, *]; done) | (dsimp only; omega) | (simp <;> omega)) | (intro o; simp [go_sem, *]; done) | (simp [go_sem, *]; done) | (simp <;> omega) | (have hq := hb.size; omega) | (have hq := hb.size; simp at hq; omega) | ((repeat (first | assumption | exact Below.refl _ _ | refine Below.drew ?_ | refine below_drewN ?_ _ | refine Below.setCell ?_ (by first | omega | (simp; done) | (simp <;> omega)) _ | refine Below.alloc ?_ (by first | omega | (simp; done) | (simp <;> omega)) _ | refine Below.trans ?_ (Below.mono (by assumption) (by first | omega | (simp; done) | (simp <;> omega))))); done))))
  clear hb; go_split_ands
  go_wp2_with fail
  refine (awake_any _).mono ?_
  rintro e w2 ⟨rfl, hb⟩
  (have hS : (w.heap.size ≤ (w2).heap.size ∧ Below w.heap.size w (w2)) := by ((go_split_ands; (repeat' apply And.intro) <;> first | assumption | (refine kept_cell hb ?_ ?_ <;> first | assumption | omega | (dsimp only; omega) | (simp <;> omega) | (simp [go_sem, *]; done)) | (refine kept_frozen hb ?_ ?_ <;> first | assumption | omega | (intro o; simp [go_sem, *]; done) | (dsimp only; omega) | (simp <;> omega)) | (intro o; simp [go_sem, *]; done) | (simp [go_sem, *]; done) | (simp <;> omega) | (have hq := hb.size; omega) | (have hq := hb.size; simp at hq; omega) | ((repeat (first | assumption | exact Below.refl _ _ | refine Below.drew ?_ | refine below_drewN ?_ _ | refine Below.setCell ?_ (by first | omega | (simp; done) | (simp <;> omega)) _ | refine Below.alloc ?_ (by first | omega | (simp; done) | (simp <;> omega)) _ | refine Below.trans ?_ (Below.mono (by assumption) (by first | omega | (simp; done) | (simp <;> omega))))); done))))
  clear hb; go_split_ands
  go_wp2
  go_ret
  exact ⟨rfl, by (repeat (first | assumption | exact Below.refl _ _ | refine Below.drew ?_ | refine below_drewN ?_ _ | refine Below.setCell ?_ (by first | omega | (simp; done) | (simp <;> omega)) _ | refine Below.alloc ?_ (by first | omega | (simp; done) | (simp <;> omega)) _ | refine Below.trans ?_ (Below.mono (by assumption) (by first | omega | (simp; done) | (simp <;> omega)))))⟩
set_option maxHeartbeats 1000000 in
theorem follows_far (s d p r o dd dp a self : Int) (w : World) (h : fieldsErr s d p = 0) (hs : 15 < s) :
    Calls Try.prog 7 #[root s d p r, samp o dd dp a, .int .u32 self] w fun e w' => e = .returned (.bool true) ∧ Below w.heap.size w w' := by
  have C := Lib.hid (fun w => fields_ok (r := r) h w)
  clear h
  go_enter Try.func7, Try.ntmps7
  go_wp2_with fail
  refine (C.out _).mono ?_
  rintro e w1 ⟨rfl, hb⟩
  (have hS : (((w1).cell? ⟨w.heap.size, 0, none⟩ = some (.int .i64 s) ∧ (w1).cell? ⟨w.heap.size, 1, none⟩ = some (.int .i64 d) ∧ (w1).cell? ⟨w.heap.size, 2, none⟩ = some (.int .i64 p) ∧ (w1).cell? ⟨w.heap.size, 3, none⟩ = some (.int .u32 r) ∧ (∀ o, (w1).frozen? ⟨w.heap.size, o, none⟩ = false)) ∧ ((w1).cell? ⟨w.heap.size + 1, 0, none⟩ = some (.int .i64 o) ∧ (w1).cell? ⟨w.heap.size + 1, 1, none⟩ = some (.int .i64 dd) ∧ (w1).cell? ⟨w.heap.size + 1, 2, none⟩ = some (.int .i64 dp) ∧ (w1).cell? ⟨w.heap.size + 1, 3, none⟩ = some (.int .i64 a) ∧ (∀ o, (w1).frozen? ⟨w.heap.size + 1, o, none⟩ = false)) ∧ w.heap.size < (w1).heap.size ∧ w.heap.size + 1 < (w1).heap.size ∧ Below w.heap.size w (w1)) := by ((go_split_ands; (repeat' apply And.intro) <;> first | assumption | (refine kept_cell hb ?_ ?_ <;> first | assumption | omega | (dsimp only; omega) | (simp <;> omega) | (simp [go_sem, *]; done)) | (refine kept_frozen hb ?_ ?_ <;> first | assumption | omega | (intro o; simp [go_sem, *]; done) | (dsimp only; omega) | (simp <;> omega)) | (intro o; simp [go_sem, *]; done) | (simp [go_sem, *]; done) | (simp <;> omega) | (have hq := hb.size; omega) | (have hq := hb.size; simp at hq; omega) | ((repeat (first | assumption | exact Below.refl _ _ | refine Below.drew ?_ | refine below_drewN ?_ _ | refine Below.setCell ?_ (by first | omega | (simp; done) | (simp <;> omega)) _ | refine Below.alloc ?_ (by first | omega | (simp; done) | (simp <;> omega)) _ | refine Below.trans ?_ (Below.mono (by assumption) (by first | omega | (simp; done) | (simp <;> omega))))); done))))
  clear hb; go_split_ands
  go_wp2_with fail
  refine (awake_any _).mono ?_
  rintro e w2 ⟨rfl, hb⟩
  (have hS : (w.heap.size ≤ (w2).heap.size ∧ Below w.heap.size w (w2)) := by ((go_split_ands; (repeat' apply And.intro) <;> first | assumption | (refine kept_cell hb ?_ ?_ <;> first | assumption | omega | (dsimp only; omega) | (simp <;> omega) | (simp [go_sem, *]; done)) | (refine kept_frozen hb ?_ ?_ <;> first | assumption | omega | (intro o; simp [go_sem, *]; done) | (dsimp only; omega) | (simp <;> omega)) | (intro o; simp [go_sem, *]; done) | (simp [go_sem, *]; done) | (simp <;> omega) | (have hq := hb.size; omega) | (have hq := hb.size; simp at hq; omega) | ((repeat (first | assumption | exact Below.refl _ _ | refine Below.drew ?_ | refine below_drewN ?_ _ | refine Below.setCell ?_ (by first | omega | (simp; done) | (simp <;> omega)) _ | refine Below.alloc ?_ (by first | omega | (simp; done) | (simp <;> omega)) _ | refine Below.trans ?_ (Below.mono (by assumption) (by first | omega | (simp; done) | (simp <;> omega))))); done))))
  clear hb; go_split_ands
  go_wp2
  go_ret
  exact ⟨rfl, by (repeat (first | assumption | exact Below.refl _ _ | refine Below.drew ?_ | refine below_drewN ?_ _ | refine Below.setCell ?_ (by first | omega | (simp; done) | (simp <;> omega)) _ | refine Below.alloc ?_ (by first | omega | (simp; done) | (simp <;> omega)) _ | refine Below.trans ?_ (Below.mono (by assumption) (by first | omega | (simp; done) | (simp <;> omega)))))⟩
set_option maxHeartbeats 2000000 in
theorem follows_core (s d p r A B E D P o dd dp a self : Int) (w : World) (hs : s ≤ 15) (hs1 : 1 ≤ s) (a1 : 0 ≤ A) (a2 : A ≤ 4294967295) (b1 : 0 ≤ B) (b2 : B ≤ 4294967295) (hA : d ≤ longN A) (hB : p ≤ longN B)
    (C1 : Hid (∀ w, Calls Try.prog 17 #[root s d p r] w fun e w' => e = .returned (.tuple #[.int .u32 A, .int .u32 B, .int .i64 0]) ∧ Below w.heap.size w w'))
    (C2 : Hid (∀ w, Calls Try.prog 23 #[ntp 0 4 4 s 0 0 A B r 0 0 0 0, samp o dd dp a, .int .u32 self] w fun e w' => e = .returned (.tuple #[rootOr E (s + 1) D P self, .int .i64 E]) ∧ Below w.heap.size w w'))
    (hE : (E != 0) = true ∨ ((E != 0) = false ∧ E = 0 ∧ better (s + 1) D P self s d p r = false ∧ dist s d p ≤ dist (s + 1) D P)) :
    Calls Try.prog 7 #[root s d p r, samp o dd dp a, .int .u32 self] w fun e w' => e = .returned (.bool true) ∧ Below w.heap.size w w' := by
  have hn : (nchk 0 4 4 s 0 0 != 0) = false := by have : nchk 0 4 4 s 0 0 = 0 := by unfold nchk; rw [if_pos (by omega)]
                                                  simp [this]
  have g1 : decide (longN A < d) = false := by simpa using hA
  have g2 : decide (longN B < p) = false := by simpa using hB
  rcases hE with hE | ⟨hE, hE0, hb, hd⟩
  · go_enter Try.func7, Try.ntmps7
    go_wp2_with fail
    refine (C1.out _).mono ?_
    rintro e w1 ⟨rfl, hb⟩
    (have hS : (((w1).cell? ⟨w.heap.size, 0, none⟩ = some (.int .i64 s) ∧ (w1).cell? ⟨w.heap.size, 1, none⟩ = some (.int .i64 d) ∧ (w1).cell? ⟨w.heap.size, 2, none⟩ = some (.int .i64 p) ∧ (w1).cell? ⟨w.heap.size, 3, none⟩ = some (.int .u32 r) ∧ (∀ o, (w1).frozen? ⟨w.heap.size, o, none⟩ = false)) ∧ ((w1).cell? ⟨w.heap.size + 1, 0, none⟩ = some (.int .i64 o) ∧ (w1).cell? ⟨w.heap.size + 1, 1, none⟩ = some (.int .i64 dd) ∧ (w1).cell? ⟨w.heap.size + 1, 2, none⟩ = some (.int .i64 dp) ∧ (w1).cell? ⟨w.heap.size + 1, 3, none⟩ = some (.int .i64 a) ∧ (∀ o, (w1).frozen? ⟨w.heap.size + 1, o, none⟩ = false)) ∧ w.heap.size < (w1).heap.size ∧ w.heap.size + 1 < (w1).heap.size ∧ Below w.heap.size w (w1)) := by ((go_split_ands; (repeat' apply And.intro) <;> first | assumption | (refine kept_cell hb ?_ ?_ <;> first | assumption | omega | (dsimp only; omega) | (simp <;> omega) | (simp [go_sem, *]; done)) | (refine kept_frozen hb ?_ ?_ <;> first | assumption | omega | (intro o; simp [go_sem, *]; done) | (dsimp only; omega) | (simp <;> omega)) | (intro o; simp [go_sem, *]; done) | (simp [go_sem, *]; done) | (simp <;> omega) | (have hq := hb.size; omega) | (have hq := hb.size; simp at hq; omega) | ((repeat (first | assumption | exact Below.refl _ _ | refine Below.drew ?_ | refine below_drewN ?_ _ | refine Below.setCell ?_ (by first | omega | (simp; done) | (simp <;> omega)) _ | refine Below.alloc ?_ (by first | omega | (simp; done) | (simp <;> omega)) _ | refine Below.trans ?_ (Below.mono (by assumption) (by first | omega | (simp; done) | (simp <;> omega))))); done))))
    clear hb; go_split_ands
    go_wp2_with fail
    go_region_held3 (fun w' => (((w').cell? ⟨w.heap.size, 0, none⟩ = some (.int .i64 s) ∧ (w').cell? ⟨w.heap.size, 1, none⟩ = some (.int .i64 d) ∧ (w').cell? ⟨w.heap.size, 2, none⟩ = some (.int .i64 p) ∧ (w').cell? ⟨w.heap.size, 3, none⟩ = some (.int .u32 r) ∧ (∀ o, (w').frozen? ⟨w.heap.size, o, none⟩ = false)) ∧ ((w').cell? ⟨w.heap.size + 1, 0, none⟩ = some (.int .i64 o) ∧ (w').cell? ⟨w.heap.size + 1, 1, none⟩ = some (.int .i64 dd) ∧ (w').cell? ⟨w.heap.size + 1, 2, none⟩ = some (.int .i64 dp) ∧ (w').cell? ⟨w.heap.size + 1, 3, none⟩ = some (.int .i64 a) ∧ (∀ o, (w').frozen? ⟨w.heap.size + 1, o, none⟩ = false)) ∧ ((w').cell? ⟨w1.heap.size, 0, none⟩ = some (.int .i64 0) ∧ (w').cell? ⟨w1.heap.size, 1, none⟩ = some (.int .i64 4) ∧ (w').cell? ⟨w1.heap.size, 2, none⟩ = some (.int .i64 4) ∧ (w').cell? ⟨w1.heap.size, 3, none⟩ = some (.int .i64 s) ∧ (w').cell? ⟨w1.heap.size, 4, none⟩ = some (.int .i64 0) ∧ (w').cell? ⟨w1.heap.size, 5, none⟩ = some (.int .i64 0) ∧ (w').cell? ⟨w1.heap.size, 6, none⟩ = some (.int .u32 A) ∧ (w').cell? ⟨w1.heap.size, 7, none⟩ = some (.int .u32 B) ∧ (w').cell? ⟨w1.heap.size, 8, none⟩ = some (.int .u32 r) ∧ (w').cell? ⟨w1.heap.size, 9, none⟩ = some (.int .u64 0) ∧ (w').cell? ⟨w1.heap.size, 10, none⟩ = some (.int .u64 0) ∧ (w').cell? ⟨w1.heap.size, 11, none⟩ = some (.int .u64 0) ∧ (w').cell? ⟨w1.heap.size, 12, none⟩ = some (.int .u64 0)) ∧ w.heap.size < (w').heap.size ∧ w.heap.size + 1 < (w').heap.size ∧ w1.heap.size < (w').heap.size ∧ Below w.heap.size w (w'))) ((go_split_ands; (repeat' apply And.intro) <;> first | assumption | (refine kept_cell hb ?_ ?_ <;> first | assumption | omega | (dsimp only; omega) | (simp <;> omega) | (simp [go_sem, *]; done)) | (refine kept_frozen hb ?_ ?_ <;> first | assumption | omega | (intro o; simp [go_sem, *]; done) | (dsimp only; omega) | (simp <;> omega)) | (intro o; simp [go_sem, *]; done) | (simp [go_sem, *]; done) | (simp <;> omega) | (have hq := hb.size; omega) | (have hq := hb.size; simp at hq; omega) | ((repeat (first | assumption | exact Below.refl _ _ | refine Below.drew ?_ | refine below_drewN ?_ _ | refine Below.setCell ?_ (by first | omega | (simp; done) | (simp <;> omega)) _ | refine Below.alloc ?_ (by first | omega | (simp; done) | (simp <;> omega)) _ | refine Below.trans ?_ (Below.mono (by assumption) (by first | omega | (simp; done) | (simp <;> omega))))); done))) (first | (go_at_call 21; ((with_reducible refine (nchk_any _ _ _ _ _ _ _ _ _ _ _ _ _ _).mono ?_); rintro e w1 ⟨rfl, hb⟩)) | (go_at_call 22; ((with_reducible refine (long_any _ _ a1 a2).mono ?_); rintro e w1 ⟨rfl, rfl⟩)) | (go_at_call 22; ((with_reducible refine (long_any _ _ b1 b2).mono ?_); rintro e w1 ⟨rfl, rfl⟩)))
    go_split_ands
    go_wp2_with fail
    refine (C2.out _).mono ?_
    rintro e w3 ⟨rfl, hb⟩
    (have hS : (((w3).cell? ⟨w.heap.size, 0, none⟩ = some (.int .i64 s) ∧ (w3).cell? ⟨w.heap.size, 1, none⟩ = some (.int .i64 d) ∧ (w3).cell? ⟨w.heap.size, 2, none⟩ = some (.int .i64 p) ∧ (w3).cell? ⟨w.heap.size, 3, none⟩ = some (.int .u32 r) ∧ (∀ o, (w3).frozen? ⟨w.heap.size, o, none⟩ = false)) ∧ ((w3).cell? ⟨w.heap.size + 1, 0, none⟩ = some (.int .i64 o) ∧ (w3).cell? ⟨w.heap.size + 1, 1, none⟩ = some (.int .i64 dd) ∧ (w3).cell? ⟨w.heap.size + 1, 2, none⟩ = some (.int .i64 dp) ∧ (w3).cell? ⟨w.heap.size + 1, 3, none⟩ = some (.int .i64 a) ∧ (∀ o, (w3).frozen? ⟨w.heap.size + 1, o, none⟩ = false)) ∧ w.heap.size < (w3).heap.size ∧ w.heap.size + 1 < (w3).heap.size ∧ Below w.heap.size w (w3)) := by ((go_split_ands; (repeat' apply And.intro) <;> first | assumption | (refine kept_cell hb ?_ ?_ <;> first | assumption | omega | (dsimp only; omega) | (simp <;> omega) | (simp [go_sem, *]; done)) | (refine kept_frozen hb ?_ ?_ <;> first | assumption | omega | (intro o; simp [go_sem, *]; done) | (dsimp only; omega) | (simp <;> omega)) | (intro o; simp [go_sem, *]; done) | (simp [go_sem, *]; done) | (simp <;> omega) | (have hq := hb.size; omega) | (have hq := hb.size; simp at hq; omega) | ((repeat (first | assumption | exact Below.refl _ _ | refine Below.drew ?_ | refine below_drewN ?_ _ | refine Below.setCell ?_ (by first | omega | (simp; done) | (simp <;> omega)) _ | refine Below.alloc ?_ (by first | omega | (simp; done) | (simp <;> omega)) _ | refine Below.trans ?_ (Below.mono (by assumption) (by first | omega | (simp; done) | (simp <;> omega))))); done))))
    clear hb; go_split_ands
    go_wp2_with fail
    refine (awake_any _).mono ?_
    rintro e w4 ⟨rfl, hb⟩
    (have hS : (w.heap.size ≤ (w4).heap.size ∧ Below w.heap.size w (w4)) := by ((go_split_ands; (repeat' apply And.intro) <;> first | assumption | (refine kept_cell hb ?_ ?_ <;> first | assumption | omega | (dsimp only; omega) | (simp <;> omega) | (simp [go_sem, *]; done)) | (refine kept_frozen hb ?_ ?_ <;> first | assumption | omega | (intro o; simp [go_sem, *]; done) | (dsimp only; omega) | (simp <;> omega)) | (intro o; simp [go_sem, *]; done) | (simp [go_sem, *]; done) | (simp <;> omega) | (have hq := hb.size; omega) | (have hq := hb.size; simp at hq; omega) | ((repeat (first | assumption | exact Below.refl _ _ | refine Below.drew ?_ | refine below_drewN ?_ _ | refine Below.setCell ?_ (by first | omega | (simp; done) | (simp <;> omega)) _ | refine Below.alloc ?_ (by first | omega | (simp; done) | (simp <;> omega)) _ | refine Below.trans ?_ (Below.mono (by assumption) (by first | omega | (simp; done) | (simp <;> omega))))); done))))
    clear hb; go_split_ands
    go_wp2
    go_ret
    exact ⟨rfl, by (repeat (first | assumption | exact Below.refl _ _ | refine Below.drew ?_ | refine below_drewN ?_ _ | refine Below.setCell ?_ (by first | omega | (simp; done) | (simp <;> omega)) _ | refine Below.alloc ?_ (by first | omega | (simp; done) | (simp <;> omega)) _ | refine Below.trans ?_ (Below.mono (by assumption) (by first | omega | (simp; done) | (simp <;> omega)))))⟩
  · subst hE0
    simp only [rootOr, z0_zero] at C2
    have g3 : decide (dist s d p ≤ dist (s + 1) D P) = true := by simpa using hd
    go_enter Try.func7, Try.ntmps7
    go_wp2_with fail
    refine (C1.out _).mono ?_
    rintro e w1 ⟨rfl, hb⟩
    (have hS : (((w1).cell? ⟨w.heap.size, 0, none⟩ = some (.int .i64 s) ∧ (w1).cell? ⟨w.heap.size, 1, none⟩ = some (.int .i64 d) ∧ (w1).cell? ⟨w.heap.size, 2, none⟩ = some (.int .i64 p) ∧ (w1).cell? ⟨w.heap.size, 3, none⟩ = some (.int .u32 r) ∧ (∀ o, (w1).frozen? ⟨w.heap.size, o, none⟩ = false)) ∧ ((w1).cell? ⟨w.heap.size + 1, 0, none⟩ = some (.int .i64 o) ∧ (w1).cell? ⟨w.heap.size + 1, 1, none⟩ = some (.int .i64 dd) ∧ (w1).cell? ⟨w.heap.size + 1, 2, none⟩ = some (.int .i64 dp) ∧ (w1).cell? ⟨w.heap.size + 1, 3, none⟩ = some (.int .i64 a) ∧ (∀ o, (w1).frozen? ⟨w.heap.size + 1, o, none⟩ = false)) ∧ w.heap.size < (w1).heap.size ∧ w.heap.size + 1 < (w1).heap.size ∧ Below w.heap.size w (w1)) := by ((go_split_ands; (repeat' apply And.intro) <;> first | assumption | (refine kept_cell hb ?_ ?_ <;> first | assumption | omega | (dsimp only; omega) | (simp <;> omega) | (simp [go_sem, *]; done)) | (refine kept_frozen hb ?_ ?_ <;> first | assumption | omega | (intro o; simp [go_sem, *]; done) | (dsimp only; omega) | (simp <;> omega)) | (intro o; simp [go_sem, *]; done) | (simp [go_sem, *]; done) | (simp <;> omega) | (have hq := hb.size; omega) | (have hq := hb.size; simp at hq; omega) | ((repeat (first | assumption | exact Below.refl _ _ | refine Below.drew ?_ | refine below_drewN ?_ _ | refine Below.setCell ?_ (by first | omega | (simp; done) | (simp <;> omega)) _ | refine Below.alloc ?_ (by first | omega | (simp; done) | (simp <;> omega)) _ | refine Below.trans ?_ (Below.mono (by assumption) (by first | omega | (simp; done) | (simp <;> omega))))); done))))
    clear hb; go_split_ands
    go_wp2_with fail
    go_region_held3 (fun w' => (((w').cell? ⟨w.heap.size, 0, none⟩ = some (.int .i64 s) ∧ (w').cell? ⟨w.heap.size, 1, none⟩ = some (.int .i64 d) ∧ (w').cell? ⟨w.heap.size, 2, none⟩ = some (.int .i64 p) ∧ (w').cell? ⟨w.heap.size, 3, none⟩ = some (.int .u32 r) ∧ (∀ o, (w').frozen? ⟨w.heap.size, o, none⟩ = false)) ∧ ((w').cell? ⟨w.heap.size + 1, 0, none⟩ = some (.int .i64 o) ∧ (w').cell? ⟨w.heap.size + 1, 1, none⟩ = some (.int .i64 dd) ∧ (w').cell? ⟨w.heap.size + 1, 2, none⟩ = some (.int .i64 dp) ∧ (w').cell? ⟨w.heap.size + 1, 3, none⟩ = some (.int .i64 a) ∧ (∀ o, (w').frozen? ⟨w.heap.size + 1, o, none⟩ = false)) ∧ ((w').cell? ⟨w1.heap.size, 0, none⟩ = some (.int .i64 0) ∧ (w').cell? ⟨w1.heap.size, 1, none⟩ = some (.int .i64 4) ∧ (w').cell? ⟨w1.heap.size, 2, none⟩ = some (.int .i64 4) ∧ (w').cell? ⟨w1.heap.size, 3, none⟩ = some (.int .i64 s) ∧ (w').cell? ⟨w1.heap.size, 4, none⟩ = some (.int .i64 0) ∧ (w').cell? ⟨w1.heap.size, 5, none⟩ = some (.int .i64 0) ∧ (w').cell? ⟨w1.heap.size, 6, none⟩ = some (.int .u32 A) ∧ (w').cell? ⟨w1.heap.size, 7, none⟩ = some (.int .u32 B) ∧ (w').cell? ⟨w1.heap.size, 8, none⟩ = some (.int .u32 r) ∧ (w').cell? ⟨w1.heap.size, 9, none⟩ = some (.int .u64 0) ∧ (w').cell? ⟨w1.heap.size, 10, none⟩ = some (.int .u64 0) ∧ (w').cell? ⟨w1.heap.size, 11, none⟩ = some (.int .u64 0) ∧ (w').cell? ⟨w1.heap.size, 12, none⟩ = some (.int .u64 0)) ∧ w.heap.size < (w').heap.size ∧ w.heap.size + 1 < (w').heap.size ∧ w1.heap.size < (w').heap.size ∧ Below w.heap.size w (w'))) ((go_split_ands; (repeat' apply And.intro) <;> first | assumption | (refine kept_cell hb ?_ ?_ <;> first | assumption | omega | (dsimp only; omega) | (simp <;> omega) | (simp [go_sem, *]; done)) | (refine kept_frozen hb ?_ ?_ <;> first | assumption | omega | (intro o; simp [go_sem, *]; done) | (dsimp only; omega) | (simp <;> omega)) | (intro o; simp [go_sem, *]; done) | (simp [go_sem, *]; done) | (simp <;> omega) | (have hq := hb.size; omega) | (have hq := hb.size; simp at hq; omega) | ((repeat (first | assumption | exact Below.refl _ _ | refine Below.drew ?_ | refine below_drewN ?_ _ | refine Below.setCell ?_ (by first | omega | (simp; done) | (simp <;> omega)) _ | refine Below.alloc ?_ (by first | omega | (simp; done) | (simp <;> omega)) _ | refine Below.trans ?_ (Below.mono (by assumption) (by first | omega | (simp; done) | (simp <;> omega))))); done))) (first | (go_at_call 21; ((with_reducible refine (nchk_any _ _ _ _ _ _ _ _ _ _ _ _ _ _).mono ?_); rintro e w1 ⟨rfl, hb⟩)) | (go_at_call 22; ((with_reducible refine (long_any _ _ a1 a2).mono ?_); rintro e w1 ⟨rfl, rfl⟩)) | (go_at_call 22; ((with_reducible refine (long_any _ _ b1 b2).mono ?_); rintro e w1 ⟨rfl, rfl⟩)))
    go_split_ands
    go_wp2_with fail
    refine (C2.out _).mono ?_
    rintro e w3 ⟨rfl, hb⟩
    (have hS : (((w3).cell? ⟨w.heap.size, 0, none⟩ = some (.int .i64 s) ∧ (w3).cell? ⟨w.heap.size, 1, none⟩ = some (.int .i64 d) ∧ (w3).cell? ⟨w.heap.size, 2, none⟩ = some (.int .i64 p) ∧ (w3).cell? ⟨w.heap.size, 3, none⟩ = some (.int .u32 r) ∧ (∀ o, (w3).frozen? ⟨w.heap.size, o, none⟩ = false)) ∧ ((w3).cell? ⟨w.heap.size + 1, 0, none⟩ = some (.int .i64 o) ∧ (w3).cell? ⟨w.heap.size + 1, 1, none⟩ = some (.int .i64 dd) ∧ (w3).cell? ⟨w.heap.size + 1, 2, none⟩ = some (.int .i64 dp) ∧ (w3).cell? ⟨w.heap.size + 1, 3, none⟩ = some (.int .i64 a) ∧ (∀ o, (w3).frozen? ⟨w.heap.size + 1, o, none⟩ = false)) ∧ w.heap.size < (w3).heap.size ∧ w.heap.size + 1 < (w3).heap.size ∧ Below w.heap.size w (w3)) := by ((go_split_ands; (repeat' apply And.intro) <;> first | assumption | (refine kept_cell hb ?_ ?_ <;> first | assumption | omega | (dsimp only; omega) | (simp <;> omega) | (simp [go_sem, *]; done)) | (refine kept_frozen hb ?_ ?_ <;> first | assumption | omega | (intro o; simp [go_sem, *]; done) | (dsimp only; omega) | (simp <;> omega)) | (intro o; simp [go_sem, *]; done) | (simp [go_sem, *]; done) | (simp <;> omega) | (have hq := hb.size; omega) | (have hq := hb.size; simp at hq; omega) | ((repeat (first | assumption | exact Below.refl _ _ | refine Below.drew ?_ | refine below_drewN ?_ _ | refine Below.setCell ?_ (by first | omega | (simp; done) | (simp <;> omega)) _ | refine Below.alloc ?_ (by first | omega | (simp; done) | (simp <;> omega)) _ | refine Below.trans ?_ (Below.mono (by assumption) (by first | omega | (simp; done) | (simp <;> omega))))); done))))
    clear hb; go_split_ands
    go_wp2_with fail
    have s1 : IntKind.i64.wrap (s + 1) = s + 1 := IntWalk.i64_in _ (by omega)
    go_region_held3 (fun w' => (((w').cell? ⟨w.heap.size, 0, none⟩ = some (.int .i64 s) ∧ (w').cell? ⟨w.heap.size, 1, none⟩ = some (.int .i64 d) ∧ (w').cell? ⟨w.heap.size, 2, none⟩ = some (.int .i64 p) ∧ (w').cell? ⟨w.heap.size, 3, none⟩ = some (.int .u32 r) ∧ (∀ o, (w').frozen? ⟨w.heap.size, o, none⟩ = false)) ∧ ((w').cell? ⟨w3.heap.size, 0, none⟩ = some (.int .i64 (s + 1)) ∧ (w').cell? ⟨w3.heap.size, 1, none⟩ = some (.int .i64 D) ∧ (w').cell? ⟨w3.heap.size, 2, none⟩ = some (.int .i64 P) ∧ (w').cell? ⟨w3.heap.size, 3, none⟩ = some (.int .u32 self) ∧ (∀ o, (w').frozen? ⟨w3.heap.size, o, none⟩ = false)) ∧ w.heap.size < (w').heap.size ∧ w.heap.size + 1 < (w').heap.size ∧ w3.heap.size < (w').heap.size ∧ Below w.heap.size w (w'))) ((go_split_ands; (repeat' apply And.intro) <;> first | assumption | (refine kept_cell hb ?_ ?_ <;> first | assumption | omega | (dsimp only; omega) | (simp <;> omega) | (simp [go_sem, *]; done)) | (refine kept_frozen hb ?_ ?_ <;> first | assumption | omega | (intro o; simp [go_sem, *]; done) | (dsimp only; omega) | (simp <;> omega)) | (intro o; simp [go_sem, *]; done) | (simp [go_sem, *]; done) | (simp <;> omega) | (have hq := hb.size; omega) | (have hq := hb.size; simp at hq; omega) | ((repeat (first | assumption | exact Below.refl _ _ | refine Below.drew ?_ | refine below_drewN ?_ _ | refine Below.setCell ?_ (by first | omega | (simp; done) | (simp <;> omega)) _ | refine Below.alloc ?_ (by first | omega | (simp; done) | (simp <;> omega)) _ | refine Below.trans ?_ (Below.mono (by assumption) (by first | omega | (simp; done) | (simp <;> omega))))); done))) (first | (go_at_call 11; ((with_reducible refine (better_any _ _ _ _ _ _ _ _ _).mono ?_); rintro e w1 ⟨rfl, hb⟩)) | (go_at_call 14; ((with_reducible refine (distance_any _ _ _ _ _).mono ?_); rintro e w1 ⟨rfl, hb⟩)) | (go_at_call 10; ((with_reducible refine (awake_any _).mono ?_); rintro e w1 ⟨rfl, hb⟩)))
    go_split_ands
    go_wp2
    go_ret
    exact ⟨rfl, by (repeat (first | assumption | exact Below.refl _ _ | refine Below.drew ?_ | refine below_drewN ?_ _ | refine Below.setCell ?_ (by first | omega | (simp; done) | (simp <;> omega)) _ | refine Below.alloc ?_ (by first | omega | (simp; done) | (simp <;> omega)) _ | refine Below.trans ?_ (Below.mono (by assumption) (by first | omega | (simp; done) | (simp <;> omega)))))⟩
theorem fieldsErr_ok {s d p : Int} (h : fieldsErr s d p = 0) : chk s d p = 0 ∧ shortErr d = 0 ∧ shortErr p = 0 := by
  unfold fieldsErr at h
  split at h
  · rename_i h'; exact ⟨h'.1, h'.2, h⟩
  · omega
theorem followsLaw (s d p r o dd dp a self : Int) (w : World) :
    Calls Try.prog 7 #[root s d p r, samp o dd dp a, .int .u32 self] w fun e w' => e = .returned (.bool true) ∧ Below w.heap.size w w' := by
  by_cases h : fieldsErr s d p = 0
  · by_cases hs : 15 < s
    · exact follows_far s d p r o dd dp a self w h hs
    · obtain ⟨h1, h2, h3⟩ := fieldsErr_ok h
      obtain ⟨k1, k2, k3, k4, k5, k6⟩ := chk_ok h1
      obtain ⟨_, a1, a2, a3⟩ := shortErr_ok h2
      obtain ⟨_, b1, b2, b3⟩ := shortErr_ok h3
      refine follows_core s d p r (shortN d) (shortN p) (joinErr 0 4 4 s 0 0 (shortN d) (shortN p) o dd dp a) (longN (shortN d) + dd) (longN (shortN p) + dp + max o (-o)) o dd dp a self w (by omega) k1 a1 a2 b1 b2 a3 b3
        (Lib.hid (fun w => fields_ok h w)) (Lib.hid (fun w => join_any 0 4 4 s 0 0 (shortN d) (shortN p) r 0 0 0 0 o dd dp a self w a1 a2 b1 b2)) ?_
      by_cases hE : joinErr 0 4 4 s 0 0 (shortN d) (shortN p) o dd dp a = 0
      · right
        have hE' := hE
        unfold joinErr at hE
        split at hE
        · rename_i hc
          split at hE
          · have hk := chk_ok hE
            have hsc := schk_ok hc.2
            refine ⟨by simp [hE'], hE', ?_, ?_⟩
            · unfold better
              rw [if_pos ⟨hE, h1⟩, if_neg (by omega)]
              exact decide_eq_false (by omega)
            · unfold dist
              rw [if_pos h1, if_pos hE]
              omega
          · omega
        · omega
      · left; simpa using hE
  · exact follows_no s d p r o dd dp a self w h
theorem cellsRoot : Try.prog.cellsOf 24 = 4 := by kernel_rfl
theorem cellsSamp : Try.prog.cellsOf 39 = 4 := by kernel_rfl
namespace lawFollows
set_option maxRecDepth 100000 in
theorem lifted (os : Os) (started : os.Started) (H : Type) (enc : TypeId × Value → H) :
    ReturnsInHanded {} Try.checked os 7 .any (Rows.rootFollowsSpec.pre6 enc Try.prog Try.f7 Rows.rootFollowsRow.domain false) (Rows.rootFollowsSpec.post enc Try.prog Try.f7 false true false false) := by
  refine returnsInHanded_of_change (C := Try.checked) own started (by kernel_rfl) Try.func7
    (ChangeSpec.witness6 (enc := enc) (C := Try.checked) false ⟨#[], #[root 0 0 0 0, samp 0 0 0 0, .int .u32 0], []⟩ 8 (by kernel_rfl) (by kernel_rfl) (by kernel_rfl) (by kernel_rfl)) ?_
  intro W base args ds gs before hval0 hW hcnd _
  have hval : ∀ (j : Nat) t v, Try.f7.params[j]? = some t → args[j]? = some v → Value.okWide Try.prog W .any base t v := hval0
  have hW' := hW
  obtain ⟨p, q, hA0, hV, rfl, hfz, hnd⟩ := hW
  have hA : DataW.TrodAll enc Try.prog W 0 (fun _ => true) true Try.f7.params.toList args.toList ds p := hA0
  rw [Try.params7] at hA hval
  obtain ⟨rfl, rfl⟩ := trodVars_none hV
  obtain ⟨v0, v1, v2, d0, d1, d2, p0, p1, p2, rfl, rfl, rfl, h0, h1, h2⟩ := trodAll_three hA
  obtain ⟨c0, c1, c2, c3, y0, y1, y2, y3, m, rfl, rfl, rfl, hy0, hy1, hy2, hy3⟩ := open_agg4 Try.underlying24 (by kernel_rfl) cellsRoot (hval 0 24 v0 rfl rfl) h0
  obtain ⟨s, e0, e0', wf_s⟩ := DataW.trod_int Try.underlying3 hy0
  obtain ⟨d, e1, e1', wf_d⟩ := DataW.trod_int Try.underlying3 hy1
  obtain ⟨p, e2, e2', wf_p⟩ := DataW.trod_int Try.underlying3 hy2
  obtain ⟨r, e3, e3', wf_r⟩ := DataW.trod_int Try.underlying22 hy3
  simp at e0 e1 e2 e3
  subst e0 e1 e2 e3
  obtain ⟨c0, c1, c2, c3, y0, y1, y2, y3, m, rfl, rfl, rfl, hy0, hy1, hy2, hy3⟩ := open_agg4 Try.underlying39 (by kernel_rfl) cellsSamp (hval 1 39 v1 rfl rfl) h1
  obtain ⟨o, e0, e0', wf_o⟩ := DataW.trod_int Try.underlying3 hy0
  obtain ⟨dd, e1, e1', wf_dd⟩ := DataW.trod_int Try.underlying3 hy1
  obtain ⟨dp, e2, e2', wf_dp⟩ := DataW.trod_int Try.underlying3 hy2
  obtain ⟨a, e3, e3', wf_a⟩ := DataW.trod_int Try.underlying3 hy3
  simp at e0 e1 e2 e3
  subst e0 e1 e2 e3
  obtain ⟨self, rfl, rfl, rfl, wf_self⟩ := open_int Try.underlying22 (hval 2 22 v2 rfl rfl) h2
  refine (followsLaw s d p r o dd dp a self W).mono fun e W' ⟨he, hb⟩ => ?_
  subst he
  revert hb
  simp only [List.append_nil] at hW'
  intro hb
  exact ⟨_, rfl, law_post (tb := 4) laidOut Try.underlying4 rfl (by rw [Try.params7]; intro t ht; revert ht; revert t; exact of_decide_eq_true (by kernel_rfl)) rfl rfl rfl rfl hW' hb⟩
theorem over : Rows.rootFollowsRow.holds Try.pinned (OpenSpec.ofChange Rows.rootFollowsSpec) :=
  OpenClaim.holds_of_wide 7 Try.f7 rfl rfl rfl rfl rfl rfl rfl ⟨rfl, rfl, rfl, rfl, rfl⟩ rfl rfl rfl rfl rfl (by kernel_rfl) Try.func7 (by kernel_rfl)
    (of_decide_eq_true (by kernel_rfl)) (by unfold Func.isWrapper; first | (rw [if_pos (by decide +kernel)]; kernel_rfl) | (rw [if_neg (by decide +kernel)]; exact ⟨rfl, rfl⟩))
    (fun os started H enc _ => lifted os started H enc)
theorem proved : Rows.RootFollowsSaid :=
  over
#print axioms proved
end lawFollows
end Go.Proofs.Ytofgebmmgblkfaa
