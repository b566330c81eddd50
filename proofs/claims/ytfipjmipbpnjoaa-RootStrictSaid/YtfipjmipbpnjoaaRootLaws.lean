/- The chapter's examples hold: the law's function awake returns true. -/
import Derived.Test.YtfipjmipbpnjoaaJoin
namespace Go.Proofs.Ytfipjmipbpnjoaa
open Go.RowKit
set_option linter.unusedSimpArgs false
set_option linter.unusedVariables false
set_option maxRecDepth 100000
theorem ex_prim : chk 1 0 5 = 0 := by decide
theorem ex_dist : dist 2 3 10 = 12 := by decide
theorem ex_grow : growErr 2 3 10 1000000001 1000 = 0 := by decide
theorem ex_inc : inc 1000000001 1000 = 1001 := by decide
theorem ex_join : joinErr 0 4 4 15 0 0 0 0 0 0 0 0 = 0 := by decide
theorem ex_join' : joinErr 0 4 4 16 0 0 0 0 0 0 0 0 = 15 := by decide
theorem ex_prim_any (w : World) :
    Calls Try.prog 9 #[.int .i64 5, .int .u32 7] w fun e w' => e = .returned (.tuple #[root 1 0 5 7, .int .i64 0]) ∧ Below w.heap.size w w' := by
  have h := primary_any 5 7 w
  rw [ex_prim] at h
  simp only [rootOr, z0_zero] at h
  exact h
theorem ex_grow_any (w : World) :
    Calls Try.prog 10 #[root 2 3 10 0, .int .i64 1000000001, .int .i64 1000] w fun e w' => e = .returned (.tuple #[root 2 3 1011 0, .int .i64 0]) ∧ Below w.heap.size w w' := by
  have h := grow_any 2 3 10 0 1000000001 1000 w
  rw [ex_grow, ex_inc] at h
  simp only [rootOr, z0_zero] at h
  exact h
theorem ex_dist_any (w : World) :
    Calls Try.prog 6 #[root 2 3 10 0] w fun e w' => e = .returned (.int .i64 12) ∧ Below w.heap.size w w' := by
  have h := distance_any 2 3 10 0 w
  rw [ex_dist] at h
  exact h
theorem ex_join_any (w : World) :
    Calls Try.prog 11 #[ntp 0 4 4 15 0 0 0 0 0 0 0 0 0, samp 0 0 0 0, .int .u32 9] w fun e w' => e = .returned (.tuple #[root 16 0 0 9, .int .i64 0]) ∧ Below w.heap.size w w' := by
  have h := join_any 0 4 4 15 0 0 0 0 0 0 0 0 0 0 0 0 0 9 w (by decide) (by decide) (by decide) (by decide)
  rw [ex_join] at h
  simp only [rootOr, z0_zero] at h
  exact h
theorem ex_join_no (w : World) :
    Calls Try.prog 11 #[ntp 0 4 4 16 0 0 0 0 0 0 0 0 0, samp 0 0 0 0, .int .u32 9] w fun e w' => e = .returned (.tuple #[root 0 0 0 0, .int .i64 15]) ∧ Below w.heap.size w w' := by
  have h := join_any 0 4 4 16 0 0 0 0 0 0 0 0 0 0 0 0 0 9 w (by decide) (by decide) (by decide) (by decide)
  rw [ex_join'] at h
  simp only [rootOr, z0, if_neg (show ¬ (15 : Int) = 0 by decide)] at h
  exact h
set_option maxHeartbeats 2000000 in
theorem awake_any (w : World) :
    Calls Try.prog 7 #[] w fun e w' => e = .returned (.bool true) ∧ Below w.heap.size w w' := by
  go_enter Try.func7, Try.ntmps7
  go_wp2_with fail
  refine (ex_prim_any _).mono ?_
  rintro e w1 ⟨rfl, hb⟩
  (have hS : (w.heap.size ≤ (w1).heap.size ∧ Below w.heap.size w (w1)) := by ((go_split_ands; (repeat' apply And.intro) <;> first | assumption | (refine kept_cell hb ?_ ?_ <;> first | assumption | omega | (dsimp only; omega) | (simp <;> omega) | (simp [go_sem, *]; done)) | (refine kept_frozen hb ?_ ?_ <;> first | assumption | omega | (intro o; simp [go_sem, *]; done) | (dsimp only; omega) | (simp <;> omega)) | (intro o; simp [go_sem, *]; done) | (simp [go_sem, *]; done) | (simp <;> omega) | (have hq := hb.size; omega) | (have hq := hb.size; simp at hq; omega) | ((repeat (first | assumption | exact Below.refl _ _ | refine Below.drew ?_ | refine below_drewN ?_ _ | refine Below.setCell ?_ (by first | omega | (simp; done) | (simp <;> omega)) _ | refine Below.alloc ?_ (by first | omega | (simp; done) | (simp <;> omega)) _ | refine Below.trans ?_ (Below.mono (by assumption) (by first | omega | (simp; done) | (simp <;> omega))))); done))))
  clear hb; go_split_ands
  go_wp2_with fail
  refine (ex_grow_any _).mono ?_
  rintro e w2 ⟨rfl, hb⟩
  (have hS : (((w2).cell? ⟨w1.heap.size, 0, none⟩ = some (.int .i64 1) ∧ (w2).cell? ⟨w1.heap.size, 1, none⟩ = some (.int .i64 0) ∧ (w2).cell? ⟨w1.heap.size, 2, none⟩ = some (.int .i64 5) ∧ (w2).cell? ⟨w1.heap.size, 3, none⟩ = some (.int .u32 7) ∧ (∀ o, (w2).frozen? ⟨w1.heap.size, o, none⟩ = false)) ∧ w1.heap.size < (w2).heap.size ∧ Below w.heap.size w (w2)) := by ((go_split_ands; (repeat' apply And.intro) <;> first | assumption | (refine kept_cell hb ?_ ?_ <;> first | assumption | omega | (dsimp only; omega) | (simp <;> omega) | (simp [go_sem, *]; done)) | (refine kept_frozen hb ?_ ?_ <;> first | assumption | omega | (intro o; simp [go_sem, *]; done) | (dsimp only; omega) | (simp <;> omega)) | (intro o; simp [go_sem, *]; done) | (simp [go_sem, *]; done) | (simp <;> omega) | (have hq := hb.size; omega) | (have hq := hb.size; simp at hq; omega) | ((repeat (first | assumption | exact Below.refl _ _ | refine Below.drew ?_ | refine below_drewN ?_ _ | refine Below.setCell ?_ (by first | omega | (simp; done) | (simp <;> omega)) _ | refine Below.alloc ?_ (by first | omega | (simp; done) | (simp <;> omega)) _ | refine Below.trans ?_ (Below.mono (by assumption) (by first | omega | (simp; done) | (simp <;> omega))))); done))))
  clear hb; go_split_ands
  go_wp2_with fail
  refine (ex_join_any _).mono ?_
  rintro e w3 ⟨rfl, hb⟩
  (have hS : (((w3).cell? ⟨w1.heap.size, 0, none⟩ = some (.int .i64 1) ∧ (w3).cell? ⟨w1.heap.size, 1, none⟩ = some (.int .i64 0) ∧ (w3).cell? ⟨w1.heap.size, 2, none⟩ = some (.int .i64 5) ∧ (w3).cell? ⟨w1.heap.size, 3, none⟩ = some (.int .u32 7) ∧ (∀ o, (w3).frozen? ⟨w1.heap.size, o, none⟩ = false)) ∧ ((w3).cell? ⟨w2.heap.size, 0, none⟩ = some (.int .i64 2) ∧ (w3).cell? ⟨w2.heap.size, 1, none⟩ = some (.int .i64 3) ∧ (w3).cell? ⟨w2.heap.size, 2, none⟩ = some (.int .i64 1011) ∧ (w3).cell? ⟨w2.heap.size, 3, none⟩ = some (.int .u32 0) ∧ (∀ o, (w3).frozen? ⟨w2.heap.size, o, none⟩ = false)) ∧ w1.heap.size < (w3).heap.size ∧ w2.heap.size < (w3).heap.size ∧ Below w.heap.size w (w3)) := by ((go_split_ands; (repeat' apply And.intro) <;> first | assumption | (refine kept_cell hb ?_ ?_ <;> first | assumption | omega | (dsimp only; omega) | (simp <;> omega) | (simp [go_sem, *]; done)) | (refine kept_frozen hb ?_ ?_ <;> first | assumption | omega | (intro o; simp [go_sem, *]; done) | (dsimp only; omega) | (simp <;> omega)) | (intro o; simp [go_sem, *]; done) | (simp [go_sem, *]; done) | (simp <;> omega) | (have hq := hb.size; omega) | (have hq := hb.size; simp at hq; omega) | ((repeat (first | assumption | exact Below.refl _ _ | refine Below.drew ?_ | refine below_drewN ?_ _ | refine Below.setCell ?_ (by first | omega | (simp; done) | (simp <;> omega)) _ | refine Below.alloc ?_ (by first | omega | (simp; done) | (simp <;> omega)) _ | refine Below.trans ?_ (Below.mono (by assumption) (by first | omega | (simp; done) | (simp <;> omega))))); done))))
  clear hb; go_split_ands
  go_wp2_with fail
  refine (ex_join_no _).mono ?_
  rintro e w4 ⟨rfl, hb⟩
  (have hS : (((w4).cell? ⟨w1.heap.size, 0, none⟩ = some (.int .i64 1) ∧ (w4).cell? ⟨w1.heap.size, 1, none⟩ = some (.int .i64 0) ∧ (w4).cell? ⟨w1.heap.size, 2, none⟩ = some (.int .i64 5) ∧ (w4).cell? ⟨w1.heap.size, 3, none⟩ = some (.int .u32 7) ∧ (∀ o, (w4).frozen? ⟨w1.heap.size, o, none⟩ = false)) ∧ ((w4).cell? ⟨w2.heap.size, 0, none⟩ = some (.int .i64 2) ∧ (w4).cell? ⟨w2.heap.size, 1, none⟩ = some (.int .i64 3) ∧ (w4).cell? ⟨w2.heap.size, 2, none⟩ = some (.int .i64 1011) ∧ (w4).cell? ⟨w2.heap.size, 3, none⟩ = some (.int .u32 0) ∧ (∀ o, (w4).frozen? ⟨w2.heap.size, o, none⟩ = false)) ∧ ((w4).cell? ⟨w3.heap.size, 0, none⟩ = some (.int .i64 16) ∧ (w4).cell? ⟨w3.heap.size, 1, none⟩ = some (.int .i64 0) ∧ (w4).cell? ⟨w3.heap.size, 2, none⟩ = some (.int .i64 0) ∧ (w4).cell? ⟨w3.heap.size, 3, none⟩ = some (.int .u32 9) ∧ (∀ o, (w4).frozen? ⟨w3.heap.size, o, none⟩ = false)) ∧ w1.heap.size < (w4).heap.size ∧ w2.heap.size < (w4).heap.size ∧ w3.heap.size < (w4).heap.size ∧ Below w.heap.size w (w4)) := by ((go_split_ands; (repeat' apply And.intro) <;> first | assumption | (refine kept_cell hb ?_ ?_ <;> first | assumption | omega | (dsimp only; omega) | (simp <;> omega) | (simp [go_sem, *]; done)) | (refine kept_frozen hb ?_ ?_ <;> first | assumption | omega | (intro o; simp [go_sem, *]; done) | (dsimp only; omega) | (simp <;> omega)) | (intro o; simp [go_sem, *]; done) | (simp [go_sem, *]; done) | (simp <;> omega) | (have hq := hb.size; omega) | (have hq := hb.size; simp at hq; omega) | ((repeat (first | assumption | exact Below.refl _ _ | refine Below.drew ?_ | refine below_drewN ?_ _ | refine Below.setCell ?_ (by first | omega | (simp; done) | (simp <;> omega)) _ | refine Below.alloc ?_ (by first | omega | (simp; done) | (simp <;> omega)) _ | refine Below.trans ?_ (Below.mono (by assumption) (by first | omega | (simp; done) | (simp <;> omega))))); done))))
  clear hb; go_split_ands
  go_wp2_with fail
  refine (ex_dist_any _).mono ?_
  rintro e w5 ⟨rfl, hb⟩
  (have hS : (((w5).cell? ⟨w1.heap.size, 0, none⟩ = some (.int .i64 1) ∧ (w5).cell? ⟨w1.heap.size, 1, none⟩ = some (.int .i64 0) ∧ (w5).cell? ⟨w1.heap.size, 2, none⟩ = some (.int .i64 5) ∧ (w5).cell? ⟨w1.heap.size, 3, none⟩ = some (.int .u32 7) ∧ (∀ o, (w5).frozen? ⟨w1.heap.size, o, none⟩ = false)) ∧ ((w5).cell? ⟨w2.heap.size, 0, none⟩ = some (.int .i64 2) ∧ (w5).cell? ⟨w2.heap.size, 1, none⟩ = some (.int .i64 3) ∧ (w5).cell? ⟨w2.heap.size, 2, none⟩ = some (.int .i64 1011) ∧ (w5).cell? ⟨w2.heap.size, 3, none⟩ = some (.int .u32 0) ∧ (∀ o, (w5).frozen? ⟨w2.heap.size, o, none⟩ = false)) ∧ ((w5).cell? ⟨w3.heap.size, 0, none⟩ = some (.int .i64 16) ∧ (w5).cell? ⟨w3.heap.size, 1, none⟩ = some (.int .i64 0) ∧ (w5).cell? ⟨w3.heap.size, 2, none⟩ = some (.int .i64 0) ∧ (w5).cell? ⟨w3.heap.size, 3, none⟩ = some (.int .u32 9) ∧ (∀ o, (w5).frozen? ⟨w3.heap.size, o, none⟩ = false)) ∧ w1.heap.size < (w5).heap.size ∧ w2.heap.size < (w5).heap.size ∧ w3.heap.size < (w5).heap.size ∧ Below w.heap.size w (w5)) := by ((go_split_ands; (repeat' apply And.intro) <;> first | assumption | (refine kept_cell hb ?_ ?_ <;> first | assumption | omega | (dsimp only; omega) | (simp <;> omega) | (simp [go_sem, *]; done)) | (refine kept_frozen hb ?_ ?_ <;> first | assumption | omega | (intro o; simp [go_sem, *]; done) | (dsimp only; omega) | (simp <;> omega)) | (intro o; simp [go_sem, *]; done) | (simp [go_sem, *]; done) | (simp <;> omega) | (have hq := hb.size; omega) | (have hq := hb.size; simp at hq; omega) | ((repeat (first | assumption | exact Below.refl _ _ | refine Below.drew ?_ | refine below_drewN ?_ _ | refine Below.setCell ?_ (by first | omega | (simp; done) | (simp <;> omega)) _ | refine Below.alloc ?_ (by first | omega | (simp; done) | (simp <;> omega)) _ | refine Below.trans ?_ (Below.mono (by assumption) (by first | omega | (simp; done) | (simp <;> omega))))); done))))
  clear hb; go_split_ands
  go_wp2
  go_ret
  exact ⟨rfl, by (repeat (first | assumption | exact Below.refl _ _ | refine Below.drew ?_ | refine below_drewN ?_ _ | refine Below.setCell ?_ (by first | omega | (simp; done) | (simp <;> omega)) _ | refine Below.alloc ?_ (by first | omega | (simp; done) | (simp <;> omega)) _ | refine Below.trans ?_ (Below.mono (by assumption) (by first | omega | (simp; done) | (simp <;> omega)))))⟩
end Go.Proofs.Ytfipjmipbpnjoaa
