/- The jar of cookies: New, Rotate, Generation of both; numbers appended. -/
import Derived.Test.YtkgpeddncpdjjaaDoorCkF
namespace Go.Proofs.YtkgpeddncpdjjaaDoor
open Go.RowKit
set_option linter.unusedSimpArgs false
set_option linter.unusedVariables false
set_option maxRecDepth 100000
set_option maxHeartbeats 1000000 in
theorem new_some (s k : Int) (w : World) (h1 : 1 ≤ k) (h8 : k ≤ 8) :
    Calls Tryd.prog 18 #[.int .u64 s, .int .i64 k] w fun e w' => e = .returned (.pointer (some ⟨w.heap.size, 0, none⟩)) ∧ Blk w' w.heap.size 50 (jarL s k 1) ∧ Below w.heap.size w w' := by
  have d1 : decide (k < 1) = false := decide_eq_false (by omega)
  have d2 : decide (8 < k) = false := decide_eq_false (by omega)
  clear h1 h8
  go_enter Tryd.func18, Tryd.ntmps18
  go_wp2_with (first | (refine wpl_box (by rfl) 50 _ (by rfl) _ (jarL s k 1) (by rfl) rfl ?_; intro w1 J1 s1 b1))
  go_ret
  exact ⟨rfl, J1, b1⟩
set_option maxHeartbeats 1000000 in
theorem new_none (s k : Int) (w : World) (h : ¬(1 ≤ k ∧ k ≤ 8)) :
    Calls Tryd.prog 18 #[.int .u64 s, .int .i64 k] w fun e w' => e = .returned (.pointer none) ∧ w = w' := by
  by_cases h1 : k < 1
  · have d1 : decide (k < 1) = true := decide_eq_true h1
    clear h1 h
    go_enter Tryd.func18, Tryd.ntmps18
    go_wp2
    go_ret
    exact ⟨rfl, rfl⟩
  · have d1 : decide (k < 1) = false := decide_eq_false h1
    have d2 : decide (8 < k) = true := decide_eq_true (by omega)
    clear h1 h
    go_enter Tryd.func18, Tryd.ntmps18
    go_wp2
    go_ret
    exact ⟨rfl, rfl⟩
set_option maxHeartbeats 1000000 in
theorem rot_nil (w : World) : Calls Tryd.prog 19 #[.pointer none] w fun e w' => e = .returned (.int .i64 1) ∧ w = w' := by
  go_enter Tryd.func19, Tryd.ntmps19
  go_wp2
  go_ret
  exact ⟨rfl, rfl⟩
set_option maxHeartbeats 1000000 in
theorem rot_ok (bj : Nat) (s k g : Int) (w : World) (hJ : Blk w bj 50 (jarL s k g)) (h0 : 0 ≤ g) (h1 : g < 2147483647) :
    Calls Tryd.prog 19 #[.pointer (some ⟨bj, 0, none⟩)] w fun e w' => e = .returned (.int .i64 0) ∧ Blk w' bj 50 (jarL s k (g + 1)) ∧ But bj w w' := by
  have d : decide (2147483647 ≤ g) = false := decide_eq_false (by omega)
  have e1 : IntKind.i64.wrap (g + 1) = g + 1 := by rw [IntKind.wrap_i64]; omega
  clear h0 h1
  go_enter Tryd.func19, Tryd.ntmps19
  go_wp2_with (first
    | (refine wpl_loadf (by rfl) 3 _ (by rfl) bj 2 (by rfl) _ _ hJ _ rfl _ Tryd.underlying3 rfl ?_)
    | (refine wpl_storeg (by rfl) 3 _ _ (by rfl) bj 2 (by rfl) (.int .i64 (g + 1)) (by rfl) (by rfl) (by simp [Value.oneCell']) _ _ (jarL s k (g + 1)) hJ (by simp) sizeI64' (by rfl) ?_; intro w1 J1 s1 g1))
  go_ret
  exact ⟨rfl, J1, g1⟩
set_option maxHeartbeats 1000000 in
theorem gen_nil (w : World) : Calls Tryd.prog 13 #[.pointer none] w fun e w' => e = .returned (.int .i64 0) ∧ w = w' := by
  go_enter Tryd.func13, Tryd.ntmps13
  go_wp2
  go_ret
  exact ⟨rfl, rfl⟩
set_option maxHeartbeats 1000000 in
theorem gen_ok (bj : Nat) (s k g : Int) (w : World) (hJ : Blk w bj 50 (jarL s k g)) :
    Calls Tryd.prog 13 #[.pointer (some ⟨bj, 0, none⟩)] w fun e w' => e = .returned (.int .i64 g) ∧ w = w' := by
  go_enter Tryd.func13, Tryd.ntmps13
  go_wp2_with (first | (refine wpl_loadf (by rfl) 3 _ (by rfl) bj 2 (by rfl) _ _ hJ _ rfl _ Tryd.underlying3 rfl ?_))
  go_ret
  exact ⟨rfl, rfl⟩
set_option maxHeartbeats 1000000 in
theorem rnew_some (s k : Int) (w : World) (h1 : 1 ≤ k) (h8 : k ≤ 8) :
    Calls Tryd.prog 21 #[.int .u64 s, .int .i64 k] w fun e w' => e = .returned (.pointer (some ⟨w.heap.size, 0, none⟩)) ∧ Blk w' w.heap.size 55 (jarL s k 1) ∧ Below w.heap.size w w' := by
  have d1 : decide (k < 1) = false := decide_eq_false (by omega)
  have d2 : decide (8 < k) = false := decide_eq_false (by omega)
  clear h1 h8
  go_enter Tryd.func21, Tryd.ntmps21
  go_wp2_with (first | (refine wpl_box (by rfl) 55 _ (by rfl) _ (jarL s k 1) (by rfl) rfl ?_; intro w1 J1 s1 b1))
  go_ret
  exact ⟨rfl, J1, b1⟩
set_option maxHeartbeats 1000000 in
theorem rnew_none (s k : Int) (w : World) (h : ¬(1 ≤ k ∧ k ≤ 8)) :
    Calls Tryd.prog 21 #[.int .u64 s, .int .i64 k] w fun e w' => e = .returned (.pointer none) ∧ w = w' := by
  by_cases h1 : k < 1
  · have d1 : decide (k < 1) = true := decide_eq_true h1
    clear h1 h
    go_enter Tryd.func21, Tryd.ntmps21
    go_wp2
    go_ret
    exact ⟨rfl, rfl⟩
  · have d1 : decide (k < 1) = false := decide_eq_false h1
    have d2 : decide (8 < k) = true := decide_eq_true (by omega)
    clear h1 h
    go_enter Tryd.func21, Tryd.ntmps21
    go_wp2
    go_ret
    exact ⟨rfl, rfl⟩
set_option maxHeartbeats 1000000 in
theorem rrot_nil (w : World) : Calls Tryd.prog 22 #[.pointer none] w fun e w' => e = .returned (.int .i64 1) ∧ w = w' := by
  go_enter Tryd.func22, Tryd.ntmps22
  go_wp2
  go_ret
  exact ⟨rfl, rfl⟩
set_option maxHeartbeats 1000000 in
theorem rrot_ok (bj : Nat) (s k g : Int) (w : World) (hJ : Blk w bj 55 (jarL s k g)) (h0 : 0 ≤ g) (h1 : g < 2147483647) :
    Calls Tryd.prog 22 #[.pointer (some ⟨bj, 0, none⟩)] w fun e w' => e = .returned (.int .i64 0) ∧ Blk w' bj 55 (jarL s k (g + 1)) ∧ But bj w w' := by
  have d : (g == 2147483647) = false := by simp; omega
  have e1 : IntKind.i64.wrap (g + 1) = g + 1 := by rw [IntKind.wrap_i64]; omega
  clear h0 h1
  go_enter Tryd.func22, Tryd.ntmps22
  go_wp2_with (first
    | (refine wpl_loadf (by rfl) 3 _ (by rfl) bj 2 (by rfl) _ _ hJ _ rfl _ Tryd.underlying3 rfl ?_)
    | (refine wpl_storeg (by rfl) 3 _ _ (by rfl) bj 2 (by rfl) (.int .i64 (g + 1)) (by rfl) (by rfl) (by simp [Value.oneCell']) _ _ (jarL s k (g + 1)) hJ (by simp) sizeI64' (by rfl) ?_; intro w1 J1 s1 g1))
  go_ret
  exact ⟨rfl, J1, g1⟩
set_option maxHeartbeats 1000000 in
theorem rgen_nil (w : World) : Calls Tryd.prog 14 #[.pointer none] w fun e w' => e = .returned (.int .i64 0) ∧ w = w' := by
  go_enter Tryd.func14, Tryd.ntmps14
  go_wp2
  go_ret
  exact ⟨rfl, rfl⟩
set_option maxHeartbeats 1000000 in
theorem rgen_ok (bj : Nat) (s k g : Int) (w : World) (hJ : Blk w bj 55 (jarL s k g)) :
    Calls Tryd.prog 14 #[.pointer (some ⟨bj, 0, none⟩)] w fun e w' => e = .returned (.int .i64 g) ∧ w = w' := by
  go_enter Tryd.func14, Tryd.ntmps14
  go_wp2_with (first | (refine wpl_loadf (by rfl) 3 _ (by rfl) bj 2 (by rfl) _ _ hJ _ rfl _ Tryd.underlying3 rfl ?_))
  go_ret
  exact ⟨rfl, rfl⟩
end Go.Proofs.YtkgpeddncpdjjaaDoor
