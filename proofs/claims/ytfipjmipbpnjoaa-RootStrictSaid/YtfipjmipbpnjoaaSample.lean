/- What fixed.Clamp, sample.Check, ntpmsg.Check, ntpmsg.Synced and stamp.Long compute. -/
import Derived.Test.YtfipjmipbpnjoaaRoot
namespace Go.Proofs.Ytfipjmipbpnjoaa
open Go.RowKit
set_option linter.unusedSimpArgs false
set_option linter.unusedVariables false
set_option maxRecDepth 100000
def clampI (n lo hi : Int) : Int := if n < lo then lo else if hi < n then hi else n
set_option maxHeartbeats 400000 in
theorem clamp_any (n lo hi : Int) (w : World) :
    Calls Try.prog 18 #[.int .i64 n, .int .i64 lo, .int .i64 hi] w fun e w' => e = .returned (.int .i64 (clampI n lo hi)) ∧ w = w' := by
  have HD : Hid (clampI n lo hi = if n < lo then lo else if hi < n then hi else n) := rfl
  go_enter Try.func18, Try.ntmps18
  go_wp2
  all_goals
    go_ret
    refine ⟨ret_int ?_, rfl⟩
    rw [HD.out]; first | (simp [*]; done) | (split <;> (try split) <;> omega)
def schk (o d p a : Int) : Int := if -4503599627370496 ≤ o ∧ o ≤ 4503599627370496 ∧ 0 ≤ d ∧ d ≤ 9007199254740992 ∧ 0 ≤ p ∧ p ≤ 9007199254740992 ∧ -4503599627370496 ≤ a ∧ a ≤ 4503599627370496 then 0 else 3
abbrev samp (o d p a : Int) : Value := .agg #[.int .i64 o, .int .i64 d, .int .i64 p, .int .i64 a]
theorem clamp_ne (n lo hi : Int) (h : lo ≤ hi) : clampI n lo hi = n ↔ lo ≤ n ∧ n ≤ hi := by unfold clampI; split <;> (try split) <;> omega
set_option maxHeartbeats 1000000 in
theorem schk_any (o d p a : Int) (w : World) :
    Calls Try.prog 14 #[samp o d p a] w fun e w' => e = .returned (.int .i64 (schk o d p a)) ∧ Below w.heap.size w w' := by
  go_enter Try.func14, Try.ntmps14
  go_wp2_with fail
  go_region_held3 (fun w' => (((w').cell? ⟨w.heap.size, 0, none⟩ = some (.int .i64 o) ∧ (w').cell? ⟨w.heap.size, 1, none⟩ = some (.int .i64 d) ∧ (w').cell? ⟨w.heap.size, 2, none⟩ = some (.int .i64 p) ∧ (w').cell? ⟨w.heap.size, 3, none⟩ = some (.int .i64 a) ∧ (∀ o, (w').frozen? ⟨w.heap.size, o, none⟩ = false)) ∧ w.heap.size < (w').heap.size ∧ Below w.heap.size w (w'))) ((go_split_ands; (repeat' apply And.intro) <;> first | assumption | (refine kept_cell hb ?_ ?_ <;> first | assumption | omega | (dsimp only; omega) | (simp <;> omega) | (simp [go_sem, *]; done)) | (refine kept_frozen hb ?_ ?_ <;> first | assumption | omega | (intro o; simp [go_sem, *]; done) | (dsimp only; omega) | (simp <;> omega)) | (intro o; simp [go_sem, *]; done) | (simp [go_sem, *]; done) | (simp <;> omega) | (have hq := hb.size; omega) | (have hq := hb.size; simp at hq; omega) | ((repeat (first | assumption | exact Below.refl _ _ | refine Below.drew ?_ | refine below_drewN ?_ _ | refine Below.setCell ?_ (by first | omega | (simp; done) | (simp <;> omega)) _ | refine Below.alloc ?_ (by first | omega | (simp; done) | (simp <;> omega)) _ | refine Below.trans ?_ (Below.mono (by assumption) (by first | omega | (simp; done) | (simp <;> omega))))); done))) (first | (go_at_call 18; ((with_reducible refine (clamp_any _ _ _ _).mono ?_); rintro e w1 ⟨rfl, rfl⟩)))
  all_goals
    go_split_ands
    go_wp2
  all_goals
    go_ret
    refine ⟨ret_int ?_, by (repeat (first | assumption | exact Below.refl _ _ | refine Below.drew ?_ | refine below_drewN ?_ _ | refine Below.setCell ?_ (by first | omega | (simp; done) | (simp <;> omega)) _ | refine Below.alloc ?_ (by first | omega | (simp; done) | (simp <;> omega)) _ | refine Below.trans ?_ (Below.mono (by assumption) (by first | omega | (simp; done) | (simp <;> omega)))))⟩
    unfold schk
    simp only [bne, Bool.and_eq_true, Bool.not_eq_true', beq_iff_eq, Bool.not_eq_false', clamp_ne _ _ _ (show (-4503599627370496 : Int) ≤ 4503599627370496 by decide), clamp_ne _ _ _ (show (0 : Int) ≤ 9007199254740992 by decide)] at *
    simp_all <;> omega
abbrev ntp (l v m st po pr rd rp id ref org rec xmt : Int) : Value := .agg #[.int .i64 l, .int .i64 v, .int .i64 m, .int .i64 st, .int .i64 po, .int .i64 pr, .int .u32 rd, .int .u32 rp, .int .u32 id, .int .u64 ref, .int .u64 org, .int .u64 rec, .int .u64 xmt]
def nchk (l v m st po pr : Int) : Int := if 0 ≤ l ∧ l ≤ 3 ∧ 1 ≤ v ∧ v ≤ 4 ∧ 0 ≤ m ∧ m ≤ 7 ∧ 0 ≤ st ∧ st ≤ 255 ∧ -128 ≤ po ∧ po ≤ 127 ∧ -128 ≤ pr ∧ pr ≤ 127 then 0 else 3
set_option maxHeartbeats 400000 in
theorem within_any (n lo hi : Int) (w : World) :
    Calls Try.prog 17 #[.int .i64 n, .int .i64 lo, .int .i64 hi] w fun e w' => e = .returned (.bool (decide (lo ≤ n ∧ n ≤ hi))) ∧ w = w' := by
  by_cases h1 : lo ≤ n <;> by_cases h2 : n ≤ hi
  all_goals
    go_enter Try.func17, Try.ntmps17
    go_wp2
    go_ret
    exact ⟨by simp [*], rfl⟩
set_option maxHeartbeats 1000000 in
theorem nchk_any (l v m st po pr rd rp id ref org rec xmt : Int) (w : World) :
    Calls Try.prog 13 #[ntp l v m st po pr rd rp id ref org rec xmt] w fun e w' => e = .returned (.int .i64 (nchk l v m st po pr)) ∧ Below w.heap.size w w' := by
  go_enter Try.func13, Try.ntmps13
  go_wp2_with (first | (go_at_call 17; ((with_reducible refine (within_any _ _ _ _).mono ?_); rintro e w1 ⟨rfl, rfl⟩)))
  all_goals
    go_ret
    refine ⟨ret_int ?_, by (repeat (first | assumption | exact Below.refl _ _ | refine Below.drew ?_ | refine below_drewN ?_ _ | refine Below.setCell ?_ (by first | omega | (simp; done) | (simp <;> omega)) _ | refine Below.alloc ?_ (by first | omega | (simp; done) | (simp <;> omega)) _ | refine Below.trans ?_ (Below.mono (by assumption) (by first | omega | (simp; done) | (simp <;> omega)))))⟩
    unfold nchk
    simp_all <;> omega
end Go.Proofs.Ytfipjmipbpnjoaa
