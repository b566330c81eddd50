/- What stamp.Long, stamp.Short, ntpmsg.Synced, root.Primary, root.Join and root.Fields, and their references, compute. -/
import Derived.Test.YtfipjmipbpnjoaaRootGrow
import Derived.Test.YtfipjmipbpnjoaaSample
namespace Go.Proofs.Ytfipjmipbpnjoaa
open Go.RowKit
set_option linter.unusedSimpArgs false
set_option linter.unusedVariables false
set_option maxRecDepth 100000
def longN (s : Int) : Int := (s * 1000000000 + 65535) / 65536
set_option maxHeartbeats 400000 in
theorem long_any (s : Int) (w : World) (h1 : 0 ≤ s) (h2 : s ≤ 4294967295) :
    Calls Try.prog 16 #[.int .u32 s] w fun e w' => e = .returned (.int .i64 (longN s)) ∧ w = w' := by
  go_enter Try.func16, Try.ntmps16
  go_wp2
  go_ret
  exact ⟨ret_int (by unfold longN; omega), rfl⟩
def syncB (l st : Int) : Bool := decide (l ≠ 3 ∧ 1 ≤ st ∧ st ≤ 15)
set_option maxHeartbeats 400000 in
theorem synced_any (l v m st po pr rd rp id ref org rec xmt : Int) (w : World) :
    Calls Try.prog 15 #[ntp l v m st po pr rd rp id ref org rec xmt] w fun e w' => e = .returned (.bool (syncB l st)) ∧ Below w.heap.size w w' := by
  have HD : Hid (syncB l st = decide (l ≠ 3 ∧ 1 ≤ st ∧ st ≤ 15)) := rfl
  rw [HD.out]
  by_cases h0 : l = 3
  · subst h0
    go_enter Try.func15, Try.ntmps15
    go_wp2_with (first | (go_at_call 17; ((with_reducible refine (within_any _ _ _ _).mono ?_); rintro e w1 ⟨rfl, rfl⟩)))
    go_ret
    exact ⟨ret_bool (by simp), by (repeat (first | assumption | exact Below.refl _ _ | refine Below.drew ?_ | refine below_drewN ?_ _ | refine Below.setCell ?_ (by first | omega | (simp; done) | (simp <;> omega)) _ | refine Below.alloc ?_ (by first | omega | (simp; done) | (simp <;> omega)) _ | refine Below.trans ?_ (Below.mono (by assumption) (by first | omega | (simp; done) | (simp <;> omega)))))⟩
  · have h1 : (l != 3) = true := by simpa using h0
    have H0 := Lib.hid h0
    clear h0
    go_enter Try.func15, Try.ntmps15
    go_wp2_with (first | (go_at_call 17; ((with_reducible refine (within_any _ _ _ _).mono ?_); rintro e w1 ⟨rfl, rfl⟩)))
    go_ret
    exact ⟨ret_bool (by simp [H0.out]), by (repeat (first | assumption | exact Below.refl _ _ | refine Below.drew ?_ | refine below_drewN ?_ _ | refine Below.setCell ?_ (by first | omega | (simp; done) | (simp <;> omega)) _ | refine Below.alloc ?_ (by first | omega | (simp; done) | (simp <;> omega)) _ | refine Below.trans ?_ (Below.mono (by assumption) (by first | omega | (simp; done) | (simp <;> omega)))))⟩
set_option maxHeartbeats 400000 in
theorem primary_any (p r : Int) (w : World) :
    Calls Try.prog 9 #[.int .i64 p, .int .u32 r] w fun e w' => e = .returned (.tuple #[rootOr (chk 1 0 p) 1 0 p r, .int .i64 (chk 1 0 p)]) ∧ Below w.heap.size w w' := by
  go_enter Try.func9, Try.ntmps9
  go_wp2_with (first | (go_at_call 12; ((with_reducible refine (checked_any _ _ _ _ _).mono ?_); rintro e w1 ⟨rfl, hb⟩; obtain ⟨hc, hf⟩ := bcell hb; have hz := hb.size; try simp at hz; (try have hz0 : w.heap.size < w1.heap.size := by omega); (try have hz1 : w.heap.size + 1 < w1.heap.size := by omega); (try have hz2 : w.heap.size + 2 < w1.heap.size := by omega); (try have hz3 : w.heap.size + 3 < w1.heap.size := by omega); (try have hz4 : w.heap.size + 4 < w1.heap.size := by omega); (try have hz5 : w.heap.size + 5 < w1.heap.size := by omega))))
  refine bodyPost_ret (v := .tuple #[rootOr (chk 1 0 p) 1 0 p r, .int .i64 (chk 1 0 p)]) (by simp [results, Try.results9, go_sem, *]) rfl ⟨rfl, ?_⟩
  (repeat (first | assumption | exact Below.refl _ _ | refine Below.drew ?_ | refine below_drewN ?_ _ | refine Below.setCell ?_ (by first | omega | (simp; done) | (simp <;> omega)) _ | refine Below.alloc ?_ (by first | omega | (simp; done) | (simp <;> omega)) _ | refine Below.trans ?_ (Below.mono (by assumption) (by first | omega | (simp; done) | (simp <;> omega)))))
end Go.Proofs.Ytfipjmipbpnjoaa
