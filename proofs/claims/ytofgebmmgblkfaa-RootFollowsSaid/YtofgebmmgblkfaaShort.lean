/- What stamp.Long, stamp.Short, ntpmsg.Synced, root.Primary, root.Join and root.Fields, and their references, compute. -/
import Derived.Test.YtofgebmmgblkfaaRootGrow
import Derived.Test.YtofgebmmgblkfaaSample
namespace Go.Proofs.Ytofgebmmgblkfaa
open Go.RowKit
set_option linter.unusedSimpArgs false
set_option linter.unusedVariables false
def longN (s : Int) : Int := (s * 1000000000 + 65535) / 65536
set_option maxHeartbeats 400000 in
theorem long_any (s : Int) (w : World) (h1 : 0 ≤ s) (h2 : s ≤ 4294967295) :
    Calls Try.prog 22 #[.int .u32 s] w fun e w' => e = .returned (.int .i64 (longN s)) ∧ w = w' := by
  go_enter Try.func22, Try.ntmps22
  go_wp2
  go_ret
  exact ⟨ret_int (by unfold longN; omega), rfl⟩
def shortN (ns : Int) : Int := ns / 1000000000 * 65536 + (ns % 1000000000 * 65536 + 999999999) / 1000000000
def shortErr (ns : Int) : Int := if ns < 0 ∨ 4294967295 < shortN ns then 3 else 0
set_option maxHeartbeats 400000 in
theorem short_any (ns : Int) (w : World) (h1 : -9223372036854775808 ≤ ns) (h2 : ns ≤ 9223372036854775807) :
    Calls Try.prog 28 #[.int .i64 ns] w fun e w' => e = .returned (.tuple #[.int .u32 (z0 (shortErr ns) (shortN ns)), .int .i64 (shortErr ns)]) ∧ w = w' := by
  rcases (by omega : ns < 0 ∨ 0 ≤ ns) with h | h
  · have HE : Hid (shortErr ns = 3) := by show shortErr ns = 3; simp [shortErr, h]
    rw [HE.out, z0_three]
    go_enter Try.func28, Try.ntmps28
    go_wp2
    go_ret2
    exact ⟨rfl, rfl⟩
  · have HN : Hid (shortN ns = ns / 1000000000 * 65536 + (ns % 1000000000 * 65536 + 999999999) / 1000000000) := rfl
    have HE : Hid (shortErr ns = if ns < 0 ∨ 4294967295 < shortN ns then 3 else 0) := rfl
    go_enter Try.func28, Try.ntmps28
    go_wp2
    all_goals
      go_ret2
      refine ⟨tup2 (vint ?_) (vint ?_), rfl⟩
      · unfold z0; rw [HE.out, HN.out]; split <;> simp_all <;> omega
      · rw [HE.out, HN.out]; split <;> omega
def spQ (t : Int) : Int := t / 1000000000
def spR (t : Int) : Int := t % 1000000000
set_option maxHeartbeats 400000 in
theorem rsplit_any (t : Int) (w : World) (h1 : -9223372036854775808 ≤ t) (h2 : t ≤ 9223372036854775807) :
    Calls Try.prog 37 #[.int .i64 t] w fun e w' => e = .returned (.tuple #[.int .i64 (spQ t), .int .i64 (spR t)]) ∧ w = w' := by
  obtain ⟨d1, d2, d3, d4, d5⟩ := tdm t 1000000000 (by decide)
  have D1 := Lib.hid d1
  clear d1
  go_enter Try.func37, Try.ntmps37
  go_wp2
  all_goals
    go_ret2
    have d1 := D1.out
    refine ⟨tup2 (vint ?_) (vint ?_), rfl⟩ <;> (first | unfold spQ | unfold spR) <;> (try unfold wrap64) <;> omega
set_option maxHeartbeats 400000 in
theorem rshort_any (ns : Int) (w : World) (h1 : -9223372036854775808 ≤ ns) (h2 : ns ≤ 9223372036854775807) :
    Calls Try.prog 29 #[.int .i64 ns] w fun e w' => e = .returned (.tuple #[.int .u32 (z0 (shortErr ns) (shortN ns)), .int .i64 (shortErr ns)]) ∧ w = w' := by
  rcases (by omega : ns < 0 ∨ 0 ≤ ns) with h | h
  · have HE : Hid (shortErr ns = 3) := by show shortErr ns = 3; simp [shortErr, h]
    rw [HE.out, z0_three]
    go_enter Try.func29, Try.ntmps29
    go_wp2_with (first | (go_at_call 37; ((with_reducible refine (rsplit_any _ _ h1 h2).mono ?_); rintro e w1 ⟨rfl, rfl⟩)))
    go_ret2
    exact ⟨rfl, rfl⟩
  · have HN : Hid (shortN ns = ns / 1000000000 * 65536 + (ns % 1000000000 * 65536 + 999999999) / 1000000000) := rfl
    have HE : Hid (shortErr ns = if ns < 0 ∨ 4294967295 < shortN ns then 3 else 0) := rfl
    have q1 : 0 ≤ spQ ns ∧ spQ ns ≤ 9223372037 := by unfold spQ; omega
    have q2 : 0 ≤ spR ns ∧ spR ns ≤ 999999999 := by unfold spR; omega
    have Q1 : Hid (spQ ns = ns / 1000000000) := rfl
    have Q2 : Hid (spR ns = ns % 1000000000) := rfl
    go_enter Try.func29, Try.ntmps29
    go_wp2_with (first | (go_at_call 37; ((with_reducible refine (rsplit_any _ _ h1 h2).mono ?_); rintro e w1 ⟨rfl, rfl⟩)))
    all_goals
      go_ret2
      have q3 := Q1.out
      have q4 := Q2.out
      refine ⟨tup2 (vint ?_) (vint ?_), rfl⟩
      · unfold z0; rw [HE.out, HN.out]; split <;> simp_all <;> omega
      · rw [HE.out, HN.out]; split <;> omega
def syncB (l st : Int) : Bool := decide (l ≠ 3 ∧ 1 ≤ st ∧ st ≤ 15)
set_option maxHeartbeats 400000 in
theorem synced_any (l v m st po pr rd rp id ref org rec xmt : Int) (w : World) :
    Calls Try.prog 32 #[ntp l v m st po pr rd rp id ref org rec xmt] w fun e w' => e = .returned (.bool (syncB l st)) ∧ Below w.heap.size w w' := by
  have HD : Hid (syncB l st = decide (l ≠ 3 ∧ 1 ≤ st ∧ st ≤ 15)) := rfl
  rw [HD.out]
  by_cases h0 : l = 3
  · subst h0
    go_enter Try.func32, Try.ntmps32
    go_wp2_with (first | (go_at_call 30; ((with_reducible refine (within_any _ _ _ _).mono ?_); rintro e w1 ⟨rfl, rfl⟩)))
    go_ret
    exact ⟨ret_bool (by simp), by (repeat (first | assumption | exact Below.refl _ _ | refine Below.drew ?_ | refine below_drewN ?_ _ | refine Below.setCell ?_ (by first | omega | (simp; done) | (simp <;> omega)) _ | refine Below.alloc ?_ (by first | omega | (simp; done) | (simp <;> omega)) _ | refine Below.trans ?_ (Below.mono (by assumption) (by first | omega | (simp; done) | (simp <;> omega)))))⟩
  · have h1 : (l != 3) = true := by simpa using h0
    have H0 := Lib.hid h0
    clear h0
    go_enter Try.func32, Try.ntmps32
    go_wp2_with (first | (go_at_call 30; ((with_reducible refine (within_any _ _ _ _).mono ?_); rintro e w1 ⟨rfl, rfl⟩)))
    go_ret
    exact ⟨ret_bool (by simp [H0.out]), by (repeat (first | assumption | exact Below.refl _ _ | refine Below.drew ?_ | refine below_drewN ?_ _ | refine Below.setCell ?_ (by first | omega | (simp; done) | (simp <;> omega)) _ | refine Below.alloc ?_ (by first | omega | (simp; done) | (simp <;> omega)) _ | refine Below.trans ?_ (Below.mono (by assumption) (by first | omega | (simp; done) | (simp <;> omega)))))⟩
set_option maxHeartbeats 400000 in
theorem primary_any (p r : Int) (w : World) :
    Calls Try.prog 15 #[.int .i64 p, .int .u32 r] w fun e w' => e = .returned (.tuple #[rootOr (chk 1 0 p) 1 0 p r, .int .i64 (chk 1 0 p)]) ∧ Below w.heap.size w w' := by
  go_enter Try.func15, Try.ntmps15
  go_wp2_with (first | (go_at_call 25; ((with_reducible refine (checked_any _ _ _ _ _).mono ?_); rintro e w1 ⟨rfl, hb⟩; obtain ⟨hc, hf⟩ := bcell hb; have hz := hb.size; try simp at hz; (try have hz0 : w.heap.size < w1.heap.size := by omega); (try have hz1 : w.heap.size + 1 < w1.heap.size := by omega); (try have hz2 : w.heap.size + 2 < w1.heap.size := by omega); (try have hz3 : w.heap.size + 3 < w1.heap.size := by omega); (try have hz4 : w.heap.size + 4 < w1.heap.size := by omega); (try have hz5 : w.heap.size + 5 < w1.heap.size := by omega))))
  refine bodyPost_ret (v := .tuple #[rootOr (chk 1 0 p) 1 0 p r, .int .i64 (chk 1 0 p)]) (by simp [results, Try.results15, go_sem, *]) rfl ⟨rfl, ?_⟩
  (repeat (first | assumption | exact Below.refl _ _ | refine Below.drew ?_ | refine below_drewN ?_ _ | refine Below.setCell ?_ (by first | omega | (simp; done) | (simp <;> omega)) _ | refine Below.alloc ?_ (by first | omega | (simp; done) | (simp <;> omega)) _ | refine Below.trans ?_ (Below.mono (by assumption) (by first | omega | (simp; done) | (simp <;> omega)))))
set_option maxHeartbeats 400000 in
theorem rprimary_any (p r : Int) (w : World) :
    Calls Try.prog 16 #[.int .i64 p, .int .u32 r] w fun e w' => e = .returned (.tuple #[rootOr (chk 1 0 p) 1 0 p r, .int .i64 (chk 1 0 p)]) ∧ Below w.heap.size w w' := by
  go_enter Try.func16, Try.ntmps16
  go_wp2_with (first | (go_at_call 27; ((with_reducible refine (right_any _ _ _ _ _).mono ?_); rintro e w1 ⟨rfl, hb⟩; obtain ⟨hc, hf⟩ := bcell hb; have hz := hb.size; try simp at hz; (try have hz0 : w.heap.size < w1.heap.size := by omega); (try have hz1 : w.heap.size + 1 < w1.heap.size := by omega); (try have hz2 : w.heap.size + 2 < w1.heap.size := by omega); (try have hz3 : w.heap.size + 3 < w1.heap.size := by omega); (try have hz4 : w.heap.size + 4 < w1.heap.size := by omega); (try have hz5 : w.heap.size + 5 < w1.heap.size := by omega))))
  refine bodyPost_ret (v := .tuple #[rootOr (chk 1 0 p) 1 0 p r, .int .i64 (chk 1 0 p)]) (by simp [results, Try.results16, go_sem, *]) rfl ⟨rfl, ?_⟩
  (repeat (first | assumption | exact Below.refl _ _ | refine Below.drew ?_ | refine below_drewN ?_ _ | refine Below.setCell ?_ (by first | omega | (simp; done) | (simp <;> omega)) _ | refine Below.alloc ?_ (by first | omega | (simp; done) | (simp <;> omega)) _ | refine Below.trans ?_ (Below.mono (by assumption) (by first | omega | (simp; done) | (simp <;> omega)))))
end Go.Proofs.Ytofgebmmgblkfaa
