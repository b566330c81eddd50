/- What stamp.Short, Long, and their references compute; the index of a hexadecimal digit; the text of a timestamp. -/
import Derived.Test.YtjclifjipphnkaaStamp2
import Derived.Test.YtjclifjipphnkaaMem
import Derived.Lib.Strings
import Derived.Lib.Slices
import Derived.Lib.Walk
import Derived.Lib.Bytealg
import Derived.Laws.IdiomStrings
namespace Go.Proofs.Ytjclifjipphnkaa
open Go.RowKit
set_option linter.unusedSimpArgs false
set_option linter.unusedVariables false
set_option maxRecDepth 100000
def longN (s : Int) : Int := (s * 1000000000 + 65535) / 65536
set_option maxHeartbeats 400000 in
theorem long_any (s : Int) (w : World) (h1 : 0 ≤ s) (h2 : s ≤ 4294967295) :
    Calls Try.prog 13 #[.int .u32 s] w fun e w' => e = .returned (.int .i64 (longN s)) ∧ w = w' := by
  go_enter Try.func13, Try.ntmps13
  go_wp2
  go_ret
  exact ⟨ret_int (by unfold longN; omega), rfl⟩
def shortN (ns : Int) : Int := ns / 1000000000 * 65536 + (ns % 1000000000 * 65536 + 999999999) / 1000000000
def shortErr (ns : Int) : Int := if ns < 0 ∨ 4294967295 < shortN ns then 3 else 0
set_option maxHeartbeats 400000 in
theorem short_any (ns : Int) (w : World) (h1 : -9223372036854775808 ≤ ns) (h2 : ns ≤ 9223372036854775807) :
    Calls Try.prog 34 #[.int .i64 ns] w fun e w' => e = .returned (.tuple #[.int .u32 (z0 (shortErr ns) (shortN ns)), .int .i64 (shortErr ns)]) ∧ w = w' := by
  rcases (by omega : ns < 0 ∨ 0 ≤ ns) with h | h
  · have HE : Hid (shortErr ns = 3) := by show shortErr ns = 3; simp [shortErr, h]
    have HZ : Hid (z0 (shortErr ns) (shortN ns) = 0) := by show z0 _ _ = 0; rw [HE.out]; rfl
    go_enter Try.func34, Try.ntmps34
    go_wp2
    go_ret2
    exact ⟨tup2 (vint HZ.out.symm) (vint HE.out.symm), rfl⟩
  · have HN : Hid (shortN ns = ns / 1000000000 * 65536 + (ns % 1000000000 * 65536 + 999999999) / 1000000000) := rfl
    have HE : Hid (shortErr ns = if ns < 0 ∨ 4294967295 < shortN ns then 3 else 0) := rfl
    go_enter Try.func34, Try.ntmps34
    go_wp2
    all_goals
      go_ret2
      refine ⟨tup2 (vint ?_) (vint ?_), rfl⟩
      · unfold z0; rw [HE.out, HN.out]; split <;> simp_all <;> omega
      · rw [HE.out, HN.out]; split <;> omega
set_option maxHeartbeats 400000 in
theorem rshort_any (ns : Int) (w : World) (h1 : -9223372036854775808 ≤ ns) (h2 : ns ≤ 9223372036854775807) :
    Calls Try.prog 57 #[.int .i64 ns] w fun e w' => e = .returned (.tuple #[.int .u32 (z0 (shortErr ns) (shortN ns)), .int .i64 (shortErr ns)]) ∧ w = w' := by
  rcases (by omega : ns < 0 ∨ 0 ≤ ns) with h | h
  · have HE : Hid (shortErr ns = 3) := by show shortErr ns = 3; simp [shortErr, h]
    have HZ : Hid (z0 (shortErr ns) (shortN ns) = 0) := by show z0 _ _ = 0; rw [HE.out]; rfl
    go_enter Try.func57, Try.ntmps57
    go_wp2_with (first | (go_at_call 66; ((with_reducible refine (rsplit_any _ _ h1 h2).mono ?_); rintro e w1 ⟨rfl, rfl⟩)))
    go_ret2
    exact ⟨tup2 (vint HZ.out.symm) (vint HE.out.symm), rfl⟩
  · have HN : Hid (shortN ns = ns / 1000000000 * 65536 + (ns % 1000000000 * 65536 + 999999999) / 1000000000) := rfl
    have HE : Hid (shortErr ns = if ns < 0 ∨ 4294967295 < shortN ns then 3 else 0) := rfl
    have q1 : 0 ≤ spQ ns ∧ spQ ns ≤ 9223372037 := by unfold spQ; omega
    have q2 : 0 ≤ spR ns ∧ spR ns ≤ 999999999 := by unfold spR; omega
    have Q1 : Hid (spQ ns = ns / 1000000000) := rfl
    have Q2 : Hid (spR ns = ns % 1000000000) := rfl
    go_enter Try.func57, Try.ntmps57
    go_wp2_with (first | (go_at_call 66; ((with_reducible refine (rsplit_any _ _ h1 h2).mono ?_); rintro e w1 ⟨rfl, rfl⟩)))
    all_goals
      go_ret2
      have q3 := Q1.out
      have q4 := Q2.out
      refine ⟨tup2 (vint ?_) (vint ?_), rfl⟩
      · unfold z0; rw [HE.out, HN.out]; split <;> simp_all <;> omega
      · rw [HE.out, HN.out]; split <;> omega
end Go.Proofs.Ytjclifjipphnkaa
