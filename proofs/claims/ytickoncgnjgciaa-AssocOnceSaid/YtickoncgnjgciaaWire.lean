/- What the functions of package wire that read numbers compute, and those of its reference. -/
import Derived.Test.YtickoncgnjgciaaBytes
namespace Go.Proofs.Ytickoncgnjgciaa
open Go.RowKit
set_option linter.unusedSimpArgs false
set_option linter.unusedVariables false
/-- the number whose bytes are l, most significant first -/
def stepB (n x : Int) : Int := (n * 256 + x) % 18446744073709551616
def numB (l : List Int) : Int := l.foldl stepB 0
theorem take_succ' (l : List Int) (k : Nat) (h : k < l.length) : l.take (k + 1) = l.take k ++ [atB l k] := by
  rw [List.take_add_one, List.getElem?_eq_getElem h]
  unfold atB; rw [List.getD_eq_getElem?_getD, List.getElem?_eq_getElem h]; rfl
theorem numB_succ (l : List Int) (k : Nat) (h : k < l.length) : numB (l.take (k + 1)) = stepB (numB (l.take k)) (atB l k) := by
  rw [take_succ' l k h]
  unfold numB
  rw [List.foldl_append]; rfl
theorem stepB_range (n x : Int) : 0 ≤ stepB n x ∧ stepB n x < 18446744073709551616 := by unfold stepB; omega
theorem foldB_range (l : List Int) : ∀ n : Int, 0 ≤ n ∧ n < 18446744073709551616 → 0 ≤ l.foldl stepB n ∧ l.foldl stepB n < 18446744073709551616 := by
  induction l with
  | nil => intro n h; exact h
  | cons x l ih => intro n h; exact ih _ (stepB_range n x)
theorem numB_range (l : List Int) : 0 ≤ numB l ∧ numB l < 18446744073709551616 := foldB_range l 0 (by omega)
theorem shl_or (n x : Int) (h0 : 0 ≤ n) (hx : 0 ≤ x ∧ x ≤ 255) : bits .or .u64 (IntKind.u64.wrap (n * 256)) x = stepB n x := by
  unfold stepB; rw [IntKind.wrap_u64, or_u64_8 _ _ (by omega) (by omega) (by omega) hx.1 (by omega) ]
  omega
set_option maxHeartbeats 400000 in
theorem sized_any (s : Int) (w : World) :
    Calls Try.prog 53 #[.int .i64 s] w fun e w' => e = .returned (.bool (decide (1 ≤ s ∧ s ≤ 8))) ∧ w = w' := by
  by_cases h1 : 1 ≤ s <;> by_cases h2 : s ≤ 8
  all_goals
    go_enter Try.func53, Try.ntmps53
    go_wp2
    go_ret
    exact ⟨by simp [*], rfl⟩
/-- what Get returns -/
def getE (n at_ s : Int) : Int := if 1 ≤ s ∧ s ≤ 8 then (if 0 ≤ at_ ∧ s ≤ n - at_ then 0 else 5) else 2
def getV (l : List Int) (at_ s : Int) : Int := numB ((l.drop at_.toNat).take s.toNat)
abbrev getR (l : List Int) (at_ s : Int) : Value := .tuple #[.int .u64 (z0 (getE l.length at_ s) (getV l at_ s)), .int .i64 (getE l.length at_ s)]
theorem getE_2 {n at_ s : Int} (h : ¬(1 ≤ s ∧ s ≤ 8)) : getE n at_ s = 2 := by simp [getE, h]
theorem getE_5 {n at_ s : Int} (h : 1 ≤ s ∧ s ≤ 8) (h' : ¬(0 ≤ at_ ∧ s ≤ n - at_)) : getE n at_ s = 5 := by simp only [getE, if_pos h, if_neg h']
theorem getE_0 {n at_ s : Int} (h : 1 ≤ s ∧ s ≤ 8) (h' : 0 ≤ at_ ∧ s ≤ n - at_) : getE n at_ s = 0 := by simp only [getE, if_pos h, if_pos h']
end Go.Proofs.Ytickoncgnjgciaa
