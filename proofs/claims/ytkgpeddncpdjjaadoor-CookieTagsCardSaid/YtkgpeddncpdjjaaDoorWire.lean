/- What the functions of package wire that read numbers compute, and those of its reference. -/
import Derived.Test.YtkgpeddncpdjjaaDoorBytes
namespace Go.Proofs.YtkgpeddncpdjjaaDoor
open Go.RowKit
set_option linter.unusedSimpArgs false
set_option linter.unusedVariables false
set_option maxRecDepth 100000
/-- the number whose bytes are l, most significant first -/
def stepB (n x : Int) : Int := (n * 256 + x) % 18446744073709551616
def numB (l : List Int) : Int := l.foldl stepB 0
theorem take_succ' (l : List Int) (k : Nat) (h : k < l.length) : l.take (k + 1) = l.take k ++ [atB l k] := by
  rw [List.take_add_one, List.getElem?_eq_getElem h]
  unfold atB; rw [List.getD_eq_getElem?_getD, List.getElem?_eq_getElem h]; rfl
theorem numB_succ (l : List Int) (k : Nat) (h : k < l.length) : numB (l.take (k + 1)) = stepB (numB (l.take k)) (atB l k) := by
  rw [take_succ' l k h]
  unfold numB
  rw [List.foldl_append]; rfl
theorem stepB_range (n x : Int) : 0 ≤ stepB n x ∧ stepB n x < 18446744073709551616 := by unfold stepB; omega
theorem foldB_range (l : List Int) : ∀ n : Int, 0 ≤ n ∧ n < 18446744073709551616 → 0 ≤ l.foldl stepB n ∧ l.foldl stepB n < 18446744073709551616 := by
  induction l with
  | nil => intro n h; exact h
  | cons x l ih => intro n h; exact ih _ (stepB_range n x)
theorem numB_range (l : List Int) : 0 ≤ numB l ∧ numB l < 18446744073709551616 := foldB_range l 0 (by omega)
theorem shl_or (n x : Int) (h0 : 0 ≤ n) (hx : 0 ≤ x ∧ x ≤ 255) : bits .or .u64 (IntKind.u64.wrap (n * 256)) x = stepB n x := by
  unfold stepB; rw [IntKind.wrap_u64, or_u64_8 _ _ (by omega) (by omega) (by omega) hx.1 (by omega) ]
  omega
set_option maxHeartbeats 400000 in
theorem sized_any (s : Int) (w : World) :
    Calls Tryd.prog 32 #[.int .i64 s] w fun e w' => e = .returned (.bool (decide (1 ≤ s ∧ s ≤ 8))) ∧ w = w' := by
  by_cases h1 : 1 ≤ s <;> by_cases h2 : s ≤ 8
  all_goals
    go_enter Tryd.func32, Tryd.ntmps32
    go_wp2
    go_ret
    exact ⟨by simp [*], rfl⟩
set_option maxHeartbeats 1000000 in
theorem number_any (A : Option Addr) (n c lo hi : Nat) (l : List Int) (w : World) (hn : l.length = n) (h : Bs w lo hi A l) (hm : l.length ≤ 9223372036854775807) :
    Calls Tryd.prog 42 #[.slice A n c] w fun e w' => e = .returned (.int .u64 (numB l)) ∧ w = w' := by
  subst hn
  go_enter Tryd.func42, Tryd.ntmps42
  go_wp2
  go_loop [3, 7] (fun n i => ∃ k : Nat, k ≤ l.length ∧ i = .int .i64 k ∧ n = .int .u64 (numB (l.take k))) (fun _ i => l.length - (intOf i).toNat)
  case atStart => exact ⟨0, by omega, rfl, by simp [numB]⟩
  case round =>
    obtain ⟨k, hk, rfl, rfl⟩ := hrel
    by_cases hlt : k < l.length
    · obtain ⟨b, o, rfl, _, _, hc⟩ := h.at (by omega)
      have hck := hc k hlt
      have hby := h.byt.at k
      have hS := numB_succ l k hlt
      have hr := numB_range (l.take k)
      have hO := shl_or (numB (l.take k)) (atB l k) hr.1 hby
      have hw : IntKind.u64.wrap (atB l k) = atB l k := by rw [IntKind.wrap_u64]; omega
      go_wp2
      exact ⟨⟨k + 1, by omega, by go_num, by rw [hS]⟩, by simp [intOf]; omega⟩
    · obtain rfl : k = l.length := by omega
      go_wp2
      go_ret
      exact ⟨by simp, rfl⟩
/-- what Get returns -/
def getE (n at_ s : Int) : Int := if 1 ≤ s ∧ s ≤ 8 then (if 0 ≤ at_ ∧ s ≤ n - at_ then 0 else 5) else 2
def getV (l : List Int) (at_ s : Int) : Int := numB ((l.drop at_.toNat).take s.toNat)
abbrev getR (l : List Int) (at_ s : Int) : Value := .tuple #[.int .u64 (z0 (getE l.length at_ s) (getV l at_ s)), .int .i64 (getE l.length at_ s)]
theorem getE_2 {n at_ s : Int} (h : ¬(1 ≤ s ∧ s ≤ 8)) : getE n at_ s = 2 := by simp [getE, h]
theorem getE_5 {n at_ s : Int} (h : 1 ≤ s ∧ s ≤ 8) (h' : ¬(0 ≤ at_ ∧ s ≤ n - at_)) : getE n at_ s = 5 := by simp only [getE, if_pos h, if_neg h']
theorem getE_0 {n at_ s : Int} (h : 1 ≤ s ∧ s ≤ 8) (h' : 0 ≤ at_ ∧ s ≤ n - at_) : getE n at_ s = 0 := by simp only [getE, if_pos h, if_pos h']
theorem take_cut (l : List Int) (a k : Nat) (h : a + k < l.length) : (l.drop a).take (k + 1) = (l.drop a).take k ++ [atB l (a + k)] := by
  rw [take_succ' _ k (by rw [List.length_drop]; omega)]
  congr 2
  simp [atB, List.getD_eq_getElem?_getD]
theorem numB_cut (l : List Int) (a k : Nat) (h : a + k < l.length) : numB ((l.drop a).take (k + 1)) = stepB (numB ((l.drop a).take k)) (atB l (a + k)) := by
  rw [take_cut l a k h]
  unfold numB
  rw [List.foldl_append]; rfl
set_option maxHeartbeats 1000000 in
theorem rget_any (A : Option Addr) (n c lo hi : Nat) (l : List Int) (at_ s : Int) (w : World) (hn : l.length = n) (h : Bs w lo hi A l) (hm : n ≤ c) (hc : c ≤ 9223372036854775807) (hat : at_ ≤ 9223372036854775807) :
    Calls Tryd.prog 31 #[.slice A n c, .int .i64 at_, .int .i64 s] w fun e w' => e = .returned (getR l at_ s) ∧ w = w' := by
  subst hn
  by_cases hs : 1 ≤ s ∧ s ≤ 8
  · by_cases ha : 0 ≤ at_ ∧ s ≤ l.length - at_
    · have HR : Hid (getR l at_ s = .tuple #[.int .u64 (getV l at_ s), .int .i64 0]) := by show getR l at_ s = _; rw [getR, getE_0 hs ha, z0_zero]
      obtain ⟨a, rfl⟩ : ∃ a : Nat, at_ = a := ⟨at_.toNat, by omega⟩
      obtain ⟨m, rfl⟩ : ∃ m : Nat, s = m := ⟨s.toNat, by omega⟩
      have hs1 := hs.1
      have hs2 := hs.2
      have ha2 := ha.2
      have ha3 : ¬ (l.length : Int) < a := by omega
      have ha4 : ¬ (l.length : Int) - a < m := by omega
      obtain ⟨b, o, rfl, _, _, hc'⟩ := h.at (by omega)
      go_enter Tryd.func31, Tryd.ntmps31
      go_wp2
      go_loop [8, 9] (fun n i => ∃ k : Nat, k ≤ m ∧ i = .int .i64 k ∧ n = .int .u64 (numB ((l.drop a).take k))) (fun _ i => m - (intOf i).toNat)
      case atStart => exact ⟨0, by omega, rfl, by simp [numB]⟩
      case round =>
        obtain ⟨k, hk, rfl, rfl⟩ := hrel
        by_cases hlt : k < m
        · have hck := hc' (a + k) (by omega)
          have hby := h.byt.at (a + k)
          have hS := numB_cut l a k (by omega)
          have hr := numB_range ((l.drop a).take k)
          have hO := shl_or (numB ((l.drop a).take k)) (atB l (a + k)) hr.1 hby
          have hw : IntKind.u64.wrap (atB l (a + k)) = atB l (a + k) := by rw [IntKind.wrap_u64]; omega
          go_wp2
          exact ⟨⟨k + 1, by omega, by go_num, by rw [hS]⟩, by simp [intOf]; omega⟩
        · obtain rfl : k = m := by omega
          go_wp2
          go_ret2
          exact ⟨ret_val (by rw [HR.out]; rfl), rfl⟩
    · have HR : Hid (getR l at_ s = .tuple #[.int .u64 0, .int .i64 5]) := by show getR l at_ s = _; rw [getR, getE_5 hs ha]; rfl
      have hs1 := hs.1
      have hs2 := hs.2
      by_cases h0 : 0 ≤ at_
      · by_cases h2 : l.length < at_
        · clear ha
          go_enter Tryd.func31, Tryd.ntmps31
          go_wp2
          go_ret2
          exact ⟨ret_val HR.out.symm, rfl⟩
        · have h1 : l.length - at_ < s := by omega
          clear ha
          go_enter Tryd.func31, Tryd.ntmps31
          go_wp2
          go_ret2
          exact ⟨ret_val HR.out.symm, rfl⟩
      · clear ha
        go_enter Tryd.func31, Tryd.ntmps31
        go_wp2
        go_ret2
        exact ⟨ret_val HR.out.symm, rfl⟩
  · have HR : Hid (getR l at_ s = .tuple #[.int .u64 0, .int .i64 2]) := by show getR l at_ s = _; rw [getR, getE_2 hs]; rfl
    go_enter Tryd.func31, Tryd.ntmps31
    by_cases h1 : 1 ≤ s
    · have h2 : ¬ s ≤ 8 := by omega
      clear hs
      go_wp2
      go_ret2
      exact ⟨ret_val HR.out.symm, rfl⟩
    · clear hs
      go_wp2
      go_ret2
      exact ⟨ret_val HR.out.symm, rfl⟩
end Go.Proofs.YtkgpeddncpdjjaaDoor
