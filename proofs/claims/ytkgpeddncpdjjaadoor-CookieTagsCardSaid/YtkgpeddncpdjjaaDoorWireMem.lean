/- What the functions of package wire that make memory compute, and those of its reference. -/
import Derived.Test.YtkgpeddncpdjjaaDoorWire
import Derived.Test.YtkgpeddncpdjjaaDoorMem
namespace Go.Proofs.YtkgpeddncpdjjaaDoor
open Go.RowKit
set_option linter.unusedSimpArgs false
set_option linter.unusedVariables false
set_option maxRecDepth 100000
/-- the k lowest bytes of n, most significant first -/
def bytesB : Nat → Int → List Int
  | 0, _ => []
  | k + 1, n => bytesB k (n / 256) ++ [n % 256]
theorem bytesB_length (k : Nat) : ∀ n, (bytesB k n).length = k := by
  induction k with
  | zero => intro n; rfl
  | succ k ih => intro n; simp [bytesB, ih]
theorem bytesB_byt (k : Nat) : ∀ n, Byt (bytesB k n) := by
  induction k with
  | zero => intro n; exact Byt.nil
  | succ k ih => intro n; exact (ih _).app (Byt.nil.cons (by omega) (by omega))
theorem bytesB_at (k : Nat) : ∀ (n : Int) (i : Nat), i < k → atB (bytesB k n) i = n / 256 ^ (k - 1 - i) % 256 := by
  induction k with
  | zero => intro n i h; omega
  | succ k ih =>
    intro n i h
    unfold atB
    rw [bytesB, List.getD_eq_getElem?_getD]
    by_cases hi : i < k
    · rw [List.getElem?_append_left (by rw [bytesB_length]; exact hi), ← List.getD_eq_getElem?_getD]
      have := ih (n / 256) i hi
      unfold atB at this
      rw [this, Int.ediv_ediv_of_nonneg (by omega)]
      congr 2
      rw [show k + 1 - 1 - i = (k - 1 - i) + 1 by omega, Int.pow_succ, Int.mul_comm]
    · obtain rfl : i = k := by omega
      rw [List.getElem?_append_right (by rw [bytesB_length]; omega), bytesB_length]
      simp
theorem pow256 (k : Nat) : (2 : Int) ^ (8 * k) = 256 ^ k := by rw [Int.pow_mul]; rfl
def apE (n s : Int) : Int := if 1 ≤ s ∧ s ≤ 8 then (if n < 256 ^ s.toNat then 0 else 3) else 2
/-- the row during the loop of Append -/
def apRow (l bs : List Int) (k : Nat) : List Int := l ++ (bs.take k ++ List.replicate (bs.length - k) 0)
theorem apRow_length (l bs : List Int) (k : Nat) (hk : k ≤ bs.length) : (apRow l bs k).length = l.length + bs.length := by simp [apRow]; omega
theorem apRow_zero (l bs : List Int) : apRow l bs 0 = l ++ List.replicate bs.length 0 := by simp [apRow]
theorem apRow_all (l bs : List Int) : apRow l bs bs.length = l ++ bs := by simp [apRow]
theorem apRow_set (l bs : List Int) (k : Nat) (hk : k < bs.length) : (apRow l bs k).set (l.length + k) (atB bs k) = apRow l bs (k + 1) := by
  unfold apRow
  rw [List.set_append, if_neg (by omega), List.set_append, if_neg (by simp; omega), take_succ' bs k hk, List.append_assoc]
  congr 2
  rw [show bs.length - k = (bs.length - (k + 1)) + 1 by omega, List.replicate_succ]
  simp [show min k bs.length = k by omega]
set_option maxHeartbeats 1000000 in
theorem append_ok (A : Option Addr) (nl c lo hi : Nat) (l : List Int) (n : Int) (s : Nat) (w : World) (hnl : l.length = nl) (h : Bs w lo hi A l) (hh : hi ≤ w.heap.size) (hm : nl ≤ 140737488351232) (hn : 0 ≤ n ∧ n < 18446744073709551616) (hs1 : 1 ≤ s) (hs2 : s ≤ 8) (hf : n < 256 ^ s) :
    Calls Tryd.prog 23 #[.slice A nl c, .int .u64 n, .int .i64 s] w fun e w' => e = .returned (.tuple #[.slice (some ⟨w.heap.size, 0, none⟩) (nl + s) (nl + s), .int .i64 0]) ∧ Ow w' w.heap.size (some ⟨w.heap.size, 0, none⟩) (nl + s) (l ++ bytesB s n) ∧ w'.heap.size = w.heap.size + 1 ∧ Below w.heap.size w w' := by
  subst hnl
  have hn1 := hn.1
  have hn2 := hn.2
  have hi1 : (1 : Int) ≤ s := by omega
  have hi2 : (s : Int) ≤ 8 := by omega
  have hmk := fun W => makeU8 .i64 .i64 (l.length + s) (by omega) W
  rw [Int.natCast_add] at hmk
  have hq : (n / 2 ^ (8 * s) != 0) = false := by
    rw [pow256, Int.ediv_eq_zero_of_lt hn1 hf]; rfl
  have hO1 := Ow.made w (l.length + s) (by omega)
  have hB1 : Bs (w.alloc (.cells (madeCells #[.int .u8 0] (l.length + s)) 5)) lo hi A l := h.alloc hh _
  go_enter Tryd.func23, Tryd.ntmps23
  go_wp2_with (first | (go_at_call 32; ((with_reducible refine (sized_any _ _).mono ?_); rintro e w1 ⟨rfl, rfl⟩)) | (with_reducible refine wpList_copy_bs rfl (.tmp 27) (.tmp 28) rfl w.heap.size (l.length + s) (l.length + s) l.length c _ rfl rfl (by simp) rfl (by omega) hO1 hB1 ?_; intro w1 hO hg hz))
  all_goals
    have hO2 : Ow w1 w.heap.size (some ⟨w.heap.size, 0, none⟩) (l.length + s) (apRow l (bytesB s n) 0) := by
      rw [apRow_zero, bytesB_length]; simpa using hO
    have hb1 : Below w.heap.size w w1 := Below.trans ((Below.refl _ w).alloc (Nat.le_refl _) _) (below_of_grown hg (by simp) (by simp))
    have hz1 : w1.heap.size = w.heap.size + 1 := by simpa using hz
    clear hO hg hz hO1 hB1 hmk
    go_loopw [31] (fun i wr => ∃ k : Nat, k ≤ s ∧ i = .int .i64 k ∧ Ow wr w.heap.size (some ⟨w.heap.size, 0, none⟩) (l.length + s) (apRow l (bytesB s n) k) ∧ wr.heap.size = w.heap.size + 1 ∧ Below w.heap.size w wr) (fun i _ => s - (intOf i).toNat)
    case atStart => exact ⟨0, by omega, rfl, hO2, hz1, hb1⟩
    case round =>
      obtain ⟨k, hk, rfl, hR, hzr, hbr⟩ := hrel
      by_cases hlt : k < s
      · have hlen := apRow_length l (bytesB s n) k (by rw [bytesB_length]; omega)
        rw [bytesB_length] at hlen
        have hcell := hR.cell (k := l.length + k) (by omega)
        have hfz := hR.frozen (l.length + k)
        have hS := hR.set (l.length + k) (x := n / 2 ^ (8 * (s - 1 - k)) % 256) (by omega) (by omega)
        rw [show n / 2 ^ (8 * (s - 1 - k)) % 256 = atB (bytesB s n) k by rw [bytesB_at s n k hlt, pow256], apRow_set l (bytesB s n) k (by rw [bytesB_length]; omega)] at hS
        have hv := bytesB_at s n k hlt
        rw [← pow256] at hv
        rw [hv] at hS
        go_wp2
        exact ⟨⟨k + 1, by omega, by go_num, hS, by simpa [World.setCell] using hzr, hbr.setCell (by simp) _⟩, by simp [intOf]; omega⟩
      · obtain rfl : k = s := by omega
        go_wp2
        go_ret2
        refine ⟨rfl, ?_, hzr, hbr⟩
        have := apRow_all l (bytesB k n)
        rw [bytesB_length] at this
        rw [← this]; exact hR
theorem apE_2 {n s : Int} (h : ¬(1 ≤ s ∧ s ≤ 8)) : apE n s = 2 := by simp [apE, h]
theorem apE_3 {n : Int} {s : Nat} (h : 1 ≤ s ∧ s ≤ 8) (h' : ¬ n < 256 ^ s) : apE n s = 3 := by simp only [apE]; rw [if_pos (by omega), if_neg (by simpa using h')]
theorem apE_0 {n : Int} {s : Nat} (h : 1 ≤ s ∧ s ≤ 8) (h' : n < 256 ^ s) : apE n s = 0 := by simp only [apE]; rw [if_pos (by omega), if_pos (by simpa using h')]
theorem shr_ne (n : Int) (s : Nat) (hn : 0 ≤ n) (h : ¬ n < 256 ^ s) : (n / 2 ^ (8 * s) != 0) = true := by
  rw [pow256]
  have hp : (0 : Int) < 256 ^ s := Int.pow_pos (by omega)
  have h1 : 1 ≤ n / 256 ^ s := by rw [Int.le_ediv_iff_mul_le hp]; omega
  simp; omega
theorem pow8 (s : Nat) (h : 8 ≤ s) : (18446744073709551616 : Int) ≤ 256 ^ s := by
  rw [show s = 8 + (s - 8) by omega, Int.pow_add]
  have : (0 : Int) < 256 ^ (s - 8) := Int.pow_pos (by omega)
  have h2 : (256 : Int) ^ 8 = 18446744073709551616 := by decide
  rw [h2]; omega
set_option maxHeartbeats 1000000 in
theorem append_err (A : Option Addr) (c m : Nat) (n s : Int) (w : World) (hm : m ≤ 140737488351232) (hn : 0 ≤ n ∧ n < 18446744073709551616) (he : apE n s ≠ 0) :
    Calls Tryd.prog 23 #[.slice A m c, .int .u64 n, .int .i64 s] w fun e w' => e = .returned (.tuple #[.slice none 0 0, .int .i64 (apE n s)]) ∧ w = w' := by
  by_cases hs : 1 ≤ s ∧ s ≤ 8
  · obtain ⟨m, rfl⟩ : ∃ m : Nat, s = m := ⟨s.toNat, by omega⟩
    have hs1 := hs.1
    have hs2 := hs.2
    have hf : ¬ n < 256 ^ m := fun h => he (apE_0 (by omega) h)
    have hm8 : (m : Int) < 8 := by
      rcases Nat.lt_or_ge m 8 with h | h
      · omega
      · have := pow8 m h; omega
    have hq := shr_ne n m hn.1 hf
    have HR : Hid (apE n m = 3) := apE_3 (by omega) hf
    clear he hf
    go_enter Tryd.func23, Tryd.ntmps23
    go_wp2_with (first | (go_at_call 32; ((with_reducible refine (sized_any _ _).mono ?_); rintro e w1 ⟨rfl, rfl⟩)))
    go_ret2
    exact ⟨by rw [HR.out]; rfl, rfl⟩
  · have HR : Hid (apE n s = 2) := apE_2 hs
    clear he
    go_enter Tryd.func23, Tryd.ntmps23
    go_wp2_with (first | (go_at_call 32; ((with_reducible refine (sized_any _ _).mono ?_); rintro e w1 ⟨rfl, rfl⟩)))
    go_ret2
    exact ⟨by rw [HR.out]; rfl, rfl⟩
set_option maxHeartbeats 1000000 in
theorem fits_any (n : Int) (s : Nat) (w : World) (hn : 0 ≤ n ∧ n < 18446744073709551616) (hs : 1 ≤ s ∧ s ≤ 8) :
    Calls Tryd.prog 37 #[.int .u64 n, .int .i64 s] w fun e w' => e = .returned (.bool (decide (n < 256 ^ s))) ∧ w = w' := by
  have hs1 : (1 : Int) ≤ s := by omega
  have hs2 : (s : Int) ≤ 8 := by omega
  by_cases h8 : s = 8
  · subst h8
    have : n < 256 ^ 8 := hn.2
    go_enter Tryd.func37, Tryd.ntmps37
    go_wp2
    go_ret
    exact ⟨ret_bool (by simpa using this), rfl⟩
  · have h8' : (s : Int) < 8 := by omega
    have h9 : ((s : Int) == 8) = false := by simp; omega
    have hn1 := hn.1
    have hn2 := hn.2
    by_cases hf : n < 256 ^ s
    · have hq : (n / 2 ^ (8 * s) == 0) = true := by rw [pow256, Int.ediv_eq_zero_of_lt hn.1 hf]; rfl
      go_enter Tryd.func37, Tryd.ntmps37
      go_wp2
      go_ret
      exact ⟨ret_bool (by simpa using hf), rfl⟩
    · have hq : (n / 2 ^ (8 * s) == 0) = false := by have := shr_ne n s hn.1 hf; simpa using this
      go_enter Tryd.func37, Tryd.ntmps37
      go_wp2
      go_ret
      exact ⟨ret_bool (by simpa using hf), rfl⟩
set_option maxHeartbeats 2000000 in
theorem rappend_ok (A : Option Addr) (nl c lo hi : Nat) (l : List Int) (n : Int) (s : Nat) (w : World) (hnl : l.length = nl) (h : Bs w lo hi A l) (hh : hi ≤ w.heap.size) (hm : nl ≤ 140737488351232) (hn : 0 ≤ n ∧ n < 18446744073709551616) (hs1 : 1 ≤ s) (hs2 : s ≤ 8) (hf : n < 256 ^ s) :
    Calls Tryd.prog 26 #[.slice A nl c, .int .u64 n, .int .i64 s] w fun e w' => ∃ A' c', e = .returned (.tuple #[.slice A' (nl + s) c', .int .i64 0]) ∧ Ow w' w.heap.size A' c' (l ++ bytesB s n) ∧ w.heap.size ≤ w'.heap.size ∧ Below w.heap.size w w' := by
  subst hnl
  have hn1 := hn.1
  have hn2 := hn.2
  have hi1 : (1 : Int) ≤ s := by omega
  have hi2 : (s : Int) ≤ 8 := by omega
  have hO1 := Ow.lit w [] #[] rfl Byt.nil (by simp)
  have hB1 : Bs (w.alloc (.cells #[] 5)) lo hi A l := h.alloc hh _
  go_enter Tryd.func26, Tryd.ntmps26
  go_wp2_with (first | (go_at_call 37; ((with_reducible refine (fits_any n s w hn ⟨hs1, hs2⟩).mono ?_); rintro e w1 ⟨rfl, rfl⟩)) | (at_builtin; refine wpList_append_bs rfl (.tmp 20) (.tmp 21) rfl 0 0 l.length c (by rfl) (by rfl) rfl rfl hO1 hB1 (by omega) (by simp) ?_; intro A1 c1 w1 hO hb1 _))
  all_goals
    have hO2 : Ow w1 w.heap.size A1 c1 (l ++ (bytesB s n).take 0) := by simpa using hO
    have hb2 : Below w.heap.size w w1 := Below.trans ((Below.refl _ w).alloc (Nat.le_refl _) _) hb1
    clear hO hb1 hO1 hB1
    go_loopw [8, 9] (fun v i wr => ∃ k : Nat, k ≤ s ∧ ∃ A' c', v = .slice A' (l.length + k) c' ∧ i = .int .i64 ((s : Int) - 1 - k) ∧ Ow wr w.heap.size A' c' (l ++ (bytesB s n).take k) ∧ Below w.heap.size w wr) (fun v i _ => (intOf i + 1).toNat)
    case atStart => exact ⟨0, by omega, _, _, by simp, by simp, hO2, hb2⟩
    case round =>
      obtain ⟨k, hk, A', c', rfl, rfl, hR, hbr⟩ := hrel
      by_cases hlt : k < s
      · have hlen : (l ++ (bytesB s n).take k).length = l.length + k := by simp [bytesB_length]; omega
        have hv := bytesB_at s n k hlt
        rw [← pow256] at hv
        have hx := (bytesB_byt s n).at k
        have hO3 := hR.alloc (.cells #[.int .u8 (n / 2 ^ (8 * (s - 1 - k)) % 256)] 5)
        have hL := Ow.lit wr [atB (bytesB s n) k] #[.int .u8 (n / 2 ^ (8 * (s - 1 - k)) % 256)] (by simp [hv]) (Byt.nil.cons hx.1 hx.2) (by simp)
        have hsz := hbr.size
        have hT : l ++ (bytesB s n).take (k + 1) = (l ++ (bytesB s n).take k) ++ [atB (bytesB s n) k] := by rw [take_succ' _ k (by rw [bytesB_length]; exact hlt), List.append_assoc]
        go_wp2_with (at_builtin; refine wpList_append_bs rfl (.tmp 29) (.tmp 35) rfl (l.length + k) c' 1 1 (by rfl) (by rfl) hlen rfl hO3 hL.bs (by omega) (by simp; omega) ?_; intro A2 c2 w2 hO4 hb4 _)
        rw [← hT] at hO4
        exact ⟨⟨k + 1, by omega, A2, c2, rfl, by go_num, hO4, (hbr.alloc hsz _).trans hb4⟩, by simp [intOf]; omega⟩
      · obtain rfl : k = s := by omega
        have hsz := hbr.size
        rw [List.take_of_length_le (by rw [bytesB_length]; omega)] at hR
        go_wp2
        go_ret2
        exact ⟨A', c', rfl, hR, hsz, hbr⟩
set_option maxHeartbeats 1000000 in
theorem rappend_err (A : Option Addr) (c m : Nat) (n s : Int) (w : World) (hm : m ≤ 140737488351232) (hn : 0 ≤ n ∧ n < 18446744073709551616) (he : apE n s ≠ 0) :
    Calls Tryd.prog 26 #[.slice A m c, .int .u64 n, .int .i64 s] w fun e w' => e = .returned (.tuple #[.slice none 0 0, .int .i64 (apE n s)]) ∧ w = w' := by
  by_cases hs : 1 ≤ s ∧ s ≤ 8
  · obtain ⟨m, rfl⟩ : ∃ m : Nat, s = m := ⟨s.toNat, by omega⟩
    have hs1 := hs.1
    have hs2 := hs.2
    have hf : ¬ n < 256 ^ m := fun h => he (apE_0 (by omega) h)
    have HR : Hid (apE n m = 3) := apE_3 (by omega) hf
    have hf' : decide (n < 256 ^ m) = false := decide_eq_false hf
    clear he hf
    go_enter Tryd.func26, Tryd.ntmps26
    go_wp2_with (first | (go_at_call 37; ((with_reducible refine (fits_any n m w hn ⟨by omega, by omega⟩).mono ?_); rintro e w1 ⟨rfl, rfl⟩)))
    go_ret2
    exact ⟨by rw [HR.out]; rfl, rfl⟩
  · have HR : Hid (apE n s = 2) := apE_2 hs
    clear he
    by_cases h1 : 1 ≤ s
    · have h2 : ¬ s ≤ 8 := by omega
      clear hs
      go_enter Tryd.func26, Tryd.ntmps26
      go_wp2
      go_ret2
      exact ⟨by rw [HR.out]; rfl, rfl⟩
    · clear hs
      go_enter Tryd.func26, Tryd.ntmps26
      go_wp2
      go_ret2
      exact ⟨by rw [HR.out]; rfl, rfl⟩
end Go.Proofs.YtkgpeddncpdjjaaDoor
