/- Interval fields: put, get, the check of an interval. -/
import Derived.Test.YtjclifjipphnkaaSvD
import Derived.Test.YtjclifjipphnkaaExt
import Derived.Test.YtjclifjipphnkaaSlices
namespace Go.Proofs.Ytjclifjipphnkaa
open Go.RowKit
set_option linter.unusedSimpArgs false
set_option linter.unusedVariables false
set_option maxRecDepth 100000
abbrev ivL (a b : Int) : List Value := [.int .i64 a, .int .i64 b]
theorem sizeIv : (Try.prog.info? 46).map (·.size) = some 2 := by kernel_rfl
theorem zeroIv : (Try.prog.info? 46).map (·.zero) = some (some (.agg #[.int .i64 0, .int .i64 0])) := by kernel_rfl
def ivB (a b : Int) : Bool := decide (-8000000000000000000 ≤ a ∧ a ≤ b ∧ b ≤ 8000000000000000000)
theorem isInterval_any (a b : Int) (w : World) : Calls Try.prog 41 #[.agg (ivL a b).toArray] w fun e w' => e = .returned (.bool (ivB a b)) ∧ Below w.heap.size w w' := by
  by_cases h1 : -8000000000000000000 ≤ a
  · by_cases h2 : a ≤ b
    · by_cases h3 : b ≤ 8000000000000000000
      · have HD : Hid (ivB a b = true) := decide_eq_true ⟨h1, h2, h3⟩
        have h1' : decide (-8000000000000000000 ≤ a) = true := decide_eq_true h1
        have h2' : decide (a ≤ b) = true := decide_eq_true h2
        have h3' : decide (b ≤ 8000000000000000000) = true := decide_eq_true h3
        go_enter Try.func41, Try.ntmps41
        go_wp2_with (first | (refine wpl_box (by rfl) 46 _ (by rfl) _ (ivL a b) (by rfl) rfl ?_; intro w1 P1 s1 b1) | (refine wpl_loadf (by rfl) 3 _ (by rfl) w.heap.size 0 (by rfl) _ _ P1 _ rfl _ Try.underlying3 rfl ?_) | (refine wpl_loadf (by rfl) 3 _ (by rfl) w.heap.size 1 (by rfl) _ _ P1 _ rfl _ Try.underlying3 rfl ?_))
        go_ret
        exact ⟨ret_bool HD.out.symm, b1⟩
      · have HD : Hid (ivB a b = false) := decide_eq_false (fun h => h3 h.2.2)
        have h1' : decide (-8000000000000000000 ≤ a) = true := decide_eq_true h1
        have h2' : decide (a ≤ b) = true := decide_eq_true h2
        have h3' : decide (b ≤ 8000000000000000000) = false := decide_eq_false h3
        go_enter Try.func41, Try.ntmps41
        go_wp2_with (first | (refine wpl_box (by rfl) 46 _ (by rfl) _ (ivL a b) (by rfl) rfl ?_; intro w1 P1 s1 b1) | (refine wpl_loadf (by rfl) 3 _ (by rfl) w.heap.size 0 (by rfl) _ _ P1 _ rfl _ Try.underlying3 rfl ?_) | (refine wpl_loadf (by rfl) 3 _ (by rfl) w.heap.size 1 (by rfl) _ _ P1 _ rfl _ Try.underlying3 rfl ?_))
        go_ret
        exact ⟨ret_bool HD.out.symm, b1⟩
    · have HD : Hid (ivB a b = false) := decide_eq_false (fun h => h2 h.2.1)
      have h1' : decide (-8000000000000000000 ≤ a) = true := decide_eq_true h1
      have h2' : decide (a ≤ b) = false := decide_eq_false h2
      go_enter Try.func41, Try.ntmps41
      go_wp2_with (first | (refine wpl_box (by rfl) 46 _ (by rfl) _ (ivL a b) (by rfl) rfl ?_; intro w1 P1 s1 b1) | (refine wpl_loadf (by rfl) 3 _ (by rfl) w.heap.size 0 (by rfl) _ _ P1 _ rfl _ Try.underlying3 rfl ?_) | (refine wpl_loadf (by rfl) 3 _ (by rfl) w.heap.size 1 (by rfl) _ _ P1 _ rfl _ Try.underlying3 rfl ?_))
      go_ret
      exact ⟨ret_bool HD.out.symm, b1⟩
  · have HD : Hid (ivB a b = false) := decide_eq_false (fun h => h1 h.1)
    have h1' : decide (-8000000000000000000 ≤ a) = false := decide_eq_false h1
    go_enter Try.func41, Try.ntmps41
    go_wp2_with (first | (refine wpl_box (by rfl) 46 _ (by rfl) _ (ivL a b) (by rfl) rfl ?_; intro w1 P1 s1 b1) | (refine wpl_loadf (by rfl) 3 _ (by rfl) w.heap.size 0 (by rfl) _ _ P1 _ rfl _ Try.underlying3 rfl ?_) | (refine wpl_loadf (by rfl) 3 _ (by rfl) w.heap.size 1 (by rfl) _ _ P1 _ rfl _ Try.underlying3 rfl ?_))
    go_ret
    exact ⟨ret_bool HD.out.symm, b1⟩
def ivE (a b : Int) : Int := if ivB a b = true then 0 else 3
theorem ivE_no {a b : Int} (h : ivB a b = false) : ivE a b = 3 := by unfold ivE; rw [h]; rfl
theorem ivcheck_any (a b : Int) (w : World) : Calls Try.prog 43 #[.agg (ivL a b).toArray] w fun e w' => e = .returned (.int .i64 (ivE a b)) ∧ Below w.heap.size w w' := by
  by_cases h2 : b < a
  · have HD : Hid (ivE a b = 3) := ivE_no (decide_eq_false (fun h => by omega))
    have h2' : decide (b < a) = true := decide_eq_true h2
    go_enter Try.func43, Try.ntmps43
    go_wp2_with (first | (refine wpl_box (by rfl) 46 _ (by rfl) _ (ivL a b) (by rfl) rfl ?_; intro w1 P1 s1 b1) | (refine wpl_loadf (by rfl) 3 _ (by rfl) w.heap.size 0 (by rfl) _ _ P1 _ rfl _ Try.underlying3 rfl ?_) | (refine wpl_loadf (by rfl) 3 _ (by rfl) w.heap.size 1 (by rfl) _ _ P1 _ rfl _ Try.underlying3 rfl ?_))
    go_ret
    exact ⟨ret_int HD.out.symm, b1⟩
  · have h2' : decide (b < a) = false := decide_eq_false h2
    by_cases h1 : a < -8000000000000000000
    · have HD : Hid (ivE a b = 3) := ivE_no (decide_eq_false (fun h => by omega))
      have h1' : decide (a < -8000000000000000000) = true := decide_eq_true h1
      go_enter Try.func43, Try.ntmps43
      go_wp2_with (first | (refine wpl_box (by rfl) 46 _ (by rfl) _ (ivL a b) (by rfl) rfl ?_; intro w1 P1 s1 b1) | (refine wpl_loadf (by rfl) 3 _ (by rfl) w.heap.size 0 (by rfl) _ _ P1 _ rfl _ Try.underlying3 rfl ?_) | (refine wpl_loadf (by rfl) 3 _ (by rfl) w.heap.size 1 (by rfl) _ _ P1 _ rfl _ Try.underlying3 rfl ?_))
      go_ret
      exact ⟨ret_int HD.out.symm, b1⟩
    · have h1' : decide (a < -8000000000000000000) = false := decide_eq_false h1
      by_cases h3 : 8000000000000000000 < b
      · have HD : Hid (ivE a b = 3) := ivE_no (decide_eq_false (fun h => by omega))
        have h3' : decide (8000000000000000000 < b) = true := decide_eq_true h3
        go_enter Try.func43, Try.ntmps43
        go_wp2_with (first | (refine wpl_box (by rfl) 46 _ (by rfl) _ (ivL a b) (by rfl) rfl ?_; intro w1 P1 s1 b1) | (refine wpl_loadf (by rfl) 3 _ (by rfl) w.heap.size 0 (by rfl) _ _ P1 _ rfl _ Try.underlying3 rfl ?_) | (refine wpl_loadf (by rfl) 3 _ (by rfl) w.heap.size 1 (by rfl) _ _ P1 _ rfl _ Try.underlying3 rfl ?_))
        go_ret
        exact ⟨ret_int HD.out.symm, b1⟩
      · have HD : Hid (ivE a b = 0) := if_pos (decide_eq_true ⟨by omega, by omega, by omega⟩)
        have h3' : decide (8000000000000000000 < b) = false := decide_eq_false h3
        go_enter Try.func43, Try.ntmps43
        go_wp2_with (first | (refine wpl_box (by rfl) 46 _ (by rfl) _ (ivL a b) (by rfl) rfl ?_; intro w1 P1 s1 b1) | (refine wpl_loadf (by rfl) 3 _ (by rfl) w.heap.size 0 (by rfl) _ _ P1 _ rfl _ Try.underlying3 rfl ?_) | (refine wpl_loadf (by rfl) 3 _ (by rfl) w.heap.size 1 (by rfl) _ _ P1 _ rfl _ Try.underlying3 rfl ?_))
        go_ret
        exact ⟨ret_int HD.out.symm, b1⟩
/-! ### put and get -/
def u64 (n : Int) : Int := n % 18446744073709551616
theorem u64_rng (n : Int) : 0 ≤ u64 n ∧ u64 n < 18446744073709551616 := by unfold u64; omega
/-- the cells while bytes are put: those from k on are there -/
def ptC (cs : List Value) (off : Nat) (N : Int) (k : Nat) : List Value := cs.take (off + k) ++ (((bytesB 8 N).drop k).map (Value.int .u8) ++ cs.drop (off + 8))
theorem ptC_len {cs : List Value} {off : Nat} {N : Int} {k : Nat} (h : off + 8 ≤ cs.length) (hk : k ≤ 8) : (ptC cs off N k).length = cs.length := by
  unfold ptC
  simp only [List.length_append, List.length_take, List.length_map, List.length_drop, bytesB_length]
  omega
theorem ptC_set {cs : List Value} {off : Nat} {N : Int} {k : Nat} (h : off + 8 ≤ cs.length) (hk : k < 8) : (ptC cs off N (k + 1)).set (off + k) (.int .u8 (atB (bytesB 8 N) k)) = ptC cs off N k := by
  unfold ptC
  have e1 : cs.take (off + (k + 1)) = cs.take (off + k) ++ [cs[off + k]'(by omega)] := by
    rw [← Nat.add_assoc, List.take_succ_eq_append_getElem (by omega)]
  have e2 : (bytesB 8 N).drop k = atB (bytesB 8 N) k :: (bytesB 8 N).drop (k + 1) := by
    rw [List.drop_eq_getElem_cons (by rw [bytesB_length]; omega)]
    congr 1
    unfold atB
    rw [List.getD_eq_getElem?_getD, List.getElem?_eq_getElem (by rw [bytesB_length]; omega)]
    rfl
  have hl : (cs.take (off + k)).length = off + k := by rw [List.length_take]; omega
  rw [e1, e2, List.append_assoc, List.set_append_right _ _ (by omega), hl, Nat.sub_self]
  simp
theorem ptC_8 {cs : List Value} {off : Nat} {N : Int} (h : off + 8 ≤ cs.length) : ptC cs off N 8 = cs := by
  unfold ptC
  rw [List.drop_of_length_le (by rw [bytesB_length]; omega)]
  simp
set_option maxHeartbeats 1000000 in
theorem sput_any (g off c : Nat) (cs : List Value) (t : TypeId) (n : Int) (w : World) (H : Blk w g t cs) (hl : off + 8 ≤ cs.length) (hc : 8 ≤ c) :
    Calls Try.prog 42 #[.slice (some ⟨g, off, none⟩) 8 c, .int .i64 n] w fun e w' => e = .returned (.tuple #[]) ∧ Blk w' g t (ptC cs off (u64 n) 0) ∧ But g w w' := by
  have hu := u64_rng n
  have hw : IntKind.u64.wrap n = u64 n := IntKind.wrap_u64 n
  generalize u64 n = N at hu hw ⊢
  go_enter Try.func42, Try.ntmps42
  go_wp2
  go_loopw [4, 5] (fun r i wr => But g w wr ∧ ((∃ j : Nat, j < 8 ∧ i = .int .i64 j ∧ r = .int .u64 (N / 256 ^ (7 - j)) ∧ Blk wr g t (ptC cs off N (j + 1))) ∨ (i = .int .i64 (-1) ∧ Blk wr g t (ptC cs off N 0)))) (fun _ i _ => (intOf i + 1).toNat)
  case atStart => exact ⟨But.refl _ _, .inl ⟨7, by omega, rfl, by simp, by rw [ptC_8 hl]; exact H⟩⟩
  case round =>
    obtain ⟨hB, ⟨j, hj, rfl, rfl, hH⟩ | ⟨rfl, hH⟩⟩ := hrel
    · have hv : Hid (IntKind.u8.wrap (N / 256 ^ (7 - j)) = atB (bytesB 8 N) j) := by
        show IntKind.u8.wrap _ = _
        rw [bytesB_at 8 N j hj, IntKind.wrap_u8]
      have hlen := ptC_len (N := N) (k := j + 1) hl (by omega)
      have hset := ptC_set (N := N) hl hj
      have hj1 : (j : Int) < 8 := by omega
      have hj0 : (0 : Int) ≤ j := by omega
      have hq : ∀ m : Nat, N / 256 ^ m / 256 = N / 256 ^ (m + 1) := fun m => by rw [Int.pow_succ, Int.ediv_ediv_of_nonneg (Int.pow_nonneg (by omega))]
      have HQ := Lib.hid hq
      clear hq hu hw
      go_wp2_with (refine wpl_storeg (by rfl) 5 _ _ (by rfl) g (off + j) (by rfl) (.int .u8 (IntKind.u8.wrap (N / 256 ^ (7 - j)))) (by rfl) (by rfl) (by simp [Value.oneCell']) _ _ (ptC cs off N j) hH (by rw [hlen]; omega) sizeU8 (by rw [hv.out]; exact hset) ?_; intro w2 H2 s2 g2)
      refine ⟨⟨hB.trans g2, ?_⟩, by simp [intOf] <;> omega⟩
      rcases j with _ | j
      · exact .inr ⟨by simp, H2⟩
      · refine .inl ⟨j, by omega, by simp, vint ?_, H2⟩
        have := HQ.out (7 - (j + 1))
        rw [show 7 - (j + 1) + 1 = 7 - j by omega] at this
        exact this
    · go_wp2
      go_end0
      exact ⟨rfl, hH, hB⟩
end Go.Proofs.Ytjclifjipphnkaa
