/- Contracts of Auth, Split, Same and few. -/
import Derived.Test.YtloopnfnbhdlmaaEx5
import Derived.Test.YtloopnfnbhdlmaaBy
import Derived.Test.YtloopnfnbhdlmaaDet
namespace Go.Proofs.Ytloopnfnbhdlmaa
open Go.RowKit
set_option linter.unusedSimpArgs false
set_option linter.unusedVariables false
set_option maxRecDepth 100000
set_option maxHeartbeats 1000000 in
theorem auth_any (id tag : Int) (w : World) (h0 : 0 ≤ id) (h1 : id ≤ 4294967295) (h2 : 0 ≤ tag) (h3 : tag ≤ 18446744073709551615) :
    Calls Try.prog 18 #[.int .u32 id, .int .u64 tag] w fun e w' => ∃ A' c', e = .returned (.slice A' 12 c') ∧ Ow w' w.heap.size A' c' (bytesB 4 id ++ bytesB 8 tag) ∧ Below w.heap.size w w' := by
  have hE := append_ok none 0 0 0 0 [] id 4 w rfl Bs.nil (Nat.zero_le _) (by omega) (by omega) (by omega) (by omega) (by have := (show (256 : Int) ^ 4 = 4294967296 from by decide); omega)
  go_enter Try.func18, Try.ntmps18
  go_wp2_with fail
  refine hE.mono ?_
  rintro e w1 ⟨rfl, O1, z1, b1⟩
  have O1' : Ow w1 w.heap.size (some ⟨w.heap.size, 0, none⟩) 4 (bytesB 4 id) := by simpa using O1
  clear hE O1 z1
  have hE := append_ok (some ⟨w.heap.size, 0, none⟩) 4 4 _ _ (bytesB 4 id) tag 8 w1 (bytesB_length _ _) O1'.bs (Nat.le_refl _) (by omega) (by omega) (by omega) (by omega) (by have := (show (256 : Int) ^ 8 = 18446744073709551616 from by decide); omega)
  go_wp2_with fail
  refine hE.mono ?_
  rintro e w2 ⟨rfl, O2, z2, b2⟩
  go_wp2
  go_ret
  exact ⟨_, _, rfl, O2.wide b1.size, b1.trans (b2.mono b1.size)⟩
set_option maxHeartbeats 1000000 in
theorem split_12 (A : Option Addr) (c lo hi : Nat) (l : List Int) (w : World) (hn : l.length = 12) (h : Bs w lo hi A l) (hm : 12 ≤ c) (hc : c ≤ 9223372036854775807) :
    Calls Try.prog 19 #[.slice A 12 c] w fun e w' => e = .returned (.tuple #[.int .u32 (numB (l.take 4)), .int .u64 (numB ((l.drop 4).take 8)), .int .i64 0]) ∧ w = w' := by
  have hE := get_any A 12 c lo hi l 0 4 w hn h hm hc (by omega)
  have hE2 := get_any A 12 c lo hi l 4 8 w hn h hm hc (by omega)
  unfold getR at hE hE2
  rw [getE_0 (by omega) (by omega)] at hE hE2
  have e1 : z0 0 (getV l 0 4) = numB (l.take 4) := by unfold getV z0; simp
  have e2 : z0 0 (getV l 4 8) = numB ((l.drop 4).take 8) := by unfold getV z0; simp
  rw [e1] at hE
  rw [e2] at hE2
  have hr := (numB_range (l.take 4)).1
  have hl := numB_le_pow' (h.byt.take 4)
  rw [List.length_take, hn] at hl
  have hl2 : numB (l.take 4) ≤ 4294967295 := by have : (256 : Int) ^ (min 4 12) = 4294967296 := by decide
                                                omega
  clear hl e1 e2
  generalize numB (l.take 4) = X at hE hr hl2
  generalize numB ((l.drop 4).take 8) = Y at hE2
  go_enter Try.func19, Try.ntmps19
  go_wp2_with (first
    | (go_at_call 26; ((with_reducible refine hE.mono ?_); rintro e _ ⟨rfl, rfl⟩))
    | (go_at_call 26; ((with_reducible refine hE2.mono ?_); rintro e _ ⟨rfl, rfl⟩)))
  go_ret3
  exact ⟨rfl, rfl⟩
set_option maxHeartbeats 4000000 in
theorem same_eq (A B : Option Addr) (n c d : Nat) (L : Flds) (w : World) (hn : L.length = n) (hA : Xs w w.heap.size A L) (hB : Xs w w.heap.size B L) (hc : n ≤ c) (hc2 : c ≤ 9223372036854775807) (hd : n ≤ d) (hd2 : d ≤ 9223372036854775807) :
    Calls Try.prog 17 #[.slice A n c, .slice B n d] w fun e w' => e = .returned (.bool true) ∧ Below w.heap.size w w' := by
  go_enter Try.func17, Try.ntmps17
  go_wp2
  go_loopw [5] (fun i wr => ∃ k : Nat, k ≤ n ∧ i = .int .i64 k ∧ Below w.heap.size w wr) (fun i _ => n - (intOf i).toNat)
  case atStart => exact ⟨0, by omega, rfl, Below.refl _ _⟩
  case round =>
    obtain ⟨k, hk, rfl, hBw⟩ := hrel
    by_cases hlt : k < n
    · obtain ⟨b, o, rfl, hbw, hx⟩ := (hA.below hBw (Nat.le_refl _)) (by omega)
      obtain ⟨b', o', rfl, hbw', hx'⟩ := (hB.below hBw (Nat.le_refl _)) (by omega)
      obtain ⟨Ak, ck, p0, p1, hBk, _⟩ := hx k (by omega)
      obtain ⟨Bk, dk, q0, q1, hBk', _⟩ := hx' k (by omega)
      have v1 := strOf_conv' (c := ck) rfl hBk.drew
      have v2 := strOf_conv' (c := dk) rfl hBk'.drew
      have hi0 : (0 : Int) ≤ k := by omega
      have hi1 : (k : Int) < n := by omega
      generalize strOf (dtL L k) = s at v1 v2
      generalize (dtL L k).length = D at p1 q1 v1 v2
      generalize kdL L k = K at p0 q0
      clear hx hx' hA hB hBk hBk'
      go_wp2_with fail
      refine wp_region_det (fun w' => w' = wr.drew) 26 (by kernel_rfl) rfl (by rfl) ?_
      simp only [List.replicate]
      (refine wpD_take (i := 0) (v := _) (by simp only [List.getElem?_toArray, List.getElem?_cons_succ, List.getElem?_cons_zero]; rfl) (by kernel_rfl) (by kernel_rfl) (by kernel_rfl) (by rfl) (YS.of_value (by intro w' hSw; (try dsimp only at hSw); go_simp; first | done | with_reducible rfl)) ?_; (try simp only [Act.put, List.setIfInBounds_toArray, List.set_cons_zero, List.set_cons_succ]))
      (refine wpD_take (i := 1) (v := _) (by simp only [List.getElem?_toArray, List.getElem?_cons_succ, List.getElem?_cons_zero]; rfl) (by kernel_rfl) (by kernel_rfl) (by kernel_rfl) (by rfl) (YS.of_value (by intro w' hSw; (try dsimp only at hSw); go_simp; first | done | with_reducible rfl)) ?_; (try simp only [Act.put, List.setIfInBounds_toArray, List.set_cons_zero, List.set_cons_succ]))
      (refine wpD_take (i := 2) (v := _) (by simp only [List.getElem?_toArray, List.getElem?_cons_succ, List.getElem?_cons_zero]; rfl) (by kernel_rfl) (by kernel_rfl) (by kernel_rfl) (by rfl) (YS.of_value (by intro w' hSw; (try dsimp only at hSw); go_simp; first | done | with_reducible rfl)) ?_; (try simp only [Act.put, List.setIfInBounds_toArray, List.set_cons_zero, List.set_cons_succ]))
      (refine wpD_take (i := 3) (v := _) (by simp only [List.getElem?_toArray, List.getElem?_cons_succ, List.getElem?_cons_zero]; rfl) (by kernel_rfl) (by kernel_rfl) (by kernel_rfl) (by rfl) (YS.of_value (by intro w' hSw; (try dsimp only at hSw); go_simp; first | done | with_reducible rfl)) ?_; (try simp only [Act.put, List.setIfInBounds_toArray, List.set_cons_zero, List.set_cons_succ]))
      (refine wpD_take (i := 4) (v := _) (by simp only [List.getElem?_toArray, List.getElem?_cons_succ, List.getElem?_cons_zero]; rfl) (by kernel_rfl) (by kernel_rfl) (by kernel_rfl) (by rfl) (YS.of_value (by intro w' hSw; (try dsimp only at hSw); go_simp; first | done | with_reducible rfl)) ?_; (try simp only [Act.put, List.setIfInBounds_toArray, List.set_cons_zero, List.set_cons_succ]))
      (refine wpD_take (i := 5) (v := _) (by simp only [List.getElem?_toArray, List.getElem?_cons_succ, List.getElem?_cons_zero]; rfl) (by kernel_rfl) (by kernel_rfl) (by kernel_rfl) (by rfl) (YS.of_value (by intro w' hSw; (try dsimp only at hSw); go_simp; first | done | with_reducible rfl)) ?_; (try simp only [Act.put, List.setIfInBounds_toArray, List.set_cons_zero, List.set_cons_succ]))
      (refine wpD_take (i := 6) (v := _) (by simp only [List.getElem?_toArray, List.getElem?_cons_succ, List.getElem?_cons_zero]; rfl) (by kernel_rfl) (by kernel_rfl) (by kernel_rfl) (by rfl) (YS.of_value (by intro w' hSw; (try dsimp only at hSw); go_simp; first | done | with_reducible rfl)) ?_; (try simp only [Act.put, List.setIfInBounds_toArray, List.set_cons_zero, List.set_cons_succ]))
      (refine wpD_take (i := 7) (v := _) (by simp only [List.getElem?_toArray, List.getElem?_cons_succ, List.getElem?_cons_zero]; rfl) (by kernel_rfl) (by kernel_rfl) (by kernel_rfl) (by rfl) (YS.of_value (by intro w' hSw; (try dsimp only at hSw); go_simp; first | done | with_reducible rfl)) ?_; (try simp only [Act.put, List.setIfInBounds_toArray, List.set_cons_zero, List.set_cons_succ]))
      (refine wpD_take (i := 8) (v := _) (by simp only [List.getElem?_toArray, List.getElem?_cons_succ, List.getElem?_cons_zero]; rfl) (by kernel_rfl) (by kernel_rfl) (by kernel_rfl) (by rfl) (YS.of_value (by intro w' hSw; (try dsimp only at hSw); go_simp; first | done | with_reducible rfl)) ?_; (try simp only [Act.put, List.setIfInBounds_toArray, List.set_cons_zero, List.set_cons_succ]))
      (refine wpD_take (i := 9) (v := _) (by simp only [List.getElem?_toArray, List.getElem?_cons_succ, List.getElem?_cons_zero]; rfl) (by kernel_rfl) (by kernel_rfl) (by kernel_rfl) (by rfl) (YS.of_value (by intro w' hSw; (try dsimp only at hSw); go_simp; first | done | with_reducible rfl)) ?_; (try simp only [Act.put, List.setIfInBounds_toArray, List.set_cons_zero, List.set_cons_succ]))
      (refine wpD_take (i := 10) (v := _) (by simp only [List.getElem?_toArray, List.getElem?_cons_succ, List.getElem?_cons_zero]; rfl) (by kernel_rfl) (by kernel_rfl) (by kernel_rfl) (by rfl) (YS.of_value (by intro w' hSw; (try dsimp only at hSw); go_simp; first | done | with_reducible rfl)) ?_; (try simp only [Act.put, List.setIfInBounds_toArray, List.set_cons_zero, List.set_cons_succ]))
      (refine wpD_take (i := 11) (v := _) (by simp only [List.getElem?_toArray, List.getElem?_cons_succ, List.getElem?_cons_zero]; rfl) (by kernel_rfl) (by kernel_rfl) (by kernel_rfl) (by rfl) (YS.of_value (by intro w' hSw; (try dsimp only at hSw); go_simp; first | done | with_reducible rfl)) ?_; (try simp only [Act.put, List.setIfInBounds_toArray, List.set_cons_zero, List.set_cons_succ]))
      (refine wpD_take (i := 12) (v := _) (by simp only [List.getElem?_toArray, List.getElem?_cons_succ, List.getElem?_cons_zero]; rfl) (by kernel_rfl) (by kernel_rfl) (by kernel_rfl) (by rfl) (YS.of_value (by intro w' hSw; (try dsimp only at hSw); go_simp; first | done | with_reducible rfl)) ?_; (try simp only [Act.put, List.setIfInBounds_toArray, List.set_cons_zero, List.set_cons_succ]))
      (refine wpD_take (i := 13) (v := _) (by simp only [List.getElem?_toArray, List.getElem?_cons_succ, List.getElem?_cons_zero]; rfl) (by kernel_rfl) (by kernel_rfl) (by kernel_rfl) (by rfl) (YS.of_value (by intro w' hSw; (try dsimp only at hSw); go_simp; first | done | with_reducible rfl)) ?_; (try simp only [Act.put, List.setIfInBounds_toArray, List.set_cons_zero, List.set_cons_succ]))
      (refine wpD_take (i := 14) (v := _) (by simp only [List.getElem?_toArray, List.getElem?_cons_succ, List.getElem?_cons_zero]; rfl) (by kernel_rfl) (by kernel_rfl) (by kernel_rfl) (by rfl) (YS.of_value (by intro w' hSw; (try dsimp only at hSw); go_simp; first | done | with_reducible rfl)) ?_; (try simp only [Act.put, List.setIfInBounds_toArray, List.set_cons_zero, List.set_cons_succ]))
      (refine wpD_take (i := 15) (v := _) (by simp only [List.getElem?_toArray, List.getElem?_cons_succ, List.getElem?_cons_zero]; rfl) (by kernel_rfl) (by kernel_rfl) (by kernel_rfl) (by rfl) (YS.of_value (by intro w' hSw; (try dsimp only at hSw); go_simp; first | done | with_reducible rfl)) ?_; (try simp only [Act.put, List.setIfInBounds_toArray, List.set_cons_zero, List.set_cons_succ]))
      (refine wpD_take (i := 16) (v := _) (by simp only [List.getElem?_toArray, List.getElem?_cons_succ, List.getElem?_cons_zero]; rfl) (by kernel_rfl) (by kernel_rfl) (by kernel_rfl) (by rfl) (YS.of_value (by intro w' hSw; (try dsimp only at hSw); go_simp; first | done | with_reducible rfl)) ?_; (try simp only [Act.put, List.setIfInBounds_toArray, List.set_cons_zero, List.set_cons_succ]))
      (refine wpD_take (i := 17) (v := _) (by simp only [List.getElem?_toArray, List.getElem?_cons_succ, List.getElem?_cons_zero]; rfl) (by kernel_rfl) (by kernel_rfl) (by kernel_rfl) (by rfl) (YS.of_value (by intro w' hSw; (try dsimp only at hSw); go_simp; first | done | with_reducible rfl)) ?_; (try simp only [Act.put, List.setIfInBounds_toArray, List.set_cons_zero, List.set_cons_succ]))
      (refine wpD_take (i := 18) (v := _) (by simp only [List.getElem?_toArray, List.getElem?_cons_succ, List.getElem?_cons_zero]; rfl) (by kernel_rfl) (by kernel_rfl) (by kernel_rfl) (by rfl) (YS.of_value (by intro w' hSw; (try dsimp only at hSw); go_simp; first | done | with_reducible rfl)) ?_; (try simp only [Act.put, List.setIfInBounds_toArray, List.set_cons_zero, List.set_cons_succ]))
      (refine wpD_take (i := 19) (v := _) (by simp only [List.getElem?_toArray, List.getElem?_cons_succ, List.getElem?_cons_zero]; rfl) (by kernel_rfl) (by kernel_rfl) (by kernel_rfl) (by rfl) (YS.of_value (by intro w' hSw; (try dsimp only at hSw); go_simp; first | done | with_reducible rfl)) ?_; (try simp only [Act.put, List.setIfInBounds_toArray, List.set_cons_zero, List.set_cons_succ]))
      (refine wpD_take (i := 20) (v := _) (by simp only [List.getElem?_toArray, List.getElem?_cons_succ, List.getElem?_cons_zero]; rfl) (by kernel_rfl) (by kernel_rfl) (by kernel_rfl) (by rfl) (YS.of_value (by intro w' hSw; (try dsimp only at hSw); go_simp; first | done | with_reducible rfl)) ?_; (try simp only [Act.put, List.setIfInBounds_toArray, List.set_cons_zero, List.set_cons_succ]))
      (refine wpD_take (i := 21) (v := _) (by simp only [List.getElem?_toArray, List.getElem?_cons_succ, List.getElem?_cons_zero]; rfl) (by kernel_rfl) (by kernel_rfl) (by kernel_rfl) (by rfl) (YS.of_value (by intro w' hSw; (try dsimp only at hSw); go_simp; first | done | with_reducible rfl)) ?_; (try simp only [Act.put, List.setIfInBounds_toArray, List.set_cons_zero, List.set_cons_succ]))
      (refine wpD_take (i := 22) (v := _) (by simp only [List.getElem?_toArray, List.getElem?_cons_succ, List.getElem?_cons_zero]; rfl) (by kernel_rfl) (by kernel_rfl) (by kernel_rfl) (by rfl) (YS.of_value (by intro w' hSw; (try dsimp only at hSw); go_simp; first | done | with_reducible rfl)) ?_; (try simp only [Act.put, List.setIfInBounds_toArray, List.set_cons_zero, List.set_cons_succ]))
      (refine wpD_take (i := 23) (v := _) (by simp only [List.getElem?_toArray, List.getElem?_cons_succ, List.getElem?_cons_zero]; rfl) (by kernel_rfl) (by kernel_rfl) (by kernel_rfl) (by rfl) (YS.of_value (by intro w' hSw; (try dsimp only at hSw); go_simp; first | done | with_reducible rfl)) ?_; (try simp only [Act.put, List.setIfInBounds_toArray, List.set_cons_zero, List.set_cons_succ]))
      (refine wpD_take (i := 24) (v := _) (by simp only [List.getElem?_toArray, List.getElem?_cons_succ, List.getElem?_cons_zero]; rfl) (by kernel_rfl) (by kernel_rfl) (by kernel_rfl) (by rfl) (YS.of_value (by intro w' hSw; (try dsimp only at hSw); go_simp; first | done | with_reducible rfl)) ?_; (try simp only [Act.put, List.setIfInBounds_toArray, List.set_cons_zero, List.set_cons_succ]))
      (refine wpD_take (i := 25) (v := _) (by simp only [List.getElem?_toArray, List.getElem?_cons_succ, List.getElem?_cons_zero]; rfl) (by kernel_rfl) (by kernel_rfl) (by kernel_rfl) (by rfl) (YS.of_value (by intro w' hSw; (try dsimp only at hSw); go_simp; first | done | with_reducible rfl)) ?_; (try simp only [Act.put, List.setIfInBounds_toArray, List.set_cons_zero, List.set_cons_succ]))
      refine wpD_done (by kernel_rfl) ?_ _
      rintro _ rfl
      go_wp2_with fail
      exact ⟨⟨k + 1, by omega, by go_num, hBw.drew⟩, by simp [intOf]; omega⟩
    · obtain rfl : n = k := by omega
      go_wp2
      go_ret
      exact ⟨rfl, hBw⟩
def fewB (L : Flds) : Bool := (L.all fun t => decide (t.2.length ≤ 400)) && decide (L.length ≤ 24)
theorem fewB_no {L : Flds} {k : Nat} (hk : k < L.length) (h : 400 < (dtL L k).length) : fewB L = false := by
  unfold fewB
  have : (L.all fun t => decide (t.2.length ≤ 400)) = false := by
    rw [List.all_eq_false]
    exact ⟨_, kd_mem hk, by simp; omega⟩
  rw [this]; rfl
theorem fewB_len {L : Flds} (h : ∀ j, j < L.length → (dtL L j).length ≤ 400) : fewB L = decide (L.length ≤ 24) := by
  unfold fewB
  have : (L.all fun t => decide (t.2.length ≤ 400)) = true := by
    rw [List.all_eq_true]
    intro t ht
    obtain ⟨i, hi, rfl⟩ := List.mem_iff_getElem.1 ht
    have h2 := h i hi
    unfold dtL at h2
    rw [List.getD_eq_getElem?_getD, List.getElem?_eq_getElem hi] at h2
    simpa using h2
  rw [this]; rfl
theorem fewB_yes {L : Flds} (h : fewB L = true) : L.length ≤ 24 ∧ ∀ k, k < L.length → (dtL L k).length ≤ 400 := by
  unfold fewB at h
  simp only [Bool.and_eq_true, List.all_eq_true, decide_eq_true_eq] at h
  exact ⟨h.2, fun k hk => h.1 _ (kd_mem hk)⟩
set_option maxHeartbeats 4000000 in
theorem few_any (B : Option Addr) (m d : Nat) (L : Flds) (w : World) (hm : L.length = m) (hX : Xs w w.heap.size B L) (hmd : m ≤ d) (hd : d ≤ 9223372036854775807) :
    Calls Try.prog 8 #[.slice B m d] w fun e w' => e = .returned (.bool (fewB L)) ∧ Below w.heap.size w w' := by
  go_enter Try.func8, Try.ntmps8
  go_wp2
  go_loopw [7] (fun i wr => ∃ k : Nat, k ≤ m ∧ i = .int .i64 k ∧ Hid (∀ j, j < k → (dtL L j).length ≤ 400) ∧ Below w.heap.size w wr) (fun i _ => m - (intOf i).toNat)
  case atStart => exact ⟨0, by omega, rfl, fun j hj => absurd hj (by omega), Below.refl _ _⟩
  case round =>
    obtain ⟨k, hk, rfl, hV, hB⟩ := hrel
    by_cases hlt : k < m
    · skip
      obtain ⟨b, o, rfl, hbw, hx⟩ := (hX.below hB (Nat.le_refl _)) (by omega)
      obtain ⟨Ak, ck, hrg, hBk, hlc, hcm, hno⟩ := (hx k (by omega)).open'
      have hi0 : (0 : Int) ≤ k := by omega
      have hi1 : (k : Int) < m := by omega
      obtain ⟨K, hK⟩ : ∃ K, K = kdL L k := ⟨_, rfl⟩
      obtain ⟨D, hD⟩ : ∃ D, D = (dtL L k).length := ⟨_, rfl⟩
      rw [← hK, ← hD] at hrg
      rw [← hD] at hlc hno
      have HK := Lib.hid hK
      have HD := Lib.hid hD
      clear hx hK hD
      by_cases h4 : 400 < D
      · have d4 : decide (400 < (D : Int)) = true := decide_eq_true (by omega)
        have HF : Hid (fewB L = false) := fewB_no (k := k) (by omega) (by rw [← HD.out]; exact h4)
        clear h4
        go_wp2_with (first
          | (refine wpl_loadr (by rfl) 27 _ (by rfl) b (o + k * 2) (by rfl) _ hrg _ Try.underlying27 rfl _ sizeExt (by rfl) ?_)
          | (refine wpl_alloc (by rfl) 27 (by rfl) (.agg (exC 0 none 0 0).toArray) (exC 0 none 0 0) zeroExt rfl ?_; intro wa Ja sa ba)
          | (refine wpl_store (by rfl) 27 _ _ (by rfl) wr.heap.size (by rfl) _ (by rfl) (exC K Ak D ck) rfl 27 _ Ja (by rfl) _ sizeExt (by rfl) (by simp [Value.oneCell']) ?_; intro wb Jb sb gb)
          | (refine wpl_loadf (by rfl) 22 _ (by rfl) wr.heap.size 1 (by rfl) _ _ Jb _ rfl _ Try.underlying22 rfl ?_))
        go_ret
        exact ⟨by rw [HF.out]; rfl, (hB.trans (ba.mono hB.size)).trans (gb.below (by have := hB.size; omega) hB.size)⟩
      · have d4 : decide (400 < (D : Int)) = false := decide_eq_false (by omega)
        have hV' : Hid (∀ j, j < k + 1 → (dtL L j).length ≤ 400) := fun j hj => by
          rcases Nat.lt_or_ge j k with h1 | h1
          · exact hV.out j h1
          · obtain rfl : j = k := by omega
            rw [← HD.out]; omega
        clear h4
        go_wp2_with (first
          | (refine wpl_loadr (by rfl) 27 _ (by rfl) b (o + k * 2) (by rfl) _ hrg _ Try.underlying27 rfl _ sizeExt (by rfl) ?_)
          | (refine wpl_alloc (by rfl) 27 (by rfl) (.agg (exC 0 none 0 0).toArray) (exC 0 none 0 0) zeroExt rfl ?_; intro wa Ja sa ba)
          | (refine wpl_store (by rfl) 27 _ _ (by rfl) wr.heap.size (by rfl) _ (by rfl) (exC K Ak D ck) rfl 27 _ Ja (by rfl) _ sizeExt (by rfl) (by simp [Value.oneCell']) ?_; intro wb Jb sb gb)
          | (refine wpl_loadf (by rfl) 22 _ (by rfl) wr.heap.size 1 (by rfl) _ _ Jb _ rfl _ Try.underlying22 rfl ?_))
        exact ⟨⟨k + 1, by omega, by go_num, hV', (hB.trans (ba.mono hB.size)).trans (gb.below (by have := hB.size; omega) hB.size)⟩, by simp [intOf]; omega⟩
    · obtain rfl : m = k := by omega
      have HF : Hid (fewB L = decide (m ≤ 24)) := by show _ = _; rw [fewB_len (fun j hj => hV.out j (by omega)), hm]
      go_wp2
      go_ret
      exact ⟨by rw [HF.out]; first | rfl | (congr 2; simp; omega), hB⟩
end Go.Proofs.Ytloopnfnbhdlmaa
