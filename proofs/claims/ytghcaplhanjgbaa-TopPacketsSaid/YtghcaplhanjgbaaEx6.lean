/- Contracts of Auth, Split, Same and few. -/
import Derived.Test.YtghcaplhanjgbaaEx5
import Derived.Test.YtghcaplhanjgbaaBy
import Derived.Test.YtghcaplhanjgbaaDet
namespace Go.Proofs.Ytghcaplhanjgbaa
open Go.RowKit
set_option linter.unusedSimpArgs false
set_option linter.unusedVariables false
set_option maxRecDepth 100000
set_option maxHeartbeats 1000000 in
theorem auth_any (id tag : Int) (w : World) (h0 : 0 ≤ id) (h1 : id ≤ 4294967295) (h2 : 0 ≤ tag) (h3 : tag ≤ 18446744073709551615) :
    Calls Try.prog 9 #[.int .u32 id, .int .u64 tag] w fun e w' => ∃ A' c', e = .returned (.slice A' 12 c') ∧ Ow w' w.heap.size A' c' (bytesB 4 id ++ bytesB 8 tag) ∧ Below w.heap.size w w' := by
  have hE := append_ok none 0 0 0 0 [] id 4 w rfl Bs.nil (Nat.zero_le _) (by omega) (by omega) (by omega) (by omega) (by have := (show (256 : Int) ^ 4 = 4294967296 from by decide); omega)
  go_enter Try.func9, Try.ntmps9
  go_wp2_with fail
  refine hE.mono ?_
  rintro e w1 ⟨rfl, O1, z1, b1⟩
  have O1' : Ow w1 w.heap.size (some ⟨w.heap.size, 0, none⟩) 4 (bytesB 4 id) := by simpa using O1
  clear hE O1 z1
  have hE := append_ok (some ⟨w.heap.size, 0, none⟩) 4 4 _ _ (bytesB 4 id) tag 8 w1 (bytesB_length _ _) O1'.bs (Nat.le_refl _) (by omega) (by omega) (by omega) (by omega) (by have := (show (256 : Int) ^ 8 = 18446744073709551616 from by decide); omega)
  go_wp2_with fail
  refine hE.mono ?_
  rintro e w2 ⟨rfl, O2, z2, b2⟩
  go_wp2
  go_ret
  exact ⟨_, _, rfl, O2.wide b1.size, b1.trans (b2.mono b1.size)⟩
set_option maxHeartbeats 1000000 in
theorem split_12 (A : Option Addr) (c lo hi : Nat) (l : List Int) (w : World) (hn : l.length = 12) (h : Bs w lo hi A l) (hm : 12 ≤ c) (hc : c ≤ 9223372036854775807) :
    Calls Try.prog 12 #[.slice A 12 c] w fun e w' => e = .returned (.tuple #[.int .u32 (numB (l.take 4)), .int .u64 (numB ((l.drop 4).take 8)), .int .i64 0]) ∧ w = w' := by
  have hE := get_any A 12 c lo hi l 0 4 w hn h hm hc (by omega)
  have hE2 := get_any A 12 c lo hi l 4 8 w hn h hm hc (by omega)
  unfold getR at hE hE2
  rw [getE_0 (by omega) (by omega)] at hE hE2
  have e1 : z0 0 (getV l 0 4) = numB (l.take 4) := by unfold getV z0; simp
  have e2 : z0 0 (getV l 4 8) = numB ((l.drop 4).take 8) := by unfold getV z0; simp
  rw [e1] at hE
  rw [e2] at hE2
  have hr := (numB_range (l.take 4)).1
  have hl := numB_le_pow' (h.byt.take 4)
  rw [List.length_take, hn] at hl
  have hl2 : numB (l.take 4) ≤ 4294967295 := by have : (256 : Int) ^ (min 4 12) = 4294967296 := by decide
                                                omega
  clear hl e1 e2
  generalize numB (l.take 4) = X at hE hr hl2
  generalize numB ((l.drop 4).take 8) = Y at hE2
  go_enter Try.func12, Try.ntmps12
  go_wp2_with (first
    | (go_at_call 22; ((with_reducible refine hE.mono ?_); rintro e _ ⟨rfl, rfl⟩))
    | (go_at_call 22; ((with_reducible refine hE2.mono ?_); rintro e _ ⟨rfl, rfl⟩)))
  go_ret3
  exact ⟨rfl, rfl⟩
def fewB (L : Flds) : Bool := (L.all fun t => decide (t.2.length ≤ 400)) && decide (L.length ≤ 24)
theorem fewB_no {L : Flds} {k : Nat} (hk : k < L.length) (h : 400 < (dtL L k).length) : fewB L = false := by
  unfold fewB
  have : (L.all fun t => decide (t.2.length ≤ 400)) = false := by
    rw [List.all_eq_false]
    exact ⟨_, kd_mem hk, by simp; omega⟩
  rw [this]; rfl
theorem fewB_len {L : Flds} (h : ∀ j, j < L.length → (dtL L j).length ≤ 400) : fewB L = decide (L.length ≤ 24) := by
  unfold fewB
  have : (L.all fun t => decide (t.2.length ≤ 400)) = true := by
    rw [List.all_eq_true]
    intro t ht
    obtain ⟨i, hi, rfl⟩ := List.mem_iff_getElem.1 ht
    have h2 := h i hi
    unfold dtL at h2
    rw [List.getD_eq_getElem?_getD, List.getElem?_eq_getElem hi] at h2
    simpa using h2
  rw [this]; rfl
theorem fewB_yes {L : Flds} (h : fewB L = true) : L.length ≤ 24 ∧ ∀ k, k < L.length → (dtL L k).length ≤ 400 := by
  unfold fewB at h
  simp only [Bool.and_eq_true, List.all_eq_true, decide_eq_true_eq] at h
  exact ⟨h.2, fun k hk => h.1 _ (kd_mem hk)⟩
end Go.Proofs.Ytghcaplhanjgbaa
