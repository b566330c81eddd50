/- The library's bytes.Repeat at one byte 7 and twelve. -/
import Derived.Test.YtloopnfnbhdlmaaBy
namespace Go.Proofs.Ytloopnfnbhdlmaa
open Go.RowKit
set_option linter.unusedSimpArgs false
set_option linter.unusedVariables false
set_option maxRecDepth 100000
def Sv (cur : List Value) (k : Nat) : Prop := 12 ≤ cur.length ∧ ∀ j, j < k → cur[j]? = some (.int .u8 7)
theorem sv_splice {cur : List Value} {k m : Nat} (h : Sv cur k) (hl : k + m ≤ 12) : Sv (splice cur k (List.replicate m (.int .u8 7))) (k + m) := by
  have h12 := h.1
  refine ⟨by rw [length_splice _ _ _ (by simp; omega)]; exact h12, fun j hj => ?_⟩
  unfold splice
  have ht : (cur.take k).length = k := by rw [List.length_take]; omega
  rcases Nat.lt_or_ge j k with h1 | h1
  · rw [List.getElem?_append_left (by omega), List.getElem?_take, if_pos h1]
    exact h.2 j h1
  · rw [List.getElem?_append_right (by omega), ht, List.getElem?_append_left (by simp; omega), List.getElem?_replicate, if_pos (by omega)]
set_option maxHeartbeats 1000000 in
theorem mul64_1_12 (w : World) : Calls Try.prog 34 #[.int .u64 1, .int .u64 12] w fun e w' => e = .returned (.tuple #[.int .u64 0, .int .u64 12]) ∧ w = w' := by
  go_enter Try.func34, Try.ntmps34
  go_wp2
  go_ret2
  exact ⟨rfl, rfl⟩
set_option maxHeartbeats 1000000 in
theorem mul_1_12 (w : World) : Calls Try.prog 28 #[.int .u64 1, .int .u64 12] w fun e w' => e = .returned (.tuple #[.int .u64 0, .int .u64 12]) ∧ w = w' := by
  go_enter Try.func28, Try.ntmps28
  go_wp2_with (go_at_call 34; ((with_reducible refine (mul64_1_12 _).mono ?_); rintro e w' ⟨rfl, rfl⟩))
  go_ret2
  exact ⟨rfl, rfl⟩
def Cp (w : World) (ad : Addr) (cs : List Value) : Prop := ∀ j v, cs[j]? = some v → w.cell? (ad.add j) = some v
theorem Cp.out {w : World} {ad : Addr} {cs : List Value} (h : Cp w ad cs) : ∀ j v, cs[j]? = some v → w.cell? (ad.add j) = some v := h
theorem sv_cells {w : World} {g : Nat} {cur : List Value} {k m : Nat} (hg : w.heap[g]? = some (.cells cur.toArray 5 (0, 0))) (h : Sv cur k) (hm : m ≤ k) : ∀ j v, (List.replicate m (Value.int .u8 7))[j]? = some v → w.cell? ((⟨g, 0, none⟩ : Addr).add j) = some v := fun j v hv => by
  obtain ⟨hj, rfl⟩ : j < m ∧ v = .int .u8 7 := by
    rw [List.getElem?_replicate] at hv
    split at hv
    · exact ⟨by assumption, by simpa using hv.symm⟩
    · cases hv
  rw [ofAdd, Nat.zero_add]
  have := cell_of_row w g j _ _ _ hg
  rw [this]
  simpa using h.2 j (by omega)
theorem one_rep (m : Nat) : ∀ v ∈ List.replicate m (Value.int .u8 7), v.oneCell' = true := fun v hv => by
  rw [List.eq_of_mem_replicate hv]; rfl
set_option maxHeartbeats 4000000 in
theorem repeat7 (b c : Nat) (w : World) (hc : w.cell? ⟨b, 0, none⟩ = some (.int .u8 7)) :
    Calls Try.prog 22 #[.slice (some ⟨b, 0, none⟩) 1 c, .int .i64 12] w fun e w' => ∃ A', e = .returned (.slice A' 12 12) ∧ Bs w' w.heap.size w'.heap.size A' (List.replicate 12 7) ∧ Below w.heap.size w w' := by
  obtain ⟨cs, hrunM, hle, hmax⟩ := Lib.run_makeNoZero (P := Try.prog) w #[3] 22 5 Try.underlying22 12 (by omega)
  have hcall : (callFunc 29 #[.int .i64 12]).run Try.prog w = .ok (.value (.slice (some ⟨w.heap.size, 0, none⟩) 12 cs.size)) ((w.alloc (.cells cs 5)).drewN 2) := by
    rw [run_callFunc_extern Try.func29 (by kernel_rfl) (by kernel_rfl) (by kernel_rfl) (e := Extern.BytealgMakeNoZero.makeNoZero #[3] #[22]) (by kernel_rfl)]
    exact congrArg (fun r => Result.andThen r _) hrunM
  clear hrunM hmax
  have i1 : (12 : Int) ≤ (cs.size : Int) := by omega
  have hlt := World.block_lt_of_cell? w _ hc
  have hb' : b < w.heap.size := hlt
  obtain ⟨W, hW⟩ : ∃ W, (w.alloc (.cells cs 5)).drewN 2 = W := ⟨_, rfl⟩
  have hg : W.heap[w.heap.size]? = some (.cells cs.toList.toArray 5 (0, 0)) := by rw [← hW, Array.toArray_toList]; exact heap_alloc_new w _
  have hB : Below w.heap.size w W := by rw [← hW]; exact below_drewN ((Below.refl _ w).alloc (Nat.le_refl _) _) 2
  have hcW := kept_cell hB hc hb'
  rw [hW] at hcall
  clear hW
  have HG := Lib.hid hg
  have HL := Lib.hid hle
  clear hg hle hc
  have HC : Cp W ⟨b, 0, none⟩ (List.replicate 1 (.int .u8 7)) := fun j v hv => by
    match j with
    | 0 => simp at hv; rw [← hv]; simpa [Addr.add] using hcW
    | j + 1 => simp at hv
  have hfit : 0 + (List.replicate 1 (Value.int .u8 7)).length ≤ cs.toList.length := by have := HL.out; simp; omega
  have hnn : (List.replicate 1 (Value.int .u8 7)).length = Nat.min 1 12 := rfl
  have HN := Lib.hid hnn
  clear hnn
  have Hfit := Lib.hid hfit
  clear hfit
  go_enter Try.func22, Try.ntmps22
  go_wp2_with (first
    | (go_at_call 28; ((with_reducible refine (mul_1_12 _).mono ?_); rintro e w' ⟨rfl, rfl⟩))
    | ((with_reducible show wpList _ _ _ (⟨some 60, _, _, _, _, _⟩ :: _) _ _); (refine wpList_copy_splice rfl (.tmp 58) (.tmp 59) 22 22 rfl 5 Try.underlying22 sizeU8 (some ⟨w.heap.size, 0, none⟩) (some ⟨b, 0, none⟩) 12 12 1 c (by rfl) (by rfl) w.heap.size 0 cs.toList 5 HG.out (List.replicate 1 (.int .u8 7)) HN.out (fun _ => ⟨rfl, _, rfl, HC.out⟩) Hfit.out (one_rep 1) w.heap.size w hB (Nat.le_refl _) ?_); (intro w1 hg1 hb1)))
  have hs1 : Sv (splice cs.toList 0 (List.replicate 1 (Value.int .u8 7))) (0 + 1) := sv_splice (m := 1) ⟨by have := HL.out; simpa using this, fun j hj => absurd hj (by omega)⟩ (by omega)
  generalize splice cs.toList 0 (List.replicate 1 (Value.int .u8 7)) = cur at hg1 hs1
  clear HG HL HC Hfit hcall i1 hB hcW
  go_loopw [10] (fun bp wr => ∃ k : Nat, (k = 1 ∨ k = 2 ∨ k = 4 ∨ k = 8 ∨ k = 12) ∧ bp = .int .i64 k ∧ (∃ cur, Hid (wr.heap[w.heap.size]? = some (.cells cur.toArray 5 (0, 0))) ∧ Hid (Sv cur k)) ∧ Below w.heap.size w wr) (fun bp _ => 12 - (intOf bp).toNat)
  case atStart => exact ⟨1, .inl rfl, rfl, ⟨cur, hg1, hs1⟩, hb1⟩
  case round =>
    obtain ⟨k, hk, rfl, ⟨cur2, hg2, hs2⟩, hB2⟩ := hrel
    clear hg1 hs1 hb1
    rcases hk with rfl | rfl | rfl | rfl | rfl
    · have hfit2 : Hid (1 + (List.replicate 1 (Value.int .u8 7)).length ≤ cur2.length) := by have := hs2.out.1; show _ ≤ _; simp; omega
      have HC2 : Cp wr ⟨w.heap.size, 0, none⟩ (List.replicate 1 (.int .u8 7)) := sv_cells hg2.out hs2.out (by omega)
      have HS2 : Hid (Sv (splice cur2 1 (List.replicate 1 (Value.int .u8 7))) (1 + 1)) := sv_splice hs2.out (by omega)
      go_wp2
      go_region_held3 (fun _ => True) (trivial) ((refine step_copy_splice rfl (.tmp 70) (.tmp 73) 22 22 rfl 5 Try.underlying22 sizeU8 (some ⟨w.heap.size, 1, none⟩) (some ⟨w.heap.size, 0, none⟩) 11 11 1 12 (by rfl) (by rfl) w.heap.size 1 cur2 5 hg2.out (List.replicate 1 (.int .u8 7)) rfl (fun _ => ⟨rfl, _, rfl, HC2.out⟩) hfit2.out (one_rep 1) w.heap.size w (Below.drew hB2) (Nat.le_refl _) ?_; intro w4 hg4 hb4))
      go_wp2
      exact ⟨⟨2, .inr (.inl rfl), rfl, ⟨_, hg4, HS2⟩, hb4⟩, by simp [intOf] <;> decide⟩
    · have hfit2 : Hid (2 + (List.replicate 2 (Value.int .u8 7)).length ≤ cur2.length) := by have := hs2.out.1; show _ ≤ _; simp; omega
      have HC2 : Cp wr ⟨w.heap.size, 0, none⟩ (List.replicate 2 (.int .u8 7)) := sv_cells hg2.out hs2.out (by omega)
      have HS2 : Hid (Sv (splice cur2 2 (List.replicate 2 (Value.int .u8 7))) (2 + 2)) := sv_splice hs2.out (by omega)
      go_wp2
      go_region_held3 (fun _ => True) (trivial) ((refine step_copy_splice rfl (.tmp 70) (.tmp 73) 22 22 rfl 5 Try.underlying22 sizeU8 (some ⟨w.heap.size, 2, none⟩) (some ⟨w.heap.size, 0, none⟩) 10 10 2 12 (by rfl) (by rfl) w.heap.size 2 cur2 5 hg2.out (List.replicate 2 (.int .u8 7)) rfl (fun _ => ⟨rfl, _, rfl, HC2.out⟩) hfit2.out (one_rep 2) w.heap.size w (Below.drew hB2) (Nat.le_refl _) ?_; intro w4 hg4 hb4))
      go_wp2
      exact ⟨⟨4, .inr (.inr (.inl rfl)), rfl, ⟨_, hg4, HS2⟩, hb4⟩, by simp [intOf] <;> decide⟩
    · have hfit2 : Hid (4 + (List.replicate 4 (Value.int .u8 7)).length ≤ cur2.length) := by have := hs2.out.1; show _ ≤ _; simp; omega
      have HC2 : Cp wr ⟨w.heap.size, 0, none⟩ (List.replicate 4 (.int .u8 7)) := sv_cells hg2.out hs2.out (by omega)
      have HS2 : Hid (Sv (splice cur2 4 (List.replicate 4 (Value.int .u8 7))) (4 + 4)) := sv_splice hs2.out (by omega)
      go_wp2
      go_region_held3 (fun _ => True) (trivial) ((refine step_copy_splice rfl (.tmp 70) (.tmp 73) 22 22 rfl 5 Try.underlying22 sizeU8 (some ⟨w.heap.size, 4, none⟩) (some ⟨w.heap.size, 0, none⟩) 8 8 4 12 (by rfl) (by rfl) w.heap.size 4 cur2 5 hg2.out (List.replicate 4 (.int .u8 7)) rfl (fun _ => ⟨rfl, _, rfl, HC2.out⟩) hfit2.out (one_rep 4) w.heap.size w (Below.drew hB2) (Nat.le_refl _) ?_; intro w4 hg4 hb4))
      go_wp2
      exact ⟨⟨8, .inr (.inr (.inr (.inl rfl))), rfl, ⟨_, hg4, HS2⟩, hb4⟩, by simp [intOf] <;> decide⟩
    · have hfit2 : Hid (8 + (List.replicate 4 (Value.int .u8 7)).length ≤ cur2.length) := by have := hs2.out.1; show _ ≤ _; simp; omega
      have HC2 : Cp wr ⟨w.heap.size, 0, none⟩ (List.replicate 4 (.int .u8 7)) := sv_cells hg2.out hs2.out (by omega)
      have HS2 : Hid (Sv (splice cur2 8 (List.replicate 4 (Value.int .u8 7))) (8 + 4)) := sv_splice hs2.out (by omega)
      go_wp2
      go_region_held3 (fun _ => True) (trivial) ((refine step_copy_splice rfl (.tmp 70) (.tmp 73) 22 22 rfl 5 Try.underlying22 sizeU8 (some ⟨w.heap.size, 8, none⟩) (some ⟨w.heap.size, 0, none⟩) 4 4 8 12 (by rfl) (by rfl) w.heap.size 8 cur2 5 hg2.out (List.replicate 4 (.int .u8 7)) rfl (fun _ => ⟨rfl, _, rfl, HC2.out⟩) hfit2.out (one_rep 4) w.heap.size w (Below.drew hB2) (Nat.le_refl _) ?_; intro w4 hg4 hb4))
      go_wp2
      exact ⟨⟨12, .inr (.inr (.inr (.inr rfl))), rfl, ⟨_, hg4, HS2⟩, hb4⟩, by simp [intOf] <;> decide⟩
    · go_wp2
      go_ret
      exact ⟨_, rfl, ⟨fun x hx => by rw [List.eq_of_mem_replicate hx]; omega, fun _ => ⟨w.heap.size, 0, rfl, Nat.le_refl _, by have := (Array.getElem?_eq_some_iff.1 hg2.out).1; omega, fun j hj => by
        rw [List.length_replicate] at hj
        rw [Nat.zero_add, cell_of_row wr w.heap.size j _ _ _ hg2.out]
        have := hs2.out.2 j hj
        rw [List.getElem?_toArray, this]
        have e : atB (List.replicate 12 7) j = 7 := by unfold atB; rw [List.getD_eq_getElem?_getD, List.getElem?_replicate, if_pos hj]; rfl
        rw [e]⟩⟩, hB2⟩
end Go.Proofs.Ytloopnfnbhdlmaa
