/- The text of a number is read as the number, and what is read has just that text: no program. -/
import Derived.Test.YtlhcdmmocmcecaaStamp4
namespace Go.Proofs.Ytlhcdmmocmcecaa
open Go.RowKit
set_option linter.unusedSimpArgs false
set_option linter.unusedVariables false
theorem take_succS (l : List Int) (k : Nat) (h : k < l.length) : l.take (k + 1) = l.take k ++ [atB l k] := by
  rw [List.take_add_one, List.getElem?_eq_getElem h]
  unfold atB; rw [List.getD_eq_getElem?_getD, List.getElem?_eq_getElem h]; rfl
/-- a string's bytes -/
def bl (s : ByteArray) : List Int := s.data.toList.map fun c => (c.toNat : Int)
theorem bl_len (s : ByteArray) : (bl s).length = s.size := by simp [bl]
theorem bl_at (s : ByteArray) (k : Nat) : atB (bl s) k = sb s k := by
  unfold atB bl sb
  rcases Nat.lt_or_ge k s.data.toList.length with h | h
  · simp [List.getD_eq_getElem?_getD, List.getElem?_eq_getElem h]
  · simp [List.getD_eq_getElem?_getD, List.getElem?_eq_none h]
theorem strOf_bl (s : ByteArray) : strOf (bl s) = s := by
  unfold strOf bl
  rw [List.map_map]
  have : (s.data.toList.map ((fun n : Int => UInt8.ofNat n.toNat) ∘ fun c : UInt8 => (c.toNat : Int))) = s.data.toList := by
    rw [List.map_congr_left (g := id)]
    · simp
    · intro c _; simp
  rw [this]
theorem bl_strOf {l : List Int} (h : Byt l) : bl (strOf l) = l := by
  unfold strOf bl
  simp only [List.toList_toArray, List.map_map]
  rw [List.map_congr_left (g := id)]
  · simp
  · intro x hx
    have := h x hx
    simp only [Function.comp, id, UInt8.toNat_ofNat']
    omega
/-- the place behind k digits -/
def pos (k : Nat) : Nat := if k ≤ 8 then k else k + 1
/-- the text of a number's k lowest digits -/
def txm : Nat → Int → List Int
  | 0, _ => []
  | k + 1, m => (if k = 8 then txm k (m / 16) ++ [46] else txm k (m / 16)) ++ [hexC (m % 16)]
theorem txm_len (k : Nat) : ∀ m, (txm k m).length = pos k := by
  induction k with
  | zero => intro m; rfl
  | succ k ih =>
    intro m
    rw [txm]
    unfold pos at *
    by_cases h : k = 8
    · subst h; rw [if_pos rfl, List.length_append, List.length_append, ih]; rfl
    · rw [if_neg h, List.length_append, ih]; simp only [List.length_cons, List.length_nil]; split <;> split <;> omega
theorem tx_txm (n : Int) (k : Nat) (hk : k ≤ 16) : tx n k = txm k (n / 2 ^ (64 - 4 * k)) := by
  induction k with
  | zero => rfl
  | succ k ih =>
    have e : n / 2 ^ (64 - 4 * (k + 1)) / 16 = n / 2 ^ (64 - 4 * k) := by
      rw [Int.ediv_ediv_of_nonneg (by exact Int.le_of_lt (Int.pow_pos (by omega)))]
      congr 1
      rw [show 64 - 4 * k = (64 - 4 * (k + 1)) + 4 by omega, Int.pow_add]; rfl
    rw [tx, txm, e, ← ih (by omega), show 60 - 4 * k = 64 - 4 * (k + 1) by omega]
theorem tx_16 (n : Int) : tx n 16 = txm 16 n := by
  rw [tx_txm n 16 (Nat.le_refl _)]; simp
theorem hexV_C {x : Int} (h0 : 0 ≤ x) (h1 : x < 16) : hexV (hexC x) = x := by unfold hexC hexV; split <;> split <;> (try split) <;> omega
theorem hexC_V {c : Int} (h : 0 ≤ hexV c) : hexC (hexV c) = c ∧ hexV c < 16 := by
  unfold hexV at *
  split at h
  · rename_i h1; rw [if_pos h1]; unfold hexC; split <;> omega
  · split at h
    · rename_i h1 h2; rw [if_neg h1, if_pos h2]; unfold hexC; split <;> omega
    · omega
theorem pow16 (k : Nat) (hk : k ≤ 16) : (16 : Int) ^ k ≤ 18446744073709551616 := by
  have h : (16 : Int) ^ k ≤ 16 ^ 16 := by
    rw [show 16 = k + (16 - k) by omega, Int.pow_add]
    have h1 : (0 : Int) < 16 ^ k := Int.pow_pos (by omega)
    have h2 : (0 : Int) < 16 ^ (16 - k) := Int.pow_pos (by omega)
    calc (16 : Int) ^ k = 16 ^ k * 1 := by omega
      _ ≤ 16 ^ k * 16 ^ (16 - k) := Int.mul_le_mul_of_nonneg_left (by omega) (by omega)
  exact h
/-- one way: the text's bytes stand there, so the number is read -/
theorem read_txm (s : ByteArray) (h8 : sb s 8 = 46) (h17 : s.size = 17) (k : Nat) : k ≤ 16 → ∀ m : Int, 0 ≤ m → m < 16 ^ k → (bl s).take (pos k) = txm k m → ps s (pos k) = some m := by
  induction k with
  | zero => intro _ m h0 h1 _; simp at h1; have : m = 0 := by omega
            subst this; rfl
  | succ k ih =>
    intro hk m h0 h1 ht
    have hp := pow16 (k + 1) hk
    rw [Int.pow_succ] at h1 hp
    have hd0 : 0 ≤ m % 16 := by omega
    have hd1 : m % 16 < 16 := by omega
    by_cases hk8 : k = 8
    · subst hk8
      rw [txm, if_pos rfl] at ht
      have e10 : pos (8 + 1) = 10 := rfl
      rw [e10] at ht ⊢
      have t10 : (bl s).take 10 = ((bl s).take 8 ++ [atB (bl s) 8]) ++ [atB (bl s) 9] := by
        rw [take_succS (bl s) 9 (by rw [bl_len]; omega), take_succS (bl s) 8 (by rw [bl_len]; omega)]
      rw [t10, bl_at, bl_at, h8] at ht
      obtain ⟨ha, hb⟩ := List.append_inj ht (by rw [List.length_append, List.length_append, List.length_take, bl_len, txm_len]; simp [pos]; omega)
      obtain ⟨ha, _⟩ := List.append_inj ha (by rw [List.length_take, bl_len, txm_len]; simp [pos]; omega)
      have hr := ih (by omega) (m / 16) (by omega) (by omega) ha
      have e8 : pos 8 = 8 := rfl
      rw [e8] at hr
      have h9 := ps_eight s hr
      injection hb with hb
      have hv : hexV (sb s 9) = m % 16 := by rw [hb, hexV_C hd0 hd1]
      have := ps_good s h9 (by omega) (by omega)
      rw [this, hv]; congr 1; omega
    · rw [txm, if_neg hk8] at ht
      have ep : pos (k + 1) = pos k + 1 := by unfold pos; split <;> split <;> omega
      have hpk : pos k < 17 := by unfold pos; split <;> omega
      have hpk8 : pos k ≠ 8 := by unfold pos; split <;> omega
      rw [ep, take_succS (bl s) (pos k) (by rw [bl_len]; omega), bl_at] at ht
      obtain ⟨ha, hb⟩ := List.append_inj ht (by rw [List.length_take, bl_len, txm_len]; omega)
      have hr := ih (by omega) (m / 16) (by omega) (by omega) ha
      injection hb with hb
      have hv : hexV (sb s (pos k)) = m % 16 := by rw [hb, hexV_C hd0 hd1]
      have := ps_good s hr hpk8 (by omega)
      rw [ep, this, hv]; congr 1; omega
theorem ps_prev {s : ByteArray} {k : Nat} {n : Int} (h : ps s (k + 1) = some n) (h8 : k ≠ 8) : ∃ m, ps s k = some m ∧ 0 ≤ hexV (sb s k) ∧ n = (m * 16 + hexV (sb s k)) % 18446744073709551616 := by
  rw [ps] at h
  obtain ⟨m, hm, h⟩ := Option.bind_eq_some_iff.1 h
  rw [if_neg h8] at h
  split at h
  · cases h
  · injection h with h; exact ⟨m, hm, by omega, h.symm⟩
/-- the other way: the number was read, so the bytes are its text -/
theorem txm_read (s : ByteArray) (h8 : sb s 8 = 46) (h17 : s.size = 17) (k : Nat) : k ≤ 16 → ∀ m : Int, ps s (pos k) = some m → 0 ≤ m ∧ m < 16 ^ k ∧ (bl s).take (pos k) = txm k m := by
  induction k with
  | zero => intro _ m h; simp [pos, ps] at h; subst h; exact ⟨by omega, by simp, by simp [pos, txm]⟩
  | succ k ih =>
    intro hk m h
    have hp := pow16 (k + 1) hk
    rw [Int.pow_succ] at hp ⊢
    by_cases hk8 : k = 8
    · subst hk8
      have e10 : pos (8 + 1) = 9 + 1 := rfl
      rw [e10] at h ⊢
      obtain ⟨n, hn, hv, rfl⟩ := ps_prev h (by omega)
      have hn8 : ps s 8 = some n := by
        rw [ps] at hn
        obtain ⟨x, hx, hn⟩ := Option.bind_eq_some_iff.1 hn
        rw [if_pos rfl] at hn
        rw [hx, hn]
      obtain ⟨i0, i1, i2⟩ := ih (by omega) n hn8
      obtain ⟨c1, c2⟩ := hexC_V hv
      have em : (n * 16 + hexV (sb s 9)) % 18446744073709551616 = n * 16 + hexV (sb s 9) := by omega
      rw [em]
      refine ⟨by omega, by omega, ?_⟩
      rw [txm, if_pos rfl, take_succS (bl s) 9 (by rw [bl_len]; omega), take_succS (bl s) 8 (by rw [bl_len]; omega), bl_at, bl_at, h8, show (n * 16 + hexV (sb s 9)) / 16 = n by omega, show (n * 16 + hexV (sb s 9)) % 16 = hexV (sb s 9) by omega, c1]
      have e8 : pos 8 = 8 := rfl
      rw [e8] at i2
      rw [i2]
    · have ep : pos (k + 1) = pos k + 1 := by unfold pos; split <;> split <;> omega
      have hpk : pos k < 17 := by unfold pos; split <;> omega
      have hpk8 : pos k ≠ 8 := by unfold pos; split <;> omega
      rw [ep] at h ⊢
      obtain ⟨n, hn, hv, rfl⟩ := ps_prev h hpk8
      obtain ⟨i0, i1, i2⟩ := ih (by omega) n hn
      obtain ⟨c1, c2⟩ := hexC_V hv
      have em : (n * 16 + hexV (sb s (pos k))) % 18446744073709551616 = n * 16 + hexV (sb s (pos k)) := by omega
      rw [em]
      refine ⟨by omega, by omega, ?_⟩
      rw [txm, if_neg hk8, take_succS (bl s) (pos k) (by rw [bl_len]; omega), bl_at, show (n * 16 + hexV (sb s (pos k))) / 16 = n by omega, show (n * 16 + hexV (sb s (pos k))) % 16 = hexV (sb s (pos k)) by omega, c1, i2]
/-- what was read has just that text -/
theorem text_of {s : ByteArray} {n : Int} (h : psAll s = some n) : strOf (tx n 16) = s := by
  unfold psAll at h
  split at h
  · rename_i hc
    have h2 := txm_read s hc.2 hc.1 16 (Nat.le_refl _) n h
    have e : pos 16 = 17 := rfl
    rw [e, List.take_of_length_le (by rw [bl_len]; omega)] at h2
    rw [tx_16, ← h2.2.2, strOf_bl]
  · cases h
/-- a text is read back -/
theorem parse_of {n : Int} (h0 : 0 ≤ n) (h1 : n < 18446744073709551616) : psAll (strOf (tx n 16)) = some n := by
  have hb : bl (strOf (tx n 16)) = tx n 16 := bl_strOf (tx_byt n 16)
  have hl : (strOf (tx n 16)).size = 17 := by rw [← bl_len, hb, tx_len]; rfl
  have h8 : sb (strOf (tx n 16)) 8 = 46 := by
    rw [← bl_at, hb, tx_16]
    have e : ∀ m, atB (txm 16 m) 8 = 46 := by
      intro m
      have step : ∀ k, 9 ≤ k → ∀ m, atB (txm k m) 8 = 46 := by
        intro k hk
        induction k with
        | zero => omega
        | succ k ih =>
          intro m
          rw [txm]
          by_cases h : k = 8
          · subst h
            rw [if_pos rfl]
            unfold atB
            rw [List.getD_eq_getElem?_getD, List.getElem?_append_left (by rw [List.length_append, txm_len]; simp [pos]), List.getElem?_append_right (by rw [txm_len]; simp [pos]), txm_len]
            rfl
          · rw [if_neg h]
            have := ih (by omega) (m / 16)
            unfold atB at this ⊢
            rw [List.getD_eq_getElem?_getD, List.getElem?_append_left (by rw [txm_len]; unfold pos; split <;> omega), ← List.getD_eq_getElem?_getD]
            exact this
      exact step 16 (by omega) m
    exact e n
  unfold psAll
  rw [if_pos ⟨hl, h8⟩]
  have e : pos 16 = 17 := rfl
  rw [← e]
  refine read_txm _ h8 hl 16 (Nat.le_refl _) n h0 (by simpa using h1) ?_
  rw [hb, List.take_of_length_le (by rw [tx_len]; decide), tx_16]
end Go.Proofs.Ytlhcdmmocmcecaa
