/- Plain laws on the bytes of headers: no function of the program occurs here. -/
import Derived.Test.YtkgpeddncpdjjaaDoorNtp5
namespace Go.Proofs.YtkgpeddncpdjjaaDoor
open Go.RowKit
set_option linter.unusedSimpArgs false
set_option linter.unusedVariables false
set_option maxRecDepth 100000
theorem numB_appN (l : List Int) (x : Int) : numB (l ++ [x]) = stepB (numB l) x := by unfold numB; rw [List.foldl_append]; rfl
theorem numB_bytesN (k : Nat) : ∀ n : Int, 0 ≤ n → n < 256 ^ k → n < 18446744073709551616 → numB (bytesB k n) = n := by
  induction k with
  | zero => intro n h0 h1 _; simp at h1; simp [bytesB, numB]; omega
  | succ k ih =>
    intro n h0 h1 h2
    have h3 : n / 256 < 256 ^ k := by rw [Int.pow_succ] at h1; omega
    rw [bytesB, numB_appN, ih (n / 256) (by omega) h3 (by omega)]
    unfold stepB; omega
theorem bytes_numB : ∀ (k : Nat) (l : List Int), Byt l → l.length = k → k ≤ 8 → bytesB k (numB l) = l := by
  intro k
  induction k with
  | zero => intro l _ h _; rw [List.eq_nil_of_length_eq_zero h]; rfl
  | succ k ih =>
    intro l hb hl h8
    obtain ⟨m, x, rfl⟩ : ∃ m x, l = m ++ [x] := ⟨l.dropLast, l.getLast (by intro h; rw [h] at hl; simp at hl), (List.dropLast_concat_getLast _).symm⟩
    have hm : m.length = k := by simpa using hl
    have hbm : Byt m := fun y hy => hb y (by simp [hy])
    have hx := hb x (by simp)
    have h1 := numB_le_pow hbm
    have h0 := (numB_range m).1
    have h2 : (256 : Int) ^ m.length ≤ 256 ^ 7 := by
      rw [hm]
      have : (256 : Int) ^ 7 = 256 ^ k * 256 ^ (7 - k) := by rw [← Int.pow_add]; congr 1; omega
      have a : (0 : Int) < 256 ^ k := Int.pow_pos (by omega)
      have b : (0 : Int) < 256 ^ (7 - k) := Int.pow_pos (by omega)
      rw [this]
      have c : (256 : Int) ^ k * 1 ≤ 256 ^ k * 256 ^ (7 - k) := Int.mul_le_mul_of_nonneg_left (by omega) (by omega)
      omega
    have h3 : (256 : Int) ^ 7 = 72057594037927936 := by decide
    rw [numB_appN, bytesB]
    have e : stepB (numB m) x = numB m * 256 + x := by unfold stepB; omega
    rw [e, show (numB m * 256 + x) / 256 = numB m by omega, show (numB m * 256 + x) % 256 = x by omega, ih m hbm hm (by omega)]
theorem fB_skip (a m : List Int) (o s n : Nat) (ha : a.length = n) : fB (a ++ m) (n + o) s = fB m o s := by
  unfold fB
  rw [List.drop_append, List.drop_eq_nil_of_le (by omega), List.nil_append, show n + o - a.length = o by omega]
theorem iB_skip (a m : List Int) (o s n : Nat) (ha : a.length = n) : iB (a ++ m) (n + o) s = iB m o s := by
  unfold iB
  rw [List.drop_append, List.drop_eq_nil_of_le (by omega), List.nil_append, show n + o - a.length = o by omega]
theorem fB_head (s : Nat) (n : Int) (m : List Int) (h0 : 0 ≤ n) (h1 : n < 256 ^ s) (h2 : n < 18446744073709551616) : fB (bytesB s n ++ m) 0 s = n := by
  unfold fB
  rw [List.drop_zero, List.take_append_of_le_length (by rw [bytesB_length]; exact Nat.le_refl _), List.take_of_length_le (by rw [bytesB_length]; exact Nat.le_refl _), numB_bytesN s n h0 h1 h2]
theorem iB_head (n : Int) (m : List Int) (h0 : -128 ≤ n) (h1 : n ≤ 127) : iB (bytesB 1 (n % 256) ++ m) 0 1 = n := by
  unfold iB
  rw [List.drop_zero, List.take_append_of_le_length (by rw [bytesB_length]; exact Nat.le_refl _), List.take_of_length_le (by rw [bytesB_length]; exact Nat.le_refl _)]
  unfold intB
  rw [numB_bytesN 1 _ (by omega) (by simp; omega) (by omega), bytesB_length]
  rw [if_neg (by omega)]
  split <;> simp at * <;> omega
/-- what is read from the bytes of a header is that header -/
theorem encH_back (l v m st po pr rd rp id ref org rec xmt : Int) (beh : List Int) (hk : nchk l v m st po pr = 0) (h6 : 0 ≤ rd ∧ rd ≤ 4294967295) (h7 : 0 ≤ rp ∧ rp ≤ 4294967295) (h8 : 0 ≤ id ∧ id ≤ 4294967295)
    (h9 : 0 ≤ ref ∧ ref ≤ 18446744073709551615) (h10 : 0 ≤ org ∧ org ≤ 18446744073709551615) (h11 : 0 ≤ rec ∧ rec ≤ 18446744073709551615) (h12 : 0 ≤ xmt ∧ xmt ≤ 18446744073709551615) :
    ∃ L, L = encH l v m st po pr rd rp id ref org rec xmt ++ beh ∧ fB L 0 1 = l * 64 + v * 8 + m ∧ fB L 1 1 = st ∧ iB L 2 1 = po ∧ iB L 3 1 = pr ∧ fB L 4 4 = rd ∧ fB L 8 4 = rp ∧ fB L 12 4 = id ∧ fB L 16 8 = ref ∧ fB L 24 8 = org ∧ fB L 32 8 = rec ∧ fB L 40 8 = xmt ∧ L.drop 48 = beh := by
  obtain ⟨kl, kv, km, kst, kpo, kpr⟩ := nchk_ok hk
  refine ⟨_, rfl, ?_⟩
  have e : encH l v m st po pr rd rp id ref org rec xmt ++ beh = bytesB 1 (l * 64 + v * 8 + m) ++ (bytesB 1 st ++ (bytesB 1 (po % 256) ++ (bytesB 1 (pr % 256) ++ (bytesB 4 rd ++ (bytesB 4 rp ++ (bytesB 4 id ++ (bytesB 8 ref ++ (bytesB 8 org ++ (bytesB 8 rec ++ (bytesB 8 xmt ++ beh)))))))))) := by
    simp only [encH, ntpPairs, encB, List.flatMap_cons, List.flatMap_nil, List.append_nil, List.append_assoc]
  have hd : (encH l v m st po pr rd rp id ref org rec xmt ++ beh).drop 48 = beh := by
    rw [List.drop_append, List.drop_eq_nil_of_le (by rw [encH_len]; exact Nat.le_refl _), encH_len]; simp
  refine ⟨?_, ?_, ?_, ?_, ?_, ?_, ?_, ?_, ?_, ?_, ?_, hd⟩
  all_goals rw [e]
  · exact fB_head 1 _ _ (by omega) (by simp; omega) (by omega)
  · rw [fB_skip _ _ 0 1 1 (bytesB_length _ _)]; exact fB_head 1 _ _ (by omega) (by simp; omega) (by omega)
  · rw [iB_skip _ _ 1 1 1 (bytesB_length _ _), iB_skip _ _ 0 1 1 (bytesB_length _ _)]; exact iB_head _ _ kpo.1 kpo.2
  · rw [iB_skip _ _ 2 1 1 (bytesB_length _ _), iB_skip _ _ 1 1 1 (bytesB_length _ _), iB_skip _ _ 0 1 1 (bytesB_length _ _)]; exact iB_head _ _ kpr.1 kpr.2
  · rw [fB_skip _ _ 3 4 1 (bytesB_length _ _), fB_skip _ _ 2 4 1 (bytesB_length _ _), fB_skip _ _ 1 4 1 (bytesB_length _ _), fB_skip _ _ 0 4 1 (bytesB_length _ _)]; exact fB_head 4 _ _ (by omega) (by simp; omega) (by omega)
  · rw [fB_skip _ _ 7 4 1 (bytesB_length _ _), fB_skip _ _ 6 4 1 (bytesB_length _ _), fB_skip _ _ 5 4 1 (bytesB_length _ _), fB_skip _ _ 4 4 1 (bytesB_length _ _), fB_skip _ _ 0 4 4 (bytesB_length _ _)]; exact fB_head 4 _ _ (by omega) (by simp; omega) (by omega)
  · rw [fB_skip _ _ 11 4 1 (bytesB_length _ _), fB_skip _ _ 10 4 1 (bytesB_length _ _), fB_skip _ _ 9 4 1 (bytesB_length _ _), fB_skip _ _ 8 4 1 (bytesB_length _ _), fB_skip _ _ 4 4 4 (bytesB_length _ _), fB_skip _ _ 0 4 4 (bytesB_length _ _)]; exact fB_head 4 _ _ (by omega) (by simp; omega) (by omega)
  · rw [fB_skip _ _ 15 8 1 (bytesB_length _ _), fB_skip _ _ 14 8 1 (bytesB_length _ _), fB_skip _ _ 13 8 1 (bytesB_length _ _), fB_skip _ _ 12 8 1 (bytesB_length _ _), fB_skip _ _ 8 8 4 (bytesB_length _ _), fB_skip _ _ 4 8 4 (bytesB_length _ _), fB_skip _ _ 0 8 4 (bytesB_length _ _)]; exact fB_head 8 _ _ (by omega) (by simp; omega) (by omega)
  · rw [fB_skip _ _ 23 8 1 (bytesB_length _ _), fB_skip _ _ 22 8 1 (bytesB_length _ _), fB_skip _ _ 21 8 1 (bytesB_length _ _), fB_skip _ _ 20 8 1 (bytesB_length _ _), fB_skip _ _ 16 8 4 (bytesB_length _ _), fB_skip _ _ 12 8 4 (bytesB_length _ _), fB_skip _ _ 8 8 4 (bytesB_length _ _), fB_skip _ _ 0 8 8 (bytesB_length _ _)]; exact fB_head 8 _ _ (by omega) (by simp; omega) (by omega)
  · rw [fB_skip _ _ 31 8 1 (bytesB_length _ _), fB_skip _ _ 30 8 1 (bytesB_length _ _), fB_skip _ _ 29 8 1 (bytesB_length _ _), fB_skip _ _ 28 8 1 (bytesB_length _ _), fB_skip _ _ 24 8 4 (bytesB_length _ _), fB_skip _ _ 20 8 4 (bytesB_length _ _), fB_skip _ _ 16 8 4 (bytesB_length _ _), fB_skip _ _ 8 8 8 (bytesB_length _ _), fB_skip _ _ 0 8 8 (bytesB_length _ _)]; exact fB_head 8 _ _ (by omega) (by simp; omega) (by omega)
  · rw [fB_skip _ _ 39 8 1 (bytesB_length _ _), fB_skip _ _ 38 8 1 (bytesB_length _ _), fB_skip _ _ 37 8 1 (bytesB_length _ _), fB_skip _ _ 36 8 1 (bytesB_length _ _), fB_skip _ _ 32 8 4 (bytesB_length _ _), fB_skip _ _ 28 8 4 (bytesB_length _ _), fB_skip _ _ 24 8 4 (bytesB_length _ _), fB_skip _ _ 16 8 8 (bytesB_length _ _), fB_skip _ _ 8 8 8 (bytesB_length _ _), fB_skip _ _ 0 8 8 (bytesB_length _ _)]; exact fB_head 8 _ _ (by omega) (by simp; omega) (by omega)
theorem bytes_fB {L : List Int} (hb : Byt L) (o s : Nat) (h : o + s ≤ L.length) (h8 : s ≤ 8) : bytesB s (fB L o s) = (L.drop o).take s := by
  unfold fB
  exact bytes_numB s _ ((hb.drop o).take s) (by rw [List.length_take, List.length_drop]; omega) h8
theorem iB_mod {L : List Int} (hb : Byt L) (o : Nat) (h : o < L.length) : iB L o 1 % 256 = fB L o 1 := by
  rw [iB_one hb o h, fB_one hb o h]
  have := hb.at o
  unfold sgnB; split <;> omega
theorem take_join (L : List Int) (o s : Nat) (M : List Int) (h : M = (L.drop (o + s))) : (L.drop o).take s ++ M = L.drop o := by
  subst h
  rw [← List.drop_drop]
  exact List.take_append_drop s (L.drop o)
/-- the bytes of what was read are those that were read -/
theorem encH_again (L : List Int) (F : Int) (hb : Byt L) (h48 : 48 ≤ L.length) (hF : fB L 0 1 = F) :
    encH (F / 64) (F / 8 % 8) (F % 8) (fB L 1 1) (iB L 2 1) (iB L 3 1) (fB L 4 4) (fB L 8 4) (fB L 12 4) (fB L 16 8) (fB L 24 8) (fB L 32 8) (fB L 40 8) = L.take 48 := by
  have hr := fB_rng hb 0 1
  rw [hF] at hr
  have e0 : F / 64 * 64 + F / 8 % 8 * 8 + F % 8 = F := by omega
  have key : encH (F / 64) (F / 8 % 8) (F % 8) (fB L 1 1) (iB L 2 1) (iB L 3 1) (fB L 4 4) (fB L 8 4) (fB L 12 4) (fB L 16 8) (fB L 24 8) (fB L 32 8) (fB L 40 8) ++ L.drop 48 = L := by
    simp only [encH, ntpPairs, encB, List.flatMap_cons, List.flatMap_nil, List.append_nil, List.append_assoc, e0]
    rw [iB_mod hb 2 (by omega), iB_mod hb 3 (by omega), ← hF]
    rw [bytes_fB hb 0 1 (by omega) (by omega), bytes_fB hb 1 1 (by omega) (by omega), bytes_fB hb 2 1 (by omega) (by omega), bytes_fB hb 3 1 (by omega) (by omega), bytes_fB hb 4 4 (by omega) (by omega), bytes_fB hb 8 4 (by omega) (by omega), bytes_fB hb 12 4 (by omega) (by omega),
      bytes_fB hb 16 8 (by omega) (by omega), bytes_fB hb 24 8 (by omega) (by omega), bytes_fB hb 32 8 (by omega) (by omega), bytes_fB hb 40 8 (by omega) (by omega)]
    rw [take_join L 40 8 _ rfl, take_join L 32 8 _ rfl, take_join L 24 8 _ rfl, take_join L 16 8 _ rfl, take_join L 12 4 _ rfl, take_join L 8 4 _ rfl, take_join L 4 4 _ rfl, take_join L 3 1 _ rfl, take_join L 2 1 _ rfl, take_join L 1 1 _ rfl, take_join L 0 1 _ rfl, List.drop_zero]
  have h2 := congrArg (List.take 48) key
  rw [List.take_append_of_le_length (by rw [encH_len]; exact Nat.le_refl _), List.take_of_length_le (by rw [encH_len]; exact Nat.le_refl _)] at h2
  exact h2
/-- what is read is valid -/
theorem dec_valid {L : List Int} (F : Int) (hb : Byt L) (h48 : 48 ≤ L.length) (hF : fB L 0 1 = F) (hv : 1 ≤ F / 8 % 8 ∧ F / 8 % 8 ≤ 4) : nchk (F / 64) (F / 8 % 8) (F % 8) (fB L 1 1) (iB L 2 1) (iB L 3 1) = 0 := by
  have hr := fB_rng hb 0 1
  rw [hF] at hr
  have h1 := fB_rng hb 1 1
  have h2 := iB_one hb 2 (by omega)
  have h3 := iB_one hb 3 (by omega)
  have b2 := hb.at 2
  have b3 := hb.at 3
  unfold nchk
  rw [if_pos]
  rw [h2, h3]
  unfold sgnB
  refine ⟨by omega, by omega, by omega, by omega, by omega, by omega, by omega, by omega, ?_, ?_, ?_, ?_⟩ <;> split <;> omega
end Go.Proofs.YtkgpeddncpdjjaaDoor
