/- Plain laws on the bytes of headers: no function of the program occurs here. A header that was written is read back: Decode of what Encode wrote, with whatever stands behind it. Extension fields: what Check, Append and Parse compute, and the plain laws between them. No function of the program occurs here. append of cells of whatever type to a row of the call's own. No function of the program occurs here. Extension fields: contracts of Check, Append, Auth and Split of the program, and of Check and Append of the reference. -/
import Derived.Test.YtdnmjeapihjabaaTxZ9
import Derived.Test.YtdnmjeapihjabaaTxZ7
import Derived.Test.YtdnmjeapihjabaaTxZ2
import Derived.Test.YtdnmjeapihjabaaTxZ3
namespace Go.Proofs.Ytdnmjeapihjabaa
open Go.RowKit
set_option linter.unusedSimpArgs false
set_option linter.unusedVariables false
set_option maxRecDepth 100000
theorem numB_appN (l : List Int) (x : Int) : numB (l ++ [x]) = stepB (numB l) x := by unfold numB; rw [List.foldl_append]; rfl
theorem numB_bytesN (k : Nat) : ∀ n : Int, 0 ≤ n → n < 256 ^ k → n < 18446744073709551616 → numB (bytesB k n) = n := by
  induction k with
  | zero => intro n h0 h1 _; simp at h1; simp [bytesB, numB]; omega
  | succ k ih =>
    intro n h0 h1 h2
    have h3 : n / 256 < 256 ^ k := by rw [Int.pow_succ] at h1; omega
    rw [bytesB, numB_appN, ih (n / 256) (by omega) h3 (by omega)]
    unfold stepB; omega
theorem bytes_numB : ∀ (k : Nat) (l : List Int), Byt l → l.length = k → k ≤ 8 → bytesB k (numB l) = l := by
  intro k
  induction k with
  | zero => intro l _ h _; rw [List.eq_nil_of_length_eq_zero h]; rfl
  | succ k ih =>
    intro l hb hl h8
    obtain ⟨m, x, rfl⟩ : ∃ m x, l = m ++ [x] := ⟨l.dropLast, l.getLast (by intro h; rw [h] at hl; simp at hl), (List.dropLast_concat_getLast _).symm⟩
    have hm : m.length = k := by simpa using hl
    have hbm : Byt m := fun y hy => hb y (by simp [hy])
    have hx := hb x (by simp)
    have h1 := numB_le_pow hbm
    have h0 := (numB_range m).1
    have h2 : (256 : Int) ^ m.length ≤ 256 ^ 7 := by
      rw [hm]
      have : (256 : Int) ^ 7 = 256 ^ k * 256 ^ (7 - k) := by rw [← Int.pow_add]; congr 1; omega
      have a : (0 : Int) < 256 ^ k := Int.pow_pos (by omega)
      have b : (0 : Int) < 256 ^ (7 - k) := Int.pow_pos (by omega)
      rw [this]
      have c : (256 : Int) ^ k * 1 ≤ 256 ^ k * 256 ^ (7 - k) := Int.mul_le_mul_of_nonneg_left (by omega) (by omega)
      omega
    have h3 : (256 : Int) ^ 7 = 72057594037927936 := by decide
    rw [numB_appN, bytesB]
    have e : stepB (numB m) x = numB m * 256 + x := by unfold stepB; omega
    rw [e, show (numB m * 256 + x) / 256 = numB m by omega, show (numB m * 256 + x) % 256 = x by omega, ih m hbm hm (by omega)]
theorem fB_skip (a m : List Int) (o s n : Nat) (ha : a.length = n) : fB (a ++ m) (n + o) s = fB m o s := by
  unfold fB
  rw [List.drop_append, List.drop_eq_nil_of_le (by omega), List.nil_append, show n + o - a.length = o by omega]
theorem iB_skip (a m : List Int) (o s n : Nat) (ha : a.length = n) : iB (a ++ m) (n + o) s = iB m o s := by
  unfold iB
  rw [List.drop_append, List.drop_eq_nil_of_le (by omega), List.nil_append, show n + o - a.length = o by omega]
theorem fB_head (s : Nat) (n : Int) (m : List Int) (h0 : 0 ≤ n) (h1 : n < 256 ^ s) (h2 : n < 18446744073709551616) : fB (bytesB s n ++ m) 0 s = n := by
  unfold fB
  rw [List.drop_zero, List.take_append_of_le_length (by rw [bytesB_length]; exact Nat.le_refl _), List.take_of_length_le (by rw [bytesB_length]; exact Nat.le_refl _), numB_bytesN s n h0 h1 h2]
theorem iB_head (n : Int) (m : List Int) (h0 : -128 ≤ n) (h1 : n ≤ 127) : iB (bytesB 1 (n % 256) ++ m) 0 1 = n := by
  unfold iB
  rw [List.drop_zero, List.take_append_of_le_length (by rw [bytesB_length]; exact Nat.le_refl _), List.take_of_length_le (by rw [bytesB_length]; exact Nat.le_refl _)]
  unfold intB
  rw [numB_bytesN 1 _ (by omega) (by simp; omega) (by omega), bytesB_length]
  rw [if_neg (by omega)]
  split <;> simp at * <;> omega
/-- what is read from the bytes of a header is that header -/
theorem encH_back (l v m st po pr rd rp id ref org rec xmt : Int) (beh : List Int) (hk : nchk l v m st po pr = 0) (h6 : 0 ≤ rd ∧ rd ≤ 4294967295) (h7 : 0 ≤ rp ∧ rp ≤ 4294967295) (h8 : 0 ≤ id ∧ id ≤ 4294967295)
    (h9 : 0 ≤ ref ∧ ref ≤ 18446744073709551615) (h10 : 0 ≤ org ∧ org ≤ 18446744073709551615) (h11 : 0 ≤ rec ∧ rec ≤ 18446744073709551615) (h12 : 0 ≤ xmt ∧ xmt ≤ 18446744073709551615) :
    ∃ L, L = encH l v m st po pr rd rp id ref org rec xmt ++ beh ∧ fB L 0 1 = l * 64 + v * 8 + m ∧ fB L 1 1 = st ∧ iB L 2 1 = po ∧ iB L 3 1 = pr ∧ fB L 4 4 = rd ∧ fB L 8 4 = rp ∧ fB L 12 4 = id ∧ fB L 16 8 = ref ∧ fB L 24 8 = org ∧ fB L 32 8 = rec ∧ fB L 40 8 = xmt ∧ L.drop 48 = beh := by
  obtain ⟨kl, kv, km, kst, kpo, kpr⟩ := nchk_ok hk
  refine ⟨_, rfl, ?_⟩
  have e : encH l v m st po pr rd rp id ref org rec xmt ++ beh = bytesB 1 (l * 64 + v * 8 + m) ++ (bytesB 1 st ++ (bytesB 1 (po % 256) ++ (bytesB 1 (pr % 256) ++ (bytesB 4 rd ++ (bytesB 4 rp ++ (bytesB 4 id ++ (bytesB 8 ref ++ (bytesB 8 org ++ (bytesB 8 rec ++ (bytesB 8 xmt ++ beh)))))))))) := by
    simp only [encH, ntpPairs, encB, List.flatMap_cons, List.flatMap_nil, List.append_nil, List.append_assoc]
  have hd : (encH l v m st po pr rd rp id ref org rec xmt ++ beh).drop 48 = beh := by
    rw [List.drop_append, List.drop_eq_nil_of_le (by rw [encH_len]; exact Nat.le_refl _), encH_len]; simp
  refine ⟨?_, ?_, ?_, ?_, ?_, ?_, ?_, ?_, ?_, ?_, ?_, hd⟩
  all_goals rw [e]
  · exact fB_head 1 _ _ (by omega) (by simp; omega) (by omega)
  · rw [fB_skip _ _ 0 1 1 (bytesB_length _ _)]; exact fB_head 1 _ _ (by omega) (by simp; omega) (by omega)
  · rw [iB_skip _ _ 1 1 1 (bytesB_length _ _), iB_skip _ _ 0 1 1 (bytesB_length _ _)]; exact iB_head _ _ kpo.1 kpo.2
  · rw [iB_skip _ _ 2 1 1 (bytesB_length _ _), iB_skip _ _ 1 1 1 (bytesB_length _ _), iB_skip _ _ 0 1 1 (bytesB_length _ _)]; exact iB_head _ _ kpr.1 kpr.2
  · rw [fB_skip _ _ 3 4 1 (bytesB_length _ _), fB_skip _ _ 2 4 1 (bytesB_length _ _), fB_skip _ _ 1 4 1 (bytesB_length _ _), fB_skip _ _ 0 4 1 (bytesB_length _ _)]; exact fB_head 4 _ _ (by omega) (by simp; omega) (by omega)
  · rw [fB_skip _ _ 7 4 1 (bytesB_length _ _), fB_skip _ _ 6 4 1 (bytesB_length _ _), fB_skip _ _ 5 4 1 (bytesB_length _ _), fB_skip _ _ 4 4 1 (bytesB_length _ _), fB_skip _ _ 0 4 4 (bytesB_length _ _)]; exact fB_head 4 _ _ (by omega) (by simp; omega) (by omega)
  · rw [fB_skip _ _ 11 4 1 (bytesB_length _ _), fB_skip _ _ 10 4 1 (bytesB_length _ _), fB_skip _ _ 9 4 1 (bytesB_length _ _), fB_skip _ _ 8 4 1 (bytesB_length _ _), fB_skip _ _ 4 4 4 (bytesB_length _ _), fB_skip _ _ 0 4 4 (bytesB_length _ _)]; exact fB_head 4 _ _ (by omega) (by simp; omega) (by omega)
  · rw [fB_skip _ _ 15 8 1 (bytesB_length _ _), fB_skip _ _ 14 8 1 (bytesB_length _ _), fB_skip _ _ 13 8 1 (bytesB_length _ _), fB_skip _ _ 12 8 1 (bytesB_length _ _), fB_skip _ _ 8 8 4 (bytesB_length _ _), fB_skip _ _ 4 8 4 (bytesB_length _ _), fB_skip _ _ 0 8 4 (bytesB_length _ _)]; exact fB_head 8 _ _ (by omega) (by simp; omega) (by omega)
  · rw [fB_skip _ _ 23 8 1 (bytesB_length _ _), fB_skip _ _ 22 8 1 (bytesB_length _ _), fB_skip _ _ 21 8 1 (bytesB_length _ _), fB_skip _ _ 20 8 1 (bytesB_length _ _), fB_skip _ _ 16 8 4 (bytesB_length _ _), fB_skip _ _ 12 8 4 (bytesB_length _ _), fB_skip _ _ 8 8 4 (bytesB_length _ _), fB_skip _ _ 0 8 8 (bytesB_length _ _)]; exact fB_head 8 _ _ (by omega) (by simp; omega) (by omega)
  · rw [fB_skip _ _ 31 8 1 (bytesB_length _ _), fB_skip _ _ 30 8 1 (bytesB_length _ _), fB_skip _ _ 29 8 1 (bytesB_length _ _), fB_skip _ _ 28 8 1 (bytesB_length _ _), fB_skip _ _ 24 8 4 (bytesB_length _ _), fB_skip _ _ 20 8 4 (bytesB_length _ _), fB_skip _ _ 16 8 4 (bytesB_length _ _), fB_skip _ _ 8 8 8 (bytesB_length _ _), fB_skip _ _ 0 8 8 (bytesB_length _ _)]; exact fB_head 8 _ _ (by omega) (by simp; omega) (by omega)
  · rw [fB_skip _ _ 39 8 1 (bytesB_length _ _), fB_skip _ _ 38 8 1 (bytesB_length _ _), fB_skip _ _ 37 8 1 (bytesB_length _ _), fB_skip _ _ 36 8 1 (bytesB_length _ _), fB_skip _ _ 32 8 4 (bytesB_length _ _), fB_skip _ _ 28 8 4 (bytesB_length _ _), fB_skip _ _ 24 8 4 (bytesB_length _ _), fB_skip _ _ 16 8 8 (bytesB_length _ _), fB_skip _ _ 8 8 8 (bytesB_length _ _), fB_skip _ _ 0 8 8 (bytesB_length _ _)]; exact fB_head 8 _ _ (by omega) (by simp; omega) (by omega)
theorem bytes_fB {L : List Int} (hb : Byt L) (o s : Nat) (h : o + s ≤ L.length) (h8 : s ≤ 8) : bytesB s (fB L o s) = (L.drop o).take s := by
  unfold fB
  exact bytes_numB s _ ((hb.drop o).take s) (by rw [List.length_take, List.length_drop]; omega) h8
theorem iB_mod {L : List Int} (hb : Byt L) (o : Nat) (h : o < L.length) : iB L o 1 % 256 = fB L o 1 := by
  rw [iB_one hb o h, fB_one hb o h]
  have := hb.at o
  unfold sgnB; split <;> omega
theorem take_join (L : List Int) (o s : Nat) (M : List Int) (h : M = (L.drop (o + s))) : (L.drop o).take s ++ M = L.drop o := by
  subst h
  rw [← List.drop_drop]
  exact List.take_append_drop s (L.drop o)
/-- the bytes of what was read are those that were read -/
theorem encH_again (L : List Int) (F : Int) (hb : Byt L) (h48 : 48 ≤ L.length) (hF : fB L 0 1 = F) :
    encH (F / 64) (F / 8 % 8) (F % 8) (fB L 1 1) (iB L 2 1) (iB L 3 1) (fB L 4 4) (fB L 8 4) (fB L 12 4) (fB L 16 8) (fB L 24 8) (fB L 32 8) (fB L 40 8) = L.take 48 := by
  have hr := fB_rng hb 0 1
  rw [hF] at hr
  have e0 : F / 64 * 64 + F / 8 % 8 * 8 + F % 8 = F := by omega
  have key : encH (F / 64) (F / 8 % 8) (F % 8) (fB L 1 1) (iB L 2 1) (iB L 3 1) (fB L 4 4) (fB L 8 4) (fB L 12 4) (fB L 16 8) (fB L 24 8) (fB L 32 8) (fB L 40 8) ++ L.drop 48 = L := by
    simp only [encH, ntpPairs, encB, List.flatMap_cons, List.flatMap_nil, List.append_nil, List.append_assoc, e0]
    rw [iB_mod hb 2 (by omega), iB_mod hb 3 (by omega), ← hF]
    rw [bytes_fB hb 0 1 (by omega) (by omega), bytes_fB hb 1 1 (by omega) (by omega), bytes_fB hb 2 1 (by omega) (by omega), bytes_fB hb 3 1 (by omega) (by omega), bytes_fB hb 4 4 (by omega) (by omega), bytes_fB hb 8 4 (by omega) (by omega), bytes_fB hb 12 4 (by omega) (by omega),
      bytes_fB hb 16 8 (by omega) (by omega), bytes_fB hb 24 8 (by omega) (by omega), bytes_fB hb 32 8 (by omega) (by omega), bytes_fB hb 40 8 (by omega) (by omega)]
    rw [take_join L 40 8 _ rfl, take_join L 32 8 _ rfl, take_join L 24 8 _ rfl, take_join L 16 8 _ rfl, take_join L 12 4 _ rfl, take_join L 8 4 _ rfl, take_join L 4 4 _ rfl, take_join L 3 1 _ rfl, take_join L 2 1 _ rfl, take_join L 1 1 _ rfl, take_join L 0 1 _ rfl, List.drop_zero]
  have h2 := congrArg (List.take 48) key
  rw [List.take_append_of_le_length (by rw [encH_len]; exact Nat.le_refl _), List.take_of_length_le (by rw [encH_len]; exact Nat.le_refl _)] at h2
  exact h2
/-- what is read is valid -/
theorem dec_valid {L : List Int} (F : Int) (hb : Byt L) (h48 : 48 ≤ L.length) (hF : fB L 0 1 = F) (hv : 1 ≤ F / 8 % 8 ∧ F / 8 % 8 ≤ 4) : nchk (F / 64) (F / 8 % 8) (F % 8) (fB L 1 1) (iB L 2 1) (iB L 3 1) = 0 := by
  have hr := fB_rng hb 0 1
  rw [hF] at hr
  have h1 := fB_rng hb 1 1
  have h2 := iB_one hb 2 (by omega)
  have h3 := iB_one hb 3 (by omega)
  have b2 := hb.at 2
  have b3 := hb.at 3
  unfold nchk
  rw [if_pos]
  rw [h2, h3]
  unfold sgnB
  refine ⟨by omega, by omega, by omega, by omega, by omega, by omega, by omega, by omega, ?_, ?_, ?_, ?_⟩ <;> split <;> omega
end Go.Proofs.Ytdnmjeapihjabaa
namespace Go.Proofs.Ytdnmjeapihjabaa
open Go.RowKit
set_option linter.unusedSimpArgs false
set_option linter.unusedVariables false
set_option maxRecDepth 100000
theorem decode_enc (l v m st po pr rd rp id ref org rec xmt : Int) (A : Option Addr) (n c : Nat) (beh : List Int) (w : World) (hk : nchk l v m st po pr = 0) (h6 : 0 ≤ rd ∧ rd ≤ 4294967295) (h7 : 0 ≤ rp ∧ rp ≤ 4294967295) (h8 : 0 ≤ id ∧ id ≤ 4294967295) (h9 : 0 ≤ ref ∧ ref ≤ 18446744073709551615) (h10 : 0 ≤ org ∧ org ≤ 18446744073709551615) (h11 : 0 ≤ rec ∧ rec ≤ 18446744073709551615) (h12 : 0 ≤ xmt ∧ xmt ≤ 18446744073709551615) (hn : beh.length + 48 = n) (hb : Bs w 0 w.heap.size A (encH l v m st po pr rd rp id ref org rec xmt ++ beh)) (hm : n ≤ 1000000) :
    Calls Try.prog 9 #[.slice A n c] w fun e w' => ∃ A' c', e = .returned (.tuple #[ntp l v m st po pr rd rp id ref org rec xmt, .slice A' (n - 48) c', .int .i64 0]) ∧ Ow w' w.heap.size A' c' beh ∧ Below w.heap.size w w' := by
  obtain ⟨L, hL, f0, f1, f2, f3, f4, f5, f6, f7, f8, f9, f10, fd⟩ := encH_back l v m st po pr rd rp id ref org rec xmt beh hk h6 h7 h8 h9 h10 h11 h12
  obtain ⟨kl, kv, km, kst, kpo, kpr⟩ := nchk_ok hk
  rw [← hL] at hb
  have hLn : L.length = n := by rw [hL, List.length_append, encH_len]; omega
  have hE := decode_ok A n c L w hLn hb (by omega) (by omega) (l * 64 + v * 8 + m) f0 (by omega)
  rw [f1, f2, f3, f4, f5, f6, f7, f8, f9, f10, fd, show (l * 64 + v * 8 + m) / 64 = l by omega, show (l * 64 + v * 8 + m) / 8 % 8 = v by omega, show (l * 64 + v * 8 + m) % 8 = m by omega] at hE
  exact hE
end Go.Proofs.Ytdnmjeapihjabaa
namespace Go.Proofs.Ytdnmjeapihjabaa
open Go.RowKit
set_option linter.unusedSimpArgs false
set_option linter.unusedVariables false
set_option maxRecDepth 100000
theorem numB_app' (l : List Int) (x : Int) : numB (l ++ [x]) = stepB (numB l) x := by unfold numB; rw [List.foldl_append]; rfl
theorem numB_bytesB' (k : Nat) : ∀ n : Int, 0 ≤ n → n < 256 ^ k → n < 18446744073709551616 → numB (bytesB k n) = n := by
  induction k with
  | zero => intro n h0 h1 _; simp at h1; simp [bytesB, numB]; omega
  | succ k ih =>
    intro n h0 h1 h2
    have h3 : n / 256 < 256 ^ k := by rw [Int.pow_succ] at h1; omega
    rw [bytesB, numB_app', ih (n / 256) (by omega) h3 (by omega)]
    unfold stepB; omega
theorem numB_le_pow' {L : List Int} (h : Byt L) : numB L < 256 ^ L.length := by
  have key : ∀ k : Nat, k ≤ L.length → numB (L.take k) < 256 ^ k := fun k => by
    induction k with
    | zero => intro _; simp [numB]
    | succ k ih =>
      intro hk
      have h1 := ih (by omega)
      have hx := h.at k
      have h2 := (numB_range (L.take k)).1
      rw [numB_succ L k (by omega), Int.pow_succ]
      unfold stepB
      omega
  have := key L.length (Nat.le_refl _)
  rwa [List.take_length] at this
theorem bytes_numB' : ∀ (k : Nat) (l : List Int), Byt l → l.length = k → k ≤ 8 → bytesB k (numB l) = l := by
  intro k
  induction k with
  | zero => intro l _ h _; rw [List.eq_nil_of_length_eq_zero h]; rfl
  | succ k ih =>
    intro l hb hl h8
    obtain ⟨m, x, rfl⟩ : ∃ m x, l = m ++ [x] := ⟨l.dropLast, l.getLast (by intro h; rw [h] at hl; simp at hl), (List.dropLast_concat_getLast _).symm⟩
    have hm : m.length = k := by simpa using hl
    have hbm : Byt m := fun y hy => hb y (by simp [hy])
    have hx := hb x (by simp)
    have h1 := numB_le_pow' hbm
    have h0 := (numB_range m).1
    have h2 : (256 : Int) ^ m.length ≤ 256 ^ 7 := by
      rw [hm]
      have : (256 : Int) ^ 7 = 256 ^ k * 256 ^ (7 - k) := by rw [← Int.pow_add]; congr 1; omega
      have a : (0 : Int) < 256 ^ k := Int.pow_pos (by omega)
      have b : (0 : Int) < 256 ^ (7 - k) := Int.pow_pos (by omega)
      rw [this]
      have c : (256 : Int) ^ k * 1 ≤ 256 ^ k * 256 ^ (7 - k) := Int.mul_le_mul_of_nonneg_left (by omega) (by omega)
      omega
    have h3 : (256 : Int) ^ 7 = 72057594037927936 := by decide
    rw [numB_app', bytesB]
    have e : stepB (numB m) x = numB m * 256 + x := by unfold stepB; omega
    rw [e, show (numB m * 256 + x) / 256 = numB m by omega, show (numB m * 256 + x) % 256 = x by omega, ih m hbm hm (by omega)]
abbrev Flds := List (Int × List Int)
/-- the error of a field of this kind and so many bytes -/
def chkE (kd n : Int) : Int := if 0 ≤ kd ∧ kd ≤ 65535 then (if 12 ≤ n ∧ n ≤ 256 ∧ n % 4 = 0 then 0 else 7) else 3
/-- the first error of fields -/
def firE : Flds → Int
  | [] => 0
  | t :: r => if chkE t.1 t.2.length = 0 then firE r else chkE t.1 t.2.length
def apxE (L : Flds) : Int := if 16 < L.length then 6 else firE L
def fldB (t : Int × List Int) : List Int := bytesB 2 t.1 ++ bytesB 2 (4 + t.2.length) ++ t.2
def fldsB : Flds → List Int
  | [] => []
  | t :: r => fldB t ++ fldsB r
/-- the fields are all valid -/
def AllV (L : Flds) : Prop := ∀ t ∈ L, chkE t.1 t.2.length = 0 ∧ Byt t.2
def pkd (l : List Int) : Int := numB (l.take 2)
def psz (l : List Int) : Nat := (numB ((l.drop 2).take 2)).toNat
/-- Parse: fields so far, and the bytes that are left -/
def prs : Nat → Flds → List Int → Flds × List Int × Int
  | 0, acc, _ => (acc, [], 0)
  | f + 1, acc, l =>
    if l.length = 0 then (acc, [], 0)
    else if l.length = 12 then (acc, l, 0)
    else if l.length < 16 then ([], [], 5)
    else if psz l < 16 ∨ psz l % 4 ≠ 0 then ([], [], 7)
    else if l.length < psz l then ([], [], 5)
    else if acc.length = 16 ∨ 260 < psz l then ([], [], 6)
    else prs f (acc ++ [(pkd l, (l.take (psz l)).drop 4)]) (l.drop (psz l))
def prsL (l : List Int) : Flds := (prs l.length [] l).1
def prsA (l : List Int) : List Int := (prs l.length [] l).2.1
def prsE (l : List Int) : Int := (prs l.length [] l).2.2
theorem xchk_ok {kd n : Int} : chkE kd n = 0 ↔ (0 ≤ kd ∧ kd ≤ 65535) ∧ 12 ≤ n ∧ n ≤ 256 ∧ n % 4 = 0 := by
  unfold chkE
  split
  · split
    · omega
    · omega
  · omega
theorem chk_form {kd n : Int} (h1 : 0 ≤ kd ∧ kd ≤ 65535) (h2 : ¬(12 ≤ n ∧ n ≤ 256 ∧ n % 4 = 0)) : chkE kd n = 7 := by unfold chkE; rw [if_pos h1, if_neg h2]
theorem chk_range {kd n : Int} (h1 : ¬(0 ≤ kd ∧ kd ≤ 65535)) : chkE kd n = 3 := by unfold chkE; rw [if_neg h1]
theorem kdL_cons (t : Int × List Int) (r : Flds) (k : Nat) : kdL (t :: r) (k + 1) = kdL r k := rfl
theorem dtL_cons (t : Int × List Int) (r : Flds) (k : Nat) : dtL (t :: r) (k + 1) = dtL r k := rfl
theorem firE_at : ∀ (L : Flds) (k : Nat), (∀ j, j < k → chkE (kdL L j) (dtL L j).length = 0) → k < L.length → chkE (kdL L k) (dtL L k).length ≠ 0 → firE L = chkE (kdL L k) (dtL L k).length
  | [], k, _, h, _ => by simp at h
  | t :: r, 0, _, _, h => by
    unfold firE
    rw [if_neg (show ¬ chkE t.1 t.2.length = 0 from h)]
    rfl
  | t :: r, k + 1, h0, h1, h2 => by
    have h3 := h0 0 (by omega)
    unfold firE
    rw [if_pos (show chkE t.1 t.2.length = 0 from h3), firE_at r k (fun j hj => h0 (j + 1) (by omega)) (by simpa using h1) h2]
    rfl
theorem firE_ok : ∀ (L : Flds), (∀ j, j < L.length → chkE (kdL L j) (dtL L j).length = 0) → firE L = 0
  | [], _ => rfl
  | t :: r, h => by
    have h3 := h 0 (by simp)
    unfold firE
    rw [if_pos (show chkE t.1 t.2.length = 0 from h3)]
    exact firE_ok r fun j hj => h (j + 1) (by simpa using hj)
theorem firE_all : ∀ {L : Flds}, firE L = 0 → ∀ t ∈ L, chkE t.1 t.2.length = 0
  | [], _, _, h => by cases h
  | t :: r, h, x, hx => by
    unfold firE at h
    by_cases h0 : chkE t.1 t.2.length = 0
    · rw [if_pos h0] at h
      rcases List.mem_cons.1 hx with rfl | hx
      · exact h0
      · exact firE_all h x hx
    · rw [if_neg h0] at h
      exact absurd h h0
theorem firE_valid {L : Flds} (h : ∀ t ∈ L, chkE t.1 t.2.length = 0) : firE L = 0 := by
  induction L with
  | nil => rfl
  | cons t r ih =>
    unfold firE
    rw [if_pos (h t (by simp)), ih fun x hx => h x (by simp [hx])]
theorem kd_mem {L : Flds} {k : Nat} (h : k < L.length) : (kdL L k, dtL L k) ∈ L := by
  unfold kdL dtL
  rw [List.getD_eq_getElem?_getD, List.getElem?_eq_getElem h]
  exact List.getElem_mem h
theorem fldsB_app (L M : Flds) : fldsB (L ++ M) = fldsB L ++ fldsB M := by
  induction L with
  | nil => rfl
  | cons t r ih => simp [fldsB, ih]
theorem fldsB_snoc (L : Flds) (t : Int × List Int) : fldsB (L ++ [t]) = fldsB L ++ fldB t := by rw [fldsB_app]; simp [fldsB]
theorem fl_take {L : Flds} {k : Nat} (h : k < L.length) : L.take (k + 1) = L.take k ++ [(kdL L k, dtL L k)] := by
  rw [List.take_succ_eq_append_getElem h]
  unfold kdL dtL
  rw [List.getD_eq_getElem?_getD, List.getElem?_eq_getElem h]
  rfl
theorem fldsB_take {L : Flds} {k : Nat} (h : k < L.length) : fldsB (L.take (k + 1)) = fldsB (L.take k) ++ bytesB 2 (kdL L k) ++ bytesB 2 (4 + (dtL L k).length) ++ dtL L k := by
  rw [fl_take h, fldsB_snoc]
  unfold fldB
  simp
theorem fldB_length (t : Int × List Int) : (fldB t).length = 4 + t.2.length := by unfold fldB; simp [bytesB_length]; omega
theorem fldB_byt {t : Int × List Int} (h : Byt t.2) : Byt (fldB t) := ((bytesB_byt _ _).app (bytesB_byt _ _)).app h
theorem fldsB_byt {L : Flds} (h : ∀ t ∈ L, Byt t.2) : Byt (fldsB L) := by
  induction L with
  | nil => exact Byt.nil
  | cons t r ih => exact (fldB_byt (h t (by simp))).app (ih fun x hx => h x (by simp [hx]))
theorem fldsB_le {L : Flds} {m : Nat} (h : ∀ t ∈ L, t.2.length ≤ m) : (fldsB L).length ≤ L.length * (4 + m) := by
  induction L with
  | nil => simp [fldsB]
  | cons t r ih =>
    have h1 := ih fun x hx => h x (by simp [hx])
    have h2 := h t (by simp)
    simp only [fldsB, List.length_append, fldB_length, List.length_cons, Nat.add_mul]
    omega
theorem psz_le (l : List Int) (hb : Byt l) : psz l ≤ 65535 := by
  have h := numB_le_pow' ((hb.drop 2).take 2)
  have h1 : ((l.drop 2).take 2).length ≤ 2 := List.length_take_le _ _
  have h2 : (256 : Int) ^ ((l.drop 2).take 2).length ≤ 65536 := by
    have h3 : ((l.drop 2).take 2).length = 0 ∨ ((l.drop 2).take 2).length = 1 ∨ ((l.drop 2).take 2).length = 2 := by omega
    rcases h3 with e | e | e <;> rw [e] <;> decide
  unfold psz
  omega
theorem pkd_rng (l : List Int) (hb : Byt l) : 0 ≤ pkd l ∧ pkd l ≤ 65535 := by
  have h := numB_le_pow' (hb.take 2)
  have h0 := (numB_range (l.take 2)).1
  have h1 : (l.take 2).length ≤ 2 := List.length_take_le _ _
  have h2 : (256 : Int) ^ (l.take 2).length ≤ 65536 := by
    have h3 : (l.take 2).length = 0 ∨ (l.take 2).length = 1 ∨ (l.take 2).length = 2 := by omega
    rcases h3 with e | e | e <;> rw [e] <;> decide
  unfold pkd
  omega
/-- the bytes of the field that was read -/
theorem fldB_read {l : List Int} (hb : Byt l) (h16 : 16 ≤ psz l) (hl : psz l ≤ l.length) : fldB (pkd l, (l.take (psz l)).drop 4) = l.take (psz l) := by
  obtain ⟨n, hn⟩ : ∃ n, psz l = n := ⟨_, rfl⟩
  rw [hn] at h16 hl ⊢
  have e1 : (l.take 2).length = 2 := by rw [List.length_take]; omega
  have e2 : ((l.drop 2).take 2).length = 2 := by rw [List.length_take, List.length_drop]; omega
  have hz : (4 : Int) + ((l.take n).drop 4).length = numB ((l.drop 2).take 2) := by
    have h1 := (numB_range ((l.drop 2).take 2)).1
    have h2 : (numB ((l.drop 2).take 2)).toNat = n := hn
    rw [List.length_drop, List.length_take]
    omega
  unfold fldB pkd
  simp only
  rw [hz, bytes_numB' 2 _ (hb.take 2) e1 (by omega), bytes_numB' 2 _ ((hb.drop 2).take 2) e2 (by omega)]
  have e3 : l.take 2 ++ (l.drop 2).take 2 = l.take 4 := by
    rw [show (4 : Nat) = 2 + 2 from rfl, List.take_add]
  rw [e3]
  have e4 : l.take 4 = (l.take n).take 4 := by rw [List.take_take, Nat.min_eq_left (by omega)]
  rw [e4, List.take_append_drop]
theorem prs_inv : ∀ (f : Nat) (acc : Flds) (l : List Int), AllV acc → acc.length ≤ 16 → l.length ≤ f → Byt l →
    ((prs f acc l).2.2 = 0 → fldsB (prs f acc l).1 ++ (prs f acc l).2.1 = fldsB acc ++ l ∧ AllV (prs f acc l).1 ∧ (prs f acc l).1.length ≤ 16 ∧ ((prs f acc l).2.1 = [] ∨ (prs f acc l).2.1.length = 12)) ∧
    ((prs f acc l).2.2 ≠ 0 → (prs f acc l).1 = [] ∧ (prs f acc l).2.1 = [] ∧ 0 < (prs f acc l).2.2)
  | 0, acc, l, ha, hc, hf, hb => by
    have : l = [] := List.eq_nil_of_length_eq_zero (by omega)
    subst this
    simp [prs, ha, hc]
  | f + 1, acc, l, ha, hc, hf, hb => by
    rw [prs]
    by_cases h0 : l.length = 0
    · have : l = [] := List.eq_nil_of_length_eq_zero h0
      subst this
      simp [ha, hc]
    rw [if_neg h0]
    by_cases h1 : l.length = 12
    · simp [h1, ha, hc]
    rw [if_neg h1]
    by_cases h2 : l.length < 16
    · simp [h2]
    rw [if_neg h2]
    by_cases h3 : psz l < 16 ∨ psz l % 4 ≠ 0
    · simp [h3]
    rw [if_neg h3]
    by_cases h4 : l.length < psz l
    · simp [h4]
    rw [if_neg h4]
    by_cases h5 : acc.length = 16 ∨ 260 < psz l
    · simp [h5]
    rw [if_neg h5]
    have hr := fldB_read hb (by omega) (by omega)
    have hk := pkd_rng l hb
    have hdl : ((l.take (psz l)).drop 4).length = psz l - 4 := by rw [List.length_drop, List.length_take]; omega
    have ha' : AllV (acc ++ [(pkd l, (l.take (psz l)).drop 4)]) := by
      intro t ht
      rcases List.mem_append.1 ht with ht | ht
      · exact ha t ht
      · rw [List.mem_singleton.1 ht]
        refine ⟨xchk_ok.2 ⟨hk, ?_⟩, (hb.take _).drop _⟩
        simp only
        rw [hdl]
        omega
    have h6 := prs_inv f (acc ++ [(pkd l, (l.take (psz l)).drop 4)]) (l.drop (psz l)) ha' (by simp; omega) (by rw [List.length_drop]; omega) (hb.drop _)
    refine ⟨fun h => ?_, h6.2⟩
    obtain ⟨g1, g2⟩ := h6.1 h
    refine ⟨?_, g2⟩
    rw [g1, fldsB_snoc, hr, List.append_assoc, List.take_append_drop]
/-- what was read is written as it was; an error returns nothing -/
theorem prs_back {l : List Int} (hb : Byt l) : (prsE l = 0 → fldsB (prsL l) ++ prsA l = l ∧ AllV (prsL l) ∧ (prsL l).length ≤ 16 ∧ (prsA l = [] ∨ (prsA l).length = 12)) ∧ (prsE l ≠ 0 → prsL l = [] ∧ prsA l = [] ∧ 0 < prsE l) := by
  have h := prs_inv l.length [] l (fun t ht => by cases ht) (by simp) (Nat.le_refl _) hb
  exact h
theorem apx_valid {L : Flds} (h : AllV L) (hl : L.length ≤ 16) : apxE L = 0 := by
  unfold apxE
  rw [if_neg (by omega), firE_valid fun t ht => (h t ht).1]
/-- fields that were written are read back -/
theorem prs_flds : ∀ (L : Flds) (f : Nat) (acc : Flds) (a : List Int), AllV L → acc.length + L.length ≤ 16 → (a = [] ∨ a.length = 12) → (fldsB L ++ a).length ≤ f → prs f acc (fldsB L ++ a) = (acc ++ L, a, 0)
  | [], f, acc, a, _, hc, ha, hf => by
    simp only [fldsB, List.nil_append, List.append_nil] at hf ⊢
    cases f with
    | zero => rw [List.eq_nil_of_length_eq_zero (by omega : a.length = 0)]; rfl
    | succ f =>
      rw [prs]
      rcases ha with rfl | ha
      · simp
      · rw [if_neg (by omega), if_pos ha]
  | t :: r, f, acc, a, hv, hc, ha, hf => by
    obtain ⟨hvt, hbt⟩ := hv t (by simp)
    obtain ⟨hk, h12, h256, h4⟩ := xchk_ok.1 hvt
    have hlen : (fldsB (t :: r) ++ a).length = 4 + t.2.length + (fldsB r ++ a).length := by
      simp only [fldsB, List.length_append, fldB_length]; omega
    have hl : ∃ q, fldsB (t :: r) ++ a = bytesB 2 t.1 ++ (bytesB 2 (4 + t.2.length) ++ (t.2 ++ q)) ∧ q = fldsB r ++ a := ⟨_, by simp [fldsB, fldB], rfl⟩
    obtain ⟨q, hq, hqe⟩ := hl
    have hp2 : (bytesB 2 t.1).length = 2 := bytesB_length _ _
    have hp2' : (bytesB 2 (4 + (t.2.length : Int))).length = 2 := bytesB_length _ _
    have e2 : (256 : Int) ^ 2 = 65536 := by decide
    have hkd : pkd (fldsB (t :: r) ++ a) = t.1 := by
      unfold pkd
      rw [hq, List.take_append_of_le_length (by omega), List.take_of_length_le (by omega)]
      exact numB_bytesB' 2 _ (by omega) (by omega) (by omega)
    have hsz : psz (fldsB (t :: r) ++ a) = 4 + t.2.length := by
      unfold psz
      rw [hq, List.drop_left' hp2, List.take_append_of_le_length (by omega), List.take_of_length_le (by omega), numB_bytesB' 2 _ (by omega) (by omega) (by omega)]
      omega
    cases f with
    | zero => omega
    | succ f =>
      rw [prs, hkd, hsz, if_neg (by omega), if_neg (by omega), if_neg (by omega), if_neg (by omega), if_neg (by omega), if_neg (by simp only [List.length_cons] at hc; omega)]
      have hd : (fldsB (t :: r) ++ a).drop (4 + t.2.length) = fldsB r ++ a := by
        rw [show fldsB (t :: r) ++ a = fldB t ++ (fldsB r ++ a) by simp [fldsB]]
        exact List.drop_left' (fldB_length t)
      have ht : ((fldsB (t :: r) ++ a).take (4 + t.2.length)).drop 4 = t.2 := by
        rw [show fldsB (t :: r) ++ a = fldB t ++ (fldsB r ++ a) by simp [fldsB], List.take_left' (fldB_length t)]
        unfold fldB
        exact List.drop_left' (by simp [bytesB_length])
      rw [hd, ht, show (t.1, t.2) = t from rfl, prs_flds r f (acc ++ [t]) a (fun x hx => hv x (by simp [hx])) (by simp only [List.length_append, List.length_cons, List.length_nil] at hc ⊢; omega) ha (by omega)]
      simp
theorem prs_of {L : Flds} {a : List Int} (hv : AllV L) (hc : L.length ≤ 16) (ha : a = [] ∨ a.length = 12) : prsL (fldsB L ++ a) = L ∧ prsA (fldsB L ++ a) = a ∧ prsE (fldsB L ++ a) = 0 := by
  have h := prs_flds L (fldsB L ++ a).length [] a hv (by simpa using hc) ha (Nat.le_refl _)
  unfold prsL prsA prsE
  rw [h]
  simp
end Go.Proofs.Ytdnmjeapihjabaa
namespace Go.Proofs.Ytdnmjeapihjabaa
open Go.RowKit
set_option linter.unusedSimpArgs false
set_option linter.unusedVariables false
set_option maxRecDepth 100000
theorem own_form {w : World} {lo size n : Nat} {E : TypeId} {v : Value} {xs : List Value} (h : w.ownsRow lo E size v n xs) (hn : 0 < n) : ∃ g cap, v = .slice (some ⟨g, 0, none⟩) n cap ∧ lo ≤ g ∧ g < w.heap.size ∧ n ≤ cap ∧ cap ≤ 9223372036854775807 ∧ ∀ k, k < n * size → w.cell? ⟨g, k, none⟩ = xs[k]? := by
  rcases h.2 with ⟨_, h0⟩ | ⟨g, cap, cur, rfl, hlo, hg, hnc, hcm, _⟩
  · omega
  · exact ⟨g, cap, rfl, hlo, (Array.getElem?_eq_some_iff.1 hg).1, hnc, by unfold maxLen at hcm; exact hcm, fun k hk => h.cellAt k hk⟩
section
variable {ops : Array Oper} {rest : List Oper} {o : Oper} {a : Act} {w : World} {Q : Exit → Act → World → Prop}
theorem wpl_append (hw : Region.wanted o (yielded ops a.tmps) = true) (d s : Operand) (T : TypeId) (ho : o.op = .call { callee := .builtin .append, args := #[d, s], argTypes := #[T, T] }) (E : TypeId) (z : Value) (size bytes : Nat)
    (hT : Try.prog.underlying T = some (.slice E)) (hI : (Try.prog.info? E).map (fun i => (i.zero, i.size, i.bytes)) = some (some z, size, bytes)) (hz : z.cells.size = size) (h0 : 0 < size) (v : Value) (n : Nat) (xs : List Value) (lo : Nat) (hd : a.eval d = v) (hown : w.ownsRow lo E size v n xs)
    (ad : Addr) (m c' : Nat) (hs : a.eval s = .slice (some ad) m c') (news : List Value) (hn : news.length = m * size) (hc : ∀ j u, news[j]? = some u → w.cell? (ad.add j) = some u) (h1 : ∀ u ∈ news, u.oneCell' = true)
    (hsz : n + m ≤ 1000000000) (hby : (n + m) * bytes ≤ 140737488355328) (hlo : lo ≤ w.heap.size)
    (h : ∀ v' w', w'.ownsRow lo E size v' (n + m) (xs ++ news) → Below lo w w' → w.grownBy w' v.ownBlock → wpList Try.prog ops Q rest (a.put o.dst v') w') : wpList Try.prog ops Q (o :: rest) a w := by
  obtain ⟨i, hi, hz', h1', h2'⟩ := info_parts hI
  obtain ⟨v', w', hrun, r1, r2, _, _⟩ := run_append_own_at (P := Try.prog) w lo T o.type E i z size bytes hT hi hz' h1' h2' hz h0 v n xs hown ad m c' news hn hc h1 (by unfold maxLen; omega) hby hlo
  refine wpl_want hw fun K hK => ?_
  unfold Oper.wp execOp
  simp only [ho, resolve, invoke, builtin, Sem.run_bind, Sem.run_pure, Result.andThen_ok, List.map_toArray, List.map_cons, List.map_nil, hd, hs, hrun]
  exact hK _ _ (h v' w' r1 (below_of_grown r2 hlo fun k hk => (hown.lt k hk).1) r2)
end
end Go.Proofs.Ytdnmjeapihjabaa
namespace Go.Proofs.Ytdnmjeapihjabaa
open Go.RowKit
set_option linter.unusedSimpArgs false
set_option linter.unusedVariables false
set_option maxRecDepth 100000
theorem ow_empty' {y : World} {lo g : Nat} (h : Blk y g 5 []) (hlo : lo ≤ g) : Ow y lo (some ⟨g, 0, none⟩) 0 [] :=
  ⟨Byt.nil, by simp, .inr ⟨g, 0, #[], rfl, hlo, h, Nat.zero_le _, by unfold maxLen; omega, by simp, by simp⟩⟩
abbrev exC (k : Int) (A : Option Addr) (n c : Nat) : List Value := [.int .i64 k, .slice A n c]
abbrev fxV (k : Int) (A : Option Addr) (n c : Nat) : Value := .agg #[.int .i64 k, .slice A n c]
theorem Xf.open' {w : World} {hi b o : Nat} {kd : Int} {dt : List Int} (h : Xf w hi b o kd dt) : ∃ A c, w.rangeAt b o [.int .i64 kd, .slice A dt.length c] ∧ Bs w 0 hi A dt ∧ dt.length ≤ c ∧ c ≤ 9223372036854775807 ∧ (A = none → dt.length = 0 ∧ c = 0) := by
  obtain ⟨A, c, c0, c1, hB, h3, h4, h5⟩ := h
  refine ⟨A, c, fun j v hv => ?_, hB, h3, h4, h5⟩
  match j with
  | 0 => simp at hv; rw [← hv]; exact c0
  | 1 => simp at hv; rw [← hv]; exact c1
  | j + 2 => simp at hv
open Go.RowKit
set_option maxHeartbeats 4000000 in
theorem chk_any (kd : Int) (A : Option Addr) (n c : Nat) (w : World) (hn : n ≤ 9223372036854775807) :
    Calls Try.prog 52 #[fxV kd A n c] w fun e w' => e = .returned (.int .i64 (chkE kd n)) ∧ Below w.heap.size w w' := by
  have n0 : (0 : Int) ≤ n := by omega
  by_cases h1 : kd < 0
  · have HE : Hid (chkE kd n = 3) := chk_range (by omega)
    have d1 : decide (kd < 0) = true := decide_eq_true h1
    clear h1
    go_enter Try.func52, Try.ntmps52
    go_wp2_with (first | ((refine wpl_box (by rfl) 71 _ (by rfl) _ (exC kd A n c) (by rfl) rfl ?_; intro w1 J1 s1 b1)) | (refine wpl_loadf (by rfl) 3 _ (by rfl) w.heap.size 0 (by rfl) _ _ J1 _ rfl _ Try.underlying3 rfl ?_) | (refine wpl_loadf (by rfl) 39 _ (by rfl) w.heap.size 1 (by rfl) _ _ J1 _ rfl _ Try.underlying39 rfl ?_))
    go_ret
    exact ⟨HE.out ▸ rfl, b1⟩
  · by_cases h2 : 65535 < kd
    · have HE : Hid (chkE kd n = 3) := chk_range (by omega)
      have d1 : decide (kd < 0) = false := decide_eq_false h1
      have d2 : decide (65535 < kd) = true := decide_eq_true h2
      clear h1 h2
      go_enter Try.func52, Try.ntmps52
      go_wp2_with (first | ((refine wpl_box (by rfl) 71 _ (by rfl) _ (exC kd A n c) (by rfl) rfl ?_; intro w1 J1 s1 b1)) | (refine wpl_loadf (by rfl) 3 _ (by rfl) w.heap.size 0 (by rfl) _ _ J1 _ rfl _ Try.underlying3 rfl ?_) | (refine wpl_loadf (by rfl) 39 _ (by rfl) w.heap.size 1 (by rfl) _ _ J1 _ rfl _ Try.underlying39 rfl ?_))
      go_ret
      exact ⟨HE.out ▸ rfl, b1⟩
    · have d1 : decide (kd < 0) = false := decide_eq_false h1
      have d2 : decide (65535 < kd) = false := decide_eq_false h2
      by_cases h3 : (n : Int) < 12
      · have HE : Hid (chkE kd n = 7) := chk_form (by omega) (by omega)
        have d3 : decide ((n : Int) < 12) = true := decide_eq_true h3
        clear h1 h2 h3
        go_enter Try.func52, Try.ntmps52
        go_wp2_with (first | ((refine wpl_box (by rfl) 71 _ (by rfl) _ (exC kd A n c) (by rfl) rfl ?_; intro w1 J1 s1 b1)) | (refine wpl_loadf (by rfl) 3 _ (by rfl) w.heap.size 0 (by rfl) _ _ J1 _ rfl _ Try.underlying3 rfl ?_) | (refine wpl_loadf (by rfl) 39 _ (by rfl) w.heap.size 1 (by rfl) _ _ J1 _ rfl _ Try.underlying39 rfl ?_))
        go_ret
        exact ⟨HE.out ▸ rfl, b1⟩
      · have d3 : decide ((n : Int) < 12) = false := decide_eq_false h3
        by_cases h4 : (256 : Int) < n
        · have HE : Hid (chkE kd n = 7) := chk_form (by omega) (by omega)
          have d4 : decide ((256 : Int) < n) = true := decide_eq_true h4
          clear h1 h2 h3 h4
          go_enter Try.func52, Try.ntmps52
          go_wp2_with (first | ((refine wpl_box (by rfl) 71 _ (by rfl) _ (exC kd A n c) (by rfl) rfl ?_; intro w1 J1 s1 b1)) | (refine wpl_loadf (by rfl) 3 _ (by rfl) w.heap.size 0 (by rfl) _ _ J1 _ rfl _ Try.underlying3 rfl ?_) | (refine wpl_loadf (by rfl) 39 _ (by rfl) w.heap.size 1 (by rfl) _ _ J1 _ rfl _ Try.underlying39 rfl ?_))
          go_ret
          exact ⟨HE.out ▸ rfl, b1⟩
        · have d4 : decide ((256 : Int) < n) = false := decide_eq_false h4
          by_cases h5 : (n : Int) % 4 = 0
          · have HE : Hid (chkE kd n = 0) := xchk_ok.2 (by omega)
            have d5 : ((n : Int) % 4 != 0) = false := by simpa using h5
            clear h1 h2 h3 h4 h5
            go_enter Try.func52, Try.ntmps52
            go_wp2_with (first | ((refine wpl_box (by rfl) 71 _ (by rfl) _ (exC kd A n c) (by rfl) rfl ?_; intro w1 J1 s1 b1)) | (refine wpl_loadf (by rfl) 3 _ (by rfl) w.heap.size 0 (by rfl) _ _ J1 _ rfl _ Try.underlying3 rfl ?_) | (refine wpl_loadf (by rfl) 39 _ (by rfl) w.heap.size 1 (by rfl) _ _ J1 _ rfl _ Try.underlying39 rfl ?_))
            go_ret
            exact ⟨HE.out ▸ rfl, b1⟩
          · have HE : Hid (chkE kd n = 7) := chk_form (by omega) (by omega)
            have d5 : ((n : Int) % 4 != 0) = true := by simpa using h5
            clear h1 h2 h3 h4 h5
            go_enter Try.func52, Try.ntmps52
            go_wp2_with (first | ((refine wpl_box (by rfl) 71 _ (by rfl) _ (exC kd A n c) (by rfl) rfl ?_; intro w1 J1 s1 b1)) | (refine wpl_loadf (by rfl) 3 _ (by rfl) w.heap.size 0 (by rfl) _ _ J1 _ rfl _ Try.underlying3 rfl ?_) | (refine wpl_loadf (by rfl) 39 _ (by rfl) w.heap.size 1 (by rfl) _ _ J1 _ rfl _ Try.underlying39 rfl ?_))
            go_ret
            exact ⟨HE.out ▸ rfl, b1⟩
open Go.RowKit
theorem append_2 (A : Option Addr) (nl c lo hi : Nat) (l : List Int) (n : Int) (w : World) (hnl : l.length = nl) (h : Bs w lo hi A l) (hh : hi ≤ w.heap.size) (hm : nl ≤ 140737488351232) (h0 : 0 ≤ n) (hf : n < 65536) :
    Calls Try.prog 53 #[.slice A nl c, .int .u64 n, .int .i64 2] w fun e w' => ∃ A' c', e = .returned (.tuple #[.slice A' (nl + 2) c', .int .i64 0]) ∧ Ow w' w.heap.size A' c' (l ++ bytesB 2 n) ∧ w.heap.size ≤ w'.heap.size ∧ Below w.heap.size w w' :=
  (append_ok A nl c lo hi l n 2 w hnl h hh hm (by omega) (by omega) (by omega) (by simpa using hf)).mono fun e w' ⟨h1, h2, h3, h4⟩ => ⟨_, _, h1, h2, by omega, h4⟩
/-- what has been written so far -/
def OutR (w0 wr : World) (lk : List Int) (v : Value) : Prop := ∃ A' c' N, v = .slice A' N c' ∧ lk.length = N ∧ Ow wr w0.heap.size A' c' lk
theorem apx_parts {L : Flds} (h : apxE L = 0) : L.length ≤ 16 ∧ ∀ k, k < L.length → chkE (kdL L k) (dtL L k).length = 0 := by
  unfold apxE at h
  split at h
  · omega
  · exact ⟨by omega, fun k hk => firE_all h _ (kd_mem hk)⟩
theorem apx_err {L : Flds} (h : apxE L ≠ 0) (hl : L.length ≤ 16) : apxE L = firE L ∧ ∃ k, k < L.length ∧ chkE (kdL L k) (dtL L k).length ≠ 0 := by
  have e : apxE L = firE L := by unfold apxE; rw [if_neg (by omega)]
  refine ⟨e, ?_⟩
  apply Classical.byContradiction
  intro hn
  refine h (e.trans (firE_ok L fun j hj => ?_))
  apply Classical.byContradiction
  intro h2
  exact hn ⟨j, hj, h2⟩
theorem sum_le {L : Flds} (h : ∀ k, k < L.length → chkE (kdL L k) (dtL L k).length = 0) (hl : L.length ≤ 16) (j : Nat) : (fldsB (L.take j)).length ≤ 4160 := by
  have h1 : ∀ t ∈ L.take j, t.2.length ≤ 256 := fun t ht => by
    have ht := List.mem_of_mem_take ht
    obtain ⟨i, hi, rfl⟩ := List.mem_iff_getElem.1 ht
    have h2 := h i hi
    unfold kdL dtL at h2
    rw [List.getD_eq_getElem?_getD, List.getElem?_eq_getElem hi] at h2
    have := xchk_ok.1 h2
    simp only [Option.getD_some] at this
    omega
  have h2 := fldsB_le h1
  have h3 : (L.take j).length ≤ 16 := by rw [List.length_take]; omega
  have h4 : (L.take j).length * (4 + 256) ≤ 16 * 260 := Nat.mul_le_mul_right 260 h3
  omega
set_option maxHeartbeats 8000000 in
theorem xappend_ok (A : Option Addr) (n c lo hi : Nat) (l : List Int) (B : Option Addr) (m d : Nat) (L : Flds) (w : World) (hn : l.length = n) (h : Bs w lo hi A l) (hh : hi ≤ w.heap.size) (hA : A = none → n = 0 ∧ c = 0) (hn2 : n ≤ 1000000) (hm : L.length = m) (hX : Xs w w.heap.size B L) (hmd : m ≤ d) (hd : d ≤ 9223372036854775807) (he : apxE L = 0) :
    Calls Try.prog 23 #[.slice A n c, .slice B m d] w fun e w' => ∃ A' c' N, e = .returned (.tuple #[.slice A' N c', .int .i64 0]) ∧ (l ++ fldsB L).length = N ∧ Ow w' w.heap.size A' c' (l ++ fldsB L) ∧ Below w.heap.size w w' := by
  obtain ⟨h16, hall⟩ := apx_parts he
  have hsum := fun j => sum_le hall h16 j
  rw [hm] at h16 hall
  have Hall := Lib.hid hall
  have Hsum := Lib.hid hsum
  clear he hall hsum
  have h16' : (m : Int) ≤ 16 := by omega
  go_enter Try.func23, Try.ntmps23
  go_wp2
  go_loopw [17] (fun i wr => ∃ k : Nat, k ≤ m ∧ i = .int .i64 k ∧ Below w.heap.size w wr) (fun i _ => m - (intOf i).toNat)
  case atStart => exact ⟨0, by omega, rfl, Below.refl _ _⟩
  case round =>
    obtain ⟨k, hk, rfl, hB⟩ := hrel
    by_cases hlt : k < m
    · skip
      obtain ⟨b, o, rfl, hbw, hx⟩ := (hX.below hB (Nat.le_refl _)) (by omega)
      obtain ⟨Ak, ck, hrg, hBk, hlc, hcm, hno⟩ := (hx k (by omega)).open'
      have hi0 : (0 : Int) ≤ k := by omega
      have hi1 : (k : Int) < m := by omega
      obtain ⟨K, hK⟩ : ∃ K, K = kdL L k := ⟨_, rfl⟩
      obtain ⟨D, hD⟩ : ∃ D, D = (dtL L k).length := ⟨_, rfl⟩
      rw [← hK, ← hD] at hrg
      rw [← hD] at hlc hno
      have HK := Lib.hid hK
      have HD := Lib.hid hD
      clear hx hK hD
      have hc0 : (chkE K D != 0) = false := by
        have := Hall.out k hlt
        rw [HK.out, HD.out]; simpa using this
      clear Hall Hsum
      go_wp2_with (first
        | (refine wpl_loadr (by rfl) 71 _ (by rfl) b (o + k * 2) (by rfl) _ hrg _ Try.underlying71 rfl _ sizeExt (by rfl) ?_)
        | (refine wpl_alloc (by rfl) 71 (by rfl) (.agg (exC 0 none 0 0).toArray) (exC 0 none 0 0) zeroExt rfl ?_; intro wa Ja sa ba)
        | (refine wpl_store (by rfl) 71 _ _ (by rfl) wr.heap.size (by rfl) _ (by rfl) (exC K Ak D ck) rfl 71 _ Ja (by rfl) _ sizeExt (by rfl) (by simp [Value.oneCell']) ?_; intro wb Jb sb gb)
        | (refine wpl_load (by rfl) 71 _ (by rfl) wr.heap.size (by rfl) 71 _ Jb _ Try.underlying71 rfl _ sizeExt (by rfl) ?_) | (go_at_call 52; ((with_reducible refine (chk_any _ _ _ _ _ (by omega)).mono ?_); rintro e wc ⟨rfl, bc⟩)))
      exact ⟨⟨k + 1, by omega, by go_num, ((hB.trans (ba.mono hB.size)).trans (gb.below (by have := hB.size; omega) hB.size)).trans (bc.mono (by have := hB.size; omega))⟩, by simp [intOf]; omega⟩
    · obtain rfl : m = k := by omega
      have hE := clone_any A n c lo hi l wr hn (h.below (hB.mono (by omega)) (Nat.le_refl _)) (by have := hB.size; omega) (by omega) hA
      go_wp2_with fail
      with_reducible refine hE.mono ?_
      rintro e w1 ⟨A1, c1, rfl, O1, z1, b1⟩
      have B1 := hB.trans (b1.mono hB.size)
      have O1' := O1.wide hB.size
      clear hE O1 b1
      go_wp2
      go_loopw [9, 31] (fun v i wr => ∃ k : Nat, k ≤ m ∧ i = .int .i64 k ∧ OutR w wr (l ++ fldsB (L.take k)) v ∧ Below w.heap.size w wr) (fun _ i _ => m - (intOf i).toNat)
      case atStart => exact ⟨0, by omega, rfl, ⟨A1, c1, n, rfl, by simpa [fldsB] using hn, by simpa [fldsB] using O1'⟩, B1⟩
      case round =>
        rename_i wq
        obtain ⟨k, hk, rfl, ⟨A3, c3, N, rfl, hN, O3⟩, hB⟩ := hrel
        clear B1 O1' z1
        by_cases hlt : k < m
        · have hnext := fldsB_take (L := L) (k := k) (by omega)
          have hsz := Hsum.out (k + 1)
          have hsz0 := Hsum.out k
          have hck := Hall.out k hlt
          have hN2 : N ≤ 1004160 := by rw [← hN, List.length_append]; omega
          generalize hlk : l ++ fldsB (L.take k) = lk at hN O3
          have hnx : l ++ fldsB (L.take (k + 1)) = lk ++ bytesB 2 (kdL L k) ++ bytesB 2 (4 + (dtL L k).length) ++ dtL L k := by rw [hnext, ← hlk]; simp
          obtain ⟨b, o, rfl, hbw, hx⟩ := (hX.below hB (Nat.le_refl _)) (by omega)
          obtain ⟨Ak, ck, hrg, hBk, hlc, hcm, hno⟩ := (hx k (by omega)).open'
          have hi0 : (0 : Int) ≤ k := by omega
          have hi1 : (k : Int) < m := by omega
          obtain ⟨K, hK⟩ : ∃ K, K = kdL L k := ⟨_, rfl⟩
          obtain ⟨D, hD⟩ : ∃ D, D = (dtL L k).length := ⟨_, rfl⟩
          rw [← hK, ← hD] at hrg
          rw [← hD] at hlc hno
          have HK := Lib.hid hK
          have HD := Lib.hid hD
          clear hx hK hD
          rw [← HK.out, ← HD.out] at hnx hck
          obtain ⟨⟨hK0, hK1⟩, hD12, hD256, _⟩ := xchk_ok.1 hck
          have HN := Lib.hid hnx
          clear hnx hnext hsz hsz0 hck hlk Hall Hsum
          go_wp2_with (first
            | (refine wpl_loadr (by rfl) 71 _ (by rfl) b (o + k * 2) (by rfl) _ hrg _ Try.underlying71 rfl _ sizeExt (by rfl) ?_)
            | (refine wpl_alloc (by rfl) 71 (by rfl) (.agg (exC 0 none 0 0).toArray) (exC 0 none 0 0) zeroExt rfl ?_; intro wa Ja sa ba)
            | (refine wpl_store (by rfl) 71 _ _ (by rfl) wr.heap.size (by rfl) _ (by rfl) (exC K Ak D ck) rfl 71 _ Ja (by rfl) _ sizeExt (by rfl) (by simp [Value.oneCell']) ?_; intro wb Jb sb gb)
            | (refine wpl_loadf (by rfl) 3 _ (by rfl) wr.heap.size 0 (by rfl) _ _ Jb _ rfl _ Try.underlying3 rfl ?_))
          have Ob := (O3.below ba (Nat.le_refl _)).grown gb (by intro g hg; have := (O3.blt g hg).2; simp; omega)
          have zb := hB.size
          have Db := (hBk.below ba zb).grown gb (by omega) (by intro g hg; simp at hg; omega)
          have Bb := (hB.trans (ba.mono zb)).trans (gb.below (by omega) zb)
          have hE := append_2 A3 N c3 _ _ lk K wb hN Ob.bs (Nat.le_refl _) (by omega) hK0 (by omega)
          clear Ja O3 ba gb hBk hrg hX hB
          with_reducible refine hE.mono ?_
          rintro e w2 ⟨A4, c4, rfl, O4, z4, b4⟩
          have J2 := Jb.below b4 Jb.lt
          have D2 := Db.below b4 (by omega)
          have B2 := Bb.trans (b4.mono Bb.size)
          have h4 : (lk ++ bytesB 2 K).length = N + 2 := by rw [List.length_append, bytesB_length, hN]
          clear hE Jb Db Ob Bb b4
          go_wp2_with (first | (refine wpl_loadf (by rfl) 39 _ (by rfl) wr.heap.size 1 (by rfl) _ _ J2 _ rfl _ Try.underlying39 rfl ?_))
          have hE := append_2 A4 (N + 2) c4 _ _ _ (4 + D) w2 h4 O4.bs (Nat.le_refl _) (by omega) (by omega) (by omega)
          with_reducible refine hE.mono ?_
          rintro e w3 ⟨A5, c5, rfl, O5, z5, b5⟩
          have J3 := J2.below b5 J2.lt
          have D3 := D2.below b5 (by omega)
          have B3 := B2.trans (b5.mono B2.size)
          have h5 : (lk ++ bytesB 2 K ++ bytesB 2 (4 + D)).length = N + 2 + 2 := by rw [List.length_append, bytesB_length, h4]
          clear hE J2 D2 O4 B2 b5
          go_wp2_with (first | (refine wpl_loadf (by rfl) 39 _ (by rfl) wr.heap.size 1 (by rfl) _ _ J3 _ rfl _ Try.underlying39 rfl ?_) | (at_builtin; refine wpList_append_bs rfl (.tmp 53) (.tmp 55) rfl (N + 2 + 2) c5 D ck (by rfl) (by rfl) h5 HD.out.symm O5 D3 (by omega) (by omega) ?_; intro A6 c6 w6 O6 b6 _))
          exact ⟨⟨k + 1, by omega, by go_num, ⟨A6, c6, _, rfl, by rw [HN.out, List.length_append, h5, HD.out], by rw [HN.out]; exact O6.wide (by omega)⟩, B3.trans (b6.mono (by omega))⟩, by simp [intOf]; omega⟩
        · obtain rfl : m = k := by omega
          rw [List.take_of_length_le (by omega)] at hN O3
          go_wp2
          go_ret2
          exact ⟨_, _, _, rfl, hN, O3, hB⟩
set_option maxHeartbeats 8000000 in
theorem xappend_err (A : Option Addr) (n c : Nat) (B : Option Addr) (m d : Nat) (L : Flds) (w : World) (hm : L.length = m) (hX : Xs w w.heap.size B L) (hmd : m ≤ d) (hd : d ≤ 9223372036854775807) (he : apxE L ≠ 0) :
    Calls Try.prog 23 #[.slice A n c, .slice B m d] w fun e w' => e = .returned (.tuple #[.slice none 0 0, .int .i64 (apxE L)]) ∧ Below w.heap.size w w' := by
  by_cases h16 : 16 < m
  · have hE : Hid (apxE L = 6) := by show apxE L = 6; unfold apxE; rw [if_pos (by omega)]
    have h16' : decide (16 < (m : Int)) = true := decide_eq_true (by omega)
    clear he
    go_enter Try.func23, Try.ntmps23
    go_wp2
    go_ret2
    exact ⟨by rw [hE.out]; rfl, Below.refl _ _⟩
  · obtain ⟨hfe, k0, hk0, hk1⟩ := apx_err he (by omega)
    have HF := Lib.hid hfe
    have HK1 := Lib.hid hk1
    clear he hfe hk1
    rw [hm] at hk0
    have h16' : (m : Int) ≤ 16 := by omega
    go_enter Try.func23, Try.ntmps23
    go_wp2
    go_loopw [17] (fun i wr => ∃ k : Nat, k ≤ m ∧ i = .int .i64 k ∧ Hid (∀ j, j < k → chkE (kdL L j) (dtL L j).length = 0) ∧ Below w.heap.size w wr) (fun i _ => m - (intOf i).toNat)
    case atStart => exact ⟨0, by omega, rfl, fun j hj => absurd hj (by omega), Below.refl _ _⟩
    case round =>
      obtain ⟨k, hk, rfl, hV, hB⟩ := hrel
      by_cases hlt : k < m
      · skip
        obtain ⟨b, o, rfl, hbw, hx⟩ := (hX.below hB (Nat.le_refl _)) (by omega)
        obtain ⟨Ak, ck, hrg, hBk, hlc, hcm, hno⟩ := (hx k (by omega)).open'
        have hi0 : (0 : Int) ≤ k := by omega
        have hi1 : (k : Int) < m := by omega
        obtain ⟨K, hK⟩ : ∃ K, K = kdL L k := ⟨_, rfl⟩
        obtain ⟨D, hD⟩ : ∃ D, D = (dtL L k).length := ⟨_, rfl⟩
        rw [← hK, ← hD] at hrg
        rw [← hD] at hlc hno
        have HK := Lib.hid hK
        have HD := Lib.hid hD
        clear hx hK hD
        obtain ⟨E, hEE⟩ : ∃ E, E = chkE K D := ⟨_, rfl⟩
        have hck := fun W => chk_any K Ak D ck W (by omega)
        simp only [← hEE] at hck
        by_cases hE0 : E = 0
        · have hc0 : (E != 0) = false := by simpa using hE0
          have hV' : Hid (∀ j, j < k + 1 → chkE (kdL L j) (dtL L j).length = 0) := fun j hj => by
            rcases Nat.lt_or_ge j k with h1 | h1
            · exact hV.out j h1
            · obtain rfl : j = k := by omega
              rw [← HK.out, ← HD.out, ← hEE, hE0]
          clear hEE hE0
          go_wp2_with (first
            | (refine wpl_loadr (by rfl) 71 _ (by rfl) b (o + k * 2) (by rfl) _ hrg _ Try.underlying71 rfl _ sizeExt (by rfl) ?_)
            | (refine wpl_alloc (by rfl) 71 (by rfl) (.agg (exC 0 none 0 0).toArray) (exC 0 none 0 0) zeroExt rfl ?_; intro wa Ja sa ba)
            | (refine wpl_store (by rfl) 71 _ _ (by rfl) wr.heap.size (by rfl) _ (by rfl) (exC K Ak D ck) rfl 71 _ Ja (by rfl) _ sizeExt (by rfl) (by simp [Value.oneCell']) ?_; intro wb Jb sb gb)
            | (refine wpl_load (by rfl) 71 _ (by rfl) wr.heap.size (by rfl) 71 _ Jb _ Try.underlying71 rfl _ sizeExt (by rfl) ?_) | (go_at_call 52; ((with_reducible refine (hck _).mono ?_); rintro e wc ⟨rfl, bc⟩)))
          exact ⟨⟨k + 1, by omega, by go_num, hV', ((hB.trans (ba.mono hB.size)).trans (gb.below (by have := hB.size; omega) hB.size)).trans (bc.mono (by have := hB.size; omega))⟩, by simp [intOf]; omega⟩
        · have hc0 : (E != 0) = true := by simpa using hE0
          have HR : Hid (apxE L = E) := by
            have h1 := firE_at L k hV.out (by omega) (by rw [← HK.out, ← HD.out, ← hEE]; exact hE0)
            rw [← HK.out, ← HD.out, ← hEE] at h1
            exact HF.out.trans h1
          clear hEE hE0
          go_wp2_with (first
            | (refine wpl_loadr (by rfl) 71 _ (by rfl) b (o + k * 2) (by rfl) _ hrg _ Try.underlying71 rfl _ sizeExt (by rfl) ?_)
            | (refine wpl_alloc (by rfl) 71 (by rfl) (.agg (exC 0 none 0 0).toArray) (exC 0 none 0 0) zeroExt rfl ?_; intro wa Ja sa ba)
            | (refine wpl_store (by rfl) 71 _ _ (by rfl) wr.heap.size (by rfl) _ (by rfl) (exC K Ak D ck) rfl 71 _ Ja (by rfl) _ sizeExt (by rfl) (by simp [Value.oneCell']) ?_; intro wb Jb sb gb)
            | (refine wpl_load (by rfl) 71 _ (by rfl) wr.heap.size (by rfl) 71 _ Jb _ Try.underlying71 rfl _ sizeExt (by rfl) ?_) | (go_at_call 52; ((with_reducible refine (hck _).mono ?_); rintro e wc ⟨rfl, bc⟩)))
          go_ret2
          exact ⟨by rw [HR.out]; rfl, ((hB.trans (ba.mono hB.size)).trans (gb.below (by have := hB.size; omega) hB.size)).trans (bc.mono (by have := hB.size; omega))⟩
      · exact absurd (hV.out k0 (by omega)) HK1.out
end Go.Proofs.Ytdnmjeapihjabaa
