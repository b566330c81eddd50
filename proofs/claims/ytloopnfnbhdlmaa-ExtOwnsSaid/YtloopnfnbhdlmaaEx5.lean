/- The contract of Parse of the reference. -/
import Derived.Test.YtloopnfnbhdlmaaEx4
namespace Go.Proofs.Ytloopnfnbhdlmaa
open Go.RowKit
set_option linter.unusedSimpArgs false
set_option linter.unusedVariables false
set_option maxRecDepth 100000
theorem rpget_kd (A : Option Addr) (n c lo hi at_ : Nat) (l : List Int) (w : World) (hn : l.length = n) (h : Bs w lo hi A l) (hm : n ≤ c) (hc : c ≤ 9223372036854775807) (h16 : at_ + 16 ≤ n) :
    Calls Try.prog 27 #[.slice A n c, .int .i64 at_, .int .i64 2] w fun e w' => e = .returned (.tuple #[.int .u64 (pkd (l.drop at_)), .int .i64 0]) ∧ w = w' := by
  have h1 := rget_any A n c lo hi l at_ 2 w hn h hm hc (by omega)
  unfold getR at h1
  rw [getE_0 (by omega) (by omega)] at h1
  have e : getV l at_ 2 = pkd (l.drop at_) := by unfold getV pkd; simp
  rw [e] at h1
  exact h1
theorem rpget_sz (A : Option Addr) (n c lo hi at_ : Nat) (l : List Int) (w : World) (hn : l.length = n) (h : Bs w lo hi A l) (hm : n ≤ c) (hc : c ≤ 9223372036854775807) (h16 : at_ + 16 ≤ n) :
    Calls Try.prog 27 #[.slice A n c, .int .i64 ((at_ : Int) + 2), .int .i64 2] w fun e w' => e = .returned (.tuple #[.int .u64 ((psz (l.drop at_) : Nat) : Int), .int .i64 0]) ∧ w = w' := by
  have h1 := rget_any A n c lo hi l ((at_ : Int) + 2) 2 w hn h hm hc (by omega)
  unfold getR at h1
  rw [getE_0 (by omega) (by omega)] at h1
  have e : getV l ((at_ : Int) + 2) 2 = ((psz (l.drop at_) : Nat) : Int) := by
    have := (numB_range (((l.drop at_).drop 2).take 2)).1
    have e2 : (l.drop ((at_ : Int) + 2).toNat).take (2 : Int).toNat = ((l.drop at_).drop 2).take 2 := by
      rw [show ((at_ : Int) + 2).toNat = at_ + 2 by omega, ← List.drop_drop]; rfl
    unfold getV psz
    rw [e2]
    omega
  rw [e] at h1
  exact h1
/-- the state of the loop -/
def RParR (w0 : World) (PR : Flds × List Int × Int) (l : List Int) (wr : World) (av lv : Value) : Prop :=
  ∃ (T : List XT) (A : Option Addr) (c k f : Nat), lv = .slice A T.length c ∧ XOT wr w0.heap.size A c T ∧ av = .int .i64 k ∧ k ≤ l.length ∧ l.length - k ≤ f ∧ prs f (flds T) (l.drop k) = PR ∧ T.length ≤ 16 ∧ Below w0.heap.size w0 wr
set_option maxHeartbeats 16000000 in
theorem rparse_any (A : Option Addr) (n c : Nat) (l : List Int) (w : World) (hn : l.length = n) (h : Bs w 0 w.heap.size A l) (hm : n ≤ c) (hc : c ≤ 9223372036854775807) (hn2 : n ≤ 1000000) :
    Calls Try.prog 16 #[.slice A n c] w (ParPost (prs l.length [] l) w) := by
  obtain ⟨PR, hPR⟩ : ∃ PR, prs l.length [] l = PR := ⟨_, rfl⟩
  rw [hPR]
  have HP := Lib.hid hPR
  have HNl := Lib.hid hn
  clear hPR hn
  go_enter Try.func16, Try.ntmps16
  go_wp2
  go_loopw [6, 5] (fun a lv wr => RParR w PR l wr a lv) (fun a _ _ => n - (intOf a).toNat)
  case atStart => exact ⟨[], none, 0, 0, l.length, rfl, XOT.nil _ _, rfl, by omega, by omega, HP.out, by simp, Below.refl _ _⟩
  case round =>
    obtain ⟨T, A1, c1, k, f, rfl, hX, rfl, hk, hmf, hprs, h16, hBw⟩ := hrel
    have hB := h.below hBw (Nat.le_refl _)
    rw [HNl.out] at hk hmf
    have hr : (l.drop k).length = n - k := by rw [List.length_drop, HNl.out]
    clear h HP
    by_cases h0 : k = n
    · subst h0
      obtain rfl := prs_end hprs (by omega)
      clear hprs hr hmf
      have d0 : decide (k < k) = false := decide_eq_false (by omega)
      go_wp2
      go_ret3
      exact ⟨A1, c1, none, 0, T.length, 0, wr, rfl, flds_len T, rfl, ⟨T, rfl, hX⟩, hBw, Below.refl _ _, Ow.nil _ _⟩
    have hkn : k < n := by omega
    have hknI : (k : Int) < n := by omega
    obtain ⟨b, o, hA, _, hbw, _⟩ := hB.at (by rw [HNl.out]; omega)
    subst hA
    obtain ⟨M, hM⟩ : ∃ M, M = n - k := ⟨_, rfl⟩
    have hMI : (n : Int) - k = M := by omega
    have hM0 : 0 < M := by omega
    have hkM : k + M = n := by omega
    have hk0 : (0 : Int) ≤ k := by omega
    have hD := hB.dropm k
    simp only [Option.map, ofAdd] at hD
    have d0 : decide (k < n) = true := decide_eq_true hkn
    by_cases h12 : M = 12
    · obtain rfl := prs_auth hprs (by omega) (by omega)
      have O1 := ow_empty' (lo := wr.heap.size) (Blk.new wr 5 #[] [] rfl) (Nat.le_refl _)
      have D1 := hD.alloc hBw.size (.cells #[] 5)
      have HR := Lib.hid hr
      have HM := Lib.hid hM
      have e12 : ((M : Int) == 12) = true := by simp; omega
      have hm12 : n - k ≤ 1000000 := by omega
      clear hprs hr hD hM h12
      go_wp2_with (first | (at_builtin; refine wpList_append_bs rfl (.tmp 24) (.tmp 27) rfl 0 0 (n - k) (c - k) (by rfl) (by rfl) rfl HR.out O1 D1 (by omega) (by simp) ?_; intro A4 c4 w4 O4 b4 _))
      go_ret3
      exact ⟨A1, c1, A4, c4, T.length, n - k, wr, by simp, flds_len T, HR.out, ⟨T, rfl, hX⟩, hBw, ((Below.refl _ _).alloc (Nat.le_refl _) _).trans b4, by simpa using O4⟩
    have e12 : ((M : Int) == 12) = false := by simp; omega
    by_cases hs : M < 16
    · obtain rfl := prs_short hprs (by omega) (by omega) (by omega) (by omega)
      have d16 : decide ((M : Int) < 16) = true := decide_eq_true (by omega)
      clear hprs hr hM h12 hs hD
      go_wp2
      go_ret3
      exact par_err hBw
    have d16 : decide ((M : Int) < 16) = false := decide_eq_false (by omega)
    have hG1 := rpget_kd (some ⟨b, o, none⟩) n c 0 _ k l wr HNl.out hB hm hc (by omega)
    have hG2 := rpget_sz (some ⟨b, o, none⟩) n c 0 _ k l wr HNl.out hB hm hc (by omega)
    obtain ⟨rest, hrest⟩ : ∃ rest, l.drop k = rest := ⟨_, rfl⟩
    rw [hrest] at hG1 hG2 hprs hr hD
    have hkr := pkd_rng rest hD.byt
    have hzr := psz_le rest hD.byt
    obtain ⟨Z, hZ⟩ : ∃ Z, Z = psz rest := ⟨_, rfl⟩
    obtain ⟨KD, hKD⟩ : ∃ KD, KD = pkd rest := ⟨_, rfl⟩
    rw [← hZ] at hG2 hzr
    rw [← hKD] at hG1 hkr
    obtain ⟨hkd0, hkd1⟩ := hkr
    have hzI : (Z : Int) ≤ 65535 := by omega
    have hm16 : 16 ≤ M := by omega
    have hrM : rest.length = M := by omega
    rw [← hM] at hmf
    have HM := Lib.hid hM
    have HRest := Lib.hid hrest
    clear h12 hs hr hM hrest
    by_cases hf : Z < 16 ∨ Z % 4 ≠ 0
    · obtain rfl := prs_form hprs (by omega) (by omega) (by rw [← hZ]; exact hf)
      have HZ := Lib.hid hZ
      have HKD := Lib.hid hKD
      clear hprs hrM hZ hKD
      by_cases hz1 : Z < 16
      · have e1 : decide ((Z : Int) < 16) = true := decide_eq_true (by omega)
        clear hf hz1
        go_wp2_with (first
          | (go_at_call 27; ((with_reducible refine hG1.mono ?_); rintro e _ ⟨rfl, rfl⟩))
          | (go_at_call 27; ((with_reducible refine hG2.mono ?_); rintro e _ ⟨rfl, rfl⟩)))
        go_ret3
        exact par_err hBw
      · have e1 : decide ((Z : Int) < 16) = false := decide_eq_false (by omega)
        have e2 : ((Z : Int) % 4 != 0) = true := by simp; omega
        clear hf hz1
        go_wp2_with (first
          | (go_at_call 27; ((with_reducible refine hG1.mono ?_); rintro e _ ⟨rfl, rfl⟩))
          | (go_at_call 27; ((with_reducible refine hG2.mono ?_); rintro e _ ⟨rfl, rfl⟩)))
        go_ret3
        exact par_err hBw
    have e1 : decide ((Z : Int) < 16) = false := decide_eq_false (by omega)
    have e2 : ((Z : Int) % 4 != 0) = false := by simp; omega
    have hz16 : (16 : Int) ≤ Z := by omega
    by_cases hlt : M < Z
    · obtain rfl := prs_short2 hprs (by omega) (by omega) (by rw [← hZ]; exact hf) (by omega)
      have HZ := Lib.hid hZ
      have HKD := Lib.hid hKD
      clear hprs hrM hZ hKD hf
      go_wp2_with (first
        | (go_at_call 27; ((with_reducible refine hG1.mono ?_); rintro e _ ⟨rfl, rfl⟩))
        | (go_at_call 27; ((with_reducible refine hG2.mono ?_); rintro e _ ⟨rfl, rfl⟩)))
      go_ret3
      exact par_err hBw
    have hzm : Z ≤ M := by omega
    have hzmI : (Z : Int) ≤ M := by omega
    have e3 : decide (M < Z) = false := decide_eq_false hlt
    by_cases hl : T.length = 16 ∨ 260 < Z
    · obtain rfl := prs_long hprs (by omega) (by omega) (by rw [← hZ]; exact hf) (by omega) (by rw [flds_len, ← hZ]; exact hl)
      have HZ := Lib.hid hZ
      have HKD := Lib.hid hKD
      clear hprs hrM hZ hKD hf hlt
      by_cases hl1 : T.length = 16
      · have e4 : ((T.length : Int) == 16) = true := by simp; omega
        clear hl hl1
        go_wp2_with (first
          | (go_at_call 27; ((with_reducible refine hG1.mono ?_); rintro e _ ⟨rfl, rfl⟩))
          | (go_at_call 27; ((with_reducible refine hG2.mono ?_); rintro e _ ⟨rfl, rfl⟩)))
        go_ret3
        exact par_err hBw
      · have e4 : ((T.length : Int) == 16) = false := by simp; omega
        have e5 : decide (256 < (Z : Int) - 4) = true := decide_eq_true (by omega)
        clear hl hl1
        go_wp2_with (first
          | (go_at_call 27; ((with_reducible refine hG1.mono ?_); rintro e _ ⟨rfl, rfl⟩))
          | (go_at_call 27; ((with_reducible refine hG2.mono ?_); rintro e _ ⟨rfl, rfl⟩)))
        go_ret3
        exact par_err hBw
    have e4 : ((T.length : Int) == 16) = false := by simp; omega
    have e5 : decide (256 < (Z : Int) - 4) = false := decide_eq_false (by omega)
    have hz260 : Z ≤ 260 := by omega
    have hT16 : T.length < 16 := by omega
    obtain ⟨f', hf', hp'⟩ := prs_next hprs (by omega) (by omega) (by rw [← hZ]; exact hf) (by omega) (by rw [flds_len, ← hZ]; exact hl)
    have hB4 := hB.dropm (k + 4)
    have hcut : (l.drop (k + 4)).take (Z - 4) = (rest.take Z).drop 4 := by rw [← HRest.out, ← List.drop_drop, List.drop_take]
    have hB5 := hB4.take (Z - 4)
    rw [hcut] at hB5
    have hl4 : ((rest.take Z).drop 4).length = Z - 4 := by rw [List.length_drop, List.length_take]; omega
    rw [← hZ, ← hKD] at hp'
    rw [← hZ, List.length_drop, hrM] at hf'
    rw [← HRest.out, List.drop_drop] at hp'
    rw [HRest.out] at hp'
    generalize (rest.take Z).drop 4 = dt at hB5 hl4 hp'
    have HP := Lib.hid hp'
    have HL4 := Lib.hid hl4
    have HZ := Lib.hid hZ
    have HKD := Lib.hid hKD
    clear hprs hrM hZ hKD hf hlt hl hp' hl4 hcut hB4 hD
    simp only [Option.map, ofAdd] at hB5
    have hnc : (n : Int) ≤ c := by omega
    have hk4 : (k : Int) + 4 ≤ k + Z := by omega
    have hkz : (k : Int) + Z ≤ n := by omega
    have O1 := ow_empty' (lo := wr.heap.size) (Blk.new wr 5 #[] [] rfl) (Nat.le_refl _)
    have D1 := hB5.alloc hBw.size (.cells #[] 5)
    obtain ⟨Q, hQ⟩ : ∃ Q, Q = k + Z - (k + 4) := ⟨_, rfl⟩
    have HL5 : Hid (dt.length = k + Z - (k + 4)) := by show _ = _; rw [HL4.out]; omega
    have hq0 : k + Z - (k + 4) ≤ 1000 := by omega
    have zb := hBw.size
    have HQ := Lib.hid hQ
    clear hQ
    go_wp2_with (first
      | (go_at_call 27; ((with_reducible refine hG1.mono ?_); rintro e _ ⟨rfl, rfl⟩))
      | (go_at_call 27; ((with_reducible refine hG2.mono ?_); rintro e _ ⟨rfl, rfl⟩))
      | (at_builtin; refine wpList_append_bs rfl (.tmp 67) (.tmp 74) rfl 0 0 (k + Z - (k + 4)) (c - (k + 4)) (by rfl) (by rfl) rfl HL5.out O1 D1 (by omega) (by simp) ?_; intro A4 c4 w2 O4 b4 _; (have b4' : Below wr.heap.size wr w2 := ((Below.refl _ wr).alloc (Nat.le_refl _) _).trans b4); (have B2 := hBw.trans (b4'.mono zb)); (have X2 := (hX.below b4' (Nat.le_refl _)).alloc (.cells #[.int .i64 KD, .slice A4 (k + Z - (k + 4)) c4] 27)); (have O2 := (O4.wide zb).alloc (.cells #[.int .i64 KD, .slice A4 (k + Z - (k + 4)) c4] 27)); (have Hn := Lib.hid (cells2_of (Blk.new w2 27 #[.int .i64 KD, .slice A4 (k + Z - (k + 4)) c4] [.int .i64 KD, .slice A4 (k + Z - (k + 4)) c4] rfl))); (have hb4 : w.heap.size ≤ w2.heap.size := Nat.le_trans zb b4'.size))
      | (at_builtin; refine wpl_append (by rfl) _ _ 23 (by rfl) 27 (.agg #[.int .i64 0, .slice none 0 0]) 2 32 Try.underlying23 infoExt rfl (by omega) (.slice A1 T.length c1) T.length (rowX T) w.heap.size (by rfl) X2.1 ⟨w2.heap.size, 0, none⟩ 1 1 (by rfl) [.int .i64 KD, .slice A4 (k + Z - (k + 4)) c4] rfl Hn.out (by simp [Value.oneCell']) (by omega) (by omega) (by simp; omega) ?_; intro v3 w3 ho3 b3 hg3; obtain ⟨A5, c5, rfl, X5⟩ := xo_push (kd := KD) X2.2 X2.1 (show Ow _ _ A4 c4 dt by simpa using O2) (by rw [HL5.out]; exact ho3) hg3))
    have B3 : Below w.heap.size w w3 := (B2.alloc hb4 _).trans b3
    have HNl' := HNl.out
    exact ⟨⟨T ++ [((KD, dt), (A4, c4))], A5, c5, k + Z, f', by simp, X5, by simp, by omega, by have := HM.out; omega, by rw [flds_snoc]; exact HP.out, by simp; omega, B3⟩, by simp [intOf]; omega⟩
end Go.Proofs.Ytloopnfnbhdlmaa
