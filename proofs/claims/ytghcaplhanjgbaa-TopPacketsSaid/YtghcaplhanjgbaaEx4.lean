/- The contract of Parse of the program. -/
import Derived.Test.YtghcaplhanjgbaaEx3
namespace Go.Proofs.Ytghcaplhanjgbaa
open Go.RowKit
set_option linter.unusedSimpArgs false
set_option linter.unusedVariables false
set_option maxRecDepth 100000
/-- what Parse returns -/
def ParPost (PR : Flds × List Int × Int) (w : World) (e : Ending) (w' : World) : Prop :=
  ∃ (A : Option Addr) (c : Nat) (A2 : Option Addr) (c2 N N2 : Nat) (w1 : World), e = .returned (.tuple #[.slice A N c, .slice A2 N2 c2, .int .i64 PR.2.2]) ∧ PR.1.length = N ∧ PR.2.1.length = N2 ∧ XO w1 w.heap.size A c PR.1 ∧ Below w.heap.size w w1 ∧ Below w1.heap.size w1 w' ∧ Ow w' w1.heap.size A2 c2 PR.2.1
theorem par_err {w wr : World} {E : Int} (h : Below w.heap.size w wr) : ParPost ([], [], E) w (.returned (.tuple #[.slice none 0 0, .slice none 0 0, .int .i64 E])) wr :=
  ⟨none, 0, none, 0, 0, 0, wr, rfl, rfl, rfl, XO.nil _ _, h, Below.refl _ _, Ow.nil _ _⟩
theorem cells2_of {w : World} {g : Nat} {t : TypeId} {cs : List Value} (h : Blk w g t cs) : ∀ j u, cs[j]? = some u → w.cell? ((⟨g, 0, none⟩ : Addr).add j) = some u := fun j u hu => by
  rw [ofAdd, Nat.zero_add]
  exact h.cell hu
set_option maxHeartbeats 16000000 in
theorem parse_any (A : Option Addr) (n c : Nat) (l : List Int) (w : World) (hn : l.length = n) (h : Bs w 0 w.heap.size A l) (hm : n ≤ c) (hc : c ≤ 9223372036854775807) (hn2 : n ≤ 1000000) :
    Calls Try.prog 11 #[.slice A n c] w (ParPost (prs l.length [] l) w) := by
  obtain ⟨PR, hPR⟩ : ∃ PR, prs l.length [] l = PR := ⟨_, rfl⟩
  rw [hPR]
  have HP := Lib.hid hPR
  clear hPR
  go_enter Try.func11, Try.ntmps11
  go_wp2
  go_loopw [0, 5] (fun b lv wr => ParR w PR wr b lv) (fun b _ _ => lenV b)
  case atStart => exact ⟨[], none, 0, A, n, c, l, n, rfl, XOT.nil _ _, rfl, hn, h, hm, hc, Nat.le_refl _, hn2, by rw [← hn]; exact HP.out, by simp, Below.refl _ _⟩
  case round =>
    obtain ⟨T, A1, c1, B, m, cb, rest, f, rfl, hX, rfl, hr, hB, hmc, hcb, hmf, hm6, hprs, h16, hBw⟩ := hrel
    clear h hn HP
    by_cases h0 : m = 0
    · subst h0
      obtain rfl := prs_end hprs hr
      go_wp2
      go_ret3
      exact ⟨A1, c1, none, 0, T.length, 0, wr, rfl, flds_len T, rfl, ⟨T, rfl, hX⟩, hBw, Below.refl _ _, Ow.nil _ _⟩
    by_cases h12 : m = 12
    · subst h12
      obtain rfl := prs_auth hprs (by omega) hr
      have hE := clone_any B 12 cb 0 w.heap.size rest wr hr hB hBw.size (by omega) (fun hn => by
        obtain ⟨b, o, hb, _⟩ := hB.at (by omega)
        rw [hn] at hb; cases hb)
      clear hprs
      have HR := Lib.hid hr
      clear hr
      go_wp2_with fail
      with_reducible refine hE.mono ?_
      rintro e w2 ⟨A4, c4, rfl, O4, z4, b4⟩
      go_wp2
      go_ret3
      exact ⟨A1, c1, A4, c4, T.length, 12, wr, rfl, flds_len T, HR.out, ⟨T, rfl, hX⟩, hBw, b4, O4⟩
    have hm0 : 0 < m := by omega
    have d12 : ((m : Int) == 12) = false := by simp; omega
    by_cases hs : m < 16
    · obtain rfl := prs_short hprs (by omega) (by omega) (by omega) (by omega)
      have d16 : decide ((m : Int) < 16) = true := decide_eq_true (by omega)
      clear hprs hr h0 h12 hs
      go_wp2
      go_ret3
      exact par_err hBw
    have d16 : decide ((m : Int) < 16) = false := decide_eq_false (by omega)
    have hG1 := get_kd B m cb 0 _ rest wr hr hB hmc hcb (by omega)
    have hG2 := get_sz B m cb 0 _ rest wr hr hB hmc hcb (by omega)
    have hkr := pkd_rng rest hB.byt
    have hzr := psz_le rest hB.byt
    obtain ⟨Z, hZ⟩ : ∃ Z, Z = psz rest := ⟨_, rfl⟩
    obtain ⟨KD, hKD⟩ : ∃ KD, KD = pkd rest := ⟨_, rfl⟩
    rw [← hZ] at hG2 hzr
    rw [← hKD] at hG1 hkr
    obtain ⟨hk0, hk1⟩ := hkr
    have hzI : (Z : Int) ≤ 65535 := by omega
    have hm16 : 16 ≤ m := by omega
    clear h0 h12 hs
    by_cases hf : Z < 16 ∨ Z % 4 ≠ 0
    · obtain rfl := prs_form hprs (by omega) (by omega) (by rw [← hZ]; exact hf)
      have HZ := Lib.hid hZ
      have HKD := Lib.hid hKD
      clear hprs hr hZ hKD
      by_cases hz1 : Z < 16
      · have e1 : decide ((Z : Int) < 16) = true := decide_eq_true (by omega)
        clear hf hz1
        go_wp2_with (first
          | (go_at_call 22; ((with_reducible refine hG1.mono ?_); rintro e _ ⟨rfl, rfl⟩))
          | (go_at_call 22; ((with_reducible refine hG2.mono ?_); rintro e _ ⟨rfl, rfl⟩)))
        go_ret3
        exact par_err hBw
      · have e1 : decide ((Z : Int) < 16) = false := decide_eq_false (by omega)
        have e2 : ((Z : Int) % 4 != 0) = true := by simp; omega
        clear hf hz1
        go_wp2_with (first
          | (go_at_call 22; ((with_reducible refine hG1.mono ?_); rintro e _ ⟨rfl, rfl⟩))
          | (go_at_call 22; ((with_reducible refine hG2.mono ?_); rintro e _ ⟨rfl, rfl⟩)))
        go_ret3
        exact par_err hBw
    have e1 : decide ((Z : Int) < 16) = false := decide_eq_false (by omega)
    have e2 : ((Z : Int) % 4 != 0) = false := by simp; omega
    have hz16 : (16 : Int) ≤ Z := by omega
    by_cases hlt : m < Z
    · obtain rfl := prs_short2 hprs (by omega) (by omega) (by rw [← hZ]; exact hf) (by omega)
      have HZ := Lib.hid hZ
      have HKD := Lib.hid hKD
      clear hprs hr hZ hKD hf
      go_wp2_with (first
        | (go_at_call 22; ((with_reducible refine hG1.mono ?_); rintro e _ ⟨rfl, rfl⟩))
        | (go_at_call 22; ((with_reducible refine hG2.mono ?_); rintro e _ ⟨rfl, rfl⟩)))
      go_ret3
      exact par_err hBw
    have hzm : Z ≤ m := by omega
    have hzmI : (Z : Int) ≤ m := by omega
    have e3 : decide (m < Z) = false := decide_eq_false hlt
    by_cases hl : T.length = 16 ∨ 260 < Z
    · obtain rfl := prs_long hprs (by omega) (by omega) (by rw [← hZ]; exact hf) (by omega) (by rw [flds_len, ← hZ]; exact hl)
      have HZ := Lib.hid hZ
      have HKD := Lib.hid hKD
      clear hprs hr hZ hKD hf hlt
      by_cases hl1 : T.length = 16
      · have e4 : ((T.length : Int) == 16) = true := by simp; omega
        clear hl hl1
        go_wp2_with (first
          | (go_at_call 22; ((with_reducible refine hG1.mono ?_); rintro e _ ⟨rfl, rfl⟩))
          | (go_at_call 22; ((with_reducible refine hG2.mono ?_); rintro e _ ⟨rfl, rfl⟩)))
        go_ret3
        exact par_err hBw
      · have e4 : ((T.length : Int) == 16) = false := by simp; omega
        have e5 : decide (256 < (Z : Int) - 4) = true := decide_eq_true (by omega)
        clear hl hl1
        go_wp2_with (first
          | (go_at_call 22; ((with_reducible refine hG1.mono ?_); rintro e _ ⟨rfl, rfl⟩))
          | (go_at_call 22; ((with_reducible refine hG2.mono ?_); rintro e _ ⟨rfl, rfl⟩)))
        go_ret3
        exact par_err hBw
    have e4 : ((T.length : Int) == 16) = false := by simp; omega
    have e5 : decide (256 < (Z : Int) - 4) = false := decide_eq_false (by omega)
    have hz260 : Z ≤ 260 := by omega
    have hT16 : T.length < 16 := by omega
    obtain ⟨f', hf', hp'⟩ := prs_next hprs (by omega) (by omega) (by rw [← hZ]; exact hf) (by omega) (by rw [flds_len, ← hZ]; exact hl)
    obtain ⟨b, o, rfl, _, hbw, _⟩ := hB.at (by omega)
    have hB4 := (hB.take Z).dropm 4
    have hl4 : ((rest.take Z).drop 4).length = Z - 4 := by rw [List.length_drop, List.length_take]; omega
    have hZn := hB.drop (i := Z) (c := cb) (by omega)
    rw [← hZ, ← hKD] at hp'
    rw [← hZ] at hf'
    have hlZ : (rest.drop Z).length = m - Z := by rw [List.length_drop, hr]
    rw [hlZ] at hf'
    generalize (rest.take Z).drop 4 = dt at hB4 hl4 hp'
    generalize rest.drop Z = rest' at hZn hlZ hp'
    have HP := Lib.hid hp'
    have HL4 := Lib.hid hl4
    have HLZ := Lib.hid hlZ
    have HZ := Lib.hid hZ
    have HKD := Lib.hid hKD
    clear hprs hr hZ hKD hf hlt hl hp' hl4 hlZ
    simp only [Option.map, ofAdd] at hB4 hZn
    have hmcI : (m : Int) ≤ cb := by omega
    have hE := clone_any (some ⟨b, o + 4, none⟩) (Z - 4) (Z - 4) 0 w.heap.size dt wr HL4.out hB4 hBw.size (by omega) (fun h => by cases h)
    go_wp2_with (first
      | (go_at_call 22; ((with_reducible refine hG1.mono ?_); rintro e _ ⟨rfl, rfl⟩))
      | (go_at_call 22; ((with_reducible refine hG2.mono ?_); rintro e _ ⟨rfl, rfl⟩)))
    with_reducible refine hE.mono ?_
    rintro e w2 ⟨A4, c4, rfl, O4, z4, b4⟩
    have B2 := hBw.trans (b4.mono hBw.size)
    have X2 := (hX.below b4 (Nat.le_refl _)).alloc (.cells #[.int .i64 KD, .slice A4 (Z - 4) c4] 36)
    have O2 := (O4.wide hBw.size).alloc (.cells #[.int .i64 KD, .slice A4 (Z - 4) c4] 36)
    have R2 := hZn.below b4 hBw.size
    have Jn := cells2_of (Blk.new w2 36 #[.int .i64 KD, .slice A4 (Z - 4) c4] [.int .i64 KD, .slice A4 (Z - 4) c4] rfl)
    have Hn := Lib.hid Jn
    have zb := hBw.size
    have hb4 : w.heap.size ≤ w2.heap.size := Nat.le_trans zb z4
    clear hE hX b4 hZn hB4 Jn hB hBw z4 hG1 hG2 zb O4
    go_wp2_with (first | (at_builtin; refine wpl_append (by rfl) _ _ 26 (by rfl) 36 (.agg #[.int .i64 0, .slice none 0 0]) 2 32 Try.underlying26 infoExt rfl (by omega) (.slice A1 T.length c1) T.length (rowX T) w.heap.size (by rfl) X2.1 ⟨w2.heap.size, 0, none⟩ 1 1 (by rfl) [.int .i64 KD, .slice A4 (Z - 4) c4] rfl Hn.out (by simp [Value.oneCell']) (by omega) (by omega) (by simp; omega) ?_; intro v3 w3 ho3 b3 hg3; obtain ⟨A5, c5, rfl, X5⟩ := xo_push (kd := KD) X2.2 X2.1 O2 (by rw [HL4.out]; exact ho3) hg3))
    have B3 : Below w.heap.size w w3 := (B2.alloc hb4 _).trans b3
    have R3 : Bs w3 0 w.heap.size (if cb = Z then some ⟨b, o, none⟩ else some ⟨b, o + Z, none⟩) rest' := (R2.alloc hb4 _).below b3 (Nat.le_refl _)
    exact ⟨⟨T ++ [((KD, dt), (A4, c4))], A5, c5, _, m - Z, cb - Z, rest', f', by simp, X5, rfl, HLZ.out, R3, by omega, by omega, hf', by omega, by rw [flds_snoc]; exact HP.out, by simp; omega, B3⟩, by simp [lenV]; omega⟩
end Go.Proofs.Ytghcaplhanjgbaa
