/- The contract of Parse of the program. The contract of Parse of the reference. Strings as lists of bytes; conversions between strings and byte slices. (Merge with Stamp3, Stamp4, StampText where a seat needs both.) The library's bytes.Equal, bytes.Clone and bytes.Repeat at one byte and twelve. A region that draws its order, each of whose operations yields one value in every world that meets S, and leaves a world that meets S: then one order stands for all. No function of the program occurs here. Contracts of Auth, Split, Same and few. What ntpmsg.Check, put, Encode and their references compute. -/
import Derived.Test.YtachhbbofemfdaaDoorGXz3
import Derived.Test.YtachhbbofemfdaaDoorGXz1
import Derived.Laws.IdiomStrings
import Derived.Lib.MakeNoZero
import Derived.Laws.CopyOwn
import Derived.Laws.Externs
import Derived.Deep.RegionLaw
import Derived.WalkSpells
import Derived.Deep.RegionHeld3
namespace Go.Proofs.YtachhbbofemfdaaDoor
open Go.RowKit
set_option linter.unusedSimpArgs false
set_option linter.unusedVariables false
set_option maxRecDepth 100000
/-- what Parse returns -/
def ParPost (PR : Flds × List Int × Int) (w : World) (e : Ending) (w' : World) : Prop :=
  ∃ (A : Option Addr) (c : Nat) (A2 : Option Addr) (c2 N N2 : Nat) (w1 : World), e = .returned (.tuple #[.slice A N c, .slice A2 N2 c2, .int .i64 PR.2.2]) ∧ PR.1.length = N ∧ PR.2.1.length = N2 ∧ XO w1 w.heap.size A c PR.1 ∧ Below w.heap.size w w1 ∧ Below w1.heap.size w1 w' ∧ Ow w' w1.heap.size A2 c2 PR.2.1
theorem par_err {w wr : World} {E : Int} (h : Below w.heap.size w wr) : ParPost ([], [], E) w (.returned (.tuple #[.slice none 0 0, .slice none 0 0, .int .i64 E])) wr :=
  ⟨none, 0, none, 0, 0, 0, wr, rfl, rfl, rfl, XO.nil _ _, h, Below.refl _ _, Ow.nil _ _⟩
theorem cells2_of {w : World} {g : Nat} {t : TypeId} {cs : List Value} (h : Blk w g t cs) : ∀ j u, cs[j]? = some u → w.cell? ((⟨g, 0, none⟩ : Addr).add j) = some u := fun j u hu => by
  rw [ofAdd, Nat.zero_add]
  exact h.cell hu
set_option maxHeartbeats 16000000 in
theorem parse_any (A : Option Addr) (n c : Nat) (l : List Int) (w : World) (hn : l.length = n) (h : Bs w 0 w.heap.size A l) (hm : n ≤ c) (hc : c ≤ 9223372036854775807) (hn2 : n ≤ 1000000) :
    Calls Tryd.prog 59 #[.slice A n c] w (ParPost (prs l.length [] l) w) := by
  obtain ⟨PR, hPR⟩ : ∃ PR, prs l.length [] l = PR := ⟨_, rfl⟩
  rw [hPR]
  have HP := Lib.hid hPR
  clear hPR
  go_enter Tryd.func59, Tryd.ntmps59
  go_wp2
  go_loopw [0, 5] (fun b lv wr => ParR w PR wr b lv) (fun b _ _ => lenV b)
  case atStart => exact ⟨[], none, 0, A, n, c, l, n, rfl, XOT.nil _ _, rfl, hn, h, hm, hc, Nat.le_refl _, hn2, by rw [← hn]; exact HP.out, by simp, Below.refl _ _⟩
  case round =>
    obtain ⟨T, A1, c1, B, m, cb, rest, f, rfl, hX, rfl, hr, hB, hmc, hcb, hmf, hm6, hprs, h16, hBw⟩ := hrel
    clear h hn HP
    by_cases h0 : m = 0
    · subst h0
      obtain rfl := prs_end hprs hr
      go_wp2
      go_ret3
      exact ⟨A1, c1, none, 0, T.length, 0, wr, rfl, flds_len T, rfl, ⟨T, rfl, hX⟩, hBw, Below.refl _ _, Ow.nil _ _⟩
    by_cases h12 : m = 12
    · subst h12
      obtain rfl := prs_auth hprs (by omega) hr
      have hE := clone_any B 12 cb 0 w.heap.size rest wr hr hB hBw.size (by omega) (fun hn => by
        obtain ⟨b, o, hb, _⟩ := hB.at (by omega)
        rw [hn] at hb; cases hb)
      clear hprs
      have HR := Lib.hid hr
      clear hr
      go_wp2_with fail
      with_reducible refine hE.mono ?_
      rintro e w2 ⟨A4, c4, rfl, O4, z4, b4⟩
      go_wp2
      go_ret3
      exact ⟨A1, c1, A4, c4, T.length, 12, wr, rfl, flds_len T, HR.out, ⟨T, rfl, hX⟩, hBw, b4, O4⟩
    have hm0 : 0 < m := by omega
    have d12 : ((m : Int) == 12) = false := by simp; omega
    by_cases hs : m < 16
    · obtain rfl := prs_short hprs (by omega) (by omega) (by omega) (by omega)
      have d16 : decide ((m : Int) < 16) = true := decide_eq_true (by omega)
      clear hprs hr h0 h12 hs
      go_wp2
      go_ret3
      exact par_err hBw
    have d16 : decide ((m : Int) < 16) = false := decide_eq_false (by omega)
    have hG1 := get_kd B m cb 0 _ rest wr hr hB hmc hcb (by omega)
    have hG2 := get_sz B m cb 0 _ rest wr hr hB hmc hcb (by omega)
    have hkr := pkd_rng rest hB.byt
    have hzr := psz_le rest hB.byt
    obtain ⟨Z, hZ⟩ : ∃ Z, Z = psz rest := ⟨_, rfl⟩
    obtain ⟨KD, hKD⟩ : ∃ KD, KD = pkd rest := ⟨_, rfl⟩
    rw [← hZ] at hG2 hzr
    rw [← hKD] at hG1 hkr
    obtain ⟨hk0, hk1⟩ := hkr
    have hzI : (Z : Int) ≤ 65535 := by omega
    have hm16 : 16 ≤ m := by omega
    clear h0 h12 hs
    by_cases hf : Z < 16 ∨ Z % 4 ≠ 0
    · obtain rfl := prs_form hprs (by omega) (by omega) (by rw [← hZ]; exact hf)
      have HZ := Lib.hid hZ
      have HKD := Lib.hid hKD
      clear hprs hr hZ hKD
      by_cases hz1 : Z < 16
      · have e1 : decide ((Z : Int) < 16) = true := decide_eq_true (by omega)
        clear hf hz1
        go_wp2_with (first
          | (go_at_call 91; ((with_reducible refine hG1.mono ?_); rintro e _ ⟨rfl, rfl⟩))
          | (go_at_call 91; ((with_reducible refine hG2.mono ?_); rintro e _ ⟨rfl, rfl⟩)))
        go_ret3
        exact par_err hBw
      · have e1 : decide ((Z : Int) < 16) = false := decide_eq_false (by omega)
        have e2 : ((Z : Int) % 4 != 0) = true := by simp; omega
        clear hf hz1
        go_wp2_with (first
          | (go_at_call 91; ((with_reducible refine hG1.mono ?_); rintro e _ ⟨rfl, rfl⟩))
          | (go_at_call 91; ((with_reducible refine hG2.mono ?_); rintro e _ ⟨rfl, rfl⟩)))
        go_ret3
        exact par_err hBw
    have e1 : decide ((Z : Int) < 16) = false := decide_eq_false (by omega)
    have e2 : ((Z : Int) % 4 != 0) = false := by simp; omega
    have hz16 : (16 : Int) ≤ Z := by omega
    by_cases hlt : m < Z
    · obtain rfl := prs_short2 hprs (by omega) (by omega) (by rw [← hZ]; exact hf) (by omega)
      have HZ := Lib.hid hZ
      have HKD := Lib.hid hKD
      clear hprs hr hZ hKD hf
      go_wp2_with (first
        | (go_at_call 91; ((with_reducible refine hG1.mono ?_); rintro e _ ⟨rfl, rfl⟩))
        | (go_at_call 91; ((with_reducible refine hG2.mono ?_); rintro e _ ⟨rfl, rfl⟩)))
      go_ret3
      exact par_err hBw
    have hzm : Z ≤ m := by omega
    have hzmI : (Z : Int) ≤ m := by omega
    have e3 : decide (m < Z) = false := decide_eq_false hlt
    by_cases hl : T.length = 16 ∨ 260 < Z
    · obtain rfl := prs_long hprs (by omega) (by omega) (by rw [← hZ]; exact hf) (by omega) (by rw [flds_len, ← hZ]; exact hl)
      have HZ := Lib.hid hZ
      have HKD := Lib.hid hKD
      clear hprs hr hZ hKD hf hlt
      by_cases hl1 : T.length = 16
      · have e4 : ((T.length : Int) == 16) = true := by simp; omega
        clear hl hl1
        go_wp2_with (first
          | (go_at_call 91; ((with_reducible refine hG1.mono ?_); rintro e _ ⟨rfl, rfl⟩))
          | (go_at_call 91; ((with_reducible refine hG2.mono ?_); rintro e _ ⟨rfl, rfl⟩)))
        go_ret3
        exact par_err hBw
      · have e4 : ((T.length : Int) == 16) = false := by simp; omega
        have e5 : decide (256 < (Z : Int) - 4) = true := decide_eq_true (by omega)
        clear hl hl1
        go_wp2_with (first
          | (go_at_call 91; ((with_reducible refine hG1.mono ?_); rintro e _ ⟨rfl, rfl⟩))
          | (go_at_call 91; ((with_reducible refine hG2.mono ?_); rintro e _ ⟨rfl, rfl⟩)))
        go_ret3
        exact par_err hBw
    have e4 : ((T.length : Int) == 16) = false := by simp; omega
    have e5 : decide (256 < (Z : Int) - 4) = false := decide_eq_false (by omega)
    have hz260 : Z ≤ 260 := by omega
    have hT16 : T.length < 16 := by omega
    obtain ⟨f', hf', hp'⟩ := prs_next hprs (by omega) (by omega) (by rw [← hZ]; exact hf) (by omega) (by rw [flds_len, ← hZ]; exact hl)
    obtain ⟨b, o, rfl, _, hbw, _⟩ := hB.at (by omega)
    have hB4 := (hB.take Z).dropm 4
    have hl4 : ((rest.take Z).drop 4).length = Z - 4 := by rw [List.length_drop, List.length_take]; omega
    have hZn := hB.drop (i := Z) (c := cb) (by omega)
    rw [← hZ, ← hKD] at hp'
    rw [← hZ] at hf'
    have hlZ : (rest.drop Z).length = m - Z := by rw [List.length_drop, hr]
    rw [hlZ] at hf'
    generalize (rest.take Z).drop 4 = dt at hB4 hl4 hp'
    generalize rest.drop Z = rest' at hZn hlZ hp'
    have HP := Lib.hid hp'
    have HL4 := Lib.hid hl4
    have HLZ := Lib.hid hlZ
    have HZ := Lib.hid hZ
    have HKD := Lib.hid hKD
    clear hprs hr hZ hKD hf hlt hl hp' hl4 hlZ
    simp only [Option.map, ofAdd] at hB4 hZn
    have hmcI : (m : Int) ≤ cb := by omega
    have hE := clone_any (some ⟨b, o + 4, none⟩) (Z - 4) (Z - 4) 0 w.heap.size dt wr HL4.out hB4 hBw.size (by omega) (fun h => by cases h)
    go_wp2_with (first
      | (go_at_call 91; ((with_reducible refine hG1.mono ?_); rintro e _ ⟨rfl, rfl⟩))
      | (go_at_call 91; ((with_reducible refine hG2.mono ?_); rintro e _ ⟨rfl, rfl⟩)))
    with_reducible refine hE.mono ?_
    rintro e w2 ⟨A4, c4, rfl, O4, z4, b4⟩
    have B2 := hBw.trans (b4.mono hBw.size)
    have X2 := (hX.below b4 (Nat.le_refl _)).alloc (.cells #[.int .i64 KD, .slice A4 (Z - 4) c4] 62)
    have O2 := (O4.wide hBw.size).alloc (.cells #[.int .i64 KD, .slice A4 (Z - 4) c4] 62)
    have R2 := hZn.below b4 hBw.size
    have Jn := cells2_of (Blk.new w2 62 #[.int .i64 KD, .slice A4 (Z - 4) c4] [.int .i64 KD, .slice A4 (Z - 4) c4] rfl)
    have Hn := Lib.hid Jn
    have zb := hBw.size
    have hb4 : w.heap.size ≤ w2.heap.size := Nat.le_trans zb z4
    clear hE hX b4 hZn hB4 Jn hB hBw z4 hG1 hG2 zb O4
    go_wp2_with (first | (at_builtin; refine wpl_append (by rfl) _ _ 42 (by rfl) 62 (.agg #[.int .i64 0, .slice none 0 0]) 2 32 Tryd.underlying42 infoExt rfl (by omega) (.slice A1 T.length c1) T.length (rowX T) w.heap.size (by rfl) X2.1 ⟨w2.heap.size, 0, none⟩ 1 1 (by rfl) [.int .i64 KD, .slice A4 (Z - 4) c4] rfl Hn.out (by simp [Value.oneCell']) (by omega) (by omega) (by simp; omega) ?_; intro v3 w3 ho3 b3 hg3; obtain ⟨A5, c5, rfl, X5⟩ := xo_push (kd := KD) X2.2 X2.1 O2 (by rw [HL4.out]; exact ho3) hg3))
    have B3 : Below w.heap.size w w3 := (B2.alloc hb4 _).trans b3
    have R3 : Bs w3 0 w.heap.size (if cb = Z then some ⟨b, o, none⟩ else some ⟨b, o + Z, none⟩) rest' := (R2.alloc hb4 _).below b3 (Nat.le_refl _)
    exact ⟨⟨T ++ [((KD, dt), (A4, c4))], A5, c5, _, m - Z, cb - Z, rest', f', by simp, X5, rfl, HLZ.out, R3, by omega, by omega, hf', by omega, by rw [flds_snoc]; exact HP.out, by simp; omega, B3⟩, by simp [lenV]; omega⟩
end Go.Proofs.YtachhbbofemfdaaDoor
namespace Go.Proofs.YtachhbbofemfdaaDoor
open Go.RowKit
set_option linter.unusedSimpArgs false
set_option linter.unusedVariables false
set_option maxRecDepth 100000
theorem rpget_kd (A : Option Addr) (n c lo hi at_ : Nat) (l : List Int) (w : World) (hn : l.length = n) (h : Bs w lo hi A l) (hm : n ≤ c) (hc : c ≤ 9223372036854775807) (h16 : at_ + 16 ≤ n) :
    Calls Tryd.prog 67 #[.slice A n c, .int .i64 at_, .int .i64 2] w fun e w' => e = .returned (.tuple #[.int .u64 (pkd (l.drop at_)), .int .i64 0]) ∧ w = w' := by
  have h1 := rget_any A n c lo hi l at_ 2 w hn h hm hc (by omega)
  unfold getR at h1
  rw [getE_0 (by omega) (by omega)] at h1
  have e : getV l at_ 2 = pkd (l.drop at_) := by unfold getV pkd; simp
  rw [e] at h1
  exact h1
theorem rpget_sz (A : Option Addr) (n c lo hi at_ : Nat) (l : List Int) (w : World) (hn : l.length = n) (h : Bs w lo hi A l) (hm : n ≤ c) (hc : c ≤ 9223372036854775807) (h16 : at_ + 16 ≤ n) :
    Calls Tryd.prog 67 #[.slice A n c, .int .i64 ((at_ : Int) + 2), .int .i64 2] w fun e w' => e = .returned (.tuple #[.int .u64 ((psz (l.drop at_) : Nat) : Int), .int .i64 0]) ∧ w = w' := by
  have h1 := rget_any A n c lo hi l ((at_ : Int) + 2) 2 w hn h hm hc (by omega)
  unfold getR at h1
  rw [getE_0 (by omega) (by omega)] at h1
  have e : getV l ((at_ : Int) + 2) 2 = ((psz (l.drop at_) : Nat) : Int) := by
    have := (numB_range (((l.drop at_).drop 2).take 2)).1
    have e2 : (l.drop ((at_ : Int) + 2).toNat).take (2 : Int).toNat = ((l.drop at_).drop 2).take 2 := by
      rw [show ((at_ : Int) + 2).toNat = at_ + 2 by omega, ← List.drop_drop]; rfl
    unfold getV psz
    rw [e2]
    omega
  rw [e] at h1
  exact h1
/-- the state of the loop -/
def RParR (w0 : World) (PR : Flds × List Int × Int) (l : List Int) (wr : World) (av lv : Value) : Prop :=
  ∃ (T : List XT) (A : Option Addr) (c k f : Nat), lv = .slice A T.length c ∧ XOT wr w0.heap.size A c T ∧ av = .int .i64 k ∧ k ≤ l.length ∧ l.length - k ≤ f ∧ prs f (flds T) (l.drop k) = PR ∧ T.length ≤ 16 ∧ Below w0.heap.size w0 wr
set_option maxHeartbeats 16000000 in
theorem rparse_any (A : Option Addr) (n c : Nat) (l : List Int) (w : World) (hn : l.length = n) (h : Bs w 0 w.heap.size A l) (hm : n ≤ c) (hc : c ≤ 9223372036854775807) (hn2 : n ≤ 1000000) :
    Calls Tryd.prog 66 #[.slice A n c] w (ParPost (prs l.length [] l) w) := by
  obtain ⟨PR, hPR⟩ : ∃ PR, prs l.length [] l = PR := ⟨_, rfl⟩
  rw [hPR]
  have HP := Lib.hid hPR
  have HNl := Lib.hid hn
  clear hPR hn
  go_enter Tryd.func66, Tryd.ntmps66
  go_wp2
  go_loopw [6, 5] (fun a lv wr => RParR w PR l wr a lv) (fun a _ _ => n - (intOf a).toNat)
  case atStart => exact ⟨[], none, 0, 0, l.length, rfl, XOT.nil _ _, rfl, by omega, by omega, HP.out, by simp, Below.refl _ _⟩
  case round =>
    obtain ⟨T, A1, c1, k, f, rfl, hX, rfl, hk, hmf, hprs, h16, hBw⟩ := hrel
    have hB := h.below hBw (Nat.le_refl _)
    rw [HNl.out] at hk hmf
    have hr : (l.drop k).length = n - k := by rw [List.length_drop, HNl.out]
    clear h HP
    by_cases h0 : k = n
    · subst h0
      obtain rfl := prs_end hprs (by omega)
      clear hprs hr hmf
      have d0 : decide (k < k) = false := decide_eq_false (by omega)
      go_wp2
      go_ret3
      exact ⟨A1, c1, none, 0, T.length, 0, wr, rfl, flds_len T, rfl, ⟨T, rfl, hX⟩, hBw, Below.refl _ _, Ow.nil _ _⟩
    have hkn : k < n := by omega
    have hknI : (k : Int) < n := by omega
    obtain ⟨b, o, hA, _, hbw, _⟩ := hB.at (by rw [HNl.out]; omega)
    subst hA
    obtain ⟨M, hM⟩ : ∃ M, M = n - k := ⟨_, rfl⟩
    have hMI : (n : Int) - k = M := by omega
    have hM0 : 0 < M := by omega
    have hkM : k + M = n := by omega
    have hk0 : (0 : Int) ≤ k := by omega
    have hD := hB.dropm k
    simp only [Option.map, ofAdd] at hD
    have d0 : decide (k < n) = true := decide_eq_true hkn
    by_cases h12 : M = 12
    · obtain rfl := prs_auth hprs (by omega) (by omega)
      have O1 := ow_empty' (lo := wr.heap.size) (Blk.new wr 5 #[] [] rfl) (Nat.le_refl _)
      have D1 := hD.alloc hBw.size (.cells #[] 5)
      have HR := Lib.hid hr
      have HM := Lib.hid hM
      have e12 : ((M : Int) == 12) = true := by simp; omega
      have hm12 : n - k ≤ 1000000 := by omega
      clear hprs hr hD hM h12
      go_wp2_with (first | (at_builtin; refine wpList_append_bs rfl (.tmp 24) (.tmp 27) rfl 0 0 (n - k) (c - k) (by rfl) (by rfl) rfl HR.out O1 D1 (by omega) (by simp) ?_; intro A4 c4 w4 O4 b4 _))
      go_ret3
      exact ⟨A1, c1, A4, c4, T.length, n - k, wr, by simp, flds_len T, HR.out, ⟨T, rfl, hX⟩, hBw, ((Below.refl _ _).alloc (Nat.le_refl _) _).trans b4, by simpa using O4⟩
    have e12 : ((M : Int) == 12) = false := by simp; omega
    by_cases hs : M < 16
    · obtain rfl := prs_short hprs (by omega) (by omega) (by omega) (by omega)
      have d16 : decide ((M : Int) < 16) = true := decide_eq_true (by omega)
      clear hprs hr hM h12 hs hD
      go_wp2
      go_ret3
      exact par_err hBw
    have d16 : decide ((M : Int) < 16) = false := decide_eq_false (by omega)
    have hG1 := rpget_kd (some ⟨b, o, none⟩) n c 0 _ k l wr HNl.out hB hm hc (by omega)
    have hG2 := rpget_sz (some ⟨b, o, none⟩) n c 0 _ k l wr HNl.out hB hm hc (by omega)
    obtain ⟨rest, hrest⟩ : ∃ rest, l.drop k = rest := ⟨_, rfl⟩
    rw [hrest] at hG1 hG2 hprs hr hD
    have hkr := pkd_rng rest hD.byt
    have hzr := psz_le rest hD.byt
    obtain ⟨Z, hZ⟩ : ∃ Z, Z = psz rest := ⟨_, rfl⟩
    obtain ⟨KD, hKD⟩ : ∃ KD, KD = pkd rest := ⟨_, rfl⟩
    rw [← hZ] at hG2 hzr
    rw [← hKD] at hG1 hkr
    obtain ⟨hkd0, hkd1⟩ := hkr
    have hzI : (Z : Int) ≤ 65535 := by omega
    have hm16 : 16 ≤ M := by omega
    have hrM : rest.length = M := by omega
    rw [← hM] at hmf
    have HM := Lib.hid hM
    have HRest := Lib.hid hrest
    clear h12 hs hr hM hrest
    by_cases hf : Z < 16 ∨ Z % 4 ≠ 0
    · obtain rfl := prs_form hprs (by omega) (by omega) (by rw [← hZ]; exact hf)
      have HZ := Lib.hid hZ
      have HKD := Lib.hid hKD
      clear hprs hrM hZ hKD
      by_cases hz1 : Z < 16
      · have e1 : decide ((Z : Int) < 16) = true := decide_eq_true (by omega)
        clear hf hz1
        go_wp2_with (first
          | (go_at_call 67; ((with_reducible refine hG1.mono ?_); rintro e _ ⟨rfl, rfl⟩))
          | (go_at_call 67; ((with_reducible refine hG2.mono ?_); rintro e _ ⟨rfl, rfl⟩)))
        go_ret3
        exact par_err hBw
      · have e1 : decide ((Z : Int) < 16) = false := decide_eq_false (by omega)
        have e2 : ((Z : Int) % 4 != 0) = true := by simp; omega
        clear hf hz1
        go_wp2_with (first
          | (go_at_call 67; ((with_reducible refine hG1.mono ?_); rintro e _ ⟨rfl, rfl⟩))
          | (go_at_call 67; ((with_reducible refine hG2.mono ?_); rintro e _ ⟨rfl, rfl⟩)))
        go_ret3
        exact par_err hBw
    have e1 : decide ((Z : Int) < 16) = false := decide_eq_false (by omega)
    have e2 : ((Z : Int) % 4 != 0) = false := by simp; omega
    have hz16 : (16 : Int) ≤ Z := by omega
    by_cases hlt : M < Z
    · obtain rfl := prs_short2 hprs (by omega) (by omega) (by rw [← hZ]; exact hf) (by omega)
      have HZ := Lib.hid hZ
      have HKD := Lib.hid hKD
      clear hprs hrM hZ hKD hf
      go_wp2_with (first
        | (go_at_call 67; ((with_reducible refine hG1.mono ?_); rintro e _ ⟨rfl, rfl⟩))
        | (go_at_call 67; ((with_reducible refine hG2.mono ?_); rintro e _ ⟨rfl, rfl⟩)))
      go_ret3
      exact par_err hBw
    have hzm : Z ≤ M := by omega
    have hzmI : (Z : Int) ≤ M := by omega
    have e3 : decide (M < Z) = false := decide_eq_false hlt
    by_cases hl : T.length = 16 ∨ 260 < Z
    · obtain rfl := prs_long hprs (by omega) (by omega) (by rw [← hZ]; exact hf) (by omega) (by rw [flds_len, ← hZ]; exact hl)
      have HZ := Lib.hid hZ
      have HKD := Lib.hid hKD
      clear hprs hrM hZ hKD hf hlt
      by_cases hl1 : T.length = 16
      · have e4 : ((T.length : Int) == 16) = true := by simp; omega
        clear hl hl1
        go_wp2_with (first
          | (go_at_call 67; ((with_reducible refine hG1.mono ?_); rintro e _ ⟨rfl, rfl⟩))
          | (go_at_call 67; ((with_reducible refine hG2.mono ?_); rintro e _ ⟨rfl, rfl⟩)))
        go_ret3
        exact par_err hBw
      · have e4 : ((T.length : Int) == 16) = false := by simp; omega
        have e5 : decide (256 < (Z : Int) - 4) = true := decide_eq_true (by omega)
        clear hl hl1
        go_wp2_with (first
          | (go_at_call 67; ((with_reducible refine hG1.mono ?_); rintro e _ ⟨rfl, rfl⟩))
          | (go_at_call 67; ((with_reducible refine hG2.mono ?_); rintro e _ ⟨rfl, rfl⟩)))
        go_ret3
        exact par_err hBw
    have e4 : ((T.length : Int) == 16) = false := by simp; omega
    have e5 : decide (256 < (Z : Int) - 4) = false := decide_eq_false (by omega)
    have hz260 : Z ≤ 260 := by omega
    have hT16 : T.length < 16 := by omega
    obtain ⟨f', hf', hp'⟩ := prs_next hprs (by omega) (by omega) (by rw [← hZ]; exact hf) (by omega) (by rw [flds_len, ← hZ]; exact hl)
    have hB4 := hB.dropm (k + 4)
    have hcut : (l.drop (k + 4)).take (Z - 4) = (rest.take Z).drop 4 := by rw [← HRest.out, ← List.drop_drop, List.drop_take]
    have hB5 := hB4.take (Z - 4)
    rw [hcut] at hB5
    have hl4 : ((rest.take Z).drop 4).length = Z - 4 := by rw [List.length_drop, List.length_take]; omega
    rw [← hZ, ← hKD] at hp'
    rw [← hZ, List.length_drop, hrM] at hf'
    rw [← HRest.out, List.drop_drop] at hp'
    rw [HRest.out] at hp'
    generalize (rest.take Z).drop 4 = dt at hB5 hl4 hp'
    have HP := Lib.hid hp'
    have HL4 := Lib.hid hl4
    have HZ := Lib.hid hZ
    have HKD := Lib.hid hKD
    clear hprs hrM hZ hKD hf hlt hl hp' hl4 hcut hB4 hD
    simp only [Option.map, ofAdd] at hB5
    have hnc : (n : Int) ≤ c := by omega
    have hk4 : (k : Int) + 4 ≤ k + Z := by omega
    have hkz : (k : Int) + Z ≤ n := by omega
    have O1 := ow_empty' (lo := wr.heap.size) (Blk.new wr 5 #[] [] rfl) (Nat.le_refl _)
    have D1 := hB5.alloc hBw.size (.cells #[] 5)
    obtain ⟨Q, hQ⟩ : ∃ Q, Q = k + Z - (k + 4) := ⟨_, rfl⟩
    have HL5 : Hid (dt.length = k + Z - (k + 4)) := by show _ = _; rw [HL4.out]; omega
    have hq0 : k + Z - (k + 4) ≤ 1000 := by omega
    have zb := hBw.size
    have HQ := Lib.hid hQ
    clear hQ
    go_wp2_with (first
      | (go_at_call 67; ((with_reducible refine hG1.mono ?_); rintro e _ ⟨rfl, rfl⟩))
      | (go_at_call 67; ((with_reducible refine hG2.mono ?_); rintro e _ ⟨rfl, rfl⟩))
      | (at_builtin; refine wpList_append_bs rfl (.tmp 67) (.tmp 74) rfl 0 0 (k + Z - (k + 4)) (c - (k + 4)) (by rfl) (by rfl) rfl HL5.out O1 D1 (by omega) (by simp) ?_; intro A4 c4 w2 O4 b4 _; (have b4' : Below wr.heap.size wr w2 := ((Below.refl _ wr).alloc (Nat.le_refl _) _).trans b4); (have B2 := hBw.trans (b4'.mono zb)); (have X2 := (hX.below b4' (Nat.le_refl _)).alloc (.cells #[.int .i64 KD, .slice A4 (k + Z - (k + 4)) c4] 62)); (have O2 := (O4.wide zb).alloc (.cells #[.int .i64 KD, .slice A4 (k + Z - (k + 4)) c4] 62)); (have Hn := Lib.hid (cells2_of (Blk.new w2 62 #[.int .i64 KD, .slice A4 (k + Z - (k + 4)) c4] [.int .i64 KD, .slice A4 (k + Z - (k + 4)) c4] rfl))); (have hb4 : w.heap.size ≤ w2.heap.size := Nat.le_trans zb b4'.size))
      | (at_builtin; refine wpl_append (by rfl) _ _ 42 (by rfl) 62 (.agg #[.int .i64 0, .slice none 0 0]) 2 32 Tryd.underlying42 infoExt rfl (by omega) (.slice A1 T.length c1) T.length (rowX T) w.heap.size (by rfl) X2.1 ⟨w2.heap.size, 0, none⟩ 1 1 (by rfl) [.int .i64 KD, .slice A4 (k + Z - (k + 4)) c4] rfl Hn.out (by simp [Value.oneCell']) (by omega) (by omega) (by simp; omega) ?_; intro v3 w3 ho3 b3 hg3; obtain ⟨A5, c5, rfl, X5⟩ := xo_push (kd := KD) X2.2 X2.1 (show Ow _ _ A4 c4 dt by simpa using O2) (by rw [HL5.out]; exact ho3) hg3))
    have B3 : Below w.heap.size w w3 := (B2.alloc hb4 _).trans b3
    have HNl' := HNl.out
    exact ⟨⟨T ++ [((KD, dt), (A4, c4))], A5, c5, k + Z, f', by simp, X5, by simp, by omega, by have := HM.out; omega, by rw [flds_snoc]; exact HP.out, by simp; omega, B3⟩, by simp [intOf]; omega⟩
end Go.Proofs.YtachhbbofemfdaaDoor
namespace Go.Proofs.YtachhbbofemfdaaDoor
open Go.RowKit
set_option linter.unusedSimpArgs false
set_option linter.unusedVariables false
set_option maxRecDepth 100000
/-- a string's byte as a number -/
def sb (s : ByteArray) (k : Nat) : Int := ((s.data.toList.getD k 0).toNat : Int)
/-- a string's bytes -/
def bl (s : ByteArray) : List Int := s.data.toList.map fun c => (c.toNat : Int)
/-- the string of bytes -/
def strOf (l : List Int) : ByteArray := ⟨(l.map fun n => UInt8.ofNat n.toNat).toArray⟩
theorem bl_strOf {l : List Int} (h : Byt l) : bl (strOf l) = l := by
  unfold strOf bl
  simp only [List.toList_toArray, List.map_map]
  rw [List.map_congr_left (g := id)]
  · simp
  · intro x hx
    have := h x hx
    simp only [Function.comp, id, UInt8.toNat_ofNat']
    omega
theorem strOf_conv {w : World} {lo hi c n : Nat} {A : Option Addr} {l : List Int} (hn : l.length = n) (h : Bs w lo hi A l) (hA : 0 < n) :
    (convert 23 9 (.slice A n c)).run Tryd.prog w = .ok (.string (strOf l)) w := by
  subst hn
  obtain ⟨b, o, rfl, _, _, hc⟩ := h.at hA
  have hr := run_convert_bytes_back (P := Tryd.prog) w 23 9 5 ⟨b, o, none⟩ c (l.map fun n => UInt8.ofNat n.toNat) Tryd.underlying23 Tryd.underlying5 Tryd.underlying9 (fun j hj => by
    rw [List.length_map] at hj
    rw [ofAdd, hc j hj]
    have hb := h.byt.at j
    have e : atB l j = l[j] := by simp [atB, List.getD_eq_getElem?_getD, List.getElem?_eq_getElem hj]
    rw [e] at hb ⊢
    simp only [List.getElem_map]
    congr 2
    simp only [UInt8.toNat_ofNat']
    omega)
  rw [List.length_map] at hr
  exact hr
end Go.Proofs.YtachhbbofemfdaaDoor
namespace Go.Proofs.YtachhbbofemfdaaDoor
open Go.RowKit
set_option linter.unusedSimpArgs false
set_option linter.unusedVariables false
set_option maxRecDepth 100000
theorem strOf_conv' {w : World} {lo hi c n : Nat} {A : Option Addr} {l : List Int} (hn : l.length = n) (h : Bs w lo hi A l) :
    (convert 23 9 (.slice A n c)).run Tryd.prog w = .ok (.string (strOf l)) w := by
  by_cases h0 : 0 < n
  · exact strOf_conv hn h h0
  · obtain rfl : n = 0 := by omega
    obtain rfl : l = [] := List.eq_nil_of_length_eq_zero hn
    rcases A with _ | a
    · simp [convert, run_underlying Tryd.underlying23, run_underlying Tryd.underlying9, run_underlying Tryd.underlying5, strOf, loadCells, loadCellsFrom, Sem.run_bind]
      simp [Conv.bytesToString]
      rfl
    · exact run_convert_bytes_back (P := Tryd.prog) w 23 9 5 a c [] Tryd.underlying23 Tryd.underlying5 Tryd.underlying9 (fun j hj => absurd hj (by simp))
theorem strOf_inj {l m : List Int} (hl : Byt l) (hm : Byt m) : (strOf l = strOf m) ↔ l = m := ⟨fun h => by rw [← bl_strOf hl, ← bl_strOf hm, h], fun h => by rw [h]⟩
set_option maxHeartbeats 1000000 in
theorem bequal_any (A B : Option Addr) (n m c d lo hi lo' hi' : Nat) (l l' : List Int) (w : World) (hn : l.length = n) (hm : l'.length = m) (hA : Bs w lo hi A l) (hB : Bs w lo' hi' B l') :
    Calls Tryd.prog 15 #[.slice A n c, .slice B m d] w fun e w' => e = .returned (.bool (eqB l l')) ∧ w = w' := by
  have k1 := strOf_conv' (c := c) hn hA
  have k2 := strOf_conv' (c := d) hm hB
  have hE : Hid (((strOf l).toList == (strOf l').toList) = eqB l l') := by
    show ((strOf l).toList == (strOf l').toList) = eqB l l'
    unfold eqB
    rw [Bool.eq_iff_iff, beq_iff_eq, decide_eq_true_eq, ByteArray.toList_eq, ByteArray.toList_eq, ← strOf_inj hA.byt hB.byt]
    exact ⟨fun h => WideShapes.bytes_inj h, fun h => by rw [h]⟩
  generalize strOf l = s at k1 hE
  generalize strOf l' = t at k2 hE
  go_enter Tryd.func15, Tryd.ntmps15
  go_wp2
  go_ret
  refine ⟨?_, rfl⟩
  rw [← hE.out]
  rfl
set_option maxHeartbeats 1000000 in
theorem bclone_any (A : Option Addr) (n c lo hi : Nat) (l : List Int) (w : World) (hn : l.length = n) (h : Bs w lo hi A l) (hh : hi ≤ w.heap.size) (hm : n ≤ 140737488355328) (hA : A = none → n = 0 ∧ c = 0) :
    Calls Tryd.prog 25 #[.slice A n c] w fun e w' => ∃ A' c', e = .returned (.slice A' n c') ∧ Ow w' w.heap.size A' c' l ∧ w.heap.size ≤ w'.heap.size ∧ Below w.heap.size w w' := by
  subst hn
  rcases A with _ | a
  · obtain ⟨h0, rfl⟩ := hA rfl
    obtain rfl : l = [] := List.eq_nil_of_length_eq_zero h0
    have hnil := fun (W : World) => Go.Lib.run_eql_slice_nil (P := Tryd.prog) W 23 5 none 0 0 0 0 Tryd.underlying23
    go_enter Tryd.func25, Tryd.ntmps25
    go_wp2
    go_ret
    exact ⟨none, 0, rfl, ⟨Byt.nil, World.ownsRow_nil _ _ _ _⟩, Nat.le_refl _, Below.refl _ _⟩
  · have hO1 := Ow.lit w [] #[] rfl Byt.nil (by simp)
    have hB1 := h.alloc hh (.cells #[] 5)
    have hnil := fun (W : World) => Go.Lib.run_eql_slice_nil (P := Tryd.prog) W 23 5 (some a) l.length c 0 0 Tryd.underlying23
    go_enter Tryd.func25, Tryd.ntmps25
    go_wp2_with (at_builtin; refine wpList_append_bs rfl (.tmp 5) (.tmp 6) rfl 0 0 l.length c (by rfl) (by rfl) rfl rfl hO1 hB1 (by omega) (by simp) ?_; intro A1 c1 w1 hO hb1 _)
    have hb2 : Below w.heap.size w w1 := Below.trans ((Below.refl _ w).alloc (Nat.le_refl _) _) hb1
    go_ret
    exact ⟨A1, c1, by simp, by simpa using hO, hb2.size, hb2⟩
end Go.Proofs.YtachhbbofemfdaaDoor
namespace Go.Proofs.YtachhbbofemfdaaDoor
open Go.RowKit
set_option linter.unusedSimpArgs false
set_option linter.unusedVariables false
set_option maxRecDepth 100000
section
variable {P : Program} {ops : Array Oper} {Q : Exit → Act → World → Prop} {md : Region.Mode} {S : World → Prop}
/-- in every world that meets S the operation yields v, and the world behind it meets S -/
def YS (P : Program) (S : World → Prop) (o : Oper) (v : Value) (a : Act) : Prop :=
  ∀ w, S w → Oper.wp P o a w (fun a' w' => a' = a.put o.dst v ∧ S w') (fun _ _ _ => False)
def YG (P : Program) (ops : Array Oper) (S : World → Prop) (o : Oper) (v : Value) (a : Act) : Prop :=
  (Region.wanted o (yielded ops a.tmps) = true ∧ YS P S o v a) ∨ (Region.wanted o (yielded ops a.tmps) = false ∧ v = undef)
theorem put_far {a : Act} {d : Option Tmp} {u v x : Value} {e : Option Tmp} (h : ∀ t, e = some t → d ≠ some t) (hu : a.put d u = a.put d v) : (a.put e x).put d u = (a.put e x).put d v := by
  have h1 : ∀ z : Value, (a.put e x).put d z = (a.put d z).put e x := fun z => Act.put_comm a x z h
  rw [h1, h1, hu]
theorem put_near {a : Act} {d : Option Tmp} {u v x : Value} {e : Option Tmp} (h : ∀ t, e = some t → d ≠ some t) (hu : (a.put e x).put d u = (a.put e x).put d v) : a.put d u = a.put d v := by
  cases d with
  | none => rfl
  | some d =>
    cases e with
    | none => exact hu
    | some e =>
      have hne : e ≠ d := fun he => h e rfl (by rw [he])
      have hu' := hu
      simp only [Act.put, Act.mk.injEq] at hu ⊢
      refine ⟨?_, hu.2⟩
      have h1 := hu.1
      apply Array.ext (by simp)
      intro i hi1 hi2
      have hi3 : i < a.tmps.size := by simpa using hi1
      have h2 := congrArg (fun t => t[i]?) h1
      by_cases hid : i = d
      · subst hid
        simp [hi3] at h2
        simp [h2]
      · rw [Array.getElem_setIfInBounds_ne hi3 (Ne.symm hid), Array.getElem_setIfInBounds_ne hi3 (Ne.symm hid)]
theorem YS.move {o : Oper} {v x : Value} {a : Act} {e : Option Tmp} (hs : ∀ cs b, o.op ≠ .select cs b) (hl : ∀ d, e = some d → d ∉ o.looksAt ops) (hd : ∀ d, e = some d → o.dst ≠ some d) : YS P S o v (a.put e x) ↔ YS P S o v a := by
  have he := execOp_put (ops := ops) o hs a e x hl
  unfold YS Oper.wp
  refine forall_congr' fun w => imp_congr_right fun _ => ?_
  rw [he]
  cases (execOp a.eval o).run P w with
  | ok n w' =>
    cases n <;> simp only [Oper.upon]
    case value u => exact and_congr_left fun _ => ⟨put_near hd, put_far hd⟩
    case skip => exact and_congr_left fun _ => ⟨put_near hd, put_far hd⟩
    case defer d =>
      refine and_congr_left fun _ => ⟨fun h => ?_, fun h => ?_⟩
      · exfalso
        have h2 := congrArg Act.defers h
        cases hq : o.dst <;> cases e <;> simp [Act.put, hq] at h2
      · exfalso
        have h2 := congrArg Act.defers h
        cases hq : o.dst <;> simp [Act.put, hq] at h2
    case enter f args =>
      have key : ∀ (b : Act) (r : Ending) (w'' : World), (match r with | .returned u => (b.put o.dst u = b.put o.dst v ∧ S w'') | .panicked c => False | .outgrown => False) ↔ (match r with | .returned u => (b.put o.dst u = b.put o.dst v ∧ S w'') | .panicked c => False | .outgrown => False) := fun _ _ _ => Iff.rfl
      constructor
      · intro h
        refine Calls.mono h fun r w'' hr => ?_
        cases r with
        | returned u => exact ⟨put_near hd hr.1, hr.2⟩
        | panicked c => exact hr
        | outgrown => exact hr
      · intro h
        refine Calls.mono h fun r w'' hr => ?_
        cases r with
        | returned u => exact ⟨put_far hd hr.1, hr.2⟩
        | panicked c => exact hr
        | outgrown => exact hr
    case row row args =>
      constructor
      · intro h; exact Rows.mono h fun u w'' hr => ⟨put_near hd hr.1, hr.2⟩
      · intro h; exact Rows.mono h fun u w'' hr => ⟨put_far hd hr.1, hr.2⟩
    all_goals exact Iff.rfl
  | halt x w' => cases x <;> simp only [Oper.upon]
theorem YG.move {o : Oper} {v x : Value} {a : Act} {e : Option Tmp} (hs : ∀ cs b, o.op ≠ .select cs b) (hl : ∀ d, e = some d → d ∉ o.looksAt ops) (hd : ∀ d, e = some d → o.dst ≠ some d) : YG P ops S o v (a.put e x) ↔ YG P ops S o v a := by
  unfold YG
  rw [wanted_put o a e x hl, YS.move (ops := ops) hs hl hd]
/-- whatever order is picked: every operation yields its one value -/
def wpD (P : Program) (md : Region.Mode) (ops : Array Oper) (Q : Exit → Act → World → Prop) (S : World → Prop) : Nat → Array Bool → Act → Prop
  | 0, listed, a => Region.ready md ops listed = [] ∧ ∀ w, S w → Q .normal a w
  | fuel + 1, listed, a => (Region.ready md ops listed = [] → ∀ w, S w → Q .normal a w) ∧
    ∀ i ∈ Region.ready md ops listed, ∃ o v, ops[i]? = some o ∧ YG P ops S o v a ∧ wpD P md ops Q S fuel (listed.setIfInBounds i true) (a.put o.dst v)
theorem wpD_sound : ∀ (fuel : Nat) (listed : Array Bool) (a : Act), wpD P md ops Q S fuel listed a → ∀ w, S w → wpAny P md ops Q fuel listed a w
  | 0, _, _, h => fun w hw => ⟨h.1, h.2 w hw⟩
  | fuel + 1, listed, a, h => fun w hw => ⟨fun hr => h.1 hr w hw, fun i hi => by
    obtain ⟨o, v, ho, hy, hd⟩ := h.2 i hi
    have ih := wpD_sound fuel _ _ hd
    unfold wpOp
    rw [ho]
    show if Region.wanted o (yielded ops a.tmps) = true then _ else _
    rcases hy with ⟨h1, h2⟩ | ⟨h1, rfl⟩
    · rw [if_pos h1]
      refine .inl ?_
      have h3 := h2 w hw
      unfold Oper.wp at h3 ⊢
      generalize (execOp a.eval o).run P w = r at h3 ⊢
      cases r with
      | ok n w' =>
        cases n <;> simp only [Oper.upon] at h3 ⊢
        case value u => rw [h3.1]; exact ih w' h3.2
        case skip => rw [h3.1]; exact ih w' h3.2
        case defer d => rw [h3.1]; exact ih w' h3.2
        case enter f args =>
          refine Calls.mono h3 fun r w'' hr => ?_
          cases r with
          | returned u => have hr : a.put o.dst u = a.put o.dst v ∧ S w'' := hr; show wpAny P md ops Q fuel _ (a.put o.dst u) w''; rw [hr.1]; exact ih w'' hr.2
          | panicked c => exact hr.elim
          | outgrown => have hr : LetsOut (fun (_ : Exit) (_ : Act) (_ : World) => False) := hr; obtain ⟨_, _, h⟩ := hr; exact h.elim
        case row row args => exact Rows.mono h3 fun u w'' hr => by rw [hr.1]; exact ih w'' hr.2
      | halt x w' => cases x <;> simp only [Oper.upon] at h3 ⊢
    · rw [if_neg (by rw [h1]; simp)]
      exact ih w hw⟩
theorem wpD_first {i : Nat} {oi : Oper} {v : Value} (hi : ops[i]? = some oi) (hsel : ∀ (j : Nat) (o : Oper) cs b, ops[j]? = some o → o.op ≠ .select cs b) :
    ∀ (fuel : Nat) (listed : Array Bool) (a : Act),
      (∀ j oj, ops[j]? = some oj → j ≠ i → listed.getD j true = false → (∀ e ∈ oj.after, Region.binds md e = true → e.on ≠ i) → oi.apart ops oj = true) →
      i ∈ Region.ready md ops listed → YG P ops S oi v a →
      wpD P md ops Q S fuel (listed.setIfInBounds i true) (a.put oi.dst v) → wpD P md ops Q S (fuel + 1) listed a := by
  intro fuel
  induction fuel with
  | zero =>
    intro listed a _ hr hy H
    refine ⟨fun h => (by rw [h] at hr; cases hr), fun j hj => ?_⟩
    by_cases hji : j = i
    · subst hji; exact ⟨oi, v, hi, hy, H⟩
    · have := ready_mono hj hji
      rw [H.1] at this
      cases this
  | succ fuel ih =>
    intro listed a hfree hr hy H
    refine ⟨fun h => (by rw [h] at hr; cases hr), fun j hj => ?_⟩
    by_cases hji : j = i
    · subst hji; exact ⟨oi, v, hi, hy, H⟩
    · obtain ⟨oj, u, hoj, hyj, hD⟩ := H.2 j (ready_mono hj hji)
      obtain ⟨hjun, oj', hoj', hall⟩ := mem_ready.1 hj
      obtain rfl : oj = oj' := Option.some.inj (hoj.symm.trans hoj')
      have hnot : ∀ e ∈ oj.after, Region.binds md e = true → e.on ≠ i := fun e he hb heq => by
        have h1 := hall e he hb
        have h0 := (mem_ready.1 hr).1
        rw [heq] at h1
        rcases Nat.lt_or_ge i listed.size with h' | h'
        · simp [h'] at h0 h1; rw [h0] at h1; cases h1
        · simp [Array.getElem?_eq_none h'] at h1
      obtain ⟨a1, a2, a3⟩ := Oper.apart_spec (hfree j oj hoj hji hjun hnot)
      have b2 : ∀ d, oj.dst = some d → oi.dst ≠ some d := fun d hd he => a2 d he hd
      refine ⟨oj, u, hoj, (YG.move (fun cs b => hsel j oj cs b hoj) a1 a2).1 hyj, ?_⟩
      have hfree' : ∀ k ok, ops[k]? = some ok → k ≠ i → (listed.setIfInBounds j true).getD k true = false →
          (∀ e ∈ ok.after, Region.binds md e = true → e.on ≠ i) → oi.apart ops ok = true := fun k ok hk hki hun hno => by
        refine hfree k ok hk hki ?_ hno
        by_cases hjk : j = k
        · subst hjk; exact hjun
        · rw [getD_set_ne true hjk] at hun; exact hun
      refine ih (listed.setIfInBounds j true) (a.put oj.dst u) hfree' (ready_mono hr (Ne.symm hji)) ((YG.move (fun cs b => hsel i oi cs b hi) a3 b2).2 hy) ?_
      rw [Array.setIfInBounds_comm _ _ hji, ← Act.put_comm a v u a2]
      exact hD
/-- number i is taken: it may come up, and those that do not wait for it are apart from it -/
theorem wpD_take {i : Nat} {oi : Oper} {v : Value} {fuel : Nat} {l : List Bool} {a : Act} (hi : ops[i]? = some oi)
    (hs : Region.noSelect ops = true) (hf : Region.free md ops l.toArray i = true) (hr : (Region.ready md ops l.toArray).contains i = true)
    (hw : Region.wanted oi (yielded ops a.tmps) = true) (hy : YS P S oi v a)
    (h : wpD P md ops Q S fuel (l.set i true).toArray (a.put oi.dst v)) : wpD P md ops Q S (fuel + 1) l.toArray a :=
  wpD_first hi (Region.noSelect_spec hs) fuel l.toArray a (Region.free_spec hi hf) (by simpa using hr) (.inl ⟨hw, hy⟩) (by rw [List.setIfInBounds_toArray]; exact h)
/-- number i is not wanted -/
theorem wpD_skip {i : Nat} {oi : Oper} {fuel : Nat} {l : List Bool} {a : Act} (hi : ops[i]? = some oi)
    (hs : Region.noSelect ops = true) (hf : Region.free md ops l.toArray i = true) (hr : (Region.ready md ops l.toArray).contains i = true)
    (hw : Region.wanted oi (yielded ops a.tmps) = false)
    (h : wpD P md ops Q S fuel (l.set i true).toArray (a.put oi.dst undef)) : wpD P md ops Q S (fuel + 1) l.toArray a :=
  wpD_first hi (Region.noSelect_spec hs) fuel l.toArray a (Region.free_spec hi hf) (by simpa using hr) (.inr ⟨hw, rfl⟩) (by rw [List.setIfInBounds_toArray]; exact h)
theorem wpD_done {listed : Array Bool} {a : Act} (hr : Region.ready md ops listed = []) (h : ∀ w, S w → Q .normal a w) :
    ∀ fuel, wpD P md ops Q S fuel listed a
  | 0 => ⟨hr, h⟩
  | _ + 1 => ⟨fun _ => h, by rw [hr]; simp⟩
/-- the beginning -/
theorem wp_region_det {id : Nat} {a : Act} {w : World} (S : World → Prop) (n : Nat) (hm : P.follows .mixedOrders = true) (hn : ops.size = n) (hS : S w.drew)
    (h : wpD P .any ops Q S n (List.replicate n false).toArray a) : (Code.region id ops true).wp P Q a w := by
  refine wp_region_any hm (wpD_sound _ _ _ ?_ _ hS)
  rw [hn, show Array.replicate n false = (List.replicate n false).toArray by simp]
  exact h
/-- an operation that leaves the world as it is -/
theorem YS.of_value {o : Oper} {v : Value} {a : Act} (h : ∀ w, S w → (execOp a.eval o).run P w = .ok (.value v) w) : YS P S o v a := fun w hw => by
  unfold Oper.wp
  rw [h w hw]
  exact ⟨rfl, hw⟩
/-- the same region under a condition that is held, step by step (for a region of few operations that stores or appends) -/
theorem wp_region_heldL {id : Nat} {a : Act} {w : World} (S : World → Prop) (n : Nat) (hm : P.follows .mixedOrders = true) (hn : ops.size = n) (hS : S w.drew)
    (h : S w.drew → wpAnyH P .any ops Q S n (List.replicate n false).toArray a w.drew) : (Code.region id ops true).wp P Q a w := by
  refine wp_region_held_drew hm hS fun h0 => ?_
  rw [hn, show Array.replicate n false = (List.replicate n false).toArray by simp]
  exact h h0
theorem wpH_take {i : Nat} {oi : Oper} {v : Value} {fuel : Nat} {l : List Bool} {a : Act} {w : World} (hi : ops[i]? = some oi)
    (hs : Region.noSelect ops = true) (hf : Region.free md ops l.toArray i = true) (hr : (Region.ready md ops l.toArray).contains i = true)
    (hQ : ∀ c a w, Q (.panic c) (a.put oi.dst v) w → Q (.panic c) a w) (hy : YieldsIf P ops S oi v a) (hS : S w)
    (h : wpAnyH P md ops Q S fuel (l.set i true).toArray (a.put oi.dst v) w) : wpAnyH P md ops Q S (fuel + 1) l.toArray a w :=
  wpAnyH_take hi hs hf hr hQ hy hS (by rw [List.setIfInBounds_toArray]; exact h)
theorem wpH_one {i : Nat} {oi : Oper} {fuel : Nat} {l : List Bool} {a : Act} {w : World} (hi : ops[i]? = some oi) (hr : Region.ready md ops l.toArray = [i]) (hw : Region.wanted oi (yielded ops a.tmps) = true)
    (h : Oper.wp P oi a w (fun a' w' => S w' ∧ wpAnyH P md ops Q S fuel (l.set i true).toArray a' w') Q) : wpAnyH P md ops Q S (fuel + 1) l.toArray a w := by
  refine wpAnyH_all hr (by simp) fun j hj => ?_
  obtain rfl : j = i := by simpa using hj
  unfold wpOp
  rw [hi]
  show if Region.wanted oi (yielded ops a.tmps) = true then _ else _
  rw [if_pos hw, List.setIfInBounds_toArray]
  exact .inl h
theorem wpH_done {listed : Array Bool} {a : Act} {w : World} (hr : Region.ready md ops listed = []) (h : Q .normal a w) : ∀ fuel, wpAnyH P md ops Q S fuel listed a w := wpAnyH_done hr h
/-! ### the same, shorter to say -/
theorem gE {α : Type} {l : List α} {i : Nat} {o : α} (h : l[i]? = some o) : l.toArray[i]? = some o := by
  rw [List.getElem?_toArray]
  exact h
theorem zs0 {α : Type} {l : List α} {i : Nat} {a : α} : l.toArray.setIfInBounds i a = (l.set i a).toArray := List.setIfInBounds_toArray ..
theorem zs1 {α : Type} {l : List α} {a b : α} : (a :: l).set 0 b = b :: l := rfl
theorem zs2 {α : Type} {l : List α} {n : Nat} {a b : α} : (a :: l).set (n + 1) b = a :: l.set n b := rfl
/-- number i is taken: it may come up, and those that do not wait for it are apart from it -/
theorem wpD_t (i : Nat) (v : Value) {oi : Oper} {fuel : Nat} {l : List Bool} {a : Act} (hi : ops[i]? = some oi)
    (hb : (Region.noSelect ops && Region.free md ops l.toArray i && (Region.ready md ops l.toArray).contains i) = true)
    (hw : Region.wanted oi (yielded ops a.tmps) = true) (hy : YS P S oi v a)
    (h : wpD P md ops Q S fuel (l.set i true).toArray (a.put oi.dst v)) : wpD P md ops Q S (fuel + 1) l.toArray a := by
  rw [Bool.and_eq_true, Bool.and_eq_true] at hb
  exact wpD_take hi hb.1.1 hb.1.2 hb.2 hw hy h
theorem wpH_t (i : Nat) (v : Value) {oi : Oper} {fuel : Nat} {l : List Bool} {a : Act} {w : World} (hi : ops[i]? = some oi)
    (hb : (Region.noSelect ops && Region.free md ops l.toArray i && (Region.ready md ops l.toArray).contains i) = true)
    (hQ : ∀ c a w, Q (.panic c) (a.put oi.dst v) w → Q (.panic c) a w) (hy : YieldsIf P ops S oi v a) (hS : S w)
    (h : wpAnyH P md ops Q S fuel (l.set i true).toArray (a.put oi.dst v) w) : wpAnyH P md ops Q S (fuel + 1) l.toArray a w := by
  rw [Bool.and_eq_true, Bool.and_eq_true] at hb
  exact wpH_take hi hb.1.1 hb.1.2 hb.2 hQ hy hS h
end
end Go.Proofs.YtachhbbofemfdaaDoor
namespace Go.Proofs.YtachhbbofemfdaaDoor
open Go.RowKit
set_option linter.unusedSimpArgs false
set_option linter.unusedVariables false
set_option maxRecDepth 100000
set_option maxHeartbeats 1000000 in
theorem auth_any (id tag : Int) (w : World) (h0 : 0 ≤ id) (h1 : id ≤ 4294967295) (h2 : 0 ≤ tag) (h3 : tag ≤ 18446744073709551615) :
    Calls Tryd.prog 73 #[.int .u32 id, .int .u64 tag] w fun e w' => ∃ A' c', e = .returned (.slice A' 12 c') ∧ Ow w' w.heap.size A' c' (bytesB 4 id ++ bytesB 8 tag) ∧ Below w.heap.size w w' := by
  have hE := append_ok none 0 0 0 0 [] id 4 w rfl Bs.nil (Nat.zero_le _) (by omega) (by omega) (by omega) (by omega) (by have := (show (256 : Int) ^ 4 = 4294967296 from by decide); omega)
  go_enter Tryd.func73, Tryd.ntmps73
  go_wp2_with fail
  refine hE.mono ?_
  rintro e w1 ⟨rfl, O1, z1, b1⟩
  have O1' : Ow w1 w.heap.size (some ⟨w.heap.size, 0, none⟩) 4 (bytesB 4 id) := by simpa using O1
  clear hE O1 z1
  have hE := append_ok (some ⟨w.heap.size, 0, none⟩) 4 4 _ _ (bytesB 4 id) tag 8 w1 (bytesB_length _ _) O1'.bs (Nat.le_refl _) (by omega) (by omega) (by omega) (by omega) (by have := (show (256 : Int) ^ 8 = 18446744073709551616 from by decide); omega)
  go_wp2_with fail
  refine hE.mono ?_
  rintro e w2 ⟨rfl, O2, z2, b2⟩
  go_wp2
  go_ret
  exact ⟨_, _, rfl, O2.wide b1.size, b1.trans (b2.mono b1.size)⟩
set_option maxHeartbeats 1000000 in
theorem split_12 (A : Option Addr) (c lo hi : Nat) (l : List Int) (w : World) (hn : l.length = 12) (h : Bs w lo hi A l) (hm : 12 ≤ c) (hc : c ≤ 9223372036854775807) :
    Calls Tryd.prog 63 #[.slice A 12 c] w fun e w' => e = .returned (.tuple #[.int .u32 (numB (l.take 4)), .int .u64 (numB ((l.drop 4).take 8)), .int .i64 0]) ∧ w = w' := by
  have hE := get_any A 12 c lo hi l 0 4 w hn h hm hc (by omega)
  have hE2 := get_any A 12 c lo hi l 4 8 w hn h hm hc (by omega)
  unfold getR at hE hE2
  rw [getE_0 (by omega) (by omega)] at hE hE2
  have e1 : z0 0 (getV l 0 4) = numB (l.take 4) := by unfold getV z0; simp
  have e2 : z0 0 (getV l 4 8) = numB ((l.drop 4).take 8) := by unfold getV z0; simp
  rw [e1] at hE
  rw [e2] at hE2
  have hr := (numB_range (l.take 4)).1
  have hl := numB_le_pow' (h.byt.take 4)
  rw [List.length_take, hn] at hl
  have hl2 : numB (l.take 4) ≤ 4294967295 := by have : (256 : Int) ^ (min 4 12) = 4294967296 := by decide
                                                omega
  clear hl e1 e2
  generalize numB (l.take 4) = X at hE hr hl2
  generalize numB ((l.drop 4).take 8) = Y at hE2
  go_enter Tryd.func63, Tryd.ntmps63
  go_wp2_with (first
    | (go_at_call 91; ((with_reducible refine hE.mono ?_); rintro e _ ⟨rfl, rfl⟩))
    | (go_at_call 91; ((with_reducible refine hE2.mono ?_); rintro e _ ⟨rfl, rfl⟩)))
  go_ret3
  exact ⟨rfl, rfl⟩
set_option maxHeartbeats 4000000 in
theorem same_eq (A B : Option Addr) (n c d : Nat) (L : Flds) (w : World) (hn : L.length = n) (hA : Xs w w.heap.size A L) (hB : Xs w w.heap.size B L) (hc : n ≤ c) (hc2 : c ≤ 9223372036854775807) (hd : n ≤ d) (hd2 : d ≤ 9223372036854775807) :
    Calls Tryd.prog 87 #[.slice A n c, .slice B n d] w fun e w' => e = .returned (.bool true) ∧ Below w.heap.size w w' := by
  go_enter Tryd.func87, Tryd.ntmps87
  go_wp2
  go_loopw [5] (fun i wr => ∃ k : Nat, k ≤ n ∧ i = .int .i64 k ∧ Below w.heap.size w wr) (fun i _ => n - (intOf i).toNat)
  case atStart => exact ⟨0, by omega, rfl, Below.refl _ _⟩
  case round =>
    obtain ⟨k, hk, rfl, hBw⟩ := hrel
    by_cases hlt : k < n
    · obtain ⟨b, o, rfl, hbw, hx⟩ := (hA.below hBw (Nat.le_refl _)) (by omega)
      obtain ⟨b', o', rfl, hbw', hx'⟩ := (hB.below hBw (Nat.le_refl _)) (by omega)
      obtain ⟨Ak, ck, p0, p1, hBk, _⟩ := hx k (by omega)
      obtain ⟨Bk, dk, q0, q1, hBk', _⟩ := hx' k (by omega)
      have v1 := strOf_conv' (c := ck) rfl hBk.drew
      have v2 := strOf_conv' (c := dk) rfl hBk'.drew
      have hi0 : (0 : Int) ≤ k := by omega
      have hi1 : (k : Int) < n := by omega
      generalize strOf (dtL L k) = s at v1 v2
      generalize (dtL L k).length = D at p1 q1 v1 v2
      generalize kdL L k = K at p0 q0
      clear hx hx' hA hB hBk hBk'
      go_wp2_with fail
      refine wp_region_det (fun w' => w' = wr.drew) 26 (by kernel_rfl) rfl (by rfl) ?_
      simp only [List.replicate]
      (refine wpD_t 0 _ (by exact gE rfl) (by kernel_rfl) (by rfl) (YS.of_value (by intro _ h; (try dsimp only at h); go_simp; first | done | with_reducible rfl)) ?_; (try simp only [Act.put, zs0, zs1, zs2]))
      (refine wpD_t 1 _ (by exact gE rfl) (by kernel_rfl) (by rfl) (YS.of_value (by intro _ h; (try dsimp only at h); go_simp; first | done | with_reducible rfl)) ?_; (try simp only [Act.put, zs0, zs1, zs2]))
      (refine wpD_t 2 _ (by exact gE rfl) (by kernel_rfl) (by rfl) (YS.of_value (by intro _ h; (try dsimp only at h); go_simp; first | done | with_reducible rfl)) ?_; (try simp only [Act.put, zs0, zs1, zs2]))
      (refine wpD_t 3 _ (by exact gE rfl) (by kernel_rfl) (by rfl) (YS.of_value (by intro _ h; (try dsimp only at h); go_simp; first | done | with_reducible rfl)) ?_; (try simp only [Act.put, zs0, zs1, zs2]))
      (refine wpD_t 4 _ (by exact gE rfl) (by kernel_rfl) (by rfl) (YS.of_value (by intro _ h; (try dsimp only at h); go_simp; first | done | with_reducible rfl)) ?_; (try simp only [Act.put, zs0, zs1, zs2]))
      (refine wpD_t 5 _ (by exact gE rfl) (by kernel_rfl) (by rfl) (YS.of_value (by intro _ h; (try dsimp only at h); go_simp; first | done | with_reducible rfl)) ?_; (try simp only [Act.put, zs0, zs1, zs2]))
      (refine wpD_t 6 _ (by exact gE rfl) (by kernel_rfl) (by rfl) (YS.of_value (by intro _ h; (try dsimp only at h); go_simp; first | done | with_reducible rfl)) ?_; (try simp only [Act.put, zs0, zs1, zs2]))
      (refine wpD_t 7 _ (by exact gE rfl) (by kernel_rfl) (by rfl) (YS.of_value (by intro _ h; (try dsimp only at h); go_simp; first | done | with_reducible rfl)) ?_; (try simp only [Act.put, zs0, zs1, zs2]))
      (refine wpD_t 8 _ (by exact gE rfl) (by kernel_rfl) (by rfl) (YS.of_value (by intro _ h; (try dsimp only at h); go_simp; first | done | with_reducible rfl)) ?_; (try simp only [Act.put, zs0, zs1, zs2]))
      (refine wpD_t 9 _ (by exact gE rfl) (by kernel_rfl) (by rfl) (YS.of_value (by intro _ h; (try dsimp only at h); go_simp; first | done | with_reducible rfl)) ?_; (try simp only [Act.put, zs0, zs1, zs2]))
      (refine wpD_t 10 _ (by exact gE rfl) (by kernel_rfl) (by rfl) (YS.of_value (by intro _ h; (try dsimp only at h); go_simp; first | done | with_reducible rfl)) ?_; (try simp only [Act.put, zs0, zs1, zs2]))
      (refine wpD_t 11 _ (by exact gE rfl) (by kernel_rfl) (by rfl) (YS.of_value (by intro _ h; (try dsimp only at h); go_simp; first | done | with_reducible rfl)) ?_; (try simp only [Act.put, zs0, zs1, zs2]))
      (refine wpD_t 12 _ (by exact gE rfl) (by kernel_rfl) (by rfl) (YS.of_value (by intro _ h; (try dsimp only at h); go_simp; first | done | with_reducible rfl)) ?_; (try simp only [Act.put, zs0, zs1, zs2]))
      (refine wpD_t 13 _ (by exact gE rfl) (by kernel_rfl) (by rfl) (YS.of_value (by intro _ h; (try dsimp only at h); go_simp; first | done | with_reducible rfl)) ?_; (try simp only [Act.put, zs0, zs1, zs2]))
      (refine wpD_t 14 _ (by exact gE rfl) (by kernel_rfl) (by rfl) (YS.of_value (by intro _ h; (try dsimp only at h); go_simp; first | done | with_reducible rfl)) ?_; (try simp only [Act.put, zs0, zs1, zs2]))
      (refine wpD_t 15 _ (by exact gE rfl) (by kernel_rfl) (by rfl) (YS.of_value (by intro _ h; (try dsimp only at h); go_simp; first | done | with_reducible rfl)) ?_; (try simp only [Act.put, zs0, zs1, zs2]))
      (refine wpD_t 16 _ (by exact gE rfl) (by kernel_rfl) (by rfl) (YS.of_value (by intro _ h; (try dsimp only at h); go_simp; first | done | with_reducible rfl)) ?_; (try simp only [Act.put, zs0, zs1, zs2]))
      (refine wpD_t 17 _ (by exact gE rfl) (by kernel_rfl) (by rfl) (YS.of_value (by intro _ h; (try dsimp only at h); go_simp; first | done | with_reducible rfl)) ?_; (try simp only [Act.put, zs0, zs1, zs2]))
      (refine wpD_t 18 _ (by exact gE rfl) (by kernel_rfl) (by rfl) (YS.of_value (by intro _ h; (try dsimp only at h); go_simp; first | done | with_reducible rfl)) ?_; (try simp only [Act.put, zs0, zs1, zs2]))
      (refine wpD_t 19 _ (by exact gE rfl) (by kernel_rfl) (by rfl) (YS.of_value (by intro _ h; (try dsimp only at h); go_simp; first | done | with_reducible rfl)) ?_; (try simp only [Act.put, zs0, zs1, zs2]))
      (refine wpD_t 20 _ (by exact gE rfl) (by kernel_rfl) (by rfl) (YS.of_value (by intro _ h; (try dsimp only at h); go_simp; first | done | with_reducible rfl)) ?_; (try simp only [Act.put, zs0, zs1, zs2]))
      (refine wpD_t 21 _ (by exact gE rfl) (by kernel_rfl) (by rfl) (YS.of_value (by intro _ h; (try dsimp only at h); go_simp; first | done | with_reducible rfl)) ?_; (try simp only [Act.put, zs0, zs1, zs2]))
      (refine wpD_t 22 _ (by exact gE rfl) (by kernel_rfl) (by rfl) (YS.of_value (by intro _ h; (try dsimp only at h); go_simp; first | done | with_reducible rfl)) ?_; (try simp only [Act.put, zs0, zs1, zs2]))
      (refine wpD_t 23 _ (by exact gE rfl) (by kernel_rfl) (by rfl) (YS.of_value (by intro _ h; (try dsimp only at h); go_simp; first | done | with_reducible rfl)) ?_; (try simp only [Act.put, zs0, zs1, zs2]))
      (refine wpD_t 24 _ (by exact gE rfl) (by kernel_rfl) (by rfl) (YS.of_value (by intro _ h; (try dsimp only at h); go_simp; first | done | with_reducible rfl)) ?_; (try simp only [Act.put, zs0, zs1, zs2]))
      (refine wpD_t 25 _ (by exact gE rfl) (by kernel_rfl) (by rfl) (YS.of_value (by intro _ h; (try dsimp only at h); go_simp; first | done | with_reducible rfl)) ?_; (try simp only [Act.put, zs0, zs1, zs2]))
      refine wpD_done (by kernel_rfl) ?_ _
      rintro _ rfl
      go_wp2_with fail
      exact ⟨⟨k + 1, by omega, by go_num, hBw.drew⟩, by simp [intOf]; omega⟩
    · obtain rfl : n = k := by omega
      go_wp2
      go_ret
      exact ⟨rfl, hBw⟩
end Go.Proofs.YtachhbbofemfdaaDoor
namespace Go.Proofs.YtachhbbofemfdaaDoor
open Go.RowKit
set_option linter.unusedSimpArgs false
set_option linter.unusedVariables false
set_option maxRecDepth 100000
abbrev ntp (l v m st po pr rd rp id ref org rec xmt : Int) : Value := .agg #[.int .i64 l, .int .i64 v, .int .i64 m, .int .i64 st, .int .i64 po, .int .i64 pr, .int .u32 rd, .int .u32 rp, .int .u32 id, .int .u64 ref, .int .u64 org, .int .u64 rec, .int .u64 xmt]
def nchk (l v m st po pr : Int) : Int := if 0 ≤ l ∧ l ≤ 3 ∧ 1 ≤ v ∧ v ≤ 4 ∧ 0 ≤ m ∧ m ≤ 7 ∧ 0 ≤ st ∧ st ≤ 255 ∧ -128 ≤ po ∧ po ≤ 127 ∧ -128 ≤ pr ∧ pr ≤ 127 then 0 else 3
set_option maxHeartbeats 400000 in
theorem within_any (n lo hi : Int) (w : World) :
    Calls Tryd.prog 70 #[.int .i64 n, .int .i64 lo, .int .i64 hi] w fun e w' => e = .returned (.bool (decide (lo ≤ n ∧ n ≤ hi))) ∧ w = w' := by
  by_cases h1 : lo ≤ n <;> by_cases h2 : n ≤ hi
  all_goals
    go_enter Tryd.func70, Tryd.ntmps70
    go_wp2
    go_ret
    exact ⟨by simp [*], rfl⟩
set_option maxHeartbeats 1000000 in
theorem nchk_any (l v m st po pr rd rp id ref org rec xmt : Int) (w : World) :
    Calls Tryd.prog 39 #[ntp l v m st po pr rd rp id ref org rec xmt] w fun e w' => e = .returned (.int .i64 (nchk l v m st po pr)) ∧ Below w.heap.size w w' := by
  go_enter Tryd.func39, Tryd.ntmps39
  go_wp2_with (first | (go_at_call 70; ((with_reducible refine (within_any _ _ _ _).mono ?_); rintro e w1 ⟨rfl, rfl⟩)))
  all_goals
    go_ret
    refine ⟨ret_int ?_, by (repeat (first | assumption | exact Below.refl _ _ | refine Below.drew ?_ | refine below_drewN ?_ _ | refine Below.setCell ?_ (by first | omega | (simp; done) | (simp <;> omega)) _ | refine Below.alloc ?_ (by first | omega | (simp; done) | (simp <;> omega)) _ | refine Below.trans ?_ (Below.mono (by assumption) (by first | omega | (simp; done) | (simp <;> omega)))))⟩
    unfold nchk
    simp_all <;> omega
set_option maxHeartbeats 1000000 in
theorem rnchk_any (l v m st po pr rd rp id ref org rec xmt : Int) (w : World) :
    Calls Tryd.prog 42 #[ntp l v m st po pr rd rp id ref org rec xmt] w fun e w' => e = .returned (.int .i64 (nchk l v m st po pr)) ∧ Below w.heap.size w w' := by
  go_enter Tryd.func42, Tryd.ntmps42
  go_wp2
  all_goals
    go_ret
    refine ⟨ret_int ?_, by (repeat (first | assumption | exact Below.refl _ _ | refine Below.drew ?_ | refine below_drewN ?_ _ | refine Below.setCell ?_ (by first | omega | (simp; done) | (simp <;> omega)) _ | refine Below.alloc ?_ (by first | omega | (simp; done) | (simp <;> omega)) _ | refine Below.trans ?_ (Below.mono (by assumption) (by first | omega | (simp; done) | (simp <;> omega)))))⟩
    unfold nchk
    simp_all <;> omega
/-- numbers and their sizes, as put takes them -/
def flatC : List (Int × Nat) → List Value
  | [] => []
  | p :: ps => .int .u64 p.1 :: .int .u64 p.2 :: flatC ps
theorem flatC_len (ps : List (Int × Nat)) : (flatC ps).length = 2 * ps.length := by induction ps with
  | nil => rfl
  | cons p ps ih => simp [flatC, ih]; omega
theorem flatC_at (ps : List (Int × Nat)) : ∀ k (h : k < ps.length), (flatC ps)[2 * k]? = some (.int .u64 (ps[k]'h).1) ∧ (flatC ps)[2 * k + 1]? = some (.int .u64 (ps[k]'h).2) := by
  induction ps with
  | nil => intro k h; simp at h
  | cons p ps ih =>
    intro k h
    cases k with
    | zero => exact ⟨rfl, rfl⟩
    | succ k =>
      have := ih k (by simpa using h)
      rw [show 2 * (k + 1) = 2 * k + 1 + 1 by omega]
      simpa [flatC] using this
/-- the bytes of numbers -/
def encB (ps : List (Int × Nat)) : List Int := ps.flatMap fun p => bytesB p.2 p.1
/-- each number fits its size -/
def Fits (ps : List (Int × Nat)) : Prop := ∀ p ∈ ps, 0 ≤ p.1 ∧ p.1 < 18446744073709551616 ∧ 1 ≤ p.2 ∧ p.2 ≤ 8 ∧ p.1 < 256 ^ p.2
theorem encB_len (ps : List (Int × Nat)) (h : Fits ps) : (encB ps).length ≤ 8 * ps.length := by
  induction ps with
  | nil => simp [encB]
  | cons p ps ih =>
    have h1 := h p (by simp)
    have h2 := ih (fun q hq => h q (by simp [hq]))
    simp only [encB, List.flatMap_cons, List.length_append, bytesB_length, List.length_cons] at *
    omega
theorem encB_succ (ps : List (Int × Nat)) (k : Nat) (h : k < ps.length) : encB (ps.take (k + 1)) = encB (ps.take k) ++ bytesB (ps[k]'h).2 (ps[k]'h).1 := by
  have e : ps.take (k + 1) = ps.take k ++ [ps[k]'h] := by rw [List.take_add_one, List.getElem?_eq_getElem h]; rfl
  rw [e]
  unfold encB
  rw [List.flatMap_append]; simp
theorem Fits.take {ps : List (Int × Nat)} (h : Fits ps) (k : Nat) : Fits (ps.take k) := fun p hp => h p (List.mem_of_mem_take hp)
set_option maxHeartbeats 2000000 in
theorem put_any (g : Nat) (ps : List (Int × Nat)) (n c : Nat) (t : TypeId) (w : World) (hg : w.heap[g]? = some (.cells (flatC ps).toArray t (0, 0))) (hn : n = 2 * ps.length) (hf : Fits ps) (hm : ps.length ≤ 1000) :
    Calls Tryd.prog 96 #[.slice (some ⟨g, 0, none⟩) n c] w fun e w' => ∃ A c', e = .returned (.slice A (encB ps).length c') ∧ Bs w' w.heap.size w'.heap.size A (encB ps) ∧ (encB ps).length ≤ c' ∧ c' ≤ 9223372036854775807 ∧ Below w.heap.size w w' := by
  subst hn
  have hgl : g < w.heap.size := by
    rcases Nat.lt_or_ge g w.heap.size with h | h
    · exact h
    · rw [Array.getElem?_eq_none h] at hg; cases hg
  have hlen := flatC_len ps
  have hm2 : (2 * ps.length : Nat) ≤ 2000 := by omega
  obtain ⟨n2, hn2⟩ : ∃ n2, n2 = 2 * ps.length := ⟨_, rfl⟩
  rw [← hn2]
  have HN := Lib.hid hn2
  have hn3 : n2 ≤ 2000 := by omega
  clear hn2 hm2
  go_enter Tryd.func96, Tryd.ntmps96
  go_wp2
  go_loopw [3, 4] (fun v i wr => ∃ k j : Nat, k ≤ ps.length ∧ Hid (j = 2 * k) ∧ i = .int .i64 j ∧ ∃ A c' L, v = .slice A (List.length L) c' ∧ Hid (L = encB (ps.take k)) ∧ L.length ≤ c' ∧ c' ≤ 9223372036854775807 ∧ Bs wr w.heap.size wr.heap.size A L ∧ Below w.heap.size w wr) (fun _ i _ => 2 * ps.length - (intOf i).toNat)
  case atStart => exact ⟨0, 0, by omega, rfl, rfl, none, 0, [], rfl, rfl, by simp, by omega, Bs.nil, Below.refl _ _⟩
  case round =>
    obtain ⟨k, j, hk, HJ, rfl, A, c', L, rfl, HL, hLc, hcm, hB, hb⟩ := hrel
    have hsz := hb.size
    by_cases hlt : k < ps.length
    · have hL8 : L.length ≤ 8 * k := by
        rw [HL.out]
        have := encB_len (ps.take k) (hf.take k)
        rw [List.length_take] at this; omega
      have hgr := (hb.block g hgl).trans hg
      have hat := flatC_at ps k hlt
      have hfit := hf _ (List.getElem_mem hlt)
      have hT : encB (ps.take (k + 1)) = L ++ bytesB (ps[k]'hlt).2 (ps[k]'hlt).1 := by rw [encB_succ ps k hlt, HL.out]
      generalize (ps[k]'hlt).1 = N at hat hfit hT
      generalize (ps[k]'hlt).2 = S at hat hfit hT
      have hj0 := HJ.out
      have hc0 : wr.cell? ⟨g, j, none⟩ = some (.int .u64 N) := by rw [cell_of_row _ _ _ _ _ _ hgr, hj0]; simpa using hat.1
      have hc1 : wr.cell? ⟨g, j + 1, none⟩ = some (.int .u64 S) := by rw [cell_of_row _ _ _ _ _ _ hgr, hj0]; simpa using hat.2
      have hjn : j + 1 < n2 := by have := HN.out; omega
      have hjI : ((j : Nat) : Int) + 1 < n2 := by omega
      have hi0 : (0 : Int) ≤ j := by omega
      have hi1 : (j : Int) < n2 := by omega
      have hi2 : (0 : Int) ≤ (j : Int) + 1 := by omega
      have hwj : IntKind.i64.wrap ((j : Int) + 1) = (j : Int) + 1 := by rw [IntKind.wrap_i64]; omega
      have hwS : IntKind.i64.wrap (S : Int) = (S : Int) := by rw [IntKind.wrap_i64]; omega
      have HT := Lib.hid hT
      have hE := append_ok A L.length c' w.heap.size wr.heap.size L N S wr.drew rfl (hB.drew) (Nat.le_refl _) (by omega) ⟨hfit.1, hfit.2.1⟩ hfit.2.2.1 hfit.2.2.2.1 hfit.2.2.2.2
      clear hT hat hgr hj0 hg
      go_wp2_with fail
      go_region_held3 (fun w' => w'.cell? ⟨g, j, none⟩ = some (.int .u64 N) ∧ w'.cell? ⟨g, j + 1, none⟩ = some (.int .u64 S) ∧ Below w.heap.size w w') (refine ⟨?_, ?_, ?_⟩ <;> first | assumption | exact Below.drew (by assumption) | exact drew_cell (by assumption)) (first
        | (go_at_call 45; ((with_reducible refine hE.mono ?_); rintro e w5 ⟨rfl, hO5, z5, hb5⟩; (have b5 : Below w.heap.size w w5 := (Below.drew hb).trans (hb5.mono hsz)); (have q0 := kept_cell hb5 (drew_cell hc0) (by show g < _; exact Nat.lt_of_lt_of_le hgl hsz)); (have q1 := kept_cell hb5 (drew_cell hc1) (by show g < _; exact Nat.lt_of_lt_of_le hgl hsz)))))
      have hO5' : Ow w5 wr.heap.size (some ⟨wr.heap.size, 0, none⟩) (L.length + S) (L ++ bytesB S N) := hO5
      have hlenT : (encB (ps.take (k + 1))).length = L.length + S := by rw [HT.out, List.length_append, bytesB_length]
      rw [← HT.out] at hO5'
      have z5' : wr.heap.size < w5.heap.size := by have : w5.heap.size = wr.heap.size + 1 := z5; omega
      clear hO5 hE hc0 hc1 q0 q1
      go_wp2
      exact ⟨⟨k + 1, j + 2, by omega, (show j + 2 = 2 * (k + 1) by have := HJ.out; omega), by go_num, _, _, encB (ps.take (k + 1)), by rw [hlenT], rfl, by rw [hlenT]; exact Nat.le_refl _, by omega, hO5'.bs.wide (by omega) (Nat.le_refl _), b5⟩, by have := HJ.out; simp [intOf]; omega⟩
    · obtain rfl : k = ps.length := by omega
      rw [List.take_length] at HL
      obtain rfl : j = n2 := by have := HJ.out; have := HN.out; omega
      have hjn : ¬ ((j : Int) + 1 < j) := by omega
      have hjb : (j : Int) ≤ 2000 := by omega
      have hL' : L = encB ps := HL.out
      subst hL'
      clear hg
      go_wp2
      go_ret
      exact ⟨A, c', rfl, hB, hLc, hcm, hb⟩
set_option maxHeartbeats 2000000 in
theorem rput_any (A : Option Addr) (nl c lo : Nat) (l : List Int) (n : Int) (s : Nat) (w : World) (hnl : l.length = nl) (h : Ow w lo A c l) (hlo : lo ≤ w.heap.size) (hm : nl ≤ 1000) (hn : 0 ≤ n ∧ n < 18446744073709551616) (hs1 : 1 ≤ s) (hs2 : s ≤ 8) :
    Calls Tryd.prog 99 #[.slice A nl c, .int .u64 n, .int .i64 s] w fun e w' => ∃ A' c', e = .returned (.slice A' (nl + s) c') ∧ Ow w' lo A' c' (l ++ bytesB s n) ∧ Below lo w w' := by
  subst hnl
  have hn1 := hn.1
  have hn2 := hn.2
  have hi1 : (1 : Int) ≤ s := by omega
  have hi2 : (s : Int) ≤ 8 := by omega
  have hO2 : Ow w lo A c (l ++ (bytesB s n).take 0) := by simpa using h
  have hb2 : Below lo w w := Below.refl _ _
  go_enter Tryd.func99, Tryd.ntmps99
  go_wp2
  go_loopw [0, 7] (fun v i wr => ∃ k : Nat, k ≤ s ∧ ∃ A' c', v = .slice A' (l.length + k) c' ∧ i = .int .i64 ((s : Int) - 1 - k) ∧ Ow wr lo A' c' (l ++ (bytesB s n).take k) ∧ Below lo w wr) (fun v i _ => (intOf i + 1).toNat)
  case atStart => exact ⟨0, by omega, _, _, by simp, by simp, hO2, hb2⟩
  case round =>
    obtain ⟨k, hk, A', c', rfl, rfl, hR, hbr⟩ := hrel
    clear hO2 hb2
    by_cases hlt : k < s
    · have hlen : (l ++ (bytesB s n).take k).length = l.length + k := by simp [bytesB_length]; omega
      have hv := bytesB_at s n k hlt
      rw [← pow256] at hv
      have hx := (bytesB_byt s n).at k
      have hO3 := hR.alloc (.cells #[.int .u8 (n / 2 ^ (8 * (s - 1 - k)) % 256)] 5)
      have hL := Ow.lit wr [atB (bytesB s n) k] #[.int .u8 (n / 2 ^ (8 * (s - 1 - k)) % 256)] (by simp [hv]) (Byt.nil.cons hx.1 hx.2) (by simp)
      have hsz := hbr.size
      have hT : l ++ (bytesB s n).take (k + 1) = (l ++ (bytesB s n).take k) ++ [atB (bytesB s n) k] := by rw [take_succ' _ k (by rw [bytesB_length]; exact hlt), List.append_assoc]
      go_wp2_with (at_builtin; refine wpList_append_bs rfl (.tmp 14) (.tmp 20) rfl (l.length + k) c' 1 1 (by rfl) (by rfl) hlen rfl hO3 hL.bs (by omega) (by simp; omega) ?_; intro A2 c2 w2 hO4 hb4 _)
      rw [← hT] at hO4
      exact ⟨⟨k + 1, by omega, A2, c2, rfl, by go_num, hO4, (hbr.alloc (by omega) _).trans hb4⟩, by simp [intOf]; omega⟩
    · obtain rfl : k = s := by omega
      rw [List.take_of_length_le (by rw [bytesB_length]; omega)] at hR
      go_wp2
      go_ret
      exact ⟨A', c', rfl, hR, hbr⟩
theorem i64_or2 (l v m : Int) (hl : 0 ≤ l ∧ l ≤ 3) (hv : 1 ≤ v ∧ v ≤ 4) (hm : 0 ≤ m ∧ m ≤ 7) : bits .or .i64 (bits .or .i64 (l * 64) (v * 8)) m = l * 64 + v * 8 + m := by
  have hl' : l = 0 ∨ l = 1 ∨ l = 2 ∨ l = 3 := by omega
  have hv' : v = 1 ∨ v = 2 ∨ v = 3 ∨ v = 4 := by omega
  have hm' : m = 0 ∨ m = 1 ∨ m = 2 ∨ m = 3 ∨ m = 4 ∨ m = 5 ∨ m = 6 ∨ m = 7 := by omega
  rcases hl' with rfl | rfl | rfl | rfl <;> rcases hv' with rfl | rfl | rfl | rfl <;> rcases hm' with rfl | rfl | rfl | rfl | rfl | rfl | rfl | rfl <;> decide
/-- the fields of a header as numbers and sizes -/
def ntpPairs (l v m st po pr rd rp id ref org rec xmt : Int) : List (Int × Nat) :=
  [(l * 64 + v * 8 + m, 1), (st, 1), (po % 256, 1), (pr % 256, 1), (rd, 4), (rp, 4), (id, 4), (ref, 8), (org, 8), (rec, 8), (xmt, 8)]
def encH (l v m st po pr rd rp id ref org rec xmt : Int) : List Int := encB (ntpPairs l v m st po pr rd rp id ref org rec xmt)
theorem encH_len (l v m st po pr rd rp id ref org rec xmt : Int) : (encH l v m st po pr rd rp id ref org rec xmt).length = 48 := by simp [encH, ntpPairs, encB, bytesB_length]
theorem nchk_ok {l v m st po pr : Int} (h : nchk l v m st po pr = 0) : (0 ≤ l ∧ l ≤ 3) ∧ (1 ≤ v ∧ v ≤ 4) ∧ (0 ≤ m ∧ m ≤ 7) ∧ (0 ≤ st ∧ st ≤ 255) ∧ (-128 ≤ po ∧ po ≤ 127) ∧ (-128 ≤ pr ∧ pr ≤ 127) := by
  unfold nchk at h; split at h <;> omega
theorem kept13 {w w1 : World} {t : TypeId} {cs : Array Value} (hb : Below (w.alloc (.cells cs t)).heap.size (w.alloc (.cells cs t)) w1) : w1.heap[w.heap.size]? = some (.cells cs t (0, 0)) :=
  (hb.block _ (by simp)).trans (heap_alloc_new w _)
theorem cells13 {w : World} {g : Nat} {t : TypeId} {a0 a1 a2 a3 a4 a5 a6 a7 a8 a9 a10 a11 a12 : Value} (h : w.heap[g]? = some (.cells #[a0, a1, a2, a3, a4, a5, a6, a7, a8, a9, a10, a11, a12] t (0, 0))) :
    w.cell? ⟨g, 0, none⟩ = some a0 ∧ w.cell? ⟨g, 1, none⟩ = some a1 ∧ w.cell? ⟨g, 2, none⟩ = some a2 ∧ w.cell? ⟨g, 3, none⟩ = some a3 ∧ w.cell? ⟨g, 4, none⟩ = some a4 ∧ w.cell? ⟨g, 5, none⟩ = some a5 ∧ w.cell? ⟨g, 6, none⟩ = some a6 ∧ w.cell? ⟨g, 7, none⟩ = some a7 ∧ w.cell? ⟨g, 8, none⟩ = some a8 ∧ w.cell? ⟨g, 9, none⟩ = some a9 ∧ w.cell? ⟨g, 10, none⟩ = some a10 ∧ w.cell? ⟨g, 11, none⟩ = some a11 ∧ w.cell? ⟨g, 12, none⟩ = some a12 :=
  ⟨cell_of_row _ _ 0 _ _ _ h, cell_of_row _ _ 1 _ _ _ h, cell_of_row _ _ 2 _ _ _ h, cell_of_row _ _ 3 _ _ _ h, cell_of_row _ _ 4 _ _ _ h, cell_of_row _ _ 5 _ _ _ h, cell_of_row _ _ 6 _ _ _ h, cell_of_row _ _ 7 _ _ _ h, cell_of_row _ _ 8 _ _ _ h, cell_of_row _ _ 9 _ _ _ h, cell_of_row _ _ 10 _ _ _ h, cell_of_row _ _ 11 _ _ _ h, cell_of_row _ _ 12 _ _ _ h⟩
end Go.Proofs.YtachhbbofemfdaaDoor
