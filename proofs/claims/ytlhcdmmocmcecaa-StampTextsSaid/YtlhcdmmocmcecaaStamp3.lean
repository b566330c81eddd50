/- What stamp.Short, Long, and their references compute; the index of a hexadecimal digit; the text of a timestamp. -/
import Derived.Test.YtlhcdmmocmcecaaStamp2
import Derived.Test.YtlhcdmmocmcecaaMem
import Derived.Lib.Strings
import Derived.Lib.Slices
import Derived.Lib.Walk
import Derived.Lib.Bytealg
import Derived.Laws.IdiomStrings
namespace Go.Proofs.Ytlhcdmmocmcecaa
open Go.RowKit
set_option linter.unusedSimpArgs false
set_option linter.unusedVariables false
def longN (s : Int) : Int := (s * 1000000000 + 65535) / 65536
set_option maxHeartbeats 400000 in
theorem long_any (s : Int) (w : World) (h1 : 0 ≤ s) (h2 : s ≤ 4294967295) :
    Calls Try.prog 29 #[.int .u32 s] w fun e w' => e = .returned (.int .i64 (longN s)) ∧ w = w' := by
  go_enter Try.func29, Try.ntmps29
  go_wp2
  go_ret
  exact ⟨ret_int (by unfold longN; omega), rfl⟩
set_option maxHeartbeats 400000 in
theorem rlong_any (s : Int) (w : World) (h1 : 0 ≤ s) (h2 : s ≤ 4294967295) :
    Calls Try.prog 30 #[.int .u32 s] w fun e w' => e = .returned (.int .i64 (longN s)) ∧ w = w' := by
  go_enter Try.func30, Try.ntmps30
  go_wp2
  go_ret
  exact ⟨ret_int (by first | (unfold longN; omega) | (rw [tdiv_pos (by omega)]; unfold longN; omega)), rfl⟩
def shortN (ns : Int) : Int := ns / 1000000000 * 65536 + (ns % 1000000000 * 65536 + 999999999) / 1000000000
def shortErr (ns : Int) : Int := if ns < 0 ∨ 4294967295 < shortN ns then 3 else 0
set_option maxHeartbeats 400000 in
theorem short_any (ns : Int) (w : World) (h1 : -9223372036854775808 ≤ ns) (h2 : ns ≤ 9223372036854775807) :
    Calls Try.prog 27 #[.int .i64 ns] w fun e w' => e = .returned (.tuple #[.int .u32 (z0 (shortErr ns) (shortN ns)), .int .i64 (shortErr ns)]) ∧ w = w' := by
  rcases (by omega : ns < 0 ∨ 0 ≤ ns) with h | h
  · have HE : Hid (shortErr ns = 3) := by show shortErr ns = 3; simp [shortErr, h]
    have HZ : Hid (z0 (shortErr ns) (shortN ns) = 0) := by show z0 _ _ = 0; rw [HE.out]; rfl
    go_enter Try.func27, Try.ntmps27
    go_wp2
    go_ret2
    exact ⟨tup2 (vint HZ.out.symm) (vint HE.out.symm), rfl⟩
  · have HN : Hid (shortN ns = ns / 1000000000 * 65536 + (ns % 1000000000 * 65536 + 999999999) / 1000000000) := rfl
    have HE : Hid (shortErr ns = if ns < 0 ∨ 4294967295 < shortN ns then 3 else 0) := rfl
    go_enter Try.func27, Try.ntmps27
    go_wp2
    all_goals
      go_ret2
      refine ⟨tup2 (vint ?_) (vint ?_), rfl⟩
      · unfold z0; rw [HE.out, HN.out]; split <;> simp_all <;> omega
      · rw [HE.out, HN.out]; split <;> omega
set_option maxHeartbeats 400000 in
theorem rshort_any (ns : Int) (w : World) (h1 : -9223372036854775808 ≤ ns) (h2 : ns ≤ 9223372036854775807) :
    Calls Try.prog 28 #[.int .i64 ns] w fun e w' => e = .returned (.tuple #[.int .u32 (z0 (shortErr ns) (shortN ns)), .int .i64 (shortErr ns)]) ∧ w = w' := by
  rcases (by omega : ns < 0 ∨ 0 ≤ ns) with h | h
  · have HE : Hid (shortErr ns = 3) := by show shortErr ns = 3; simp [shortErr, h]
    have HZ : Hid (z0 (shortErr ns) (shortN ns) = 0) := by show z0 _ _ = 0; rw [HE.out]; rfl
    go_enter Try.func28, Try.ntmps28
    go_wp2_with (first | (go_at_call 36; ((with_reducible refine (rsplit_any _ _ h1 h2).mono ?_); rintro e w1 ⟨rfl, rfl⟩)))
    go_ret2
    exact ⟨tup2 (vint HZ.out.symm) (vint HE.out.symm), rfl⟩
  · have HN : Hid (shortN ns = ns / 1000000000 * 65536 + (ns % 1000000000 * 65536 + 999999999) / 1000000000) := rfl
    have HE : Hid (shortErr ns = if ns < 0 ∨ 4294967295 < shortN ns then 3 else 0) := rfl
    have q1 : 0 ≤ spQ ns ∧ spQ ns ≤ 9223372037 := by unfold spQ; omega
    have q2 : 0 ≤ spR ns ∧ spR ns ≤ 999999999 := by unfold spR; omega
    have Q1 : Hid (spQ ns = ns / 1000000000) := rfl
    have Q2 : Hid (spR ns = ns % 1000000000) := rfl
    go_enter Try.func28, Try.ntmps28
    go_wp2_with (first | (go_at_call 36; ((with_reducible refine (rsplit_any _ _ h1 h2).mono ?_); rintro e w1 ⟨rfl, rfl⟩)))
    all_goals
      go_ret2
      have q3 := Q1.out
      have q4 := Q2.out
      refine ⟨tup2 (vint ?_) (vint ?_), rfl⟩
      · unfold z0; rw [HE.out, HN.out]; split <;> simp_all <;> omega
      · rw [HE.out, HN.out]; split <;> omega
/-- the hexadecimal digit that a byte is, or -1 -/
def hexV (c : Int) : Int := if 48 ≤ c ∧ c ≤ 57 then c - 48 else if 97 ≤ c ∧ c ≤ 102 then c - 87 else -1
abbrev digitsS : ByteArray := ⟨#[48, 49, 50, 51, 52, 53, 54, 55, 56, 57, 97, 98, 99, 100, 101, 102]⟩
theorem index_hex : ∀ n : Fin 256, Lib.indexByte digitsS.data.toList (n : Nat).toUInt8 = hexV (n : Nat) := by decide +kernel
theorem index_hexV (c : Int) (h0 : 0 ≤ c) (h1 : c ≤ 255) : Lib.indexByte digitsS.data.toList c.toNat.toUInt8 = hexV c := by
  have := index_hex ⟨c.toNat, by omega⟩
  simp only [] at this
  rw [this]; congr 1; omega
set_option maxHeartbeats 1000000 in
set_option maxRecDepth 100000 in
theorem slIndex_any (s : ByteArray) (c : Int) (w : World) :
    Calls Try.prog 48 #[.string s, .int .u8 c] w fun e w' => e = .returned (.int .i64 (Lib.indexByte s.data.toList c.toNat.toUInt8)) ∧ w = w' := by
  go_enter Try.func48, Try.ntmps48
  go_wp2
  rw [run_callFunc_extern Try.func49 (by kernel_rfl) (by kernel_rfl) (by kernel_rfl) (e := Extern.BytealgIndexByte.indexByte) (by kernel_rfl), Lib.run_indexByteString]
  simp only [Result.andThen]
  rw [Oper.upon_value]
  go_wp2
  go_ret
  exact ⟨rfl, rfl⟩
set_option maxHeartbeats 1000000 in
theorem strIndex_any (s : ByteArray) (c : Int) (w : World) :
    Calls Try.prog 42 #[.string s, .int .u8 c] w fun e w' => e = .returned (.int .i64 (Lib.indexByte s.data.toList c.toNat.toUInt8)) ∧ w = w' := by
  go_enter Try.func42, Try.ntmps42
  go_wp2_with (first | (go_at_call 48; ((with_reducible refine (slIndex_any _ _ _).mono ?_); rintro e w1 ⟨rfl, rfl⟩)))
  go_ret
  exact ⟨rfl, rfl⟩
/-- a string's byte as a number -/
def sb (s : ByteArray) (k : Nat) : Int := ((s.data.toList.getD k 0).toNat : Int)
theorem sb_rng (s : ByteArray) (k : Nat) : 0 ≤ sb s k ∧ sb s k ≤ 255 := by
  unfold sb; have := (s.data.toList.getD k 0).toNat_lt; omega
/-- the number read after k bytes, or none where a byte is no digit -/
def ps (s : ByteArray) : Nat → Option Int
  | 0 => some 0
  | k + 1 => (ps s k).bind fun n => if k = 8 then some n else if hexV (sb s k) < 0 then none else some ((n * 16 + hexV (sb s k)) % 18446744073709551616)
def psAll (s : ByteArray) : Option Int := if s.size = 17 ∧ sb s 8 = 46 then ps s 17 else none
def psV (s : ByteArray) : Int := (psAll s).getD 0
def psE (s : ByteArray) : Int := if (psAll s).isSome then 0 else 19
theorem hexV_rng (c : Int) : -1 ≤ hexV c ∧ hexV c ≤ 15 := by unfold hexV; split <;> (try split) <;> omega
theorem ps_rng (s : ByteArray) (k : Nat) : ∀ n, ps s k = some n → 0 ≤ n ∧ n < 18446744073709551616 := by
  induction k with
  | zero => intro n h; simp [ps] at h; omega
  | succ k ih =>
    intro n h
    simp only [ps, Option.bind_eq_some_iff] at h
    obtain ⟨m, hm, h⟩ := h
    have := ih m hm
    split at h
    · injection h with h; omega
    · split at h
      · cases h
      · injection h with h; omega
theorem ps_none (s : ByteArray) {k : Nat} (h : ps s k = none) : ∀ j, ps s (k + j) = none := by
  intro j
  induction j with
  | zero => exact h
  | succ j ih => rw [← Nat.add_assoc, ps, ih]; rfl
theorem sb_get (s : ByteArray) (k : Nat) (h : k < s.size) : ((s[k]'h).toNat : Int) = sb s k := by
  unfold sb
  congr 2
  have h2 : k < s.data.toList.length := by simpa using h
  rw [List.getD_eq_getElem?_getD, List.getElem?_eq_getElem h2]
  rfl
theorem ps_eight (s : ByteArray) {n : Int} (h : ps s 8 = some n) : ps s 9 = some n := by rw [ps, h]; rfl
theorem ps_bad (s : ByteArray) {n : Int} {k : Nat} (h : ps s k = some n) (h8 : k ≠ 8) (hx : hexV (sb s k) < 0) (hk : k < 17) : ps s 17 = none := by
  have : ps s (k + 1) = none := by rw [ps, h]; simp [h8, hx]
  have := ps_none s this (16 - k)
  rwa [show k + 1 + (16 - k) = 17 by omega] at this
theorem ps_good (s : ByteArray) {n : Int} {k : Nat} (h : ps s k = some n) (h8 : k ≠ 8) (hx : ¬ hexV (sb s k) < 0) : ps s (k + 1) = some ((n * 16 + hexV (sb s k)) % 18446744073709551616) := by
  rw [ps, h]; simp [h8, hx]
theorem psV_none {s : ByteArray} (h : psAll s = none) : psV s = 0 ∧ psE s = 19 := by unfold psV psE; rw [h]; exact ⟨rfl, rfl⟩
theorem psV_some {s : ByteArray} {n : Int} (h : psAll s = some n) : psV s = n ∧ psE s = 0 := by unfold psV psE; rw [h]; exact ⟨rfl, rfl⟩
theorem shl4_or (n x : Int) (h0 : 0 ≤ n) (hx : 0 ≤ x ∧ x ≤ 15) : bits .or .u64 (IntKind.u64.wrap (n * 16)) x = (n * 16 + x) % 18446744073709551616 := by
  rw [IntKind.wrap_u64, or_u64_4 _ _ (by omega) (by omega) (by omega) hx.1 (by omega)]
  omega
set_option maxHeartbeats 2000000 in
theorem parse_any (s : ByteArray) (w : World) (hs : s.size ≤ 9223372036854775807) :
    Calls Try.prog 31 #[.string s] w fun e w' => e = .returned (.tuple #[.int .u64 (psV s), .int .i64 (psE s)]) ∧ w = w' := by
  by_cases h17 : s.size = 17
  · have e8 := sb_get s 8 (by omega)
    by_cases h8 : sb s 8 = 46
    · have hA : psAll s = ps s 17 := if_pos ⟨h17, h8⟩
      have b8 : (sb s 8 != 46) = false := by simp [h8]
      have H8 := Lib.hid h8
      clear h8
      have HA : Hid (psAll s = ps s 17) := hA
      clear hA
      go_enter Try.func31, Try.ntmps31
      go_wp2
      go_loop [4, 17] (fun n i => ∃ k : Nat, k ≤ 17 ∧ i = .int .i64 k ∧ ∃ m, n = .int .u64 m ∧ ps s k = some m) (fun _ i => 17 - (intOf i).toNat)
      case atStart => exact ⟨0, by omega, rfl, 0, rfl, rfl⟩
      case round =>
        obtain ⟨k, hk, rfl, m, rfl, hm⟩ := hrel
        have HM := Lib.hid hm
        have hr := ps_rng s k m hm
        clear hm
        by_cases hlt : k < 17
        · by_cases hk8 : k = 8
          · subst hk8
            go_wp2
            exact ⟨⟨9, by omega, by go_num, m, rfl, ps_eight s HM.out⟩, by simp [intOf]⟩
          · have hk8' : ((k : Int) == 8) = false := by simp; omega
            have ek := sb_get s k (by omega)
            have hrk := sb_rng s k
            have hi := index_hexV (sb s k) hrk.1 hrk.2
            have hx := hexV_rng (sb s k)
            have hc := strIndex_any digitsS (sb s k) w
            rw [hi] at hc
            clear hi
            by_cases hbad : hexV (sb s k) < 0
            · have HP : Hid (psAll s = none) := by show psAll s = none; rw [HA.out]; exact ps_bad s HM.out hk8 hbad hlt
              go_wp2_with (first | (go_at_call 42; ((with_reducible refine hc.mono ?_); rintro e w1 ⟨rfl, rfl⟩)))
              go_ret2
              exact ⟨tup2 (vint (psV_none HP.out).1.symm) (vint (psV_none HP.out).2.symm), rfl⟩
            · have hP := ps_good s HM.out hk8 hbad
              have ho := shl4_or m (hexV (sb s k)) hr.1 (by omega)
              have hw : IntKind.u64.wrap (hexV (sb s k)) = hexV (sb s k) := by rw [IntKind.wrap_u64]; omega
              have HP := Lib.hid hP
              clear hP
              go_wp2_with (first | (go_at_call 42; ((with_reducible refine hc.mono ?_); rintro e w1 ⟨rfl, rfl⟩)))
              exact ⟨⟨k + 1, by omega, by go_num, _, rfl, HP.out⟩, by simp [intOf]; omega⟩
        · obtain rfl : k = 17 := by omega
          have HP : Hid (psAll s = some m) := by show psAll s = _; rw [HA.out]; exact HM.out
          go_wp2
          go_ret2
          exact ⟨tup2 (vint (psV_some HP.out).1.symm) (vint (psV_some HP.out).2.symm), rfl⟩
    · have hA : psAll s = none := if_neg (fun h => h8 h.2)
      have HV := Lib.hid (psV_none hA)
      have b8 : (sb s 8 != 46) = true := by simp [h8]
      clear hA h8
      go_enter Try.func31, Try.ntmps31
      go_wp2
      go_ret2
      exact ⟨tup2 (vint HV.out.1.symm) (vint HV.out.2.symm), rfl⟩
  · have hne : ((s.size : Int) != 17) = true := by simp; omega
    have hA : psAll s = none := if_neg (fun h => h17 h.1)
    have HV := Lib.hid (psV_none hA)
    clear hA
    go_enter Try.func31, Try.ntmps31
    go_wp2
    go_ret2
    exact ⟨tup2 (vint HV.out.1.symm) (vint HV.out.2.symm), rfl⟩
set_option maxHeartbeats 4000000 in
theorem rparse_any (s : ByteArray) (w : World) (hs : s.size ≤ 9223372036854775807) :
    Calls Try.prog 32 #[.string s] w fun e w' => e = .returned (.tuple #[.int .u64 (psV s), .int .i64 (psE s)]) ∧ w = w' := by
  by_cases h17 : s.size = 17
  · have e8 := sb_get s 8 (by omega)
    by_cases h8 : sb s 8 = 46
    · have hA : psAll s = ps s 17 := if_pos ⟨h17, h8⟩
      have b8 : (sb s 8 != 46) = false := by simp [h8]
      have H8 := Lib.hid h8
      clear h8
      have HA : Hid (psAll s = ps s 17) := hA
      clear hA
      go_enter Try.func32, Try.ntmps32
      go_wp2
      go_loop [4, 5] (fun n i => ∃ k : Nat, k ≤ 17 ∧ i = .int .i64 k ∧ ∃ m, n = .int .u64 m ∧ ps s k = some m) (fun _ i => 17 - (intOf i).toNat)
      case atStart => exact ⟨0, by omega, rfl, 0, rfl, rfl⟩
      case round =>
        obtain ⟨k, hk, rfl, m, rfl, hm⟩ := hrel
        have HM := Lib.hid hm
        have hr := ps_rng s k m hm
        clear hm
        by_cases hlt : k < 17
        · have ek := sb_get s k (by omega)
          have hrk := sb_rng s k
          have hrk1 := hrk.1
          have hrk2 := hrk.2
          by_cases hk8 : k = 8
          · subst hk8
            go_wp2
            exact ⟨⟨9, by omega, by go_num, m, rfl, ps_eight s HM.out⟩, by simp [intOf]⟩
          · have hk8' : ((k : Int) == 8) = false := by simp; omega
            rcases (show (48 ≤ sb s k ∧ sb s k ≤ 57) ∨ (97 ≤ sb s k ∧ sb s k ≤ 102) ∨ sb s k < 48 ∨ (57 < sb s k ∧ sb s k < 97) ∨ 102 < sb s k by omega) with ⟨c1, c2⟩ | ⟨c1, c2⟩ | c1 | ⟨c1, c2⟩ | c1
            · have hx : hexV (sb s k) = sb s k - 48 := by unfold hexV; rw [if_pos ⟨c1, c2⟩]
              have hP := ps_good s HM.out hk8 (by omega)
              have HP := Lib.hid hP
              have HX := Lib.hid hx
              clear hP hx
              go_wp2
              exact ⟨⟨k + 1, by omega, by go_num, _, rfl, by rw [HP.out, HX.out, IntKind.wrap_u64, IntKind.wrap_u64]; congr 1; omega⟩, by simp [intOf]; omega⟩
            · have hx : hexV (sb s k) = sb s k - 87 := by unfold hexV; rw [if_neg (by omega), if_pos ⟨c1, c2⟩]
              have hP := ps_good s HM.out hk8 (by omega)
              have HP := Lib.hid hP
              have HX := Lib.hid hx
              clear hP hx
              go_wp2
              exact ⟨⟨k + 1, by omega, by go_num, _, rfl, by rw [HP.out, HX.out, IntKind.wrap_u64, IntKind.wrap_u64, IntKind.wrap_u64]; congr 1; omega⟩, by simp [intOf]; omega⟩
            all_goals
              have hx : hexV (sb s k) = -1 := by unfold hexV; rw [if_neg (by omega), if_neg (by omega)]
              have HP : Hid (psAll s = none) := by show psAll s = none; rw [HA.out]; exact ps_bad s HM.out hk8 (by omega) hlt
              clear hx
              go_wp2
              go_ret2
              exact ⟨tup2 (vint (psV_none HP.out).1.symm) (vint (psV_none HP.out).2.symm), rfl⟩
        · obtain rfl : k = 17 := by omega
          have HP : Hid (psAll s = some m) := by show psAll s = _; rw [HA.out]; exact HM.out
          go_wp2
          go_ret2
          exact ⟨tup2 (vint (psV_some HP.out).1.symm) (vint (psV_some HP.out).2.symm), rfl⟩
    · have hA : psAll s = none := if_neg (fun h => h8 h.2)
      have HV := Lib.hid (psV_none hA)
      have b8 : (sb s 8 != 46) = true := by simp [h8]
      clear hA h8
      go_enter Try.func32, Try.ntmps32
      go_wp2
      go_ret2
      exact ⟨tup2 (vint HV.out.1.symm) (vint HV.out.2.symm), rfl⟩
  · have hne : ((s.size : Int) != 17) = true := by simp; omega
    have hA : psAll s = none := if_neg (fun h => h17 h.1)
    have HV := Lib.hid (psV_none hA)
    clear hA
    go_enter Try.func32, Try.ntmps32
    go_wp2
    go_ret2
    exact ⟨tup2 (vint HV.out.1.symm) (vint HV.out.2.symm), rfl⟩
end Go.Proofs.Ytlhcdmmocmcecaa
