/- The text of a timestamp, by stamp and by its reference. -/
import Derived.Test.YtlhcdmmocmcecaaStamp3
namespace Go.Proofs.Ytlhcdmmocmcecaa
open Go.RowKit
set_option linter.unusedSimpArgs false
set_option linter.unusedVariables false
/-- the string of bytes -/
def strOf (l : List Int) : ByteArray := ⟨(l.map fun n => UInt8.ofNat n.toNat).toArray⟩
theorem strOf_conv {w : World} {lo hi c n : Nat} {A : Option Addr} {l : List Int} (hn : l.length = n) (h : Bs w lo hi A l) (hA : 0 < n) :
    (convert 51 9 (.slice A n c)).run Try.prog w = .ok (.string (strOf l)) w := by
  subst hn
  obtain ⟨b, o, rfl, _, _, hc⟩ := h.at hA
  have hr := run_convert_bytes_back (P := Try.prog) w 51 9 5 ⟨b, o, none⟩ c (l.map fun n => UInt8.ofNat n.toNat) Try.underlying51 Try.underlying5 Try.underlying9 (fun j hj => by
    rw [List.length_map] at hj
    rw [ofAdd, hc j hj]
    have hb := h.byt.at j
    have e : atB l j = l[j] := by simp [atB, List.getD_eq_getElem?_getD, List.getElem?_eq_getElem hj]
    rw [e] at hb ⊢
    simp only [List.getElem_map]
    congr 2
    simp only [UInt8.toNat_ofNat']
    omega)
  rw [List.length_map] at hr
  exact hr
/-- the byte of a hexadecimal digit -/
def hexC (x : Int) : Int := if x < 10 then 48 + x else 87 + x
/-- the text of s after k digits -/
def tx (s : Int) : Nat → List Int
  | 0 => []
  | k + 1 => (if k = 8 then tx s k ++ [46] else tx s k) ++ [hexC (s / 2 ^ (60 - 4 * k) % 16)]
theorem hexC_rng {x : Int} (h0 : 0 ≤ x) (h1 : x < 16) : 0 ≤ hexC x ∧ hexC x ≤ 255 := by unfold hexC; split <;> omega
theorem tx_len (s : Int) (k : Nat) : (tx s k).length = if k ≤ 8 then k else k + 1 := by
  induction k with
  | zero => rfl
  | succ k ih =>
    rw [tx]
    by_cases h : k = 8
    · subst h; rw [if_pos rfl, List.length_append, List.length_append, ih]; rfl
    · rw [if_neg h, List.length_append, ih]; simp only [List.length_cons, List.length_nil]; split <;> split <;> omega
theorem tx_byt (s : Int) (k : Nat) : Byt (tx s k) := by
  induction k with
  | zero => exact Byt.nil
  | succ k ih =>
    rw [tx]
    have hx := hexC_rng (x := s / 2 ^ (60 - 4 * k) % 16) (by omega) (by omega)
    have h1 : Byt [hexC (s / 2 ^ (60 - 4 * k) % 16)] := Byt.nil.cons hx.1 hx.2
    split
    · exact (ih.app (by decide)).app h1
    · exact ih.app h1
theorem digit_at : ∀ n : Fin 16, ((digitsS.data.toList.getD n 0).toNat : Int) = hexC (n : Nat) := by decide +kernel
theorem digit_get (x : Int) (h0 : 0 ≤ x) (h1 : x < 16) (h : x.toNat < digitsS.size) : ((digitsS[x.toNat]'h).toNat : Int) = hexC x := by
  have := digit_at ⟨x.toNat, by omega⟩
  rw [sb_get digitsS x.toNat h]
  unfold sb
  simp only [] at this
  rw [this]; congr 1; omega
set_option maxHeartbeats 4000000 in
theorem text_any (s : Int) (w : World) (h0 : 0 ≤ s) (h1 : s < 18446744073709551616) :
    Calls Try.prog 33 #[.int .u64 s] w fun e w' => e = .returned (.string (strOf (tx s 16))) ∧ Below w.heap.size w w' := by
  have hmk : ∀ W : World, (Instr.makeSlice 51 (.int .i64 0) (.int .i64 17)).run Try.prog W = .ok (.slice (some ⟨W.heap.size, 0, none⟩) 0 17) (W.alloc (.cells (madeCells #[.int .u8 0] 17) 5)) := fun W => by
    obtain ⟨i, hi, hz, h1, h2⟩ := info_parts infoU8
    have := run_make (P := Try.prog) W 51 5 i (.int .u8 0) Try.underlying51 hi hz .i64 .i64 0 17 (by omega) (by omega) (by rw [h2]; omega) (by omega)
    rw [h1] at this
    exact this
  have hO1 : Ow (w.alloc (.cells (madeCells #[.int .u8 0] 17) 5)) w.heap.size (some ⟨w.heap.size, 0, none⟩) 17 [] :=
    ⟨Byt.nil, World.ownsRow_made (base := w.heap.size) (e := 5) (size := 1) w (madeCells #[.int .u8 0] 17) 17 (Nat.le_refl _) (by unfold maxLen; omega) (by simp [madeCells])⟩
  have hb1 : Below w.heap.size w (w.alloc (.cells (madeCells #[.int .u8 0] 17) 5)) := (Below.refl _ w).alloc (Nat.le_refl _) _
  go_enter Try.func33, Try.ntmps33
  go_wp2
  clear hmk
  go_loopw [3, 6] (fun v i wr => ∃ k : Nat, k ≤ 16 ∧ i = .int .i64 k ∧ ∃ A c L, v = .slice A (List.length L) c ∧ Hid (L = tx s k) ∧ L.length ≤ 17 ∧ Ow wr w.heap.size A c L ∧ Below w.heap.size w wr) (fun _ i _ => 16 - (intOf i).toNat)
  case atStart => exact ⟨0, by omega, rfl, _, _, [], rfl, rfl, by simp, hO1, hb1⟩
  case round =>
    obtain ⟨k, hk, rfl, A, c, L, rfl, HL, hl17, hO, hb⟩ := hrel
    clear hO1 hb1
    have hsz := hb.size
    by_cases hlt : k < 16
    · have hk' : (k : Int) < 16 := by omega
      have hm := u64_mask4 (s / 2 ^ (60 - 4 * k)) (Int.ediv_nonneg h0 (by exact Int.le_of_lt (Int.pow_pos (by omega)))) (Int.lt_of_le_of_lt (Int.ediv_le_self _ h0) h1)
      have hx0 : 0 ≤ s / 2 ^ (60 - 4 * k) % 16 := by omega
      have hx1 : s / 2 ^ (60 - 4 * k) % 16 < 16 := by omega
      have hxr := hexC_rng hx0 hx1
      have hdg := digit_get (s / 2 ^ (60 - 4 * k) % 16) hx0 hx1 (by show _ < 16; omega)
      obtain ⟨x, hx⟩ : ∃ x, x = hexC (s / 2 ^ (60 - 4 * k) % 16) := ⟨_, rfl⟩
      rw [← hx] at hdg hxr
      by_cases hk8 : k = 8
      · have hT : tx s (k + 1) = (L ++ [46]) ++ [x] := by rw [HL.out, tx, if_pos hk8, hx]
        have hl8 : L.length = 8 := by rw [HL.out, tx_len, hk8]; rfl
        have HT := Lib.hid hT
        have H8 := Lib.hid hl8
        have HK := Lib.hid hk8
        have hk8' : ((k : Int) == 8) = true := by simp; omega
        clear hT hl8 hx hk8
        have hO3 := hO.alloc (.cells #[.int .u8 46] 5)
        have hL := Ow.lit wr [46] #[.int .u8 46] rfl (by decide) (by simp)
        go_wp2_with (first | (at_builtin; refine wpList_append_bs rfl (.tmp 11) (.tmp 12) rfl L.length c 1 1 (by rfl) (by rfl) rfl rfl hO3 hL.bs (by omega) (by simp; omega) ?_; intro A2 c2 w2 hO4 hb4 _; (have B4 := (hb.alloc hsz (.cells #[.int .u8 46] 5)).trans hb4); (have s4 := B4.size); clear hO3 hL hO hb; (have hO5 := hO4.alloc (.cells #[.int .u8 x] 5)); (have hL5 := Ow.lit w2 [x] #[.int .u8 x] rfl (Byt.nil.cons hxr.1 hxr.2) (by simp))) | (at_builtin; refine wpList_append_bs rfl (.tmp 14) (.tmp 22) rfl (L.length + 1) c2 1 1 (by rfl) (by rfl) (by simp) rfl hO5 hL5.bs (by omega) (by simp; omega) ?_; intro A6 c6 w6 hO6 hb6 _))
        rw [← HT.out] at hO6
        have e6 : (tx s (k + 1)).length = L.length + 1 + 1 := by rw [HT.out]; simp
        exact ⟨⟨k + 1, by omega, by go_num, A6, c6, _, by rw [e6], rfl, by rw [e6, H8.out]; decide, hO6, (B4.alloc s4 _).trans hb6⟩, by simp [intOf]; omega⟩
      · have hT : tx s (k + 1) = L ++ [x] := by rw [HL.out, tx, if_neg hk8, hx]
        have hl8 : L.length ≤ 16 := by rw [HL.out, tx_len]; split <;> omega
        have HT := Lib.hid hT
        clear hT hx
        have hk8' : ((k : Int) == 8) = false := by simp; omega
        have hO5 := hO.alloc (.cells #[.int .u8 x] 5)
        have hL5 := Ow.lit wr [x] #[.int .u8 x] rfl (Byt.nil.cons hxr.1 hxr.2) (by simp)
        go_wp2_with (first | (at_builtin; refine wpList_append_bs rfl (.tmp 14) (.tmp 22) rfl L.length c 1 1 (by rfl) (by rfl) rfl rfl hO5 hL5.bs (by omega) (by simp; omega) ?_; intro A6 c6 w6 hO6 hb6 _))
        rw [← HT.out] at hO6
        have e6 : (tx s (k + 1)).length = L.length + 1 := by rw [HT.out]; simp
        exact ⟨⟨k + 1, by omega, by go_num, A6, c6, _, by rw [e6], rfl, by rw [e6]; omega, hO6, (hb.alloc hsz _).trans hb6⟩, by simp [intOf]; omega⟩
    · obtain rfl : k = 16 := by omega
      have hl17' : L.length = 17 := by rw [HL.out, tx_len]; rfl
      have hcv := strOf_conv (c := c) hl17' hO.bs (by decide)
      rw [HL.out] at hcv
      clear hl17
      go_wp2
      go_ret
      exact ⟨rfl, hb⟩
set_option maxHeartbeats 400000 in
theorem digit_any (x : Int) (w : World) (h0 : 0 ≤ x) (h1 : x < 16) : Calls Try.prog 43 #[.int .i64 x] w fun e w' => e = .returned (.int .u8 (hexC x)) ∧ w = w' := by
  have HD : Hid (hexC x = if x < 10 then 48 + x else 87 + x) := rfl
  have w1 : IntKind.u8.wrap (48 + x) = (48 + x) % 256 := IntKind.wrap_u8 _
  go_enter Try.func43, Try.ntmps43
  go_wp2
  all_goals
    go_ret
    refine ⟨ret_int ?_, rfl⟩
    rw [HD.out]
    first | (split <;> omega) | (rw [IntKind.wrap_u8]; split <;> omega)
set_option maxHeartbeats 4000000 in
theorem rtext_any (s : Int) (w : World) (h0 : 0 ≤ s) (h1 : s < 18446744073709551616) :
    Calls Try.prog 34 #[.int .u64 s] w fun e w' => e = .returned (.string (strOf (tx s 16))) ∧ Below w.heap.size w w' := by
  go_enter Try.func34, Try.ntmps34
  go_wp2
  go_loopw [3, 4] (fun v i wr => ∃ k : Nat, k ≤ 16 ∧ i = .int .i64 k ∧ ∃ A c L, v = .slice A (List.length L) c ∧ Hid (L = tx s k) ∧ L.length ≤ 17 ∧ Ow wr w.heap.size A c L ∧ Below w.heap.size w wr) (fun _ i _ => 16 - (intOf i).toNat)
  case atStart => exact ⟨0, by omega, rfl, none, 0, [], rfl, rfl, by simp, Ow.nil _ _, Below.refl _ _⟩
  case round =>
    obtain ⟨k, hk, rfl, A, c, L, rfl, HL, hl17, hO, hb⟩ := hrel
    have hsz := hb.size
    by_cases hlt : k < 16
    · have hk' : (k : Int) < 16 := by omega
      have hm := u64_mask4 (s / 2 ^ (60 - 4 * k)) (Int.ediv_nonneg h0 (by exact Int.le_of_lt (Int.pow_pos (by omega)))) (Int.lt_of_le_of_lt (Int.ediv_le_self _ h0) h1)
      have hx0 : 0 ≤ s / 2 ^ (60 - 4 * k) % 16 := by omega
      have hx1 : s / 2 ^ (60 - 4 * k) % 16 < 16 := by omega
      have hxr := hexC_rng hx0 hx1
      have hdc := fun W => digit_any (s / 2 ^ (60 - 4 * k) % 16) W hx0 hx1
      obtain ⟨x, hx⟩ : ∃ x, x = hexC (s / 2 ^ (60 - 4 * k) % 16) := ⟨_, rfl⟩
      rw [← hx] at hdc hxr
      by_cases hk8 : k = 8
      · have hT : tx s (k + 1) = (L ++ [46]) ++ [x] := by rw [HL.out, tx, if_pos hk8, hx]
        have hl8 : L.length = 8 := by rw [HL.out, tx_len, hk8]; rfl
        have hk8' : ((k : Int) == 8) = true := by simp; omega
        have HT := Lib.hid hT
        have H8 := Lib.hid hl8
        have HK := Lib.hid hk8
        clear hT hl8 hx hk8
        have hO3 := hO.alloc (.cells #[.int .u8 46] 5)
        have hL := Ow.lit wr [46] #[.int .u8 46] rfl (by decide) (by simp)
        go_wp2_with (first | (go_at_call 43; ((with_reducible refine (hdc _).mono ?_); rintro e w1 ⟨rfl, rfl⟩)) | (at_builtin; refine wpList_append_bs rfl (.tmp 11) (.tmp 12) rfl L.length c 1 1 (by rfl) (by rfl) rfl rfl hO3 hL.bs (by omega) (by simp; omega) ?_; intro A2 c2 w2 hO4 hb4 _; (have B4 := (hb.alloc hsz (.cells #[.int .u8 46] 5)).trans hb4); (have s4 := B4.size); clear hO3 hL hO hb; (have hO5 := hO4.alloc (.cells #[.int .u8 x] 5)); (have hL5 := Ow.lit w2 [x] #[.int .u8 x] rfl (Byt.nil.cons hxr.1 hxr.2) (by simp))) | (at_builtin; refine wpList_append_bs rfl (.tmp 14) (.tmp 23) rfl (L.length + 1) c2 1 1 (by rfl) (by rfl) (by simp) rfl hO5 hL5.bs (by omega) (by simp; omega) ?_; intro A6 c6 w6 hO6 hb6 _))
        rw [← HT.out] at hO6
        have e6 : (tx s (k + 1)).length = L.length + 1 + 1 := by rw [HT.out]; simp
        exact ⟨⟨k + 1, by omega, by go_num, A6, c6, _, by rw [e6], rfl, by rw [e6, H8.out]; decide, hO6, (B4.alloc s4 _).trans hb6⟩, by simp [intOf]; omega⟩
      · have hT : tx s (k + 1) = L ++ [x] := by rw [HL.out, tx, if_neg hk8, hx]
        have hl8 : L.length ≤ 16 := by rw [HL.out, tx_len]; split <;> omega
        have HT := Lib.hid hT
        clear hT hx
        have hk8' : ((k : Int) == 8) = false := by simp; omega
        have hO5 := hO.alloc (.cells #[.int .u8 x] 5)
        have hL5 := Ow.lit wr [x] #[.int .u8 x] rfl (Byt.nil.cons hxr.1 hxr.2) (by simp)
        go_wp2_with (first | (go_at_call 43; ((with_reducible refine (hdc _).mono ?_); rintro e w1 ⟨rfl, rfl⟩)) | (at_builtin; refine wpList_append_bs rfl (.tmp 14) (.tmp 23) rfl L.length c 1 1 (by rfl) (by rfl) rfl rfl hO5 hL5.bs (by omega) (by simp; omega) ?_; intro A6 c6 w6 hO6 hb6 _))
        rw [← HT.out] at hO6
        have e6 : (tx s (k + 1)).length = L.length + 1 := by rw [HT.out]; simp
        exact ⟨⟨k + 1, by omega, by go_num, A6, c6, _, by rw [e6], rfl, by rw [e6]; omega, hO6, (hb.alloc hsz _).trans hb6⟩, by simp [intOf]; omega⟩
    · obtain rfl : k = 16 := by omega
      have hl17' : L.length = 17 := by rw [HL.out, tx_len]; rfl
      have hcv := strOf_conv (c := c) hl17' hO.bs (by decide)
      rw [HL.out] at hcv
      clear hl17
      go_wp2
      go_ret
      exact ⟨rfl, hb⟩
end Go.Proofs.Ytlhcdmmocmcecaa
