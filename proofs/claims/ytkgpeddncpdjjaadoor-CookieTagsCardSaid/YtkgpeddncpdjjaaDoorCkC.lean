/- The contracts of Tag and Derive, of the program and of the reference. -/
import Derived.Test.YtkgpeddncpdjjaaDoorCkB
import Derived.Test.YtkgpeddncpdjjaaDoorWireMem
namespace Go.Proofs.YtkgpeddncpdjjaaDoor
open Go.RowKit
set_option linter.unusedSimpArgs false
set_option linter.unusedVariables false
set_option maxRecDepth 100000
theorem zeroU64' : (Tryd.prog.info? 22).map (·.zero) = some (some (.int .u64 0)) := by kernel_rfl
theorem zeroI64' : (Tryd.prog.info? 3).map (·.zero) = some (some (.int .i64 0)) := by kernel_rfl
abbrev keyL (k0 k1 : Int) : List Value := [.int .u64 k0, .int .u64 k1]
abbrev keyV (k0 k1 : Int) : Value := .agg #[.int .u64 k0, .int .u64 k1]
theorem sizeKey : (Tryd.prog.info? 24).map (·.size) = some 2 := by kernel_rfl
theorem zeroKey : (Tryd.prog.info? 24).map (·.zero) = some (some (keyV 0 0)) := by kernel_rfl
/-- where the bytes have come to -/
theorem word_next {l : List Int} (q s : Nat) (h : 8 * q + s < l.length) : wordF ((l.drop (8 * q)).take s) + atB l (8 * q + s) * 256 ^ s = wordF ((l.drop (8 * q)).take (s + 1)) := by
  rw [word_take s (by rw [List.length_drop]; omega)]
  congr 2
  unfold atB
  rw [List.getD_eq_getElem?_getD, List.getD_eq_getElem?_getD, List.getElem?_drop]
theorem word_rng {l : List Int} (hb : Byt l) (q s : Nat) (hs : s ≤ 8) : 0 ≤ wordF ((l.drop (8 * q)).take s) ∧ wordF ((l.drop (8 * q)).take s) < 256 ^ s := by
  obtain ⟨h0, h1⟩ := wordF_rng ((hb.drop (8 * q)).take s)
  have hl : ((l.drop (8 * q)).take s).length ≤ s := List.length_take_le _ _
  obtain ⟨d, hd⟩ : ∃ d, s = ((l.drop (8 * q)).take s).length + d := ⟨s - ((l.drop (8 * q)).take s).length, by omega⟩
  refine ⟨h0, Int.lt_of_lt_of_le h1 ?_⟩
  generalize ((l.drop (8 * q)).take s).length = e at hd
  subst hd
  rw [Int.pow_add]
  have a : (0 : Int) < 256 ^ e := Int.pow_pos (by omega)
  have b : (0 : Int) < 256 ^ d := Int.pow_pos (by omega)
  have c : (256 : Int) ^ e * 1 ≤ 256 ^ e * 256 ^ d := Int.mul_le_mul_of_nonneg_left (by omega) (by omega)
  omega
theorem tag_even {k0 k1 : Int} {l : List Int} {q : Nat} (h : l.length = 8 * q) : tagF k0 k1 l = mixF (hsF (mixF k0 k1) l q) l.length := by
  unfold tagF
  rw [show (l.length + 7) / 8 = q by omega]
theorem tag_odd {k0 k1 : Int} {l : List Int} {q s : Nat} (h : l.length = 8 * q + s) (h0 : 0 < s) (h8 : s < 8) : tagF k0 k1 l = mixF (mixF (hsF (mixF k0 k1) l q) (wordF ((l.drop (8 * q)).take s))) l.length := by
  unfold tagF
  rw [show (l.length + 7) / 8 = q + 1 by omega]
  show mixF (mixF _ (wordF ((l.drop (8 * q)).take 8))) _ = _
  rw [List.take_of_length_le (by rw [List.length_drop]; omega), List.take_of_length_le (by rw [List.length_drop]; omega)]
theorem word_full {l : List Int} (q s : Nat) (hs : s ≤ 8) (h : s = 8 ∨ 8 * q + s = l.length) : wordF ((l.drop (8 * q)).take s) = wordF ((l.drop (8 * q)).take 8) := by
  rcases h with rfl | h
  · rfl
  · rw [List.take_of_length_le (by rw [List.length_drop]; omega), List.take_of_length_le (by rw [List.length_drop]; omega)]
set_option maxHeartbeats 8000000 in
theorem rtag_any (k0 k1 : Int) (A : Option Addr) (n c : Nat) (l : List Int) (w : World) (hk0 : U64 k0) (hk1 : U64 k1) (hn : l.length = n) (h : Bs w 0 w.heap.size A l) (hm : n ≤ 1000000) (hnc : n ≤ c) (hcc : c ≤ 9223372036854775807) :
    Calls Tryd.prog 41 #[keyV k0 k1, .slice A n c] w fun e w' => e = .returned (.int .u64 (tagF k0 k1 l)) ∧ Below w.heap.size w w' := by
  have hM := rmix_any k0 k1
  obtain ⟨H0, hH0⟩ : ∃ H0, H0 = mixF k0 k1 := ⟨_, rfl⟩
  have hu0 : U64 H0 := by rw [hH0]; exact mixF_u64 _ _
  have HH := Lib.hid hH0
  rw [← hH0] at hM
  clear hH0
  have Hn := Lib.hid hn
  have hby := h.byt
  clear hn
  go_enter Tryd.func41, Tryd.ntmps41
  go_wp2_with (first
    | ((refine wpl_box (by rfl) 24 _ (by rfl) _ (keyL k0 k1) (by rfl) rfl ?_; intro w1 J1 s1 b1))
    | (refine wpl_loadf (by rfl) 22 _ (by rfl) w.heap.size 0 (by rfl) _ _ J1 _ rfl _ Tryd.underlying22 rfl ?_)
    | (refine wpl_loadf (by rfl) 22 _ (by rfl) w.heap.size 1 (by rfl) _ _ J1 _ rfl _ Tryd.underlying22 rfl ?_)
    | (go_at_call 40; ((with_reducible refine (hM _ hk0 hk1).mono ?_); rintro e w' ⟨rfl, rfl⟩)))
  clear hM
  go_loopw [5, 6] (fun hv i wr => ∃ q : Nat, 8 * q ≤ n + 7 ∧ i = .int .i64 ((8 * q : Nat) : Int) ∧ hv = .int .u64 (hsF H0 l q) ∧ Below w.heap.size w wr) (fun _ i _ => n + 8 - (intOf i).toNat)
  case atStart => exact ⟨0, by omega, rfl, rfl, b1⟩
  case round =>
    obtain ⟨q, hq, rfl, rfl, hB⟩ := hrel
    clear J1 b1 s1
    by_cases hlt : 8 * q < n
    · obtain ⟨wo, rfl⟩ : ∃ wo : World, wo = wr := ⟨wr, rfl⟩
      have hlt0 : (0 : Int) ≤ ((8 * q : Nat) : Int) := by omega
      have hltI : ((8 * q : Nat) : Int) < n := by omega
      have hq9 : ((8 * q : Nat) : Int) ≤ 1000000 := by omega
      obtain ⟨Q8, hQ8⟩ : ∃ Q8, 8 * q = Q8 := ⟨_, rfl⟩
      rw [hQ8] at hlt hlt0 hltI hq9 ⊢
      have HQ := Lib.hid hQ8
      clear hQ8 hq
      go_wp2
      go_loopw [7, 8] (fun wd k wr => ∃ s : Nat, s ≤ 8 ∧ k = .int .i64 s ∧ Q8 + s ≤ n ∧ wd = .int .u64 (wordF ((l.drop (8 * q)).take s)) ∧ Below w.heap.size w wr) (fun _ k _ => 8 - (intOf k).toNat)
      case atStart => exact ⟨0, by omega, rfl, by omega, rfl, hB⟩
      case round =>
        obtain ⟨s, hs8, rfl, hsn, rfl, hB2⟩ := hrel
        clear hB
        obtain ⟨u0, u1⟩ := word_rng hby q s hs8
        by_cases hs1 : s < 8
        · by_cases hs2 : Q8 + s < n
          · obtain ⟨b, o, rfl, _, hbw, hcell⟩ := (h.below hB2 (Nat.le_refl _)).at (by rw [Hn.out]; omega)
            have ck := hcell (Q8 + s) (by rw [Hn.out]; omega)
            have hc := hby.at (Q8 + s)
            have hnx := word_next (l := l) q s (by rw [Hn.out]; have := HQ.out; omega)
            rw [show 8 * q + s = Q8 + s from by rw [HQ.out]] at hnx
            obtain ⟨C, hC⟩ : ∃ C, atB l (Q8 + s) = C := ⟨_, rfl⟩
            rw [hC] at ck hc hnx
            obtain ⟨c0, c1⟩ := hc
            have e2 := shl8 s hs1 c0 c1
            obtain ⟨p0, p1⟩ := pw8 s hs1 c0 c1
            obtain ⟨x0, x1⟩ := word_u64 ((hby.drop (8 * q)).take (s + 1)) (by have := List.length_take_le (s + 1) (l.drop (8 * q)); omega)
            rw [← hnx] at x0 x1
            have e3 : IntKind.u64.wrap (wordF ((l.drop (8 * q)).take s) + C * 256 ^ s) = wordF ((l.drop (8 * q)).take (s + 1)) := by
              rw [← hnx, IntKind.wrap_u64]
              generalize C * 256 ^ s = P at x0 x1
              omega
            generalize hP : C * 256 ^ s = P at e2 e3 p0 p1
            generalize wordF ((l.drop (8 * q)).take s) = wd at e3 u0 u1
            generalize hX : wordF ((l.drop (8 * q)).take (s + 1)) = X at e3
            have HX := Lib.hid hX
            have hs0 : (0 : Int) ≤ s := by omega
            have hsI : (s : Int) < 8 := by omega
            have hsn2 : (Q8 : Int) + s < n := by omega
            have hq0 : (0 : Int) ≤ (Q8 : Int) + s := by omega
            clear hcell hC hnx x0 x1 hP hX u1
            go_wp2
            exact ⟨⟨s + 1, by omega, by go_num, by omega, by rw [HX.out], hB2⟩, by simp [intOf]; omega⟩
          · have d1 : decide ((s : Int) < 8) = true := decide_eq_true (by omega)
            have d2 : decide ((Q8 : Int) + s < n) = false := decide_eq_false (by omega)
            have hsI : (s : Int) < 8 := by omega
            clear u0 u1
            have HM : ∀ W, Calls Tryd.prog 40 #[.int .u64 (hsF H0 l q), .int .u64 (wordF ((l.drop (8 * q)).take s))] W fun e w' => e = .returned (.int .u64 (hsF H0 l (q + 1))) ∧ W = w' := fun W => by
              have hw := word_full (l := l) q s hs8 (by rw [Hn.out]; have := HQ.out; omega)
              have h1 := rmix_any (hsF H0 l q) (wordF ((l.drop (8 * q)).take s)) W (hsF_u64 hu0 l q) (by rw [hw]; exact word_u64 ((hby.drop _).take _) (List.length_take_le _ _))
              rw [hw] at h1 ⊢
              exact h1
            go_wp2_with (first | (go_at_call 40; ((with_reducible refine (HM _).mono ?_); rintro e w' ⟨rfl, rfl⟩)))
            exact ⟨⟨q + 1, by have := HQ.out; omega, by have := HQ.out; congr 1; omega, rfl, hB2⟩, by simp [intOf]; omega⟩
        · have d1 : decide ((s : Int) < 8) = false := decide_eq_false (by omega)
          clear u0 u1
          have HM : ∀ W, Calls Tryd.prog 40 #[.int .u64 (hsF H0 l q), .int .u64 (wordF ((l.drop (8 * q)).take s))] W fun e w' => e = .returned (.int .u64 (hsF H0 l (q + 1))) ∧ W = w' := fun W => by
            have hw := word_full (l := l) q s hs8 (by rw [Hn.out]; have := HQ.out; omega)
            have h1 := rmix_any (hsF H0 l q) (wordF ((l.drop (8 * q)).take s)) W (hsF_u64 hu0 l q) (by rw [hw]; exact word_u64 ((hby.drop _).take _) (List.length_take_le _ _))
            rw [hw] at h1 ⊢
            exact h1
          go_wp2_with (first | (go_at_call 40; ((with_reducible refine (HM _).mono ?_); rintro e w' ⟨rfl, rfl⟩)))
          exact ⟨⟨q + 1, by have := HQ.out; omega, by have := HQ.out; congr 1; omega, rfl, hB2⟩, by simp [intOf]; omega⟩
    · have HT : Hid (tagF k0 k1 l = mixF (hsF H0 l q) n) := by
        show tagF k0 k1 l = _
        unfold tagF
        rw [Hn.out, ← HH.out, show (n + 7) / 8 = q by omega]
      have hM := fun W => rmix_any (hsF H0 l q) n W (hsF_u64 hu0 l q) ⟨by omega, by omega⟩
      have hf : decide (8 * q < n) = false := decide_eq_false hlt
      have hf2 : decide (((8 * q : Nat) : Int) < n) = false := decide_eq_false (by omega)
      go_wp2_with (first | (go_at_call 40; ((with_reducible refine (hM _).mono ?_); rintro e w' ⟨rfl, rfl⟩)))
      go_ret
      exact ⟨by rw [HT.out]; rfl, hB⟩
theorem zeroFun : (Tryd.prog.info? 1).map (·.zero) = some (some .nilFunc) := by kernel_rfl
theorem sizeFun : (Tryd.prog.info? 1).map (·.size) = some 1 := by kernel_rfl
abbrev mixV (bs bh bw : Nat) : Value := .func (.func 44) #[] #[.pointer (some ⟨bs, 0, none⟩), .pointer (some ⟨bh, 0, none⟩), .pointer (some ⟨bw, 0, none⟩)]
abbrev stepV (bw bs bf : Nat) : Value := .func (.func 45) #[] #[.pointer (some ⟨bw, 0, none⟩), .pointer (some ⟨bs, 0, none⟩), .pointer (some ⟨bf, 0, none⟩)]
/-- the variables of Tag behind q words and s bytes -/
structure TagI (w0 : World) (bs bh bw bf : Nat) (H0 : Int) (l : List Int) (q s : Nat) (wr : World) : Prop where
  S : Blk wr bs 3 (oneI s)
  H : Blk wr bh 22 (one64 (hsF H0 l q))
  W : Blk wr bw 22 (one64 (wordF ((l.drop (8 * q)).take s)))
  F : Blk wr bf 1 [mixV bs bh bw]
  R : Rnd wr
  B : Below w0.heap.size w0 wr
set_option maxHeartbeats 16000000 in
theorem tag_any (k0 k1 : Int) (A : Option Addr) (n c : Nat) (l : List Int) (w : World) (hk0 : U64 k0) (hk1 : U64 k1) (hn : l.length = n) (h : Bs w 0 w.heap.size A l) (hm : n ≤ 1000000) (hnc : n ≤ c) (hcc : c ≤ 9223372036854775807) (hR : Rnd w) :
    Calls Tryd.prog 36 #[keyV k0 k1, .slice A n c] w fun e w' => e = .returned (.int .u64 (tagF k0 k1 l)) ∧ Below w.heap.size w w' := by
  have hw0 := hR.lt
  have Hn := Lib.hid hn
  have hby := h.byt
  have hM := fun W hr => mix_any k0 k1 W hk0 hk1 hr
  clear hn
  go_enter Tryd.func36, Tryd.ntmps36
  go_wp2_with (first
    | ((refine wpl_box (by rfl) 24 _ (by rfl) _ (keyL k0 k1) (by rfl) rfl ?_; intro w1 J1 s1 b1); (have R1 := hR.below b1 hw0))
    | (refine wpl_loadf (by rfl) 22 _ (by rfl) w.heap.size 0 (by rfl) _ _ J1 _ rfl _ Tryd.underlying22 rfl ?_)
    | (refine wpl_loadf (by rfl) 22 _ (by rfl) w.heap.size 1 (by rfl) _ _ J1 _ rfl _ Tryd.underlying22 rfl ?_)
    | (go_at_call 35; ((with_reducible refine (hM _ R1).mono ?_); rintro e w2 ⟨rfl, b2⟩; (have R2 := R1.below b2 R1.lt); (have z2 := b2.size)))
    | ((with_reducible show wpList _ _ _ (⟨some 5, _, _, _, _, _⟩ :: _) _ _); refine wpl_alloc (by rfl) 22 (by rfl) (.int .u64 0) (one64 0) zeroU64' rfl ?_; intro w3 H3 s3 b3; (have R3 := R2.below b3 R2.lt))
    | ((refine wpl_storeg (by rfl) 22 _ _ (by rfl) w2.heap.size 0 (by rfl) (.int .u64 (mixF k0 k1)) (by rfl) (by rfl) (by simp [Value.oneCell']) _ _ (one64 (mixF k0 k1)) H3 (by simp) sizeU64' (by rfl) ?_; intro w4 H4 s4 g4); (have R4 := R3.but g4 (by omega)))
    | ((with_reducible show wpList _ _ _ (⟨some 6, _, _, _, _, _⟩ :: _) _ _); refine wpl_alloc (by rfl) 22 (by rfl) (.int .u64 0) (one64 0) zeroU64' rfl ?_; intro w5 W5 s5 b5; (have H5 := H4.below b5 (by omega)))
    | ((with_reducible show wpList _ _ _ (⟨some 7, _, _, _, _, _⟩ :: _) _ _); refine wpl_alloc (by rfl) 3 (by rfl) (.int .i64 0) (oneI 0) zeroI64' rfl ?_; intro w6 S6 s6 b6; (have H6 := H5.below b6 (by omega)); (have W6 := W5.below b6 (by omega)))
    | ((refine wpl_storeg (by rfl) 22 _ _ (by rfl) w4.heap.size 0 (by rfl) (.int .u64 0) (by rfl) (by rfl) (by simp [Value.oneCell']) _ _ (one64 0) W6 (by simp) sizeU64' (by rfl) ?_; intro w7 W7 s7 g7); (have H7 := H6.but g7 (by omega)); (have S7 := S6.but g7 (by omega)))
    | ((refine wpl_storeg (by rfl) 3 _ _ (by rfl) w5.heap.size 0 (by rfl) (.int .i64 0) (by rfl) (by rfl) (by simp [Value.oneCell']) _ _ (oneI 0) S7 (by simp) sizeI64' (by rfl) ?_; intro w8 S8 s8 g8); (have H8 := H7.but g8 (by omega)); (have W8 := W7.but g8 (by omega)))
    | ((with_reducible show wpList _ _ _ (⟨some 8, _, _, _, _, _⟩ :: _) _ _); refine wpl_alloc (by rfl) 1 (by rfl) .nilFunc [.nilFunc] zeroFun rfl ?_; intro w9 F9 s9 b9; (have H9 := H8.below b9 (by omega)); (have W9 := W8.below b9 (by omega)); (have S9 := S8.below b9 (by omega)))
    | ((refine wpl_storeg (by rfl) 1 _ _ (by rfl) w8.heap.size 0 (by rfl) (mixV w5.heap.size w2.heap.size w4.heap.size) (by rfl) (by rfl) (by simp [Value.oneCell']) _ _ ([mixV w5.heap.size w2.heap.size w4.heap.size]) F9 (by simp) sizeFun (by rfl) ?_; intro w10 F10 s10 g10)))
  have hI0 : TagI w w5.heap.size w2.heap.size w4.heap.size w8.heap.size (mixF k0 k1) l 0 0 w10 := ⟨S9.but g10 (by omega), H9.but g10 (by omega), W9.but g10 (by omega), F10, (((((R4.below b5 R4.lt).below b6 (by omega)).but g7 (by omega)).but g8 (by omega)).below b9 (by omega)).but g10 (by omega), ((((((((b1.trans (b2.mono (by omega))).trans (b3.mono (by omega))).trans (g4.below (by omega) (by omega))).trans (b5.mono (by omega))).trans (b6.mono (by omega))).trans (g7.below (by omega) (by omega))).trans (g8.below (by omega) (by omega))).trans (b9.mono (by omega))).trans (g10.below (by omega) (by omega))⟩
  have hn1 : w5.heap.size ≠ w4.heap.size := by omega
  have hn2 : w5.heap.size ≠ w2.heap.size := by omega
  have hn3 : w2.heap.size ≠ w4.heap.size := by omega
  have hn4 : w8.heap.size ≠ w4.heap.size := by omega
  have hn5 : w8.heap.size ≠ w5.heap.size := by omega
  have hn6 : 0 ≠ w4.heap.size ∧ 0 ≠ w5.heap.size := by omega
  have hn7 : w8.heap.size ≠ w2.heap.size := by omega
  have hn8 : 0 ≠ w2.heap.size := by omega
  have hlo : w.heap.size ≤ w5.heap.size ∧ w.heap.size ≤ w2.heap.size ∧ w.heap.size ≤ w4.heap.size := by omega
  generalize w5.heap.size = bs at hI0 hn1 hn2 hn5 hn6 hlo ⊢
  generalize w4.heap.size = bw at hI0 hn1 hn3 hn4 hn6 hlo ⊢
  generalize w2.heap.size = bh at hI0 hn2 hn3 hn7 hn8 hlo ⊢
  generalize w8.heap.size = bf at hI0 hn4 hn5 hn7 ⊢
  have HH := Lib.hid (mixF_u64 k0 k1)
  generalize hH0 : mixF k0 k1 = H0 at hI0 HH ⊢
  have HH0 := Lib.hid hH0
  clear hH0 J1 R1 R2 R3 H3 H4 R4 W5 H5 S6 H6 W6 W7 H7 S7 S8 H8 W8 F9 H9 W9 S9 F10 b1 b2 b3 g4 b5 b6 g7 g8 b9 g10 s1 s3 s4 s5 s6 s7 s8 s9 s10 z2 hM
  go_loopw [21] (fun i wr => ∃ q s : Nat, s < 8 ∧ 8 * q + s ≤ n ∧ i = .int .i64 ((8 * q + s : Nat) : Int) ∧ TagI w bs bh bw bf H0 l q s wr) (fun i _ => n - (intOf i).toNat)
  case atStart => exact ⟨0, 0, by omega, by omega, rfl, hI0⟩
  case round =>
    obtain ⟨q, s, hs8, hsn, rfl, hI⟩ := hrel
    clear hI0
    obtain ⟨I, hIe⟩ : ∃ I, 8 * q + s = I := ⟨_, rfl⟩
    have HI := Lib.hid hIe
    rw [hIe] at hsn ⊢
    clear hIe
    have hh := hsF_u64 HH.out l q
    have hS := hI.S
    have hW := hI.W
    have hH := hI.H
    have hF := hI.F
    have hRr := hI.R
    by_cases hlt : I < n
    · obtain ⟨b, o, rfl, _, hbw, hcell⟩ := (h.below hI.B (Nat.le_refl _)).at (by rw [Hn.out]; omega)
      have ck := hcell I (by rw [Hn.out]; omega)
      have hc := hby.at I
      obtain ⟨u0, u1⟩ := word_rng hby q s (by omega)
      have hnx := word_next (l := l) q s (by rw [Hn.out, HI.out]; exact hlt)
      rw [show 8 * q + s = I from HI.out] at hnx
      obtain ⟨C, hC⟩ : ∃ C, atB l I = C := ⟨_, rfl⟩
      rw [hC] at ck hc hnx
      obtain ⟨c0, c1⟩ := hc
      have hq0 : (0 : Int) ≤ I := by omega
      have hq1 : (I : Int) < n := by omega
      clear hcell hC
      by_cases hs7 : s = 7
      · subst hs7
        have hSt := step2_eq bs bw bh bf C _ _ wr c0 c1 u0 u1 hh hS hW hH hF hRr hn1 hn2 hn3 hn4 hn5 hn6
        have hnx2 : wordF ((l.drop (8 * q)).take 7) + C * 72057594037927936 = wordF ((l.drop (8 * q)).take 8) := hnx
        rw [hnx2] at hSt
        clear hS hW hH hF hRr hnx hnx2 u0 u1
        go_wp2_with (first | (go_at_call 45; ((with_reducible refine hSt.mono ?_); rintro e w2 ⟨rfl, S2, W2, H2, K2⟩)))
        exact ⟨⟨q + 1, 0, by omega, by have := HI.out; omega, by have := HI.out; congr 1; omega, ⟨S2, H2, by simpa [wordF] using W2, K2.blk hI.F (by simp; omega), K2.rnd hI.R (by simp; omega), K2.toBelow hI.B hI.B.size (by simp; omega)⟩⟩, by simp [intOf]; omega⟩
      · have hSt := step2_lt bs bw bf s C _ (mixV bs bh bw) wr (by omega) c0 c1 u0 u1 hS hW hn1
        rw [hnx] at hSt
        clear hS hW hH hF hRr hnx u0 u1
        go_wp2_with (first | (go_at_call 45; ((with_reducible refine hSt.mono ?_); rintro e w2 ⟨rfl, S2, W2, K2⟩)))
        exact ⟨⟨q, s + 1, by omega, by have := HI.out; omega, by have := HI.out; congr 1; omega, ⟨S2, K2.blk hI.H (by simp; omega), W2, K2.blk hI.F (by simp; omega), K2.rnd hI.R (by simp; omega), K2.toBelow hI.B hI.B.size (by simp; omega)⟩⟩, by simp [intOf]; omega⟩
    · obtain rfl : n = I := by omega
      by_cases hs0 : s = 0
      · subst hs0
        have hM1 := mix1_no bs bh bw wr hS
        have hT : Hid (tagF k0 k1 l = mixF (hsF H0 l q) n) := by
          show tagF k0 k1 l = _
          rw [tag_even (q := q) (by rw [Hn.out]; exact HI.out.symm), HH0.out, Hn.out]
        have hM := mix_any (hsF H0 l q) n wr hh ⟨by omega, by omega⟩ hRr
        go_wp2_with (first
          | (refine wpl_loadf (by rfl) 1 _ (by rfl) bf 0 (by rfl) _ _ hF _ rfl _ Tryd.underlying1 rfl ?_)
          | (go_at_call 44; ((with_reducible refine hM1.mono ?_); rintro e w' ⟨rfl, rfl⟩))
          | (refine wpl_loadf (by rfl) 22 _ (by rfl) bh 0 (by rfl) _ _ hH _ rfl _ Tryd.underlying22 rfl ?_)
          | (go_at_call 35; ((with_reducible refine hM.mono ?_); rintro e w2 ⟨rfl, b2⟩)))
        go_ret
        exact ⟨by rw [hT.out]; rfl, hI.B.trans (b2.mono hI.B.size)⟩
      · have hM1 := mix1_yes bs bh bw s (hsF H0 l q) _ wr (by omega) hh (word_u64 ((hby.drop (8 * q)).take s) (by have := List.length_take_le s (l.drop (8 * q)); omega)) hS hH hW hRr hn2 hn1 hn3
        have hT : Hid (tagF k0 k1 l = mixF (mixF (hsF H0 l q) (wordF ((l.drop (8 * q)).take s))) n) := by
          show tagF k0 k1 l = _
          rw [tag_odd (q := q) (s := s) (by rw [Hn.out]; exact HI.out.symm) (by omega) hs8, HH0.out, Hn.out]
        have hM := fun W hr => mix_any (mixF (hsF H0 l q) (wordF ((l.drop (8 * q)).take s))) n W (mixF_u64 _ _) ⟨by omega, by omega⟩ hr
        go_wp2_with (first
          | (refine wpl_loadf (by rfl) 1 _ (by rfl) bf 0 (by rfl) _ _ hF _ rfl _ Tryd.underlying1 rfl ?_)
          | (go_at_call 44; ((with_reducible refine hM1.mono ?_); rintro e w2 ⟨rfl, S2, H2, W2, K2⟩; (have R2 : Rnd w2 := K2.rnd hI.R (by simp; omega)); (have B2 := K2.toBelow hI.B hI.B.size (by simp; omega))))
          | (refine wpl_loadf (by rfl) 22 _ (by rfl) bh 0 (by rfl) _ _ H2 _ rfl _ Tryd.underlying22 rfl ?_)
          | (go_at_call 35; ((with_reducible refine (hM _ R2).mono ?_); rintro e w3 ⟨rfl, b3⟩)))
        go_ret
        exact ⟨by rw [hT.out]; rfl, B2.trans (b3.mono B2.size)⟩
end Go.Proofs.YtkgpeddncpdjjaaDoor
