/- The chapter's examples hold: the law's function awake returns true. -/
import Derived.Test.YthhdbpdgppppiaaNtp5
import Derived.Test.YthhdbpdgppppiaaNtp7
import Derived.Test.YthhdbpdgppppiaaNtpT
namespace Go.Proofs.Ythhdbpdgppppiaa
open Go.RowKit
set_option linter.unusedSimpArgs false
set_option linter.unusedVariables false
def exL : List Int := [35, 0, 6, 236, 0, 0, 0, 0, 0, 0, 0, 0, 0, 0, 0, 0, 0, 0, 0, 0, 0, 0, 0, 0, 0, 0, 0, 0, 0, 0, 0, 0, 0, 0, 0, 0, 0, 0, 0, 0, 1, 2, 3, 4, 5, 6, 7, 8]
theorem exL_enc : encH 0 4 3 0 6 (-20) 0 0 0 0 0 0 72623859790382856 = exL := by decide +kernel
theorem exL_at : ∀ k : Fin 48, 4 ≤ k.val → atB exL k.val = IntKind.u8.wrap (if (0 : Int) < (k.val : Int) - 39 then (k.val : Int) - 39 else 0) := by decide +kernel
theorem exK : ksB 0 1380013125 = true := by decide +kernel
theorem exS : ksS 0 1380013125 = ⟨#[82, 65, 84, 69]⟩ := by decide +kernel
theorem exCV : cdV ⟨#[82, 65, 84, 69]⟩ = 1380013125 := by decide +kernel
theorem exCE : cdE ⟨#[82, 65, 84, 69]⟩ = 0 := by decide +kernel
theorem exD : let L := exL ++ [9]; fB L 0 1 = 35 ∧ fB L 1 1 = 0 ∧ iB L 2 1 = 6 ∧ iB L 3 1 = -20 ∧ fB L 4 4 = 0 ∧ fB L 8 4 = 0 ∧ fB L 12 4 = 0 ∧ fB L 16 8 = 0 ∧ fB L 24 8 = 0 ∧ fB L 32 8 = 0 ∧ fB L 40 8 = 72623859790382856 ∧ L.drop 48 = [9] ∧ L.length = 49 := by decide +kernel
theorem ex_code (w : World) : Calls Try.prog 25 #[.string ⟨#[82, 65, 84, 69]⟩] w fun e w' => e = .returned (.tuple #[.int .u32 1380013125, .int .i64 0]) ∧ Below w.heap.size w w' := by
  have h := code_any ⟨#[82, 65, 84, 69]⟩ w (by decide)
  rwa [exCV, exCE] at h
theorem ex_kiss (w : World) : Calls Try.prog 26 #[ntp 0 0 0 0 0 0 0 0 1380013125 0 0 0 0] w fun e w' => e = .returned (.tuple #[.string ⟨#[82, 65, 84, 69]⟩, .bool true]) ∧ Below w.heap.size w w' := by
  have h := kiss_any 0 0 0 0 0 0 0 0 1380013125 0 0 0 0 w (by omega)
  rwa [exS, exK] at h
theorem ex_decode (A : Option Addr) (c : Nat) (w : World) (h : Bs w 0 w.heap.size A (exL ++ [9])) :
    Calls Try.prog 14 #[.slice A 49 c] w fun e w' => ∃ A' c', e = .returned (.tuple #[ntp 0 4 3 0 6 (-20) 0 0 0 0 0 0 72623859790382856, .slice A' 1 c', .int .i64 0]) ∧ Ow w' w.heap.size A' c' [9] ∧ Below w.heap.size w w' := by
  obtain ⟨e0, e1, e2, e3, e4, e5, e6, e7, e8, e9, e10, e11, e12⟩ := exD
  have hd := decode_ok A 49 c (exL ++ [9]) w e12 h (by omega) (by omega) 35 e0 (by omega)
  rwa [e1, e2, e3, e4, e5, e6, e7, e8, e9, e10, e11] at hd
theorem ex_encode (w : World) : Calls Try.prog 8 #[ntp 0 4 3 0 6 (-20) 0 0 0 0 0 0 72623859790382856] w fun e w' => ∃ A c, e = .returned (.tuple #[.slice A 48 c, .int .i64 0]) ∧ Bs w' w.heap.size w'.heap.size A exL ∧ 48 ≤ c ∧ c ≤ 9223372036854775807 ∧ Below w.heap.size w w' := by
  have h := encode_ok 0 4 3 0 6 (-20) 0 0 0 0 0 0 72623859790382856 w (by decide) (by omega) (by omega) (by omega) (by omega) (by omega) (by omega) (by omega)
  rwa [exL_enc] at h
abbrev exP : List Value := [.int .i64 0, .int .i64 4, .int .i64 3, .int .i64 0, .int .i64 6, .int .i64 (-20), .int .u32 0, .int .u32 0, .int .u32 0, .int .u64 0, .int .u64 0, .int .u64 0, .int .u64 72623859790382856]
theorem exL_len : exL.length = 48 := rfl
set_option maxRecDepth 100000 in
set_option maxHeartbeats 4000000 in
theorem awake_any (w : World) : Calls Try.prog 13 #[] w fun e w' => e = .returned (.bool true) ∧ Below w.heap.size w w' := by
  go_enter Try.func13, Try.ntmps13
  go_wp2_with (first | (refine wpl_alloc (by rfl) 25 (by rfl) (.agg (zN).toArray) (zN) zeroNtp rfl ?_; intro w1 H1 s1 b1) | (refine wpl_store (by rfl) 25 _ _ (by rfl) w.heap.size (by rfl) _ (by rfl) _ rfl 25 _ H1 (by rfl) _ sizeNtp (by rfl) (by simp [Value.oneCell']) ?_; intro w2 H2 s2 g2) | (refine wpl_load (by rfl) 25 _ (by rfl) w.heap.size (by rfl) 25 _ H2 _ Try.underlying25 rfl _ sizeNtp (by rfl) ?_))
  have B2 : Below w.heap.size w w2 := b1.trans (g2.below (by omega) (Nat.le_refl _))
  have hE := ex_encode w2
  with_reducible refine hE.mono ?_
  rintro e w3 ⟨A, c, rfl, hB, hc48, hcm, b3⟩
  have H3 := H2.below b3 H2.lt
  have B3 := B2.trans (b3.mono B2.size)
  have hl2 := H2.lt
  clear hE H1 H2 b1 g2 s1 s2
  obtain ⟨b, o, rfl, hlo, hhi, hc⟩ := hB.at (by decide)
  have c0 : w3.cell? ⟨b, o, none⟩ = some (.int .u8 35) := hc 0 (by decide)
  have c1 : w3.cell? ⟨b, o + 1, none⟩ = some (.int .u8 0) := hc 1 (by decide)
  have c2 : w3.cell? ⟨b, o + 2, none⟩ = some (.int .u8 6) := hc 2 (by decide)
  have c3 : w3.cell? ⟨b, o + 3, none⟩ = some (.int .u8 236) := hc 3 (by decide)
  clear hc
  have hck := fun W => nchk_any 0 4 3 0 6 (-20) 0 0 0 0 0 0 72623859790382856 W
  rw [show nchk 0 4 3 0 6 (-20) = 0 by decide] at hck
  go_wp2_with (first | (refine wpl_load (by rfl) 25 _ (by rfl) w.heap.size (by rfl) 25 _ H3 _ Try.underlying25 rfl _ sizeNtp (by rfl) ?_) | (go_at_call 10; ((with_reducible refine (hck _).mono ?_); rintro e w4 ⟨rfl, b4⟩; (have e0 := kept_cell b4 c0 hhi); (have e1 := kept_cell b4 c1 hhi); (have e2 := kept_cell b4 c2 hhi); (have e3 := kept_cell b4 c3 hhi))))
  have H4 := H3.below b4 H3.lt
  have hB4 := hB.below b4 (Nat.le_refl _)
  have B4 := B3.trans (b4.mono B3.size)
  have hz4 := b4.size
  have hl4 := H4.lt
  clear e0 e1 e2 e3 c0 c1 c2 c3 hck H3 hB B3 B2 b3 b4
  go_loop [4] (fun i => ∃ k : Nat, 4 ≤ k ∧ k ≤ 48 ∧ i = .int .i64 k) (fun i => 48 - (intOf i).toNat)
  case atStart => exact ⟨4, by omega, by omega, rfl⟩
  case round =>
    obtain ⟨k, hk4, hk, rfl⟩ := hrel
    by_cases hlt : k < 48
    · have hck := (hB4.2 (by decide))
      obtain ⟨b', o', e', _, _, hc'⟩ := hck
      simp only [Option.some.injEq, Addr.mk.injEq, and_true] at e'
      obtain ⟨rfl, rfl⟩ := e'
      have hcell := hc' k hlt
      have hlt' : (k : Int) < 48 := by omega
      have hat := exL_at ⟨k, hlt⟩ hk4
      simp only at hat
      clear hc'
      go_wp2
      exact ⟨⟨k + 1, by omega, by omega, by go_num⟩, by simp [intOf]; omega⟩
    · obtain rfl : k = 48 := by omega
      have hO1 := Ow.lit w4 [] #[] rfl Byt.nil (by simp)
      have hB1 := hB4.alloc (o := .cells #[] 5) hz4
      go_wp2_with (first
        | (at_builtin; refine wpList_append_bs rfl (.tmp 71) (.tmp 72) rfl 0 0 48 c (by rfl) (by rfl) rfl exL_len hO1 hB1 (by omega) (by simp) ?_; intro A5 c5 w5 hO5 b5 _; (have hL5 := Ow.lit w5 [9] #[.int .u8 9] rfl (Byt.nil.cons (by omega) (by omega)) (by simp)); (have hO5' := hO5.alloc (.cells #[.int .u8 9] 5)); (have z5 := b5.size); simp only [World.size_alloc] at z5)
        | (at_builtin; refine wpList_append_bs rfl (.tmp 73) (.tmp 74) rfl 48 c5 1 1 (by rfl) (by rfl) rfl rfl hO5' hL5.bs (by omega) (by simp; omega) ?_; intro A6 c6 w6 hO6 b6 _))
      rw [List.nil_append] at hO6
      have z6 := b6.size
      simp only [World.size_alloc] at z6
      have H6 := ((H4.old (o := .cells #[] 5)).below b5 hl4)
      have H6 := (H6.old (o := .cells #[.int .u8 9] 5)).below b6 hl4
      have hB6 := ((hB1.below b5 hz4).alloc (o := .cells #[.int .u8 9] 5) (by omega)).below b6 hz4
      have B6 : Below w.heap.size w w6 := (((B4.alloc (by omega) _).trans (b5.mono (by omega))).alloc (by omega) _).trans (b6.mono (by omega))
      clear hO1 hB1 hO5 hL5 hO5' b5 b6 H4 hB4 B4
      have hE := ex_decode A6 c6 w6 (hO6.bs.wide (Nat.zero_le _) (Nat.le_refl _))
      with_reducible refine hE.mono ?_
      rintro e w7 ⟨A7, c7, rfl, hO7, b7⟩
      have H7 := H6.below b7 H6.lt
      have hB7 := hB6.below b7 (by omega)
      have B7 := B6.trans (b7.mono B6.size)
      have z7 := b7.size
      have l7 := H7.lt
      clear hE H6 hB6 B6 b7 hO6
      go_wp2_with (first | (refine wpl_alloc (by rfl) 25 (by rfl) (.agg (zN).toArray) (zN) zeroNtp rfl ?_; intro w8 J8 s8 b8) | (refine wpl_store (by rfl) 25 _ _ (by rfl) w7.heap.size (by rfl) _ (by rfl) _ rfl 25 _ J8 (by rfl) _ sizeNtp (by rfl) (by simp [Value.oneCell']) ?_; intro w9 J9 s9 g9))
      have H9 := (H7.below b8 l7).but g9 (by omega)
      have hB9 := (hB7.below b8 (by omega)).grown g9 (by omega) (by simp <;> omega)
      have hO9 := (hO7.bs.below b8 (Nat.le_refl _)).grown g9 (by omega) (by simp <;> omega)
      have B9 := (B7.trans (b8.mono B7.size)).trans (g9.below (by omega) (by omega))
      clear H7 hB7 hO7 B7 b8 g9 J8
      have hE := decode_short (some ⟨b, o, none⟩) 47 c w9 (by omega)
      with_reducible refine hE.mono ?_
      rintro e w10 ⟨rfl, b10⟩
      have H10 := H9.below b10 H9.lt
      have J10 := J9.below b10 J9.lt
      have hO10 := hO9.below b10 (by omega)
      have B10 := B9.trans (b10.mono B9.size)
      have z10 := b10.size
      have lJ := J9.lt
      clear hE H9 J9 hO9 B9 b10 hB9
      go_wp2_with (first | (refine wpl_alloc (by rfl) 25 (by rfl) (.agg (zN).toArray) (zN) zeroNtp rfl ?_; intro w11 K11 s11 b11) | (refine wpl_store (by rfl) 25 _ _ (by rfl) w10.heap.size (by rfl) _ (by rfl) _ rfl 25 _ K11 (by rfl) _ sizeNtp (by rfl) (by simp [Value.oneCell']) ?_; intro w12 K12 s12 g12))
      have H12 := (H10.below b11 (by omega)).but g12 (by omega)
      have J12 := (J10.below b11 (by omega)).but g12 (by omega)
      have hO12 := (hO10.below b11 (by omega)).grown g12 (by omega) (by simp <;> omega)
      have B12 := (B10.trans (b11.mono B10.size)).trans (g12.below (by omega) (by omega))
      clear H10 J10 hO10 B10 b11 g12 K11 K12
      have hE := ex_code w12
      with_reducible refine hE.mono ?_
      rintro e w13 ⟨rfl, b13⟩
      have H13 := H12.below b13 H12.lt
      have J13 := J12.below b13 J12.lt
      have hO13 := hO12.below b13 (by omega)
      have B13 := B12.trans (b13.mono B12.size)
      have z13 := b13.size
      clear hE H12 J12 hO12 B12 b13
      go_wp2_with fail
      have hE := ex_kiss w13
      with_reducible refine hE.mono ?_
      rintro e w14 ⟨rfl, b14⟩
      have H14 := H13.below b14 H13.lt
      have J14 := J13.below b14 J13.lt
      have hO14 := hO13.below b14 (by omega)
      have B14 := B13.trans (b14.mono B13.size)
      clear hE H13 J13 hO13 B13 b14
      obtain ⟨b', o', rfl, _, _, hc⟩ := hO14.at (by decide)
      have hc9 : w14.cell? ⟨b', o', none⟩ = some (.int .u8 9) := hc 0 (by decide)
      clear hc
      have hE := synced_any 0 4 3 0 6 (-20) 0 0 0 0 0 0 72623859790382856 w14
      rw [show syncB 0 0 = false by decide] at hE
      go_wp2_with (first | (refine wpl_load (by rfl) 25 _ (by rfl) w7.heap.size (by rfl) 25 _ J14 _ Try.underlying25 rfl _ sizeNtp (by rfl) ?_) | (refine wpl_load (by rfl) 25 _ (by rfl) w.heap.size (by rfl) 25 _ H14 _ Try.underlying25 rfl _ sizeNtp (by rfl) ?_))
      with_reducible refine hE.mono ?_
      rintro e w15 ⟨rfl, b15⟩
      have B15 := B14.trans (b15.mono B14.size)
      clear hE H14 J14 hO14 B14 b15 hc9
      have hE := synced_any 0 0 0 1 0 0 0 0 0 0 0 0 0 w15
      rw [show syncB 0 1 = true by decide] at hE
      go_wp2_with fail
      with_reducible refine hE.mono ?_
      rintro e w16 ⟨rfl, b16⟩
      have B16 := B15.trans (b16.mono B15.size)
      go_wp2
      go_ret
      exact ⟨rfl, B16⟩
end Go.Proofs.Ythhdbpdgppppiaa
