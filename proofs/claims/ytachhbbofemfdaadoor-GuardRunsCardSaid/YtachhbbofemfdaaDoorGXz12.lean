/- The jar of cookies: pad, tag and Seal of the reference. -/
import Derived.Test.YtachhbbofemfdaaDoorGXz8
namespace Go.Proofs.YtachhbbofemfdaaDoor
open Go.RowKit
set_option linter.unusedSimpArgs false
set_option linter.unusedVariables false
set_option maxRecDepth 100000
set_option maxHeartbeats 4000000 in
theorem rpad_any (bj : Nat) (s k g gg nonce i : Int) (w : World) (hs : U64 s) (hg : Gn g) (hn : U64 nonce) (hi : 0 ≤ i ∧ i ≤ 3) (hJ : Blk w bj 89 (jarL s k gg)) :
    Calls Tryd.prog 51 #[.pointer (some ⟨bj, 0, none⟩), .int .i64 g, .int .u64 nonce, .int .i64 i] w fun e w' => e = .returned (.int .u64 (padF s g nonce i)) ∧ Below w.heap.size w w' := by
  have hM := rmaster_any bj s k g gg w hs hg hJ
  have hk1 := mkA_u64 s g
  have hk2 := mkB_u64 s g
  have hD' := fun W A hB => rderive_any (mkA s g) (mkB s g) A 3 3 padL W hk1 hk2 rfl hB (by omega) (by omega) (by omega)
  have hu1 : U64 (mixF (tagF (mkA s g) (mkB s g) padL) 1) := mixF_u64 _ _
  have e0 : padF s g nonce i = mixF (mixF (mixF (tagF (mkA s g) (mkB s g) padL) 1) nonce) (i + 1) := rfl
  rw [e0]
  clear e0
  generalize mixF (tagF (mkA s g) (mkB s g) padL) 1 = d1 at hD' hu1 ⊢
  generalize mixF (tagF (mkA s g) (mkB s g) padL) 2 = d2 at hD'
  generalize mkA s g = m1 at hM hk1 hD'
  generalize mkB s g = m2 at hM hk2 hD'
  have hMn := fun W => rmix_any d1 nonce W hu1 hn
  have hu2 : U64 (mixF d1 nonce) := mixF_u64 _ _
  generalize mixF d1 nonce = sd at hMn hu2 ⊢
  have hM0 := fun W => rmix_any sd (i + 1) W hu2 ⟨by omega, by omega⟩
  generalize mixF sd (i + 1) = p0 at hM0 ⊢
  have hcv := conv_bs 112 97 100
  have e1 : IntKind.i64.wrap (i + 1) = i + 1 := by rw [IntKind.wrap_i64]; omega
  have e2 : IntKind.u64.wrap (i + 1) = i + 1 := by rw [IntKind.wrap_u64]; omega
  have hix : ∀ W, (Instr.index 29 (keyV d1 d2) (.int .i64 0)).run Tryd.prog W = .ok (.int .u64 d1) W := fun _ => by kernel_rfl
  clear hs hg hk1 hk2 hu1 hn hu2 hi hJ
  go_enter Tryd.func51, Tryd.ntmps51
  go_wp2_with fail
  with_reducible refine hM.mono ?_
  rintro e w1 ⟨rfl, b1⟩
  have hE := hD' _ _ (bs3 (w := w1) bytPad)
  clear hD' hM
  go_wp2_with fail
  with_reducible refine hE.mono ?_
  rintro e w2 ⟨rfl, b2⟩
  have B2 := (b1.alloc b1.size _).trans (b2.mono (by have := b1.size; simp; omega))
  clear hE
  go_wp2_with (first
    | (go_at_call 85; ((with_reducible refine (hMn _).mono ?_); rintro e w' ⟨rfl, rfl⟩))
    | (go_at_call 85; ((with_reducible refine (hM0 _).mono ?_); rintro e w' ⟨rfl, rfl⟩)))
  go_ret
  exact ⟨rfl, B2⟩
set_option maxHeartbeats 4000000 in
theorem rjtag_any (bj : Nat) (s k g gg : Int) (A : Option Addr) (n c : Nat) (l : List Int) (w : World) (hs : U64 s) (hg : Gn g) (hJ : Blk w bj 89 (jarL s k gg)) (hn : l.length = n) (h : Bs w 0 w.heap.size A l) (hm : n ≤ 1000000) (hnc : n ≤ c) (hcc : c ≤ 9223372036854775807) :
    Calls Tryd.prog 52 #[.pointer (some ⟨bj, 0, none⟩), .int .i64 g, .slice A n c] w fun e w' => e = .returned (.int .u64 (jtag s g l)) ∧ Below w.heap.size w w' := by
  have hM := rmaster_any bj s k g gg w hs hg hJ
  clear hJ
  have hk1 := mkA_u64 s g
  have hk2 := mkB_u64 s g
  have hE : jtag s g l = tagF (mixF (tagF (mkA s g) (mkB s g) labL) 1) (mixF (tagF (mkA s g) (mkB s g) labL) 2) l := rfl
  rw [hE]
  clear hE
  generalize mkA s g = m1 at hM hk1 ⊢
  generalize mkB s g = m2 at hM hk2 ⊢
  have hD' := fun W A hB => rderive_any m1 m2 A 3 3 labL W hk1 hk2 rfl hB (by omega) (by omega) (by omega)
  have hu1 : U64 (mixF (tagF m1 m2 labL) 1) := mixF_u64 _ _
  have hu2 : U64 (mixF (tagF m1 m2 labL) 2) := mixF_u64 _ _
  generalize mixF (tagF m1 m2 labL) 1 = d1 at hD' hu1 ⊢
  generalize mixF (tagF m1 m2 labL) 2 = d2 at hD' hu2 ⊢
  have hT := fun W hB => rtag_any d1 d2 A n c l W hu1 hu2 hn hB hm hnc hcc
  generalize tagF d1 d2 l = t at hT ⊢
  clear hu1 hu2
  go_enter Tryd.func52, Tryd.ntmps52
  go_wp2_with fail
  with_reducible refine hM.mono ?_
  rintro e w1 ⟨rfl, b1⟩
  have z1 := b1.size
  have h1 := h.below b1 (Nat.le_refl _)
  have hE := hD' _ _ (bs3 (w := w1) bytLab)
  have hcv := conv_bs 116 97 103
  clear hD' hM
  go_wp2_with fail
  with_reducible refine hE.mono ?_
  rintro e w2 ⟨rfl, b2⟩
  have B2 := (b1.alloc b1.size _).trans (b2.mono (by simp; omega))
  have h2 := ((h1.alloc (by omega) (.cells #[.int .u8 116, .int .u8 97, .int .u8 103] 5 (3, 4))).below b2 (by simp; omega)).wide (Nat.le_refl _) (hi' := w2.heap.size) B2.size
  have hE2 := hT w2 h2
  clear hE
  go_wp2_with fail
  with_reducible refine hE2.mono ?_
  rintro e w3 ⟨rfl, b3⟩
  go_wp2_with fail
  go_ret
  exact ⟨rfl, B2.trans (b3.mono B2.size)⟩
open Go.RowKit
set_option maxHeartbeats 16000000 in
theorem rseal_any (bj : Nat) (s k' g c0 c1 s0 s1 nonce : Int) (w : World) (hs : U64 s) (hg : Gn g) (hn : U64 nonce) (hc0 : U64 c0) (hc1 : U64 c1) (hs0 : U64 s0) (hs1 : U64 s1) (hJ : Blk w bj 89 (jarL s k' g)) :
    Calls Tryd.prog 26 #[.pointer (some ⟨bj, 0, none⟩), keyV c0 c1, keyV s0 s1, .int .u64 nonce] w fun e w' => ∃ A c, e = .returned (.slice A 52 c) ∧ Ow w' w.heap.size A c (ckB s g nonce c0 c1 s0 s1) ∧ Below w.heap.size w w' := by
  have hbj := hJ.lt
  have hg5 := (two_u64 hg).2.2.2.2
  have hgu : 0 ≤ g ∧ g < 4294967296 := by obtain ⟨h0, h1⟩ := hg; omega
  have hnu : 0 ≤ nonce ∧ nonce < 18446744073709551616 := by obtain ⟨h0, h1⟩ := hn; omega
  have hP0 := fun W hJ => rpad_any bj s k' g g nonce 0 W hs hg hn (by omega) hJ
  have hP1 := fun W hJ => rpad_any bj s k' g g nonce 1 W hs hg hn (by omega) hJ
  have hP2 := fun W hJ => rpad_any bj s k' g g nonce 2 W hs hg hn (by omega) hJ
  have hP3 := fun W hJ => rpad_any bj s k' g g nonce 3 W hs hg hn (by omega) hJ
  have hT := fun (A : Option Addr) (c : Nat) (l : List Int) (W : World) hJ hl hB hc hcc => rjtag_any bj s k' g g A 44 c l W hs hg hJ hl hB (by omega) hc hcc
  have hE : ckB s g nonce c0 c1 s0 s1 = sbB g nonce (xr c0 (padF s g nonce 0)) (xr c1 (padF s g nonce 1)) (xr s0 (padF s g nonce 2)) (xr s1 (padF s g nonce 3)) 4 ++
    bytesB 8 (jtag s g (sbB g nonce (xr c0 (padF s g nonce 0)) (xr c1 (padF s g nonce 1)) (xr s0 (padF s g nonce 2)) (xr s1 (padF s g nonce 3)) 4)) := rfl
  rw [hE]
  clear hE
  have hy0 := xr_u64 hc0 (padF_u64 s g nonce 0)
  have hy1 := xr_u64 hc1 (padF_u64 s g nonce 1)
  have hy2 := xr_u64 hs0 (padF_u64 s g nonce 2)
  have hy3 := xr_u64 hs1 (padF_u64 s g nonce 3)
  generalize padF s g nonce 0 = p0 at hP0 hy0 ⊢
  generalize padF s g nonce 1 = p1 at hP1 hy1 ⊢
  generalize padF s g nonce 2 = p2 at hP2 hy2 ⊢
  generalize padF s g nonce 3 = p3 at hP3 hy3 ⊢
  have hx0 : bits .xor .u64 c0 p0 = xr c0 p0 := rfl
  have hx1 : bits .xor .u64 c1 p1 = xr c1 p1 := rfl
  have hx2 : bits .xor .u64 s0 p2 = xr s0 p2 := rfl
  have hx3 : bits .xor .u64 s1 p3 = xr s1 p3 := rfl
  generalize xr c0 p0 = y0 at hx0 hy0 ⊢
  generalize xr c1 p1 = y1 at hx1 hy1 ⊢
  generalize xr s0 p2 = y2 at hx2 hy2 ⊢
  generalize xr s1 p3 = y3 at hx3 hy3 ⊢
  obtain ⟨l0, l1, l2, l3, l4⟩ := sbB_len g nonce y0 y1 y2 y3
  have HL := Lib.hid (And.intro l0 (And.intro l1 (And.intro l2 (And.intro l3 l4))))
  clear l0 l1 l2 l3 l4
  have hT' := fun (A : Option Addr) (c : Nat) (W : World) hJ hB hc hcc => hT A c (sbB g nonce y0 y1 y2 y3 4) W hJ HL.out.2.2.2.2 hB hc hcc
  have ht : U64 (jtag s g (sbB g nonce y0 y1 y2 y3 4)) := jtag_u64 _ _ _
  generalize jtag s g (sbB g nonce y0 y1 y2 y3 4) = tg at hT' ht ⊢
  clear hT hs hn hc0 hc1 hs0 hs1
  go_enter Tryd.func26, Tryd.ntmps26
  go_wp2_with (first
    | ((refine wpl_box (by rfl) 29 _ (by rfl) _ (keyL c0 c1) (by rfl) rfl ?_; intro w1 P1 t1 b1); (have J1 := hJ.below b1 hbj))
    | ((refine wpl_box (by rfl) 29 _ (by rfl) _ (keyL s0 s1) (by rfl) rfl ?_; intro w2 Q2 t2 b2); (have P2 := P1.below b2 (by omega)); (have J2 := J1.below b2 (by omega)))
    | (refine wpl_loadf (by rfl) 3 _ (by rfl) bj 2 (by rfl) _ _ J2 _ rfl _ Tryd.underlying3 rfl ?_)
    | (go_at_call 50; ((with_reducible refine (rapp4 none 0 0 0 0 [] g _ rfl Bs.nil (Nat.zero_le _) (by omega) hgu).mono ?_); rintro e w3 ⟨A3, c3, rfl, O3, b3⟩)))
  rw [List.nil_append] at O3
  have P3 := P2.below b3 (by omega)
  have Q3 := Q2.below b3 (by omega)
  have J3 := J2.below b3 (by omega)
  have B3 := (b1.trans (b2.mono (by omega))).trans (b3.mono (by omega))
  have z3 := b3.size
  clear P1 P2 Q2 J1 J2 b1 b2 b3 hJ
  have hE := rapp8 A3 4 c3 _ _ (bytesB 4 g) nonce w3 (bytesB_length _ _) O3.bs (Nat.le_refl _) (by omega) hnu
  go_wp2_with fail
  with_reducible refine hE.mono ?_
  rintro e w4 ⟨A4, c4, rfl, O4, b4⟩
  have O4' : Ow w4 w3.heap.size A4 c4 (sbB g nonce y0 y1 y2 y3 0) := O4
  have P4 := P3.below b4 (by omega)
  have Q4 := Q3.below b4 (by omega)
  have J4 := J3.below b4 (by omega)
  have B4 := B3.trans (b4.mono B3.size)
  have z4 := b4.size
  clear P3 Q3 J3 B3 b4 O3 O4 hE
  go_wp2_with (first
    | (refine wpl_loadf (by rfl) 22 _ (by rfl) w.heap.size 0 (by rfl) _ _ P4 _ rfl _ Tryd.underlying22 rfl ?_) | (refine wpl_loadf (by rfl) 22 _ (by rfl) w.heap.size 1 (by rfl) _ _ P4 _ rfl _ Tryd.underlying22 rfl ?_) | (refine wpl_loadf (by rfl) 22 _ (by rfl) w1.heap.size 0 (by rfl) _ _ Q4 _ rfl _ Tryd.underlying22 rfl ?_) | (refine wpl_loadf (by rfl) 22 _ (by rfl) w1.heap.size 1 (by rfl) _ _ Q4 _ rfl _ Tryd.underlying22 rfl ?_)
    | (refine wpl_alloc (by rfl) 95 (by rfl) (fourV 0 0 0 0) (fourL 0 0 0 0) zero4 rfl ?_; intro w5 X5 s5 b5)
    | (refine wpl_store (by rfl) 95 _ _ (by rfl) w4.heap.size (by rfl) _ (by rfl) (fourL c0 c1 s0 s1) rfl 95 _ X5 (show (4 : Nat) = 4 from rfl) _ size4 (by rfl) (by simp [Value.oneCell']) ?_; intro w6 X6 s6 g6))
  have J6 := (J4.below b5 (by have := J4.lt; omega)).but g6 (by have := J4.lt; omega)
  have O6 := ((O4'.below b5 (Nat.le_refl _)).grown g6 (by intro g hg; have := (O4'.blt g hg).2; simp; omega)).wide (lo' := w.heap.size) (by omega)
  have B6 := (B4.trans (b5.mono B4.size)).trans (g6.below (by have := B4.size; omega) B4.size)
  have hne : w4.heap.size < w6.heap.size := X6.lt
  clear P4 Q4 J4 O4' B4 b5 g6 X5
  generalize w4.heap.size = b5 at X6 hne ⊢
  go_wp2_with fail
  go_loopw [9, 12] (fun bv i wr => ∃ k : Nat, k ≤ 4 ∧ i = .int .i64 k ∧ (∃ A c N, bv = .slice A N c ∧ N = 12 + 8 * k ∧ Ow wr w.heap.size A c (sbB g nonce y0 y1 y2 y3 k)) ∧ Blk wr b5 95 (fourL c0 c1 s0 s1) ∧ Blk wr bj 89 (jarL s k' g) ∧ Below w.heap.size w wr) (fun _ i _ => 4 - (intOf i).toNat)
  case atStart => exact ⟨0, by omega, rfl, ⟨A4, c4, 12, rfl, rfl, O6⟩, X6, J6, B6⟩
  case round =>
    obtain ⟨k, hk, rfl, ⟨A, c, N, rfl, hN, hO⟩, hX, hJ, hB⟩ := hrel
    obtain ⟨wo, rfl⟩ : ∃ wo : World, wo = wr := ⟨wr, rfl⟩
    have zo := hB.size
    clear X6 J6 O6 B6
    have : k = 0 ∨ k = 1 ∨ k = 2 ∨ k = 3 ∨ k = 4 := by omega
    rcases this with rfl | rfl | rfl | rfl | rfl
    · skip
      obtain rfl : N = 12 := hN
      have q0 := hX.drew.cell (i := 0) (v := .int .u64 c0) rfl
      have q1 := hJ.drew.cell (i := 2) (v := .int .i64 g) rfl
      go_wp2_with fail
      refine wp_region_heldL (fun y => y.cell? ⟨b5, 0, none⟩ = some (.int .u64 c0) ∧ y.cell? ⟨bj, 2, none⟩ = some (.int .i64 g)) 18 (by kernel_rfl) rfl ⟨q0, q1⟩ fun hHeld => ?_
      simp only [List.replicate]
      (refine wpH_t 0 _ (by exact gE rfl) (by kernel_rfl) (by intro _ _ _ h; exact h) (Or.inl ⟨by rfl, (by intro _ h; (try dsimp only at h); go_simp; first | done | with_reducible rfl)⟩) (by assumption) ?_; (try simp only [Act.put, zs0, zs1, zs2]))
      (refine wpH_t 1 _ (by exact gE rfl) (by kernel_rfl) (by intro _ _ _ h; exact h) (Or.inl ⟨by rfl, (by intro _ h; (try dsimp only at h); go_simp; first | done | with_reducible rfl)⟩) (by assumption) ?_; (try simp only [Act.put, zs0, zs1, zs2]))
      (refine wpH_t 2 _ (by exact gE rfl) (by kernel_rfl) (by intro _ _ _ h; exact h) (Or.inl ⟨by rfl, (by intro _ h; (try dsimp only at h); go_simp; first | done | with_reducible rfl)⟩) (by assumption) ?_; (try simp only [Act.put, zs0, zs1, zs2]))
      (refine wpH_t 3 _ (by exact gE rfl) (by kernel_rfl) (by intro _ _ _ h; exact h) (Or.inl ⟨by rfl, (by intro _ h; (try dsimp only at h); go_simp; first | done | with_reducible rfl)⟩) (by assumption) ?_; (try simp only [Act.put, zs0, zs1, zs2]))
      (refine wpH_t 4 _ (by exact gE rfl) (by kernel_rfl) (by intro _ _ _ h; exact h) (Or.inl ⟨by rfl, (by intro _ h; (try dsimp only at h); go_simp; first | done | with_reducible rfl)⟩) (by assumption) ?_; (try simp only [Act.put, zs0, zs1, zs2]))
      (refine wpH_t 5 _ (by exact gE rfl) (by kernel_rfl) (by intro _ _ _ h; exact h) (Or.inl ⟨by rfl, (by intro _ h; (try dsimp only at h); go_simp; first | done | with_reducible rfl)⟩) (by assumption) ?_; (try simp only [Act.put, zs0, zs1, zs2]))
      (refine wpH_t 6 _ (by exact gE rfl) (by kernel_rfl) (by intro _ _ _ h; exact h) (Or.inl ⟨by rfl, (by intro _ h; (try dsimp only at h); go_simp; first | done | with_reducible rfl)⟩) (by assumption) ?_; (try simp only [Act.put, zs0, zs1, zs2]))
      (refine wpH_t 7 _ (by exact gE rfl) (by kernel_rfl) (by intro _ _ _ h; exact h) (Or.inl ⟨by rfl, (by intro _ h; (try dsimp only at h); go_simp; first | done | with_reducible rfl)⟩) (by assumption) ?_; (try simp only [Act.put, zs0, zs1, zs2]))
      (refine wpH_t 8 _ (by exact gE rfl) (by kernel_rfl) (by intro _ _ _ h; exact h) (Or.inl ⟨by rfl, (by intro _ h; (try dsimp only at h); go_simp; first | done | with_reducible rfl)⟩) (by assumption) ?_; (try simp only [Act.put, zs0, zs1, zs2]))
      (refine wpH_t 9 _ (by exact gE rfl) (by kernel_rfl) (by intro _ _ _ h; exact h) (Or.inl ⟨by rfl, (by intro _ h; (try dsimp only at h); go_simp; first | done | with_reducible rfl)⟩) (by assumption) ?_; (try simp only [Act.put, zs0, zs1, zs2]))
      (refine wpH_t 10 _ (by exact gE rfl) (by kernel_rfl) (by intro _ _ _ h; exact h) (Or.inl ⟨by rfl, (by intro _ h; (try dsimp only at h); go_simp; first | done | with_reducible rfl)⟩) (by assumption) ?_; (try simp only [Act.put, zs0, zs1, zs2]))
      (refine wpH_one (i := 11) (by exact gE rfl) (by kernel_rfl) (by rfl) ?_; (go_simp; (with_reducible refine (hP0 wo.drew hJ.drew).mono ?_); rintro e w6 ⟨rfl, b6⟩; refine ⟨⟨(hX.drew.below b6 hX.lt).cell rfl, (hJ.drew.below b6 hJ.lt).cell rfl⟩, ?_⟩); (try simp only [Act.put, zs0, zs1, zs2]))
      have X6 := hX.drew.below b6 hX.lt
      have J6 := hJ.drew.below b6 hJ.lt
      have O6 := hO.drew.below b6 (Nat.le_refl _)
      have B6 := hB.drew.trans (b6.mono zo)
      have hH6 : w6.cell? ⟨b5, 0, none⟩ = some (.int .u64 c0) ∧ w6.cell? ⟨bj, 2, none⟩ = some (.int .i64 g) := ⟨X6.cell rfl, J6.cell rfl⟩
      (refine wpH_t 12 _ (by exact gE rfl) (by kernel_rfl) (by intro _ _ _ h; exact h) (Or.inl ⟨by rfl, (by intro _ h; (try dsimp only at h); go_simp; first | done | with_reducible rfl)⟩) (by assumption) ?_; (try simp only [Act.put, zs0, zs1, zs2]))
      have hE := rapp8 A 12 c _ _ (sbB g nonce y0 y1 y2 y3 0) y0 w6 HL.out.1 O6.bs (Nat.le_refl _) (by omega) (by obtain ⟨h0, h1⟩ := hy0; omega)
      (refine wpH_one (i := 13) (by exact gE rfl) (by kernel_rfl) (by rfl) ?_; (go_simp; (with_reducible refine hE.mono ?_); rintro e w7 ⟨A7, c7, rfl, O7, b7⟩; refine ⟨⟨(X6.below b7 X6.lt).cell rfl, (J6.below b7 J6.lt).cell rfl⟩, ?_⟩); (try simp only [Act.put, zs0, zs1, zs2]))
      have X7 := X6.below b7 X6.lt
      have J7 := J6.below b7 J6.lt
      have B7 := B6.trans (b7.mono B6.size)
      have hH7 : w7.cell? ⟨b5, 0, none⟩ = some (.int .u64 c0) ∧ w7.cell? ⟨bj, 2, none⟩ = some (.int .i64 g) := ⟨X7.cell rfl, J7.cell rfl⟩
      (refine wpH_t 14 _ (by exact gE rfl) (by kernel_rfl) (by intro _ _ _ h; exact h) (Or.inl ⟨by rfl, (by intro _ h; (try dsimp only at h); go_simp; first | done | with_reducible rfl)⟩) (by assumption) ?_; (try simp only [Act.put, zs0, zs1, zs2]))
      (refine wpH_t 15 _ (by exact gE rfl) (by kernel_rfl) (by intro _ _ _ h; exact h) (Or.inl ⟨by rfl, (by intro _ h; (try dsimp only at h); go_simp; first | done | with_reducible rfl)⟩) (by assumption) ?_; (try simp only [Act.put, zs0, zs1, zs2]))
      (refine wpH_t 16 _ (by exact gE rfl) (by kernel_rfl) (by intro _ _ _ h; exact h) (Or.inl ⟨by rfl, (by intro _ h; (try dsimp only at h); go_simp; first | done | with_reducible rfl)⟩) (by assumption) ?_; (try simp only [Act.put, zs0, zs1, zs2]))
      (refine wpH_t 17 _ (by exact gE rfl) (by kernel_rfl) (by intro _ _ _ h; exact h) (Or.inl ⟨by rfl, (by intro _ h; (try dsimp only at h); go_simp; first | done | with_reducible rfl)⟩) (by assumption) ?_; (try simp only [Act.put, zs0, zs1, zs2]))
      refine wpH_done (by kernel_rfl) ?_ _
      have O7' := O7.wide (lo' := w.heap.size) B6.size
      clear hE hHeld q0 q1 hH6 hH7 X6 J6 O6 B6 b6 b7 hX hJ hO hB O7
      go_wp2_with fail
      exact ⟨⟨1, by omega, rfl, ⟨A7, c7, _, rfl, rfl, O7'⟩, X7, J7, B7⟩, by simp [intOf] <;> decide⟩
    · skip
      obtain rfl : N = 20 := hN
      have q0 := hX.drew.cell (i := 1) (v := .int .u64 c1) rfl
      have q1 := hJ.drew.cell (i := 2) (v := .int .i64 g) rfl
      go_wp2_with fail
      refine wp_region_heldL (fun y => y.cell? ⟨b5, 1, none⟩ = some (.int .u64 c1) ∧ y.cell? ⟨bj, 2, none⟩ = some (.int .i64 g)) 18 (by kernel_rfl) rfl ⟨q0, q1⟩ fun hHeld => ?_
      simp only [List.replicate]
      (refine wpH_t 0 _ (by exact gE rfl) (by kernel_rfl) (by intro _ _ _ h; exact h) (Or.inl ⟨by rfl, (by intro _ h; (try dsimp only at h); go_simp; first | done | with_reducible rfl)⟩) (by assumption) ?_; (try simp only [Act.put, zs0, zs1, zs2]))
      (refine wpH_t 1 _ (by exact gE rfl) (by kernel_rfl) (by intro _ _ _ h; exact h) (Or.inl ⟨by rfl, (by intro _ h; (try dsimp only at h); go_simp; first | done | with_reducible rfl)⟩) (by assumption) ?_; (try simp only [Act.put, zs0, zs1, zs2]))
      (refine wpH_t 2 _ (by exact gE rfl) (by kernel_rfl) (by intro _ _ _ h; exact h) (Or.inl ⟨by rfl, (by intro _ h; (try dsimp only at h); go_simp; first | done | with_reducible rfl)⟩) (by assumption) ?_; (try simp only [Act.put, zs0, zs1, zs2]))
      (refine wpH_t 3 _ (by exact gE rfl) (by kernel_rfl) (by intro _ _ _ h; exact h) (Or.inl ⟨by rfl, (by intro _ h; (try dsimp only at h); go_simp; first | done | with_reducible rfl)⟩) (by assumption) ?_; (try simp only [Act.put, zs0, zs1, zs2]))
      (refine wpH_t 4 _ (by exact gE rfl) (by kernel_rfl) (by intro _ _ _ h; exact h) (Or.inl ⟨by rfl, (by intro _ h; (try dsimp only at h); go_simp; first | done | with_reducible rfl)⟩) (by assumption) ?_; (try simp only [Act.put, zs0, zs1, zs2]))
      (refine wpH_t 5 _ (by exact gE rfl) (by kernel_rfl) (by intro _ _ _ h; exact h) (Or.inl ⟨by rfl, (by intro _ h; (try dsimp only at h); go_simp; first | done | with_reducible rfl)⟩) (by assumption) ?_; (try simp only [Act.put, zs0, zs1, zs2]))
      (refine wpH_t 6 _ (by exact gE rfl) (by kernel_rfl) (by intro _ _ _ h; exact h) (Or.inl ⟨by rfl, (by intro _ h; (try dsimp only at h); go_simp; first | done | with_reducible rfl)⟩) (by assumption) ?_; (try simp only [Act.put, zs0, zs1, zs2]))
      (refine wpH_t 7 _ (by exact gE rfl) (by kernel_rfl) (by intro _ _ _ h; exact h) (Or.inl ⟨by rfl, (by intro _ h; (try dsimp only at h); go_simp; first | done | with_reducible rfl)⟩) (by assumption) ?_; (try simp only [Act.put, zs0, zs1, zs2]))
      (refine wpH_t 8 _ (by exact gE rfl) (by kernel_rfl) (by intro _ _ _ h; exact h) (Or.inl ⟨by rfl, (by intro _ h; (try dsimp only at h); go_simp; first | done | with_reducible rfl)⟩) (by assumption) ?_; (try simp only [Act.put, zs0, zs1, zs2]))
      (refine wpH_t 9 _ (by exact gE rfl) (by kernel_rfl) (by intro _ _ _ h; exact h) (Or.inl ⟨by rfl, (by intro _ h; (try dsimp only at h); go_simp; first | done | with_reducible rfl)⟩) (by assumption) ?_; (try simp only [Act.put, zs0, zs1, zs2]))
      (refine wpH_t 10 _ (by exact gE rfl) (by kernel_rfl) (by intro _ _ _ h; exact h) (Or.inl ⟨by rfl, (by intro _ h; (try dsimp only at h); go_simp; first | done | with_reducible rfl)⟩) (by assumption) ?_; (try simp only [Act.put, zs0, zs1, zs2]))
      (refine wpH_one (i := 11) (by exact gE rfl) (by kernel_rfl) (by rfl) ?_; (go_simp; (with_reducible refine (hP1 wo.drew hJ.drew).mono ?_); rintro e w6 ⟨rfl, b6⟩; refine ⟨⟨(hX.drew.below b6 hX.lt).cell rfl, (hJ.drew.below b6 hJ.lt).cell rfl⟩, ?_⟩); (try simp only [Act.put, zs0, zs1, zs2]))
      have X6 := hX.drew.below b6 hX.lt
      have J6 := hJ.drew.below b6 hJ.lt
      have O6 := hO.drew.below b6 (Nat.le_refl _)
      have B6 := hB.drew.trans (b6.mono zo)
      have hH6 : w6.cell? ⟨b5, 1, none⟩ = some (.int .u64 c1) ∧ w6.cell? ⟨bj, 2, none⟩ = some (.int .i64 g) := ⟨X6.cell rfl, J6.cell rfl⟩
      (refine wpH_t 12 _ (by exact gE rfl) (by kernel_rfl) (by intro _ _ _ h; exact h) (Or.inl ⟨by rfl, (by intro _ h; (try dsimp only at h); go_simp; first | done | with_reducible rfl)⟩) (by assumption) ?_; (try simp only [Act.put, zs0, zs1, zs2]))
      have hE := rapp8 A 20 c _ _ (sbB g nonce y0 y1 y2 y3 1) y1 w6 HL.out.2.1 O6.bs (Nat.le_refl _) (by omega) (by obtain ⟨h0, h1⟩ := hy1; omega)
      (refine wpH_one (i := 13) (by exact gE rfl) (by kernel_rfl) (by rfl) ?_; (go_simp; (with_reducible refine hE.mono ?_); rintro e w7 ⟨A7, c7, rfl, O7, b7⟩; refine ⟨⟨(X6.below b7 X6.lt).cell rfl, (J6.below b7 J6.lt).cell rfl⟩, ?_⟩); (try simp only [Act.put, zs0, zs1, zs2]))
      have X7 := X6.below b7 X6.lt
      have J7 := J6.below b7 J6.lt
      have B7 := B6.trans (b7.mono B6.size)
      have hH7 : w7.cell? ⟨b5, 1, none⟩ = some (.int .u64 c1) ∧ w7.cell? ⟨bj, 2, none⟩ = some (.int .i64 g) := ⟨X7.cell rfl, J7.cell rfl⟩
      (refine wpH_t 14 _ (by exact gE rfl) (by kernel_rfl) (by intro _ _ _ h; exact h) (Or.inl ⟨by rfl, (by intro _ h; (try dsimp only at h); go_simp; first | done | with_reducible rfl)⟩) (by assumption) ?_; (try simp only [Act.put, zs0, zs1, zs2]))
      (refine wpH_t 15 _ (by exact gE rfl) (by kernel_rfl) (by intro _ _ _ h; exact h) (Or.inl ⟨by rfl, (by intro _ h; (try dsimp only at h); go_simp; first | done | with_reducible rfl)⟩) (by assumption) ?_; (try simp only [Act.put, zs0, zs1, zs2]))
      (refine wpH_t 16 _ (by exact gE rfl) (by kernel_rfl) (by intro _ _ _ h; exact h) (Or.inl ⟨by rfl, (by intro _ h; (try dsimp only at h); go_simp; first | done | with_reducible rfl)⟩) (by assumption) ?_; (try simp only [Act.put, zs0, zs1, zs2]))
      (refine wpH_t 17 _ (by exact gE rfl) (by kernel_rfl) (by intro _ _ _ h; exact h) (Or.inl ⟨by rfl, (by intro _ h; (try dsimp only at h); go_simp; first | done | with_reducible rfl)⟩) (by assumption) ?_; (try simp only [Act.put, zs0, zs1, zs2]))
      refine wpH_done (by kernel_rfl) ?_ _
      have O7' := O7.wide (lo' := w.heap.size) B6.size
      clear hE hHeld q0 q1 hH6 hH7 X6 J6 O6 B6 b6 b7 hX hJ hO hB O7
      go_wp2_with fail
      exact ⟨⟨2, by omega, rfl, ⟨A7, c7, _, rfl, rfl, O7'⟩, X7, J7, B7⟩, by simp [intOf] <;> decide⟩
    · skip
      obtain rfl : N = 28 := hN
      have q0 := hX.drew.cell (i := 2) (v := .int .u64 s0) rfl
      have q1 := hJ.drew.cell (i := 2) (v := .int .i64 g) rfl
      go_wp2_with fail
      refine wp_region_heldL (fun y => y.cell? ⟨b5, 2, none⟩ = some (.int .u64 s0) ∧ y.cell? ⟨bj, 2, none⟩ = some (.int .i64 g)) 18 (by kernel_rfl) rfl ⟨q0, q1⟩ fun hHeld => ?_
      simp only [List.replicate]
      (refine wpH_t 0 _ (by exact gE rfl) (by kernel_rfl) (by intro _ _ _ h; exact h) (Or.inl ⟨by rfl, (by intro _ h; (try dsimp only at h); go_simp; first | done | with_reducible rfl)⟩) (by assumption) ?_; (try simp only [Act.put, zs0, zs1, zs2]))
      (refine wpH_t 1 _ (by exact gE rfl) (by kernel_rfl) (by intro _ _ _ h; exact h) (Or.inl ⟨by rfl, (by intro _ h; (try dsimp only at h); go_simp; first | done | with_reducible rfl)⟩) (by assumption) ?_; (try simp only [Act.put, zs0, zs1, zs2]))
      (refine wpH_t 2 _ (by exact gE rfl) (by kernel_rfl) (by intro _ _ _ h; exact h) (Or.inl ⟨by rfl, (by intro _ h; (try dsimp only at h); go_simp; first | done | with_reducible rfl)⟩) (by assumption) ?_; (try simp only [Act.put, zs0, zs1, zs2]))
      (refine wpH_t 3 _ (by exact gE rfl) (by kernel_rfl) (by intro _ _ _ h; exact h) (Or.inl ⟨by rfl, (by intro _ h; (try dsimp only at h); go_simp; first | done | with_reducible rfl)⟩) (by assumption) ?_; (try simp only [Act.put, zs0, zs1, zs2]))
      (refine wpH_t 4 _ (by exact gE rfl) (by kernel_rfl) (by intro _ _ _ h; exact h) (Or.inl ⟨by rfl, (by intro _ h; (try dsimp only at h); go_simp; first | done | with_reducible rfl)⟩) (by assumption) ?_; (try simp only [Act.put, zs0, zs1, zs2]))
      (refine wpH_t 5 _ (by exact gE rfl) (by kernel_rfl) (by intro _ _ _ h; exact h) (Or.inl ⟨by rfl, (by intro _ h; (try dsimp only at h); go_simp; first | done | with_reducible rfl)⟩) (by assumption) ?_; (try simp only [Act.put, zs0, zs1, zs2]))
      (refine wpH_t 6 _ (by exact gE rfl) (by kernel_rfl) (by intro _ _ _ h; exact h) (Or.inl ⟨by rfl, (by intro _ h; (try dsimp only at h); go_simp; first | done | with_reducible rfl)⟩) (by assumption) ?_; (try simp only [Act.put, zs0, zs1, zs2]))
      (refine wpH_t 7 _ (by exact gE rfl) (by kernel_rfl) (by intro _ _ _ h; exact h) (Or.inl ⟨by rfl, (by intro _ h; (try dsimp only at h); go_simp; first | done | with_reducible rfl)⟩) (by assumption) ?_; (try simp only [Act.put, zs0, zs1, zs2]))
      (refine wpH_t 8 _ (by exact gE rfl) (by kernel_rfl) (by intro _ _ _ h; exact h) (Or.inl ⟨by rfl, (by intro _ h; (try dsimp only at h); go_simp; first | done | with_reducible rfl)⟩) (by assumption) ?_; (try simp only [Act.put, zs0, zs1, zs2]))
      (refine wpH_t 9 _ (by exact gE rfl) (by kernel_rfl) (by intro _ _ _ h; exact h) (Or.inl ⟨by rfl, (by intro _ h; (try dsimp only at h); go_simp; first | done | with_reducible rfl)⟩) (by assumption) ?_; (try simp only [Act.put, zs0, zs1, zs2]))
      (refine wpH_t 10 _ (by exact gE rfl) (by kernel_rfl) (by intro _ _ _ h; exact h) (Or.inl ⟨by rfl, (by intro _ h; (try dsimp only at h); go_simp; first | done | with_reducible rfl)⟩) (by assumption) ?_; (try simp only [Act.put, zs0, zs1, zs2]))
      (refine wpH_one (i := 11) (by exact gE rfl) (by kernel_rfl) (by rfl) ?_; (go_simp; (with_reducible refine (hP2 wo.drew hJ.drew).mono ?_); rintro e w6 ⟨rfl, b6⟩; refine ⟨⟨(hX.drew.below b6 hX.lt).cell rfl, (hJ.drew.below b6 hJ.lt).cell rfl⟩, ?_⟩); (try simp only [Act.put, zs0, zs1, zs2]))
      have X6 := hX.drew.below b6 hX.lt
      have J6 := hJ.drew.below b6 hJ.lt
      have O6 := hO.drew.below b6 (Nat.le_refl _)
      have B6 := hB.drew.trans (b6.mono zo)
      have hH6 : w6.cell? ⟨b5, 2, none⟩ = some (.int .u64 s0) ∧ w6.cell? ⟨bj, 2, none⟩ = some (.int .i64 g) := ⟨X6.cell rfl, J6.cell rfl⟩
      (refine wpH_t 12 _ (by exact gE rfl) (by kernel_rfl) (by intro _ _ _ h; exact h) (Or.inl ⟨by rfl, (by intro _ h; (try dsimp only at h); go_simp; first | done | with_reducible rfl)⟩) (by assumption) ?_; (try simp only [Act.put, zs0, zs1, zs2]))
      have hE := rapp8 A 28 c _ _ (sbB g nonce y0 y1 y2 y3 2) y2 w6 HL.out.2.2.1 O6.bs (Nat.le_refl _) (by omega) (by obtain ⟨h0, h1⟩ := hy2; omega)
      (refine wpH_one (i := 13) (by exact gE rfl) (by kernel_rfl) (by rfl) ?_; (go_simp; (with_reducible refine hE.mono ?_); rintro e w7 ⟨A7, c7, rfl, O7, b7⟩; refine ⟨⟨(X6.below b7 X6.lt).cell rfl, (J6.below b7 J6.lt).cell rfl⟩, ?_⟩); (try simp only [Act.put, zs0, zs1, zs2]))
      have X7 := X6.below b7 X6.lt
      have J7 := J6.below b7 J6.lt
      have B7 := B6.trans (b7.mono B6.size)
      have hH7 : w7.cell? ⟨b5, 2, none⟩ = some (.int .u64 s0) ∧ w7.cell? ⟨bj, 2, none⟩ = some (.int .i64 g) := ⟨X7.cell rfl, J7.cell rfl⟩
      (refine wpH_t 14 _ (by exact gE rfl) (by kernel_rfl) (by intro _ _ _ h; exact h) (Or.inl ⟨by rfl, (by intro _ h; (try dsimp only at h); go_simp; first | done | with_reducible rfl)⟩) (by assumption) ?_; (try simp only [Act.put, zs0, zs1, zs2]))
      (refine wpH_t 15 _ (by exact gE rfl) (by kernel_rfl) (by intro _ _ _ h; exact h) (Or.inl ⟨by rfl, (by intro _ h; (try dsimp only at h); go_simp; first | done | with_reducible rfl)⟩) (by assumption) ?_; (try simp only [Act.put, zs0, zs1, zs2]))
      (refine wpH_t 16 _ (by exact gE rfl) (by kernel_rfl) (by intro _ _ _ h; exact h) (Or.inl ⟨by rfl, (by intro _ h; (try dsimp only at h); go_simp; first | done | with_reducible rfl)⟩) (by assumption) ?_; (try simp only [Act.put, zs0, zs1, zs2]))
      (refine wpH_t 17 _ (by exact gE rfl) (by kernel_rfl) (by intro _ _ _ h; exact h) (Or.inl ⟨by rfl, (by intro _ h; (try dsimp only at h); go_simp; first | done | with_reducible rfl)⟩) (by assumption) ?_; (try simp only [Act.put, zs0, zs1, zs2]))
      refine wpH_done (by kernel_rfl) ?_ _
      have O7' := O7.wide (lo' := w.heap.size) B6.size
      clear hE hHeld q0 q1 hH6 hH7 X6 J6 O6 B6 b6 b7 hX hJ hO hB O7
      go_wp2_with fail
      exact ⟨⟨3, by omega, rfl, ⟨A7, c7, _, rfl, rfl, O7'⟩, X7, J7, B7⟩, by simp [intOf] <;> decide⟩
    · skip
      obtain rfl : N = 36 := hN
      have q0 := hX.drew.cell (i := 3) (v := .int .u64 s1) rfl
      have q1 := hJ.drew.cell (i := 2) (v := .int .i64 g) rfl
      go_wp2_with fail
      refine wp_region_heldL (fun y => y.cell? ⟨b5, 3, none⟩ = some (.int .u64 s1) ∧ y.cell? ⟨bj, 2, none⟩ = some (.int .i64 g)) 18 (by kernel_rfl) rfl ⟨q0, q1⟩ fun hHeld => ?_
      simp only [List.replicate]
      (refine wpH_t 0 _ (by exact gE rfl) (by kernel_rfl) (by intro _ _ _ h; exact h) (Or.inl ⟨by rfl, (by intro _ h; (try dsimp only at h); go_simp; first | done | with_reducible rfl)⟩) (by assumption) ?_; (try simp only [Act.put, zs0, zs1, zs2]))
      (refine wpH_t 1 _ (by exact gE rfl) (by kernel_rfl) (by intro _ _ _ h; exact h) (Or.inl ⟨by rfl, (by intro _ h; (try dsimp only at h); go_simp; first | done | with_reducible rfl)⟩) (by assumption) ?_; (try simp only [Act.put, zs0, zs1, zs2]))
      (refine wpH_t 2 _ (by exact gE rfl) (by kernel_rfl) (by intro _ _ _ h; exact h) (Or.inl ⟨by rfl, (by intro _ h; (try dsimp only at h); go_simp; first | done | with_reducible rfl)⟩) (by assumption) ?_; (try simp only [Act.put, zs0, zs1, zs2]))
      (refine wpH_t 3 _ (by exact gE rfl) (by kernel_rfl) (by intro _ _ _ h; exact h) (Or.inl ⟨by rfl, (by intro _ h; (try dsimp only at h); go_simp; first | done | with_reducible rfl)⟩) (by assumption) ?_; (try simp only [Act.put, zs0, zs1, zs2]))
      (refine wpH_t 4 _ (by exact gE rfl) (by kernel_rfl) (by intro _ _ _ h; exact h) (Or.inl ⟨by rfl, (by intro _ h; (try dsimp only at h); go_simp; first | done | with_reducible rfl)⟩) (by assumption) ?_; (try simp only [Act.put, zs0, zs1, zs2]))
      (refine wpH_t 5 _ (by exact gE rfl) (by kernel_rfl) (by intro _ _ _ h; exact h) (Or.inl ⟨by rfl, (by intro _ h; (try dsimp only at h); go_simp; first | done | with_reducible rfl)⟩) (by assumption) ?_; (try simp only [Act.put, zs0, zs1, zs2]))
      (refine wpH_t 6 _ (by exact gE rfl) (by kernel_rfl) (by intro _ _ _ h; exact h) (Or.inl ⟨by rfl, (by intro _ h; (try dsimp only at h); go_simp; first | done | with_reducible rfl)⟩) (by assumption) ?_; (try simp only [Act.put, zs0, zs1, zs2]))
      (refine wpH_t 7 _ (by exact gE rfl) (by kernel_rfl) (by intro _ _ _ h; exact h) (Or.inl ⟨by rfl, (by intro _ h; (try dsimp only at h); go_simp; first | done | with_reducible rfl)⟩) (by assumption) ?_; (try simp only [Act.put, zs0, zs1, zs2]))
      (refine wpH_t 8 _ (by exact gE rfl) (by kernel_rfl) (by intro _ _ _ h; exact h) (Or.inl ⟨by rfl, (by intro _ h; (try dsimp only at h); go_simp; first | done | with_reducible rfl)⟩) (by assumption) ?_; (try simp only [Act.put, zs0, zs1, zs2]))
      (refine wpH_t 9 _ (by exact gE rfl) (by kernel_rfl) (by intro _ _ _ h; exact h) (Or.inl ⟨by rfl, (by intro _ h; (try dsimp only at h); go_simp; first | done | with_reducible rfl)⟩) (by assumption) ?_; (try simp only [Act.put, zs0, zs1, zs2]))
      (refine wpH_t 10 _ (by exact gE rfl) (by kernel_rfl) (by intro _ _ _ h; exact h) (Or.inl ⟨by rfl, (by intro _ h; (try dsimp only at h); go_simp; first | done | with_reducible rfl)⟩) (by assumption) ?_; (try simp only [Act.put, zs0, zs1, zs2]))
      (refine wpH_one (i := 11) (by exact gE rfl) (by kernel_rfl) (by rfl) ?_; (go_simp; (with_reducible refine (hP3 wo.drew hJ.drew).mono ?_); rintro e w6 ⟨rfl, b6⟩; refine ⟨⟨(hX.drew.below b6 hX.lt).cell rfl, (hJ.drew.below b6 hJ.lt).cell rfl⟩, ?_⟩); (try simp only [Act.put, zs0, zs1, zs2]))
      have X6 := hX.drew.below b6 hX.lt
      have J6 := hJ.drew.below b6 hJ.lt
      have O6 := hO.drew.below b6 (Nat.le_refl _)
      have B6 := hB.drew.trans (b6.mono zo)
      have hH6 : w6.cell? ⟨b5, 3, none⟩ = some (.int .u64 s1) ∧ w6.cell? ⟨bj, 2, none⟩ = some (.int .i64 g) := ⟨X6.cell rfl, J6.cell rfl⟩
      (refine wpH_t 12 _ (by exact gE rfl) (by kernel_rfl) (by intro _ _ _ h; exact h) (Or.inl ⟨by rfl, (by intro _ h; (try dsimp only at h); go_simp; first | done | with_reducible rfl)⟩) (by assumption) ?_; (try simp only [Act.put, zs0, zs1, zs2]))
      have hE := rapp8 A 36 c _ _ (sbB g nonce y0 y1 y2 y3 3) y3 w6 HL.out.2.2.2.1 O6.bs (Nat.le_refl _) (by omega) (by obtain ⟨h0, h1⟩ := hy3; omega)
      (refine wpH_one (i := 13) (by exact gE rfl) (by kernel_rfl) (by rfl) ?_; (go_simp; (with_reducible refine hE.mono ?_); rintro e w7 ⟨A7, c7, rfl, O7, b7⟩; refine ⟨⟨(X6.below b7 X6.lt).cell rfl, (J6.below b7 J6.lt).cell rfl⟩, ?_⟩); (try simp only [Act.put, zs0, zs1, zs2]))
      have X7 := X6.below b7 X6.lt
      have J7 := J6.below b7 J6.lt
      have B7 := B6.trans (b7.mono B6.size)
      have hH7 : w7.cell? ⟨b5, 3, none⟩ = some (.int .u64 s1) ∧ w7.cell? ⟨bj, 2, none⟩ = some (.int .i64 g) := ⟨X7.cell rfl, J7.cell rfl⟩
      (refine wpH_t 14 _ (by exact gE rfl) (by kernel_rfl) (by intro _ _ _ h; exact h) (Or.inl ⟨by rfl, (by intro _ h; (try dsimp only at h); go_simp; first | done | with_reducible rfl)⟩) (by assumption) ?_; (try simp only [Act.put, zs0, zs1, zs2]))
      (refine wpH_t 15 _ (by exact gE rfl) (by kernel_rfl) (by intro _ _ _ h; exact h) (Or.inl ⟨by rfl, (by intro _ h; (try dsimp only at h); go_simp; first | done | with_reducible rfl)⟩) (by assumption) ?_; (try simp only [Act.put, zs0, zs1, zs2]))
      (refine wpH_t 16 _ (by exact gE rfl) (by kernel_rfl) (by intro _ _ _ h; exact h) (Or.inl ⟨by rfl, (by intro _ h; (try dsimp only at h); go_simp; first | done | with_reducible rfl)⟩) (by assumption) ?_; (try simp only [Act.put, zs0, zs1, zs2]))
      (refine wpH_t 17 _ (by exact gE rfl) (by kernel_rfl) (by intro _ _ _ h; exact h) (Or.inl ⟨by rfl, (by intro _ h; (try dsimp only at h); go_simp; first | done | with_reducible rfl)⟩) (by assumption) ?_; (try simp only [Act.put, zs0, zs1, zs2]))
      refine wpH_done (by kernel_rfl) ?_ _
      have O7' := O7.wide (lo' := w.heap.size) B6.size
      clear hE hHeld q0 q1 hH6 hH7 X6 J6 O6 B6 b6 b7 hX hJ hO hB O7
      go_wp2_with fail
      exact ⟨⟨4, by omega, rfl, ⟨A7, c7, _, rfl, rfl, O7'⟩, X7, J7, B7⟩, by simp [intOf] <;> decide⟩
    · obtain rfl : N = 44 := hN
      have hcl := hO.cap_le
      have hcm := hO.cap_max
      rw [HL.out.2.2.2.2] at hcl
      have hE := hT' A c wo hJ (hO.bs.wide (Nat.zero_le _) (Nat.le_refl _)) hcl hcm
      go_wp2_with (first | (refine wpl_loadf (by rfl) 3 _ (by rfl) bj 2 (by rfl) _ _ hJ _ rfl _ Tryd.underlying3 rfl ?_))
      with_reducible refine hE.mono ?_
      rintro e w6 ⟨rfl, b6⟩
      have O6 := hO.below b6 (Nat.le_refl _)
      have B6 := hB.trans (b6.mono zo)
      have hE2 := rapp8 A 44 c _ _ _ tg w6 HL.out.2.2.2.2 O6.bs (Nat.le_refl _) (by omega) (by obtain ⟨h0, h1⟩ := ht; omega)
      clear hE hO hJ hX hB b6
      go_wp2_with fail
      with_reducible refine hE2.mono ?_
      rintro e w7 ⟨A7, c7, rfl, O7, b7⟩
      go_wp2_with fail
      go_ret
      exact ⟨A7, c7, rfl, O7.wide B6.size, B6.trans (b7.mono B6.size)⟩
end Go.Proofs.YtachhbbofemfdaaDoor
