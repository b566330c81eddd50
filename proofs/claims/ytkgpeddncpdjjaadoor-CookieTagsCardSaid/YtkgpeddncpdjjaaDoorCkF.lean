/- The jar of cookies: the numbers combined with the pads, of the program. -/
import Derived.Test.YtkgpeddncpdjjaaDoorCkE
import Derived.Test.YtkgpeddncpdjjaaDoorDet2
namespace Go.Proofs.YtkgpeddncpdjjaaDoor
open Go.RowKit
set_option linter.unusedSimpArgs false
set_option linter.unusedVariables false
set_option maxRecDepth 100000
abbrev fourL (a b c d : Int) : List Value := [.int .u64 a, .int .u64 b, .int .u64 c, .int .u64 d]
abbrev fourV (a b c d : Int) : Value := .agg #[.int .u64 a, .int .u64 b, .int .u64 c, .int .u64 d]
def xr (a b : Int) : Int := bits .xor .u64 a b
theorem xr_u64 {a b : Int} (ha : U64 a) (hb : U64 b) : U64 (xr a b) := xor_u64 ha hb
theorem size4 : (Tryd.prog.info? 51).map (·.size) = some 4 := by kernel_rfl
theorem zero4 : (Tryd.prog.info? 51).map (·.zero) = some (some (fourV 0 0 0 0)) := by kernel_rfl
theorem zeroU64'' : (Tryd.prog.info? 22).map (·.size) = some 1 := by kernel_rfl
def mskL (x0 x1 x2 x3 y0 y1 y2 y3 : Int) : Nat → List Value
  | 0 => fourL x0 x1 x2 x3
  | 1 => fourL y0 x1 x2 x3
  | 2 => fourL y0 y1 x2 x3
  | 3 => fourL y0 y1 y2 x3
  | _ => fourL y0 y1 y2 y3
open Go.RowKit
set_option maxHeartbeats 16000000 in
theorem mask_any (bj : Nat) (s k g gg nonce x0 x1 x2 x3 : Int) (w : World) (hs : U64 s) (hg : Gn g) (hn : U64 nonce) (hJ : Blk w bj 50 (jarL s k gg)) (hR : Rnd w) :
    Calls Tryd.prog 24 #[.pointer (some ⟨bj, 0, none⟩), fourV x0 x1 x2 x3, .int .i64 g, .int .u64 nonce] w fun e w' => e = .returned (fourV (xr x0 (padF s g nonce 0)) (xr x1 (padF s g nonce 1)) (xr x2 (padF s g nonce 2)) (xr x3 (padF s g nonce 3))) ∧ Below w.heap.size w w' := by
  have hM := fun W hJ hr => master_any bj s k g gg W hs hg hJ hr
  have hw0 := hR.lt
  have hbj := hJ.lt
  have hk1 := mkA_u64 s g
  have hk2 := mkB_u64 s g
  have hD' := fun W A hB hr => derive_any (mkA s g) (mkB s g) A 3 3 padL W hk1 hk2 rfl hB (by omega) (by omega) (by omega) hr
  have hu1 : U64 (mixF (tagF (mkA s g) (mkB s g) padL) 1) := mixF_u64 _ _
  have e0 : padF s g nonce 0 = mixF (mixF (mixF (tagF (mkA s g) (mkB s g) padL) 1) nonce) 1 := rfl
  have e1 : padF s g nonce 1 = mixF (mixF (mixF (tagF (mkA s g) (mkB s g) padL) 1) nonce) 2 := rfl
  have e2 : padF s g nonce 2 = mixF (mixF (mixF (tagF (mkA s g) (mkB s g) padL) 1) nonce) 3 := rfl
  have e3 : padF s g nonce 3 = mixF (mixF (mixF (tagF (mkA s g) (mkB s g) padL) 1) nonce) 4 := rfl
  rw [e0, e1, e2, e3]
  clear e0 e1 e2 e3
  generalize mixF (tagF (mkA s g) (mkB s g) padL) 1 = d1 at hD' hu1 ⊢
  generalize mixF (tagF (mkA s g) (mkB s g) padL) 2 = d2 at hD'
  generalize mkA s g = m1 at hM hk1 hD'
  generalize mkB s g = m2 at hM hk2 hD'
  have hMn := fun W hr => mix_any d1 nonce W hu1 hn hr
  have hu2 : U64 (mixF d1 nonce) := mixF_u64 _ _
  generalize mixF d1 nonce = sd at hMn hu2 ⊢
  have hM0 := fun W hr => mix_any sd 1 W hu2 ⟨by omega, by omega⟩ hr
  have hM1 := fun W hr => mix_any sd 2 W hu2 ⟨by omega, by omega⟩ hr
  have hM2 := fun W hr => mix_any sd 3 W hu2 ⟨by omega, by omega⟩ hr
  have hM3 := fun W hr => mix_any sd 4 W hu2 ⟨by omega, by omega⟩ hr
  generalize mixF sd 1 = p0 at hM0 ⊢
  generalize mixF sd 2 = p1 at hM1 ⊢
  generalize mixF sd 3 = p2 at hM2 ⊢
  generalize mixF sd 4 = p3 at hM3 ⊢
  have hx0 : bits .xor .u64 x0 p0 = xr x0 p0 := rfl
  have hx1 : bits .xor .u64 x1 p1 = xr x1 p1 := rfl
  have hx2 : bits .xor .u64 x2 p2 = xr x2 p2 := rfl
  have hx3 : bits .xor .u64 x3 p3 = xr x3 p3 := rfl
  generalize xr x0 p0 = y0 at hx0 ⊢
  generalize xr x1 p1 = y1 at hx1 ⊢
  generalize xr x2 p2 = y2 at hx2 ⊢
  generalize xr x3 p3 = y3 at hx3 ⊢
  have hcv := conv_bs 112 97 100
  clear hs hg hk1 hk2 hu1 hn hu2
  go_enter Tryd.func24, Tryd.ntmps24
  go_wp2_with (first
    | ((refine wpl_box (by rfl) 51 _ (by rfl) _ (fourL x0 x1 x2 x3) (by rfl) rfl ?_; intro w1 X1 s1 b1); (have J1 := hJ.below b1 hbj); (have R1 := hR.below b1 hw0))
    | ((with_reducible show wpList _ _ _ (⟨some 8, _, _, _, _, _⟩ :: _) _ _); refine wpl_alloc (by rfl) 51 (by rfl) (fourV 0 0 0 0) (fourL 0 0 0 0) zero4 rfl ?_; intro w2 T2 s2 b2; (have X2 := X1.below b2 (by omega)); (have J2 := J1.below b2 (by omega)); (have R2 := R1.below b2 R1.lt))
    | (go_at_call 34; ((with_reducible refine (hM _ J2 R2).mono ?_); rintro e w3 ⟨rfl, b3⟩; (have X3 := X2.below b3 (by omega)); (have T3 := T2.below b3 (by omega)); (have R3 := R2.below b3 R2.lt); (have z3 := b3.size))))
  have b4 : Below w3.heap.size w3 (w3.alloc (.cells #[.int .u8 112, .int .u8 97, .int .u8 100] 5 (3, 4))) := (Below.refl _ w3).alloc (Nat.le_refl _) _
  have hE := hD' _ _ (bs3 (w := w3) bytPad) (R3.alloc _)
  have X4 := X3.below b4 (by omega)
  have T4 := T3.below b4 (by omega)
  have R4 := R3.below b4 R3.lt
  have B4 := ((b1.trans (b2.mono (by omega))).trans (b3.mono (by omega))).trans (b4.mono (by omega))
  have s4 : w3.heap.size < (w3.alloc (.cells #[.int .u8 112, .int .u8 97, .int .u8 100] 5 (3, 4))).heap.size := by simp
  obtain ⟨w4, hw4⟩ : ∃ w4, w4 = w3.alloc (.cells #[.int .u8 112, .int .u8 97, .int .u8 100] 5 (3, 4)) := ⟨_, rfl⟩
  rw [← hw4] at hE X4 T4 R4 B4 s4 ⊢
  clear hw4 hD' hM X3 T3 R3 X2 X1 J1 J2 R1 R2 T2 b1 b2 b3 b4 hJ hR hcv
  with_reducible refine hE.mono ?_
  rintro e w5 ⟨rfl, b5⟩
  have X5 := X4.below b5 (by omega)
  have T5 := T4.below b5 (by omega)
  have R5 := R4.below b5 R4.lt
  have B5 := B4.trans (b5.mono B4.size)
  have z5 := b5.size
  clear X4 T4 R4 B4 b5 hE
  go_wp2_with (first
    | (refine wpl_alloc (by rfl) 24 (by rfl) (keyV 0 0) (keyL 0 0) zeroKey rfl ?_; intro w6 D6 s6 b6)
    | (refine wpl_store (by rfl) 24 _ _ (by rfl) w5.heap.size (by rfl) _ (by rfl) (keyL d1 d2) rfl 24 _ D6 (show (2 : Nat) = 2 from rfl) _ sizeKey (by rfl) (by simp [Value.oneCell']) ?_; intro w7 D7 s7 g7; (have R7 := (R5.below b6 R5.lt).but g7 (by have := R5.lt; omega)))
    | (refine wpl_loadf (by rfl) 22 _ (by rfl) w5.heap.size 0 (by rfl) _ _ D7 _ rfl _ Tryd.underlying22 rfl ?_)
    | (go_at_call 35; ((with_reducible refine (hMn _ R7).mono ?_); rintro e w8 ⟨rfl, b8⟩)))
  have R8 := R7.below b8 R7.lt
  have X8 := ((X5.below b6 (by omega)).but g7 (by omega)).below b8 (by omega)
  have T8 := ((T5.below b6 (by omega)).but g7 (by omega)).below b8 (by omega)
  have B8 := ((B5.trans (b6.mono B5.size)).trans (g7.below (by have := B5.size; omega) B5.size)).trans (b8.mono (by have := B5.size; omega))
  clear X5 T5 R5 B5 b6 g7 b8 D6 D7 R7 hMn
  have hne : w.heap.size ≠ w1.heap.size := by omega
  have hw1 : w.heap.size < w1.heap.size := by omega
  generalize w1.heap.size = bt at T8 hne hw1 ⊢
  clear z5 s4 z3 s2 s1 s6 s7
  go_loopw [22] (fun i wr => ∃ k : Nat, k ≤ 4 ∧ i = .int .i64 k ∧ Blk wr w.heap.size 51 (mskL x0 x1 x2 x3 y0 y1 y2 y3 k) ∧ Blk wr bt 51 (fourL 0 0 0 0) ∧ Rnd wr ∧ Below w.heap.size w wr) (fun i _ => 4 - (intOf i).toNat)
  case atStart => exact ⟨0, by omega, rfl, X8, T8, R8, B8⟩
  case round =>
    obtain ⟨k, hk, rfl, hX, hT, hR, hB⟩ := hrel
    obtain ⟨wo, rfl⟩ : ∃ wo : World, wo = wr := ⟨wr, rfl⟩
    clear X8 T8 R8 B8
    have : k = 0 ∨ k = 1 ∨ k = 2 ∨ k = 3 ∨ k = 4 := by omega
    rcases this with rfl | rfl | rfl | rfl | rfl
    · skip
      have q1 := hX.drew
      have q2 := hR.drew
      have q0 := q1.cell (i := 0) (v := .int .u64 x0) rfl
      have hwk : IntKind.u64.wrap (IntKind.u64.wrap 0 + 1) = 1 := by decide
      go_wp2_with fail
      refine wp_region_heldL (fun y => 0 < y.heap.size) 11 (by kernel_rfl) rfl q2.lt fun hHeld => ?_
      simp only [List.replicate]
      (refine wpH_take (i := 0) (v := _) (by simp only [List.getElem?_toArray, List.getElem?_cons_succ, List.getElem?_cons_zero]; rfl) (by kernel_rfl) (by kernel_rfl) (by kernel_rfl) (by intro _ _ _ h; exact h) (Or.inl ⟨by rfl, (by intro w' hSw; (try dsimp only at hSw); go_simp; first | done | with_reducible rfl)⟩) (by assumption) ?_; (try simp only [Act.put, List.setIfInBounds_toArray, List.set_cons_zero, List.set_cons_succ]))
      (refine wpH_take (i := 1) (v := _) (by simp only [List.getElem?_toArray, List.getElem?_cons_succ, List.getElem?_cons_zero]; rfl) (by kernel_rfl) (by kernel_rfl) (by kernel_rfl) (by intro _ _ _ h; exact h) (Or.inl ⟨by rfl, (by intro w' hSw; (try dsimp only at hSw); go_simp; first | done | with_reducible rfl)⟩) (by assumption) ?_; (try simp only [Act.put, List.setIfInBounds_toArray, List.set_cons_zero, List.set_cons_succ]))
      (refine wpH_take (i := 3) (v := _) (by simp only [List.getElem?_toArray, List.getElem?_cons_succ, List.getElem?_cons_zero]; rfl) (by kernel_rfl) (by kernel_rfl) (by kernel_rfl) (by intro _ _ _ h; exact h) (Or.inl ⟨by rfl, (by intro w' hSw; (try dsimp only at hSw); go_simp; first | done | with_reducible rfl)⟩) (by assumption) ?_; (try simp only [Act.put, List.setIfInBounds_toArray, List.set_cons_zero, List.set_cons_succ]))
      (refine wpH_take (i := 4) (v := _) (by simp only [List.getElem?_toArray, List.getElem?_cons_succ, List.getElem?_cons_zero]; rfl) (by kernel_rfl) (by kernel_rfl) (by kernel_rfl) (by intro _ _ _ h; exact h) (Or.inl ⟨by rfl, (by intro w' hSw; (try dsimp only at hSw); go_simp; first | done | with_reducible rfl)⟩) (by assumption) ?_; (try simp only [Act.put, List.setIfInBounds_toArray, List.set_cons_zero, List.set_cons_succ]))
      (refine wpH_take (i := 5) (v := _) (by simp only [List.getElem?_toArray, List.getElem?_cons_succ, List.getElem?_cons_zero]; rfl) (by kernel_rfl) (by kernel_rfl) (by kernel_rfl) (by intro _ _ _ h; exact h) (Or.inl ⟨by rfl, (by intro w' hSw; (try dsimp only at hSw); go_simp; first | done | with_reducible rfl)⟩) (by assumption) ?_; (try simp only [Act.put, List.setIfInBounds_toArray, List.set_cons_zero, List.set_cons_succ]))
      (refine wpH_take (i := 6) (v := _) (by simp only [List.getElem?_toArray, List.getElem?_cons_succ, List.getElem?_cons_zero]; rfl) (by kernel_rfl) (by kernel_rfl) (by kernel_rfl) (by intro _ _ _ h; exact h) (Or.inl ⟨by rfl, (by intro w' hSw; (try dsimp only at hSw); go_simp; first | done | with_reducible rfl)⟩) (by assumption) ?_; (try simp only [Act.put, List.setIfInBounds_toArray, List.set_cons_zero, List.set_cons_succ]))
      refine wpH_two (i := 2) (j := 7) (by simp only [List.getElem?_toArray, List.getElem?_cons_succ, List.getElem?_cons_zero]; rfl) (by simp only [List.getElem?_toArray, List.getElem?_cons_succ, List.getElem?_cons_zero]; rfl) (by kernel_rfl) (by rfl) (by rfl) ?_ ?_
      · refine wp_loadf1 22 _ (by rfl) w.heap.size 0 (by rfl) (.int .u64 x0) q0 _ Tryd.underlying22 rfl ?_
        refine ⟨hHeld, ?_⟩
        (try simp only [Act.put, List.setIfInBounds_toArray, List.set_cons_zero, List.set_cons_succ])
        (refine wpH_one (i := 7) (by simp only [List.getElem?_toArray, List.getElem?_cons_succ, List.getElem?_cons_zero]; rfl) (by kernel_rfl) (by rfl) ?_; (go_simp; (with_reducible refine (hM0 wo.drew q2).mono ?_); rintro e w2 ⟨rfl, b2⟩; refine ⟨(q2.below b2 q2.lt).lt, ?_⟩); (try simp only [Act.put, List.setIfInBounds_toArray, List.set_cons_zero, List.set_cons_succ]))
        have J2 := q1.below b2 q1.lt
        have R2 := q2.below b2 q2.lt
        have hH2 := R2.lt
        have T2 := hT.drew.below b2 hT.lt
        have B2 := hB.drew.trans (b2.mono hB.size)
        have z2 : wo.heap.size ≤ w2.heap.size := b2.size
        (refine wpH_take (i := 8) (v := _) (by simp only [List.getElem?_toArray, List.getElem?_cons_succ, List.getElem?_cons_zero]; rfl) (by kernel_rfl) (by kernel_rfl) (by kernel_rfl) (by intro _ _ _ h; exact h) (Or.inl ⟨by rfl, (by intro w' hSw; (try dsimp only at hSw); go_simp; first | done | with_reducible rfl)⟩) (by assumption) ?_; (try simp only [Act.put, List.setIfInBounds_toArray, List.set_cons_zero, List.set_cons_succ]))
        (refine wpH_take (i := 9) (v := _) (by simp only [List.getElem?_toArray, List.getElem?_cons_succ, List.getElem?_cons_zero]; rfl) (by kernel_rfl) (by kernel_rfl) (by kernel_rfl) (by intro _ _ _ h; exact h) (Or.inl ⟨by rfl, (by intro w' hSw; (try dsimp only at hSw); go_simp; first | done | with_reducible rfl)⟩) (by assumption) ?_; (try simp only [Act.put, List.setIfInBounds_toArray, List.set_cons_zero, List.set_cons_succ]))
        obtain ⟨w3, hw3⟩ : ∃ w3, w3 = w2.setCell ⟨w.heap.size, 0, none⟩ (.int .u64 y0) := ⟨_, rfl⟩
        have J3 : Blk w3 w.heap.size 51 (fourL y0 x1 x2 x3) := by rw [hw3]; exact J2.set 0 _
        have G3 : But w.heap.size w2 w3 := by rw [hw3]; exact but_setCell _ _ _ _
        (refine wpH_one (i := 10) (by simp only [List.getElem?_toArray, List.getElem?_cons_succ, List.getElem?_cons_zero]; rfl) (by kernel_rfl) (by rfl) ?_; (refine wp_storef1 22 (.tmp 34) (.tmp 33) (by rfl) w.heap.size 0 (by rfl) (.int .u64 y0) (by rfl) (by rfl) (by simp [Value.oneCell']) 51 _ J2 (show 0 < 4 by omega) zeroU64'' ?_; rw [← hw3]; refine ⟨by have := J3.lt; omega, ?_⟩); (try simp only [Act.put, List.setIfInBounds_toArray, List.set_cons_zero, List.set_cons_succ]))
        refine wpH_done (by kernel_rfl) ?_ _
        have T3 := T2.but G3 (Ne.symm hne)
        have R3 := R2.but G3 (by have := R2.lt; omega)
        have B3 := B2.trans (G3.below B2.size (Nat.le_refl _))
        clear hHeld q0 q1 q2 hX hT hR hB J2 R2 T2 B2 G3 hw3 b2
        go_wp2_with fail
        exact ⟨⟨1, by omega, rfl, J3, T3, R3, B3⟩, by simp [intOf] <;> decide⟩
      · go_simp
        with_reducible refine (hM0 wo.drew q2).mono ?_
        rintro e w2 ⟨rfl, b2⟩
        refine ⟨(q2.below b2 q2.lt).lt, ?_⟩
        (try simp only [Act.put, List.setIfInBounds_toArray, List.set_cons_zero, List.set_cons_succ])
        have q3 := (q1.below b2 q1.lt).cell (i := 0) (v := .int .u64 x0) rfl
        (refine wpH_one (i := 2) (by simp only [List.getElem?_toArray, List.getElem?_cons_succ, List.getElem?_cons_zero]; rfl) (by kernel_rfl) (by rfl) ?_; (refine wp_loadf1 22 _ (by rfl) w.heap.size 0 (by rfl) (.int .u64 x0) q3 _ Tryd.underlying22 rfl ?_; refine ⟨(q2.below b2 q2.lt).lt, ?_⟩); (try simp only [Act.put, List.setIfInBounds_toArray, List.set_cons_zero, List.set_cons_succ]))
        have J2 := q1.below b2 q1.lt
        have R2 := q2.below b2 q2.lt
        have hH2 := R2.lt
        have T2 := hT.drew.below b2 hT.lt
        have B2 := hB.drew.trans (b2.mono hB.size)
        have z2 : wo.heap.size ≤ w2.heap.size := b2.size
        (refine wpH_take (i := 8) (v := _) (by simp only [List.getElem?_toArray, List.getElem?_cons_succ, List.getElem?_cons_zero]; rfl) (by kernel_rfl) (by kernel_rfl) (by kernel_rfl) (by intro _ _ _ h; exact h) (Or.inl ⟨by rfl, (by intro w' hSw; (try dsimp only at hSw); go_simp; first | done | with_reducible rfl)⟩) (by assumption) ?_; (try simp only [Act.put, List.setIfInBounds_toArray, List.set_cons_zero, List.set_cons_succ]))
        (refine wpH_take (i := 9) (v := _) (by simp only [List.getElem?_toArray, List.getElem?_cons_succ, List.getElem?_cons_zero]; rfl) (by kernel_rfl) (by kernel_rfl) (by kernel_rfl) (by intro _ _ _ h; exact h) (Or.inl ⟨by rfl, (by intro w' hSw; (try dsimp only at hSw); go_simp; first | done | with_reducible rfl)⟩) (by assumption) ?_; (try simp only [Act.put, List.setIfInBounds_toArray, List.set_cons_zero, List.set_cons_succ]))
        obtain ⟨w3, hw3⟩ : ∃ w3, w3 = w2.setCell ⟨w.heap.size, 0, none⟩ (.int .u64 y0) := ⟨_, rfl⟩
        have J3 : Blk w3 w.heap.size 51 (fourL y0 x1 x2 x3) := by rw [hw3]; exact J2.set 0 _
        have G3 : But w.heap.size w2 w3 := by rw [hw3]; exact but_setCell _ _ _ _
        (refine wpH_one (i := 10) (by simp only [List.getElem?_toArray, List.getElem?_cons_succ, List.getElem?_cons_zero]; rfl) (by kernel_rfl) (by rfl) ?_; (refine wp_storef1 22 (.tmp 34) (.tmp 33) (by rfl) w.heap.size 0 (by rfl) (.int .u64 y0) (by rfl) (by rfl) (by simp [Value.oneCell']) 51 _ J2 (show 0 < 4 by omega) zeroU64'' ?_; rw [← hw3]; refine ⟨by have := J3.lt; omega, ?_⟩); (try simp only [Act.put, List.setIfInBounds_toArray, List.set_cons_zero, List.set_cons_succ]))
        refine wpH_done (by kernel_rfl) ?_ _
        have T3 := T2.but G3 (Ne.symm hne)
        have R3 := R2.but G3 (by have := R2.lt; omega)
        have B3 := B2.trans (G3.below B2.size (Nat.le_refl _))
        clear hHeld q0 q1 q2 hX hT hR hB J2 R2 T2 B2 G3 hw3 b2
        go_wp2_with fail
        exact ⟨⟨1, by omega, rfl, J3, T3, R3, B3⟩, by simp [intOf] <;> decide⟩
    · skip
      have q1 := hX.drew
      have q2 := hR.drew
      have q0 := q1.cell (i := 1) (v := .int .u64 x1) rfl
      have hwk : IntKind.u64.wrap (IntKind.u64.wrap 1 + 1) = 2 := by decide
      go_wp2_with fail
      refine wp_region_heldL (fun y => 0 < y.heap.size) 11 (by kernel_rfl) rfl q2.lt fun hHeld => ?_
      simp only [List.replicate]
      (refine wpH_take (i := 0) (v := _) (by simp only [List.getElem?_toArray, List.getElem?_cons_succ, List.getElem?_cons_zero]; rfl) (by kernel_rfl) (by kernel_rfl) (by kernel_rfl) (by intro _ _ _ h; exact h) (Or.inl ⟨by rfl, (by intro w' hSw; (try dsimp only at hSw); go_simp; first | done | with_reducible rfl)⟩) (by assumption) ?_; (try simp only [Act.put, List.setIfInBounds_toArray, List.set_cons_zero, List.set_cons_succ]))
      (refine wpH_take (i := 1) (v := _) (by simp only [List.getElem?_toArray, List.getElem?_cons_succ, List.getElem?_cons_zero]; rfl) (by kernel_rfl) (by kernel_rfl) (by kernel_rfl) (by intro _ _ _ h; exact h) (Or.inl ⟨by rfl, (by intro w' hSw; (try dsimp only at hSw); go_simp; first | done | with_reducible rfl)⟩) (by assumption) ?_; (try simp only [Act.put, List.setIfInBounds_toArray, List.set_cons_zero, List.set_cons_succ]))
      (refine wpH_take (i := 3) (v := _) (by simp only [List.getElem?_toArray, List.getElem?_cons_succ, List.getElem?_cons_zero]; rfl) (by kernel_rfl) (by kernel_rfl) (by kernel_rfl) (by intro _ _ _ h; exact h) (Or.inl ⟨by rfl, (by intro w' hSw; (try dsimp only at hSw); go_simp; first | done | with_reducible rfl)⟩) (by assumption) ?_; (try simp only [Act.put, List.setIfInBounds_toArray, List.set_cons_zero, List.set_cons_succ]))
      (refine wpH_take (i := 4) (v := _) (by simp only [List.getElem?_toArray, List.getElem?_cons_succ, List.getElem?_cons_zero]; rfl) (by kernel_rfl) (by kernel_rfl) (by kernel_rfl) (by intro _ _ _ h; exact h) (Or.inl ⟨by rfl, (by intro w' hSw; (try dsimp only at hSw); go_simp; first | done | with_reducible rfl)⟩) (by assumption) ?_; (try simp only [Act.put, List.setIfInBounds_toArray, List.set_cons_zero, List.set_cons_succ]))
      (refine wpH_take (i := 5) (v := _) (by simp only [List.getElem?_toArray, List.getElem?_cons_succ, List.getElem?_cons_zero]; rfl) (by kernel_rfl) (by kernel_rfl) (by kernel_rfl) (by intro _ _ _ h; exact h) (Or.inl ⟨by rfl, (by intro w' hSw; (try dsimp only at hSw); go_simp; first | done | with_reducible rfl)⟩) (by assumption) ?_; (try simp only [Act.put, List.setIfInBounds_toArray, List.set_cons_zero, List.set_cons_succ]))
      (refine wpH_take (i := 6) (v := _) (by simp only [List.getElem?_toArray, List.getElem?_cons_succ, List.getElem?_cons_zero]; rfl) (by kernel_rfl) (by kernel_rfl) (by kernel_rfl) (by intro _ _ _ h; exact h) (Or.inl ⟨by rfl, (by intro w' hSw; (try dsimp only at hSw); go_simp; first | done | with_reducible rfl)⟩) (by assumption) ?_; (try simp only [Act.put, List.setIfInBounds_toArray, List.set_cons_zero, List.set_cons_succ]))
      refine wpH_two (i := 2) (j := 7) (by simp only [List.getElem?_toArray, List.getElem?_cons_succ, List.getElem?_cons_zero]; rfl) (by simp only [List.getElem?_toArray, List.getElem?_cons_succ, List.getElem?_cons_zero]; rfl) (by kernel_rfl) (by rfl) (by rfl) ?_ ?_
      · refine wp_loadf1 22 _ (by rfl) w.heap.size 1 (by rfl) (.int .u64 x1) q0 _ Tryd.underlying22 rfl ?_
        refine ⟨hHeld, ?_⟩
        (try simp only [Act.put, List.setIfInBounds_toArray, List.set_cons_zero, List.set_cons_succ])
        (refine wpH_one (i := 7) (by simp only [List.getElem?_toArray, List.getElem?_cons_succ, List.getElem?_cons_zero]; rfl) (by kernel_rfl) (by rfl) ?_; (go_simp; (with_reducible refine (hM1 wo.drew q2).mono ?_); rintro e w2 ⟨rfl, b2⟩; refine ⟨(q2.below b2 q2.lt).lt, ?_⟩); (try simp only [Act.put, List.setIfInBounds_toArray, List.set_cons_zero, List.set_cons_succ]))
        have J2 := q1.below b2 q1.lt
        have R2 := q2.below b2 q2.lt
        have hH2 := R2.lt
        have T2 := hT.drew.below b2 hT.lt
        have B2 := hB.drew.trans (b2.mono hB.size)
        have z2 : wo.heap.size ≤ w2.heap.size := b2.size
        (refine wpH_take (i := 8) (v := _) (by simp only [List.getElem?_toArray, List.getElem?_cons_succ, List.getElem?_cons_zero]; rfl) (by kernel_rfl) (by kernel_rfl) (by kernel_rfl) (by intro _ _ _ h; exact h) (Or.inl ⟨by rfl, (by intro w' hSw; (try dsimp only at hSw); go_simp; first | done | with_reducible rfl)⟩) (by assumption) ?_; (try simp only [Act.put, List.setIfInBounds_toArray, List.set_cons_zero, List.set_cons_succ]))
        (refine wpH_take (i := 9) (v := _) (by simp only [List.getElem?_toArray, List.getElem?_cons_succ, List.getElem?_cons_zero]; rfl) (by kernel_rfl) (by kernel_rfl) (by kernel_rfl) (by intro _ _ _ h; exact h) (Or.inl ⟨by rfl, (by intro w' hSw; (try dsimp only at hSw); go_simp; first | done | with_reducible rfl)⟩) (by assumption) ?_; (try simp only [Act.put, List.setIfInBounds_toArray, List.set_cons_zero, List.set_cons_succ]))
        obtain ⟨w3, hw3⟩ : ∃ w3, w3 = w2.setCell ⟨w.heap.size, 1, none⟩ (.int .u64 y1) := ⟨_, rfl⟩
        have J3 : Blk w3 w.heap.size 51 (fourL y0 y1 x2 x3) := by rw [hw3]; exact J2.set 1 _
        have G3 : But w.heap.size w2 w3 := by rw [hw3]; exact but_setCell _ _ _ _
        (refine wpH_one (i := 10) (by simp only [List.getElem?_toArray, List.getElem?_cons_succ, List.getElem?_cons_zero]; rfl) (by kernel_rfl) (by rfl) ?_; (refine wp_storef1 22 (.tmp 34) (.tmp 33) (by rfl) w.heap.size 1 (by rfl) (.int .u64 y1) (by rfl) (by rfl) (by simp [Value.oneCell']) 51 _ J2 (show 1 < 4 by omega) zeroU64'' ?_; rw [← hw3]; refine ⟨by have := J3.lt; omega, ?_⟩); (try simp only [Act.put, List.setIfInBounds_toArray, List.set_cons_zero, List.set_cons_succ]))
        refine wpH_done (by kernel_rfl) ?_ _
        have T3 := T2.but G3 (Ne.symm hne)
        have R3 := R2.but G3 (by have := R2.lt; omega)
        have B3 := B2.trans (G3.below B2.size (Nat.le_refl _))
        clear hHeld q0 q1 q2 hX hT hR hB J2 R2 T2 B2 G3 hw3 b2
        go_wp2_with fail
        exact ⟨⟨2, by omega, rfl, J3, T3, R3, B3⟩, by simp [intOf] <;> decide⟩
      · go_simp
        with_reducible refine (hM1 wo.drew q2).mono ?_
        rintro e w2 ⟨rfl, b2⟩
        refine ⟨(q2.below b2 q2.lt).lt, ?_⟩
        (try simp only [Act.put, List.setIfInBounds_toArray, List.set_cons_zero, List.set_cons_succ])
        have q3 := (q1.below b2 q1.lt).cell (i := 1) (v := .int .u64 x1) rfl
        (refine wpH_one (i := 2) (by simp only [List.getElem?_toArray, List.getElem?_cons_succ, List.getElem?_cons_zero]; rfl) (by kernel_rfl) (by rfl) ?_; (refine wp_loadf1 22 _ (by rfl) w.heap.size 1 (by rfl) (.int .u64 x1) q3 _ Tryd.underlying22 rfl ?_; refine ⟨(q2.below b2 q2.lt).lt, ?_⟩); (try simp only [Act.put, List.setIfInBounds_toArray, List.set_cons_zero, List.set_cons_succ]))
        have J2 := q1.below b2 q1.lt
        have R2 := q2.below b2 q2.lt
        have hH2 := R2.lt
        have T2 := hT.drew.below b2 hT.lt
        have B2 := hB.drew.trans (b2.mono hB.size)
        have z2 : wo.heap.size ≤ w2.heap.size := b2.size
        (refine wpH_take (i := 8) (v := _) (by simp only [List.getElem?_toArray, List.getElem?_cons_succ, List.getElem?_cons_zero]; rfl) (by kernel_rfl) (by kernel_rfl) (by kernel_rfl) (by intro _ _ _ h; exact h) (Or.inl ⟨by rfl, (by intro w' hSw; (try dsimp only at hSw); go_simp; first | done | with_reducible rfl)⟩) (by assumption) ?_; (try simp only [Act.put, List.setIfInBounds_toArray, List.set_cons_zero, List.set_cons_succ]))
        (refine wpH_take (i := 9) (v := _) (by simp only [List.getElem?_toArray, List.getElem?_cons_succ, List.getElem?_cons_zero]; rfl) (by kernel_rfl) (by kernel_rfl) (by kernel_rfl) (by intro _ _ _ h; exact h) (Or.inl ⟨by rfl, (by intro w' hSw; (try dsimp only at hSw); go_simp; first | done | with_reducible rfl)⟩) (by assumption) ?_; (try simp only [Act.put, List.setIfInBounds_toArray, List.set_cons_zero, List.set_cons_succ]))
        obtain ⟨w3, hw3⟩ : ∃ w3, w3 = w2.setCell ⟨w.heap.size, 1, none⟩ (.int .u64 y1) := ⟨_, rfl⟩
        have J3 : Blk w3 w.heap.size 51 (fourL y0 y1 x2 x3) := by rw [hw3]; exact J2.set 1 _
        have G3 : But w.heap.size w2 w3 := by rw [hw3]; exact but_setCell _ _ _ _
        (refine wpH_one (i := 10) (by simp only [List.getElem?_toArray, List.getElem?_cons_succ, List.getElem?_cons_zero]; rfl) (by kernel_rfl) (by rfl) ?_; (refine wp_storef1 22 (.tmp 34) (.tmp 33) (by rfl) w.heap.size 1 (by rfl) (.int .u64 y1) (by rfl) (by rfl) (by simp [Value.oneCell']) 51 _ J2 (show 1 < 4 by omega) zeroU64'' ?_; rw [← hw3]; refine ⟨by have := J3.lt; omega, ?_⟩); (try simp only [Act.put, List.setIfInBounds_toArray, List.set_cons_zero, List.set_cons_succ]))
        refine wpH_done (by kernel_rfl) ?_ _
        have T3 := T2.but G3 (Ne.symm hne)
        have R3 := R2.but G3 (by have := R2.lt; omega)
        have B3 := B2.trans (G3.below B2.size (Nat.le_refl _))
        clear hHeld q0 q1 q2 hX hT hR hB J2 R2 T2 B2 G3 hw3 b2
        go_wp2_with fail
        exact ⟨⟨2, by omega, rfl, J3, T3, R3, B3⟩, by simp [intOf] <;> decide⟩
    · skip
      have q1 := hX.drew
      have q2 := hR.drew
      have q0 := q1.cell (i := 2) (v := .int .u64 x2) rfl
      have hwk : IntKind.u64.wrap (IntKind.u64.wrap 2 + 1) = 3 := by decide
      go_wp2_with fail
      refine wp_region_heldL (fun y => 0 < y.heap.size) 11 (by kernel_rfl) rfl q2.lt fun hHeld => ?_
      simp only [List.replicate]
      (refine wpH_take (i := 0) (v := _) (by simp only [List.getElem?_toArray, List.getElem?_cons_succ, List.getElem?_cons_zero]; rfl) (by kernel_rfl) (by kernel_rfl) (by kernel_rfl) (by intro _ _ _ h; exact h) (Or.inl ⟨by rfl, (by intro w' hSw; (try dsimp only at hSw); go_simp; first | done | with_reducible rfl)⟩) (by assumption) ?_; (try simp only [Act.put, List.setIfInBounds_toArray, List.set_cons_zero, List.set_cons_succ]))
      (refine wpH_take (i := 1) (v := _) (by simp only [List.getElem?_toArray, List.getElem?_cons_succ, List.getElem?_cons_zero]; rfl) (by kernel_rfl) (by kernel_rfl) (by kernel_rfl) (by intro _ _ _ h; exact h) (Or.inl ⟨by rfl, (by intro w' hSw; (try dsimp only at hSw); go_simp; first | done | with_reducible rfl)⟩) (by assumption) ?_; (try simp only [Act.put, List.setIfInBounds_toArray, List.set_cons_zero, List.set_cons_succ]))
      (refine wpH_take (i := 3) (v := _) (by simp only [List.getElem?_toArray, List.getElem?_cons_succ, List.getElem?_cons_zero]; rfl) (by kernel_rfl) (by kernel_rfl) (by kernel_rfl) (by intro _ _ _ h; exact h) (Or.inl ⟨by rfl, (by intro w' hSw; (try dsimp only at hSw); go_simp; first | done | with_reducible rfl)⟩) (by assumption) ?_; (try simp only [Act.put, List.setIfInBounds_toArray, List.set_cons_zero, List.set_cons_succ]))
      (refine wpH_take (i := 4) (v := _) (by simp only [List.getElem?_toArray, List.getElem?_cons_succ, List.getElem?_cons_zero]; rfl) (by kernel_rfl) (by kernel_rfl) (by kernel_rfl) (by intro _ _ _ h; exact h) (Or.inl ⟨by rfl, (by intro w' hSw; (try dsimp only at hSw); go_simp; first | done | with_reducible rfl)⟩) (by assumption) ?_; (try simp only [Act.put, List.setIfInBounds_toArray, List.set_cons_zero, List.set_cons_succ]))
      (refine wpH_take (i := 5) (v := _) (by simp only [List.getElem?_toArray, List.getElem?_cons_succ, List.getElem?_cons_zero]; rfl) (by kernel_rfl) (by kernel_rfl) (by kernel_rfl) (by intro _ _ _ h; exact h) (Or.inl ⟨by rfl, (by intro w' hSw; (try dsimp only at hSw); go_simp; first | done | with_reducible rfl)⟩) (by assumption) ?_; (try simp only [Act.put, List.setIfInBounds_toArray, List.set_cons_zero, List.set_cons_succ]))
      (refine wpH_take (i := 6) (v := _) (by simp only [List.getElem?_toArray, List.getElem?_cons_succ, List.getElem?_cons_zero]; rfl) (by kernel_rfl) (by kernel_rfl) (by kernel_rfl) (by intro _ _ _ h; exact h) (Or.inl ⟨by rfl, (by intro w' hSw; (try dsimp only at hSw); go_simp; first | done | with_reducible rfl)⟩) (by assumption) ?_; (try simp only [Act.put, List.setIfInBounds_toArray, List.set_cons_zero, List.set_cons_succ]))
      refine wpH_two (i := 2) (j := 7) (by simp only [List.getElem?_toArray, List.getElem?_cons_succ, List.getElem?_cons_zero]; rfl) (by simp only [List.getElem?_toArray, List.getElem?_cons_succ, List.getElem?_cons_zero]; rfl) (by kernel_rfl) (by rfl) (by rfl) ?_ ?_
      · refine wp_loadf1 22 _ (by rfl) w.heap.size 2 (by rfl) (.int .u64 x2) q0 _ Tryd.underlying22 rfl ?_
        refine ⟨hHeld, ?_⟩
        (try simp only [Act.put, List.setIfInBounds_toArray, List.set_cons_zero, List.set_cons_succ])
        (refine wpH_one (i := 7) (by simp only [List.getElem?_toArray, List.getElem?_cons_succ, List.getElem?_cons_zero]; rfl) (by kernel_rfl) (by rfl) ?_; (go_simp; (with_reducible refine (hM2 wo.drew q2).mono ?_); rintro e w2 ⟨rfl, b2⟩; refine ⟨(q2.below b2 q2.lt).lt, ?_⟩); (try simp only [Act.put, List.setIfInBounds_toArray, List.set_cons_zero, List.set_cons_succ]))
        have J2 := q1.below b2 q1.lt
        have R2 := q2.below b2 q2.lt
        have hH2 := R2.lt
        have T2 := hT.drew.below b2 hT.lt
        have B2 := hB.drew.trans (b2.mono hB.size)
        have z2 : wo.heap.size ≤ w2.heap.size := b2.size
        (refine wpH_take (i := 8) (v := _) (by simp only [List.getElem?_toArray, List.getElem?_cons_succ, List.getElem?_cons_zero]; rfl) (by kernel_rfl) (by kernel_rfl) (by kernel_rfl) (by intro _ _ _ h; exact h) (Or.inl ⟨by rfl, (by intro w' hSw; (try dsimp only at hSw); go_simp; first | done | with_reducible rfl)⟩) (by assumption) ?_; (try simp only [Act.put, List.setIfInBounds_toArray, List.set_cons_zero, List.set_cons_succ]))
        (refine wpH_take (i := 9) (v := _) (by simp only [List.getElem?_toArray, List.getElem?_cons_succ, List.getElem?_cons_zero]; rfl) (by kernel_rfl) (by kernel_rfl) (by kernel_rfl) (by intro _ _ _ h; exact h) (Or.inl ⟨by rfl, (by intro w' hSw; (try dsimp only at hSw); go_simp; first | done | with_reducible rfl)⟩) (by assumption) ?_; (try simp only [Act.put, List.setIfInBounds_toArray, List.set_cons_zero, List.set_cons_succ]))
        obtain ⟨w3, hw3⟩ : ∃ w3, w3 = w2.setCell ⟨w.heap.size, 2, none⟩ (.int .u64 y2) := ⟨_, rfl⟩
        have J3 : Blk w3 w.heap.size 51 (fourL y0 y1 y2 x3) := by rw [hw3]; exact J2.set 2 _
        have G3 : But w.heap.size w2 w3 := by rw [hw3]; exact but_setCell _ _ _ _
        (refine wpH_one (i := 10) (by simp only [List.getElem?_toArray, List.getElem?_cons_succ, List.getElem?_cons_zero]; rfl) (by kernel_rfl) (by rfl) ?_; (refine wp_storef1 22 (.tmp 34) (.tmp 33) (by rfl) w.heap.size 2 (by rfl) (.int .u64 y2) (by rfl) (by rfl) (by simp [Value.oneCell']) 51 _ J2 (show 2 < 4 by omega) zeroU64'' ?_; rw [← hw3]; refine ⟨by have := J3.lt; omega, ?_⟩); (try simp only [Act.put, List.setIfInBounds_toArray, List.set_cons_zero, List.set_cons_succ]))
        refine wpH_done (by kernel_rfl) ?_ _
        have T3 := T2.but G3 (Ne.symm hne)
        have R3 := R2.but G3 (by have := R2.lt; omega)
        have B3 := B2.trans (G3.below B2.size (Nat.le_refl _))
        clear hHeld q0 q1 q2 hX hT hR hB J2 R2 T2 B2 G3 hw3 b2
        go_wp2_with fail
        exact ⟨⟨3, by omega, rfl, J3, T3, R3, B3⟩, by simp [intOf] <;> decide⟩
      · go_simp
        with_reducible refine (hM2 wo.drew q2).mono ?_
        rintro e w2 ⟨rfl, b2⟩
        refine ⟨(q2.below b2 q2.lt).lt, ?_⟩
        (try simp only [Act.put, List.setIfInBounds_toArray, List.set_cons_zero, List.set_cons_succ])
        have q3 := (q1.below b2 q1.lt).cell (i := 2) (v := .int .u64 x2) rfl
        (refine wpH_one (i := 2) (by simp only [List.getElem?_toArray, List.getElem?_cons_succ, List.getElem?_cons_zero]; rfl) (by kernel_rfl) (by rfl) ?_; (refine wp_loadf1 22 _ (by rfl) w.heap.size 2 (by rfl) (.int .u64 x2) q3 _ Tryd.underlying22 rfl ?_; refine ⟨(q2.below b2 q2.lt).lt, ?_⟩); (try simp only [Act.put, List.setIfInBounds_toArray, List.set_cons_zero, List.set_cons_succ]))
        have J2 := q1.below b2 q1.lt
        have R2 := q2.below b2 q2.lt
        have hH2 := R2.lt
        have T2 := hT.drew.below b2 hT.lt
        have B2 := hB.drew.trans (b2.mono hB.size)
        have z2 : wo.heap.size ≤ w2.heap.size := b2.size
        (refine wpH_take (i := 8) (v := _) (by simp only [List.getElem?_toArray, List.getElem?_cons_succ, List.getElem?_cons_zero]; rfl) (by kernel_rfl) (by kernel_rfl) (by kernel_rfl) (by intro _ _ _ h; exact h) (Or.inl ⟨by rfl, (by intro w' hSw; (try dsimp only at hSw); go_simp; first | done | with_reducible rfl)⟩) (by assumption) ?_; (try simp only [Act.put, List.setIfInBounds_toArray, List.set_cons_zero, List.set_cons_succ]))
        (refine wpH_take (i := 9) (v := _) (by simp only [List.getElem?_toArray, List.getElem?_cons_succ, List.getElem?_cons_zero]; rfl) (by kernel_rfl) (by kernel_rfl) (by kernel_rfl) (by intro _ _ _ h; exact h) (Or.inl ⟨by rfl, (by intro w' hSw; (try dsimp only at hSw); go_simp; first | done | with_reducible rfl)⟩) (by assumption) ?_; (try simp only [Act.put, List.setIfInBounds_toArray, List.set_cons_zero, List.set_cons_succ]))
        obtain ⟨w3, hw3⟩ : ∃ w3, w3 = w2.setCell ⟨w.heap.size, 2, none⟩ (.int .u64 y2) := ⟨_, rfl⟩
        have J3 : Blk w3 w.heap.size 51 (fourL y0 y1 y2 x3) := by rw [hw3]; exact J2.set 2 _
        have G3 : But w.heap.size w2 w3 := by rw [hw3]; exact but_setCell _ _ _ _
        (refine wpH_one (i := 10) (by simp only [List.getElem?_toArray, List.getElem?_cons_succ, List.getElem?_cons_zero]; rfl) (by kernel_rfl) (by rfl) ?_; (refine wp_storef1 22 (.tmp 34) (.tmp 33) (by rfl) w.heap.size 2 (by rfl) (.int .u64 y2) (by rfl) (by rfl) (by simp [Value.oneCell']) 51 _ J2 (show 2 < 4 by omega) zeroU64'' ?_; rw [← hw3]; refine ⟨by have := J3.lt; omega, ?_⟩); (try simp only [Act.put, List.setIfInBounds_toArray, List.set_cons_zero, List.set_cons_succ]))
        refine wpH_done (by kernel_rfl) ?_ _
        have T3 := T2.but G3 (Ne.symm hne)
        have R3 := R2.but G3 (by have := R2.lt; omega)
        have B3 := B2.trans (G3.below B2.size (Nat.le_refl _))
        clear hHeld q0 q1 q2 hX hT hR hB J2 R2 T2 B2 G3 hw3 b2
        go_wp2_with fail
        exact ⟨⟨3, by omega, rfl, J3, T3, R3, B3⟩, by simp [intOf] <;> decide⟩
    · skip
      have q1 := hX.drew
      have q2 := hR.drew
      have q0 := q1.cell (i := 3) (v := .int .u64 x3) rfl
      have hwk : IntKind.u64.wrap (IntKind.u64.wrap 3 + 1) = 4 := by decide
      go_wp2_with fail
      refine wp_region_heldL (fun y => 0 < y.heap.size) 11 (by kernel_rfl) rfl q2.lt fun hHeld => ?_
      simp only [List.replicate]
      (refine wpH_take (i := 0) (v := _) (by simp only [List.getElem?_toArray, List.getElem?_cons_succ, List.getElem?_cons_zero]; rfl) (by kernel_rfl) (by kernel_rfl) (by kernel_rfl) (by intro _ _ _ h; exact h) (Or.inl ⟨by rfl, (by intro w' hSw; (try dsimp only at hSw); go_simp; first | done | with_reducible rfl)⟩) (by assumption) ?_; (try simp only [Act.put, List.setIfInBounds_toArray, List.set_cons_zero, List.set_cons_succ]))
      (refine wpH_take (i := 1) (v := _) (by simp only [List.getElem?_toArray, List.getElem?_cons_succ, List.getElem?_cons_zero]; rfl) (by kernel_rfl) (by kernel_rfl) (by kernel_rfl) (by intro _ _ _ h; exact h) (Or.inl ⟨by rfl, (by intro w' hSw; (try dsimp only at hSw); go_simp; first | done | with_reducible rfl)⟩) (by assumption) ?_; (try simp only [Act.put, List.setIfInBounds_toArray, List.set_cons_zero, List.set_cons_succ]))
      (refine wpH_take (i := 3) (v := _) (by simp only [List.getElem?_toArray, List.getElem?_cons_succ, List.getElem?_cons_zero]; rfl) (by kernel_rfl) (by kernel_rfl) (by kernel_rfl) (by intro _ _ _ h; exact h) (Or.inl ⟨by rfl, (by intro w' hSw; (try dsimp only at hSw); go_simp; first | done | with_reducible rfl)⟩) (by assumption) ?_; (try simp only [Act.put, List.setIfInBounds_toArray, List.set_cons_zero, List.set_cons_succ]))
      (refine wpH_take (i := 4) (v := _) (by simp only [List.getElem?_toArray, List.getElem?_cons_succ, List.getElem?_cons_zero]; rfl) (by kernel_rfl) (by kernel_rfl) (by kernel_rfl) (by intro _ _ _ h; exact h) (Or.inl ⟨by rfl, (by intro w' hSw; (try dsimp only at hSw); go_simp; first | done | with_reducible rfl)⟩) (by assumption) ?_; (try simp only [Act.put, List.setIfInBounds_toArray, List.set_cons_zero, List.set_cons_succ]))
      (refine wpH_take (i := 5) (v := _) (by simp only [List.getElem?_toArray, List.getElem?_cons_succ, List.getElem?_cons_zero]; rfl) (by kernel_rfl) (by kernel_rfl) (by kernel_rfl) (by intro _ _ _ h; exact h) (Or.inl ⟨by rfl, (by intro w' hSw; (try dsimp only at hSw); go_simp; first | done | with_reducible rfl)⟩) (by assumption) ?_; (try simp only [Act.put, List.setIfInBounds_toArray, List.set_cons_zero, List.set_cons_succ]))
      (refine wpH_take (i := 6) (v := _) (by simp only [List.getElem?_toArray, List.getElem?_cons_succ, List.getElem?_cons_zero]; rfl) (by kernel_rfl) (by kernel_rfl) (by kernel_rfl) (by intro _ _ _ h; exact h) (Or.inl ⟨by rfl, (by intro w' hSw; (try dsimp only at hSw); go_simp; first | done | with_reducible rfl)⟩) (by assumption) ?_; (try simp only [Act.put, List.setIfInBounds_toArray, List.set_cons_zero, List.set_cons_succ]))
      refine wpH_two (i := 2) (j := 7) (by simp only [List.getElem?_toArray, List.getElem?_cons_succ, List.getElem?_cons_zero]; rfl) (by simp only [List.getElem?_toArray, List.getElem?_cons_succ, List.getElem?_cons_zero]; rfl) (by kernel_rfl) (by rfl) (by rfl) ?_ ?_
      · refine wp_loadf1 22 _ (by rfl) w.heap.size 3 (by rfl) (.int .u64 x3) q0 _ Tryd.underlying22 rfl ?_
        refine ⟨hHeld, ?_⟩
        (try simp only [Act.put, List.setIfInBounds_toArray, List.set_cons_zero, List.set_cons_succ])
        (refine wpH_one (i := 7) (by simp only [List.getElem?_toArray, List.getElem?_cons_succ, List.getElem?_cons_zero]; rfl) (by kernel_rfl) (by rfl) ?_; (go_simp; (with_reducible refine (hM3 wo.drew q2).mono ?_); rintro e w2 ⟨rfl, b2⟩; refine ⟨(q2.below b2 q2.lt).lt, ?_⟩); (try simp only [Act.put, List.setIfInBounds_toArray, List.set_cons_zero, List.set_cons_succ]))
        have J2 := q1.below b2 q1.lt
        have R2 := q2.below b2 q2.lt
        have hH2 := R2.lt
        have T2 := hT.drew.below b2 hT.lt
        have B2 := hB.drew.trans (b2.mono hB.size)
        have z2 : wo.heap.size ≤ w2.heap.size := b2.size
        (refine wpH_take (i := 8) (v := _) (by simp only [List.getElem?_toArray, List.getElem?_cons_succ, List.getElem?_cons_zero]; rfl) (by kernel_rfl) (by kernel_rfl) (by kernel_rfl) (by intro _ _ _ h; exact h) (Or.inl ⟨by rfl, (by intro w' hSw; (try dsimp only at hSw); go_simp; first | done | with_reducible rfl)⟩) (by assumption) ?_; (try simp only [Act.put, List.setIfInBounds_toArray, List.set_cons_zero, List.set_cons_succ]))
        (refine wpH_take (i := 9) (v := _) (by simp only [List.getElem?_toArray, List.getElem?_cons_succ, List.getElem?_cons_zero]; rfl) (by kernel_rfl) (by kernel_rfl) (by kernel_rfl) (by intro _ _ _ h; exact h) (Or.inl ⟨by rfl, (by intro w' hSw; (try dsimp only at hSw); go_simp; first | done | with_reducible rfl)⟩) (by assumption) ?_; (try simp only [Act.put, List.setIfInBounds_toArray, List.set_cons_zero, List.set_cons_succ]))
        obtain ⟨w3, hw3⟩ : ∃ w3, w3 = w2.setCell ⟨w.heap.size, 3, none⟩ (.int .u64 y3) := ⟨_, rfl⟩
        have J3 : Blk w3 w.heap.size 51 (fourL y0 y1 y2 y3) := by rw [hw3]; exact J2.set 3 _
        have G3 : But w.heap.size w2 w3 := by rw [hw3]; exact but_setCell _ _ _ _
        (refine wpH_one (i := 10) (by simp only [List.getElem?_toArray, List.getElem?_cons_succ, List.getElem?_cons_zero]; rfl) (by kernel_rfl) (by rfl) ?_; (refine wp_storef1 22 (.tmp 34) (.tmp 33) (by rfl) w.heap.size 3 (by rfl) (.int .u64 y3) (by rfl) (by rfl) (by simp [Value.oneCell']) 51 _ J2 (show 3 < 4 by omega) zeroU64'' ?_; rw [← hw3]; refine ⟨by have := J3.lt; omega, ?_⟩); (try simp only [Act.put, List.setIfInBounds_toArray, List.set_cons_zero, List.set_cons_succ]))
        refine wpH_done (by kernel_rfl) ?_ _
        have T3 := T2.but G3 (Ne.symm hne)
        have R3 := R2.but G3 (by have := R2.lt; omega)
        have B3 := B2.trans (G3.below B2.size (Nat.le_refl _))
        clear hHeld q0 q1 q2 hX hT hR hB J2 R2 T2 B2 G3 hw3 b2
        go_wp2_with fail
        exact ⟨⟨4, by omega, rfl, J3, T3, R3, B3⟩, by simp [intOf] <;> decide⟩
      · go_simp
        with_reducible refine (hM3 wo.drew q2).mono ?_
        rintro e w2 ⟨rfl, b2⟩
        refine ⟨(q2.below b2 q2.lt).lt, ?_⟩
        (try simp only [Act.put, List.setIfInBounds_toArray, List.set_cons_zero, List.set_cons_succ])
        have q3 := (q1.below b2 q1.lt).cell (i := 3) (v := .int .u64 x3) rfl
        (refine wpH_one (i := 2) (by simp only [List.getElem?_toArray, List.getElem?_cons_succ, List.getElem?_cons_zero]; rfl) (by kernel_rfl) (by rfl) ?_; (refine wp_loadf1 22 _ (by rfl) w.heap.size 3 (by rfl) (.int .u64 x3) q3 _ Tryd.underlying22 rfl ?_; refine ⟨(q2.below b2 q2.lt).lt, ?_⟩); (try simp only [Act.put, List.setIfInBounds_toArray, List.set_cons_zero, List.set_cons_succ]))
        have J2 := q1.below b2 q1.lt
        have R2 := q2.below b2 q2.lt
        have hH2 := R2.lt
        have T2 := hT.drew.below b2 hT.lt
        have B2 := hB.drew.trans (b2.mono hB.size)
        have z2 : wo.heap.size ≤ w2.heap.size := b2.size
        (refine wpH_take (i := 8) (v := _) (by simp only [List.getElem?_toArray, List.getElem?_cons_succ, List.getElem?_cons_zero]; rfl) (by kernel_rfl) (by kernel_rfl) (by kernel_rfl) (by intro _ _ _ h; exact h) (Or.inl ⟨by rfl, (by intro w' hSw; (try dsimp only at hSw); go_simp; first | done | with_reducible rfl)⟩) (by assumption) ?_; (try simp only [Act.put, List.setIfInBounds_toArray, List.set_cons_zero, List.set_cons_succ]))
        (refine wpH_take (i := 9) (v := _) (by simp only [List.getElem?_toArray, List.getElem?_cons_succ, List.getElem?_cons_zero]; rfl) (by kernel_rfl) (by kernel_rfl) (by kernel_rfl) (by intro _ _ _ h; exact h) (Or.inl ⟨by rfl, (by intro w' hSw; (try dsimp only at hSw); go_simp; first | done | with_reducible rfl)⟩) (by assumption) ?_; (try simp only [Act.put, List.setIfInBounds_toArray, List.set_cons_zero, List.set_cons_succ]))
        obtain ⟨w3, hw3⟩ : ∃ w3, w3 = w2.setCell ⟨w.heap.size, 3, none⟩ (.int .u64 y3) := ⟨_, rfl⟩
        have J3 : Blk w3 w.heap.size 51 (fourL y0 y1 y2 y3) := by rw [hw3]; exact J2.set 3 _
        have G3 : But w.heap.size w2 w3 := by rw [hw3]; exact but_setCell _ _ _ _
        (refine wpH_one (i := 10) (by simp only [List.getElem?_toArray, List.getElem?_cons_succ, List.getElem?_cons_zero]; rfl) (by kernel_rfl) (by rfl) ?_; (refine wp_storef1 22 (.tmp 34) (.tmp 33) (by rfl) w.heap.size 3 (by rfl) (.int .u64 y3) (by rfl) (by rfl) (by simp [Value.oneCell']) 51 _ J2 (show 3 < 4 by omega) zeroU64'' ?_; rw [← hw3]; refine ⟨by have := J3.lt; omega, ?_⟩); (try simp only [Act.put, List.setIfInBounds_toArray, List.set_cons_zero, List.set_cons_succ]))
        refine wpH_done (by kernel_rfl) ?_ _
        have T3 := T2.but G3 (Ne.symm hne)
        have R3 := R2.but G3 (by have := R2.lt; omega)
        have B3 := B2.trans (G3.below B2.size (Nat.le_refl _))
        clear hHeld q0 q1 q2 hX hT hR hB J2 R2 T2 B2 G3 hw3 b2
        go_wp2_with fail
        exact ⟨⟨4, by omega, rfl, J3, T3, R3, B3⟩, by simp [intOf] <;> decide⟩
    · go_wp2_with (first
        | (refine wpl_load (by rfl) 51 _ (by rfl) w.heap.size (by rfl) 51 (fourL y0 y1 y2 y3) hX _ Tryd.underlying51 rfl _ size4 (by rfl) ?_)
        | (refine wpl_store (by rfl) 51 _ _ (by rfl) bt (by rfl) _ (by rfl) (fourL y0 y1 y2 y3) rfl 51 _ hT (show (4 : Nat) = 4 from rfl) _ size4 (by rfl) (by simp [Value.oneCell']) ?_; intro w9 T9 s9 g9))
      refine bodyPost_ret (res_c Tryd.results24 (by rfl) T9 Tryd.underlying51 rfl size4 (show (4 : Nat) = 4 from rfl)) rfl ?_
      exact ⟨rfl, hB.trans (g9.below hB.size (by omega))⟩
end Go.Proofs.YtkgpeddncpdjjaaDoor
