/- Derive, and the keys of a generation, of the program and of the reference. -/
import Derived.Test.YtkgpeddncpdjjaaDoorCkC
import Derived.Test.YtkgpeddncpdjjaaDoorDet
import Derived.Test.YtkgpeddncpdjjaaDoorRes
namespace Go.Proofs.YtkgpeddncpdjjaaDoor
open Go.RowKit
set_option linter.unusedSimpArgs false
set_option linter.unusedVariables false
set_option maxRecDepth 100000
theorem tagF_u64 (k0 k1 : Int) (l : List Int) : U64 (tagF k0 k1 l) := mixF_u64 _ _
/-- the keys of a generation -/
def mkA (s g : Int) : Int := mixF s (2 * g)
def mkB (s g : Int) : Int := mixF s (2 * g + 1)
def padL : List Int := [112, 97, 100]
def labL : List Int := [116, 97, 103]
def padK (s g : Int) : Int := mixF (tagF (mkA s g) (mkB s g) padL) 1
def padF (s g nonce i : Int) : Int := mixF (mixF (padK s g) nonce) (i + 1)
def jtag (s g : Int) (l : List Int) : Int := tagF (mixF (tagF (mkA s g) (mkB s g) labL) 1) (mixF (tagF (mkA s g) (mkB s g) labL) 2) l
theorem mkA_u64 (s g : Int) : U64 (mkA s g) := mixF_u64 _ _
theorem mkB_u64 (s g : Int) : U64 (mkB s g) := mixF_u64 _ _
theorem padF_u64 (s g n i : Int) : U64 (padF s g n i) := mixF_u64 _ _
theorem jtag_u64 (s g : Int) (l : List Int) : U64 (jtag s g l) := mixF_u64 _ _
/-- a generation -/
def Gn (g : Int) : Prop := 0 ≤ g ∧ g ≤ 2147483647
set_option maxHeartbeats 4000000 in
theorem rderive_any (k0 k1 : Int) (A : Option Addr) (n c : Nat) (l : List Int) (w : World) (hk0 : U64 k0) (hk1 : U64 k1) (hn : l.length = n) (h : Bs w 0 w.heap.size A l) (hm : n ≤ 1000000) (hnc : n ≤ c) (hcc : c ≤ 9223372036854775807) :
    Calls Tryd.prog 38 #[keyV k0 k1, .slice A n c] w fun e w' => e = .returned (keyV (mixF (tagF k0 k1 l) 1) (mixF (tagF k0 k1 l) 2)) ∧ Below w.heap.size w w' := by
  have hu := tagF_u64 k0 k1 l
  have hT := fun W hB => rtag_any k0 k1 A n c l W hk0 hk1 hn hB hm hnc hcc
  generalize tagF k0 k1 l = t at hu hT ⊢
  have hM1 := fun W => rmix_any t 1 W hu ⟨by omega, by omega⟩
  have hM2 := fun W => rmix_any t 2 W hu ⟨by omega, by omega⟩
  generalize mixF t 1 = m1 at hM1 ⊢
  generalize mixF t 2 = m2 at hM2 ⊢
  clear hk0 hk1 hn hm hnc hcc hu
  go_enter Tryd.func38, Tryd.ntmps38
  go_wp2_with (first
    | (refine wpl_box (by rfl) 24 _ (by rfl) _ (keyL k0 k1) (by rfl) rfl ?_; intro w1 J1 s1 b1)
    | (refine wpl_alloc (by rfl) 24 (by rfl) (keyV 0 0) (keyL 0 0) zeroKey rfl ?_; intro w2 R2 s2 b2; (have J2 := J1.below b2 (by omega)))
    | (refine wpl_load (by rfl) 24 _ (by rfl) w.heap.size (by rfl) 24 _ J2 _ Tryd.underlying24 rfl _ sizeKey (by rfl) ?_)
    | (go_at_call 41; ((with_reducible refine (hT _ (((h.below b1 (Nat.le_refl _)).below b2 (by omega)).wide (Nat.le_refl _) (by omega))).mono ?_); rintro e w3 ⟨rfl, b3⟩; (have R3 := R2.below b3 (by omega))))
    | (go_at_call 40; ((with_reducible refine (hM1 _).mono ?_); rintro e w' ⟨rfl, rfl⟩))
    | (go_at_call 40; ((with_reducible refine (hM2 _).mono ?_); rintro e w' ⟨rfl, rfl⟩))
    | (refine wpl_store (by rfl) 24 _ _ (by rfl) w1.heap.size (by rfl) _ (by rfl) (keyL m1 m2) rfl 24 _ R3 (show (2 : Nat) = 2 from rfl) _ sizeKey (by rfl) (by simp [Value.oneCell']) ?_; intro w4 R4 s4 g4))
  refine bodyPost_ret (res_c Tryd.results38 (by rfl) R4 Tryd.underlying24 rfl sizeKey (by rfl)) rfl ?_
  exact ⟨rfl, ((b1.trans (b2.mono (by omega))).trans (b3.mono (by omega))).trans (g4.below (by have := b3.size; omega) (by omega))⟩
set_option maxHeartbeats 4000000 in
theorem derive_any (k0 k1 : Int) (A : Option Addr) (n c : Nat) (l : List Int) (w : World) (hk0 : U64 k0) (hk1 : U64 k1) (hn : l.length = n) (h : Bs w 0 w.heap.size A l) (hm : n ≤ 1000000) (hnc : n ≤ c) (hcc : c ≤ 9223372036854775807) (hR : Rnd w) :
    Calls Tryd.prog 33 #[keyV k0 k1, .slice A n c] w fun e w' => e = .returned (keyV (mixF (tagF k0 k1 l) 1) (mixF (tagF k0 k1 l) 2)) ∧ Below w.heap.size w w' := by
  have hw0 := hR.lt
  have hu := tagF_u64 k0 k1 l
  have hT := fun W hB hr => tag_any k0 k1 A n c l W hk0 hk1 hn hB hm hnc hcc hr
  generalize tagF k0 k1 l = t at hu hT ⊢
  have hM1 := fun W hr => mix_any t 1 W hu ⟨by omega, by omega⟩ hr
  have hM2 := fun W hr => mix_any t 2 W hu ⟨by omega, by omega⟩ hr
  generalize mixF t 1 = m1 at hM1 ⊢
  generalize mixF t 2 = m2 at hM2 ⊢
  clear hk0 hk1 hn hm hnc hcc hu
  go_enter Tryd.func33, Tryd.ntmps33
  go_wp2_with (first
    | ((refine wpl_box (by rfl) 24 _ (by rfl) _ (keyL k0 k1) (by rfl) rfl ?_; intro w1 J1 s1 b1); (have R1 := hR.below b1 hw0))
    | (refine wpl_alloc (by rfl) 24 (by rfl) (keyV 0 0) (keyL 0 0) zeroKey rfl ?_; intro w2 X2 s2 b2; (have J2 := J1.below b2 (by omega)); (have R2 := R1.below b2 R1.lt))
    | (refine wpl_load (by rfl) 24 _ (by rfl) w.heap.size (by rfl) 24 _ J2 _ Tryd.underlying24 rfl _ sizeKey (by rfl) ?_)
    | (go_at_call 36; ((with_reducible refine (hT _ (((h.below b1 (Nat.le_refl _)).below b2 (by omega)).wide (Nat.le_refl _) (by omega)) R2).mono ?_); rintro e w3 ⟨rfl, b3⟩; (have X3 := X2.below b3 (by omega)); (have R3 := R2.below b3 R2.lt); (have z3 := b3.size)))
    | (go_at_call 35; ((with_reducible refine (hM1 _ R3).mono ?_); rintro e w4 ⟨rfl, b4⟩; (have X4 := X3.below b4 (by omega)); (have R4 := R3.below b4 R3.lt); (have z4 := b4.size)))
    | (go_at_call 35; ((with_reducible refine (hM2 _ R4).mono ?_); rintro e w5 ⟨rfl, b5⟩; (have X5 := X4.below b5 (by omega)); (have z5 := b5.size)))
    | (refine wpl_store (by rfl) 24 _ _ (by rfl) w1.heap.size (by rfl) _ (by rfl) (keyL m1 m2) rfl 24 _ X5 (show (2 : Nat) = 2 from rfl) _ sizeKey (by rfl) (by simp [Value.oneCell']) ?_; intro w6 X6 s6 g6))
  refine bodyPost_ret (res_c Tryd.results33 (by rfl) X6 Tryd.underlying24 rfl sizeKey (by rfl)) rfl ?_
  exact ⟨rfl, ((((b1.trans (b2.mono (by omega))).trans (b3.mono (by omega))).trans (b4.mono (by omega))).trans (b5.mono (by omega))).trans (g6.below (by omega) (by omega))⟩
/-- a jar of the reference -/
abbrev jarL (s k g : Int) : List Value := [.int .u64 s, .int .i64 k, .int .i64 g]
theorem sizeJarR : (Tryd.prog.info? 55).map (·.size) = some 3 := by kernel_rfl
theorem two_u64 {g : Int} (h : Gn g) : IntKind.u64.wrap (2 * g) = 2 * g ∧ IntKind.u64.wrap (2 * g + 1) = 2 * g + 1 ∧ IntKind.i64.wrap (2 * g) = 2 * g ∧ IntKind.i64.wrap (2 * g + 1) = 2 * g + 1 ∧ IntKind.u64.wrap g = g := by
  obtain ⟨h0, h1⟩ := h
  refine ⟨?_, ?_, ?_, ?_, ?_⟩
  · rw [IntKind.wrap_u64]; omega
  · rw [IntKind.wrap_u64]; omega
  · rw [IntKind.wrap_i64]; omega
  · rw [IntKind.wrap_i64]; omega
  · rw [IntKind.wrap_u64]; omega
set_option maxHeartbeats 4000000 in
theorem rmaster_any (bj : Nat) (s k g gg : Int) (w : World) (hs : U64 s) (hg : Gn g) (hJ : Blk w bj 55 (jarL s k gg)) :
    Calls Tryd.prog 39 #[.pointer (some ⟨bj, 0, none⟩), .int .i64 g] w fun e w' => e = .returned (keyV (mkA s g) (mkB s g)) ∧ Below w.heap.size w w' := by
  have hlt := hJ.lt
  obtain ⟨e1, e2, e3, e4, e5⟩ := two_u64 hg
  have hM1 := fun W => rmix_any s (2 * g) W hs (by obtain ⟨h0, h1⟩ := hg; exact ⟨by omega, by omega⟩)
  have hM2 := fun W => rmix_any s (2 * g + 1) W hs (by obtain ⟨h0, h1⟩ := hg; exact ⟨by omega, by omega⟩)
  clear hs hg
  have hA : mixF s (2 * g) = mkA s g := rfl
  have hB : mixF s (2 * g + 1) = mkB s g := rfl
  rw [hA] at hM1
  rw [hB] at hM2
  generalize mkA s g = m1 at hM1 ⊢
  generalize mkB s g = m2 at hM2 ⊢
  clear hA hB
  go_enter Tryd.func39, Tryd.ntmps39
  go_wp2_with (first
    | (refine wpl_alloc (by rfl) 24 (by rfl) (keyV 0 0) (keyL 0 0) zeroKey rfl ?_; intro w1 X1 s1 b1; (have J1 := hJ.below b1 hlt)))
  have q0 := J1.drew.cell (i := 0) rfl
  refine wp_region_heldL (fun w' => w'.cell? ⟨bj, 0, none⟩ = some (.int .u64 s)) 19 (by kernel_rfl) rfl q0 fun hHeld => ?_
  simp only [List.replicate]
  (refine wpH_take (i := 0) (v := _) (by simp only [List.getElem?_toArray, List.getElem?_cons_succ, List.getElem?_cons_zero]; rfl) (by kernel_rfl) (by kernel_rfl) (by kernel_rfl) (by intro _ _ _ h; exact h) (Or.inl ⟨by rfl, (by intro w' hSw; (try dsimp only at hSw); go_simp; first | done | with_reducible rfl)⟩) (by assumption) ?_; (try simp only [Act.put, List.setIfInBounds_toArray, List.set_cons_zero, List.set_cons_succ]))
  (refine wpH_take (i := 1) (v := _) (by simp only [List.getElem?_toArray, List.getElem?_cons_succ, List.getElem?_cons_zero]; rfl) (by kernel_rfl) (by kernel_rfl) (by kernel_rfl) (by intro _ _ _ h; exact h) (Or.inl ⟨by rfl, (by intro w' hSw; (try dsimp only at hSw); go_simp; first | done | with_reducible rfl)⟩) (by assumption) ?_; (try simp only [Act.put, List.setIfInBounds_toArray, List.set_cons_zero, List.set_cons_succ]))
  (refine wpH_take (i := 2) (v := _) (by simp only [List.getElem?_toArray, List.getElem?_cons_succ, List.getElem?_cons_zero]; rfl) (by kernel_rfl) (by kernel_rfl) (by kernel_rfl) (by intro _ _ _ h; exact h) (Or.inl ⟨by rfl, (by intro w' hSw; (try dsimp only at hSw); go_simp; first | done | with_reducible rfl)⟩) (by assumption) ?_; (try simp only [Act.put, List.setIfInBounds_toArray, List.set_cons_zero, List.set_cons_succ]))
  (refine wpH_take (i := 3) (v := _) (by simp only [List.getElem?_toArray, List.getElem?_cons_succ, List.getElem?_cons_zero]; rfl) (by kernel_rfl) (by kernel_rfl) (by kernel_rfl) (by intro _ _ _ h; exact h) (Or.inl ⟨by rfl, (by intro w' hSw; (try dsimp only at hSw); go_simp; first | done | with_reducible rfl)⟩) (by assumption) ?_; (try simp only [Act.put, List.setIfInBounds_toArray, List.set_cons_zero, List.set_cons_succ]))
  (refine wpH_take (i := 4) (v := _) (by simp only [List.getElem?_toArray, List.getElem?_cons_succ, List.getElem?_cons_zero]; rfl) (by kernel_rfl) (by kernel_rfl) (by kernel_rfl) (by intro _ _ _ h; exact h) (Or.inl ⟨by rfl, (by intro w' hSw; (try dsimp only at hSw); go_simp; first | done | with_reducible rfl)⟩) (by assumption) ?_; (try simp only [Act.put, List.setIfInBounds_toArray, List.set_cons_zero, List.set_cons_succ]))
  (refine wpH_take (i := 5) (v := _) (by simp only [List.getElem?_toArray, List.getElem?_cons_succ, List.getElem?_cons_zero]; rfl) (by kernel_rfl) (by kernel_rfl) (by kernel_rfl) (by intro _ _ _ h; exact h) (Or.inl ⟨by rfl, (by intro w' hSw; (try dsimp only at hSw); go_simp; first | done | with_reducible rfl)⟩) (by assumption) ?_; (try simp only [Act.put, List.setIfInBounds_toArray, List.set_cons_zero, List.set_cons_succ]))
  (refine wpH_take (i := 6) (v := _) (by simp only [List.getElem?_toArray, List.getElem?_cons_succ, List.getElem?_cons_zero]; rfl) (by kernel_rfl) (by kernel_rfl) (by kernel_rfl) (by intro _ _ _ h; exact h) (Or.inl ⟨by rfl, (by intro w' hSw; (try dsimp only at hSw); go_simp; first | done | with_reducible rfl)⟩) (by assumption) ?_; (try simp only [Act.put, List.setIfInBounds_toArray, List.set_cons_zero, List.set_cons_succ]))
  (refine wpH_take (i := 8) (v := _) (by simp only [List.getElem?_toArray, List.getElem?_cons_succ, List.getElem?_cons_zero]; rfl) (by kernel_rfl) (by kernel_rfl) (by kernel_rfl) (by intro _ _ _ h; exact h) (Or.inl ⟨by rfl, (by intro w' hSw; (try dsimp only at hSw); go_simp; first | done | with_reducible rfl)⟩) (by assumption) ?_; (try simp only [Act.put, List.setIfInBounds_toArray, List.set_cons_zero, List.set_cons_succ]))
  (refine wpH_take (i := 9) (v := _) (by simp only [List.getElem?_toArray, List.getElem?_cons_succ, List.getElem?_cons_zero]; rfl) (by kernel_rfl) (by kernel_rfl) (by kernel_rfl) (by intro _ _ _ h; exact h) (Or.inl ⟨by rfl, (by intro w' hSw; (try dsimp only at hSw); go_simp; first | done | with_reducible rfl)⟩) (by assumption) ?_; (try simp only [Act.put, List.setIfInBounds_toArray, List.set_cons_zero, List.set_cons_succ]))
  (refine wpH_take (i := 10) (v := _) (by simp only [List.getElem?_toArray, List.getElem?_cons_succ, List.getElem?_cons_zero]; rfl) (by kernel_rfl) (by kernel_rfl) (by kernel_rfl) (by intro _ _ _ h; exact h) (Or.inl ⟨by rfl, (by intro w' hSw; (try dsimp only at hSw); go_simp; first | done | with_reducible rfl)⟩) (by assumption) ?_; (try simp only [Act.put, List.setIfInBounds_toArray, List.set_cons_zero, List.set_cons_succ]))
  (refine wpH_take (i := 11) (v := _) (by simp only [List.getElem?_toArray, List.getElem?_cons_succ, List.getElem?_cons_zero]; rfl) (by kernel_rfl) (by kernel_rfl) (by kernel_rfl) (by intro _ _ _ h; exact h) (Or.inl ⟨by rfl, (by intro w' hSw; (try dsimp only at hSw); go_simp; first | done | with_reducible rfl)⟩) (by assumption) ?_; (try simp only [Act.put, List.setIfInBounds_toArray, List.set_cons_zero, List.set_cons_succ]))
  (refine wpH_take (i := 12) (v := _) (by simp only [List.getElem?_toArray, List.getElem?_cons_succ, List.getElem?_cons_zero]; rfl) (by kernel_rfl) (by kernel_rfl) (by kernel_rfl) (by intro _ _ _ h; exact h) (Or.inl ⟨by rfl, (by intro w' hSw; (try dsimp only at hSw); go_simp; first | done | with_reducible rfl)⟩) (by assumption) ?_; (try simp only [Act.put, List.setIfInBounds_toArray, List.set_cons_zero, List.set_cons_succ]))
  (refine wpH_take (i := 13) (v := _) (by simp only [List.getElem?_toArray, List.getElem?_cons_succ, List.getElem?_cons_zero]; rfl) (by kernel_rfl) (by kernel_rfl) (by kernel_rfl) (by intro _ _ _ h; exact h) (Or.inl ⟨by rfl, (by intro w' hSw; (try dsimp only at hSw); go_simp; first | done | with_reducible rfl)⟩) (by assumption) ?_; (try simp only [Act.put, List.setIfInBounds_toArray, List.set_cons_zero, List.set_cons_succ]))
  (refine wpH_take (i := 14) (v := _) (by simp only [List.getElem?_toArray, List.getElem?_cons_succ, List.getElem?_cons_zero]; rfl) (by kernel_rfl) (by kernel_rfl) (by kernel_rfl) (by intro _ _ _ h; exact h) (Or.inl ⟨by rfl, (by intro w' hSw; (try dsimp only at hSw); go_simp; first | done | with_reducible rfl)⟩) (by assumption) ?_; (try simp only [Act.put, List.setIfInBounds_toArray, List.set_cons_zero, List.set_cons_succ]))
  (refine wpH_take (i := 15) (v := _) (by simp only [List.getElem?_toArray, List.getElem?_cons_succ, List.getElem?_cons_zero]; rfl) (by kernel_rfl) (by kernel_rfl) (by kernel_rfl) (by intro _ _ _ h; exact h) (Or.inl ⟨by rfl, (by intro w' hSw; (try dsimp only at hSw); go_simp; first | done | with_reducible rfl)⟩) (by assumption) ?_; (try simp only [Act.put, List.setIfInBounds_toArray, List.set_cons_zero, List.set_cons_succ]))
  (refine wpH_one (i := 7) (by simp only [List.getElem?_toArray, List.getElem?_cons_succ, List.getElem?_cons_zero]; rfl) (by kernel_rfl) (by rfl) ?_; (go_simp; (with_reducible refine (hM1 _).mono ?_); rintro e w' ⟨rfl, rfl⟩; refine ⟨q0, ?_⟩); (try simp only [Act.put, List.setIfInBounds_toArray, List.set_cons_zero, List.set_cons_succ]))
  (refine wpH_one (i := 16) (by simp only [List.getElem?_toArray, List.getElem?_cons_succ, List.getElem?_cons_zero]; rfl) (by kernel_rfl) (by rfl) ?_; (go_simp; (with_reducible refine (hM2 _).mono ?_); rintro e w' ⟨rfl, rfl⟩; refine ⟨q0, ?_⟩); (try simp only [Act.put, List.setIfInBounds_toArray, List.set_cons_zero, List.set_cons_succ]))
  (refine wpH_take (i := 17) (v := _) (by simp only [List.getElem?_toArray, List.getElem?_cons_succ, List.getElem?_cons_zero]; rfl) (by kernel_rfl) (by kernel_rfl) (by kernel_rfl) (by intro _ _ _ h; exact h) (Or.inl ⟨by rfl, (by intro w' hSw; (try dsimp only at hSw); go_simp; first | done | with_reducible rfl)⟩) (by assumption) ?_; (try simp only [Act.put, List.setIfInBounds_toArray, List.set_cons_zero, List.set_cons_succ]))
  (refine wpH_one (i := 18) (by simp only [List.getElem?_toArray, List.getElem?_cons_succ, List.getElem?_cons_zero]; rfl) (by kernel_rfl) (by rfl) ?_; (refine wp_store_mid 24 (.tmp 4) (.tmp 22) (by rfl) w.heap.size 0 (keyL m1 m2).toArray (by rfl) (by rfl) (show World.there _ _ 0 2 from X1.drew.there) sizeKey (all_oneCell_toArray (by simp [Value.oneCell'])) ?_; refine ⟨(Blk.but J1.drew (but_setCells _ _ _ (World.grownBy.refl _ _)) (by omega)).cell rfl, ?_⟩); (try simp only [Act.put, List.setIfInBounds_toArray, List.set_cons_zero, List.set_cons_succ]))
  refine wpH_done (by kernel_rfl) ?_ _
  have X2 : Blk (w1.drew.setCells w.heap.size 0 (keyL m1 m2)) w.heap.size 24 (keyL m1 m2) := X1.drew.stored (keyL m1 m2) (show (2 : Nat) = 2 from rfl)
  have G2 : But w.heap.size w1.drew (w1.drew.setCells w.heap.size 0 (keyL m1 m2)) := but_setCells _ _ _ (World.grownBy.refl _ _)
  go_wp2_with fail
  refine bodyPost_ret (res_c Tryd.results39 (by rfl) X2 Tryd.underlying24 rfl sizeKey (show (2 : Nat) = 2 from rfl)) rfl ?_
  exact ⟨rfl, b1.drew.trans (G2.below (by show _ ≤ w1.heap.size; omega) (Nat.le_refl _))⟩
end Go.Proofs.YtkgpeddncpdjjaaDoor
