/- Derive, and the keys of a generation, of the program and of the reference. The jar of cookies: the keys of a generation, the pads and the tag, of the program and of the reference. append of bytes to a row of the call's own: the run itself, and the law at a guarded operation and at a step of a region that draws. No function of the program occurs here. A region that draws its order, where two operations may come up: both ways; one cell written at an operation by itself. No function of the program occurs here. The jar of cookies: the numbers combined with the pads, of the program. The jar of cookies: New, Rotate, Generation of both; numbers appended. -/
import Derived.Test.YtachhbbofemfdaaDoorGXz6
import Derived.Test.YtachhbbofemfdaaDoorGXz4
import Derived.Lib.SlBytesConst
import Derived.Test.YtachhbbofemfdaaDoorGXz1
namespace Go.Proofs.YtachhbbofemfdaaDoor
open Go.RowKit
set_option linter.unusedSimpArgs false
set_option linter.unusedVariables false
set_option maxRecDepth 100000
theorem tagF_u64 (k0 k1 : Int) (l : List Int) : U64 (tagF k0 k1 l) := mixF_u64 _ _
/-- the keys of a generation -/
def mkA (s g : Int) : Int := mixF s (2 * g)
def mkB (s g : Int) : Int := mixF s (2 * g + 1)
def padL : List Int := [112, 97, 100]
def labL : List Int := [116, 97, 103]
def padK (s g : Int) : Int := mixF (tagF (mkA s g) (mkB s g) padL) 1
def padF (s g nonce i : Int) : Int := mixF (mixF (padK s g) nonce) (i + 1)
def jtag (s g : Int) (l : List Int) : Int := tagF (mixF (tagF (mkA s g) (mkB s g) labL) 1) (mixF (tagF (mkA s g) (mkB s g) labL) 2) l
theorem mkA_u64 (s g : Int) : U64 (mkA s g) := mixF_u64 _ _
theorem mkB_u64 (s g : Int) : U64 (mkB s g) := mixF_u64 _ _
theorem padF_u64 (s g n i : Int) : U64 (padF s g n i) := mixF_u64 _ _
theorem jtag_u64 (s g : Int) (l : List Int) : U64 (jtag s g l) := mixF_u64 _ _
/-- a generation -/
def Gn (g : Int) : Prop := 0 ≤ g ∧ g ≤ 2147483647
set_option maxHeartbeats 4000000 in
theorem rderive_any (k0 k1 : Int) (A : Option Addr) (n c : Nat) (l : List Int) (w : World) (hk0 : U64 k0) (hk1 : U64 k1) (hn : l.length = n) (h : Bs w 0 w.heap.size A l) (hm : n ≤ 1000000) (hnc : n ≤ c) (hcc : c ≤ 9223372036854775807) :
    Calls Tryd.prog 83 #[keyV k0 k1, .slice A n c] w fun e w' => e = .returned (keyV (mixF (tagF k0 k1 l) 1) (mixF (tagF k0 k1 l) 2)) ∧ Below w.heap.size w w' := by
  have hu := tagF_u64 k0 k1 l
  have hT := fun W hB => rtag_any k0 k1 A n c l W hk0 hk1 hn hB hm hnc hcc
  generalize tagF k0 k1 l = t at hu hT ⊢
  have hM1 := fun W => rmix_any t 1 W hu ⟨by omega, by omega⟩
  have hM2 := fun W => rmix_any t 2 W hu ⟨by omega, by omega⟩
  generalize mixF t 1 = m1 at hM1 ⊢
  generalize mixF t 2 = m2 at hM2 ⊢
  clear hk0 hk1 hn hm hnc hcc hu
  go_enter Tryd.func83, Tryd.ntmps83
  go_wp2_with (first
    | (refine wpl_box (by rfl) 29 _ (by rfl) _ (keyL k0 k1) (by rfl) rfl ?_; intro w1 J1 s1 b1)
    | (refine wpl_alloc (by rfl) 29 (by rfl) (keyV 0 0) (keyL 0 0) zeroKey rfl ?_; intro w2 R2 s2 b2; (have J2 := J1.below b2 (by omega)))
    | (refine wpl_load (by rfl) 29 _ (by rfl) w.heap.size (by rfl) 29 _ J2 _ Tryd.underlying29 rfl _ sizeKey (by rfl) ?_)
    | (go_at_call 69; ((with_reducible refine (hT _ (((h.below b1 (Nat.le_refl _)).below b2 (by omega)).wide (Nat.le_refl _) (by omega))).mono ?_); rintro e w3 ⟨rfl, b3⟩; (have R3 := R2.below b3 (by omega))))
    | (go_at_call 85; ((with_reducible refine (hM1 _).mono ?_); rintro e w' ⟨rfl, rfl⟩))
    | (go_at_call 85; ((with_reducible refine (hM2 _).mono ?_); rintro e w' ⟨rfl, rfl⟩))
    | (refine wpl_store (by rfl) 29 _ _ (by rfl) w1.heap.size (by rfl) _ (by rfl) (keyL m1 m2) rfl 29 _ R3 (show (2 : Nat) = 2 from rfl) _ sizeKey (by rfl) (by simp [Value.oneCell']) ?_; intro w4 R4 s4 g4))
  refine bodyPost_ret (res_c Tryd.results83 (by rfl) R4 Tryd.underlying29 rfl sizeKey (by rfl)) rfl ?_
  exact ⟨rfl, ((b1.trans (b2.mono (by omega))).trans (b3.mono (by omega))).trans (g4.below (by have := b3.size; omega) (by omega))⟩
set_option maxHeartbeats 4000000 in
theorem derive_any (k0 k1 : Int) (A : Option Addr) (n c : Nat) (l : List Int) (w : World) (hk0 : U64 k0) (hk1 : U64 k1) (hn : l.length = n) (h : Bs w 0 w.heap.size A l) (hm : n ≤ 1000000) (hnc : n ≤ c) (hcc : c ≤ 9223372036854775807) (hR : Rnd w) :
    Calls Tryd.prog 79 #[keyV k0 k1, .slice A n c] w fun e w' => e = .returned (keyV (mixF (tagF k0 k1 l) 1) (mixF (tagF k0 k1 l) 2)) ∧ Below w.heap.size w w' := by
  have hw0 := hR.lt
  have hu := tagF_u64 k0 k1 l
  have hT := fun W hB hr => tag_any k0 k1 A n c l W hk0 hk1 hn hB hm hnc hcc hr
  generalize tagF k0 k1 l = t at hu hT ⊢
  have hM1 := fun W hr => mix_any t 1 W hu ⟨by omega, by omega⟩ hr
  have hM2 := fun W hr => mix_any t 2 W hu ⟨by omega, by omega⟩ hr
  generalize mixF t 1 = m1 at hM1 ⊢
  generalize mixF t 2 = m2 at hM2 ⊢
  clear hk0 hk1 hn hm hnc hcc hu
  go_enter Tryd.func79, Tryd.ntmps79
  go_wp2_with (first
    | ((refine wpl_box (by rfl) 29 _ (by rfl) _ (keyL k0 k1) (by rfl) rfl ?_; intro w1 J1 s1 b1); (have R1 := hR.below b1 hw0))
    | (refine wpl_alloc (by rfl) 29 (by rfl) (keyV 0 0) (keyL 0 0) zeroKey rfl ?_; intro w2 X2 s2 b2; (have J2 := J1.below b2 (by omega)); (have R2 := R1.below b2 R1.lt))
    | (refine wpl_load (by rfl) 29 _ (by rfl) w.heap.size (by rfl) 29 _ J2 _ Tryd.underlying29 rfl _ sizeKey (by rfl) ?_)
    | (go_at_call 74; ((with_reducible refine (hT _ (((h.below b1 (Nat.le_refl _)).below b2 (by omega)).wide (Nat.le_refl _) (by omega)) R2).mono ?_); rintro e w3 ⟨rfl, b3⟩; (have X3 := X2.below b3 (by omega)); (have R3 := R2.below b3 R2.lt); (have z3 := b3.size)))
    | (go_at_call 81; ((with_reducible refine (hM1 _ R3).mono ?_); rintro e w4 ⟨rfl, b4⟩; (have X4 := X3.below b4 (by omega)); (have R4 := R3.below b4 R3.lt); (have z4 := b4.size)))
    | (go_at_call 81; ((with_reducible refine (hM2 _ R4).mono ?_); rintro e w5 ⟨rfl, b5⟩; (have X5 := X4.below b5 (by omega)); (have z5 := b5.size)))
    | (refine wpl_store (by rfl) 29 _ _ (by rfl) w1.heap.size (by rfl) _ (by rfl) (keyL m1 m2) rfl 29 _ X5 (show (2 : Nat) = 2 from rfl) _ sizeKey (by rfl) (by simp [Value.oneCell']) ?_; intro w6 X6 s6 g6))
  refine bodyPost_ret (res_c Tryd.results79 (by rfl) X6 Tryd.underlying29 rfl sizeKey (by rfl)) rfl ?_
  exact ⟨rfl, ((((b1.trans (b2.mono (by omega))).trans (b3.mono (by omega))).trans (b4.mono (by omega))).trans (b5.mono (by omega))).trans (g6.below (by omega) (by omega))⟩
/-- a jar of the reference -/
abbrev jarL (s k g : Int) : List Value := [.int .u64 s, .int .i64 k, .int .i64 g]
theorem two_u64 {g : Int} (h : Gn g) : IntKind.u64.wrap (2 * g) = 2 * g ∧ IntKind.u64.wrap (2 * g + 1) = 2 * g + 1 ∧ IntKind.i64.wrap (2 * g) = 2 * g ∧ IntKind.i64.wrap (2 * g + 1) = 2 * g + 1 ∧ IntKind.u64.wrap g = g := by
  obtain ⟨h0, h1⟩ := h
  refine ⟨?_, ?_, ?_, ?_, ?_⟩
  · rw [IntKind.wrap_u64]; omega
  · rw [IntKind.wrap_u64]; omega
  · rw [IntKind.wrap_i64]; omega
  · rw [IntKind.wrap_i64]; omega
  · rw [IntKind.wrap_u64]; omega
set_option maxHeartbeats 4000000 in
theorem rmaster_any (bj : Nat) (s k g gg : Int) (w : World) (hs : U64 s) (hg : Gn g) (hJ : Blk w bj 89 (jarL s k gg)) :
    Calls Tryd.prog 84 #[.pointer (some ⟨bj, 0, none⟩), .int .i64 g] w fun e w' => e = .returned (keyV (mkA s g) (mkB s g)) ∧ Below w.heap.size w w' := by
  have hlt := hJ.lt
  obtain ⟨e1, e2, e3, e4, e5⟩ := two_u64 hg
  have hM1 := fun W => rmix_any s (2 * g) W hs (by obtain ⟨h0, h1⟩ := hg; exact ⟨by omega, by omega⟩)
  have hM2 := fun W => rmix_any s (2 * g + 1) W hs (by obtain ⟨h0, h1⟩ := hg; exact ⟨by omega, by omega⟩)
  clear hs hg
  have hA : mixF s (2 * g) = mkA s g := rfl
  have hB : mixF s (2 * g + 1) = mkB s g := rfl
  rw [hA] at hM1
  rw [hB] at hM2
  generalize mkA s g = m1 at hM1 ⊢
  generalize mkB s g = m2 at hM2 ⊢
  clear hA hB
  go_enter Tryd.func84, Tryd.ntmps84
  go_wp2_with (first
    | (refine wpl_alloc (by rfl) 29 (by rfl) (keyV 0 0) (keyL 0 0) zeroKey rfl ?_; intro w1 X1 s1 b1; (have J1 := hJ.below b1 hlt)))
  have q0 := J1.drew.cell (i := 0) rfl
  refine wp_region_heldL (fun w' => w'.cell? ⟨bj, 0, none⟩ = some (.int .u64 s)) 19 (by kernel_rfl) rfl q0 fun hHeld => ?_
  simp only [List.replicate]
  (refine wpH_t 0 _ (by exact gE rfl) (by kernel_rfl) (by intro _ _ _ h; exact h) (Or.inl ⟨by rfl, (by intro _ h; (try dsimp only at h); go_simp; first | done | with_reducible rfl)⟩) (by assumption) ?_; (try simp only [Act.put, zs0, zs1, zs2]))
  (refine wpH_t 1 _ (by exact gE rfl) (by kernel_rfl) (by intro _ _ _ h; exact h) (Or.inl ⟨by rfl, (by intro _ h; (try dsimp only at h); go_simp; first | done | with_reducible rfl)⟩) (by assumption) ?_; (try simp only [Act.put, zs0, zs1, zs2]))
  (refine wpH_t 2 _ (by exact gE rfl) (by kernel_rfl) (by intro _ _ _ h; exact h) (Or.inl ⟨by rfl, (by intro _ h; (try dsimp only at h); go_simp; first | done | with_reducible rfl)⟩) (by assumption) ?_; (try simp only [Act.put, zs0, zs1, zs2]))
  (refine wpH_t 3 _ (by exact gE rfl) (by kernel_rfl) (by intro _ _ _ h; exact h) (Or.inl ⟨by rfl, (by intro _ h; (try dsimp only at h); go_simp; first | done | with_reducible rfl)⟩) (by assumption) ?_; (try simp only [Act.put, zs0, zs1, zs2]))
  (refine wpH_t 4 _ (by exact gE rfl) (by kernel_rfl) (by intro _ _ _ h; exact h) (Or.inl ⟨by rfl, (by intro _ h; (try dsimp only at h); go_simp; first | done | with_reducible rfl)⟩) (by assumption) ?_; (try simp only [Act.put, zs0, zs1, zs2]))
  (refine wpH_t 5 _ (by exact gE rfl) (by kernel_rfl) (by intro _ _ _ h; exact h) (Or.inl ⟨by rfl, (by intro _ h; (try dsimp only at h); go_simp; first | done | with_reducible rfl)⟩) (by assumption) ?_; (try simp only [Act.put, zs0, zs1, zs2]))
  (refine wpH_t 6 _ (by exact gE rfl) (by kernel_rfl) (by intro _ _ _ h; exact h) (Or.inl ⟨by rfl, (by intro _ h; (try dsimp only at h); go_simp; first | done | with_reducible rfl)⟩) (by assumption) ?_; (try simp only [Act.put, zs0, zs1, zs2]))
  (refine wpH_t 8 _ (by exact gE rfl) (by kernel_rfl) (by intro _ _ _ h; exact h) (Or.inl ⟨by rfl, (by intro _ h; (try dsimp only at h); go_simp; first | done | with_reducible rfl)⟩) (by assumption) ?_; (try simp only [Act.put, zs0, zs1, zs2]))
  (refine wpH_t 9 _ (by exact gE rfl) (by kernel_rfl) (by intro _ _ _ h; exact h) (Or.inl ⟨by rfl, (by intro _ h; (try dsimp only at h); go_simp; first | done | with_reducible rfl)⟩) (by assumption) ?_; (try simp only [Act.put, zs0, zs1, zs2]))
  (refine wpH_t 10 _ (by exact gE rfl) (by kernel_rfl) (by intro _ _ _ h; exact h) (Or.inl ⟨by rfl, (by intro _ h; (try dsimp only at h); go_simp; first | done | with_reducible rfl)⟩) (by assumption) ?_; (try simp only [Act.put, zs0, zs1, zs2]))
  (refine wpH_t 11 _ (by exact gE rfl) (by kernel_rfl) (by intro _ _ _ h; exact h) (Or.inl ⟨by rfl, (by intro _ h; (try dsimp only at h); go_simp; first | done | with_reducible rfl)⟩) (by assumption) ?_; (try simp only [Act.put, zs0, zs1, zs2]))
  (refine wpH_t 12 _ (by exact gE rfl) (by kernel_rfl) (by intro _ _ _ h; exact h) (Or.inl ⟨by rfl, (by intro _ h; (try dsimp only at h); go_simp; first | done | with_reducible rfl)⟩) (by assumption) ?_; (try simp only [Act.put, zs0, zs1, zs2]))
  (refine wpH_t 13 _ (by exact gE rfl) (by kernel_rfl) (by intro _ _ _ h; exact h) (Or.inl ⟨by rfl, (by intro _ h; (try dsimp only at h); go_simp; first | done | with_reducible rfl)⟩) (by assumption) ?_; (try simp only [Act.put, zs0, zs1, zs2]))
  (refine wpH_t 14 _ (by exact gE rfl) (by kernel_rfl) (by intro _ _ _ h; exact h) (Or.inl ⟨by rfl, (by intro _ h; (try dsimp only at h); go_simp; first | done | with_reducible rfl)⟩) (by assumption) ?_; (try simp only [Act.put, zs0, zs1, zs2]))
  (refine wpH_t 15 _ (by exact gE rfl) (by kernel_rfl) (by intro _ _ _ h; exact h) (Or.inl ⟨by rfl, (by intro _ h; (try dsimp only at h); go_simp; first | done | with_reducible rfl)⟩) (by assumption) ?_; (try simp only [Act.put, zs0, zs1, zs2]))
  (refine wpH_one (i := 7) (by exact gE rfl) (by kernel_rfl) (by rfl) ?_; (go_simp; (with_reducible refine (hM1 _).mono ?_); rintro e w' ⟨rfl, rfl⟩; refine ⟨q0, ?_⟩); (try simp only [Act.put, zs0, zs1, zs2]))
  (refine wpH_one (i := 16) (by exact gE rfl) (by kernel_rfl) (by rfl) ?_; (go_simp; (with_reducible refine (hM2 _).mono ?_); rintro e w' ⟨rfl, rfl⟩; refine ⟨q0, ?_⟩); (try simp only [Act.put, zs0, zs1, zs2]))
  (refine wpH_t 17 _ (by exact gE rfl) (by kernel_rfl) (by intro _ _ _ h; exact h) (Or.inl ⟨by rfl, (by intro _ h; (try dsimp only at h); go_simp; first | done | with_reducible rfl)⟩) (by assumption) ?_; (try simp only [Act.put, zs0, zs1, zs2]))
  (refine wpH_one (i := 18) (by exact gE rfl) (by kernel_rfl) (by rfl) ?_; (refine wp_store_mid 29 (.tmp 4) (.tmp 22) (by rfl) w.heap.size 0 (keyL m1 m2).toArray (by rfl) (by rfl) (show World.there _ _ 0 2 from X1.drew.there) sizeKey (all_oneCell_toArray (by simp [Value.oneCell'])) ?_; refine ⟨(Blk.but J1.drew (but_setCells _ _ _ (World.grownBy.refl _ _)) (by omega)).cell rfl, ?_⟩); (try simp only [Act.put, zs0, zs1, zs2]))
  refine wpH_done (by kernel_rfl) ?_ _
  have X2 : Blk (w1.drew.setCells w.heap.size 0 (keyL m1 m2)) w.heap.size 29 (keyL m1 m2) := X1.drew.stored (keyL m1 m2) (show (2 : Nat) = 2 from rfl)
  have G2 : But w.heap.size w1.drew (w1.drew.setCells w.heap.size 0 (keyL m1 m2)) := but_setCells _ _ _ (World.grownBy.refl _ _)
  go_wp2_with fail
  refine bodyPost_ret (res_c Tryd.results84 (by rfl) X2 Tryd.underlying29 rfl sizeKey (show (2 : Nat) = 2 from rfl)) rfl ?_
  exact ⟨rfl, b1.drew.trans (G2.below (by show _ ≤ w1.heap.size; omega) (Nat.le_refl _))⟩
end Go.Proofs.YtachhbbofemfdaaDoor
namespace Go.Proofs.YtachhbbofemfdaaDoor
open Go.RowKit
set_option linter.unusedSimpArgs false
set_option linter.unusedVariables false
set_option maxRecDepth 100000
theorem Rnd.drew {w : World} (h : Rnd w) : Rnd w.drew := h
theorem Rnd.alloc {w : World} (h : Rnd w) (o : Obj) : Rnd (w.alloc o) := by obtain ⟨t, h⟩ := h; exact ⟨t, Blk.old h⟩
set_option maxHeartbeats 4000000 in
theorem master_any (bj : Nat) (s k g gg : Int) (w : World) (hs : U64 s) (hg : Gn g) (hJ : Blk w bj 84 (jarL s k gg)) (hR : Rnd w) :
    Calls Tryd.prog 80 #[.pointer (some ⟨bj, 0, none⟩), .int .i64 g] w fun e w' => e = .returned (keyV (mkA s g) (mkB s g)) ∧ Below w.heap.size w w' := by
  have hlt := hJ.lt
  have hw0 := hR.lt
  obtain ⟨e1, e2, e3, e4, e5⟩ := two_u64 hg
  have hM1 := fun W hr => mix_any s (2 * g) W hs (by obtain ⟨h0, h1⟩ := hg; exact ⟨by omega, by omega⟩) hr
  have hM2 := fun W hr => mix_any s (2 * g + 1) W hs (by obtain ⟨h0, h1⟩ := hg; exact ⟨by omega, by omega⟩) hr
  clear hs hg
  have hA : mixF s (2 * g) = mkA s g := rfl
  have hB : mixF s (2 * g + 1) = mkB s g := rfl
  rw [hA] at hM1
  rw [hB] at hM2
  generalize mkA s g = m1 at hM1 ⊢
  generalize mkB s g = m2 at hM2 ⊢
  clear hA hB
  go_enter Tryd.func80, Tryd.ntmps80
  go_wp2_with (first
    | (refine wpl_alloc (by rfl) 29 (by rfl) (keyV 0 0) (keyL 0 0) zeroKey rfl ?_; intro w1 X1 s1 b1; (have J1 := hJ.below b1 hlt)))
  have R1 := hR.below b1 hw0
  have hz1 : 0 < w1.heap.size := by omega
  have hb1 : bj < w1.heap.size := by omega
  have q0 := J1.drew.cell (i := 0) rfl
  refine wp_region_heldL (fun w' => w'.cell? ⟨bj, 0, none⟩ = some (.int .u64 s)) 17 (by kernel_rfl) rfl q0 fun hHeld => ?_
  simp only [List.replicate]
  (refine wpH_t 0 _ (by exact gE rfl) (by kernel_rfl) (by intro _ _ _ h; exact h) (Or.inl ⟨by rfl, (by intro _ h; (try dsimp only at h); go_simp; first | done | with_reducible rfl)⟩) (by assumption) ?_; (try simp only [Act.put, zs0, zs1, zs2]))
  (refine wpH_t 1 _ (by exact gE rfl) (by kernel_rfl) (by intro _ _ _ h; exact h) (Or.inl ⟨by rfl, (by intro _ h; (try dsimp only at h); go_simp; first | done | with_reducible rfl)⟩) (by assumption) ?_; (try simp only [Act.put, zs0, zs1, zs2]))
  (refine wpH_t 2 _ (by exact gE rfl) (by kernel_rfl) (by intro _ _ _ h; exact h) (Or.inl ⟨by rfl, (by intro _ h; (try dsimp only at h); go_simp; first | done | with_reducible rfl)⟩) (by assumption) ?_; (try simp only [Act.put, zs0, zs1, zs2]))
  (refine wpH_t 3 _ (by exact gE rfl) (by kernel_rfl) (by intro _ _ _ h; exact h) (Or.inl ⟨by rfl, (by intro _ h; (try dsimp only at h); go_simp; first | done | with_reducible rfl)⟩) (by assumption) ?_; (try simp only [Act.put, zs0, zs1, zs2]))
  (refine wpH_t 4 _ (by exact gE rfl) (by kernel_rfl) (by intro _ _ _ h; exact h) (Or.inl ⟨by rfl, (by intro _ h; (try dsimp only at h); go_simp; first | done | with_reducible rfl)⟩) (by assumption) ?_; (try simp only [Act.put, zs0, zs1, zs2]))
  (refine wpH_t 5 _ (by exact gE rfl) (by kernel_rfl) (by intro _ _ _ h; exact h) (Or.inl ⟨by rfl, (by intro _ h; (try dsimp only at h); go_simp; first | done | with_reducible rfl)⟩) (by assumption) ?_; (try simp only [Act.put, zs0, zs1, zs2]))
  (refine wpH_t 7 _ (by exact gE rfl) (by kernel_rfl) (by intro _ _ _ h; exact h) (Or.inl ⟨by rfl, (by intro _ h; (try dsimp only at h); go_simp; first | done | with_reducible rfl)⟩) (by assumption) ?_; (try simp only [Act.put, zs0, zs1, zs2]))
  (refine wpH_t 8 _ (by exact gE rfl) (by kernel_rfl) (by intro _ _ _ h; exact h) (Or.inl ⟨by rfl, (by intro _ h; (try dsimp only at h); go_simp; first | done | with_reducible rfl)⟩) (by assumption) ?_; (try simp only [Act.put, zs0, zs1, zs2]))
  (refine wpH_t 9 _ (by exact gE rfl) (by kernel_rfl) (by intro _ _ _ h; exact h) (Or.inl ⟨by rfl, (by intro _ h; (try dsimp only at h); go_simp; first | done | with_reducible rfl)⟩) (by assumption) ?_; (try simp only [Act.put, zs0, zs1, zs2]))
  (refine wpH_t 10 _ (by exact gE rfl) (by kernel_rfl) (by intro _ _ _ h; exact h) (Or.inl ⟨by rfl, (by intro _ h; (try dsimp only at h); go_simp; first | done | with_reducible rfl)⟩) (by assumption) ?_; (try simp only [Act.put, zs0, zs1, zs2]))
  (refine wpH_t 11 _ (by exact gE rfl) (by kernel_rfl) (by intro _ _ _ h; exact h) (Or.inl ⟨by rfl, (by intro _ h; (try dsimp only at h); go_simp; first | done | with_reducible rfl)⟩) (by assumption) ?_; (try simp only [Act.put, zs0, zs1, zs2]))
  (refine wpH_t 12 _ (by exact gE rfl) (by kernel_rfl) (by intro _ _ _ h; exact h) (Or.inl ⟨by rfl, (by intro _ h; (try dsimp only at h); go_simp; first | done | with_reducible rfl)⟩) (by assumption) ?_; (try simp only [Act.put, zs0, zs1, zs2]))
  (refine wpH_t 13 _ (by exact gE rfl) (by kernel_rfl) (by intro _ _ _ h; exact h) (Or.inl ⟨by rfl, (by intro _ h; (try dsimp only at h); go_simp; first | done | with_reducible rfl)⟩) (by assumption) ?_; (try simp only [Act.put, zs0, zs1, zs2]))
  (refine wpH_one (i := 6) (by exact gE rfl) (by kernel_rfl) (by rfl) ?_; (go_simp; (with_reducible refine (hM1 w1.drew R1.drew).mono ?_); rintro e w2 ⟨rfl, b2⟩; refine ⟨(J1.drew.below b2 hb1).cell rfl, ?_⟩); (try simp only [Act.put, zs0, zs1, zs2]))
  have J2 := J1.drew.below b2 hb1
  have X2 := X1.drew.below b2 s1
  have R2 : Rnd w2 := R1.drew.below b2 hz1
  have z2 : w1.heap.size ≤ w2.heap.size := b2.size
  (refine wpH_one (i := 14) (by exact gE rfl) (by kernel_rfl) (by rfl) ?_; (go_simp; (with_reducible refine (hM2 w2 R2).mono ?_); rintro e w3 ⟨rfl, b3⟩; refine ⟨(J2.below b3 (by omega)).cell rfl, ?_⟩); (try simp only [Act.put, zs0, zs1, zs2]))
  have J3 := J2.below b3 (by omega)
  have X3 := X2.below b3 (by omega)
  have z3 := b3.size
  have hHeld3 := J3.cell (i := 0) rfl
  (refine wpH_t 15 _ (by exact gE rfl) (by kernel_rfl) (by intro _ _ _ h; exact h) (Or.inl ⟨by rfl, (by intro _ h; (try dsimp only at h); go_simp; first | done | with_reducible rfl)⟩) (by assumption) ?_; (try simp only [Act.put, zs0, zs1, zs2]))
  (refine wpH_one (i := 16) (by exact gE rfl) (by kernel_rfl) (by rfl) ?_; (refine wp_store_mid 29 (.tmp 4) (.tmp 23) (by rfl) w.heap.size 0 (keyL m1 m2).toArray (by rfl) (by rfl) (show World.there _ _ 0 2 from X3.there) sizeKey (all_oneCell_toArray (by simp [Value.oneCell'])) ?_; refine ⟨(Blk.but J3 (but_setCells _ _ _ (World.grownBy.refl _ _)) (by omega)).cell rfl, ?_⟩); (try simp only [Act.put, zs0, zs1, zs2]))
  refine wpH_done (by kernel_rfl) ?_ _
  have X4 : Blk (w3.setCells w.heap.size 0 (keyL m1 m2)) w.heap.size 29 (keyL m1 m2) := X3.stored (keyL m1 m2) (show (2 : Nat) = 2 from rfl)
  have G4 : But w.heap.size w3 (w3.setCells w.heap.size 0 (keyL m1 m2)) := but_setCells _ _ _ (World.grownBy.refl _ _)
  go_wp2_with fail
  refine bodyPost_ret (res_c Tryd.results80 (by rfl) X4 Tryd.underlying29 rfl sizeKey (show (2 : Nat) = 2 from rfl)) rfl ?_
  exact ⟨rfl, ((b1.drew.trans (b2.mono (by show _ ≤ w1.heap.size; omega))).trans (b3.mono (by omega))).trans (G4.below (by omega) (Nat.le_refl _))⟩
theorem conv_bs (x y z : Int) (W : World) : (convert 23 23 (.slice (some ⟨W.heap.size, 0, none⟩) 3 3)).run Tryd.prog (W.alloc (.cells #[.int .u8 x, .int .u8 y, .int .u8 z] 5)) = .ok (.slice (some ⟨W.heap.size, 0, none⟩) 3 3) (W.alloc (.cells #[.int .u8 x, .int .u8 y, .int .u8 z] 5 (3, 4))) :=
  Lib.run_convert_bytes_const W 23 5 #[.int .u8 x, .int .u8 y, .int .u8 z] 3 3 Tryd.underlying23 Tryd.underlying5
theorem bytPad : Byt padL := by decide
theorem bytLab : Byt labL := by decide
theorem bs3 {w : World} {x y z : Int} (h : Byt [x, y, z]) : Bs (w.alloc (.cells #[.int .u8 x, .int .u8 y, .int .u8 z] 5 (3, 4))) 0 (w.alloc (.cells #[.int .u8 x, .int .u8 y, .int .u8 z] 5 (3, 4))).heap.size (some ⟨w.heap.size, 0, none⟩) [x, y, z] := by
  have hB := heap_alloc_new w (.cells #[.int .u8 x, .int .u8 y, .int .u8 z] 5 (3, 4))
  refine ⟨h, fun _ => ⟨w.heap.size, 0, rfl, Nat.zero_le _, by simp, fun k hk => ?_⟩⟩
  rw [Nat.zero_add, cell_of_row _ _ k _ _ _ hB]
  have hk' : k = 0 ∨ k = 1 ∨ k = 2 := by simp at hk; omega
  rcases hk' with rfl | rfl | rfl <;> rfl
set_option maxHeartbeats 4000000 in
theorem jtag_any (bj : Nat) (s k g gg : Int) (A : Option Addr) (n c : Nat) (l : List Int) (w : World) (hs : U64 s) (hg : Gn g) (hJ : Blk w bj 84 (jarL s k gg)) (hR : Rnd w) (hn : l.length = n) (h : Bs w 0 w.heap.size A l) (hm : n ≤ 1000000) (hnc : n ≤ c) (hcc : c ≤ 9223372036854775807) :
    Calls Tryd.prog 47 #[.pointer (some ⟨bj, 0, none⟩), .slice A n c, .int .i64 g] w fun e w' => e = .returned (.int .u64 (jtag s g l)) ∧ Below w.heap.size w w' := by
  have hM := master_any bj s k g gg w hs hg hJ hR
  have hw0 := hR.lt
  clear hJ
  have hk1 := mkA_u64 s g
  have hk2 := mkB_u64 s g
  have hE : jtag s g l = tagF (mixF (tagF (mkA s g) (mkB s g) labL) 1) (mixF (tagF (mkA s g) (mkB s g) labL) 2) l := rfl
  rw [hE]
  clear hE
  generalize mkA s g = m1 at hM hk1 ⊢
  generalize mkB s g = m2 at hM hk2 ⊢
  have hD := fun W A n c l hn hB hr hm hnc hcc => derive_any m1 m2 A n c l W hk1 hk2 hn hB hm hnc hcc hr
  have hD' := fun W A hB hr => hD W A 3 3 labL rfl hB hr (by omega) (by omega) (by omega)
  have hu1 : U64 (mixF (tagF m1 m2 labL) 1) := mixF_u64 _ _
  have hu2 : U64 (mixF (tagF m1 m2 labL) 2) := mixF_u64 _ _
  generalize mixF (tagF m1 m2 labL) 1 = d1 at hD' hu1 ⊢
  generalize mixF (tagF m1 m2 labL) 2 = d2 at hD' hu2 ⊢
  have hT := fun W hB hr => tag_any d1 d2 A n c l W hu1 hu2 hn hB hm hnc hcc hr
  generalize tagF d1 d2 l = t at hT ⊢
  clear hD hu1 hu2
  go_enter Tryd.func47, Tryd.ntmps47
  go_wp2_with fail
  with_reducible refine hM.mono ?_
  rintro e w1 ⟨rfl, b1⟩
  have R1 := hR.below b1 hw0
  have z1 := b1.size
  have h1 := h.below b1 (Nat.le_refl _)
  have hE := hD' _ _ (bs3 (w := w1) bytLab) (R1.alloc _)
  have hcv := conv_bs 116 97 103
  clear hD' hM
  go_wp2_with fail
  with_reducible refine hE.mono ?_
  rintro e w2 ⟨rfl, b2⟩
  have B2 := (b1.alloc b1.size _).trans (b2.mono (by simp; omega))
  have R2 := (R1.alloc (.cells #[.int .u8 116, .int .u8 97, .int .u8 103] 5 (3, 4))).below b2 (by simp)
  have h2 := ((h1.alloc (by omega) (.cells #[.int .u8 116, .int .u8 97, .int .u8 103] 5 (3, 4))).below b2 (by simp; omega)).wide (Nat.le_refl _) (hi' := w2.heap.size) B2.size
  have hE2 := hT w2 h2 R2
  clear hE
  go_wp2_with fail
  with_reducible refine hE2.mono ?_
  rintro e w3 ⟨rfl, b3⟩
  go_wp2_with fail
  go_ret
  exact ⟨rfl, B2.trans (b3.mono B2.size)⟩
end Go.Proofs.YtachhbbofemfdaaDoor
namespace Go.Proofs.YtachhbbofemfdaaDoor
open Go.RowKit
set_option linter.unusedSimpArgs false
set_option linter.unusedVariables false
set_option maxRecDepth 100000
section
variable {w : World} {lo lo' hi' : Nat} {A B : Option Addr} {l m : List Int}
theorem run_append_bs (ty : TypeId) (n c m' c' : Nat) (hn : l.length = n) (hm : m.length = m') (hown : Ow w lo A c l) (hsrc : Bs w lo' hi' B m) (hsz : n + m' ≤ 140737488355328) (hlo : lo ≤ w.heap.size) :
    ∃ A' c'' w', (Builtin.append_ #[23, 23] ty #[.slice A n c, .slice B m' c']).run Tryd.prog w = .ok (.slice A' (n + m') c'') w' ∧ Ow w' lo A' c'' (l ++ m) ∧ Below lo w w' ∧ w.grownBy w' (Value.slice A n c).ownBlock := by
  obtain ⟨i, hi, hz, h1, h2⟩ := info_parts infoU8
  subst hn hm
  have done : ∀ v' w', (Builtin.append_ #[23, 23] ty #[.slice A l.length c, .slice B m.length c']).run Tryd.prog w = .ok v' w' → w'.ownsRow lo 5 1 v' (l.length + m.length) (l.map (Value.int .u8) ++ m.map (Value.int .u8)) → w.grownBy w' (Value.slice A l.length c).ownBlock →
      ∃ A' c'' w', (Builtin.append_ #[23, 23] ty #[.slice A l.length c, .slice B m.length c']).run Tryd.prog w = .ok (.slice A' (l.length + m.length) c'') w' ∧ Ow w' lo A' c'' (l ++ m) ∧ Below lo w w' ∧ w.grownBy w' (Value.slice A l.length c).ownBlock := by
    intro v' w' hrun r1 r2
    obtain ⟨A', c'', rfl, hO, _⟩ := Ow.mk r1 (l := l ++ m) (by rw [List.map_append]) (hown.1.app hsrc.byt)
    rw [List.length_append] at hrun
    exact ⟨A', c'', w', hrun, hO, below_of_grown r2 hlo fun k hk => (hown.2.lt k hk).1, r2⟩
  by_cases h0 : m.length = 0
  · obtain rfl : m = [] := List.eq_nil_of_length_eq_zero h0
    rcases B with _ | ad
    · refine done (.slice A l.length c) w ?_ (by simpa using hown.2) (World.grownBy.refl w _)
      rcases hown.2.2 with ⟨he, hl0⟩ | ⟨g, cap, cur, he, _, _, hnc, _⟩
      · rw [he]; simp [Builtin.append_, run_underlying Tryd.underlying23, sizeOf, typeInfo, hi, Builtin.lenOf, Builtin.firstCells]
      · rw [he]; simp [Builtin.append_, run_underlying Tryd.underlying23, sizeOf, typeInfo, hi, Builtin.lenOf, Builtin.firstCells, hnc, storeCells]
    · obtain ⟨v', w', hrun, r1, r2, _, r3⟩ := run_append_own_at (P := Tryd.prog) w lo 23 ty 5 i (.int .u8 0) 1 1 Tryd.underlying23 hi hz h1 h2 rfl (by omega) (.slice A l.length c) l.length _ hown.2
        ad 0 c' [] (by simp) (by simp) (by simp) (by unfold maxLen; simp at hsz; omega) (by simp at hsz; omega) hlo
      exact done v' w' hrun (by simpa using r1) r2
  · obtain ⟨b, off, rfl, _, _, hcell⟩ := hsrc.at (by omega)
    obtain ⟨v', w', hrun, r1, r2, _, r3⟩ := run_append_own_at (P := Tryd.prog) w lo 23 ty 5 i (.int .u8 0) 1 1 Tryd.underlying23 hi hz h1 h2 rfl (by omega) (.slice A l.length c) l.length _ hown.2
      ⟨b, off, none⟩ m.length c' (m.map (Value.int .u8)) (by simp) (cells_u8 hcell (Nat.le_refl _)) (oneCellU8 m) (by unfold maxLen; omega) (by omega) hlo
    exact done v' w' hrun r1 r2
theorem wp_append_bs {o : Oper} {a : Act} {K : Act → World → Prop} {Q : Exit → Act → World → Prop} (d s : Operand) (ho : o.op = .call { callee := .builtin .append, args := #[d, s], argTypes := #[23, 23] })
    (n c m' c' : Nat) (hd : a.eval d = .slice A n c) (hs : a.eval s = .slice B m' c') (hn : l.length = n) (hm : m.length = m') (hown : Ow w lo A c l) (hsrc : Bs w lo' hi' B m) (hsz : n + m' ≤ 140737488355328) (hlo : lo ≤ w.heap.size)
    (h : ∀ A' c' w', Ow w' lo A' c' (l ++ m) → Below lo w w' → K (a.put o.dst (.slice A' (n + m') c')) w') : o.wp Tryd.prog a w K Q := by
  obtain ⟨A', c'', w', hrun, h1, h2, _⟩ := run_append_bs (c' := c') o.type n c m' hn hm hown hsrc hsz hlo
  unfold Oper.wp execOp
  simp only [ho, resolve, invoke, builtin, Sem.run_bind, Sem.run_pure, Result.andThen_ok, List.map_toArray, List.map_cons, List.map_nil, hd, hs, hrun]
  exact h A' c'' w' h1 h2
theorem wpl_append_bs {ops : Array Oper} {rest : List Oper} {o : Oper} {a : Act} {Q : Exit → Act → World → Prop} (hw : Region.wanted o (yielded ops a.tmps) = true) (d s : Operand) (ho : o.op = .call { callee := .builtin .append, args := #[d, s], argTypes := #[23, 23] })
    (n c m' c' : Nat) (hd : a.eval d = .slice A n c) (hs : a.eval s = .slice B m' c') (hn : l.length = n) (hm : m.length = m') (hown : Ow w lo A c l) (hsrc : Bs w lo' hi' B m) (hsz : n + m' ≤ 140737488355328) (hlo : lo ≤ w.heap.size)
    (h : ∀ A' c' w', Ow w' lo A' c' (l ++ m) → Below lo w w' → wpList Tryd.prog ops Q rest (a.put o.dst (.slice A' (n + m') c')) w') : wpList Tryd.prog ops Q (o :: rest) a w :=
  wpl_want hw fun K hK => wp_append_bs d s ho n c m' c' hd hs hn hm hown hsrc hsz hlo fun A' c' w' h1 h2 => hK _ _ (h A' c' w' h1 h2)
end
end Go.Proofs.YtachhbbofemfdaaDoor
namespace Go.Proofs.YtachhbbofemfdaaDoor
open Go.RowKit
set_option linter.unusedSimpArgs false
set_option linter.unusedVariables false
set_option maxRecDepth 100000
section
variable {P : Program} {ops : Array Oper} {Q : Exit → Act → World → Prop} {md : Region.Mode} {S : World → Prop}
theorem wpH_two {i j : Nat} {oi oj : Oper} {fuel : Nat} {l : List Bool} {a : Act} {w : World} (hi : ops[i]? = some oi) (hj : ops[j]? = some oj) (hr : Region.ready md ops l.toArray = [i, j])
    (hwi : Region.wanted oi (yielded ops a.tmps) = true) (hwj : Region.wanted oj (yielded ops a.tmps) = true)
    (h1 : Oper.wp P oi a w (fun a' w' => S w' ∧ wpAnyH P md ops Q S fuel (l.set i true).toArray a' w') Q)
    (h2 : Oper.wp P oj a w (fun a' w' => S w' ∧ wpAnyH P md ops Q S fuel (l.set j true).toArray a' w') Q) : wpAnyH P md ops Q S (fuel + 1) l.toArray a w := by
  refine wpAnyH_all hr (by simp) fun k hk => ?_
  have hk' : k = i ∨ k = j := by simpa using hk
  unfold wpOp
  rcases hk' with rfl | rfl
  · rw [hi]
    show if Region.wanted oi (yielded ops a.tmps) = true then _ else _
    rw [if_pos hwi, List.setIfInBounds_toArray]
    exact .inl h1
  · rw [hj]
    show if Region.wanted oj (yielded ops a.tmps) = true then _ else _
    rw [if_pos hwj, List.setIfInBounds_toArray]
    exact .inl h2
end
section
variable {P : Program} {o : Oper} {a : Act} {w : World} {K : Act → World → Prop} {Q : Exit → Act → World → Prop}
/-- one cell is written, at an operation by itself -/
theorem wp_storef1 (T : TypeId) (x y : Operand) (ho : o.op = .store T x y) (b i : Nat) (hx : a.eval x = .pointer (some ⟨b, i, none⟩)) (v : Value) (hy : a.eval y = v) (hc : v.cells = #[v]) (h1 : v.oneCell' = true) (t : TypeId) (cs : List Value) (hB : Blk w b t cs) (hlt : i < cs.length)
    (hi : (P.info? T).map (·.size) = some 1) (h : K (a.put o.dst undef) (w.setCell ⟨b, i, none⟩ v)) : o.wp P a w K Q := by
  have ht : w.there b i 1 := fun j hj => by
    obtain rfl : j = 0 := by omega
    have := hB.there i hlt
    rwa [Nat.zero_add] at this
  have hr : (Instr.storeAt T (.pointer (some ⟨b, i, none⟩)) v).run P w = .ok () (w.setCell ⟨b, i, none⟩ v) := by
    have h2 := run_storeVar_mid (P := P) w b i T #[v] (by simpa using ht) (by simpa using hi) (by simpa using h1)
    have e : storeVar T ⟨b, i, none⟩ v = storeVar T ⟨b, i, none⟩ (.agg #[v]) := by unfold storeVar; rw [hc]; rfl
    simp only [Instr.storeAt, Instr.sureAddr, Sem.run_bind, Sem.run_pure, Result.andThen_ok, e, h2]
    rfl
  unfold Oper.wp execOp
  simp only [ho, hx, hy, Sem.run_bind, hr, Result.andThen_ok, Sem.run_pure]
  exact h
/-- one cell is read, at an operation by itself -/
theorem wp_loadf1 (T : TypeId) (x : Operand) (ho : o.op = .load T x) (b i : Nat) (hx : a.eval x = .pointer (some ⟨b, i, none⟩)) (v : Value) (hcell : w.cell? ⟨b, i, none⟩ = some v) (d : TypeDesc)
    (hu : P.underlying T = some d) (hd : d.isRow = false) (h : K (a.put o.dst v) w) : o.wp P a w K Q := by
  have hagg : (isAgg T).run P w = .ok false w := by
    unfold isAgg
    rw [Sem.run_bind, run_underlying hu w]
    cases d <;> simp_all
  have hr : (Instr.loadAt T (.pointer (some ⟨b, i, none⟩))).run P w = .ok v w := by
    simp [Instr.loadAt, Instr.sureAddr, loadVar, Sem.run_bind, hagg, hcell, go_sem]
  unfold Oper.wp execOp
  simp only [ho, hx, Sem.run_bind, hr, Result.andThen_ok, Sem.run_pure]
  exact h
end
end Go.Proofs.YtachhbbofemfdaaDoor
namespace Go.Proofs.YtachhbbofemfdaaDoor
open Go.RowKit
set_option linter.unusedSimpArgs false
set_option linter.unusedVariables false
set_option maxRecDepth 100000
abbrev fourL (a b c d : Int) : List Value := [.int .u64 a, .int .u64 b, .int .u64 c, .int .u64 d]
abbrev fourV (a b c d : Int) : Value := .agg #[.int .u64 a, .int .u64 b, .int .u64 c, .int .u64 d]
def xr (a b : Int) : Int := bits .xor .u64 a b
theorem xr_u64 {a b : Int} (ha : U64 a) (hb : U64 b) : U64 (xr a b) := xor_u64 ha hb
theorem size4 : (Tryd.prog.info? 95).map (·.size) = some 4 := by kernel_rfl
theorem zero4 : (Tryd.prog.info? 95).map (·.zero) = some (some (fourV 0 0 0 0)) := by kernel_rfl
theorem zeroU64'' : (Tryd.prog.info? 22).map (·.size) = some 1 := by kernel_rfl
def mskL (x0 x1 x2 x3 y0 y1 y2 y3 : Int) : Nat → List Value
  | 0 => fourL x0 x1 x2 x3
  | 1 => fourL y0 x1 x2 x3
  | 2 => fourL y0 y1 x2 x3
  | 3 => fourL y0 y1 y2 x3
  | _ => fourL y0 y1 y2 y3
open Go.RowKit
set_option maxHeartbeats 16000000 in
theorem mask_any (bj : Nat) (s k g gg nonce x0 x1 x2 x3 : Int) (w : World) (hs : U64 s) (hg : Gn g) (hn : U64 nonce) (hJ : Blk w bj 84 (jarL s k gg)) (hR : Rnd w) :
    Calls Tryd.prog 46 #[.pointer (some ⟨bj, 0, none⟩), fourV x0 x1 x2 x3, .int .i64 g, .int .u64 nonce] w fun e w' => e = .returned (fourV (xr x0 (padF s g nonce 0)) (xr x1 (padF s g nonce 1)) (xr x2 (padF s g nonce 2)) (xr x3 (padF s g nonce 3))) ∧ Below w.heap.size w w' := by
  have hM := fun W hJ hr => master_any bj s k g gg W hs hg hJ hr
  have hw0 := hR.lt
  have hbj := hJ.lt
  have hk1 := mkA_u64 s g
  have hk2 := mkB_u64 s g
  have hD' := fun W A hB hr => derive_any (mkA s g) (mkB s g) A 3 3 padL W hk1 hk2 rfl hB (by omega) (by omega) (by omega) hr
  have hu1 : U64 (mixF (tagF (mkA s g) (mkB s g) padL) 1) := mixF_u64 _ _
  have e0 : padF s g nonce 0 = mixF (mixF (mixF (tagF (mkA s g) (mkB s g) padL) 1) nonce) 1 := rfl
  have e1 : padF s g nonce 1 = mixF (mixF (mixF (tagF (mkA s g) (mkB s g) padL) 1) nonce) 2 := rfl
  have e2 : padF s g nonce 2 = mixF (mixF (mixF (tagF (mkA s g) (mkB s g) padL) 1) nonce) 3 := rfl
  have e3 : padF s g nonce 3 = mixF (mixF (mixF (tagF (mkA s g) (mkB s g) padL) 1) nonce) 4 := rfl
  rw [e0, e1, e2, e3]
  clear e0 e1 e2 e3
  generalize mixF (tagF (mkA s g) (mkB s g) padL) 1 = d1 at hD' hu1 ⊢
  generalize mixF (tagF (mkA s g) (mkB s g) padL) 2 = d2 at hD'
  generalize mkA s g = m1 at hM hk1 hD'
  generalize mkB s g = m2 at hM hk2 hD'
  have hMn := fun W hr => mix_any d1 nonce W hu1 hn hr
  have hu2 : U64 (mixF d1 nonce) := mixF_u64 _ _
  generalize mixF d1 nonce = sd at hMn hu2 ⊢
  have hM0 := fun W hr => mix_any sd 1 W hu2 ⟨by omega, by omega⟩ hr
  have hM1 := fun W hr => mix_any sd 2 W hu2 ⟨by omega, by omega⟩ hr
  have hM2 := fun W hr => mix_any sd 3 W hu2 ⟨by omega, by omega⟩ hr
  have hM3 := fun W hr => mix_any sd 4 W hu2 ⟨by omega, by omega⟩ hr
  generalize mixF sd 1 = p0 at hM0 ⊢
  generalize mixF sd 2 = p1 at hM1 ⊢
  generalize mixF sd 3 = p2 at hM2 ⊢
  generalize mixF sd 4 = p3 at hM3 ⊢
  have hx0 : bits .xor .u64 x0 p0 = xr x0 p0 := rfl
  have hx1 : bits .xor .u64 x1 p1 = xr x1 p1 := rfl
  have hx2 : bits .xor .u64 x2 p2 = xr x2 p2 := rfl
  have hx3 : bits .xor .u64 x3 p3 = xr x3 p3 := rfl
  generalize xr x0 p0 = y0 at hx0 ⊢
  generalize xr x1 p1 = y1 at hx1 ⊢
  generalize xr x2 p2 = y2 at hx2 ⊢
  generalize xr x3 p3 = y3 at hx3 ⊢
  have hcv := conv_bs 112 97 100
  clear hs hg hk1 hk2 hu1 hn hu2
  go_enter Tryd.func46, Tryd.ntmps46
  go_wp2_with (first
    | ((refine wpl_box (by rfl) 95 _ (by rfl) _ (fourL x0 x1 x2 x3) (by rfl) rfl ?_; intro w1 X1 s1 b1); (have J1 := hJ.below b1 hbj); (have R1 := hR.below b1 hw0))
    | ((with_reducible show wpList _ _ _ (⟨some 8, _, _, _, _, _⟩ :: _) _ _); refine wpl_alloc (by rfl) 95 (by rfl) (fourV 0 0 0 0) (fourL 0 0 0 0) zero4 rfl ?_; intro w2 T2 s2 b2; (have X2 := X1.below b2 (by omega)); (have J2 := J1.below b2 (by omega)); (have R2 := R1.below b2 R1.lt))
    | (go_at_call 80; ((with_reducible refine (hM _ J2 R2).mono ?_); rintro e w3 ⟨rfl, b3⟩; (have X3 := X2.below b3 (by omega)); (have T3 := T2.below b3 (by omega)); (have R3 := R2.below b3 R2.lt); (have z3 := b3.size))))
  have b4 : Below w3.heap.size w3 (w3.alloc (.cells #[.int .u8 112, .int .u8 97, .int .u8 100] 5 (3, 4))) := (Below.refl _ w3).alloc (Nat.le_refl _) _
  have hE := hD' _ _ (bs3 (w := w3) bytPad) (R3.alloc _)
  have X4 := X3.below b4 (by omega)
  have T4 := T3.below b4 (by omega)
  have R4 := R3.below b4 R3.lt
  have B4 := ((b1.trans (b2.mono (by omega))).trans (b3.mono (by omega))).trans (b4.mono (by omega))
  have s4 : w3.heap.size < (w3.alloc (.cells #[.int .u8 112, .int .u8 97, .int .u8 100] 5 (3, 4))).heap.size := by simp
  obtain ⟨w4, hw4⟩ : ∃ w4, w4 = w3.alloc (.cells #[.int .u8 112, .int .u8 97, .int .u8 100] 5 (3, 4)) := ⟨_, rfl⟩
  rw [← hw4] at hE X4 T4 R4 B4 s4 ⊢
  clear hw4 hD' hM X3 T3 R3 X2 X1 J1 J2 R1 R2 T2 b1 b2 b3 b4 hJ hR hcv
  with_reducible refine hE.mono ?_
  rintro e w5 ⟨rfl, b5⟩
  have X5 := X4.below b5 (by omega)
  have T5 := T4.below b5 (by omega)
  have R5 := R4.below b5 R4.lt
  have B5 := B4.trans (b5.mono B4.size)
  have z5 := b5.size
  clear X4 T4 R4 B4 b5 hE
  go_wp2_with (first
    | (refine wpl_alloc (by rfl) 29 (by rfl) (keyV 0 0) (keyL 0 0) zeroKey rfl ?_; intro w6 D6 s6 b6)
    | (refine wpl_store (by rfl) 29 _ _ (by rfl) w5.heap.size (by rfl) _ (by rfl) (keyL d1 d2) rfl 29 _ D6 (show (2 : Nat) = 2 from rfl) _ sizeKey (by rfl) (by simp [Value.oneCell']) ?_; intro w7 D7 s7 g7; (have R7 := (R5.below b6 R5.lt).but g7 (by have := R5.lt; omega)))
    | (refine wpl_loadf (by rfl) 22 _ (by rfl) w5.heap.size 0 (by rfl) _ _ D7 _ rfl _ Tryd.underlying22 rfl ?_)
    | (go_at_call 81; ((with_reducible refine (hMn _ R7).mono ?_); rintro e w8 ⟨rfl, b8⟩)))
  have R8 := R7.below b8 R7.lt
  have X8 := ((X5.below b6 (by omega)).but g7 (by omega)).below b8 (by omega)
  have T8 := ((T5.below b6 (by omega)).but g7 (by omega)).below b8 (by omega)
  have B8 := ((B5.trans (b6.mono B5.size)).trans (g7.below (by have := B5.size; omega) B5.size)).trans (b8.mono (by have := B5.size; omega))
  clear X5 T5 R5 B5 b6 g7 b8 D6 D7 R7 hMn
  have hne : w.heap.size ≠ w1.heap.size := by omega
  have hw1 : w.heap.size < w1.heap.size := by omega
  generalize w1.heap.size = bt at T8 hne hw1 ⊢
  clear z5 s4 z3 s2 s1 s6 s7
  go_loopw [22] (fun i wr => ∃ k : Nat, k ≤ 4 ∧ i = .int .i64 k ∧ Blk wr w.heap.size 95 (mskL x0 x1 x2 x3 y0 y1 y2 y3 k) ∧ Blk wr bt 95 (fourL 0 0 0 0) ∧ Rnd wr ∧ Below w.heap.size w wr) (fun i _ => 4 - (intOf i).toNat)
  case atStart => exact ⟨0, by omega, rfl, X8, T8, R8, B8⟩
  case round =>
    obtain ⟨k, hk, rfl, hX, hT, hR, hB⟩ := hrel
    obtain ⟨wo, rfl⟩ : ∃ wo : World, wo = wr := ⟨wr, rfl⟩
    clear X8 T8 R8 B8
    have : k = 0 ∨ k = 1 ∨ k = 2 ∨ k = 3 ∨ k = 4 := by omega
    rcases this with rfl | rfl | rfl | rfl | rfl
    · skip
      have q1 := hX.drew
      have q2 := hR.drew
      have q0 := q1.cell (i := 0) (v := .int .u64 x0) rfl
      have hwk : IntKind.u64.wrap (IntKind.u64.wrap 0 + 1) = 1 := by decide
      go_wp2_with fail
      refine wp_region_heldL (fun y => 0 < y.heap.size) 11 (by kernel_rfl) rfl q2.lt fun hHeld => ?_
      simp only [List.replicate]
      (refine wpH_t 0 _ (by exact gE rfl) (by kernel_rfl) (by intro _ _ _ h; exact h) (Or.inl ⟨by rfl, (by intro _ h; (try dsimp only at h); go_simp; first | done | with_reducible rfl)⟩) (by assumption) ?_; (try simp only [Act.put, zs0, zs1, zs2]))
      (refine wpH_t 1 _ (by exact gE rfl) (by kernel_rfl) (by intro _ _ _ h; exact h) (Or.inl ⟨by rfl, (by intro _ h; (try dsimp only at h); go_simp; first | done | with_reducible rfl)⟩) (by assumption) ?_; (try simp only [Act.put, zs0, zs1, zs2]))
      (refine wpH_t 3 _ (by exact gE rfl) (by kernel_rfl) (by intro _ _ _ h; exact h) (Or.inl ⟨by rfl, (by intro _ h; (try dsimp only at h); go_simp; first | done | with_reducible rfl)⟩) (by assumption) ?_; (try simp only [Act.put, zs0, zs1, zs2]))
      (refine wpH_t 4 _ (by exact gE rfl) (by kernel_rfl) (by intro _ _ _ h; exact h) (Or.inl ⟨by rfl, (by intro _ h; (try dsimp only at h); go_simp; first | done | with_reducible rfl)⟩) (by assumption) ?_; (try simp only [Act.put, zs0, zs1, zs2]))
      (refine wpH_t 5 _ (by exact gE rfl) (by kernel_rfl) (by intro _ _ _ h; exact h) (Or.inl ⟨by rfl, (by intro _ h; (try dsimp only at h); go_simp; first | done | with_reducible rfl)⟩) (by assumption) ?_; (try simp only [Act.put, zs0, zs1, zs2]))
      (refine wpH_t 6 _ (by exact gE rfl) (by kernel_rfl) (by intro _ _ _ h; exact h) (Or.inl ⟨by rfl, (by intro _ h; (try dsimp only at h); go_simp; first | done | with_reducible rfl)⟩) (by assumption) ?_; (try simp only [Act.put, zs0, zs1, zs2]))
      refine wpH_two (i := 2) (j := 7) (by exact gE rfl) (by exact gE rfl) (by kernel_rfl) (by rfl) (by rfl) ?_ ?_
      · refine wp_loadf1 22 _ (by rfl) w.heap.size 0 (by rfl) (.int .u64 x0) q0 _ Tryd.underlying22 rfl ?_
        refine ⟨hHeld, ?_⟩
        (try simp only [Act.put, zs0, zs1, zs2])
        (refine wpH_one (i := 7) (by exact gE rfl) (by kernel_rfl) (by rfl) ?_; (go_simp; (with_reducible refine (hM0 wo.drew q2).mono ?_); rintro e w2 ⟨rfl, b2⟩; refine ⟨(q2.below b2 q2.lt).lt, ?_⟩); (try simp only [Act.put, zs0, zs1, zs2]))
        have J2 := q1.below b2 q1.lt
        have R2 := q2.below b2 q2.lt
        have hH2 := R2.lt
        have T2 := hT.drew.below b2 hT.lt
        have B2 := hB.drew.trans (b2.mono hB.size)
        have z2 : wo.heap.size ≤ w2.heap.size := b2.size
        (refine wpH_t 8 _ (by exact gE rfl) (by kernel_rfl) (by intro _ _ _ h; exact h) (Or.inl ⟨by rfl, (by intro _ h; (try dsimp only at h); go_simp; first | done | with_reducible rfl)⟩) (by assumption) ?_; (try simp only [Act.put, zs0, zs1, zs2]))
        (refine wpH_t 9 _ (by exact gE rfl) (by kernel_rfl) (by intro _ _ _ h; exact h) (Or.inl ⟨by rfl, (by intro _ h; (try dsimp only at h); go_simp; first | done | with_reducible rfl)⟩) (by assumption) ?_; (try simp only [Act.put, zs0, zs1, zs2]))
        obtain ⟨w3, hw3⟩ : ∃ w3, w3 = w2.setCell ⟨w.heap.size, 0, none⟩ (.int .u64 y0) := ⟨_, rfl⟩
        have J3 : Blk w3 w.heap.size 95 (fourL y0 x1 x2 x3) := by rw [hw3]; exact J2.set 0 _
        have G3 : But w.heap.size w2 w3 := by rw [hw3]; exact but_setCell _ _ _ _
        (refine wpH_one (i := 10) (by exact gE rfl) (by kernel_rfl) (by rfl) ?_; (refine wp_storef1 22 (.tmp 34) (.tmp 33) (by rfl) w.heap.size 0 (by rfl) (.int .u64 y0) (by rfl) (by rfl) (by simp [Value.oneCell']) 95 _ J2 (show 0 < 4 by omega) zeroU64'' ?_; rw [← hw3]; refine ⟨by have := J3.lt; omega, ?_⟩); (try simp only [Act.put, zs0, zs1, zs2]))
        refine wpH_done (by kernel_rfl) ?_ _
        have T3 := T2.but G3 (Ne.symm hne)
        have R3 := R2.but G3 (by have := R2.lt; omega)
        have B3 := B2.trans (G3.below B2.size (Nat.le_refl _))
        clear hHeld q0 q1 q2 hX hT hR hB J2 R2 T2 B2 G3 hw3 b2
        go_wp2_with fail
        exact ⟨⟨1, by omega, rfl, J3, T3, R3, B3⟩, by simp [intOf] <;> decide⟩
      · go_simp
        with_reducible refine (hM0 wo.drew q2).mono ?_
        rintro e w2 ⟨rfl, b2⟩
        refine ⟨(q2.below b2 q2.lt).lt, ?_⟩
        (try simp only [Act.put, zs0, zs1, zs2])
        have q3 := (q1.below b2 q1.lt).cell (i := 0) (v := .int .u64 x0) rfl
        (refine wpH_one (i := 2) (by exact gE rfl) (by kernel_rfl) (by rfl) ?_; (refine wp_loadf1 22 _ (by rfl) w.heap.size 0 (by rfl) (.int .u64 x0) q3 _ Tryd.underlying22 rfl ?_; refine ⟨(q2.below b2 q2.lt).lt, ?_⟩); (try simp only [Act.put, zs0, zs1, zs2]))
        have J2 := q1.below b2 q1.lt
        have R2 := q2.below b2 q2.lt
        have hH2 := R2.lt
        have T2 := hT.drew.below b2 hT.lt
        have B2 := hB.drew.trans (b2.mono hB.size)
        have z2 : wo.heap.size ≤ w2.heap.size := b2.size
        (refine wpH_t 8 _ (by exact gE rfl) (by kernel_rfl) (by intro _ _ _ h; exact h) (Or.inl ⟨by rfl, (by intro _ h; (try dsimp only at h); go_simp; first | done | with_reducible rfl)⟩) (by assumption) ?_; (try simp only [Act.put, zs0, zs1, zs2]))
        (refine wpH_t 9 _ (by exact gE rfl) (by kernel_rfl) (by intro _ _ _ h; exact h) (Or.inl ⟨by rfl, (by intro _ h; (try dsimp only at h); go_simp; first | done | with_reducible rfl)⟩) (by assumption) ?_; (try simp only [Act.put, zs0, zs1, zs2]))
        obtain ⟨w3, hw3⟩ : ∃ w3, w3 = w2.setCell ⟨w.heap.size, 0, none⟩ (.int .u64 y0) := ⟨_, rfl⟩
        have J3 : Blk w3 w.heap.size 95 (fourL y0 x1 x2 x3) := by rw [hw3]; exact J2.set 0 _
        have G3 : But w.heap.size w2 w3 := by rw [hw3]; exact but_setCell _ _ _ _
        (refine wpH_one (i := 10) (by exact gE rfl) (by kernel_rfl) (by rfl) ?_; (refine wp_storef1 22 (.tmp 34) (.tmp 33) (by rfl) w.heap.size 0 (by rfl) (.int .u64 y0) (by rfl) (by rfl) (by simp [Value.oneCell']) 95 _ J2 (show 0 < 4 by omega) zeroU64'' ?_; rw [← hw3]; refine ⟨by have := J3.lt; omega, ?_⟩); (try simp only [Act.put, zs0, zs1, zs2]))
        refine wpH_done (by kernel_rfl) ?_ _
        have T3 := T2.but G3 (Ne.symm hne)
        have R3 := R2.but G3 (by have := R2.lt; omega)
        have B3 := B2.trans (G3.below B2.size (Nat.le_refl _))
        clear hHeld q0 q1 q2 hX hT hR hB J2 R2 T2 B2 G3 hw3 b2
        go_wp2_with fail
        exact ⟨⟨1, by omega, rfl, J3, T3, R3, B3⟩, by simp [intOf] <;> decide⟩
    · skip
      have q1 := hX.drew
      have q2 := hR.drew
      have q0 := q1.cell (i := 1) (v := .int .u64 x1) rfl
      have hwk : IntKind.u64.wrap (IntKind.u64.wrap 1 + 1) = 2 := by decide
      go_wp2_with fail
      refine wp_region_heldL (fun y => 0 < y.heap.size) 11 (by kernel_rfl) rfl q2.lt fun hHeld => ?_
      simp only [List.replicate]
      (refine wpH_t 0 _ (by exact gE rfl) (by kernel_rfl) (by intro _ _ _ h; exact h) (Or.inl ⟨by rfl, (by intro _ h; (try dsimp only at h); go_simp; first | done | with_reducible rfl)⟩) (by assumption) ?_; (try simp only [Act.put, zs0, zs1, zs2]))
      (refine wpH_t 1 _ (by exact gE rfl) (by kernel_rfl) (by intro _ _ _ h; exact h) (Or.inl ⟨by rfl, (by intro _ h; (try dsimp only at h); go_simp; first | done | with_reducible rfl)⟩) (by assumption) ?_; (try simp only [Act.put, zs0, zs1, zs2]))
      (refine wpH_t 3 _ (by exact gE rfl) (by kernel_rfl) (by intro _ _ _ h; exact h) (Or.inl ⟨by rfl, (by intro _ h; (try dsimp only at h); go_simp; first | done | with_reducible rfl)⟩) (by assumption) ?_; (try simp only [Act.put, zs0, zs1, zs2]))
      (refine wpH_t 4 _ (by exact gE rfl) (by kernel_rfl) (by intro _ _ _ h; exact h) (Or.inl ⟨by rfl, (by intro _ h; (try dsimp only at h); go_simp; first | done | with_reducible rfl)⟩) (by assumption) ?_; (try simp only [Act.put, zs0, zs1, zs2]))
      (refine wpH_t 5 _ (by exact gE rfl) (by kernel_rfl) (by intro _ _ _ h; exact h) (Or.inl ⟨by rfl, (by intro _ h; (try dsimp only at h); go_simp; first | done | with_reducible rfl)⟩) (by assumption) ?_; (try simp only [Act.put, zs0, zs1, zs2]))
      (refine wpH_t 6 _ (by exact gE rfl) (by kernel_rfl) (by intro _ _ _ h; exact h) (Or.inl ⟨by rfl, (by intro _ h; (try dsimp only at h); go_simp; first | done | with_reducible rfl)⟩) (by assumption) ?_; (try simp only [Act.put, zs0, zs1, zs2]))
      refine wpH_two (i := 2) (j := 7) (by exact gE rfl) (by exact gE rfl) (by kernel_rfl) (by rfl) (by rfl) ?_ ?_
      · refine wp_loadf1 22 _ (by rfl) w.heap.size 1 (by rfl) (.int .u64 x1) q0 _ Tryd.underlying22 rfl ?_
        refine ⟨hHeld, ?_⟩
        (try simp only [Act.put, zs0, zs1, zs2])
        (refine wpH_one (i := 7) (by exact gE rfl) (by kernel_rfl) (by rfl) ?_; (go_simp; (with_reducible refine (hM1 wo.drew q2).mono ?_); rintro e w2 ⟨rfl, b2⟩; refine ⟨(q2.below b2 q2.lt).lt, ?_⟩); (try simp only [Act.put, zs0, zs1, zs2]))
        have J2 := q1.below b2 q1.lt
        have R2 := q2.below b2 q2.lt
        have hH2 := R2.lt
        have T2 := hT.drew.below b2 hT.lt
        have B2 := hB.drew.trans (b2.mono hB.size)
        have z2 : wo.heap.size ≤ w2.heap.size := b2.size
        (refine wpH_t 8 _ (by exact gE rfl) (by kernel_rfl) (by intro _ _ _ h; exact h) (Or.inl ⟨by rfl, (by intro _ h; (try dsimp only at h); go_simp; first | done | with_reducible rfl)⟩) (by assumption) ?_; (try simp only [Act.put, zs0, zs1, zs2]))
        (refine wpH_t 9 _ (by exact gE rfl) (by kernel_rfl) (by intro _ _ _ h; exact h) (Or.inl ⟨by rfl, (by intro _ h; (try dsimp only at h); go_simp; first | done | with_reducible rfl)⟩) (by assumption) ?_; (try simp only [Act.put, zs0, zs1, zs2]))
        obtain ⟨w3, hw3⟩ : ∃ w3, w3 = w2.setCell ⟨w.heap.size, 1, none⟩ (.int .u64 y1) := ⟨_, rfl⟩
        have J3 : Blk w3 w.heap.size 95 (fourL y0 y1 x2 x3) := by rw [hw3]; exact J2.set 1 _
        have G3 : But w.heap.size w2 w3 := by rw [hw3]; exact but_setCell _ _ _ _
        (refine wpH_one (i := 10) (by exact gE rfl) (by kernel_rfl) (by rfl) ?_; (refine wp_storef1 22 (.tmp 34) (.tmp 33) (by rfl) w.heap.size 1 (by rfl) (.int .u64 y1) (by rfl) (by rfl) (by simp [Value.oneCell']) 95 _ J2 (show 1 < 4 by omega) zeroU64'' ?_; rw [← hw3]; refine ⟨by have := J3.lt; omega, ?_⟩); (try simp only [Act.put, zs0, zs1, zs2]))
        refine wpH_done (by kernel_rfl) ?_ _
        have T3 := T2.but G3 (Ne.symm hne)
        have R3 := R2.but G3 (by have := R2.lt; omega)
        have B3 := B2.trans (G3.below B2.size (Nat.le_refl _))
        clear hHeld q0 q1 q2 hX hT hR hB J2 R2 T2 B2 G3 hw3 b2
        go_wp2_with fail
        exact ⟨⟨2, by omega, rfl, J3, T3, R3, B3⟩, by simp [intOf] <;> decide⟩
      · go_simp
        with_reducible refine (hM1 wo.drew q2).mono ?_
        rintro e w2 ⟨rfl, b2⟩
        refine ⟨(q2.below b2 q2.lt).lt, ?_⟩
        (try simp only [Act.put, zs0, zs1, zs2])
        have q3 := (q1.below b2 q1.lt).cell (i := 1) (v := .int .u64 x1) rfl
        (refine wpH_one (i := 2) (by exact gE rfl) (by kernel_rfl) (by rfl) ?_; (refine wp_loadf1 22 _ (by rfl) w.heap.size 1 (by rfl) (.int .u64 x1) q3 _ Tryd.underlying22 rfl ?_; refine ⟨(q2.below b2 q2.lt).lt, ?_⟩); (try simp only [Act.put, zs0, zs1, zs2]))
        have J2 := q1.below b2 q1.lt
        have R2 := q2.below b2 q2.lt
        have hH2 := R2.lt
        have T2 := hT.drew.below b2 hT.lt
        have B2 := hB.drew.trans (b2.mono hB.size)
        have z2 : wo.heap.size ≤ w2.heap.size := b2.size
        (refine wpH_t 8 _ (by exact gE rfl) (by kernel_rfl) (by intro _ _ _ h; exact h) (Or.inl ⟨by rfl, (by intro _ h; (try dsimp only at h); go_simp; first | done | with_reducible rfl)⟩) (by assumption) ?_; (try simp only [Act.put, zs0, zs1, zs2]))
        (refine wpH_t 9 _ (by exact gE rfl) (by kernel_rfl) (by intro _ _ _ h; exact h) (Or.inl ⟨by rfl, (by intro _ h; (try dsimp only at h); go_simp; first | done | with_reducible rfl)⟩) (by assumption) ?_; (try simp only [Act.put, zs0, zs1, zs2]))
        obtain ⟨w3, hw3⟩ : ∃ w3, w3 = w2.setCell ⟨w.heap.size, 1, none⟩ (.int .u64 y1) := ⟨_, rfl⟩
        have J3 : Blk w3 w.heap.size 95 (fourL y0 y1 x2 x3) := by rw [hw3]; exact J2.set 1 _
        have G3 : But w.heap.size w2 w3 := by rw [hw3]; exact but_setCell _ _ _ _
        (refine wpH_one (i := 10) (by exact gE rfl) (by kernel_rfl) (by rfl) ?_; (refine wp_storef1 22 (.tmp 34) (.tmp 33) (by rfl) w.heap.size 1 (by rfl) (.int .u64 y1) (by rfl) (by rfl) (by simp [Value.oneCell']) 95 _ J2 (show 1 < 4 by omega) zeroU64'' ?_; rw [← hw3]; refine ⟨by have := J3.lt; omega, ?_⟩); (try simp only [Act.put, zs0, zs1, zs2]))
        refine wpH_done (by kernel_rfl) ?_ _
        have T3 := T2.but G3 (Ne.symm hne)
        have R3 := R2.but G3 (by have := R2.lt; omega)
        have B3 := B2.trans (G3.below B2.size (Nat.le_refl _))
        clear hHeld q0 q1 q2 hX hT hR hB J2 R2 T2 B2 G3 hw3 b2
        go_wp2_with fail
        exact ⟨⟨2, by omega, rfl, J3, T3, R3, B3⟩, by simp [intOf] <;> decide⟩
    · skip
      have q1 := hX.drew
      have q2 := hR.drew
      have q0 := q1.cell (i := 2) (v := .int .u64 x2) rfl
      have hwk : IntKind.u64.wrap (IntKind.u64.wrap 2 + 1) = 3 := by decide
      go_wp2_with fail
      refine wp_region_heldL (fun y => 0 < y.heap.size) 11 (by kernel_rfl) rfl q2.lt fun hHeld => ?_
      simp only [List.replicate]
      (refine wpH_t 0 _ (by exact gE rfl) (by kernel_rfl) (by intro _ _ _ h; exact h) (Or.inl ⟨by rfl, (by intro _ h; (try dsimp only at h); go_simp; first | done | with_reducible rfl)⟩) (by assumption) ?_; (try simp only [Act.put, zs0, zs1, zs2]))
      (refine wpH_t 1 _ (by exact gE rfl) (by kernel_rfl) (by intro _ _ _ h; exact h) (Or.inl ⟨by rfl, (by intro _ h; (try dsimp only at h); go_simp; first | done | with_reducible rfl)⟩) (by assumption) ?_; (try simp only [Act.put, zs0, zs1, zs2]))
      (refine wpH_t 3 _ (by exact gE rfl) (by kernel_rfl) (by intro _ _ _ h; exact h) (Or.inl ⟨by rfl, (by intro _ h; (try dsimp only at h); go_simp; first | done | with_reducible rfl)⟩) (by assumption) ?_; (try simp only [Act.put, zs0, zs1, zs2]))
      (refine wpH_t 4 _ (by exact gE rfl) (by kernel_rfl) (by intro _ _ _ h; exact h) (Or.inl ⟨by rfl, (by intro _ h; (try dsimp only at h); go_simp; first | done | with_reducible rfl)⟩) (by assumption) ?_; (try simp only [Act.put, zs0, zs1, zs2]))
      (refine wpH_t 5 _ (by exact gE rfl) (by kernel_rfl) (by intro _ _ _ h; exact h) (Or.inl ⟨by rfl, (by intro _ h; (try dsimp only at h); go_simp; first | done | with_reducible rfl)⟩) (by assumption) ?_; (try simp only [Act.put, zs0, zs1, zs2]))
      (refine wpH_t 6 _ (by exact gE rfl) (by kernel_rfl) (by intro _ _ _ h; exact h) (Or.inl ⟨by rfl, (by intro _ h; (try dsimp only at h); go_simp; first | done | with_reducible rfl)⟩) (by assumption) ?_; (try simp only [Act.put, zs0, zs1, zs2]))
      refine wpH_two (i := 2) (j := 7) (by exact gE rfl) (by exact gE rfl) (by kernel_rfl) (by rfl) (by rfl) ?_ ?_
      · refine wp_loadf1 22 _ (by rfl) w.heap.size 2 (by rfl) (.int .u64 x2) q0 _ Tryd.underlying22 rfl ?_
        refine ⟨hHeld, ?_⟩
        (try simp only [Act.put, zs0, zs1, zs2])
        (refine wpH_one (i := 7) (by exact gE rfl) (by kernel_rfl) (by rfl) ?_; (go_simp; (with_reducible refine (hM2 wo.drew q2).mono ?_); rintro e w2 ⟨rfl, b2⟩; refine ⟨(q2.below b2 q2.lt).lt, ?_⟩); (try simp only [Act.put, zs0, zs1, zs2]))
        have J2 := q1.below b2 q1.lt
        have R2 := q2.below b2 q2.lt
        have hH2 := R2.lt
        have T2 := hT.drew.below b2 hT.lt
        have B2 := hB.drew.trans (b2.mono hB.size)
        have z2 : wo.heap.size ≤ w2.heap.size := b2.size
        (refine wpH_t 8 _ (by exact gE rfl) (by kernel_rfl) (by intro _ _ _ h; exact h) (Or.inl ⟨by rfl, (by intro _ h; (try dsimp only at h); go_simp; first | done | with_reducible rfl)⟩) (by assumption) ?_; (try simp only [Act.put, zs0, zs1, zs2]))
        (refine wpH_t 9 _ (by exact gE rfl) (by kernel_rfl) (by intro _ _ _ h; exact h) (Or.inl ⟨by rfl, (by intro _ h; (try dsimp only at h); go_simp; first | done | with_reducible rfl)⟩) (by assumption) ?_; (try simp only [Act.put, zs0, zs1, zs2]))
        obtain ⟨w3, hw3⟩ : ∃ w3, w3 = w2.setCell ⟨w.heap.size, 2, none⟩ (.int .u64 y2) := ⟨_, rfl⟩
        have J3 : Blk w3 w.heap.size 95 (fourL y0 y1 y2 x3) := by rw [hw3]; exact J2.set 2 _
        have G3 : But w.heap.size w2 w3 := by rw [hw3]; exact but_setCell _ _ _ _
        (refine wpH_one (i := 10) (by exact gE rfl) (by kernel_rfl) (by rfl) ?_; (refine wp_storef1 22 (.tmp 34) (.tmp 33) (by rfl) w.heap.size 2 (by rfl) (.int .u64 y2) (by rfl) (by rfl) (by simp [Value.oneCell']) 95 _ J2 (show 2 < 4 by omega) zeroU64'' ?_; rw [← hw3]; refine ⟨by have := J3.lt; omega, ?_⟩); (try simp only [Act.put, zs0, zs1, zs2]))
        refine wpH_done (by kernel_rfl) ?_ _
        have T3 := T2.but G3 (Ne.symm hne)
        have R3 := R2.but G3 (by have := R2.lt; omega)
        have B3 := B2.trans (G3.below B2.size (Nat.le_refl _))
        clear hHeld q0 q1 q2 hX hT hR hB J2 R2 T2 B2 G3 hw3 b2
        go_wp2_with fail
        exact ⟨⟨3, by omega, rfl, J3, T3, R3, B3⟩, by simp [intOf] <;> decide⟩
      · go_simp
        with_reducible refine (hM2 wo.drew q2).mono ?_
        rintro e w2 ⟨rfl, b2⟩
        refine ⟨(q2.below b2 q2.lt).lt, ?_⟩
        (try simp only [Act.put, zs0, zs1, zs2])
        have q3 := (q1.below b2 q1.lt).cell (i := 2) (v := .int .u64 x2) rfl
        (refine wpH_one (i := 2) (by exact gE rfl) (by kernel_rfl) (by rfl) ?_; (refine wp_loadf1 22 _ (by rfl) w.heap.size 2 (by rfl) (.int .u64 x2) q3 _ Tryd.underlying22 rfl ?_; refine ⟨(q2.below b2 q2.lt).lt, ?_⟩); (try simp only [Act.put, zs0, zs1, zs2]))
        have J2 := q1.below b2 q1.lt
        have R2 := q2.below b2 q2.lt
        have hH2 := R2.lt
        have T2 := hT.drew.below b2 hT.lt
        have B2 := hB.drew.trans (b2.mono hB.size)
        have z2 : wo.heap.size ≤ w2.heap.size := b2.size
        (refine wpH_t 8 _ (by exact gE rfl) (by kernel_rfl) (by intro _ _ _ h; exact h) (Or.inl ⟨by rfl, (by intro _ h; (try dsimp only at h); go_simp; first | done | with_reducible rfl)⟩) (by assumption) ?_; (try simp only [Act.put, zs0, zs1, zs2]))
        (refine wpH_t 9 _ (by exact gE rfl) (by kernel_rfl) (by intro _ _ _ h; exact h) (Or.inl ⟨by rfl, (by intro _ h; (try dsimp only at h); go_simp; first | done | with_reducible rfl)⟩) (by assumption) ?_; (try simp only [Act.put, zs0, zs1, zs2]))
        obtain ⟨w3, hw3⟩ : ∃ w3, w3 = w2.setCell ⟨w.heap.size, 2, none⟩ (.int .u64 y2) := ⟨_, rfl⟩
        have J3 : Blk w3 w.heap.size 95 (fourL y0 y1 y2 x3) := by rw [hw3]; exact J2.set 2 _
        have G3 : But w.heap.size w2 w3 := by rw [hw3]; exact but_setCell _ _ _ _
        (refine wpH_one (i := 10) (by exact gE rfl) (by kernel_rfl) (by rfl) ?_; (refine wp_storef1 22 (.tmp 34) (.tmp 33) (by rfl) w.heap.size 2 (by rfl) (.int .u64 y2) (by rfl) (by rfl) (by simp [Value.oneCell']) 95 _ J2 (show 2 < 4 by omega) zeroU64'' ?_; rw [← hw3]; refine ⟨by have := J3.lt; omega, ?_⟩); (try simp only [Act.put, zs0, zs1, zs2]))
        refine wpH_done (by kernel_rfl) ?_ _
        have T3 := T2.but G3 (Ne.symm hne)
        have R3 := R2.but G3 (by have := R2.lt; omega)
        have B3 := B2.trans (G3.below B2.size (Nat.le_refl _))
        clear hHeld q0 q1 q2 hX hT hR hB J2 R2 T2 B2 G3 hw3 b2
        go_wp2_with fail
        exact ⟨⟨3, by omega, rfl, J3, T3, R3, B3⟩, by simp [intOf] <;> decide⟩
    · skip
      have q1 := hX.drew
      have q2 := hR.drew
      have q0 := q1.cell (i := 3) (v := .int .u64 x3) rfl
      have hwk : IntKind.u64.wrap (IntKind.u64.wrap 3 + 1) = 4 := by decide
      go_wp2_with fail
      refine wp_region_heldL (fun y => 0 < y.heap.size) 11 (by kernel_rfl) rfl q2.lt fun hHeld => ?_
      simp only [List.replicate]
      (refine wpH_t 0 _ (by exact gE rfl) (by kernel_rfl) (by intro _ _ _ h; exact h) (Or.inl ⟨by rfl, (by intro _ h; (try dsimp only at h); go_simp; first | done | with_reducible rfl)⟩) (by assumption) ?_; (try simp only [Act.put, zs0, zs1, zs2]))
      (refine wpH_t 1 _ (by exact gE rfl) (by kernel_rfl) (by intro _ _ _ h; exact h) (Or.inl ⟨by rfl, (by intro _ h; (try dsimp only at h); go_simp; first | done | with_reducible rfl)⟩) (by assumption) ?_; (try simp only [Act.put, zs0, zs1, zs2]))
      (refine wpH_t 3 _ (by exact gE rfl) (by kernel_rfl) (by intro _ _ _ h; exact h) (Or.inl ⟨by rfl, (by intro _ h; (try dsimp only at h); go_simp; first | done | with_reducible rfl)⟩) (by assumption) ?_; (try simp only [Act.put, zs0, zs1, zs2]))
      (refine wpH_t 4 _ (by exact gE rfl) (by kernel_rfl) (by intro _ _ _ h; exact h) (Or.inl ⟨by rfl, (by intro _ h; (try dsimp only at h); go_simp; first | done | with_reducible rfl)⟩) (by assumption) ?_; (try simp only [Act.put, zs0, zs1, zs2]))
      (refine wpH_t 5 _ (by exact gE rfl) (by kernel_rfl) (by intro _ _ _ h; exact h) (Or.inl ⟨by rfl, (by intro _ h; (try dsimp only at h); go_simp; first | done | with_reducible rfl)⟩) (by assumption) ?_; (try simp only [Act.put, zs0, zs1, zs2]))
      (refine wpH_t 6 _ (by exact gE rfl) (by kernel_rfl) (by intro _ _ _ h; exact h) (Or.inl ⟨by rfl, (by intro _ h; (try dsimp only at h); go_simp; first | done | with_reducible rfl)⟩) (by assumption) ?_; (try simp only [Act.put, zs0, zs1, zs2]))
      refine wpH_two (i := 2) (j := 7) (by exact gE rfl) (by exact gE rfl) (by kernel_rfl) (by rfl) (by rfl) ?_ ?_
      · refine wp_loadf1 22 _ (by rfl) w.heap.size 3 (by rfl) (.int .u64 x3) q0 _ Tryd.underlying22 rfl ?_
        refine ⟨hHeld, ?_⟩
        (try simp only [Act.put, zs0, zs1, zs2])
        (refine wpH_one (i := 7) (by exact gE rfl) (by kernel_rfl) (by rfl) ?_; (go_simp; (with_reducible refine (hM3 wo.drew q2).mono ?_); rintro e w2 ⟨rfl, b2⟩; refine ⟨(q2.below b2 q2.lt).lt, ?_⟩); (try simp only [Act.put, zs0, zs1, zs2]))
        have J2 := q1.below b2 q1.lt
        have R2 := q2.below b2 q2.lt
        have hH2 := R2.lt
        have T2 := hT.drew.below b2 hT.lt
        have B2 := hB.drew.trans (b2.mono hB.size)
        have z2 : wo.heap.size ≤ w2.heap.size := b2.size
        (refine wpH_t 8 _ (by exact gE rfl) (by kernel_rfl) (by intro _ _ _ h; exact h) (Or.inl ⟨by rfl, (by intro _ h; (try dsimp only at h); go_simp; first | done | with_reducible rfl)⟩) (by assumption) ?_; (try simp only [Act.put, zs0, zs1, zs2]))
        (refine wpH_t 9 _ (by exact gE rfl) (by kernel_rfl) (by intro _ _ _ h; exact h) (Or.inl ⟨by rfl, (by intro _ h; (try dsimp only at h); go_simp; first | done | with_reducible rfl)⟩) (by assumption) ?_; (try simp only [Act.put, zs0, zs1, zs2]))
        obtain ⟨w3, hw3⟩ : ∃ w3, w3 = w2.setCell ⟨w.heap.size, 3, none⟩ (.int .u64 y3) := ⟨_, rfl⟩
        have J3 : Blk w3 w.heap.size 95 (fourL y0 y1 y2 y3) := by rw [hw3]; exact J2.set 3 _
        have G3 : But w.heap.size w2 w3 := by rw [hw3]; exact but_setCell _ _ _ _
        (refine wpH_one (i := 10) (by exact gE rfl) (by kernel_rfl) (by rfl) ?_; (refine wp_storef1 22 (.tmp 34) (.tmp 33) (by rfl) w.heap.size 3 (by rfl) (.int .u64 y3) (by rfl) (by rfl) (by simp [Value.oneCell']) 95 _ J2 (show 3 < 4 by omega) zeroU64'' ?_; rw [← hw3]; refine ⟨by have := J3.lt; omega, ?_⟩); (try simp only [Act.put, zs0, zs1, zs2]))
        refine wpH_done (by kernel_rfl) ?_ _
        have T3 := T2.but G3 (Ne.symm hne)
        have R3 := R2.but G3 (by have := R2.lt; omega)
        have B3 := B2.trans (G3.below B2.size (Nat.le_refl _))
        clear hHeld q0 q1 q2 hX hT hR hB J2 R2 T2 B2 G3 hw3 b2
        go_wp2_with fail
        exact ⟨⟨4, by omega, rfl, J3, T3, R3, B3⟩, by simp [intOf] <;> decide⟩
      · go_simp
        with_reducible refine (hM3 wo.drew q2).mono ?_
        rintro e w2 ⟨rfl, b2⟩
        refine ⟨(q2.below b2 q2.lt).lt, ?_⟩
        (try simp only [Act.put, zs0, zs1, zs2])
        have q3 := (q1.below b2 q1.lt).cell (i := 3) (v := .int .u64 x3) rfl
        (refine wpH_one (i := 2) (by exact gE rfl) (by kernel_rfl) (by rfl) ?_; (refine wp_loadf1 22 _ (by rfl) w.heap.size 3 (by rfl) (.int .u64 x3) q3 _ Tryd.underlying22 rfl ?_; refine ⟨(q2.below b2 q2.lt).lt, ?_⟩); (try simp only [Act.put, zs0, zs1, zs2]))
        have J2 := q1.below b2 q1.lt
        have R2 := q2.below b2 q2.lt
        have hH2 := R2.lt
        have T2 := hT.drew.below b2 hT.lt
        have B2 := hB.drew.trans (b2.mono hB.size)
        have z2 : wo.heap.size ≤ w2.heap.size := b2.size
        (refine wpH_t 8 _ (by exact gE rfl) (by kernel_rfl) (by intro _ _ _ h; exact h) (Or.inl ⟨by rfl, (by intro _ h; (try dsimp only at h); go_simp; first | done | with_reducible rfl)⟩) (by assumption) ?_; (try simp only [Act.put, zs0, zs1, zs2]))
        (refine wpH_t 9 _ (by exact gE rfl) (by kernel_rfl) (by intro _ _ _ h; exact h) (Or.inl ⟨by rfl, (by intro _ h; (try dsimp only at h); go_simp; first | done | with_reducible rfl)⟩) (by assumption) ?_; (try simp only [Act.put, zs0, zs1, zs2]))
        obtain ⟨w3, hw3⟩ : ∃ w3, w3 = w2.setCell ⟨w.heap.size, 3, none⟩ (.int .u64 y3) := ⟨_, rfl⟩
        have J3 : Blk w3 w.heap.size 95 (fourL y0 y1 y2 y3) := by rw [hw3]; exact J2.set 3 _
        have G3 : But w.heap.size w2 w3 := by rw [hw3]; exact but_setCell _ _ _ _
        (refine wpH_one (i := 10) (by exact gE rfl) (by kernel_rfl) (by rfl) ?_; (refine wp_storef1 22 (.tmp 34) (.tmp 33) (by rfl) w.heap.size 3 (by rfl) (.int .u64 y3) (by rfl) (by rfl) (by simp [Value.oneCell']) 95 _ J2 (show 3 < 4 by omega) zeroU64'' ?_; rw [← hw3]; refine ⟨by have := J3.lt; omega, ?_⟩); (try simp only [Act.put, zs0, zs1, zs2]))
        refine wpH_done (by kernel_rfl) ?_ _
        have T3 := T2.but G3 (Ne.symm hne)
        have R3 := R2.but G3 (by have := R2.lt; omega)
        have B3 := B2.trans (G3.below B2.size (Nat.le_refl _))
        clear hHeld q0 q1 q2 hX hT hR hB J2 R2 T2 B2 G3 hw3 b2
        go_wp2_with fail
        exact ⟨⟨4, by omega, rfl, J3, T3, R3, B3⟩, by simp [intOf] <;> decide⟩
    · go_wp2_with (first
        | (refine wpl_load (by rfl) 95 _ (by rfl) w.heap.size (by rfl) 95 (fourL y0 y1 y2 y3) hX _ Tryd.underlying95 rfl _ size4 (by rfl) ?_)
        | (refine wpl_store (by rfl) 95 _ _ (by rfl) bt (by rfl) _ (by rfl) (fourL y0 y1 y2 y3) rfl 95 _ hT (show (4 : Nat) = 4 from rfl) _ size4 (by rfl) (by simp [Value.oneCell']) ?_; intro w9 T9 s9 g9))
      refine bodyPost_ret (res_c Tryd.results46 (by rfl) T9 Tryd.underlying95 rfl size4 (show (4 : Nat) = 4 from rfl)) rfl ?_
      exact ⟨rfl, hB.trans (g9.below hB.size (by omega))⟩
end Go.Proofs.YtachhbbofemfdaaDoor
namespace Go.Proofs.YtachhbbofemfdaaDoor
open Go.RowKit
set_option linter.unusedSimpArgs false
set_option linter.unusedVariables false
set_option maxRecDepth 100000
set_option maxHeartbeats 1000000 in
theorem new_some (s k : Int) (w : World) (h1 : 1 ≤ k) (h8 : k ≤ 8) :
    Calls Tryd.prog 12 #[.int .u64 s, .int .i64 k] w fun e w' => e = .returned (.pointer (some ⟨w.heap.size, 0, none⟩)) ∧ Blk w' w.heap.size 84 (jarL s k 1) ∧ Below w.heap.size w w' := by
  have d1 : decide (k < 1) = false := decide_eq_false (by omega)
  have d2 : decide (8 < k) = false := decide_eq_false (by omega)
  clear h1 h8
  go_enter Tryd.func12, Tryd.ntmps12
  go_wp2_with (first | (refine wpl_box (by rfl) 84 _ (by rfl) _ (jarL s k 1) (by rfl) rfl ?_; intro w1 J1 s1 b1))
  go_ret
  exact ⟨rfl, J1, b1⟩
set_option maxHeartbeats 1000000 in
theorem rot_ok (bj : Nat) (s k g : Int) (w : World) (hJ : Blk w bj 84 (jarL s k g)) (h0 : 0 ≤ g) (h1 : g < 2147483647) :
    Calls Tryd.prog 56 #[.pointer (some ⟨bj, 0, none⟩)] w fun e w' => e = .returned (.int .i64 0) ∧ Blk w' bj 84 (jarL s k (g + 1)) ∧ But bj w w' := by
  have d : decide (2147483647 ≤ g) = false := decide_eq_false (by omega)
  have e1 : IntKind.i64.wrap (g + 1) = g + 1 := by rw [IntKind.wrap_i64]; omega
  clear h0 h1
  go_enter Tryd.func56, Tryd.ntmps56
  go_wp2_with (first
    | (refine wpl_loadf (by rfl) 3 _ (by rfl) bj 2 (by rfl) _ _ hJ _ rfl _ Tryd.underlying3 rfl ?_)
    | (refine wpl_storeg (by rfl) 3 _ _ (by rfl) bj 2 (by rfl) (.int .i64 (g + 1)) (by rfl) (by rfl) (by simp [Value.oneCell']) _ _ (jarL s k (g + 1)) hJ (by simp) sizeI64' (by rfl) ?_; intro w1 J1 s1 g1))
  go_ret
  exact ⟨rfl, J1, g1⟩
set_option maxHeartbeats 1000000 in
theorem rnew_some (s k : Int) (w : World) (h1 : 1 ≤ k) (h8 : k ≤ 8) :
    Calls Tryd.prog 14 #[.int .u64 s, .int .i64 k] w fun e w' => e = .returned (.pointer (some ⟨w.heap.size, 0, none⟩)) ∧ Blk w' w.heap.size 89 (jarL s k 1) ∧ Below w.heap.size w w' := by
  have d1 : decide (k < 1) = false := decide_eq_false (by omega)
  have d2 : decide (8 < k) = false := decide_eq_false (by omega)
  clear h1 h8
  go_enter Tryd.func14, Tryd.ntmps14
  go_wp2_with (first | (refine wpl_box (by rfl) 89 _ (by rfl) _ (jarL s k 1) (by rfl) rfl ?_; intro w1 J1 s1 b1))
  go_ret
  exact ⟨rfl, J1, b1⟩
set_option maxHeartbeats 1000000 in
theorem rrot_ok (bj : Nat) (s k g : Int) (w : World) (hJ : Blk w bj 89 (jarL s k g)) (h0 : 0 ≤ g) (h1 : g < 2147483647) :
    Calls Tryd.prog 57 #[.pointer (some ⟨bj, 0, none⟩)] w fun e w' => e = .returned (.int .i64 0) ∧ Blk w' bj 89 (jarL s k (g + 1)) ∧ But bj w w' := by
  have d : (g == 2147483647) = false := by simp; omega
  have e1 : IntKind.i64.wrap (g + 1) = g + 1 := by rw [IntKind.wrap_i64]; omega
  clear h0 h1
  go_enter Tryd.func57, Tryd.ntmps57
  go_wp2_with (first
    | (refine wpl_loadf (by rfl) 3 _ (by rfl) bj 2 (by rfl) _ _ hJ _ rfl _ Tryd.underlying3 rfl ?_)
    | (refine wpl_storeg (by rfl) 3 _ _ (by rfl) bj 2 (by rfl) (.int .i64 (g + 1)) (by rfl) (by rfl) (by simp [Value.oneCell']) _ _ (jarL s k (g + 1)) hJ (by simp) sizeI64' (by rfl) ?_; intro w1 J1 s1 g1))
  go_ret
  exact ⟨rfl, J1, g1⟩
end Go.Proofs.YtachhbbofemfdaaDoor
