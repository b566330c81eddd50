/- The jar of cookies: the keys of a generation, the pads and the tag, of the program and of the reference. -/
import Derived.Test.YtkgpeddncpdjjaaDoorCkD
import Derived.Lib.SlBytesConst
namespace Go.Proofs.YtkgpeddncpdjjaaDoor
open Go.RowKit
set_option linter.unusedSimpArgs false
set_option linter.unusedVariables false
set_option maxRecDepth 100000
theorem Rnd.drew {w : World} (h : Rnd w) : Rnd w.drew := h
theorem Rnd.alloc {w : World} (h : Rnd w) (o : Obj) : Rnd (w.alloc o) := by obtain ⟨t, h⟩ := h; exact ⟨t, Blk.old h⟩
theorem sizeJar : (Tryd.prog.info? 50).map (·.size) = some 3 := by kernel_rfl
set_option maxHeartbeats 4000000 in
theorem master_any (bj : Nat) (s k g gg : Int) (w : World) (hs : U64 s) (hg : Gn g) (hJ : Blk w bj 50 (jarL s k gg)) (hR : Rnd w) :
    Calls Tryd.prog 34 #[.pointer (some ⟨bj, 0, none⟩), .int .i64 g] w fun e w' => e = .returned (keyV (mkA s g) (mkB s g)) ∧ Below w.heap.size w w' := by
  have hlt := hJ.lt
  have hw0 := hR.lt
  obtain ⟨e1, e2, e3, e4, e5⟩ := two_u64 hg
  have hM1 := fun W hr => mix_any s (2 * g) W hs (by obtain ⟨h0, h1⟩ := hg; exact ⟨by omega, by omega⟩) hr
  have hM2 := fun W hr => mix_any s (2 * g + 1) W hs (by obtain ⟨h0, h1⟩ := hg; exact ⟨by omega, by omega⟩) hr
  clear hs hg
  have hA : mixF s (2 * g) = mkA s g := rfl
  have hB : mixF s (2 * g + 1) = mkB s g := rfl
  rw [hA] at hM1
  rw [hB] at hM2
  generalize mkA s g = m1 at hM1 ⊢
  generalize mkB s g = m2 at hM2 ⊢
  clear hA hB
  go_enter Tryd.func34, Tryd.ntmps34
  go_wp2_with (first
    | (refine wpl_alloc (by rfl) 24 (by rfl) (keyV 0 0) (keyL 0 0) zeroKey rfl ?_; intro w1 X1 s1 b1; (have J1 := hJ.below b1 hlt)))
  have R1 := hR.below b1 hw0
  have hz1 : 0 < w1.heap.size := by omega
  have hb1 : bj < w1.heap.size := by omega
  have q0 := J1.drew.cell (i := 0) rfl
  refine wp_region_heldL (fun w' => w'.cell? ⟨bj, 0, none⟩ = some (.int .u64 s)) 17 (by kernel_rfl) rfl q0 fun hHeld => ?_
  simp only [List.replicate]
  (refine wpH_take (i := 0) (v := _) (by simp only [List.getElem?_toArray, List.getElem?_cons_succ, List.getElem?_cons_zero]; rfl) (by kernel_rfl) (by kernel_rfl) (by kernel_rfl) (by intro _ _ _ h; exact h) (Or.inl ⟨by rfl, (by intro w' hSw; (try dsimp only at hSw); go_simp; first | done | with_reducible rfl)⟩) (by assumption) ?_; (try simp only [Act.put, List.setIfInBounds_toArray, List.set_cons_zero, List.set_cons_succ]))
  (refine wpH_take (i := 1) (v := _) (by simp only [List.getElem?_toArray, List.getElem?_cons_succ, List.getElem?_cons_zero]; rfl) (by kernel_rfl) (by kernel_rfl) (by kernel_rfl) (by intro _ _ _ h; exact h) (Or.inl ⟨by rfl, (by intro w' hSw; (try dsimp only at hSw); go_simp; first | done | with_reducible rfl)⟩) (by assumption) ?_; (try simp only [Act.put, List.setIfInBounds_toArray, List.set_cons_zero, List.set_cons_succ]))
  (refine wpH_take (i := 2) (v := _) (by simp only [List.getElem?_toArray, List.getElem?_cons_succ, List.getElem?_cons_zero]; rfl) (by kernel_rfl) (by kernel_rfl) (by kernel_rfl) (by intro _ _ _ h; exact h) (Or.inl ⟨by rfl, (by intro w' hSw; (try dsimp only at hSw); go_simp; first | done | with_reducible rfl)⟩) (by assumption) ?_; (try simp only [Act.put, List.setIfInBounds_toArray, List.set_cons_zero, List.set_cons_succ]))
  (refine wpH_take (i := 3) (v := _) (by simp only [List.getElem?_toArray, List.getElem?_cons_succ, List.getElem?_cons_zero]; rfl) (by kernel_rfl) (by kernel_rfl) (by kernel_rfl) (by intro _ _ _ h; exact h) (Or.inl ⟨by rfl, (by intro w' hSw; (try dsimp only at hSw); go_simp; first | done | with_reducible rfl)⟩) (by assumption) ?_; (try simp only [Act.put, List.setIfInBounds_toArray, List.set_cons_zero, List.set_cons_succ]))
  (refine wpH_take (i := 4) (v := _) (by simp only [List.getElem?_toArray, List.getElem?_cons_succ, List.getElem?_cons_zero]; rfl) (by kernel_rfl) (by kernel_rfl) (by kernel_rfl) (by intro _ _ _ h; exact h) (Or.inl ⟨by rfl, (by intro w' hSw; (try dsimp only at hSw); go_simp; first | done | with_reducible rfl)⟩) (by assumption) ?_; (try simp only [Act.put, List.setIfInBounds_toArray, List.set_cons_zero, List.set_cons_succ]))
  (refine wpH_take (i := 5) (v := _) (by simp only [List.getElem?_toArray, List.getElem?_cons_succ, List.getElem?_cons_zero]; rfl) (by kernel_rfl) (by kernel_rfl) (by kernel_rfl) (by intro _ _ _ h; exact h) (Or.inl ⟨by rfl, (by intro w' hSw; (try dsimp only at hSw); go_simp; first | done | with_reducible rfl)⟩) (by assumption) ?_; (try simp only [Act.put, List.setIfInBounds_toArray, List.set_cons_zero, List.set_cons_succ]))
  (refine wpH_take (i := 7) (v := _) (by simp only [List.getElem?_toArray, List.getElem?_cons_succ, List.getElem?_cons_zero]; rfl) (by kernel_rfl) (by kernel_rfl) (by kernel_rfl) (by intro _ _ _ h; exact h) (Or.inl ⟨by rfl, (by intro w' hSw; (try dsimp only at hSw); go_simp; first | done | with_reducible rfl)⟩) (by assumption) ?_; (try simp only [Act.put, List.setIfInBounds_toArray, List.set_cons_zero, List.set_cons_succ]))
  (refine wpH_take (i := 8) (v := _) (by simp only [List.getElem?_toArray, List.getElem?_cons_succ, List.getElem?_cons_zero]; rfl) (by kernel_rfl) (by kernel_rfl) (by kernel_rfl) (by intro _ _ _ h; exact h) (Or.inl ⟨by rfl, (by intro w' hSw; (try dsimp only at hSw); go_simp; first | done | with_reducible rfl)⟩) (by assumption) ?_; (try simp only [Act.put, List.setIfInBounds_toArray, List.set_cons_zero, List.set_cons_succ]))
  (refine wpH_take (i := 9) (v := _) (by simp only [List.getElem?_toArray, List.getElem?_cons_succ, List.getElem?_cons_zero]; rfl) (by kernel_rfl) (by kernel_rfl) (by kernel_rfl) (by intro _ _ _ h; exact h) (Or.inl ⟨by rfl, (by intro w' hSw; (try dsimp only at hSw); go_simp; first | done | with_reducible rfl)⟩) (by assumption) ?_; (try simp only [Act.put, List.setIfInBounds_toArray, List.set_cons_zero, List.set_cons_succ]))
  (refine wpH_take (i := 10) (v := _) (by simp only [List.getElem?_toArray, List.getElem?_cons_succ, List.getElem?_cons_zero]; rfl) (by kernel_rfl) (by kernel_rfl) (by kernel_rfl) (by intro _ _ _ h; exact h) (Or.inl ⟨by rfl, (by intro w' hSw; (try dsimp only at hSw); go_simp; first | done | with_reducible rfl)⟩) (by assumption) ?_; (try simp only [Act.put, List.setIfInBounds_toArray, List.set_cons_zero, List.set_cons_succ]))
  (refine wpH_take (i := 11) (v := _) (by simp only [List.getElem?_toArray, List.getElem?_cons_succ, List.getElem?_cons_zero]; rfl) (by kernel_rfl) (by kernel_rfl) (by kernel_rfl) (by intro _ _ _ h; exact h) (Or.inl ⟨by rfl, (by intro w' hSw; (try dsimp only at hSw); go_simp; first | done | with_reducible rfl)⟩) (by assumption) ?_; (try simp only [Act.put, List.setIfInBounds_toArray, List.set_cons_zero, List.set_cons_succ]))
  (refine wpH_take (i := 12) (v := _) (by simp only [List.getElem?_toArray, List.getElem?_cons_succ, List.getElem?_cons_zero]; rfl) (by kernel_rfl) (by kernel_rfl) (by kernel_rfl) (by intro _ _ _ h; exact h) (Or.inl ⟨by rfl, (by intro w' hSw; (try dsimp only at hSw); go_simp; first | done | with_reducible rfl)⟩) (by assumption) ?_; (try simp only [Act.put, List.setIfInBounds_toArray, List.set_cons_zero, List.set_cons_succ]))
  (refine wpH_take (i := 13) (v := _) (by simp only [List.getElem?_toArray, List.getElem?_cons_succ, List.getElem?_cons_zero]; rfl) (by kernel_rfl) (by kernel_rfl) (by kernel_rfl) (by intro _ _ _ h; exact h) (Or.inl ⟨by rfl, (by intro w' hSw; (try dsimp only at hSw); go_simp; first | done | with_reducible rfl)⟩) (by assumption) ?_; (try simp only [Act.put, List.setIfInBounds_toArray, List.set_cons_zero, List.set_cons_succ]))
  (refine wpH_one (i := 6) (by simp only [List.getElem?_toArray, List.getElem?_cons_succ, List.getElem?_cons_zero]; rfl) (by kernel_rfl) (by rfl) ?_; (go_simp; (with_reducible refine (hM1 w1.drew R1.drew).mono ?_); rintro e w2 ⟨rfl, b2⟩; refine ⟨(J1.drew.below b2 hb1).cell rfl, ?_⟩); (try simp only [Act.put, List.setIfInBounds_toArray, List.set_cons_zero, List.set_cons_succ]))
  have J2 := J1.drew.below b2 hb1
  have X2 := X1.drew.below b2 s1
  have R2 : Rnd w2 := R1.drew.below b2 hz1
  have z2 : w1.heap.size ≤ w2.heap.size := b2.size
  (refine wpH_one (i := 14) (by simp only [List.getElem?_toArray, List.getElem?_cons_succ, List.getElem?_cons_zero]; rfl) (by kernel_rfl) (by rfl) ?_; (go_simp; (with_reducible refine (hM2 w2 R2).mono ?_); rintro e w3 ⟨rfl, b3⟩; refine ⟨(J2.below b3 (by omega)).cell rfl, ?_⟩); (try simp only [Act.put, List.setIfInBounds_toArray, List.set_cons_zero, List.set_cons_succ]))
  have J3 := J2.below b3 (by omega)
  have X3 := X2.below b3 (by omega)
  have z3 := b3.size
  have hHeld3 := J3.cell (i := 0) rfl
  (refine wpH_take (i := 15) (v := _) (by simp only [List.getElem?_toArray, List.getElem?_cons_succ, List.getElem?_cons_zero]; rfl) (by kernel_rfl) (by kernel_rfl) (by kernel_rfl) (by intro _ _ _ h; exact h) (Or.inl ⟨by rfl, (by intro w' hSw; (try dsimp only at hSw); go_simp; first | done | with_reducible rfl)⟩) (by assumption) ?_; (try simp only [Act.put, List.setIfInBounds_toArray, List.set_cons_zero, List.set_cons_succ]))
  (refine wpH_one (i := 16) (by simp only [List.getElem?_toArray, List.getElem?_cons_succ, List.getElem?_cons_zero]; rfl) (by kernel_rfl) (by rfl) ?_; (refine wp_store_mid 24 (.tmp 4) (.tmp 23) (by rfl) w.heap.size 0 (keyL m1 m2).toArray (by rfl) (by rfl) (show World.there _ _ 0 2 from X3.there) sizeKey (all_oneCell_toArray (by simp [Value.oneCell'])) ?_; refine ⟨(Blk.but J3 (but_setCells _ _ _ (World.grownBy.refl _ _)) (by omega)).cell rfl, ?_⟩); (try simp only [Act.put, List.setIfInBounds_toArray, List.set_cons_zero, List.set_cons_succ]))
  refine wpH_done (by kernel_rfl) ?_ _
  have X4 : Blk (w3.setCells w.heap.size 0 (keyL m1 m2)) w.heap.size 24 (keyL m1 m2) := X3.stored (keyL m1 m2) (show (2 : Nat) = 2 from rfl)
  have G4 : But w.heap.size w3 (w3.setCells w.heap.size 0 (keyL m1 m2)) := but_setCells _ _ _ (World.grownBy.refl _ _)
  go_wp2_with fail
  refine bodyPost_ret (res_c Tryd.results34 (by rfl) X4 Tryd.underlying24 rfl sizeKey (show (2 : Nat) = 2 from rfl)) rfl ?_
  exact ⟨rfl, ((b1.drew.trans (b2.mono (by show _ ≤ w1.heap.size; omega))).trans (b3.mono (by omega))).trans (G4.below (by omega) (Nat.le_refl _))⟩
theorem conv_bs (x y z : Int) (W : World) : (convert 30 30 (.slice (some ⟨W.heap.size, 0, none⟩) 3 3)).run Tryd.prog (W.alloc (.cells #[.int .u8 x, .int .u8 y, .int .u8 z] 5)) = .ok (.slice (some ⟨W.heap.size, 0, none⟩) 3 3) (W.alloc (.cells #[.int .u8 x, .int .u8 y, .int .u8 z] 5 (3, 4))) :=
  Lib.run_convert_bytes_const W 30 5 #[.int .u8 x, .int .u8 y, .int .u8 z] 3 3 Tryd.underlying30 Tryd.underlying5
theorem bytPad : Byt padL := by decide
theorem bytLab : Byt labL := by decide
theorem bs3 {w : World} {x y z : Int} (h : Byt [x, y, z]) : Bs (w.alloc (.cells #[.int .u8 x, .int .u8 y, .int .u8 z] 5 (3, 4))) 0 (w.alloc (.cells #[.int .u8 x, .int .u8 y, .int .u8 z] 5 (3, 4))).heap.size (some ⟨w.heap.size, 0, none⟩) [x, y, z] := by
  have hB := heap_alloc_new w (.cells #[.int .u8 x, .int .u8 y, .int .u8 z] 5 (3, 4))
  refine ⟨h, fun _ => ⟨w.heap.size, 0, rfl, Nat.zero_le _, by simp, fun k hk => ?_⟩⟩
  rw [Nat.zero_add, cell_of_row _ _ k _ _ _ hB]
  have hk' : k = 0 ∨ k = 1 ∨ k = 2 := by simp at hk; omega
  rcases hk' with rfl | rfl | rfl <;> rfl
set_option maxHeartbeats 4000000 in
theorem jtag_any (bj : Nat) (s k g gg : Int) (A : Option Addr) (n c : Nat) (l : List Int) (w : World) (hs : U64 s) (hg : Gn g) (hJ : Blk w bj 50 (jarL s k gg)) (hR : Rnd w) (hn : l.length = n) (h : Bs w 0 w.heap.size A l) (hm : n ≤ 1000000) (hnc : n ≤ c) (hcc : c ≤ 9223372036854775807) :
    Calls Tryd.prog 25 #[.pointer (some ⟨bj, 0, none⟩), .slice A n c, .int .i64 g] w fun e w' => e = .returned (.int .u64 (jtag s g l)) ∧ Below w.heap.size w w' := by
  have hM := master_any bj s k g gg w hs hg hJ hR
  have hw0 := hR.lt
  clear hJ
  have hk1 := mkA_u64 s g
  have hk2 := mkB_u64 s g
  have hE : jtag s g l = tagF (mixF (tagF (mkA s g) (mkB s g) labL) 1) (mixF (tagF (mkA s g) (mkB s g) labL) 2) l := rfl
  rw [hE]
  clear hE
  generalize mkA s g = m1 at hM hk1 ⊢
  generalize mkB s g = m2 at hM hk2 ⊢
  have hD := fun W A n c l hn hB hr hm hnc hcc => derive_any m1 m2 A n c l W hk1 hk2 hn hB hm hnc hcc hr
  have hD' := fun W A hB hr => hD W A 3 3 labL rfl hB hr (by omega) (by omega) (by omega)
  have hu1 : U64 (mixF (tagF m1 m2 labL) 1) := mixF_u64 _ _
  have hu2 : U64 (mixF (tagF m1 m2 labL) 2) := mixF_u64 _ _
  generalize mixF (tagF m1 m2 labL) 1 = d1 at hD' hu1 ⊢
  generalize mixF (tagF m1 m2 labL) 2 = d2 at hD' hu2 ⊢
  have hT := fun W hB hr => tag_any d1 d2 A n c l W hu1 hu2 hn hB hm hnc hcc hr
  generalize tagF d1 d2 l = t at hT ⊢
  clear hD hu1 hu2
  go_enter Tryd.func25, Tryd.ntmps25
  go_wp2_with fail
  with_reducible refine hM.mono ?_
  rintro e w1 ⟨rfl, b1⟩
  have R1 := hR.below b1 hw0
  have z1 := b1.size
  have h1 := h.below b1 (Nat.le_refl _)
  have hE := hD' _ _ (bs3 (w := w1) bytLab) (R1.alloc _)
  have hcv := conv_bs 116 97 103
  clear hD' hM
  go_wp2_with fail
  with_reducible refine hE.mono ?_
  rintro e w2 ⟨rfl, b2⟩
  have B2 := (b1.alloc b1.size _).trans (b2.mono (by simp; omega))
  have R2 := (R1.alloc (.cells #[.int .u8 116, .int .u8 97, .int .u8 103] 5 (3, 4))).below b2 (by simp)
  have h2 := ((h1.alloc (by omega) (.cells #[.int .u8 116, .int .u8 97, .int .u8 103] 5 (3, 4))).below b2 (by simp; omega)).wide (Nat.le_refl _) (hi' := w2.heap.size) B2.size
  have hE2 := hT w2 h2 R2
  clear hE
  go_wp2_with fail
  with_reducible refine hE2.mono ?_
  rintro e w3 ⟨rfl, b3⟩
  go_wp2_with fail
  go_ret
  exact ⟨rfl, B2.trans (b3.mono B2.size)⟩
end Go.Proofs.YtkgpeddncpdjjaaDoor
