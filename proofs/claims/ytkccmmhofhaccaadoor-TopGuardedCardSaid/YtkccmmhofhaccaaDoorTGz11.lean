/- The client: Accept, the arms that refuse before anything is looked up. A variable made, and a whole block written, at an operation by itself, in a region that draws its order. No function of the program occurs here. -/
import Derived.Test.YtkccmmhofhaccaaDoorTGz10
import Derived.Test.YtkccmmhofhaccaaDoorTGz7
namespace Go.Proofs.YtkccmmhofhaccaaDoor
open Go.RowKit
set_option linter.unusedSimpArgs false
set_option linter.unusedVariables false
set_option maxRecDepth 100000
def spB (b : List Int) : List Int := b.take (b.length - 12)
theorem spB_len {b : List Int} {n : Nat} (hn : b.length = n) : (spB b).length = n - 12 := by unfold spB; rw [List.length_take, hn]; omega
theorem spL_len {b : List Int} (hb : Byt b) : (spL b).length ≤ 16 := by
  have hR : Byt (dcR b) := by unfold dcR; split; exact hb.drop _; exact Byt.nil
  obtain ⟨h1, h2⟩ := prs_back hR
  unfold spL
  by_cases hE : prsE (dcR b) = 0
  · exact (h1 hE).2.2.1
  · rw [(h2 hE).1]; simp
set_option maxRecDepth 100000 in
set_option maxHeartbeats 4000000 in
theorem acc_nil (A : Option Addr) (n c : Nat) (w : World) : Calls Tryd.prog 15 #[.pointer none, .slice A n c] w fun e w' => e = .returned (.tuple #[ntp0, .slice none 0 0, .int .i64 1]) ∧ Below w.heap.size w w' := by
  go_enter Tryd.func15, Tryd.ntmps15
  go_wp2_with (first
    | (refine wpl_alloc (by rfl) 27 (by rfl) (.agg (zN).toArray) (zN) zeroNtp rfl ?_; intro w1 J1 s1 b1)
    | (refine wpl_store (by rfl) 27 _ _ (by rfl) w.heap.size (by rfl) _ (by rfl) _ rfl 27 _ J1 (by rfl) _ sizeNtp (by rfl) (by simp [Value.oneCell']) ?_; intro w2 J2 s2 g2))
  refine bodyPost_ret (res_cxy Tryd.results15 (by rfl) J2 Tryd.underlying27 rfl sizeNtp (by rfl) (by rfl) (by rfl)) rfl ?_
  exact ⟨rfl, b1.trans (g2.below (by omega) (Nat.le_refl _))⟩
set_option maxRecDepth 100000 in
set_option maxHeartbeats 4000000 in
theorem acc_err (bc : Nat) (A : Option Addr) (n c : Nat) (b : List Int) (w : World) (hn : b.length = n) (h : Bs w 0 w.heap.size A b) (hnc : n ≤ c) (hc : c ≤ 9223372036854775807) (hm : n ≤ 1000000) (hE : spE b ≠ 0) :
    Calls Tryd.prog 15 #[.pointer (some ⟨bc, 0, none⟩), .slice A n c] w fun e w' => e = .returned (.tuple #[ntp0, .slice none 0 0, .int .i64 (spE b)]) ∧ Below w.heap.size w w' := by
  have hS := fun W hB => split_err A n c b W hn hB hnc hc hm hE
  have hE' : (spE b != 0) = true := by simpa using hE
  generalize spE b = E at hS hE' ⊢
  clear hE
  go_enter Tryd.func15, Tryd.ntmps15
  go_wp2_with (first
    | (refine wpl_alloc (by rfl) 27 (by rfl) (.agg (zN).toArray) (zN) zeroNtp rfl ?_; intro w1 J1 s1 b1)
    | (go_at_call 23; ((with_reducible refine (hS _ ((h.below b1 (Nat.le_refl _)).wide (Nat.le_refl _) b1.size)).mono ?_); rintro e w2 ⟨rfl, b2⟩; (have J2 := J1.below b2 (by omega)); (have B2 := b1.trans (b2.mono b1.size))))
    | ((refine wpl_alloc (by rfl) 72 (by rfl) (.agg (ptZ).toArray) (ptZ) zeroPt rfl ?_; intro w3 T3 s3 b3); (have J3 := J2.below b3 J2.lt); (have B3 := B2.trans (b3.mono B2.size)))
    | ((refine wpl_store (by rfl) 72 _ _ (by rfl) w2.heap.size (by rfl) _ (by rfl) _ rfl 72 _ T3 (by rfl) _ sizePt (by rfl) (by simp [Value.oneCell']) ?_; intro w4 T4 s4 g4); (have J4 := J3.but g4 (Nat.ne_of_lt J2.lt)); (have B4 := B3.trans (g4.below B3.size B2.size)))
    | (refine wpl_store (by rfl) 27 _ _ (by rfl) w.heap.size (by rfl) _ (by rfl) _ rfl 27 _ J4 (by rfl) _ sizeNtp (by rfl) (by simp [Value.oneCell']) ?_; intro w5 J5 s5 g5))
  refine bodyPost_ret (res_cxy Tryd.results15 (by rfl) J5 Tryd.underlying27 rfl sizeNtp (by rfl) (by rfl) (by rfl)) rfl ?_
  exact ⟨rfl, B4.trans (g5.below B4.size (Nat.le_refl _))⟩
set_option maxRecDepth 100000 in
set_option maxHeartbeats 8000000 in
theorem acc_tag (w : World) {lo bc g1 g2 : Nat} {k0 k1 k2 k3 N : Int} {T : List CkT} {I : List (List Int)} {Ac A2c : Option Addr} {nc cc n2c c2c : Nat} (hC : ClX w lo bc g1 g2 k0 k1 k2 k3 T N I Ac nc cc A2c n2c c2c) (hk2 : U64 k2) (hk3 : U64 k3) (hR : Rnd w) (hn8 : nc ≤ 8) (hn28 : n2c ≤ 8)
    (A : Option Addr) (n c : Nat) (b : List Int) (hn : b.length = n) (h : Bs w 0 w.heap.size A b) (hnc : n ≤ c) (hc : c ≤ 9223372036854775807) (hm : n ≤ 1000000) (hE : spE b = 0) (l v m st po pr rd rp id ref org rec xmt : Int) (hV : dcV b = ntp l v m st po pr rd rp id ref org rec xmt) (hT : prvB k2 k3 (spB b) (spA b) = false) :
    Calls Tryd.prog 15 #[.pointer (some ⟨bc, 0, none⟩), .slice A n c] w fun e w' => e = .returned (.tuple #[ntp0, .slice none 0 0, .int .i64 16]) ∧ Below w.heap.size w w' := by
  have hS := fun W hB => split_ok A n c b W hn hB hnc hc hm hE l v m st po pr rd rp id ref org rec xmt hV
  obtain ⟨hI16, hA12⟩ : (spI b).length = 16 ∧ (spA b).length = 12 := by
    rcases spE_cases b with ⟨h1, h2⟩ | ⟨h1, h2, h3⟩ | ⟨h1, h2, h3, h4⟩ | ⟨h1, h2, h3, h4, h5⟩
    · exact absurd (h2.symm.trans hE) h1
    · exact absurd (h3.symm.trans hE) h2
    · rw [h4] at hE; cases hE
    · exact ⟨h4, h3⟩
  have hDl := spB_len hn
  have hDb : Bs w 0 w.heap.size A (spB b) := h.take _
  have hP := fun A1 n1 c1 A2 n2 c2 A4 c4 W h3 h4 hc4 hcc4 hR => proved_any l v m st po pr rd rp id ref org rec xmt A1 n1 c1 A2 n2 c2 A (n - 12) c A4 c4 k2 k3 (spB b) (spA b) W hDl h3 (by omega) (by omega) hc hA12 h4 hc4 hcc4 hk2 hk3 hR
  generalize hPV : prvB k2 k3 (spB b) (spA b) = PV at hP
  generalize spB b = D at hP hDb
  generalize hID : spI b = ID at hS hI16
  generalize spA b = AU at hS hP hA12
  have hL16 := spL_len h.byt
  generalize hLL : spL b = L at hS hL16
  have hHI := Lib.hid hI16
  have hHA := Lib.hid hA12
  have HID := Lib.hid hID
  have HLL := Lib.hid hLL
  have HPV := Lib.hid hPV
  clear hE hV hn hI16 hA12 hDl hID hLL hPV
  have hPV' : PV = false := HPV.out.symm.trans hT
  subst hPV'
  clear hT HPV
  go_enter Tryd.func15, Tryd.ntmps15
  go_wp2_with (first
    | (refine wpl_alloc (by rfl) 27 (by rfl) (.agg (zN).toArray) (zN) zeroNtp rfl ?_; intro w1 J1 s1 b1)
    | (go_at_call 23; ((with_reducible refine (hS _ ((h.below b1 (Nat.le_refl _)).wide (Nat.le_refl _) b1.size)).mono ?_); rintro e w2 ⟨P1, p1, q1, P2, q2, P4, q4, rfl, hL1, X2, OI2, OA2, b2⟩; (have J2 := J1.below b2 (by omega)); (have B2 := b1.trans (b2.mono b1.size))))
    | ((refine wpl_alloc (by rfl) 72 (by rfl) (.agg (ptZ).toArray) (ptZ) zeroPt rfl ?_; intro w3 T3 s3 b3); (have J3 := J2.below b3 J2.lt); (have B3 := B2.trans (b3.mono B2.size)))
    | ((refine wpl_store (by rfl) 72 _ _ (by rfl) w2.heap.size (by rfl) _ (by rfl) _ rfl 72 _ T3 (by rfl) _ sizePt (by rfl) (by simp [Value.oneCell']) ?_; intro w4 T4 s4 g4); (have J4 := J3.but g4 (Nat.ne_of_lt J2.lt)); (have B4 := B3.trans (g4.below B3.size B2.size)); (have hl12 : w.heap.size < w1.heap.size := J1.lt)))
  have B24 : Below w2.heap.size w2 w4 := b3.trans (g4.below (Nat.le_of_lt s3) (Nat.le_refl _))
  have X4 := X2.below B24 (Nat.le_refl _)
  have OI4 := OI2.below B24 (Nat.le_refl _)
  have OA4 := OA2.below B24 (Nat.le_refl _)
  have hC4 := hC.below B4 (Nat.le_refl _)
  have hR4 := hR.below B4 hR.lt
  have hD4 := (hDb.below B4 (Nat.le_refl _)).wide (Nat.le_refl _) B4.size
  have z12 := b2.size
  have zq2 := OI2.cap_le
  have zq4 := OA2.cap_le
  have zm4 := OA2.cap_max
  rw [hHI.out] at zq2
  rw [hHA.out] at zq4
  have z24 := T4.lt
  clear b1 b2 b3 g4 B2 B3 X2 OI2 OA2 J1 J2 J3 T3 hS s1 s3 s4 B24
  generalize hpb : w2.heap.size = pb at *
  refine wp_region_heldL (fun y => Blk y pb 72 (ptL l v m st po pr rd rp id ref org rec xmt P1 p1 q1 P2 16 q2 A (n - 12) c P4 12 q4) ∧ Blk y bc 63 (clL k0 k1 k2 k3 Ac nc cc N A2c n2c c2c)) 7 (by kernel_rfl) rfl ⟨T4.drew, hC4.blk.drew⟩ fun hHeld => ?_
  simp only [List.replicate]
  refine wpH_take (i := 0) (v := .agg (ptL l v m st po pr rd rp id ref org rec xmt P1 p1 q1 P2 16 q2 A (n - 12) c P4 12 q4).toArray) (by simp only [List.getElem?_toArray, List.getElem?_cons_succ, List.getElem?_cons_zero]; rfl) (by kernel_rfl) (by kernel_rfl) (by kernel_rfl) (by intro _ _ _ h; exact h) (yieldsIf_load_mid (by rfl) 72 _ (by rfl) pb 0 (by rfl) (ptL l v m st po pr rd rp id ref org rec xmt P1 p1 q1 P2 16 q2 A (n - 12) c P4 12 q4) _ (fun w' h => h.1.range) Tryd.underlying72 rfl sizePt) (by assumption) ?_
  (try simp only [Act.put, List.setIfInBounds_toArray, List.set_cons_zero, List.set_cons_succ])
  (refine wpH_take (i := 1) (v := _) (by simp only [List.getElem?_toArray, List.getElem?_cons_succ, List.getElem?_cons_zero]; rfl) (by kernel_rfl) (by kernel_rfl) (by kernel_rfl) (by intro _ _ _ h; exact h) (Or.inl ⟨by rfl, (by intro w' hSw; (try dsimp only at hSw); go_simp; first | done | with_reducible rfl)⟩) (by assumption) ?_; (try simp only [Act.put, List.setIfInBounds_toArray, List.set_cons_zero, List.set_cons_succ]))
  (refine wpH_take (i := 2) (v := _) (by simp only [List.getElem?_toArray, List.getElem?_cons_succ, List.getElem?_cons_zero]; rfl) (by kernel_rfl) (by kernel_rfl) (by kernel_rfl) (by intro _ _ _ h; exact h) (Or.inl ⟨by rfl, (by intro w' hSw; (try dsimp only at hSw); go_simp; first | done | with_reducible rfl)⟩) (by assumption) ?_; (try simp only [Act.put, List.setIfInBounds_toArray, List.set_cons_zero, List.set_cons_succ]))
  (refine wpH_take (i := 3) (v := _) (by simp only [List.getElem?_toArray, List.getElem?_cons_succ, List.getElem?_cons_zero]; rfl) (by kernel_rfl) (by kernel_rfl) (by kernel_rfl) (by intro _ _ _ h; exact h) (Or.inl ⟨by rfl, (by intro w' hSw; (try dsimp only at hSw); go_simp; first | done | with_reducible rfl)⟩) (by assumption) ?_; (try simp only [Act.put, List.setIfInBounds_toArray, List.set_cons_zero, List.set_cons_succ]))
  refine wpH_take (i := 4) (v := .agg (keyL k2 k3).toArray) (by simp only [List.getElem?_toArray, List.getElem?_cons_succ, List.getElem?_cons_zero]; rfl) (by kernel_rfl) (by kernel_rfl) (by kernel_rfl) (by intro _ _ _ h; exact h) (yieldsIf_load_mid (by rfl) 24 _ (by rfl) bc 2 (by rfl) (keyL k2 k3) _ (fun w' h => Blk.mid h.2 2 (keyL k2 k3) rfl) Tryd.underlying24 rfl sizeKey) (by assumption) ?_
  (try simp only [Act.put, List.setIfInBounds_toArray, List.set_cons_zero, List.set_cons_succ])
  have hPE := hP P1 p1 q1 P2 16 q2 P4 q4 w4.drew hD4.drew ((OA4.bs.wide (Nat.zero_le _) (Nat.le_refl _)).drew) zq4 zm4 hR4.drew
  (refine wpH_one (i := 5) (by simp only [List.getElem?_toArray, List.getElem?_cons_succ, List.getElem?_cons_zero]; rfl) (by kernel_rfl) (by rfl) ?_; (go_simp; (with_reducible refine hPE.mono ?_); rintro e w5 ⟨rfl, b5⟩; refine ⟨⟨T4.drew.below b5 T4.lt, hC4.blk.drew.below b5 hC4.blk.lt⟩, ?_⟩); (try simp only [Act.put, List.setIfInBounds_toArray, List.set_cons_zero, List.set_cons_succ]))
  have hHeld5 : Blk w5 pb 72 (ptL l v m st po pr rd rp id ref org rec xmt P1 p1 q1 P2 16 q2 A (n - 12) c P4 12 q4) ∧ Blk w5 bc 63 (clL k0 k1 k2 k3 Ac nc cc N A2c n2c c2c) := ⟨T4.drew.below b5 T4.lt, hC4.blk.drew.below b5 hC4.blk.lt⟩
  (refine wpH_take (i := 6) (v := _) (by simp only [List.getElem?_toArray, List.getElem?_cons_succ, List.getElem?_cons_zero]; rfl) (by kernel_rfl) (by kernel_rfl) (by kernel_rfl) (by intro _ _ _ h; exact h) (Or.inl ⟨by rfl, (by intro w' hSw; (try dsimp only at hSw); go_simp; first | done | with_reducible rfl)⟩) (by assumption) ?_; (try simp only [Act.put, List.setIfInBounds_toArray, List.set_cons_zero, List.set_cons_succ]))
  refine wpH_done (by kernel_rfl) ?_ _
  have T5 := hHeld5.1
  have X5 := X4.drew.below b5 (Nat.le_refl _)
  have OI5 := OI4.drew.below b5 (Nat.le_refl _)
  have J5 := J4.drew.below b5 J4.lt
  have hC5 := hC4.drew.below b5 (Nat.le_refl _)
  have B5 := B4.drew.trans (b5.mono B4.size)
  have z45 : w4.heap.size ≤ w5.heap.size := b5.size
  clear hHeld hHeld5 hPE hP X4 OI4 OA4 hC4 hR4 hD4 J4 T4 b5 B4
  go_wp2_with (first
    | (refine wpl_store (by rfl) 27 _ _ (by rfl) w.heap.size (by rfl) _ (by rfl) _ rfl 27 _ J5 (by rfl) _ sizeNtp (by rfl) (by simp [Value.oneCell']) ?_; intro w6 J6 s6 g6))
  refine bodyPost_ret (res_cxy Tryd.results15 (by rfl) J6 Tryd.underlying27 rfl sizeNtp (by rfl) (by rfl) (by rfl)) rfl ?_
  exact ⟨rfl, B5.trans (g6.below B5.size (Nat.le_refl _))⟩
set_option maxRecDepth 100000 in
set_option maxHeartbeats 8000000 in
theorem acc_none (w : World) {lo bc g1 g2 : Nat} {k0 k1 k2 k3 N : Int} {T : List CkT} {I : List (List Int)} {Ac A2c : Option Addr} {nc cc n2c c2c : Nat} (hC : ClX w lo bc g1 g2 k0 k1 k2 k3 T N I Ac nc cc A2c n2c c2c) (hk2 : U64 k2) (hk3 : U64 k3) (hR : Rnd w) (hn8 : nc ≤ 8) (hn28 : n2c ≤ 8)
    (A : Option Addr) (n c : Nat) (b : List Int) (hn : b.length = n) (h : Bs w 0 w.heap.size A b) (hnc : n ≤ c) (hc : c ≤ 9223372036854775807) (hm : n ≤ 1000000) (hE : spE b = 0) (l v m st po pr rd rp id ref org rec xmt : Int) (hV : dcV b = ntp l v m st po pr rd rp id ref org rec xmt) (hT : prvB k2 k3 (spB b) (spA b) = true) (hF : fiI I (spI b) = -1) :
    Calls Tryd.prog 15 #[.pointer (some ⟨bc, 0, none⟩), .slice A n c] w fun e w' => e = .returned (.tuple #[ntp0, .slice none 0 0, .int .i64 11]) ∧ Below w.heap.size w w' := by
  have hS := fun W hB => split_ok A n c b W hn hB hnc hc hm hE l v m st po pr rd rp id ref org rec xmt hV
  obtain ⟨hI16, hA12⟩ : (spI b).length = 16 ∧ (spA b).length = 12 := by
    rcases spE_cases b with ⟨h1, h2⟩ | ⟨h1, h2, h3⟩ | ⟨h1, h2, h3, h4⟩ | ⟨h1, h2, h3, h4, h5⟩
    · exact absurd (h2.symm.trans hE) h1
    · exact absurd (h3.symm.trans hE) h2
    · rw [h4] at hE; cases hE
    · exact ⟨h4, h3⟩
  have hDl := spB_len hn
  have hDb : Bs w 0 w.heap.size A (spB b) := h.take _
  have hP := fun A1 n1 c1 A2 n2 c2 A4 c4 W h3 h4 hc4 hcc4 hR => proved_any l v m st po pr rd rp id ref org rec xmt A1 n1 c1 A2 n2 c2 A (n - 12) c A4 c4 k2 k3 (spB b) (spA b) W hDl h3 (by omega) (by omega) hc hA12 h4 hc4 hcc4 hk2 hk3 hR
  generalize hPV : prvB k2 k3 (spB b) (spA b) = PV at hP
  generalize spB b = D at hP hDb
  generalize hID : spI b = ID at hS hI16
  generalize spA b = AU at hS hP hA12
  have hL16 := spL_len h.byt
  generalize hLL : spL b = L at hS hL16
  have hHI := Lib.hid hI16
  have hHA := Lib.hid hA12
  have HID := Lib.hid hID
  have HLL := Lib.hid hLL
  have HPV := Lib.hid hPV
  clear hE hV hn hI16 hA12 hDl hID hLL hPV
  have hPV' : PV = true := HPV.out.symm.trans hT
  subst hPV'
  rw [HID.out] at hF
  have HF := Lib.hid hF
  clear hF
  clear hT HPV
  go_enter Tryd.func15, Tryd.ntmps15
  go_wp2_with (first
    | (refine wpl_alloc (by rfl) 27 (by rfl) (.agg (zN).toArray) (zN) zeroNtp rfl ?_; intro w1 J1 s1 b1)
    | (go_at_call 23; ((with_reducible refine (hS _ ((h.below b1 (Nat.le_refl _)).wide (Nat.le_refl _) b1.size)).mono ?_); rintro e w2 ⟨P1, p1, q1, P2, q2, P4, q4, rfl, hL1, X2, OI2, OA2, b2⟩; (have J2 := J1.below b2 (by omega)); (have B2 := b1.trans (b2.mono b1.size))))
    | ((refine wpl_alloc (by rfl) 72 (by rfl) (.agg (ptZ).toArray) (ptZ) zeroPt rfl ?_; intro w3 T3 s3 b3); (have J3 := J2.below b3 J2.lt); (have B3 := B2.trans (b3.mono B2.size)))
    | ((refine wpl_store (by rfl) 72 _ _ (by rfl) w2.heap.size (by rfl) _ (by rfl) _ rfl 72 _ T3 (by rfl) _ sizePt (by rfl) (by simp [Value.oneCell']) ?_; intro w4 T4 s4 g4); (have J4 := J3.but g4 (Nat.ne_of_lt J2.lt)); (have B4 := B3.trans (g4.below B3.size B2.size)); (have hl12 : w.heap.size < w1.heap.size := J1.lt)))
  have B24 : Below w2.heap.size w2 w4 := b3.trans (g4.below (Nat.le_of_lt s3) (Nat.le_refl _))
  have X4 := X2.below B24 (Nat.le_refl _)
  have OI4 := OI2.below B24 (Nat.le_refl _)
  have OA4 := OA2.below B24 (Nat.le_refl _)
  have hC4 := hC.below B4 (Nat.le_refl _)
  have hR4 := hR.below B4 hR.lt
  have hD4 := (hDb.below B4 (Nat.le_refl _)).wide (Nat.le_refl _) B4.size
  have z12 := b2.size
  have zq2 := OI2.cap_le
  have zq4 := OA2.cap_le
  have zm4 := OA2.cap_max
  rw [hHI.out] at zq2
  rw [hHA.out] at zq4
  have z24 := T4.lt
  clear b1 b2 b3 g4 B2 B3 X2 OI2 OA2 J1 J2 J3 T3 hS s1 s3 s4 B24
  generalize hpb : w2.heap.size = pb at *
  refine wp_region_heldL (fun y => Blk y pb 72 (ptL l v m st po pr rd rp id ref org rec xmt P1 p1 q1 P2 16 q2 A (n - 12) c P4 12 q4) ∧ Blk y bc 63 (clL k0 k1 k2 k3 Ac nc cc N A2c n2c c2c)) 7 (by kernel_rfl) rfl ⟨T4.drew, hC4.blk.drew⟩ fun hHeld => ?_
  simp only [List.replicate]
  refine wpH_take (i := 0) (v := .agg (ptL l v m st po pr rd rp id ref org rec xmt P1 p1 q1 P2 16 q2 A (n - 12) c P4 12 q4).toArray) (by simp only [List.getElem?_toArray, List.getElem?_cons_succ, List.getElem?_cons_zero]; rfl) (by kernel_rfl) (by kernel_rfl) (by kernel_rfl) (by intro _ _ _ h; exact h) (yieldsIf_load_mid (by rfl) 72 _ (by rfl) pb 0 (by rfl) (ptL l v m st po pr rd rp id ref org rec xmt P1 p1 q1 P2 16 q2 A (n - 12) c P4 12 q4) _ (fun w' h => h.1.range) Tryd.underlying72 rfl sizePt) (by assumption) ?_
  (try simp only [Act.put, List.setIfInBounds_toArray, List.set_cons_zero, List.set_cons_succ])
  (refine wpH_take (i := 1) (v := _) (by simp only [List.getElem?_toArray, List.getElem?_cons_succ, List.getElem?_cons_zero]; rfl) (by kernel_rfl) (by kernel_rfl) (by kernel_rfl) (by intro _ _ _ h; exact h) (Or.inl ⟨by rfl, (by intro w' hSw; (try dsimp only at hSw); go_simp; first | done | with_reducible rfl)⟩) (by assumption) ?_; (try simp only [Act.put, List.setIfInBounds_toArray, List.set_cons_zero, List.set_cons_succ]))
  (refine wpH_take (i := 2) (v := _) (by simp only [List.getElem?_toArray, List.getElem?_cons_succ, List.getElem?_cons_zero]; rfl) (by kernel_rfl) (by kernel_rfl) (by kernel_rfl) (by intro _ _ _ h; exact h) (Or.inl ⟨by rfl, (by intro w' hSw; (try dsimp only at hSw); go_simp; first | done | with_reducible rfl)⟩) (by assumption) ?_; (try simp only [Act.put, List.setIfInBounds_toArray, List.set_cons_zero, List.set_cons_succ]))
  (refine wpH_take (i := 3) (v := _) (by simp only [List.getElem?_toArray, List.getElem?_cons_succ, List.getElem?_cons_zero]; rfl) (by kernel_rfl) (by kernel_rfl) (by kernel_rfl) (by intro _ _ _ h; exact h) (Or.inl ⟨by rfl, (by intro w' hSw; (try dsimp only at hSw); go_simp; first | done | with_reducible rfl)⟩) (by assumption) ?_; (try simp only [Act.put, List.setIfInBounds_toArray, List.set_cons_zero, List.set_cons_succ]))
  refine wpH_take (i := 4) (v := .agg (keyL k2 k3).toArray) (by simp only [List.getElem?_toArray, List.getElem?_cons_succ, List.getElem?_cons_zero]; rfl) (by kernel_rfl) (by kernel_rfl) (by kernel_rfl) (by intro _ _ _ h; exact h) (yieldsIf_load_mid (by rfl) 24 _ (by rfl) bc 2 (by rfl) (keyL k2 k3) _ (fun w' h => Blk.mid h.2 2 (keyL k2 k3) rfl) Tryd.underlying24 rfl sizeKey) (by assumption) ?_
  (try simp only [Act.put, List.setIfInBounds_toArray, List.set_cons_zero, List.set_cons_succ])
  have hPE := hP P1 p1 q1 P2 16 q2 P4 q4 w4.drew hD4.drew ((OA4.bs.wide (Nat.zero_le _) (Nat.le_refl _)).drew) zq4 zm4 hR4.drew
  (refine wpH_one (i := 5) (by simp only [List.getElem?_toArray, List.getElem?_cons_succ, List.getElem?_cons_zero]; rfl) (by kernel_rfl) (by rfl) ?_; (go_simp; (with_reducible refine hPE.mono ?_); rintro e w5 ⟨rfl, b5⟩; refine ⟨⟨T4.drew.below b5 T4.lt, hC4.blk.drew.below b5 hC4.blk.lt⟩, ?_⟩); (try simp only [Act.put, List.setIfInBounds_toArray, List.set_cons_zero, List.set_cons_succ]))
  have hHeld5 : Blk w5 pb 72 (ptL l v m st po pr rd rp id ref org rec xmt P1 p1 q1 P2 16 q2 A (n - 12) c P4 12 q4) ∧ Blk w5 bc 63 (clL k0 k1 k2 k3 Ac nc cc N A2c n2c c2c) := ⟨T4.drew.below b5 T4.lt, hC4.blk.drew.below b5 hC4.blk.lt⟩
  (refine wpH_take (i := 6) (v := _) (by simp only [List.getElem?_toArray, List.getElem?_cons_succ, List.getElem?_cons_zero]; rfl) (by kernel_rfl) (by kernel_rfl) (by kernel_rfl) (by intro _ _ _ h; exact h) (Or.inl ⟨by rfl, (by intro w' hSw; (try dsimp only at hSw); go_simp; first | done | with_reducible rfl)⟩) (by assumption) ?_; (try simp only [Act.put, List.setIfInBounds_toArray, List.set_cons_zero, List.set_cons_succ]))
  refine wpH_done (by kernel_rfl) ?_ _
  have T5 := hHeld5.1
  have X5 := X4.drew.below b5 (Nat.le_refl _)
  have OI5 := OI4.drew.below b5 (Nat.le_refl _)
  have J5 := J4.drew.below b5 J4.lt
  have hC5 := hC4.drew.below b5 (Nat.le_refl _)
  have B5 := B4.drew.trans (b5.mono B4.size)
  have z45 : w4.heap.size ≤ w5.heap.size := b5.size
  clear hHeld hHeld5 hPE hP X4 OI4 OA4 hC4 hR4 hD4 J4 T4 b5 B4
  have hFi := find_id w5 hC5 P2 q2 ID hHI.out (OI5.bs.wide (Nat.zero_le _) (Nat.le_refl _)) (by omega)
  rw [HF.out] at hFi
  go_wp2_with (first
    | (refine wpl_loadf (by rfl) 32 _ (by rfl) pb 14 (by rfl) _ _ T5 _ rfl _ Tryd.underlying32 rfl ?_)
    | (go_at_call 29; ((with_reducible refine hFi.mono ?_); rintro e w6 ⟨rfl, b6⟩; (have J6 := J5.below b6 J5.lt); (have T6 := T5.below b6 T5.lt); (have B6 := B5.trans (b6.mono B5.size))))
    | (refine wpl_store (by rfl) 27 _ _ (by rfl) w.heap.size (by rfl) _ (by rfl) _ rfl 27 _ J6 (by rfl) _ sizeNtp (by rfl) (by simp [Value.oneCell']) ?_; intro w7 J7 s7 g7))
  refine bodyPost_ret (res_cxy Tryd.results15 (by rfl) J7 Tryd.underlying27 rfl sizeNtp (by rfl) (by rfl) (by rfl)) rfl ?_
  exact ⟨rfl, B6.trans (g7.below B6.size (Nat.le_refl _))⟩
end Go.Proofs.YtkccmmhofhaccaaDoor
namespace Go.Proofs.YtkccmmhofhaccaaDoor
open Go.RowKit
set_option linter.unusedSimpArgs false
set_option linter.unusedVariables false
set_option maxRecDepth 100000
section
variable {P : Program} {o : Oper} {a : Act} {w : World} {K : Act → World → Prop} {Q : Exit → Act → World → Prop}
theorem wp_alloc1 (T : TypeId) (ho : o.op = .alloc T) (z : Value) (zs : List Value) (hi : (P.info? T).map (·.zero) = some (some z)) (hc : z.cells = zs.toArray)
    (h : ∀ w', Blk w' w.heap.size T zs → w.heap.size < w'.heap.size → Below w.heap.size w w' → K (a.put o.dst (.pointer (some ⟨w.heap.size, 0, none⟩))) w') : o.wp P a w K Q := by
  cases hq : P.info? T with
  | none => simp [hq] at hi
  | some i =>
    have hz : i.zero = z := by simpa [hq] using hi
    have hr : (Instr.alloc T true (.tuple #[])).run P w = .ok (.pointer (some ⟨w.heap.size, 0, none⟩)) (w.alloc (.cells zs.toArray T)) := by
      simp [Instr.alloc, zeroValue, typeInfo, Sem.run_bind, hq, hz, newVar, newRow, hc]
    unfold Oper.wp execOp
    simp only [ho, Sem.run_bind, hr, Result.andThen_ok, Sem.run_pure]
    exact h _ (Blk.new w T _ zs rfl) (by simp) ((Below.refl _ w).alloc (Nat.le_refl _) _)
theorem wp_store1 (T : TypeId) (x y : Operand) (ho : o.op = .store T x y) (b : Nat) (hx : a.eval x = .pointer (some ⟨b, 0, none⟩)) (cells : Array Value) (hy : a.eval y = .agg cells) (cs : List Value) (hc : cells = cs.toArray) (t : TypeId) (ds : List Value) (hB : Blk w b t ds)
    (hl : ds.length = cs.length) (n : Nat) (hi : (P.info? T).map (·.size) = some n) (hn : cs.length = n) (h1 : ∀ v ∈ cs, v.oneCell' = true)
    (h : ∀ w', Blk w' b t cs → w.heap.size ≤ w'.heap.size → But b w w' → K (a.put o.dst undef) w') : o.wp P a w K Q := by
  subst hc hn
  exact wp_store_mid T x y ho b 0 cs.toArray hx hy (by have := hB.there; rw [hl] at this; simpa using this) (by simpa using hi) (all_oneCell_toArray h1) (h _ (hB.stored cs hl) (Nat.le_of_eq (size_setCells _ _ _ _).symm) (but_setCells _ _ _ (World.grownBy.refl w _)))
end
end Go.Proofs.YtkccmmhofhaccaaDoor
