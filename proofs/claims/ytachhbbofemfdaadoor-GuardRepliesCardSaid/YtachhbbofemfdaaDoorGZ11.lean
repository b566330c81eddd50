/- The client: find. The client: Accept, the arms that refuse before anything is looked up. A variable made, and a whole block written, at an operation by itself, in a region that draws its order. No function of the program occurs here. -/
import Derived.Test.YtachhbbofemfdaaDoorGZ10
import Derived.Test.YtachhbbofemfdaaDoorGZ4
import Derived.Test.YtachhbbofemfdaaDoorGZ8
namespace Go.Proofs.YtachhbbofemfdaaDoor
open Go.RowKit
set_option linter.unusedSimpArgs false
set_option linter.unusedVariables false
set_option maxRecDepth 100000
theorem flat_at : ∀ (I : List (List Int)), (∀ l ∈ I, l.length = 16 ∧ Byt l) → ∀ (k : Nat) (hk : k < I.length) (j : Nat), j < 16 → (I.flatMap byC)[k * 16 + j]? = (byC I[k])[j]?
  | [], _, k, hk, _, _ => absurd hk (by simp)
  | l :: r, h, 0, _, j, hj => by
    have hl := (h l (List.mem_cons_self ..)).1
    rw [List.flatMap_cons, Nat.zero_mul, Nat.zero_add, List.getElem?_append_left (by rw [List.length_map]; omega)]
    rfl
  | l :: r, h, k + 1, hk, j, hj => by
    have hl := (h l (List.mem_cons_self ..)).1
    have hb : (byC l).length = 16 := by rw [List.length_map]; exact hl
    rw [List.flatMap_cons, List.getElem?_append_right (by omega), hb, show (k + 1) * 16 + j - 16 = k * 16 + j by omega]
    exact flat_at r (fun x hx => h x (List.mem_cons_of_mem _ hx)) k (by simpa using hk) j hj
/-- the place of an identifier, or -1 -/
def fiI (I : List (List Int)) (x : List Int) : Int := match I.findIdx? (· == x) with | some k => (k : Int) | none => -1
theorem fiI_some {I : List (List Int)} {x : List Int} {k : Nat} (hk : k < I.length) (h : I[k] = x) (hno : ∀ j (hj : j < k), I[j]'(by omega) ≠ x) : fiI I x = k := by
  unfold fiI
  have e : I.findIdx? (· == x) = some k := by
    rw [List.findIdx?_eq_some_iff_getElem]
    exact ⟨hk, by simpa using h, fun j hj => by simpa using hno j hj⟩
  rw [e]
theorem fiI_none {I : List (List Int)} {x : List Int} (hno : ∀ j (hj : j < I.length), I[j] ≠ x) : fiI I x = -1 := by
  unfold fiI
  have e : I.findIdx? (· == x) = none := by
    rw [List.findIdx?_eq_none_iff]
    intro y hy
    obtain ⟨j, hj, rfl⟩ := List.mem_iff_getElem.1 hy
    simpa using hno j hj
  rw [e]
set_option maxRecDepth 100000 in
set_option maxHeartbeats 8000000 in
theorem find_id (w : World) {lo b g1 g2 : Nat} {k0 k1 k2 k3 N : Int} {T : List CkT} {I : List (List Int)} {A A2 : Option Addr} {n c n2 c2 : Nat} (h : ClX w lo b g1 g2 k0 k1 k2 k3 T N I A n c A2 n2 c2) (B : Option Addr) (d : Nat) (x : List Int) (hx : x.length = 16) (hB : Bs w 0 w.heap.size B x) (hn2 : n2 ≤ 1000000) :
    Calls Tryd.prog 49 #[.pointer (some ⟨b, 0, none⟩), .slice B 16 d] w fun e w' => e = .returned (.int .i64 (fiI I x)) ∧ Below w.heap.size w w' := by
  have hBk := h.blk
  have hI := h.wn
  have hz : (byC (List.replicate 16 0)).length = 16 := rfl
  obtain ⟨Z, hZ⟩ : ∃ Z, byC (List.replicate 16 0) = Z := ⟨_, rfl⟩
  have hzero := zeroId
  rw [hZ] at hzero hz
  clear hZ
  go_enter Tryd.func49, Tryd.ntmps49
  go_wp2_with (first | (refine wpl_loadf (by rfl) 98 _ (by rfl) b 6 (by rfl) _ _ hBk _ rfl _ Tryd.underlying98 rfl ?_))
  go_loopw [12] (fun i wr => ∃ k : Nat, k ≤ n2 ∧ i = .int .i64 k ∧ Hid (∀ j (hj : j < I.length), j < k → I[j] ≠ x) ∧ Below w.heap.size w wr) (fun i _ => n2 - (intOf i).toNat)
  case atStart => exact ⟨0, by omega, rfl, fun j hj h => absurd h (by omega), Below.refl _ _⟩
  case round =>
    obtain ⟨k, hk, rfl, hN, hBw⟩ := hrel
    obtain ⟨wo, rfl⟩ : ∃ wo : World, wo = wr := ⟨wr, rfl⟩
    by_cases hlt : k < n2
    · have hC := h.below hBw (Nat.le_refl _)
      obtain ⟨o, rfl, hat⟩ := hC.ws.at (k := k) hlt (by omega)
      have hmem : I[k] ∈ I := List.getElem_mem (by omega)
      obtain ⟨hl16, hlb⟩ := hC.wt _ hmem
      have hrg : wo.rangeAt g2 (o + k * 16) (byC I[k]) := fun j v hv => by
        have hj : j < 16 := by have := (List.getElem?_eq_some_iff.1 hv).1; rw [List.length_map] at this; omega
        rw [hat j hj, flat_at I hC.wt k (by omega) j hj]
        exact hv
      obtain ⟨Y, hY⟩ : ∃ Y, Y = I[k] := ⟨_, rfl⟩
      rw [← hY] at hl16 hlb hrg
      have hHY := Lib.hid hY
      clear hat hmem hY
      have hi0 : (0 : Int) ≤ k := by omega
      have hi1 : (k : Int) < n2 := by omega
      have hYc : (byC Y).length = 16 := by rw [List.length_map]; exact hl16
      go_wp2_with (first
        | (refine wpl_loadr (by rfl) 101 _ (by rfl) g2 (o + k * 16) (by rfl) (byC Y) hrg _ Tryd.underlying101 rfl _ sizeId hYc ?_)
        | ((refine wpl_alloc (by rfl) 101 (by rfl) (.agg (Z).toArray) (Z) hzero rfl ?_; intro w1 D1 s1 b1))
        | (refine wpl_store (by rfl) 101 _ _ (by rfl) wo.heap.size (by rfl) _ (by rfl) (byC Y) rfl 101 _ D1 (hz.trans hYc.symm) _ sizeId hYc (oneCellU8 _) ?_; intro w2 D2 s2 g2'))
      have B2 : Below w.heap.size w w2 := (hBw.trans (b1.mono hBw.size)).trans (But.below (g := wo.heap.size) g2' (by have := hBw.size; omega) hBw.size)
      have v1 : (convert 23 9 (.slice (some ⟨wo.heap.size, 0, none⟩) 16 16)).run Tryd.prog w2.drew = .ok (.string (strOf Y)) w2.drew := strOf_conv' hl16 (blk_bs D2.drew hlb)
      have v2 : (convert 23 9 (.slice B 16 d)).run Tryd.prog w2.drew = .ok (.string (strOf x)) w2.drew := strOf_conv' hx ((hB.below B2 (Nat.le_refl _)).drew)
      have hE : ((strOf Y).toList == (strOf x).toList) = decide (Y = x) := by
        rw [Bool.eq_iff_iff, beq_iff_eq, decide_eq_true_eq, ByteArray.toList_eq, ByteArray.toList_eq, ← strOf_inj hlb hB.byt]
        exact ⟨fun h => WideShapes.bytes_inj h, fun h => by rw [h]⟩
      generalize strOf Y = s at v1 hE
      generalize strOf x = t at v2 hE
      clear D1 b1 g2' hrg hC hBk h
      by_cases heq : Y = x
      · rw [decide_eq_true heq] at hE
        have hF := Lib.hid (fiI_some (I := I) (x := x) (k := k) (by omega) (by rw [← hHY.out]; exact heq) (fun j hj => hN.out j (by omega) hj))
        clear heq
        refine wp_region_det (fun y => y = w2.drew) 5 (by kernel_rfl) rfl (by rfl) ?_
        simp only [List.replicate]
        (refine wpD_take (i := 0) (v := _) (by simp only [List.getElem?_toArray, List.getElem?_cons_succ, List.getElem?_cons_zero]; rfl) (by kernel_rfl) (by kernel_rfl) (by kernel_rfl) (by rfl) (YS.of_value (by intro w' hSw; (try dsimp only at hSw); go_simp; first | done | with_reducible rfl)) ?_; (try simp only [Act.put, List.setIfInBounds_toArray, List.set_cons_zero, List.set_cons_succ]))
        (refine wpD_take (i := 1) (v := _) (by simp only [List.getElem?_toArray, List.getElem?_cons_succ, List.getElem?_cons_zero]; rfl) (by kernel_rfl) (by kernel_rfl) (by kernel_rfl) (by rfl) (YS.of_value (by intro w' hSw; (try dsimp only at hSw); go_simp; first | done | with_reducible rfl)) ?_; (try simp only [Act.put, List.setIfInBounds_toArray, List.set_cons_zero, List.set_cons_succ]))
        (refine wpD_take (i := 2) (v := _) (by simp only [List.getElem?_toArray, List.getElem?_cons_succ, List.getElem?_cons_zero]; rfl) (by kernel_rfl) (by kernel_rfl) (by kernel_rfl) (by rfl) (YS.of_value (by intro w' hSw; (try dsimp only at hSw); go_simp; first | done | with_reducible rfl)) ?_; (try simp only [Act.put, List.setIfInBounds_toArray, List.set_cons_zero, List.set_cons_succ]))
        (refine wpD_take (i := 3) (v := _) (by simp only [List.getElem?_toArray, List.getElem?_cons_succ, List.getElem?_cons_zero]; rfl) (by kernel_rfl) (by kernel_rfl) (by kernel_rfl) (by rfl) (YS.of_value (by intro w' hSw; (try dsimp only at hSw); go_simp; first | done | with_reducible rfl)) ?_; (try simp only [Act.put, List.setIfInBounds_toArray, List.set_cons_zero, List.set_cons_succ]))
        (refine wpD_take (i := 4) (v := _) (by simp only [List.getElem?_toArray, List.getElem?_cons_succ, List.getElem?_cons_zero]; rfl) (by kernel_rfl) (by kernel_rfl) (by kernel_rfl) (by rfl) (YS.of_value (by intro w' hSw; (try dsimp only at hSw); go_simp; first | done | with_reducible rfl)) ?_; (try simp only [Act.put, List.setIfInBounds_toArray, List.set_cons_zero, List.set_cons_succ]))
        refine wpD_done (by kernel_rfl) ?_ _
        rintro _ rfl
        go_wp2
        go_ret
        exact ⟨by rw [hF.out]; rfl, B2.drew⟩
      · rw [decide_eq_false heq] at hE
        have hN' : Hid (∀ j (hj : j < I.length), j < k + 1 → I[j] ≠ x) := fun j hj hjk => by
          rcases Nat.lt_or_ge j k with q | q
          · exact hN.out j hj q
          · obtain rfl : j = k := by omega
            rw [← hHY.out]; exact heq
        clear heq hN
        refine wp_region_det (fun y => y = w2.drew) 5 (by kernel_rfl) rfl (by rfl) ?_
        simp only [List.replicate]
        (refine wpD_take (i := 0) (v := _) (by simp only [List.getElem?_toArray, List.getElem?_cons_succ, List.getElem?_cons_zero]; rfl) (by kernel_rfl) (by kernel_rfl) (by kernel_rfl) (by rfl) (YS.of_value (by intro w' hSw; (try dsimp only at hSw); go_simp; first | done | with_reducible rfl)) ?_; (try simp only [Act.put, List.setIfInBounds_toArray, List.set_cons_zero, List.set_cons_succ]))
        (refine wpD_take (i := 1) (v := _) (by simp only [List.getElem?_toArray, List.getElem?_cons_succ, List.getElem?_cons_zero]; rfl) (by kernel_rfl) (by kernel_rfl) (by kernel_rfl) (by rfl) (YS.of_value (by intro w' hSw; (try dsimp only at hSw); go_simp; first | done | with_reducible rfl)) ?_; (try simp only [Act.put, List.setIfInBounds_toArray, List.set_cons_zero, List.set_cons_succ]))
        (refine wpD_take (i := 2) (v := _) (by simp only [List.getElem?_toArray, List.getElem?_cons_succ, List.getElem?_cons_zero]; rfl) (by kernel_rfl) (by kernel_rfl) (by kernel_rfl) (by rfl) (YS.of_value (by intro w' hSw; (try dsimp only at hSw); go_simp; first | done | with_reducible rfl)) ?_; (try simp only [Act.put, List.setIfInBounds_toArray, List.set_cons_zero, List.set_cons_succ]))
        (refine wpD_take (i := 3) (v := _) (by simp only [List.getElem?_toArray, List.getElem?_cons_succ, List.getElem?_cons_zero]; rfl) (by kernel_rfl) (by kernel_rfl) (by kernel_rfl) (by rfl) (YS.of_value (by intro w' hSw; (try dsimp only at hSw); go_simp; first | done | with_reducible rfl)) ?_; (try simp only [Act.put, List.setIfInBounds_toArray, List.set_cons_zero, List.set_cons_succ]))
        (refine wpD_take (i := 4) (v := _) (by simp only [List.getElem?_toArray, List.getElem?_cons_succ, List.getElem?_cons_zero]; rfl) (by kernel_rfl) (by kernel_rfl) (by kernel_rfl) (by rfl) (YS.of_value (by intro w' hSw; (try dsimp only at hSw); go_simp; first | done | with_reducible rfl)) ?_; (try simp only [Act.put, List.setIfInBounds_toArray, List.set_cons_zero, List.set_cons_succ]))
        refine wpD_done (by kernel_rfl) ?_ _
        rintro _ rfl
        go_wp2_with fail
        exact ⟨⟨k + 1, by omega, by go_num, hN', B2.drew⟩, by simp [intOf]; omega⟩
    · obtain rfl : k = n2 := by omega
      have hF := Lib.hid (fiI_none (I := I) (x := x) (fun j hj => hN.out j hj (by omega)))
      go_wp2
      go_ret
      exact ⟨by rw [hF.out]; rfl, hBw⟩
end Go.Proofs.YtachhbbofemfdaaDoor
namespace Go.Proofs.YtachhbbofemfdaaDoor
open Go.RowKit
set_option linter.unusedSimpArgs false
set_option linter.unusedVariables false
set_option maxRecDepth 100000
def spB (b : List Int) : List Int := b.take (b.length - 12)
theorem spB_len {b : List Int} {n : Nat} (hn : b.length = n) : (spB b).length = n - 12 := by unfold spB; rw [List.length_take, hn]; omega
theorem spL_len {b : List Int} (hb : Byt b) : (spL b).length ≤ 16 := by
  have hR : Byt (dcR b) := by unfold dcR; split; exact hb.drop _; exact Byt.nil
  obtain ⟨h1, h2⟩ := prs_back hR
  unfold spL
  by_cases hE : prsE (dcR b) = 0
  · exact (h1 hE).2.2.1
  · rw [(h2 hE).1]; simp
set_option maxRecDepth 100000 in
set_option maxHeartbeats 4000000 in
theorem acc_nil (A : Option Addr) (n c : Nat) (w : World) : Calls Tryd.prog 24 #[.pointer none, .slice A n c] w fun e w' => e = .returned (.tuple #[ntp0, .slice none 0 0, .int .i64 1]) ∧ Below w.heap.size w w' := by
  go_enter Tryd.func24, Tryd.ntmps24
  go_wp2_with (first
    | (refine wpl_alloc (by rfl) 27 (by rfl) (.agg (zN).toArray) (zN) zeroNtp rfl ?_; intro w1 J1 s1 b1)
    | (refine wpl_store (by rfl) 27 _ _ (by rfl) w.heap.size (by rfl) _ (by rfl) _ rfl 27 _ J1 (by rfl) _ sizeNtp (by rfl) (by simp [Value.oneCell']) ?_; intro w2 J2 s2 g2))
  refine bodyPost_ret (res_cxy Tryd.results24 (by rfl) J2 Tryd.underlying27 rfl sizeNtp (by rfl) (by rfl) (by rfl)) rfl ?_
  exact ⟨rfl, b1.trans (g2.below (by omega) (Nat.le_refl _))⟩
set_option maxRecDepth 100000 in
set_option maxHeartbeats 4000000 in
theorem acc_err (bc : Nat) (A : Option Addr) (n c : Nat) (b : List Int) (w : World) (hn : b.length = n) (h : Bs w 0 w.heap.size A b) (hnc : n ≤ c) (hc : c ≤ 9223372036854775807) (hm : n ≤ 1000000) (hE : spE b ≠ 0) :
    Calls Tryd.prog 24 #[.pointer (some ⟨bc, 0, none⟩), .slice A n c] w fun e w' => e = .returned (.tuple #[ntp0, .slice none 0 0, .int .i64 (spE b)]) ∧ Below w.heap.size w w' := by
  have hS := fun W hB => split_err A n c b W hn hB hnc hc hm hE
  have hE' : (spE b != 0) = true := by simpa using hE
  generalize spE b = E at hS hE' ⊢
  clear hE
  go_enter Tryd.func24, Tryd.ntmps24
  go_wp2_with (first
    | (refine wpl_alloc (by rfl) 27 (by rfl) (.agg (zN).toArray) (zN) zeroNtp rfl ?_; intro w1 J1 s1 b1)
    | (go_at_call 30; ((with_reducible refine (hS _ ((h.below b1 (Nat.le_refl _)).wide (Nat.le_refl _) b1.size)).mono ?_); rintro e w2 ⟨rfl, b2⟩; (have J2 := J1.below b2 (by omega)); (have B2 := b1.trans (b2.mono b1.size))))
    | ((refine wpl_alloc (by rfl) 75 (by rfl) (.agg (ptZ).toArray) (ptZ) zeroPt rfl ?_; intro w3 T3 s3 b3); (have J3 := J2.below b3 J2.lt); (have B3 := B2.trans (b3.mono B2.size)))
    | ((refine wpl_store (by rfl) 75 _ _ (by rfl) w2.heap.size (by rfl) _ (by rfl) _ rfl 75 _ T3 (by rfl) _ sizePt (by rfl) (by simp [Value.oneCell']) ?_; intro w4 T4 s4 g4); (have J4 := J3.but g4 (Nat.ne_of_lt J2.lt)); (have B4 := B3.trans (g4.below B3.size B2.size)))
    | (refine wpl_store (by rfl) 27 _ _ (by rfl) w.heap.size (by rfl) _ (by rfl) _ rfl 27 _ J4 (by rfl) _ sizeNtp (by rfl) (by simp [Value.oneCell']) ?_; intro w5 J5 s5 g5))
  refine bodyPost_ret (res_cxy Tryd.results24 (by rfl) J5 Tryd.underlying27 rfl sizeNtp (by rfl) (by rfl) (by rfl)) rfl ?_
  exact ⟨rfl, B4.trans (g5.below B4.size (Nat.le_refl _))⟩
set_option maxRecDepth 100000 in
set_option maxHeartbeats 8000000 in
theorem acc_tag (w : World) {lo bc g1 g2 : Nat} {k0 k1 k2 k3 N : Int} {T : List CkT} {I : List (List Int)} {Ac A2c : Option Addr} {nc cc n2c c2c : Nat} (hC : ClX w lo bc g1 g2 k0 k1 k2 k3 T N I Ac nc cc A2c n2c c2c) (hk2 : U64 k2) (hk3 : U64 k3) (hR : Rnd w) (hn8 : nc ≤ 8) (hn28 : n2c ≤ 8)
    (A : Option Addr) (n c : Nat) (b : List Int) (hn : b.length = n) (h : Bs w 0 w.heap.size A b) (hnc : n ≤ c) (hc : c ≤ 9223372036854775807) (hm : n ≤ 1000000) (hE : spE b = 0) (l v m st po pr rd rp id ref org rec xmt : Int) (hV : dcV b = ntp l v m st po pr rd rp id ref org rec xmt) (hT : prvB k2 k3 (spB b) (spA b) = false) :
    Calls Tryd.prog 24 #[.pointer (some ⟨bc, 0, none⟩), .slice A n c] w fun e w' => e = .returned (.tuple #[ntp0, .slice none 0 0, .int .i64 16]) ∧ Below w.heap.size w w' := by
  have hS := fun W hB => split_ok A n c b W hn hB hnc hc hm hE l v m st po pr rd rp id ref org rec xmt hV
  obtain ⟨hI16, hA12⟩ : (spI b).length = 16 ∧ (spA b).length = 12 := by
    rcases spE_cases b with ⟨h1, h2⟩ | ⟨h1, h2, h3⟩ | ⟨h1, h2, h3, h4⟩ | ⟨h1, h2, h3, h4, h5⟩
    · exact absurd (h2.symm.trans hE) h1
    · exact absurd (h3.symm.trans hE) h2
    · rw [h4] at hE; cases hE
    · exact ⟨h4, h3⟩
  have hDl := spB_len hn
  have hDb : Bs w 0 w.heap.size A (spB b) := h.take _
  have hP := fun A1 n1 c1 A2 n2 c2 A4 c4 W h3 h4 hc4 hcc4 hR => proved_any l v m st po pr rd rp id ref org rec xmt A1 n1 c1 A2 n2 c2 A (n - 12) c A4 c4 k2 k3 (spB b) (spA b) W hDl h3 (by omega) (by omega) hc hA12 h4 hc4 hcc4 hk2 hk3 hR
  generalize hPV : prvB k2 k3 (spB b) (spA b) = PV at hP
  generalize spB b = D at hP hDb
  generalize hID : spI b = ID at hS hI16
  generalize spA b = AU at hS hP hA12
  have hL16 := spL_len h.byt
  generalize hLL : spL b = L at hS hL16
  have hHI := Lib.hid hI16
  have hHA := Lib.hid hA12
  have HID := Lib.hid hID
  have HLL := Lib.hid hLL
  have HPV := Lib.hid hPV
  clear hE hV hn hI16 hA12 hDl hID hLL hPV
  have hPV' : PV = false := HPV.out.symm.trans hT
  subst hPV'
  clear hT HPV
  go_enter Tryd.func24, Tryd.ntmps24
  go_wp2_with (first
    | (refine wpl_alloc (by rfl) 27 (by rfl) (.agg (zN).toArray) (zN) zeroNtp rfl ?_; intro w1 J1 s1 b1)
    | (go_at_call 30; ((with_reducible refine (hS _ ((h.below b1 (Nat.le_refl _)).wide (Nat.le_refl _) b1.size)).mono ?_); rintro e w2 ⟨P1, p1, q1, P2, q2, P4, q4, rfl, hL1, X2, OI2, OA2, b2⟩; (have J2 := J1.below b2 (by omega)); (have B2 := b1.trans (b2.mono b1.size))))
    | ((refine wpl_alloc (by rfl) 75 (by rfl) (.agg (ptZ).toArray) (ptZ) zeroPt rfl ?_; intro w3 T3 s3 b3); (have J3 := J2.below b3 J2.lt); (have B3 := B2.trans (b3.mono B2.size)))
    | ((refine wpl_store (by rfl) 75 _ _ (by rfl) w2.heap.size (by rfl) _ (by rfl) _ rfl 75 _ T3 (by rfl) _ sizePt (by rfl) (by simp [Value.oneCell']) ?_; intro w4 T4 s4 g4); (have J4 := J3.but g4 (Nat.ne_of_lt J2.lt)); (have B4 := B3.trans (g4.below B3.size B2.size)); (have hl12 : w.heap.size < w1.heap.size := J1.lt)))
  have B24 : Below w2.heap.size w2 w4 := b3.trans (g4.below (Nat.le_of_lt s3) (Nat.le_refl _))
  have X4 := X2.below B24 (Nat.le_refl _)
  have OI4 := OI2.below B24 (Nat.le_refl _)
  have OA4 := OA2.below B24 (Nat.le_refl _)
  have hC4 := hC.below B4 (Nat.le_refl _)
  have hR4 := hR.below B4 hR.lt
  have hD4 := (hDb.below B4 (Nat.le_refl _)).wide (Nat.le_refl _) B4.size
  have z12 := b2.size
  have zq2 := OI2.cap_le
  have zq4 := OA2.cap_le
  have zm4 := OA2.cap_max
  rw [hHI.out] at zq2
  rw [hHA.out] at zq4
  have z24 := T4.lt
  clear b1 b2 b3 g4 B2 B3 X2 OI2 OA2 J1 J2 J3 T3 hS s1 s3 s4 B24
  generalize hpb : w2.heap.size = pb at *
  refine wp_region_heldL (fun y => Blk y pb 75 (ptL l v m st po pr rd rp id ref org rec xmt P1 p1 q1 P2 16 q2 A (n - 12) c P4 12 q4) ∧ Blk y bc 100 (clL k0 k1 k2 k3 Ac nc cc N A2c n2c c2c)) 7 (by kernel_rfl) rfl ⟨T4.drew, hC4.blk.drew⟩ fun hHeld => ?_
  simp only [List.replicate]
  refine wpH_take (i := 0) (v := .agg (ptL l v m st po pr rd rp id ref org rec xmt P1 p1 q1 P2 16 q2 A (n - 12) c P4 12 q4).toArray) (by simp only [List.getElem?_toArray, List.getElem?_cons_succ, List.getElem?_cons_zero]; rfl) (by kernel_rfl) (by kernel_rfl) (by kernel_rfl) (by intro _ _ _ h; exact h) (yieldsIf_load_mid (by rfl) 75 _ (by rfl) pb 0 (by rfl) (ptL l v m st po pr rd rp id ref org rec xmt P1 p1 q1 P2 16 q2 A (n - 12) c P4 12 q4) _ (fun w' h => h.1.range) Tryd.underlying75 rfl sizePt) (by assumption) ?_
  (try simp only [Act.put, List.setIfInBounds_toArray, List.set_cons_zero, List.set_cons_succ])
  (refine wpH_take (i := 1) (v := _) (by simp only [List.getElem?_toArray, List.getElem?_cons_succ, List.getElem?_cons_zero]; rfl) (by kernel_rfl) (by kernel_rfl) (by kernel_rfl) (by intro _ _ _ h; exact h) (Or.inl ⟨by rfl, (by intro w' hSw; (try dsimp only at hSw); go_simp; first | done | with_reducible rfl)⟩) (by assumption) ?_; (try simp only [Act.put, List.setIfInBounds_toArray, List.set_cons_zero, List.set_cons_succ]))
  (refine wpH_take (i := 2) (v := _) (by simp only [List.getElem?_toArray, List.getElem?_cons_succ, List.getElem?_cons_zero]; rfl) (by kernel_rfl) (by kernel_rfl) (by kernel_rfl) (by intro _ _ _ h; exact h) (Or.inl ⟨by rfl, (by intro w' hSw; (try dsimp only at hSw); go_simp; first | done | with_reducible rfl)⟩) (by assumption) ?_; (try simp only [Act.put, List.setIfInBounds_toArray, List.set_cons_zero, List.set_cons_succ]))
  (refine wpH_take (i := 3) (v := _) (by simp only [List.getElem?_toArray, List.getElem?_cons_succ, List.getElem?_cons_zero]; rfl) (by kernel_rfl) (by kernel_rfl) (by kernel_rfl) (by intro _ _ _ h; exact h) (Or.inl ⟨by rfl, (by intro w' hSw; (try dsimp only at hSw); go_simp; first | done | with_reducible rfl)⟩) (by assumption) ?_; (try simp only [Act.put, List.setIfInBounds_toArray, List.set_cons_zero, List.set_cons_succ]))
  refine wpH_take (i := 4) (v := .agg (keyL k2 k3).toArray) (by simp only [List.getElem?_toArray, List.getElem?_cons_succ, List.getElem?_cons_zero]; rfl) (by kernel_rfl) (by kernel_rfl) (by kernel_rfl) (by intro _ _ _ h; exact h) (yieldsIf_load_mid (by rfl) 29 _ (by rfl) bc 2 (by rfl) (keyL k2 k3) _ (fun w' h => Blk.mid h.2 2 (keyL k2 k3) rfl) Tryd.underlying29 rfl sizeKey) (by assumption) ?_
  (try simp only [Act.put, List.setIfInBounds_toArray, List.set_cons_zero, List.set_cons_succ])
  have hPE := hP P1 p1 q1 P2 16 q2 P4 q4 w4.drew hD4.drew ((OA4.bs.wide (Nat.zero_le _) (Nat.le_refl _)).drew) zq4 zm4 hR4.drew
  (refine wpH_one (i := 5) (by simp only [List.getElem?_toArray, List.getElem?_cons_succ, List.getElem?_cons_zero]; rfl) (by kernel_rfl) (by rfl) ?_; (go_simp; (with_reducible refine hPE.mono ?_); rintro e w5 ⟨rfl, b5⟩; refine ⟨⟨T4.drew.below b5 T4.lt, hC4.blk.drew.below b5 hC4.blk.lt⟩, ?_⟩); (try simp only [Act.put, List.setIfInBounds_toArray, List.set_cons_zero, List.set_cons_succ]))
  have hHeld5 : Blk w5 pb 75 (ptL l v m st po pr rd rp id ref org rec xmt P1 p1 q1 P2 16 q2 A (n - 12) c P4 12 q4) ∧ Blk w5 bc 100 (clL k0 k1 k2 k3 Ac nc cc N A2c n2c c2c) := ⟨T4.drew.below b5 T4.lt, hC4.blk.drew.below b5 hC4.blk.lt⟩
  (refine wpH_take (i := 6) (v := _) (by simp only [List.getElem?_toArray, List.getElem?_cons_succ, List.getElem?_cons_zero]; rfl) (by kernel_rfl) (by kernel_rfl) (by kernel_rfl) (by intro _ _ _ h; exact h) (Or.inl ⟨by rfl, (by intro w' hSw; (try dsimp only at hSw); go_simp; first | done | with_reducible rfl)⟩) (by assumption) ?_; (try simp only [Act.put, List.setIfInBounds_toArray, List.set_cons_zero, List.set_cons_succ]))
  refine wpH_done (by kernel_rfl) ?_ _
  have T5 := hHeld5.1
  have X5 := X4.drew.below b5 (Nat.le_refl _)
  have OI5 := OI4.drew.below b5 (Nat.le_refl _)
  have J5 := J4.drew.below b5 J4.lt
  have hC5 := hC4.drew.below b5 (Nat.le_refl _)
  have B5 := B4.drew.trans (b5.mono B4.size)
  have z45 : w4.heap.size ≤ w5.heap.size := b5.size
  clear hHeld hHeld5 hPE hP X4 OI4 OA4 hC4 hR4 hD4 J4 T4 b5 B4
  go_wp2_with (first
    | (refine wpl_store (by rfl) 27 _ _ (by rfl) w.heap.size (by rfl) _ (by rfl) _ rfl 27 _ J5 (by rfl) _ sizeNtp (by rfl) (by simp [Value.oneCell']) ?_; intro w6 J6 s6 g6))
  refine bodyPost_ret (res_cxy Tryd.results24 (by rfl) J6 Tryd.underlying27 rfl sizeNtp (by rfl) (by rfl) (by rfl)) rfl ?_
  exact ⟨rfl, B5.trans (g6.below B5.size (Nat.le_refl _))⟩
set_option maxRecDepth 100000 in
set_option maxHeartbeats 8000000 in
theorem acc_none (w : World) {lo bc g1 g2 : Nat} {k0 k1 k2 k3 N : Int} {T : List CkT} {I : List (List Int)} {Ac A2c : Option Addr} {nc cc n2c c2c : Nat} (hC : ClX w lo bc g1 g2 k0 k1 k2 k3 T N I Ac nc cc A2c n2c c2c) (hk2 : U64 k2) (hk3 : U64 k3) (hR : Rnd w) (hn8 : nc ≤ 8) (hn28 : n2c ≤ 8)
    (A : Option Addr) (n c : Nat) (b : List Int) (hn : b.length = n) (h : Bs w 0 w.heap.size A b) (hnc : n ≤ c) (hc : c ≤ 9223372036854775807) (hm : n ≤ 1000000) (hE : spE b = 0) (l v m st po pr rd rp id ref org rec xmt : Int) (hV : dcV b = ntp l v m st po pr rd rp id ref org rec xmt) (hT : prvB k2 k3 (spB b) (spA b) = true) (hF : fiI I (spI b) = -1) :
    Calls Tryd.prog 24 #[.pointer (some ⟨bc, 0, none⟩), .slice A n c] w fun e w' => e = .returned (.tuple #[ntp0, .slice none 0 0, .int .i64 11]) ∧ Below w.heap.size w w' := by
  have hS := fun W hB => split_ok A n c b W hn hB hnc hc hm hE l v m st po pr rd rp id ref org rec xmt hV
  obtain ⟨hI16, hA12⟩ : (spI b).length = 16 ∧ (spA b).length = 12 := by
    rcases spE_cases b with ⟨h1, h2⟩ | ⟨h1, h2, h3⟩ | ⟨h1, h2, h3, h4⟩ | ⟨h1, h2, h3, h4, h5⟩
    · exact absurd (h2.symm.trans hE) h1
    · exact absurd (h3.symm.trans hE) h2
    · rw [h4] at hE; cases hE
    · exact ⟨h4, h3⟩
  have hDl := spB_len hn
  have hDb : Bs w 0 w.heap.size A (spB b) := h.take _
  have hP := fun A1 n1 c1 A2 n2 c2 A4 c4 W h3 h4 hc4 hcc4 hR => proved_any l v m st po pr rd rp id ref org rec xmt A1 n1 c1 A2 n2 c2 A (n - 12) c A4 c4 k2 k3 (spB b) (spA b) W hDl h3 (by omega) (by omega) hc hA12 h4 hc4 hcc4 hk2 hk3 hR
  generalize hPV : prvB k2 k3 (spB b) (spA b) = PV at hP
  generalize spB b = D at hP hDb
  generalize hID : spI b = ID at hS hI16
  generalize spA b = AU at hS hP hA12
  have hL16 := spL_len h.byt
  generalize hLL : spL b = L at hS hL16
  have hHI := Lib.hid hI16
  have hHA := Lib.hid hA12
  have HID := Lib.hid hID
  have HLL := Lib.hid hLL
  have HPV := Lib.hid hPV
  clear hE hV hn hI16 hA12 hDl hID hLL hPV
  have hPV' : PV = true := HPV.out.symm.trans hT
  subst hPV'
  rw [HID.out] at hF
  have HF := Lib.hid hF
  clear hF
  clear hT HPV
  go_enter Tryd.func24, Tryd.ntmps24
  go_wp2_with (first
    | (refine wpl_alloc (by rfl) 27 (by rfl) (.agg (zN).toArray) (zN) zeroNtp rfl ?_; intro w1 J1 s1 b1)
    | (go_at_call 30; ((with_reducible refine (hS _ ((h.below b1 (Nat.le_refl _)).wide (Nat.le_refl _) b1.size)).mono ?_); rintro e w2 ⟨P1, p1, q1, P2, q2, P4, q4, rfl, hL1, X2, OI2, OA2, b2⟩; (have J2 := J1.below b2 (by omega)); (have B2 := b1.trans (b2.mono b1.size))))
    | ((refine wpl_alloc (by rfl) 75 (by rfl) (.agg (ptZ).toArray) (ptZ) zeroPt rfl ?_; intro w3 T3 s3 b3); (have J3 := J2.below b3 J2.lt); (have B3 := B2.trans (b3.mono B2.size)))
    | ((refine wpl_store (by rfl) 75 _ _ (by rfl) w2.heap.size (by rfl) _ (by rfl) _ rfl 75 _ T3 (by rfl) _ sizePt (by rfl) (by simp [Value.oneCell']) ?_; intro w4 T4 s4 g4); (have J4 := J3.but g4 (Nat.ne_of_lt J2.lt)); (have B4 := B3.trans (g4.below B3.size B2.size)); (have hl12 : w.heap.size < w1.heap.size := J1.lt)))
  have B24 : Below w2.heap.size w2 w4 := b3.trans (g4.below (Nat.le_of_lt s3) (Nat.le_refl _))
  have X4 := X2.below B24 (Nat.le_refl _)
  have OI4 := OI2.below B24 (Nat.le_refl _)
  have OA4 := OA2.below B24 (Nat.le_refl _)
  have hC4 := hC.below B4 (Nat.le_refl _)
  have hR4 := hR.below B4 hR.lt
  have hD4 := (hDb.below B4 (Nat.le_refl _)).wide (Nat.le_refl _) B4.size
  have z12 := b2.size
  have zq2 := OI2.cap_le
  have zq4 := OA2.cap_le
  have zm4 := OA2.cap_max
  rw [hHI.out] at zq2
  rw [hHA.out] at zq4
  have z24 := T4.lt
  clear b1 b2 b3 g4 B2 B3 X2 OI2 OA2 J1 J2 J3 T3 hS s1 s3 s4 B24
  generalize hpb : w2.heap.size = pb at *
  refine wp_region_heldL (fun y => Blk y pb 75 (ptL l v m st po pr rd rp id ref org rec xmt P1 p1 q1 P2 16 q2 A (n - 12) c P4 12 q4) ∧ Blk y bc 100 (clL k0 k1 k2 k3 Ac nc cc N A2c n2c c2c)) 7 (by kernel_rfl) rfl ⟨T4.drew, hC4.blk.drew⟩ fun hHeld => ?_
  simp only [List.replicate]
  refine wpH_take (i := 0) (v := .agg (ptL l v m st po pr rd rp id ref org rec xmt P1 p1 q1 P2 16 q2 A (n - 12) c P4 12 q4).toArray) (by simp only [List.getElem?_toArray, List.getElem?_cons_succ, List.getElem?_cons_zero]; rfl) (by kernel_rfl) (by kernel_rfl) (by kernel_rfl) (by intro _ _ _ h; exact h) (yieldsIf_load_mid (by rfl) 75 _ (by rfl) pb 0 (by rfl) (ptL l v m st po pr rd rp id ref org rec xmt P1 p1 q1 P2 16 q2 A (n - 12) c P4 12 q4) _ (fun w' h => h.1.range) Tryd.underlying75 rfl sizePt) (by assumption) ?_
  (try simp only [Act.put, List.setIfInBounds_toArray, List.set_cons_zero, List.set_cons_succ])
  (refine wpH_take (i := 1) (v := _) (by simp only [List.getElem?_toArray, List.getElem?_cons_succ, List.getElem?_cons_zero]; rfl) (by kernel_rfl) (by kernel_rfl) (by kernel_rfl) (by intro _ _ _ h; exact h) (Or.inl ⟨by rfl, (by intro w' hSw; (try dsimp only at hSw); go_simp; first | done | with_reducible rfl)⟩) (by assumption) ?_; (try simp only [Act.put, List.setIfInBounds_toArray, List.set_cons_zero, List.set_cons_succ]))
  (refine wpH_take (i := 2) (v := _) (by simp only [List.getElem?_toArray, List.getElem?_cons_succ, List.getElem?_cons_zero]; rfl) (by kernel_rfl) (by kernel_rfl) (by kernel_rfl) (by intro _ _ _ h; exact h) (Or.inl ⟨by rfl, (by intro w' hSw; (try dsimp only at hSw); go_simp; first | done | with_reducible rfl)⟩) (by assumption) ?_; (try simp only [Act.put, List.setIfInBounds_toArray, List.set_cons_zero, List.set_cons_succ]))
  (refine wpH_take (i := 3) (v := _) (by simp only [List.getElem?_toArray, List.getElem?_cons_succ, List.getElem?_cons_zero]; rfl) (by kernel_rfl) (by kernel_rfl) (by kernel_rfl) (by intro _ _ _ h; exact h) (Or.inl ⟨by rfl, (by intro w' hSw; (try dsimp only at hSw); go_simp; first | done | with_reducible rfl)⟩) (by assumption) ?_; (try simp only [Act.put, List.setIfInBounds_toArray, List.set_cons_zero, List.set_cons_succ]))
  refine wpH_take (i := 4) (v := .agg (keyL k2 k3).toArray) (by simp only [List.getElem?_toArray, List.getElem?_cons_succ, List.getElem?_cons_zero]; rfl) (by kernel_rfl) (by kernel_rfl) (by kernel_rfl) (by intro _ _ _ h; exact h) (yieldsIf_load_mid (by rfl) 29 _ (by rfl) bc 2 (by rfl) (keyL k2 k3) _ (fun w' h => Blk.mid h.2 2 (keyL k2 k3) rfl) Tryd.underlying29 rfl sizeKey) (by assumption) ?_
  (try simp only [Act.put, List.setIfInBounds_toArray, List.set_cons_zero, List.set_cons_succ])
  have hPE := hP P1 p1 q1 P2 16 q2 P4 q4 w4.drew hD4.drew ((OA4.bs.wide (Nat.zero_le _) (Nat.le_refl _)).drew) zq4 zm4 hR4.drew
  (refine wpH_one (i := 5) (by simp only [List.getElem?_toArray, List.getElem?_cons_succ, List.getElem?_cons_zero]; rfl) (by kernel_rfl) (by rfl) ?_; (go_simp; (with_reducible refine hPE.mono ?_); rintro e w5 ⟨rfl, b5⟩; refine ⟨⟨T4.drew.below b5 T4.lt, hC4.blk.drew.below b5 hC4.blk.lt⟩, ?_⟩); (try simp only [Act.put, List.setIfInBounds_toArray, List.set_cons_zero, List.set_cons_succ]))
  have hHeld5 : Blk w5 pb 75 (ptL l v m st po pr rd rp id ref org rec xmt P1 p1 q1 P2 16 q2 A (n - 12) c P4 12 q4) ∧ Blk w5 bc 100 (clL k0 k1 k2 k3 Ac nc cc N A2c n2c c2c) := ⟨T4.drew.below b5 T4.lt, hC4.blk.drew.below b5 hC4.blk.lt⟩
  (refine wpH_take (i := 6) (v := _) (by simp only [List.getElem?_toArray, List.getElem?_cons_succ, List.getElem?_cons_zero]; rfl) (by kernel_rfl) (by kernel_rfl) (by kernel_rfl) (by intro _ _ _ h; exact h) (Or.inl ⟨by rfl, (by intro w' hSw; (try dsimp only at hSw); go_simp; first | done | with_reducible rfl)⟩) (by assumption) ?_; (try simp only [Act.put, List.setIfInBounds_toArray, List.set_cons_zero, List.set_cons_succ]))
  refine wpH_done (by kernel_rfl) ?_ _
  have T5 := hHeld5.1
  have X5 := X4.drew.below b5 (Nat.le_refl _)
  have OI5 := OI4.drew.below b5 (Nat.le_refl _)
  have J5 := J4.drew.below b5 J4.lt
  have hC5 := hC4.drew.below b5 (Nat.le_refl _)
  have B5 := B4.drew.trans (b5.mono B4.size)
  have z45 : w4.heap.size ≤ w5.heap.size := b5.size
  clear hHeld hHeld5 hPE hP X4 OI4 OA4 hC4 hR4 hD4 J4 T4 b5 B4
  have hFi := find_id w5 hC5 P2 q2 ID hHI.out (OI5.bs.wide (Nat.zero_le _) (Nat.le_refl _)) (by omega)
  rw [HF.out] at hFi
  go_wp2_with (first
    | (refine wpl_loadf (by rfl) 23 _ (by rfl) pb 14 (by rfl) _ _ T5 _ rfl _ Tryd.underlying23 rfl ?_)
    | (go_at_call 49; ((with_reducible refine hFi.mono ?_); rintro e w6 ⟨rfl, b6⟩; (have J6 := J5.below b6 J5.lt); (have T6 := T5.below b6 T5.lt); (have B6 := B5.trans (b6.mono B5.size))))
    | (refine wpl_store (by rfl) 27 _ _ (by rfl) w.heap.size (by rfl) _ (by rfl) _ rfl 27 _ J6 (by rfl) _ sizeNtp (by rfl) (by simp [Value.oneCell']) ?_; intro w7 J7 s7 g7))
  refine bodyPost_ret (res_cxy Tryd.results24 (by rfl) J7 Tryd.underlying27 rfl sizeNtp (by rfl) (by rfl) (by rfl)) rfl ?_
  exact ⟨rfl, B6.trans (g7.below B6.size (Nat.le_refl _))⟩
end Go.Proofs.YtachhbbofemfdaaDoor
namespace Go.Proofs.YtachhbbofemfdaaDoor
open Go.RowKit
set_option linter.unusedSimpArgs false
set_option linter.unusedVariables false
set_option maxRecDepth 100000
section
variable {P : Program} {o : Oper} {a : Act} {w : World} {K : Act → World → Prop} {Q : Exit → Act → World → Prop}
theorem wp_alloc1 (T : TypeId) (ho : o.op = .alloc T) (z : Value) (zs : List Value) (hi : (P.info? T).map (·.zero) = some (some z)) (hc : z.cells = zs.toArray)
    (h : ∀ w', Blk w' w.heap.size T zs → w.heap.size < w'.heap.size → Below w.heap.size w w' → K (a.put o.dst (.pointer (some ⟨w.heap.size, 0, none⟩))) w') : o.wp P a w K Q := by
  cases hq : P.info? T with
  | none => simp [hq] at hi
  | some i =>
    have hz : i.zero = z := by simpa [hq] using hi
    have hr : (Instr.alloc T true (.tuple #[])).run P w = .ok (.pointer (some ⟨w.heap.size, 0, none⟩)) (w.alloc (.cells zs.toArray T)) := by
      simp [Instr.alloc, zeroValue, typeInfo, Sem.run_bind, hq, hz, newVar, newRow, hc]
    unfold Oper.wp execOp
    simp only [ho, Sem.run_bind, hr, Result.andThen_ok, Sem.run_pure]
    exact h _ (Blk.new w T _ zs rfl) (by simp) ((Below.refl _ w).alloc (Nat.le_refl _) _)
theorem wp_store1 (T : TypeId) (x y : Operand) (ho : o.op = .store T x y) (b : Nat) (hx : a.eval x = .pointer (some ⟨b, 0, none⟩)) (cells : Array Value) (hy : a.eval y = .agg cells) (cs : List Value) (hc : cells = cs.toArray) (t : TypeId) (ds : List Value) (hB : Blk w b t ds)
    (hl : ds.length = cs.length) (n : Nat) (hi : (P.info? T).map (·.size) = some n) (hn : cs.length = n) (h1 : ∀ v ∈ cs, v.oneCell' = true)
    (h : ∀ w', Blk w' b t cs → w.heap.size ≤ w'.heap.size → But b w w' → K (a.put o.dst undef) w') : o.wp P a w K Q := by
  subst hc hn
  exact wp_store_mid T x y ho b 0 cs.toArray hx hy (by have := hB.there; rw [hl] at this; simpa using this) (by simpa using hi) (all_oneCell_toArray h1) (h _ (hB.stored cs hl) (Nat.le_of_eq (size_setCells _ _ _ _).symm) (but_setCells _ _ _ (World.grownBy.refl w _)))
end
end Go.Proofs.YtachhbbofemfdaaDoor
