/- GuardWaits (P47.2, P47.3): the walk, for each of its three courses. -/
import Derived.Test.YtachhbbofemfdaaDoorGWz3
namespace Go.Proofs.YtachhbbofemfdaaDoor
open Go.RowKit
set_option linter.unusedSimpArgs false
set_option linter.unusedVariables false
set_option maxRecDepth 100000
open Go.RowKit
set_option maxRecDepth 100000 in
set_option maxHeartbeats 16000000 in
theorem waits_one (k0 k1 k2 k3 s f : Int) (w : World) (d1 : (f % 3 == 1) = true) (hk0 : U64 k0) (hk1 : U64 k1) (hk2 : U64 k2) (hk3 : U64 k3) (hs : U64 s) (hf : 0 ≤ f ∧ f ≤ 255) (hR : Rnd w) :
    Calls Tryd.prog 6 #[keyV k0 k1, keyV k2 k3, .int .u64 s, .int .u8 f] w fun e w' => e = .returned (.bool true) ∧ Below w.heap.size w w' := by
  have hw0 := hR.lt
  have hg : Gn 1 := ⟨by omega, by omega⟩
  have hst : staleB 1 1 1 = false := by unfold staleB; rw [decide_eq_false (by omega : ¬ (1 : Int) ≤ 1 - 1)]; decide
  have hop : ∀ x, U64 x → Hid (opV s 1 1 (ckB s 1 x k0 k1 k2 k3) = .tuple #[keyV k0 k1, keyV k2 k3, .int .i64 0]) := fun x hx => by
    show _ = _
    rw [ck_open hg hx hk0 hk1 hk2 hk3, hst]; rfl
  have hSe := fun bj x W (hx : U64 x) hJ hR => seal_any bj s 1 1 k0 k1 k2 k3 x W hs hg hx hk0 hk1 hk2 hk3 hJ hR
  go_enter Tryd.func6, Tryd.ntmps6
  go_wp2_with (first
    | (refine wpl_box (by rfl) 29 _ (by rfl) _ (keyL k0 k1) (by rfl) rfl ?_; intro w1 U1 s1 b1)
    | ((refine wpl_box (by rfl) 29 _ (by rfl) _ (keyL k2 k3) (by rfl) rfl ?_; intro w2 V2 s2 b2); (have U2 := U1.below b2 (by omega)); (have B2 := b1.trans (b2.mono (by omega))))
    | (go_at_call 12; ((with_reducible refine (new_some s 1 _ (by omega) (by omega)).mono ?_); rintro e w5 ⟨rfl, J5, b5⟩; (have U5 := U2.below b5 U2.lt); (have V5 := V2.below b5 V2.lt); (have B5 := B2.trans (b5.mono B2.size)))))
  have R5 := hR.below B5 hw0
  have z14 : w1.heap.size < w2.heap.size := by omega
  have z01 : w.heap.size < w1.heap.size := s1
  clear U1 U2 V2 b1 b2 b5 B2 s1 s2
  generalize hq1 : w1.heap.size = n1 at *
  generalize hq4 : w2.heap.size = bj at *
  clear hq1 hq4
  go_loopw [10, 35] (fun l i wr => ∃ k : Nat, k ≤ 8 ∧ i = .int .i64 k ∧ ∃ g T A n c, l = .slice A n c ∧ CkLs wr bj g T A n c ∧ Hid (n = k) ∧ Hid (∀ t ∈ T, ∃ x, U64 x ∧ t.2.2 = ckB s 1 x k0 k1 k2 k3) ∧ Blk wr w.heap.size 29 (keyL k0 k1) ∧ Blk wr n1 29 (keyL k2 k3) ∧ Blk wr bj 84 (jarL s 1 1) ∧ Rnd wr ∧ Below w.heap.size w wr) (fun _ i _ => 8 - (intOf i).toNat)
  case atStart => exact ⟨0, by omega, rfl, bj, [], none, 0, 0, rfl, CkLs.nil J5.lt, rfl, fun t ht => by (cases ht), U5, V5, J5, R5, B5⟩
  case round =>
    obtain ⟨k, hk, rfl, g, T, A, n, c, rfl, hC, hnk, hT, hU, hV, hJ, hRr, hB⟩ := hrel
    obtain ⟨wo, rfl⟩ : ∃ wo : World, wo = wr := ⟨wr, rfl⟩
    clear U5 V5 J5 R5 B5
    by_cases hlt : k < 8
    · have i0 : (0 : Int) ≤ k := by omega
      have i1 : (k : Int) < 8 := by omega
      have hx : U64 (k : Int) := by unfold U64; omega
      have i3 : IntKind.u64.wrap (k : Int) = k := by rw [IntKind.wrap_u64]; omega
      have hSE := fun W hJ hR => hSe bj k W hx hJ hR
      go_wp2_with (first
        | (refine wpl_load (by rfl) 29 _ (by rfl) w.heap.size (by rfl) 29 _ hU _ Tryd.underlying29 rfl _ sizeKey (by rfl) ?_)
        | (refine wpl_load (by rfl) 29 _ (by rfl) n1 (by rfl) 29 _ hV _ Tryd.underlying29 rfl _ sizeKey (by rfl) ?_))
      have h52 : (ckB s 1 k k0 k1 k2 k3).length = 52 := ckB_len _ _ _ _ _ _ _
      have hSE' := hSE wo hJ hRr
      have hCKe : Hid (∃ x, U64 x ∧ ckB s 1 k k0 k1 k2 k3 = ckB s 1 x k0 k1 k2 k3) := ⟨k, hx, rfl⟩
      have i2 : IntKind.i64.wrap ((k : Int) + 1) = (k : Int) + 1 := IntWalk.i64_in _ (by omega)
      generalize ckB s 1 k k0 k1 k2 k3 = CK at hSE' hCKe h52
      with_reducible refine hSE'.mono ?_
      rintro e w6 ⟨A6, c6, rfl, O6, b6⟩
      obtain ⟨g6, rfl, hg6a, hg6b⟩ : ∃ g6, A6 = some ⟨g6, 0, none⟩ ∧ wo.heap.size ≤ g6 ∧ g6 < w6.heap.size := by
        rcases O6.form with ⟨_, e, _⟩ | ⟨g, e1, e2, e3⟩
        · rw [e] at h52; cases h52
        · exact ⟨g, e1, e2, e3⟩
      have hn8 : n ≤ 8 := by have := hnk.out; omega
      have hgl := hC.lt
      have hbl := hJ.lt
      have C6 := hC.below b6 (Nat.le_refl _)
      have U6 := hU.below b6 hU.lt
      have V6 := hV.below b6 hV.lt
      have J6 := hJ.below b6 hJ.lt
      have R6 := hRr.below b6 hRr.lt
      have B6 := hB.trans (b6.mono hB.size)
      clear hSE' hSE hC hU hV hJ hRr hB b6
      have zU := U6.lt
      have zV := V6.lt
      have zJ := J6.lt
      have bA : Below w6.heap.size w6 (w6.alloc (.cells #[.slice (some ⟨g6, 0, none⟩) 52 c6] 23)) := (Below.refl _ w6).alloc (Nat.le_refl _) _
      have CA := C6.below bA (Nat.le_refl _)
      have OA := O6.below bA (Nat.le_refl _)
      have UA := U6.below bA U6.lt
      have VA := V6.below bA V6.lt
      have JA := J6.below bA J6.lt
      have RA := R6.below bA R6.lt
      have BA := B6.trans (bA.mono B6.size)
      have NA := Blk.new w6 23 #[.slice (some ⟨g6, 0, none⟩) 52 c6] [.slice (some ⟨g6, 0, none⟩) 52 c6] rfl
      clear C6 O6 U6 V6 J6 R6 B6 bA
      go_wp2_with (first
        | (refine wpl_append_rw (by rfl) 51 23 (.slice none 0 0) 24 (.tmp 38) (.tmp 45) (by rfl) Tryd.underlying51 infoSl (by rfl) (by omega) (by rfl) CA.row ⟨w6.heap.size, 0, none⟩ 1 1 [.slice (some ⟨g6, 0, none⟩) 52 c6] (by rfl) rfl (by omega) (cells2_of NA) (by simp [Value.oneCell']) (by omega) (by omega) (by have := JA.lt; intro k hk; rw [List.mem_singleton.1 hk]; exact this) ?_; intro g9 A9 c9 w9 R9 K9 G9 L9))
      have hdu := fun {q : Nat} (hq : q ≤ bj) => CA.fp hq
      have C9 : CkLs w9 bj g9 (T ++ [(g6, c6, CK)]) A9 (n + 1) c9 := CkLs.push (t := (g6, c6, CK)) CA (OA.wide (by omega)) h52 (by show g6 ≠ g; omega) (by
          rw [show ckV (g6, c6, CK) = .slice (some ⟨g6, 0, none⟩) 52 c6 from by show Value.slice _ CK.length _ = _; rw [h52]]; exact R9) K9 G9 L9
      have hU9 := K9.blk UA (hdu (by omega))
      have hV9 := K9.blk VA (hdu (by omega))
      have hJ9 := K9.blk JA (hdu (Nat.le_refl _))
      have hR9 := K9.rnd RA (hdu (by omega))
      have hB9 : Below w.heap.size w w9 := K9.toBelow BA BA.size (fun q hq => by
        obtain ⟨hc, rfl⟩ := fp_mem hq
        have := CA.lo1
        omega)
      have hnk9 : Hid (n + 1 = k + 1) := by show _ = _; rw [hnk.out]
      have hT9 : Hid (∀ t ∈ T ++ [(g6, c6, CK)], ∃ x, U64 x ∧ t.2.2 = ckB s 1 x k0 k1 k2 k3) := fun t ht => by
        rw [List.mem_append] at ht
        rcases ht with ht | ht
        · exact hT.out t ht
        · rw [List.mem_singleton.1 ht]; exact hCKe.out
      exact ⟨⟨k + 1, by omega, by go_num, g9, _, A9, n + 1, c9, rfl, C9, hnk9, hT9, hU9, hV9, hJ9, hR9, hB9⟩, by simp [intOf]; omega⟩
    · obtain rfl : k = 8 := by omega
      go_wp2_with (first
        | (refine wpl_load (by rfl) 29 _ (by rfl) w.heap.size (by rfl) 29 _ hU _ Tryd.underlying29 rfl _ sizeKey (by rfl) ?_)
        | (refine wpl_load (by rfl) 29 _ (by rfl) n1 (by rfl) 29 _ hV _ Tryd.underlying29 rfl _ sizeKey (by rfl) ?_))
      have hnk' := hnk.out
      obtain ⟨M, hMe⟩ : ∃ M, T.map (fun t : CkT => t.2.2) = M := ⟨_, rfl⟩
      have hML : M.length = n := by rw [← hMe, List.length_map]; exact hC.tn
      have hMo : Hid (∀ d ∈ M, opV s 1 1 d = .tuple #[keyV k0 k1, keyV k2 k3, .int .i64 0]) := fun d hd => by
        rw [← hMe] at hd
        obtain ⟨t, ht, rfl⟩ := List.mem_map.1 hd
        obtain ⟨x, hx, e⟩ := hT.out t ht
        show opV s 1 1 t.2.2 = _
        rw [e]; exact (hop x hx).out
      have hM52 : ∀ d ∈ M, d.length = 52 := fun d hd => by
        rw [← hMe] at hd
        obtain ⟨t, ht, rfl⟩ := List.mem_map.1 hd
        exact (hC.ck t ht).2
      have hLs := hC.ls
      rw [hMe] at hLs
      have hNC := cnew k0 k1 k2 k3 A n c M wo (by omega) hML hLs hC.row.2.1 hM52
      with_reducible refine hNC.mono ?_
      rintro e w8 ⟨bc, G, rfl, C8, b8⟩
      have U8 : BlG w8 G w.heap.size 29 (keyL k0 k1) := ⟨hU.below b8 hU.lt, C8.low hU.lt⟩
      have V8 : BlG w8 G n1 29 (keyL k2 k3) := ⟨hV.below b8 hV.lt, C8.low hV.lt⟩
      have J8 : BlG w8 G bj 84 (jarL s 1 1) := ⟨hJ.below b8 hJ.lt, C8.low hJ.lt⟩
      have R8 := hRr.below b8 hRr.lt
      have B8 := hB.trans (b8.mono hB.size)
      have hlo : 0 < wo.heap.size := hRr.lt
      have hlow : w.heap.size ≤ wo.heap.size := hB.size
      rw [hnk'] at hML
      have hSf := hSe
      clear hNC hLs hMe hM52 hC hU hV hJ hRr hB b8 hT hnk hnk' hlt hk hSe
      generalize wo.heap.size = lo at *
      go_wp2_with fail
      have hS9 := fun W hJ hR => hSf bj 99 W (by unfold U64; omega) hJ hR
      have hS8 := fun W hJ hR => hSf bj 98 W (by unfold U64; omega) hJ hR
      have a52 : (ckB s 1 99 k0 k1 k2 k3).length = 52 := ckB_len _ _ _ _ _ _ _
      have ab : Byt (ckB s 1 99 k0 k1 k2 k3) := ckB_byt _ _ _ _ _ _ _
      have e52 : (ckB s 1 98 k0 k1 k2 k3).length = 52 := ckB_len _ _ _ _ _ _ _
      have eb : Byt (ckB s 1 98 k0 k1 k2 k3) := ckB_byt _ _ _ _ _ _ _
      have aop := hop 99 (by unfold U64; omega)
      have eop := hop 98 (by unfold U64; omega)
      generalize ckB s 1 99 k0 k1 k2 k3 = ca at hS9 a52 ab aop
      generalize ckB s 1 98 k0 k1 k2 k3 = cb at hS8 e52 eb eop
      refine wp_region_heldL (fun y => Blk y w.heap.size 29 (keyL k0 k1) ∧ Blk y n1 29 (keyL k2 k3)) 12 (by kernel_rfl) rfl ⟨U8.1.drew, V8.1.drew⟩ fun hHeld => ?_
      simp only [List.replicate]
      (refine wpH_take (i := 0) (v := _) (by simp only [List.getElem?_toArray, List.getElem?_cons_succ, List.getElem?_cons_zero]; rfl) (by kernel_rfl) (by kernel_rfl) (by kernel_rfl) (by intro _ _ _ h; exact h) (Or.inl ⟨by rfl, (by intro w' hSw; (try dsimp only at hSw); go_simp; first | done | with_reducible rfl)⟩) (by assumption) ?_; (try simp only [Act.put, List.setIfInBounds_toArray, List.set_cons_zero, List.set_cons_succ]))
      refine wpH_take (i := 1) (v := .agg (keyL k0 k1).toArray) (by simp only [List.getElem?_toArray, List.getElem?_cons_succ, List.getElem?_cons_zero]; rfl) (by kernel_rfl) (by kernel_rfl) (by kernel_rfl) (by intro _ _ _ h; exact h) (yieldsIf_load_mid (by rfl) 29 _ (by rfl) w.heap.size 0 (by rfl) (keyL k0 k1) _ (fun w' h => h.1.range) Tryd.underlying29 rfl sizeKey) (by assumption) ?_
      (try simp only [Act.put, List.setIfInBounds_toArray, List.set_cons_zero, List.set_cons_succ])
      refine wpH_take (i := 2) (v := .agg (keyL k2 k3).toArray) (by simp only [List.getElem?_toArray, List.getElem?_cons_succ, List.getElem?_cons_zero]; rfl) (by kernel_rfl) (by kernel_rfl) (by kernel_rfl) (by intro _ _ _ h; exact h) (yieldsIf_load_mid (by rfl) 29 _ (by rfl) n1 0 (by rfl) (keyL k2 k3) _ (fun w' h => h.2.range) Tryd.underlying29 rfl sizeKey) (by assumption) ?_
      (try simp only [Act.put, List.setIfInBounds_toArray, List.set_cons_zero, List.set_cons_succ])
      (refine wpH_take (i := 5) (v := _) (by simp only [List.getElem?_toArray, List.getElem?_cons_succ, List.getElem?_cons_zero]; rfl) (by kernel_rfl) (by kernel_rfl) (by kernel_rfl) (by intro _ _ _ h; exact h) (Or.inl ⟨by rfl, (by intro w' hSw; (try dsimp only at hSw); go_simp; first | done | with_reducible rfl)⟩) (by assumption) ?_; (try simp only [Act.put, List.setIfInBounds_toArray, List.set_cons_zero, List.set_cons_succ]))
      refine wpH_take (i := 6) (v := .agg (keyL k0 k1).toArray) (by simp only [List.getElem?_toArray, List.getElem?_cons_succ, List.getElem?_cons_zero]; rfl) (by kernel_rfl) (by kernel_rfl) (by kernel_rfl) (by intro _ _ _ h; exact h) (yieldsIf_load_mid (by rfl) 29 _ (by rfl) w.heap.size 0 (by rfl) (keyL k0 k1) _ (fun w' h => h.1.range) Tryd.underlying29 rfl sizeKey) (by assumption) ?_
      (try simp only [Act.put, List.setIfInBounds_toArray, List.set_cons_zero, List.set_cons_succ])
      refine wpH_take (i := 7) (v := .agg (keyL k2 k3).toArray) (by simp only [List.getElem?_toArray, List.getElem?_cons_succ, List.getElem?_cons_zero]; rfl) (by kernel_rfl) (by kernel_rfl) (by kernel_rfl) (by intro _ _ _ h; exact h) (yieldsIf_load_mid (by rfl) 29 _ (by rfl) n1 0 (by rfl) (keyL k2 k3) _ (fun w' h => h.2.range) Tryd.underlying29 rfl sizeKey) (by assumption) ?_
      (try simp only [Act.put, List.setIfInBounds_toArray, List.set_cons_zero, List.set_cons_succ])
      have hE1 := hS9 w8.drew J8.1.drew R8.drew
      (refine wpH_one (i := 3) (by simp only [List.getElem?_toArray, List.getElem?_cons_succ, List.getElem?_cons_zero]; rfl) (by kernel_rfl) (by rfl) ?_; (go_simp; (with_reducible refine hE1.mono ?_); rintro e w9 ⟨A6, c6, rfl, O9, b9⟩; refine ⟨⟨U8.1.drew.below b9 U8.1.lt, V8.1.drew.below b9 V8.1.lt⟩, ?_⟩); (try simp only [Act.put, List.setIfInBounds_toArray, List.set_cons_zero, List.set_cons_succ]))
      have hH9 : Blk w9 w.heap.size 29 (keyL k0 k1) ∧ Blk w9 n1 29 (keyL k2 k3) := ⟨U8.1.drew.below b9 U8.1.lt, V8.1.drew.below b9 V8.1.lt⟩
      have b9' : Below w8.heap.size w8 w9 := (Below.refl _ w8).drew.trans b9
      have U9 := U8.below b9'
      have V9 := V8.below b9'
      have J9 := J8.below b9'
      have C9 := C8.below b9'
      have R9 := R8.below b9' R8.lt
      have B9 := B8.trans (b9'.mono B8.size)
      (refine wpH_take (i := 4) (v := _) (by simp only [List.getElem?_toArray, List.getElem?_cons_succ, List.getElem?_cons_zero]; rfl) (by kernel_rfl) (by kernel_rfl) (by kernel_rfl) (by intro _ _ _ h; exact h) (Or.inl ⟨by rfl, (by intro w' hSw; (try dsimp only at hSw); go_simp; first | done | with_reducible rfl)⟩) (by assumption) ?_; (try simp only [Act.put, List.setIfInBounds_toArray, List.set_cons_zero, List.set_cons_succ]))
      have hE2 := hS8 w9 J9.1 R9
      (refine wpH_one (i := 8) (by simp only [List.getElem?_toArray, List.getElem?_cons_succ, List.getElem?_cons_zero]; rfl) (by kernel_rfl) (by rfl) ?_; (go_simp; (with_reducible refine hE2.mono ?_); rintro e w10 ⟨A7, c7, rfl, O10, b10⟩; refine ⟨⟨hH9.1.below b10 hH9.1.lt, hH9.2.below b10 hH9.2.lt⟩, ?_⟩); (try simp only [Act.put, List.setIfInBounds_toArray, List.set_cons_zero, List.set_cons_succ]))
      have hH10 : Blk w10 w.heap.size 29 (keyL k0 k1) ∧ Blk w10 n1 29 (keyL k2 k3) := ⟨hH9.1.below b10 hH9.1.lt, hH9.2.below b10 hH9.2.lt⟩
      have U10 := U9.below b10
      have V10 := V9.below b10
      have J10 := J9.below b10
      have C10 := C9.below b10
      have R10 := R9.below b10 R9.lt
      have B10 := B9.trans (b10.mono B9.size)
      have O9' := O9.below b10 (Nat.le_refl _)
      (refine wpH_take (i := 9) (v := _) (by simp only [List.getElem?_toArray, List.getElem?_cons_succ, List.getElem?_cons_zero]; rfl) (by kernel_rfl) (by kernel_rfl) (by kernel_rfl) (by intro _ _ _ h; exact h) (Or.inl ⟨by rfl, (by intro w' hSw; (try dsimp only at hSw); go_simp; first | done | with_reducible rfl)⟩) (by assumption) ?_; (try simp only [Act.put, List.setIfInBounds_toArray, List.set_cons_zero, List.set_cons_succ]))
      (refine wpH_one (i := 10) (by simp only [List.getElem?_toArray, List.getElem?_cons_succ, List.getElem?_cons_zero]; rfl) (by kernel_rfl) (by rfl) ?_; (go_simp; refine ⟨⟨hH10.1.old, hH10.2.old⟩, ?_⟩); (try simp only [Act.put, List.setIfInBounds_toArray, List.set_cons_zero, List.set_cons_succ]))
      obtain ⟨w11, hw11⟩ : ∃ w11, w11 = w10.alloc (.cells #[.int .i64 772, .slice A6 52 c6, .int .i64 772, .slice A7 52 c7] 62) := ⟨_, rfl⟩
      rw [← hw11]
      have b11 : Below w10.heap.size w10 w11 := by rw [hw11]; exact (Below.refl _ _).alloc (Nat.le_refl _) _
      have N11 : Blk w11 w10.heap.size 62 [.int .i64 772, .slice A6 52 c6, .int .i64 772, .slice A7 52 c7] := by rw [hw11]; exact Blk.new w10 _ _ _ rfl
      clear hw11
      have U11 := U10.below b11
      have V11 := V10.below b11
      have J11 := J10.below b11
      have C11 := C10.below b11
      have R11 := R10.below b11 R10.lt
      have B11 := B10.trans (b11.mono B10.size)
      obtain ⟨r6, rfl, hr6a, hr6b⟩ : ∃ r6, A6 = some ⟨r6, 0, none⟩ ∧ w8.heap.size ≤ r6 ∧ r6 < w9.heap.size := by
        rcases O9.form with ⟨_, e, _⟩ | ⟨g, e1, e2, e3⟩
        · rw [e] at a52; cases a52
        · exact ⟨g, e1, e2, e3⟩
      obtain ⟨r7, rfl, hr7a, hr7b⟩ : ∃ r7, A7 = some ⟨r7, 0, none⟩ ∧ w9.heap.size ≤ r7 ∧ r7 < w10.heap.size := by
        rcases O10.form with ⟨_, e, _⟩ | ⟨g, e1, e2, e3⟩
        · rw [e] at e52; cases e52
        · exact ⟨g, e1, e2, e3⟩
      have z89 := b9'.size
      have z910 := b10.size
      have X11 : X2 w11 G w10.heap.size ca cb := ⟨r6, c6, r7, c7, ⟨N11, fun hm => by have := (C8.rng _ hm).2; omega⟩, ⟨(O9'.below b11 (Nat.le_refl _)).wide (Nat.zero_le _), fun hm => by have := (C8.rng r6 hm).2; omega⟩, ⟨(O10.below b11 (Nat.le_refl _)).wide (Nat.zero_le _), fun hm => by have := (C8.rng r7 hm).2; omega⟩⟩
      have hH11 : Blk w11 w.heap.size 29 (keyL k0 k1) ∧ Blk w11 n1 29 (keyL k2 k3) := ⟨U11.1, V11.1⟩
      (refine wpH_take (i := 11) (v := _) (by simp only [List.getElem?_toArray, List.getElem?_cons_succ, List.getElem?_cons_zero]; rfl) (by kernel_rfl) (by kernel_rfl) (by kernel_rfl) (by intro _ _ _ h; exact h) (Or.inl ⟨by rfl, (by intro w' hSw; (try dsimp only at hSw); go_simp; first | done | with_reducible rfl)⟩) (by assumption) ?_; (try simp only [Act.put, List.setIfInBounds_toArray, List.set_cons_zero, List.set_cons_succ]))
      refine wpH_done (by kernel_rfl) ?_ _
      clear hHeld hE1 hE2 hH9 hH10 hH11 U8 V8 J8 C8 R8 B8 U9 V9 J9 C9 R9 B9 U10 V10 J10 C10 R10 B10 O9 O9' O10 b9 b9' b10 b11 N11 hS9 hS8 hr6a hr6b hr7a hr7b z89 z910
      generalize w10.heap.size = be at *
      go_wp2_with fail
      have hae : w8.heap.size ≤ w8.heap.size := Nat.le_refl _
      have hcr := fun i (hi : i < 9) => crs_facts 1 (by omega) i hi
      go_loopw [13, 70] (fun l i wr => ∃ k : Nat, k ≤ 9 ∧ i = .int .i64 k ∧ ∃ T A n c G CK, l = .slice A n c ∧ RpLs wr lo G T A n c ∧ Hid (n = k) ∧ Hid (∀ j t, T[j]? = some t → ∃ ck, ck.length = 52 ∧ Byt ck ∧ opV s 1 1 ck = .tuple #[keyV k0 k1, keyV k2 k3, .int .i64 0] ∧ t.2.2 = rpM (idN j) ck (twoL ca cb) k2 k3) ∧ Cli wr lo bc G k0 k1 k2 k3 CK k ((wtS 0 k).map idN) ∧ Hid (CK.length = ckS 0 k) ∧ Hid (∀ d ∈ CK, opV s 1 1 d = .tuple #[keyV k0 k1, keyV k2 k3, .int .i64 0]) ∧ BlG wr G w.heap.size 29 (keyL k0 k1) ∧ BlG wr G n1 29 (keyL k2 k3) ∧ BlG wr G bj 84 (jarL s 1 1) ∧ X2 wr G be ca cb ∧ Rnd wr ∧ Below w.heap.size w wr) (fun _ i _ => 9 - (intOf i).toNat)
      case atStart => exact ⟨0, by omega, rfl, [], none, 0, 0, G, M, rfl, RpLs.nil _ _ _, rfl, (fun j t ht => by simp at ht), C11, hML, hMo, U11, V11, J11, X11, R11, B11⟩
      case round =>
        obtain ⟨k, hk, rfl, T, A, n, c, G, CK, rfl, L0, hnk, hT, C0, hCL, hCo, U0, V0, J0, X0, R0, B0⟩ := hrel
        clear C11 hML hMo U11 V11 J11 X11 R11 B11
        by_cases hlt : k < 9
        · obtain ⟨hf1, hf2, hf3, hf4⟩ : 1 ≤ ckS 0 k ∧ ckS 0 k ≤ 8 ∧ (wtS 0 k).length ≤ 8 ∧ (∀ x ∈ wtS 0 k, x < k) := hcr k hlt
          obtain ⟨c0, CK', rfl⟩ : ∃ c0 CK', CK = c0 :: CK' := by
            rcases CK with _ | ⟨c0, CK'⟩
            · have := hCL.out; simp at this; omega
            · exact ⟨c0, CK', rfl⟩
          have hCl : Hid (CK'.length + 1 = ckS 0 k) := by
            show _ = _
            simpa using hCL.out
          have hl8 : CK'.length + 1 ≤ 8 := by have := hCl.out; omega
          have hop0 := hCo.out c0 (by simp)
          have hCo' : Hid (∀ d ∈ CK', opV s 1 1 d = .tuple #[keyV k0 k1, keyV k2 k3, .int .i64 0]) := fun d hd => hCo.out d (by simp [hd])
          obtain ⟨h52, hcb⟩ := C0.lens.1 c0 (by simp)
          have j0 : (0 : Int) ≤ k := by omega
          have j1 : (k : Int) < 9 := by omega
          have hn11 : n ≤ 11 := by have := hnk.out; omega
          clear hCL hCo
          go_wp2_with fail
          with_reducible refine (head_any _).mono ?_
          rintro e w9 ⟨rfl, b9⟩
          have U9 := U0.below b9
          have V9 := V0.below b9
          have J9 := J0.below b9
          have C9 := C0.below b9
          have R9 := R0.below b9 R0.lt
          have B9 := B0.trans (b9.mono B0.size)
          have L9 := L0.below b9
          have X9 : X2 _ _ be ca cb := X0.below b9
          clear U0 V0 J0 C0 R0 B0 L0 X0 b9
          go_wp2_with fail
          have hxw : U64 (k : Int) := by unfold U64; omega
          have i3 : IntKind.u64.wrap (k : Int) = k := by rw [IntKind.wrap_u64]; omega
          have hRQ := t_req k C9 hk0 hk1 (by omega) hxw R9 hlo hl8 (by rw [List.length_map]; exact hf3)
          with_reducible refine hRQ.mono ?_
          rintro e w10 ⟨r, cr, G', rfl, M10, C10, K10, n10⟩
          have U10 := U9.go K10 n10
          have V10 := V9.go K10 n10
          have J10 := J9.go K10 n10
          have L10 := L9.go K10 n10
          have X10 := X9.go K10 n10
          have R10 := R9.go K10 (C9.low hlo)
          have B10 : Below w.heap.size w _ := K10.toBelow B9 B9.size (fun g hg => by have := (C9.rng g hg).1; omega)
          have hcrc := M10.1.cap_le
          have hcrm := M10.1.cap_max
          have hml := rqM_len ((k : Int) + 1) k k0 k1 h52
          rw [show ((r, cr, rqM ((k : Int) + 1) k c0 k0 k1) : CkT).2.2 = rqM ((k : Int) + 1) k c0 k0 k1 from rfl, hml] at hcrc
          rw [wtN_idN] at C10
          obtain ⟨V, hV⟩ : ∃ V, V = (if (wtS 0 k).length = 8 then (wtS 0 k).drop 1 else wtS 0 k) ++ [k] := ⟨_, rfl⟩
          rw [← hV] at C10
          have hi1 := idN_len k
          have hi2 := idN_byt k
          clear U9 V9 J9 C9 R9 B9 L9 X9 K10 n10 hRQ hml
          go_wp2_with fail
          have hOPN := t_open (c := cr) ((k : Int) + 1) k J10.1 hs hg ⟨by omega, by omega⟩ R10 h52 hcb hop0 (M10.1.bs.wide (Nat.zero_le _) (Nat.le_refl _)) hcrc hcrm
          rw [show idB ((k : Int) + 1) k = idN k from rfl] at hOPN
          with_reducible refine hOPN.mono ?_
          rintro e w14 ⟨rt, ct, rfl, I14, b14⟩
          have U14 := U10.below b14
          have V14 := V10.below b14
          have J14 := J10.below b14
          have C14 := C10.below b14
          have R14 := R10.below b14 R10.lt
          have B14 := B10.trans (b14.mono B10.size)
          have L14 := L10.below b14
          have X14 : X2 _ _ be ca cb := X10.below b14
          have hlt14 := I14.blt rt rfl
          have hti : rt ∉ G' := by
            intro hm
            have := (C10.rng rt hm).2
            omega
          have I14' : Ck w14 w10.heap.size G' (rt, ct, idN k) := ⟨I14, hti⟩
          clear U10 V10 J10 C10 R10 B10 L10 X10 M10 b14 I14 hOPN
          go_wp2_with (first
            | ((refine wpl_alloc (by rfl) 27 (by rfl) (.agg (zN).toArray) (zN) zeroNtp rfl ?_; intro w15 P15 s15 b15); (have T15 := U14))
            | ((refine wpl_alloc (by rfl) 31 (by rfl) (.agg (tktL none 0 0 0 0 0 0).toArray) (tktL none 0 0 0 0 0 0) zeroTk rfl ?_; intro w16 T16 s16 b16); (have P16 := P15.below b16 (by omega)))
            | ((refine wpl_store (by rfl) 27 _ _ (by rfl) w14.heap.size (by rfl) _ (by rfl) _ rfl 27 _ P16 (by rfl) _ sizeNtp (by rfl) (by simp [Value.oneCell']) ?_; intro w17 P17 s17 g17); (have T17 := T16.but g17 (by omega)))
            | ((refine wpl_store (by rfl) 31 _ _ (by rfl) w15.heap.size (by rfl) _ (by rfl) _ rfl 31 _ T17 (by rfl) _ sizeTk (by rfl) (by simp [Value.oneCell']) ?_; intro w18 T18 s18 g18); (have P18 := P17.but g18 (by omega))))
          have g15 : Below w14.heap.size w14 w18 := ((b15.trans (b16.mono b15.size)).trans (But.below (g := w14.heap.size) g17 (by omega) (Nat.le_refl _))).trans (But.below (g := w15.heap.size) g18 (by omega) b15.size)
          have n15 : w15.heap.size ∉ G' := fun hm => by have := (C14.rng _ hm).2; omega
          have U18 := U14.below g15
          have V18 := V14.below g15
          have J18 := J14.below g15
          have C18 := C14.below g15
          have R18 := R14.below g15 R14.lt
          have B18 := B14.trans (g15.mono B14.size)
          have L18 := L14.below g15
          have X18 : X2 _ _ be ca cb := X14.below g15
          have I18 := I14'.below g15
          have hcap := I18.1.cap_le
          rw [show ((rt, ct, idN k) : CkT).2.2 = idN k from rfl, hi1] at hcap
          clear U14 V14 J14 C14 R14 B14 L14 X14 I14' b15 b16 g17 g18 g15 P15 P16 P17 P18 T15 T16 T17 s15 s16 s17 s18
          generalize hy : w15.heap.size = bt at *
          clear hy
          refine wp_region_heldL (fun y => Blk y bt 31 (tktL (some ⟨rt, 0, none⟩) 16 ct k0 k1 k2 k3)) 12 (by kernel_rfl) rfl T18.drew fun hHeld => ?_
          simp only [List.replicate]
          (refine wpH_take (i := 0) (v := _) (by simp only [List.getElem?_toArray, List.getElem?_cons_succ, List.getElem?_cons_zero]; rfl) (by kernel_rfl) (by kernel_rfl) (by kernel_rfl) (by intro _ _ _ h; exact h) (Or.inl ⟨by rfl, (by intro w' hSw; (try dsimp only at hSw); go_simp; first | done | with_reducible rfl)⟩) (by assumption) ?_; (try simp only [Act.put, List.setIfInBounds_toArray, List.set_cons_zero, List.set_cons_succ]))
          refine wpH_take (i := 1) (v := .agg (tktL (some ⟨rt, 0, none⟩) 16 ct k0 k1 k2 k3).toArray) (by simp only [List.getElem?_toArray, List.getElem?_cons_succ, List.getElem?_cons_zero]; rfl) (by kernel_rfl) (by kernel_rfl) (by kernel_rfl) (by intro _ _ _ h; exact h) (yieldsIf_load_mid (by rfl) 31 _ (by rfl) bt 0 (by rfl) (tktL (some ⟨rt, 0, none⟩) 16 ct k0 k1 k2 k3) _ (fun w' h => h.range) Tryd.underlying31 rfl sizeTk) (by assumption) ?_
          (try simp only [Act.put, List.setIfInBounds_toArray, List.set_cons_zero, List.set_cons_succ])
          (refine wpH_take (i := 3) (v := _) (by simp only [List.getElem?_toArray, List.getElem?_cons_succ, List.getElem?_cons_zero]; rfl) (by kernel_rfl) (by kernel_rfl) (by kernel_rfl) (by intro _ _ _ h; exact h) (Or.inl ⟨by rfl, (by intro w' hSw; (try dsimp only at hSw); go_simp; first | done | with_reducible rfl)⟩) (by assumption) ?_; (try simp only [Act.put, List.setIfInBounds_toArray, List.set_cons_zero, List.set_cons_succ]))
          (refine wpH_take (i := 4) (v := _) (by simp only [List.getElem?_toArray, List.getElem?_cons_succ, List.getElem?_cons_zero]; rfl) (by kernel_rfl) (by kernel_rfl) (by kernel_rfl) (by intro _ _ _ h; exact h) (Or.inl ⟨by rfl, (by intro w' hSw; (try dsimp only at hSw); go_simp; first | done | with_reducible rfl)⟩) (by assumption) ?_; (try simp only [Act.put, List.setIfInBounds_toArray, List.set_cons_zero, List.set_cons_succ]))
          (refine wpH_take (i := 5) (v := _) (by simp only [List.getElem?_toArray, List.getElem?_cons_succ, List.getElem?_cons_zero]; rfl) (by kernel_rfl) (by kernel_rfl) (by kernel_rfl) (by intro _ _ _ h; exact h) (Or.inl ⟨by rfl, (by intro w' hSw; (try dsimp only at hSw); go_simp; first | done | with_reducible rfl)⟩) (by assumption) ?_; (try simp only [Act.put, List.setIfInBounds_toArray, List.set_cons_zero, List.set_cons_succ]))
          have hhd := head_any w18.drew
          (refine wpH_one (i := 2) (by simp only [List.getElem?_toArray, List.getElem?_cons_succ, List.getElem?_cons_zero]; rfl) (by kernel_rfl) (by rfl) ?_; (go_simp; (with_reducible refine hhd.mono ?_); rintro e w19 ⟨rfl, b19⟩; refine ⟨T18.drew.below b19 T18.lt, ?_⟩); (try simp only [Act.put, List.setIfInBounds_toArray, List.set_cons_zero, List.set_cons_succ]))
          have b19' : Below w18.heap.size w18 w19 := (Below.refl _ w18).drew.trans b19
          have U19 := U18.below b19'
          have V19 := V18.below b19'
          have J19 := J18.below b19'
          have C19 := C18.below b19'
          have R19 := R18.below b19' R18.lt
          have B19 := B18.trans (b19'.mono B18.size)
          have L19 := L18.below b19'
          have X19 : X2 _ _ be ca cb := X18.below b19'
          have I19 := I18.below b19'
          have T19 := T18.drew.below b19 T18.lt
          have hREP := t_rep2 (ci := ct) (ca := ca) (cb := cb) k (some ⟨be, 0, none⟩) 2 (X19.xs a52 e52) (by simp) (by omega) (by omega) a52 e52 ab eb J19.1 hs hg R19 hxw hk0 hk1 hk2 hk3 hi1 (I19.1.bs.wide (Nat.zero_le _) (Nat.le_refl _)) hcap I19.1.cap_max
          (refine wpH_one (i := 6) (by simp only [List.getElem?_toArray, List.getElem?_cons_succ, List.getElem?_cons_zero]; rfl) (by kernel_rfl) (by rfl) ?_; (go_simp; (with_reducible refine hREP.mono ?_); rintro e w20 ⟨Ar, car, rfl, O20, b20⟩; refine ⟨T19.below b20 T19.lt, ?_⟩); (try simp only [Act.put, List.setIfInBounds_toArray, List.set_cons_zero, List.set_cons_succ]))
          have U20 := U19.below b20
          have V20 := V19.below b20
          have J20 := J19.below b20
          have C20 := C19.below b20
          have R20 := R19.below b20 R19.lt
          have B20 := B19.trans (b20.mono B19.size)
          have L20 := L19.below b20
          have X20 : X2 _ _ be ca cb := X19.below b20
          have T20 := T19.below b20 T19.lt
          (refine wpH_take (i := 7) (v := _) (by simp only [List.getElem?_toArray, List.getElem?_cons_succ, List.getElem?_cons_zero]; rfl) (by kernel_rfl) (by kernel_rfl) (by kernel_rfl) (by intro _ _ _ h; exact h) (Or.inl ⟨by rfl, (by intro w' hSw; (try dsimp only at hSw); go_simp; first | done | with_reducible rfl)⟩) (by assumption) ?_; (try simp only [Act.put, List.setIfInBounds_toArray, List.set_cons_zero, List.set_cons_succ]))
          (refine wpH_take (i := 8) (v := _) (by simp only [List.getElem?_toArray, List.getElem?_cons_succ, List.getElem?_cons_zero]; rfl) (by kernel_rfl) (by kernel_rfl) (by kernel_rfl) (by intro _ _ _ h; exact h) (Or.inl ⟨by rfl, (by intro w' hSw; (try dsimp only at hSw); go_simp; first | done | with_reducible rfl)⟩) (by assumption) ?_; (try simp only [Act.put, List.setIfInBounds_toArray, List.set_cons_zero, List.set_cons_succ]))
          (refine wpH_take (i := 9) (v := _) (by simp only [List.getElem?_toArray, List.getElem?_cons_succ, List.getElem?_cons_zero]; rfl) (by kernel_rfl) (by kernel_rfl) (by kernel_rfl) (by intro _ _ _ h; exact h) (Or.inl ⟨by rfl, (by intro w' hSw; (try dsimp only at hSw); go_simp; first | done | with_reducible rfl)⟩) (by assumption) ?_; (try simp only [Act.put, List.setIfInBounds_toArray, List.set_cons_zero, List.set_cons_succ]))
          (refine wpH_take (i := 10) (v := _) (by simp only [List.getElem?_toArray, List.getElem?_cons_succ, List.getElem?_cons_zero]; rfl) (by kernel_rfl) (by kernel_rfl) (by kernel_rfl) (by intro _ _ _ h; exact h) (Or.inl ⟨by rfl, (by intro w' hSw; (try dsimp only at hSw); go_simp; first | done | with_reducible rfl)⟩) (by assumption) ?_; (try simp only [Act.put, List.setIfInBounds_toArray, List.set_cons_zero, List.set_cons_succ]))
          (refine wpH_take (i := 11) (v := _) (by simp only [List.getElem?_toArray, List.getElem?_cons_succ, List.getElem?_cons_zero]; rfl) (by kernel_rfl) (by kernel_rfl) (by kernel_rfl) (by intro _ _ _ h; exact h) (Or.inl ⟨by rfl, (by intro w' hSw; (try dsimp only at hSw); go_simp; first | done | with_reducible rfl)⟩) (by assumption) ?_; (try simp only [Act.put, List.setIfInBounds_toArray, List.set_cons_zero, List.set_cons_succ]))
          refine wpH_done (by kernel_rfl) ?_ _
          have hk52 : (ckB s 1 k k0 k1 k2 k3).length = 52 := ckB_len _ _ _ _ _ _ _
          have hkb : Byt (ckB s 1 k k0 k1 k2 k3) := ckB_byt _ _ _ _ _ _ _
          have hopN := hop k hxw
          generalize ckB s 1 k k0 k1 k2 k3 = CKn at *
          have hRl := rpM_len2 k2 k3 hi1 hk52 a52 e52
          have hcar := O20.cap_le
          rw [hRl] at hcar
          have hcarm := O20.cap_max
          obtain ⟨rr, rfl, hrr⟩ : ∃ rr, Ar = some ⟨rr, 0, none⟩ ∧ rr ∉ G' ∧ lo ≤ rr ∧ rr < w20.heap.size := by
            rcases O20.form with ⟨_, e, _⟩ | ⟨rr, e1, e2, e3⟩
            · rw [e] at hRl; cases hRl
            · exact ⟨rr, e1, fun hm => by have := (C19.rng _ hm).2; omega, by have := C19.rng bc (by obtain ⟨g1, g2, _, _, _, _, _, _, _, rfl, _⟩ := C19; simp); omega, e3⟩
          have M20 : Ck w20 lo G' (rr, car, rpM (idN k) CKn (twoL ca cb) k2 k3) := ⟨O20.wide (by have := C19.rng bc (by obtain ⟨g1, g2, _, _, _, _, _, _, _, rfl, _⟩ := C19; simp); omega), hrr.1⟩
          clear hHeld hREP hhd T18 T19 T20 U18 V18 J18 C18 R18 B18 L18 X18 I18 U19 V19 J19 C19 R19 B19 L19 X19 I19 b19 b19' b20 O20
          have bA : Below w20.heap.size w20 (w20.alloc (.cells #[.slice (some ⟨rr, 0, none⟩) 248 car] 23)) := (Below.refl _ w20).alloc (Nat.le_refl _) _
          have U21 := U20.below bA
          have V21 := V20.below bA
          have J21 := J20.below bA
          have C21 := C20.below bA
          have R21 := R20.below bA R20.lt
          have B21 := B20.trans (bA.mono B20.size)
          have L21 := L20.below bA
          have X21 : X2 _ _ be ca cb := X20.below bA
          have M21 := M20.below bA
          have NA := Blk.new w20 23 #[.slice (some ⟨rr, 0, none⟩) 248 car] [.slice (some ⟨rr, 0, none⟩) 248 car] rfl
          clear U20 V20 J20 C20 R20 B20 L20 X20 M20 bA
          have hT9 : Hid (∀ j t, (T ++ [(rr, car, rpM (idN k) CKn (twoL ca cb) k2 k3)])[j]? = some t → ∃ ck, ck.length = 52 ∧ Byt ck ∧ opV s 1 1 ck = .tuple #[keyV k0 k1, keyV k2 k3, .int .i64 0] ∧ t.2.2 = rpM (idN j) ck (twoL ca cb) k2 k3) := fun j t ht => by
            by_cases hj : j < T.length
            · rw [List.getElem?_append_left hj] at ht; exact hT.out j t ht
            · have hj2 := (List.getElem?_eq_some_iff.1 ht).1
              rw [List.length_append, List.length_singleton] at hj2
              obtain rfl : j = T.length := by omega
              rw [List.getElem?_append_right (Nat.le_refl _), Nat.sub_self] at ht
              obtain rfl := Option.some.inj ht
              have hTk : T.length = k := by rw [L21.tn]; exact hnk.out
              rw [hTk]
              exact ⟨CKn, hk52, hkb, hopN.out, rfl⟩
          have hnk9 : Hid (n + 1 = k + 1) := by show _ = _; rw [hnk.out]
          have hGl : ∀ x ∈ G', x < (w20.alloc (.cells #[.slice (some ⟨rr, 0, none⟩) 248 car] 23)).heap.size := fun x hx => (C21.rng x hx).2
          have i2 : IntKind.i64.wrap ((k : Int) + 1) = (k : Int) + 1 := IntWalk.i64_in _ (by omega)
          by_cases hka : k = 0
          · skip
            have hAi : ((k : Int) == 0) = true := by rw [beq_iff_eq]; omega
            go_wp2_with (first
              | (refine wpl_append_sl (by rfl) (.tmp 108) (.tmp 110) 51 (by rfl) 23 (.slice none 0 0) 1 24 Tryd.underlying51 infoSl rfl (by omega) (.slice A n c) n (T.map ckV) lo (by rfl) L21.row ⟨w20.heap.size, 0, none⟩ 1 1 (by rfl) [.slice (some ⟨rr, 0, none⟩) 248 car] rfl (cells2_of NA) (by simp [Value.oneCell']) (by omega) (by omega) (by have := C21.rng bc (by obtain ⟨g1, g2, _, _, _, _, _, _, _, rfl, _⟩ := C21; simp); omega) ?_; intro v9 w9 R9 K9 H9))
            obtain ⟨A9, c9, rfl, L9⟩ := L21.push (t := (rr, car, rpM (idN k) CKn (twoL ca cb) k2 k3)) M21 hGl (by
              rw [show ckV (rr, car, rpM (idN k) CKn (twoL ca cb) k2 k3) = .slice (some ⟨rr, 0, none⟩) 248 car from by show Value.slice _ (rpM (idN k) CKn (twoL ca cb) k2 k3).length _ = _; rw [hRl]]
              exact R9) K9 H9
            have KF := kp_grown K9
            have TF := L21.ty
            have U9 := U21.kpf KF TF (by decide)
            have V9 := V21.kpf KF TF (by decide)
            have J9 := J21.kpf KF TF (by decide)
            have X9 := X21.kpf KF TF
            have C9 := C21.kpf KF TF L21.ng
            have R9' : Rnd w9 := R21.go KF (fun hm => by have := (L21.rng 0 hm).1; omega)
            have B9 : Below w.heap.size w w9 := KF.toBelow B21 B21.size (fun x hx => by have := (L21.rng x hx).1; omega)
            have M9 := M21.kp KF (TF.ck M21) M21.2
            have hVe : V = (if (wtS 0 0).length = 8 then (wtS 0 0).drop 1 else wtS 0 0) ++ [0] := by rw [hV, hka]
            have hV1 : (V.map idN).length ≤ 8 := by rw [List.length_map, hVe]; decide
            have hV2 : 0 < (V.map idN).length := by rw [List.length_map, hVe]; decide
            have hV3 : V.findIdx? (· == 0) = some 0 := by rw [hVe]; decide
            have hV4 : ∀ x ∈ V, x < 200 := by rw [hVe]; decide
            have hV5 : V.take 0 ++ V.drop (0 + 1) = wtS 0 (0 + 1) := by rw [hVe]; decide
            have hF : fiI (V.map idN) (idN k) = ((0 : Nat) : Int) := by rw [fiI_idN V k (by omega) hV4, hka, hV3]
            have hACC := t_acc2 (c := car) 0 C9 hk2 hk3 R9' (by omega) hV1 hi1 hk52 hi2 hkb a52 e52 ab eb hV2 hF (M9.1.bs.wide (Nat.zero_le _) (Nat.le_refl _)) hcar hcarm
            rw [del_idN, hV5] at hACC
            with_reducible refine hACC.mono ?_
            rintro e w22 ⟨P1, q1, G2, rfl, C22, K22, n22⟩
            have U22 := U9.go K22 n22
            have V22 := V9.go K22 n22
            have J22 := J9.go K22 n22
            have L22 := L9.go K22 n22
            have X22 := X9.go K22 n22
            have R22 := R9'.go K22 (C9.low hlo)
            have B22 : Below w.heap.size w w22 := K22.toBelow B9 B9.size (fun g hg => by have := (C9.rng g hg).1; omega)
            have hCL2 : Hid ((ckN CK' [CKn, ca, cb]).length = ckS 0 (k + 1)) := by
              show _ = _
              have := hCl.out
              simp only [ckS, if_pos hka]
              unfold ckN
              rw [List.length_take, List.length_append]
              simp only [List.length_cons, List.length_nil]
              omega
            have hCo2 : Hid (∀ d ∈ ckN CK' [CKn, ca, cb], opV s 1 1 d = .tuple #[keyV k0 k1, keyV k2 k3, .int .i64 0]) := fun d hd => by
              have hd := List.mem_of_mem_take hd
              rw [List.mem_append] at hd
              rcases hd with hd | hd
              · exact hCo'.out d hd
              · have : d = CKn ∨ d = ca ∨ d = cb := by simpa using hd
                rcases this with rfl | rfl | rfl
                · exact hopN.out
                · exact aop.out
                · exact eop.out
            clear hACC U9 V9 J9 L9 X9 R9' B9 C9 K22 n22 U21 V21 J21 C21 R21 B21 L21 X21 M21 NA KF TF R9 K9 H9 M9
            go_wp2_with (first
              | ((refine wpl_alloc (by rfl) 27 (by rfl) (.agg (zN).toArray) (zN) zeroNtp rfl ?_; intro w23 H23 s23 b23))
              | (refine wpl_store (by rfl) 27 _ _ (by rfl) w22.heap.size (by rfl) _ (by rfl) [.int .i64 0, .int .i64 4, .int .i64 3, .int .i64 0, .int .i64 0, .int .i64 0, .int .u32 0, .int .u32 0, .int .u32 0, .int .u64 0, .int .u64 0, .int .u64 0, .int .u64 9] rfl 27 _ H23 (by rfl) _ sizeNtp (by rfl) (by simp [Value.oneCell']) ?_; intro w24 H24 s24 g24))
            have g22 : Below w22.heap.size w22 w24 := b23.trans (But.below (g := w22.heap.size) g24 (by omega) (Nat.le_refl _))
            have U24 := U22.below g22
            have V24 := V22.below g22
            have J24 := J22.below g22
            have C24 := C22.below g22
            have R24 := R22.below g22 R22.lt
            have B24 := B22.trans (g22.mono B22.size)
            have L24 := L22.below g22
            have X24 : X2 _ _ be ca cb := X22.below g22
            have hW : wtS 0 (0 + 1) = wtS 0 (k + 1) := by rw [hka]
            rw [hW] at C24
            exact ⟨⟨k + 1, by omega, by go_num, _, A9, n + 1, c9, G2, ckN CK' [CKn, ca, cb], rfl, L24, hnk9, hT9, C24, hCL2, hCo2, U24, V24, J24, X24, R24, B24⟩, by simp [intOf]; omega⟩
          · have hAi : ((k : Int) == 0) = false := by rw [beq_eq_false_iff_ne]; omega
            go_wp2_with (first
              | (refine wpl_append_sl (by rfl) (.tmp 108) (.tmp 110) 51 (by rfl) 23 (.slice none 0 0) 1 24 Tryd.underlying51 infoSl rfl (by omega) (.slice A n c) n (T.map ckV) lo (by rfl) L21.row ⟨w20.heap.size, 0, none⟩ 1 1 (by rfl) [.slice (some ⟨rr, 0, none⟩) 248 car] rfl (cells2_of NA) (by simp [Value.oneCell']) (by omega) (by omega) (by have := C21.rng bc (by obtain ⟨g1, g2, _, _, _, _, _, _, _, rfl, _⟩ := C21; simp); omega) ?_; intro v9 w9 R9 K9 H9))
            obtain ⟨A9, c9, rfl, L9⟩ := L21.push (t := (rr, car, rpM (idN k) CKn (twoL ca cb) k2 k3)) M21 hGl (by
              rw [show ckV (rr, car, rpM (idN k) CKn (twoL ca cb) k2 k3) = .slice (some ⟨rr, 0, none⟩) 248 car from by show Value.slice _ (rpM (idN k) CKn (twoL ca cb) k2 k3).length _ = _; rw [hRl]]
              exact R9) K9 H9
            have KF := kp_grown K9
            have TF := L21.ty
            have U9 := U21.kpf KF TF (by decide)
            have V9 := V21.kpf KF TF (by decide)
            have J9 := J21.kpf KF TF (by decide)
            have X9 := X21.kpf KF TF
            have C9 := C21.kpf KF TF L21.ng
            have R9' : Rnd w9 := R21.go KF (fun hm => by have := (L21.rng 0 hm).1; omega)
            have B9 : Below w.heap.size w w9 := KF.toBelow B21 B21.size (fun x hx => by have := (L21.rng x hx).1; omega)
            have hW : wtS 0 (k + 1) = V := by rw [hV]; simp only [wtS, if_neg hka]
            have hC9 : Hid (CK'.length = ckS 0 (k + 1)) := by
              show _ = _
              have := hCl.out
              simp only [ckS, if_neg hka]
              omega
            rw [← hW] at C9
            exact ⟨⟨k + 1, by omega, by go_num, _, A9, n + 1, c9, G', CK', rfl, L9, hnk9, hT9, C9, hC9, hCo', U9, V9, J9, X9, R9', B9⟩, by simp [intOf]; omega⟩
        · have hkN : k = 9 := by omega
          have hkd : decide ((k : Int) < 9) = false := decide_eq_false (by omega)
          have hnN : Hid (n = 9) := by show _ = _; rw [hnk.out, hkN]
          have hC8 : Hid (CK.length ≤ 8) := by
            show _ ≤ _
            rw [hCL.out, hkN]; decide
          have hw3 : wtS 0 k = wt3 1 0 := by rw [hkN]; decide
          rw [hw3] at C0
          clear hCL hCo hw3 U0 V0 J0 X0 hcr hae hlt hkN hk hnk
          go_wp2_with fail
          go_loopw [127] (fun i wr => ∃ j : Nat, j ≤ n ∧ i = .int .i64 j ∧ ∃ G CK, RpLs wr lo G T A n c ∧ Cli wr lo bc G k0 k1 k2 k3 CK k ((wt3 1 j).map idN) ∧ Hid (CK.length ≤ 8) ∧ Rnd wr ∧ Below w.heap.size w wr) (fun i _ => n - (intOf i).toNat)
          case atStart => exact ⟨0, by omega, rfl, G, CK, L0, C0, hC8, R0, B0⟩
          case round =>
            obtain ⟨j, hj, rfl, G, CK, L1, C1, hCK, R1, B1⟩ := hrel
            clear L0 C0 hC8 R0 B0
            by_cases hlt : j < n
            · have hlN : j < 9 := by have := hnN.out; omega
              obtain ⟨g, t, rfl, hTj, hc0, hM⟩ := L1.at hlt
              obtain ⟨ck, q1, q2, q3, q4⟩ := hT.out j t hTj
              obtain ⟨tb, tc, tl⟩ := t
              have q4 : tl = rpM (idN j) ck (twoL ca cb) k2 k3 := q4
              subst q4
              have hRl := rpM_len2 k2 k3 (idN_len j) q1 a52 e52
              have hc : wr.cell? ⟨g, j, none⟩ = some (.slice (some ⟨tb, 0, none⟩) 248 tc) := by
                rw [hc0]
                show some (Value.slice _ (rpM (idN j) ck (twoL ca cb) k2 k3).length _) = _
                rw [hRl]
              have hcap := hM.1.cap_le
              have hcapm := hM.1.cap_max
              rw [show ((tb, tc, rpM (idN j) ck (twoL ca cb) k2 k3) : CkT).2.2 = rpM (idN j) ck (twoL ca cb) k2 k3 from rfl, hRl] at hcap
              have j0 : (0 : Int) ≤ j := by omega
              have j1 : (j : Int) < n := by omega
              have hBs := hM.1.bs.wide (Nat.zero_le _) (Nat.le_refl _)
              obtain ⟨hwl, hwx, hww0⟩ := wt3_facts 1 (by omega) j hlN
              have hwl' : ((wt3 1 j).map idN).length ≤ 8 := by rw [List.length_map]; exact hwl
              clear hTj hM hRl hc0
              have i2 : IntKind.i64.wrap ((j : Int) + 1) = (j : Int) + 1 := IntWalk.i64_in _ (by omega)
              have hww : if j ≠ 0 ∧ 9 ≤ j + 9 then (wt3 1 j).findIdx? (· == j) = some 0 ∧ (wt3 1 j).drop 1 = wt3 1 (j + 1) else (wt3 1 j).findIdx? (· == j) = none ∧ wt3 1 j = wt3 1 (j + 1) := hww0
              clear hww0
              by_cases hcs : j ≠ 0 ∧ 9 ≤ j + 9
              · rw [if_pos hcs] at hww
                obtain ⟨hfi, hdr0⟩ := hww
                have hF : fiI ((wt3 1 j).map idN) (idN j) = ((0 : Nat) : Int) := by rw [fiI_idN _ j (by omega) hwx, hfi]
                have hdr := Lib.hid hdr0
                clear hdr0
                have hpos : 0 < ((wt3 1 j).map idN).length := by
                  rw [List.length_map]
                  exact (List.findIdx?_eq_some_iff_getElem.1 hfi).choose
                have hne : ((j : Int) != 0) = true := by rw [bne_iff_ne]; omega
                have hge : decide ((0 : Int) ≤ j) = true := decide_eq_true (by omega)
                go_wp2_with fail
                have hACC := t_acc2 (c := tc) 0 C1 hk2 hk3 R1 hCK.out hwl' (idN_len j) q1 (idN_byt j) q2 a52 e52 ab eb hpos hF hBs hcap hcapm
                rw [show ((wt3 1 j).map idN).take 0 ++ ((wt3 1 j).map idN).drop (0 + 1) = (wt3 1 (j + 1)).map idN from by rw [← hdr.out]; simp [List.map_drop]] at hACC
                with_reducible refine hACC.mono ?_
                rintro e w22 ⟨P1, q1', G2, rfl, C22, K22, n22⟩
                have L22 := L1.go K22 n22
                have R22 := R1.go K22 (C1.low hlo)
                have B22 : Below w.heap.size w w22 := K22.toBelow B1 B1.size (fun g hg => by have := (C1.rng g hg).1; omega)
                have hCK2 : Hid ((ckN CK [ck, ca, cb]).length ≤ 8) := ckN_len _ _
                have hc8 : decide ((8 : Int) < ((ckN CK [ck, ca, cb]).length : Int)) = false := decide_eq_false (by have := hCK2.out; omega)
                clear hACC K22 n22 L1 C1 R1 B1 hBs hfi hF hpos hdr hwl hwl' hwx hcs q1 q2 q3 hcap hcapm
                go_wp2_with (first
                  | ((refine wpl_alloc (by rfl) 27 (by rfl) (.agg (zN).toArray) (zN) zeroNtp rfl ?_; intro w23 H23 s23 b23))
                  | (refine wpl_store (by rfl) 27 _ _ (by rfl) w22.heap.size (by rfl) _ (by rfl) [.int .i64 0, .int .i64 4, .int .i64 3, .int .i64 0, .int .i64 0, .int .i64 0, .int .u32 0, .int .u32 0, .int .u32 0, .int .u64 0, .int .u64 0, .int .u64 0, .int .u64 9] rfl 27 _ H23 (by rfl) _ sizeNtp (by rfl) (by simp [Value.oneCell']) ?_; intro w24 H24 s24 g24; have g22 : Below w22.heap.size w22 w24 := b23.trans (But.below (g := w22.heap.size) g24 (by omega) (Nat.le_refl _)); have C24 := C22.below g22)
                  | (go_at_call 23; (have hCC := ccount C24); ((with_reducible refine hCC.mono ?_); rintro e' y1 ⟨rfl, rfl⟩)))
                have g22 : Below w22.heap.size w22 w24 := b23.trans (But.below (g := w22.heap.size) g24 (by omega) (Nat.le_refl _))
                exact ⟨⟨j + 1, by omega, by go_num, G2, _, L22.below g22, C24, hCK2, R22.below g22 R22.lt, B22.trans (g22.mono B22.size)⟩, by simp [intOf]; omega⟩
              · rw [if_neg hcs] at hww
                obtain ⟨hfi, hdr0⟩ := hww
                have hF : fiI ((wt3 1 j).map idN) (idN j) = -1 := by rw [fiI_idN _ j (by omega) hwx, hfi]
                have hdr := Lib.hid hdr0
                clear hdr0
                have hc8 : decide ((8 : Int) < (CK.length : Int)) = false := decide_eq_false (by have := hCK.out; omega)
                go_wp2_with fail
                have hACC := t_none2 (c := tc) C1 hk2 hk3 R1 hCK.out hwl' (idN_len j) q1 (idN_byt j) q2 a52 e52 ab eb hF hBs hcap hcapm
                rw [hdr.out] at C1
                with_reducible refine hACC.mono ?_
                rintro e w22 ⟨rfl, b22⟩
                have L22 := L1.below b22
                have C22 := C1.below b22
                have R22 := R1.below b22 R1.lt
                have B22 := B1.trans (b22.mono B1.size)
                clear hACC b22 L1 C1 R1 B1 hBs hfi hF hdr hwl hwl' hwx q1 q2 q3 hcap hcapm
                by_cases hai : (j : Int) = 0
                · skip
                  have hne : ((j : Int) != 0) = false := by rw [bne_eq_false_iff_eq]; exact hai
                  go_wp2_with (first
                    | ((refine wpl_alloc (by rfl) 27 (by rfl) (.agg (zN).toArray) (zN) zeroNtp rfl ?_; intro w23 H23 s23 b23))
                    | (refine wpl_store (by rfl) 27 _ _ (by rfl) w22.heap.size (by rfl) _ (by rfl) [.int .i64 0, .int .i64 0, .int .i64 0, .int .i64 0, .int .i64 0, .int .i64 0, .int .u32 0, .int .u32 0, .int .u32 0, .int .u64 0, .int .u64 0, .int .u64 0, .int .u64 0] rfl 27 _ H23 (by rfl) _ sizeNtp (by rfl) (by simp [Value.oneCell']) ?_; intro w24 H24 s24 g24; have g22 : Below w22.heap.size w22 w24 := b23.trans (But.below (g := w22.heap.size) g24 (by omega) (Nat.le_refl _)); have C24 := C22.below g22)
                    | (go_at_call 23; (have hCC := ccount C24); ((with_reducible refine hCC.mono ?_); rintro e' y1 ⟨rfl, rfl⟩)))
                  have g22 : Below w22.heap.size w22 w24 := b23.trans (But.below (g := w22.heap.size) g24 (by omega) (Nat.le_refl _))
                  exact ⟨⟨j + 1, by omega, by go_num, G, CK, L22.below g22, C24, hCK, R22.below g22 R22.lt, B22.trans (g22.mono B22.size)⟩, by simp [intOf]; omega⟩
                · skip
                  exfalso; omega
            · obtain rfl : j = n := by omega
              go_wp2_with (first
                | (go_at_call 10; ((with_reducible refine (awake_any _ R1).mono ?_); rintro e w36 ⟨rfl, b36⟩)))
              go_ret
              exact ⟨rfl, B1.trans (b36.mono B1.size)⟩
set_option maxRecDepth 100000 in
set_option maxHeartbeats 16000000 in
theorem waits_two (k0 k1 k2 k3 s f : Int) (w : World) (d1 : (f % 3 == 1) = false) (d2 : (f % 3 == 2) = true) (hk0 : U64 k0) (hk1 : U64 k1) (hk2 : U64 k2) (hk3 : U64 k3) (hs : U64 s) (hf : 0 ≤ f ∧ f ≤ 255) (hR : Rnd w) :
    Calls Tryd.prog 6 #[keyV k0 k1, keyV k2 k3, .int .u64 s, .int .u8 f] w fun e w' => e = .returned (.bool true) ∧ Below w.heap.size w w' := by
  have hw0 := hR.lt
  have hg : Gn 1 := ⟨by omega, by omega⟩
  have hst : staleB 1 1 1 = false := by unfold staleB; rw [decide_eq_false (by omega : ¬ (1 : Int) ≤ 1 - 1)]; decide
  have hop : ∀ x, U64 x → Hid (opV s 1 1 (ckB s 1 x k0 k1 k2 k3) = .tuple #[keyV k0 k1, keyV k2 k3, .int .i64 0]) := fun x hx => by
    show _ = _
    rw [ck_open hg hx hk0 hk1 hk2 hk3, hst]; rfl
  have hSe := fun bj x W (hx : U64 x) hJ hR => seal_any bj s 1 1 k0 k1 k2 k3 x W hs hg hx hk0 hk1 hk2 hk3 hJ hR
  go_enter Tryd.func6, Tryd.ntmps6
  go_wp2_with (first
    | (refine wpl_box (by rfl) 29 _ (by rfl) _ (keyL k0 k1) (by rfl) rfl ?_; intro w1 U1 s1 b1)
    | ((refine wpl_box (by rfl) 29 _ (by rfl) _ (keyL k2 k3) (by rfl) rfl ?_; intro w2 V2 s2 b2); (have U2 := U1.below b2 (by omega)); (have B2 := b1.trans (b2.mono (by omega))))
    | (go_at_call 12; ((with_reducible refine (new_some s 1 _ (by omega) (by omega)).mono ?_); rintro e w5 ⟨rfl, J5, b5⟩; (have U5 := U2.below b5 U2.lt); (have V5 := V2.below b5 V2.lt); (have B5 := B2.trans (b5.mono B2.size)))))
  have R5 := hR.below B5 hw0
  have z14 : w1.heap.size < w2.heap.size := by omega
  have z01 : w.heap.size < w1.heap.size := s1
  clear U1 U2 V2 b1 b2 b5 B2 s1 s2
  generalize hq1 : w1.heap.size = n1 at *
  generalize hq4 : w2.heap.size = bj at *
  clear hq1 hq4
  go_loopw [10, 35] (fun l i wr => ∃ k : Nat, k ≤ 8 ∧ i = .int .i64 k ∧ ∃ g T A n c, l = .slice A n c ∧ CkLs wr bj g T A n c ∧ Hid (n = k) ∧ Hid (∀ t ∈ T, ∃ x, U64 x ∧ t.2.2 = ckB s 1 x k0 k1 k2 k3) ∧ Blk wr w.heap.size 29 (keyL k0 k1) ∧ Blk wr n1 29 (keyL k2 k3) ∧ Blk wr bj 84 (jarL s 1 1) ∧ Rnd wr ∧ Below w.heap.size w wr) (fun _ i _ => 8 - (intOf i).toNat)
  case atStart => exact ⟨0, by omega, rfl, bj, [], none, 0, 0, rfl, CkLs.nil J5.lt, rfl, fun t ht => by (cases ht), U5, V5, J5, R5, B5⟩
  case round =>
    obtain ⟨k, hk, rfl, g, T, A, n, c, rfl, hC, hnk, hT, hU, hV, hJ, hRr, hB⟩ := hrel
    obtain ⟨wo, rfl⟩ : ∃ wo : World, wo = wr := ⟨wr, rfl⟩
    clear U5 V5 J5 R5 B5
    by_cases hlt : k < 8
    · have i0 : (0 : Int) ≤ k := by omega
      have i1 : (k : Int) < 8 := by omega
      have hx : U64 (k : Int) := by unfold U64; omega
      have i3 : IntKind.u64.wrap (k : Int) = k := by rw [IntKind.wrap_u64]; omega
      have hSE := fun W hJ hR => hSe bj k W hx hJ hR
      go_wp2_with (first
        | (refine wpl_load (by rfl) 29 _ (by rfl) w.heap.size (by rfl) 29 _ hU _ Tryd.underlying29 rfl _ sizeKey (by rfl) ?_)
        | (refine wpl_load (by rfl) 29 _ (by rfl) n1 (by rfl) 29 _ hV _ Tryd.underlying29 rfl _ sizeKey (by rfl) ?_))
      have h52 : (ckB s 1 k k0 k1 k2 k3).length = 52 := ckB_len _ _ _ _ _ _ _
      have hSE' := hSE wo hJ hRr
      have hCKe : Hid (∃ x, U64 x ∧ ckB s 1 k k0 k1 k2 k3 = ckB s 1 x k0 k1 k2 k3) := ⟨k, hx, rfl⟩
      have i2 : IntKind.i64.wrap ((k : Int) + 1) = (k : Int) + 1 := IntWalk.i64_in _ (by omega)
      generalize ckB s 1 k k0 k1 k2 k3 = CK at hSE' hCKe h52
      with_reducible refine hSE'.mono ?_
      rintro e w6 ⟨A6, c6, rfl, O6, b6⟩
      obtain ⟨g6, rfl, hg6a, hg6b⟩ : ∃ g6, A6 = some ⟨g6, 0, none⟩ ∧ wo.heap.size ≤ g6 ∧ g6 < w6.heap.size := by
        rcases O6.form with ⟨_, e, _⟩ | ⟨g, e1, e2, e3⟩
        · rw [e] at h52; cases h52
        · exact ⟨g, e1, e2, e3⟩
      have hn8 : n ≤ 8 := by have := hnk.out; omega
      have hgl := hC.lt
      have hbl := hJ.lt
      have C6 := hC.below b6 (Nat.le_refl _)
      have U6 := hU.below b6 hU.lt
      have V6 := hV.below b6 hV.lt
      have J6 := hJ.below b6 hJ.lt
      have R6 := hRr.below b6 hRr.lt
      have B6 := hB.trans (b6.mono hB.size)
      clear hSE' hSE hC hU hV hJ hRr hB b6
      have zU := U6.lt
      have zV := V6.lt
      have zJ := J6.lt
      have bA : Below w6.heap.size w6 (w6.alloc (.cells #[.slice (some ⟨g6, 0, none⟩) 52 c6] 23)) := (Below.refl _ w6).alloc (Nat.le_refl _) _
      have CA := C6.below bA (Nat.le_refl _)
      have OA := O6.below bA (Nat.le_refl _)
      have UA := U6.below bA U6.lt
      have VA := V6.below bA V6.lt
      have JA := J6.below bA J6.lt
      have RA := R6.below bA R6.lt
      have BA := B6.trans (bA.mono B6.size)
      have NA := Blk.new w6 23 #[.slice (some ⟨g6, 0, none⟩) 52 c6] [.slice (some ⟨g6, 0, none⟩) 52 c6] rfl
      clear C6 O6 U6 V6 J6 R6 B6 bA
      go_wp2_with (first
        | (refine wpl_append_rw (by rfl) 51 23 (.slice none 0 0) 24 (.tmp 38) (.tmp 45) (by rfl) Tryd.underlying51 infoSl (by rfl) (by omega) (by rfl) CA.row ⟨w6.heap.size, 0, none⟩ 1 1 [.slice (some ⟨g6, 0, none⟩) 52 c6] (by rfl) rfl (by omega) (cells2_of NA) (by simp [Value.oneCell']) (by omega) (by omega) (by have := JA.lt; intro k hk; rw [List.mem_singleton.1 hk]; exact this) ?_; intro g9 A9 c9 w9 R9 K9 G9 L9))
      have hdu := fun {q : Nat} (hq : q ≤ bj) => CA.fp hq
      have C9 : CkLs w9 bj g9 (T ++ [(g6, c6, CK)]) A9 (n + 1) c9 := CkLs.push (t := (g6, c6, CK)) CA (OA.wide (by omega)) h52 (by show g6 ≠ g; omega) (by
          rw [show ckV (g6, c6, CK) = .slice (some ⟨g6, 0, none⟩) 52 c6 from by show Value.slice _ CK.length _ = _; rw [h52]]; exact R9) K9 G9 L9
      have hU9 := K9.blk UA (hdu (by omega))
      have hV9 := K9.blk VA (hdu (by omega))
      have hJ9 := K9.blk JA (hdu (Nat.le_refl _))
      have hR9 := K9.rnd RA (hdu (by omega))
      have hB9 : Below w.heap.size w w9 := K9.toBelow BA BA.size (fun q hq => by
        obtain ⟨hc, rfl⟩ := fp_mem hq
        have := CA.lo1
        omega)
      have hnk9 : Hid (n + 1 = k + 1) := by show _ = _; rw [hnk.out]
      have hT9 : Hid (∀ t ∈ T ++ [(g6, c6, CK)], ∃ x, U64 x ∧ t.2.2 = ckB s 1 x k0 k1 k2 k3) := fun t ht => by
        rw [List.mem_append] at ht
        rcases ht with ht | ht
        · exact hT.out t ht
        · rw [List.mem_singleton.1 ht]; exact hCKe.out
      exact ⟨⟨k + 1, by omega, by go_num, g9, _, A9, n + 1, c9, rfl, C9, hnk9, hT9, hU9, hV9, hJ9, hR9, hB9⟩, by simp [intOf]; omega⟩
    · obtain rfl : k = 8 := by omega
      go_wp2_with (first
        | (refine wpl_load (by rfl) 29 _ (by rfl) w.heap.size (by rfl) 29 _ hU _ Tryd.underlying29 rfl _ sizeKey (by rfl) ?_)
        | (refine wpl_load (by rfl) 29 _ (by rfl) n1 (by rfl) 29 _ hV _ Tryd.underlying29 rfl _ sizeKey (by rfl) ?_))
      have hnk' := hnk.out
      obtain ⟨M, hMe⟩ : ∃ M, T.map (fun t : CkT => t.2.2) = M := ⟨_, rfl⟩
      have hML : M.length = n := by rw [← hMe, List.length_map]; exact hC.tn
      have hMo : Hid (∀ d ∈ M, opV s 1 1 d = .tuple #[keyV k0 k1, keyV k2 k3, .int .i64 0]) := fun d hd => by
        rw [← hMe] at hd
        obtain ⟨t, ht, rfl⟩ := List.mem_map.1 hd
        obtain ⟨x, hx, e⟩ := hT.out t ht
        show opV s 1 1 t.2.2 = _
        rw [e]; exact (hop x hx).out
      have hM52 : ∀ d ∈ M, d.length = 52 := fun d hd => by
        rw [← hMe] at hd
        obtain ⟨t, ht, rfl⟩ := List.mem_map.1 hd
        exact (hC.ck t ht).2
      have hLs := hC.ls
      rw [hMe] at hLs
      have hNC := cnew k0 k1 k2 k3 A n c M wo (by omega) hML hLs hC.row.2.1 hM52
      with_reducible refine hNC.mono ?_
      rintro e w8 ⟨bc, G, rfl, C8, b8⟩
      have U8 : BlG w8 G w.heap.size 29 (keyL k0 k1) := ⟨hU.below b8 hU.lt, C8.low hU.lt⟩
      have V8 : BlG w8 G n1 29 (keyL k2 k3) := ⟨hV.below b8 hV.lt, C8.low hV.lt⟩
      have J8 : BlG w8 G bj 84 (jarL s 1 1) := ⟨hJ.below b8 hJ.lt, C8.low hJ.lt⟩
      have R8 := hRr.below b8 hRr.lt
      have B8 := hB.trans (b8.mono hB.size)
      have hlo : 0 < wo.heap.size := hRr.lt
      have hlow : w.heap.size ≤ wo.heap.size := hB.size
      rw [hnk'] at hML
      have hSf := hSe
      clear hNC hLs hMe hM52 hC hU hV hJ hRr hB b8 hT hnk hnk' hlt hk hSe
      generalize wo.heap.size = lo at *
      go_wp2_with fail
      have hS9 := fun W hJ hR => hSf bj 99 W (by unfold U64; omega) hJ hR
      have hS8 := fun W hJ hR => hSf bj 98 W (by unfold U64; omega) hJ hR
      have a52 : (ckB s 1 99 k0 k1 k2 k3).length = 52 := ckB_len _ _ _ _ _ _ _
      have ab : Byt (ckB s 1 99 k0 k1 k2 k3) := ckB_byt _ _ _ _ _ _ _
      have e52 : (ckB s 1 98 k0 k1 k2 k3).length = 52 := ckB_len _ _ _ _ _ _ _
      have eb : Byt (ckB s 1 98 k0 k1 k2 k3) := ckB_byt _ _ _ _ _ _ _
      have aop := hop 99 (by unfold U64; omega)
      have eop := hop 98 (by unfold U64; omega)
      generalize ckB s 1 99 k0 k1 k2 k3 = ca at hS9 a52 ab aop
      generalize ckB s 1 98 k0 k1 k2 k3 = cb at hS8 e52 eb eop
      refine wp_region_heldL (fun y => Blk y w.heap.size 29 (keyL k0 k1) ∧ Blk y n1 29 (keyL k2 k3)) 12 (by kernel_rfl) rfl ⟨U8.1.drew, V8.1.drew⟩ fun hHeld => ?_
      simp only [List.replicate]
      (refine wpH_take (i := 0) (v := _) (by simp only [List.getElem?_toArray, List.getElem?_cons_succ, List.getElem?_cons_zero]; rfl) (by kernel_rfl) (by kernel_rfl) (by kernel_rfl) (by intro _ _ _ h; exact h) (Or.inl ⟨by rfl, (by intro w' hSw; (try dsimp only at hSw); go_simp; first | done | with_reducible rfl)⟩) (by assumption) ?_; (try simp only [Act.put, List.setIfInBounds_toArray, List.set_cons_zero, List.set_cons_succ]))
      refine wpH_take (i := 1) (v := .agg (keyL k0 k1).toArray) (by simp only [List.getElem?_toArray, List.getElem?_cons_succ, List.getElem?_cons_zero]; rfl) (by kernel_rfl) (by kernel_rfl) (by kernel_rfl) (by intro _ _ _ h; exact h) (yieldsIf_load_mid (by rfl) 29 _ (by rfl) w.heap.size 0 (by rfl) (keyL k0 k1) _ (fun w' h => h.1.range) Tryd.underlying29 rfl sizeKey) (by assumption) ?_
      (try simp only [Act.put, List.setIfInBounds_toArray, List.set_cons_zero, List.set_cons_succ])
      refine wpH_take (i := 2) (v := .agg (keyL k2 k3).toArray) (by simp only [List.getElem?_toArray, List.getElem?_cons_succ, List.getElem?_cons_zero]; rfl) (by kernel_rfl) (by kernel_rfl) (by kernel_rfl) (by intro _ _ _ h; exact h) (yieldsIf_load_mid (by rfl) 29 _ (by rfl) n1 0 (by rfl) (keyL k2 k3) _ (fun w' h => h.2.range) Tryd.underlying29 rfl sizeKey) (by assumption) ?_
      (try simp only [Act.put, List.setIfInBounds_toArray, List.set_cons_zero, List.set_cons_succ])
      (refine wpH_take (i := 5) (v := _) (by simp only [List.getElem?_toArray, List.getElem?_cons_succ, List.getElem?_cons_zero]; rfl) (by kernel_rfl) (by kernel_rfl) (by kernel_rfl) (by intro _ _ _ h; exact h) (Or.inl ⟨by rfl, (by intro w' hSw; (try dsimp only at hSw); go_simp; first | done | with_reducible rfl)⟩) (by assumption) ?_; (try simp only [Act.put, List.setIfInBounds_toArray, List.set_cons_zero, List.set_cons_succ]))
      refine wpH_take (i := 6) (v := .agg (keyL k0 k1).toArray) (by simp only [List.getElem?_toArray, List.getElem?_cons_succ, List.getElem?_cons_zero]; rfl) (by kernel_rfl) (by kernel_rfl) (by kernel_rfl) (by intro _ _ _ h; exact h) (yieldsIf_load_mid (by rfl) 29 _ (by rfl) w.heap.size 0 (by rfl) (keyL k0 k1) _ (fun w' h => h.1.range) Tryd.underlying29 rfl sizeKey) (by assumption) ?_
      (try simp only [Act.put, List.setIfInBounds_toArray, List.set_cons_zero, List.set_cons_succ])
      refine wpH_take (i := 7) (v := .agg (keyL k2 k3).toArray) (by simp only [List.getElem?_toArray, List.getElem?_cons_succ, List.getElem?_cons_zero]; rfl) (by kernel_rfl) (by kernel_rfl) (by kernel_rfl) (by intro _ _ _ h; exact h) (yieldsIf_load_mid (by rfl) 29 _ (by rfl) n1 0 (by rfl) (keyL k2 k3) _ (fun w' h => h.2.range) Tryd.underlying29 rfl sizeKey) (by assumption) ?_
      (try simp only [Act.put, List.setIfInBounds_toArray, List.set_cons_zero, List.set_cons_succ])
      have hE1 := hS9 w8.drew J8.1.drew R8.drew
      (refine wpH_one (i := 3) (by simp only [List.getElem?_toArray, List.getElem?_cons_succ, List.getElem?_cons_zero]; rfl) (by kernel_rfl) (by rfl) ?_; (go_simp; (with_reducible refine hE1.mono ?_); rintro e w9 ⟨A6, c6, rfl, O9, b9⟩; refine ⟨⟨U8.1.drew.below b9 U8.1.lt, V8.1.drew.below b9 V8.1.lt⟩, ?_⟩); (try simp only [Act.put, List.setIfInBounds_toArray, List.set_cons_zero, List.set_cons_succ]))
      have hH9 : Blk w9 w.heap.size 29 (keyL k0 k1) ∧ Blk w9 n1 29 (keyL k2 k3) := ⟨U8.1.drew.below b9 U8.1.lt, V8.1.drew.below b9 V8.1.lt⟩
      have b9' : Below w8.heap.size w8 w9 := (Below.refl _ w8).drew.trans b9
      have U9 := U8.below b9'
      have V9 := V8.below b9'
      have J9 := J8.below b9'
      have C9 := C8.below b9'
      have R9 := R8.below b9' R8.lt
      have B9 := B8.trans (b9'.mono B8.size)
      (refine wpH_take (i := 4) (v := _) (by simp only [List.getElem?_toArray, List.getElem?_cons_succ, List.getElem?_cons_zero]; rfl) (by kernel_rfl) (by kernel_rfl) (by kernel_rfl) (by intro _ _ _ h; exact h) (Or.inl ⟨by rfl, (by intro w' hSw; (try dsimp only at hSw); go_simp; first | done | with_reducible rfl)⟩) (by assumption) ?_; (try simp only [Act.put, List.setIfInBounds_toArray, List.set_cons_zero, List.set_cons_succ]))
      have hE2 := hS8 w9 J9.1 R9
      (refine wpH_one (i := 8) (by simp only [List.getElem?_toArray, List.getElem?_cons_succ, List.getElem?_cons_zero]; rfl) (by kernel_rfl) (by rfl) ?_; (go_simp; (with_reducible refine hE2.mono ?_); rintro e w10 ⟨A7, c7, rfl, O10, b10⟩; refine ⟨⟨hH9.1.below b10 hH9.1.lt, hH9.2.below b10 hH9.2.lt⟩, ?_⟩); (try simp only [Act.put, List.setIfInBounds_toArray, List.set_cons_zero, List.set_cons_succ]))
      have hH10 : Blk w10 w.heap.size 29 (keyL k0 k1) ∧ Blk w10 n1 29 (keyL k2 k3) := ⟨hH9.1.below b10 hH9.1.lt, hH9.2.below b10 hH9.2.lt⟩
      have U10 := U9.below b10
      have V10 := V9.below b10
      have J10 := J9.below b10
      have C10 := C9.below b10
      have R10 := R9.below b10 R9.lt
      have B10 := B9.trans (b10.mono B9.size)
      have O9' := O9.below b10 (Nat.le_refl _)
      (refine wpH_take (i := 9) (v := _) (by simp only [List.getElem?_toArray, List.getElem?_cons_succ, List.getElem?_cons_zero]; rfl) (by kernel_rfl) (by kernel_rfl) (by kernel_rfl) (by intro _ _ _ h; exact h) (Or.inl ⟨by rfl, (by intro w' hSw; (try dsimp only at hSw); go_simp; first | done | with_reducible rfl)⟩) (by assumption) ?_; (try simp only [Act.put, List.setIfInBounds_toArray, List.set_cons_zero, List.set_cons_succ]))
      (refine wpH_one (i := 10) (by simp only [List.getElem?_toArray, List.getElem?_cons_succ, List.getElem?_cons_zero]; rfl) (by kernel_rfl) (by rfl) ?_; (go_simp; refine ⟨⟨hH10.1.old, hH10.2.old⟩, ?_⟩); (try simp only [Act.put, List.setIfInBounds_toArray, List.set_cons_zero, List.set_cons_succ]))
      obtain ⟨w11, hw11⟩ : ∃ w11, w11 = w10.alloc (.cells #[.int .i64 772, .slice A6 52 c6, .int .i64 772, .slice A7 52 c7] 62) := ⟨_, rfl⟩
      rw [← hw11]
      have b11 : Below w10.heap.size w10 w11 := by rw [hw11]; exact (Below.refl _ _).alloc (Nat.le_refl _) _
      have N11 : Blk w11 w10.heap.size 62 [.int .i64 772, .slice A6 52 c6, .int .i64 772, .slice A7 52 c7] := by rw [hw11]; exact Blk.new w10 _ _ _ rfl
      clear hw11
      have U11 := U10.below b11
      have V11 := V10.below b11
      have J11 := J10.below b11
      have C11 := C10.below b11
      have R11 := R10.below b11 R10.lt
      have B11 := B10.trans (b11.mono B10.size)
      obtain ⟨r6, rfl, hr6a, hr6b⟩ : ∃ r6, A6 = some ⟨r6, 0, none⟩ ∧ w8.heap.size ≤ r6 ∧ r6 < w9.heap.size := by
        rcases O9.form with ⟨_, e, _⟩ | ⟨g, e1, e2, e3⟩
        · rw [e] at a52; cases a52
        · exact ⟨g, e1, e2, e3⟩
      obtain ⟨r7, rfl, hr7a, hr7b⟩ : ∃ r7, A7 = some ⟨r7, 0, none⟩ ∧ w9.heap.size ≤ r7 ∧ r7 < w10.heap.size := by
        rcases O10.form with ⟨_, e, _⟩ | ⟨g, e1, e2, e3⟩
        · rw [e] at e52; cases e52
        · exact ⟨g, e1, e2, e3⟩
      have z89 := b9'.size
      have z910 := b10.size
      have X11 : X2 w11 G w10.heap.size ca cb := ⟨r6, c6, r7, c7, ⟨N11, fun hm => by have := (C8.rng _ hm).2; omega⟩, ⟨(O9'.below b11 (Nat.le_refl _)).wide (Nat.zero_le _), fun hm => by have := (C8.rng r6 hm).2; omega⟩, ⟨(O10.below b11 (Nat.le_refl _)).wide (Nat.zero_le _), fun hm => by have := (C8.rng r7 hm).2; omega⟩⟩
      have hH11 : Blk w11 w.heap.size 29 (keyL k0 k1) ∧ Blk w11 n1 29 (keyL k2 k3) := ⟨U11.1, V11.1⟩
      (refine wpH_take (i := 11) (v := _) (by simp only [List.getElem?_toArray, List.getElem?_cons_succ, List.getElem?_cons_zero]; rfl) (by kernel_rfl) (by kernel_rfl) (by kernel_rfl) (by intro _ _ _ h; exact h) (Or.inl ⟨by rfl, (by intro w' hSw; (try dsimp only at hSw); go_simp; first | done | with_reducible rfl)⟩) (by assumption) ?_; (try simp only [Act.put, List.setIfInBounds_toArray, List.set_cons_zero, List.set_cons_succ]))
      refine wpH_done (by kernel_rfl) ?_ _
      clear hHeld hE1 hE2 hH9 hH10 hH11 U8 V8 J8 C8 R8 B8 U9 V9 J9 C9 R9 B9 U10 V10 J10 C10 R10 B10 O9 O9' O10 b9 b9' b10 b11 N11 hS9 hS8 hr6a hr6b hr7a hr7b z89 z910
      generalize w10.heap.size = be at *
      go_wp2_with fail
      have hae : w8.heap.size ≤ w8.heap.size := Nat.le_refl _
      have hcr := fun i (hi : i < 11) => crs_facts 2 (by omega) i hi
      go_loopw [13, 70] (fun l i wr => ∃ k : Nat, k ≤ 11 ∧ i = .int .i64 k ∧ ∃ T A n c G CK, l = .slice A n c ∧ RpLs wr lo G T A n c ∧ Hid (n = k) ∧ Hid (∀ j t, T[j]? = some t → ∃ ck, ck.length = 52 ∧ Byt ck ∧ opV s 1 1 ck = .tuple #[keyV k0 k1, keyV k2 k3, .int .i64 0] ∧ t.2.2 = rpM (idN j) ck (twoL ca cb) k2 k3) ∧ Cli wr lo bc G k0 k1 k2 k3 CK k ((wtS 7 k).map idN) ∧ Hid (CK.length = ckS 7 k) ∧ Hid (∀ d ∈ CK, opV s 1 1 d = .tuple #[keyV k0 k1, keyV k2 k3, .int .i64 0]) ∧ BlG wr G w.heap.size 29 (keyL k0 k1) ∧ BlG wr G n1 29 (keyL k2 k3) ∧ BlG wr G bj 84 (jarL s 1 1) ∧ X2 wr G be ca cb ∧ Rnd wr ∧ Below w.heap.size w wr) (fun _ i _ => 11 - (intOf i).toNat)
      case atStart => exact ⟨0, by omega, rfl, [], none, 0, 0, G, M, rfl, RpLs.nil _ _ _, rfl, (fun j t ht => by simp at ht), C11, hML, hMo, U11, V11, J11, X11, R11, B11⟩
      case round =>
        obtain ⟨k, hk, rfl, T, A, n, c, G, CK, rfl, L0, hnk, hT, C0, hCL, hCo, U0, V0, J0, X0, R0, B0⟩ := hrel
        clear C11 hML hMo U11 V11 J11 X11 R11 B11
        by_cases hlt : k < 11
        · obtain ⟨hf1, hf2, hf3, hf4⟩ : 1 ≤ ckS 7 k ∧ ckS 7 k ≤ 8 ∧ (wtS 7 k).length ≤ 8 ∧ (∀ x ∈ wtS 7 k, x < k) := hcr k hlt
          obtain ⟨c0, CK', rfl⟩ : ∃ c0 CK', CK = c0 :: CK' := by
            rcases CK with _ | ⟨c0, CK'⟩
            · have := hCL.out; simp at this; omega
            · exact ⟨c0, CK', rfl⟩
          have hCl : Hid (CK'.length + 1 = ckS 7 k) := by
            show _ = _
            simpa using hCL.out
          have hl8 : CK'.length + 1 ≤ 8 := by have := hCl.out; omega
          have hop0 := hCo.out c0 (by simp)
          have hCo' : Hid (∀ d ∈ CK', opV s 1 1 d = .tuple #[keyV k0 k1, keyV k2 k3, .int .i64 0]) := fun d hd => hCo.out d (by simp [hd])
          obtain ⟨h52, hcb⟩ := C0.lens.1 c0 (by simp)
          have j0 : (0 : Int) ≤ k := by omega
          have j1 : (k : Int) < 11 := by omega
          have hn11 : n ≤ 11 := by have := hnk.out; omega
          clear hCL hCo
          go_wp2_with fail
          with_reducible refine (head_any _).mono ?_
          rintro e w9 ⟨rfl, b9⟩
          have U9 := U0.below b9
          have V9 := V0.below b9
          have J9 := J0.below b9
          have C9 := C0.below b9
          have R9 := R0.below b9 R0.lt
          have B9 := B0.trans (b9.mono B0.size)
          have L9 := L0.below b9
          have X9 : X2 _ _ be ca cb := X0.below b9
          clear U0 V0 J0 C0 R0 B0 L0 X0 b9
          go_wp2_with fail
          have hxw : U64 (k : Int) := by unfold U64; omega
          have i3 : IntKind.u64.wrap (k : Int) = k := by rw [IntKind.wrap_u64]; omega
          have hRQ := t_req k C9 hk0 hk1 (by omega) hxw R9 hlo hl8 (by rw [List.length_map]; exact hf3)
          with_reducible refine hRQ.mono ?_
          rintro e w10 ⟨r, cr, G', rfl, M10, C10, K10, n10⟩
          have U10 := U9.go K10 n10
          have V10 := V9.go K10 n10
          have J10 := J9.go K10 n10
          have L10 := L9.go K10 n10
          have X10 := X9.go K10 n10
          have R10 := R9.go K10 (C9.low hlo)
          have B10 : Below w.heap.size w _ := K10.toBelow B9 B9.size (fun g hg => by have := (C9.rng g hg).1; omega)
          have hcrc := M10.1.cap_le
          have hcrm := M10.1.cap_max
          have hml := rqM_len ((k : Int) + 1) k k0 k1 h52
          rw [show ((r, cr, rqM ((k : Int) + 1) k c0 k0 k1) : CkT).2.2 = rqM ((k : Int) + 1) k c0 k0 k1 from rfl, hml] at hcrc
          rw [wtN_idN] at C10
          obtain ⟨V, hV⟩ : ∃ V, V = (if (wtS 7 k).length = 8 then (wtS 7 k).drop 1 else wtS 7 k) ++ [k] := ⟨_, rfl⟩
          rw [← hV] at C10
          have hi1 := idN_len k
          have hi2 := idN_byt k
          clear U9 V9 J9 C9 R9 B9 L9 X9 K10 n10 hRQ hml
          go_wp2_with fail
          have hOPN := t_open (c := cr) ((k : Int) + 1) k J10.1 hs hg ⟨by omega, by omega⟩ R10 h52 hcb hop0 (M10.1.bs.wide (Nat.zero_le _) (Nat.le_refl _)) hcrc hcrm
          rw [show idB ((k : Int) + 1) k = idN k from rfl] at hOPN
          with_reducible refine hOPN.mono ?_
          rintro e w14 ⟨rt, ct, rfl, I14, b14⟩
          have U14 := U10.below b14
          have V14 := V10.below b14
          have J14 := J10.below b14
          have C14 := C10.below b14
          have R14 := R10.below b14 R10.lt
          have B14 := B10.trans (b14.mono B10.size)
          have L14 := L10.below b14
          have X14 : X2 _ _ be ca cb := X10.below b14
          have hlt14 := I14.blt rt rfl
          have hti : rt ∉ G' := by
            intro hm
            have := (C10.rng rt hm).2
            omega
          have I14' : Ck w14 w10.heap.size G' (rt, ct, idN k) := ⟨I14, hti⟩
          clear U10 V10 J10 C10 R10 B10 L10 X10 M10 b14 I14 hOPN
          go_wp2_with (first
            | ((refine wpl_alloc (by rfl) 27 (by rfl) (.agg (zN).toArray) (zN) zeroNtp rfl ?_; intro w15 P15 s15 b15); (have T15 := U14))
            | ((refine wpl_alloc (by rfl) 31 (by rfl) (.agg (tktL none 0 0 0 0 0 0).toArray) (tktL none 0 0 0 0 0 0) zeroTk rfl ?_; intro w16 T16 s16 b16); (have P16 := P15.below b16 (by omega)))
            | ((refine wpl_store (by rfl) 27 _ _ (by rfl) w14.heap.size (by rfl) _ (by rfl) _ rfl 27 _ P16 (by rfl) _ sizeNtp (by rfl) (by simp [Value.oneCell']) ?_; intro w17 P17 s17 g17); (have T17 := T16.but g17 (by omega)))
            | ((refine wpl_store (by rfl) 31 _ _ (by rfl) w15.heap.size (by rfl) _ (by rfl) _ rfl 31 _ T17 (by rfl) _ sizeTk (by rfl) (by simp [Value.oneCell']) ?_; intro w18 T18 s18 g18); (have P18 := P17.but g18 (by omega))))
          have g15 : Below w14.heap.size w14 w18 := ((b15.trans (b16.mono b15.size)).trans (But.below (g := w14.heap.size) g17 (by omega) (Nat.le_refl _))).trans (But.below (g := w15.heap.size) g18 (by omega) b15.size)
          have n15 : w15.heap.size ∉ G' := fun hm => by have := (C14.rng _ hm).2; omega
          have U18 := U14.below g15
          have V18 := V14.below g15
          have J18 := J14.below g15
          have C18 := C14.below g15
          have R18 := R14.below g15 R14.lt
          have B18 := B14.trans (g15.mono B14.size)
          have L18 := L14.below g15
          have X18 : X2 _ _ be ca cb := X14.below g15
          have I18 := I14'.below g15
          have hcap := I18.1.cap_le
          rw [show ((rt, ct, idN k) : CkT).2.2 = idN k from rfl, hi1] at hcap
          clear U14 V14 J14 C14 R14 B14 L14 X14 I14' b15 b16 g17 g18 g15 P15 P16 P17 P18 T15 T16 T17 s15 s16 s17 s18
          generalize hy : w15.heap.size = bt at *
          clear hy
          refine wp_region_heldL (fun y => Blk y bt 31 (tktL (some ⟨rt, 0, none⟩) 16 ct k0 k1 k2 k3)) 12 (by kernel_rfl) rfl T18.drew fun hHeld => ?_
          simp only [List.replicate]
          (refine wpH_take (i := 0) (v := _) (by simp only [List.getElem?_toArray, List.getElem?_cons_succ, List.getElem?_cons_zero]; rfl) (by kernel_rfl) (by kernel_rfl) (by kernel_rfl) (by intro _ _ _ h; exact h) (Or.inl ⟨by rfl, (by intro w' hSw; (try dsimp only at hSw); go_simp; first | done | with_reducible rfl)⟩) (by assumption) ?_; (try simp only [Act.put, List.setIfInBounds_toArray, List.set_cons_zero, List.set_cons_succ]))
          refine wpH_take (i := 1) (v := .agg (tktL (some ⟨rt, 0, none⟩) 16 ct k0 k1 k2 k3).toArray) (by simp only [List.getElem?_toArray, List.getElem?_cons_succ, List.getElem?_cons_zero]; rfl) (by kernel_rfl) (by kernel_rfl) (by kernel_rfl) (by intro _ _ _ h; exact h) (yieldsIf_load_mid (by rfl) 31 _ (by rfl) bt 0 (by rfl) (tktL (some ⟨rt, 0, none⟩) 16 ct k0 k1 k2 k3) _ (fun w' h => h.range) Tryd.underlying31 rfl sizeTk) (by assumption) ?_
          (try simp only [Act.put, List.setIfInBounds_toArray, List.set_cons_zero, List.set_cons_succ])
          (refine wpH_take (i := 3) (v := _) (by simp only [List.getElem?_toArray, List.getElem?_cons_succ, List.getElem?_cons_zero]; rfl) (by kernel_rfl) (by kernel_rfl) (by kernel_rfl) (by intro _ _ _ h; exact h) (Or.inl ⟨by rfl, (by intro w' hSw; (try dsimp only at hSw); go_simp; first | done | with_reducible rfl)⟩) (by assumption) ?_; (try simp only [Act.put, List.setIfInBounds_toArray, List.set_cons_zero, List.set_cons_succ]))
          (refine wpH_take (i := 4) (v := _) (by simp only [List.getElem?_toArray, List.getElem?_cons_succ, List.getElem?_cons_zero]; rfl) (by kernel_rfl) (by kernel_rfl) (by kernel_rfl) (by intro _ _ _ h; exact h) (Or.inl ⟨by rfl, (by intro w' hSw; (try dsimp only at hSw); go_simp; first | done | with_reducible rfl)⟩) (by assumption) ?_; (try simp only [Act.put, List.setIfInBounds_toArray, List.set_cons_zero, List.set_cons_succ]))
          (refine wpH_take (i := 5) (v := _) (by simp only [List.getElem?_toArray, List.getElem?_cons_succ, List.getElem?_cons_zero]; rfl) (by kernel_rfl) (by kernel_rfl) (by kernel_rfl) (by intro _ _ _ h; exact h) (Or.inl ⟨by rfl, (by intro w' hSw; (try dsimp only at hSw); go_simp; first | done | with_reducible rfl)⟩) (by assumption) ?_; (try simp only [Act.put, List.setIfInBounds_toArray, List.set_cons_zero, List.set_cons_succ]))
          have hhd := head_any w18.drew
          (refine wpH_one (i := 2) (by simp only [List.getElem?_toArray, List.getElem?_cons_succ, List.getElem?_cons_zero]; rfl) (by kernel_rfl) (by rfl) ?_; (go_simp; (with_reducible refine hhd.mono ?_); rintro e w19 ⟨rfl, b19⟩; refine ⟨T18.drew.below b19 T18.lt, ?_⟩); (try simp only [Act.put, List.setIfInBounds_toArray, List.set_cons_zero, List.set_cons_succ]))
          have b19' : Below w18.heap.size w18 w19 := (Below.refl _ w18).drew.trans b19
          have U19 := U18.below b19'
          have V19 := V18.below b19'
          have J19 := J18.below b19'
          have C19 := C18.below b19'
          have R19 := R18.below b19' R18.lt
          have B19 := B18.trans (b19'.mono B18.size)
          have L19 := L18.below b19'
          have X19 : X2 _ _ be ca cb := X18.below b19'
          have I19 := I18.below b19'
          have T19 := T18.drew.below b19 T18.lt
          have hREP := t_rep2 (ci := ct) (ca := ca) (cb := cb) k (some ⟨be, 0, none⟩) 2 (X19.xs a52 e52) (by simp) (by omega) (by omega) a52 e52 ab eb J19.1 hs hg R19 hxw hk0 hk1 hk2 hk3 hi1 (I19.1.bs.wide (Nat.zero_le _) (Nat.le_refl _)) hcap I19.1.cap_max
          (refine wpH_one (i := 6) (by simp only [List.getElem?_toArray, List.getElem?_cons_succ, List.getElem?_cons_zero]; rfl) (by kernel_rfl) (by rfl) ?_; (go_simp; (with_reducible refine hREP.mono ?_); rintro e w20 ⟨Ar, car, rfl, O20, b20⟩; refine ⟨T19.below b20 T19.lt, ?_⟩); (try simp only [Act.put, List.setIfInBounds_toArray, List.set_cons_zero, List.set_cons_succ]))
          have U20 := U19.below b20
          have V20 := V19.below b20
          have J20 := J19.below b20
          have C20 := C19.below b20
          have R20 := R19.below b20 R19.lt
          have B20 := B19.trans (b20.mono B19.size)
          have L20 := L19.below b20
          have X20 : X2 _ _ be ca cb := X19.below b20
          have T20 := T19.below b20 T19.lt
          (refine wpH_take (i := 7) (v := _) (by simp only [List.getElem?_toArray, List.getElem?_cons_succ, List.getElem?_cons_zero]; rfl) (by kernel_rfl) (by kernel_rfl) (by kernel_rfl) (by intro _ _ _ h; exact h) (Or.inl ⟨by rfl, (by intro w' hSw; (try dsimp only at hSw); go_simp; first | done | with_reducible rfl)⟩) (by assumption) ?_; (try simp only [Act.put, List.setIfInBounds_toArray, List.set_cons_zero, List.set_cons_succ]))
          (refine wpH_take (i := 8) (v := _) (by simp only [List.getElem?_toArray, List.getElem?_cons_succ, List.getElem?_cons_zero]; rfl) (by kernel_rfl) (by kernel_rfl) (by kernel_rfl) (by intro _ _ _ h; exact h) (Or.inl ⟨by rfl, (by intro w' hSw; (try dsimp only at hSw); go_simp; first | done | with_reducible rfl)⟩) (by assumption) ?_; (try simp only [Act.put, List.setIfInBounds_toArray, List.set_cons_zero, List.set_cons_succ]))
          (refine wpH_take (i := 9) (v := _) (by simp only [List.getElem?_toArray, List.getElem?_cons_succ, List.getElem?_cons_zero]; rfl) (by kernel_rfl) (by kernel_rfl) (by kernel_rfl) (by intro _ _ _ h; exact h) (Or.inl ⟨by rfl, (by intro w' hSw; (try dsimp only at hSw); go_simp; first | done | with_reducible rfl)⟩) (by assumption) ?_; (try simp only [Act.put, List.setIfInBounds_toArray, List.set_cons_zero, List.set_cons_succ]))
          (refine wpH_take (i := 10) (v := _) (by simp only [List.getElem?_toArray, List.getElem?_cons_succ, List.getElem?_cons_zero]; rfl) (by kernel_rfl) (by kernel_rfl) (by kernel_rfl) (by intro _ _ _ h; exact h) (Or.inl ⟨by rfl, (by intro w' hSw; (try dsimp only at hSw); go_simp; first | done | with_reducible rfl)⟩) (by assumption) ?_; (try simp only [Act.put, List.setIfInBounds_toArray, List.set_cons_zero, List.set_cons_succ]))
          (refine wpH_take (i := 11) (v := _) (by simp only [List.getElem?_toArray, List.getElem?_cons_succ, List.getElem?_cons_zero]; rfl) (by kernel_rfl) (by kernel_rfl) (by kernel_rfl) (by intro _ _ _ h; exact h) (Or.inl ⟨by rfl, (by intro w' hSw; (try dsimp only at hSw); go_simp; first | done | with_reducible rfl)⟩) (by assumption) ?_; (try simp only [Act.put, List.setIfInBounds_toArray, List.set_cons_zero, List.set_cons_succ]))
          refine wpH_done (by kernel_rfl) ?_ _
          have hk52 : (ckB s 1 k k0 k1 k2 k3).length = 52 := ckB_len _ _ _ _ _ _ _
          have hkb : Byt (ckB s 1 k k0 k1 k2 k3) := ckB_byt _ _ _ _ _ _ _
          have hopN := hop k hxw
          generalize ckB s 1 k k0 k1 k2 k3 = CKn at *
          have hRl := rpM_len2 k2 k3 hi1 hk52 a52 e52
          have hcar := O20.cap_le
          rw [hRl] at hcar
          have hcarm := O20.cap_max
          obtain ⟨rr, rfl, hrr⟩ : ∃ rr, Ar = some ⟨rr, 0, none⟩ ∧ rr ∉ G' ∧ lo ≤ rr ∧ rr < w20.heap.size := by
            rcases O20.form with ⟨_, e, _⟩ | ⟨rr, e1, e2, e3⟩
            · rw [e] at hRl; cases hRl
            · exact ⟨rr, e1, fun hm => by have := (C19.rng _ hm).2; omega, by have := C19.rng bc (by obtain ⟨g1, g2, _, _, _, _, _, _, _, rfl, _⟩ := C19; simp); omega, e3⟩
          have M20 : Ck w20 lo G' (rr, car, rpM (idN k) CKn (twoL ca cb) k2 k3) := ⟨O20.wide (by have := C19.rng bc (by obtain ⟨g1, g2, _, _, _, _, _, _, _, rfl, _⟩ := C19; simp); omega), hrr.1⟩
          clear hHeld hREP hhd T18 T19 T20 U18 V18 J18 C18 R18 B18 L18 X18 I18 U19 V19 J19 C19 R19 B19 L19 X19 I19 b19 b19' b20 O20
          have bA : Below w20.heap.size w20 (w20.alloc (.cells #[.slice (some ⟨rr, 0, none⟩) 248 car] 23)) := (Below.refl _ w20).alloc (Nat.le_refl _) _
          have U21 := U20.below bA
          have V21 := V20.below bA
          have J21 := J20.below bA
          have C21 := C20.below bA
          have R21 := R20.below bA R20.lt
          have B21 := B20.trans (bA.mono B20.size)
          have L21 := L20.below bA
          have X21 : X2 _ _ be ca cb := X20.below bA
          have M21 := M20.below bA
          have NA := Blk.new w20 23 #[.slice (some ⟨rr, 0, none⟩) 248 car] [.slice (some ⟨rr, 0, none⟩) 248 car] rfl
          clear U20 V20 J20 C20 R20 B20 L20 X20 M20 bA
          have hT9 : Hid (∀ j t, (T ++ [(rr, car, rpM (idN k) CKn (twoL ca cb) k2 k3)])[j]? = some t → ∃ ck, ck.length = 52 ∧ Byt ck ∧ opV s 1 1 ck = .tuple #[keyV k0 k1, keyV k2 k3, .int .i64 0] ∧ t.2.2 = rpM (idN j) ck (twoL ca cb) k2 k3) := fun j t ht => by
            by_cases hj : j < T.length
            · rw [List.getElem?_append_left hj] at ht; exact hT.out j t ht
            · have hj2 := (List.getElem?_eq_some_iff.1 ht).1
              rw [List.length_append, List.length_singleton] at hj2
              obtain rfl : j = T.length := by omega
              rw [List.getElem?_append_right (Nat.le_refl _), Nat.sub_self] at ht
              obtain rfl := Option.some.inj ht
              have hTk : T.length = k := by rw [L21.tn]; exact hnk.out
              rw [hTk]
              exact ⟨CKn, hk52, hkb, hopN.out, rfl⟩
          have hnk9 : Hid (n + 1 = k + 1) := by show _ = _; rw [hnk.out]
          have hGl : ∀ x ∈ G', x < (w20.alloc (.cells #[.slice (some ⟨rr, 0, none⟩) 248 car] 23)).heap.size := fun x hx => (C21.rng x hx).2
          have i2 : IntKind.i64.wrap ((k : Int) + 1) = (k : Int) + 1 := IntWalk.i64_in _ (by omega)
          by_cases hka : k = 7
          · skip
            have hAi : ((k : Int) == 7) = true := by rw [beq_iff_eq]; omega
            go_wp2_with (first
              | (refine wpl_append_sl (by rfl) (.tmp 108) (.tmp 110) 51 (by rfl) 23 (.slice none 0 0) 1 24 Tryd.underlying51 infoSl rfl (by omega) (.slice A n c) n (T.map ckV) lo (by rfl) L21.row ⟨w20.heap.size, 0, none⟩ 1 1 (by rfl) [.slice (some ⟨rr, 0, none⟩) 248 car] rfl (cells2_of NA) (by simp [Value.oneCell']) (by omega) (by omega) (by have := C21.rng bc (by obtain ⟨g1, g2, _, _, _, _, _, _, _, rfl, _⟩ := C21; simp); omega) ?_; intro v9 w9 R9 K9 H9))
            obtain ⟨A9, c9, rfl, L9⟩ := L21.push (t := (rr, car, rpM (idN k) CKn (twoL ca cb) k2 k3)) M21 hGl (by
              rw [show ckV (rr, car, rpM (idN k) CKn (twoL ca cb) k2 k3) = .slice (some ⟨rr, 0, none⟩) 248 car from by show Value.slice _ (rpM (idN k) CKn (twoL ca cb) k2 k3).length _ = _; rw [hRl]]
              exact R9) K9 H9
            have KF := kp_grown K9
            have TF := L21.ty
            have U9 := U21.kpf KF TF (by decide)
            have V9 := V21.kpf KF TF (by decide)
            have J9 := J21.kpf KF TF (by decide)
            have X9 := X21.kpf KF TF
            have C9 := C21.kpf KF TF L21.ng
            have R9' : Rnd w9 := R21.go KF (fun hm => by have := (L21.rng 0 hm).1; omega)
            have B9 : Below w.heap.size w w9 := KF.toBelow B21 B21.size (fun x hx => by have := (L21.rng x hx).1; omega)
            have M9 := M21.kp KF (TF.ck M21) M21.2
            have hVe : V = (if (wtS 7 7).length = 8 then (wtS 7 7).drop 1 else wtS 7 7) ++ [7] := by rw [hV, hka]
            have hV1 : (V.map idN).length ≤ 8 := by rw [List.length_map, hVe]; decide
            have hV2 : 7 < (V.map idN).length := by rw [List.length_map, hVe]; decide
            have hV3 : V.findIdx? (· == 7) = some 7 := by rw [hVe]; decide
            have hV4 : ∀ x ∈ V, x < 200 := by rw [hVe]; decide
            have hV5 : V.take 7 ++ V.drop (7 + 1) = wtS 7 (7 + 1) := by rw [hVe]; decide
            have hF : fiI (V.map idN) (idN k) = ((7 : Nat) : Int) := by rw [fiI_idN V k (by omega) hV4, hka, hV3]
            have hACC := t_acc2 (c := car) 7 C9 hk2 hk3 R9' (by omega) hV1 hi1 hk52 hi2 hkb a52 e52 ab eb hV2 hF (M9.1.bs.wide (Nat.zero_le _) (Nat.le_refl _)) hcar hcarm
            rw [del_idN, hV5] at hACC
            with_reducible refine hACC.mono ?_
            rintro e w22 ⟨P1, q1, G2, rfl, C22, K22, n22⟩
            have U22 := U9.go K22 n22
            have V22 := V9.go K22 n22
            have J22 := J9.go K22 n22
            have L22 := L9.go K22 n22
            have X22 := X9.go K22 n22
            have R22 := R9'.go K22 (C9.low hlo)
            have B22 : Below w.heap.size w w22 := K22.toBelow B9 B9.size (fun g hg => by have := (C9.rng g hg).1; omega)
            have hCL2 : Hid ((ckN CK' [CKn, ca, cb]).length = ckS 7 (k + 1)) := by
              show _ = _
              have := hCl.out
              simp only [ckS, if_pos hka]
              unfold ckN
              rw [List.length_take, List.length_append]
              simp only [List.length_cons, List.length_nil]
              omega
            have hCo2 : Hid (∀ d ∈ ckN CK' [CKn, ca, cb], opV s 1 1 d = .tuple #[keyV k0 k1, keyV k2 k3, .int .i64 0]) := fun d hd => by
              have hd := List.mem_of_mem_take hd
              rw [List.mem_append] at hd
              rcases hd with hd | hd
              · exact hCo'.out d hd
              · have : d = CKn ∨ d = ca ∨ d = cb := by simpa using hd
                rcases this with rfl | rfl | rfl
                · exact hopN.out
                · exact aop.out
                · exact eop.out
            clear hACC U9 V9 J9 L9 X9 R9' B9 C9 K22 n22 U21 V21 J21 C21 R21 B21 L21 X21 M21 NA KF TF R9 K9 H9 M9
            go_wp2_with (first
              | ((refine wpl_alloc (by rfl) 27 (by rfl) (.agg (zN).toArray) (zN) zeroNtp rfl ?_; intro w23 H23 s23 b23))
              | (refine wpl_store (by rfl) 27 _ _ (by rfl) w22.heap.size (by rfl) _ (by rfl) [.int .i64 0, .int .i64 4, .int .i64 3, .int .i64 0, .int .i64 0, .int .i64 0, .int .u32 0, .int .u32 0, .int .u32 0, .int .u64 0, .int .u64 0, .int .u64 0, .int .u64 9] rfl 27 _ H23 (by rfl) _ sizeNtp (by rfl) (by simp [Value.oneCell']) ?_; intro w24 H24 s24 g24))
            have g22 : Below w22.heap.size w22 w24 := b23.trans (But.below (g := w22.heap.size) g24 (by omega) (Nat.le_refl _))
            have U24 := U22.below g22
            have V24 := V22.below g22
            have J24 := J22.below g22
            have C24 := C22.below g22
            have R24 := R22.below g22 R22.lt
            have B24 := B22.trans (g22.mono B22.size)
            have L24 := L22.below g22
            have X24 : X2 _ _ be ca cb := X22.below g22
            have hW : wtS 7 (7 + 1) = wtS 7 (k + 1) := by rw [hka]
            rw [hW] at C24
            exact ⟨⟨k + 1, by omega, by go_num, _, A9, n + 1, c9, G2, ckN CK' [CKn, ca, cb], rfl, L24, hnk9, hT9, C24, hCL2, hCo2, U24, V24, J24, X24, R24, B24⟩, by simp [intOf]; omega⟩
          · have hAi : ((k : Int) == 7) = false := by rw [beq_eq_false_iff_ne]; omega
            go_wp2_with (first
              | (refine wpl_append_sl (by rfl) (.tmp 108) (.tmp 110) 51 (by rfl) 23 (.slice none 0 0) 1 24 Tryd.underlying51 infoSl rfl (by omega) (.slice A n c) n (T.map ckV) lo (by rfl) L21.row ⟨w20.heap.size, 0, none⟩ 1 1 (by rfl) [.slice (some ⟨rr, 0, none⟩) 248 car] rfl (cells2_of NA) (by simp [Value.oneCell']) (by omega) (by omega) (by have := C21.rng bc (by obtain ⟨g1, g2, _, _, _, _, _, _, _, rfl, _⟩ := C21; simp); omega) ?_; intro v9 w9 R9 K9 H9))
            obtain ⟨A9, c9, rfl, L9⟩ := L21.push (t := (rr, car, rpM (idN k) CKn (twoL ca cb) k2 k3)) M21 hGl (by
              rw [show ckV (rr, car, rpM (idN k) CKn (twoL ca cb) k2 k3) = .slice (some ⟨rr, 0, none⟩) 248 car from by show Value.slice _ (rpM (idN k) CKn (twoL ca cb) k2 k3).length _ = _; rw [hRl]]
              exact R9) K9 H9
            have KF := kp_grown K9
            have TF := L21.ty
            have U9 := U21.kpf KF TF (by decide)
            have V9 := V21.kpf KF TF (by decide)
            have J9 := J21.kpf KF TF (by decide)
            have X9 := X21.kpf KF TF
            have C9 := C21.kpf KF TF L21.ng
            have R9' : Rnd w9 := R21.go KF (fun hm => by have := (L21.rng 0 hm).1; omega)
            have B9 : Below w.heap.size w w9 := KF.toBelow B21 B21.size (fun x hx => by have := (L21.rng x hx).1; omega)
            have hW : wtS 7 (k + 1) = V := by rw [hV]; simp only [wtS, if_neg hka]
            have hC9 : Hid (CK'.length = ckS 7 (k + 1)) := by
              show _ = _
              have := hCl.out
              simp only [ckS, if_neg hka]
              omega
            rw [← hW] at C9
            exact ⟨⟨k + 1, by omega, by go_num, _, A9, n + 1, c9, G', CK', rfl, L9, hnk9, hT9, C9, hC9, hCo', U9, V9, J9, X9, R9', B9⟩, by simp [intOf]; omega⟩
        · have hkN : k = 11 := by omega
          have hkd : decide ((k : Int) < 11) = false := decide_eq_false (by omega)
          have hnN : Hid (n = 11) := by show _ = _; rw [hnk.out, hkN]
          have hC8 : Hid (CK.length ≤ 8) := by
            show _ ≤ _
            rw [hCL.out, hkN]; decide
          have hw3 : wtS 7 k = wt3 2 0 := by rw [hkN]; decide
          rw [hw3] at C0
          clear hCL hCo hw3 U0 V0 J0 X0 hcr hae hlt hkN hk hnk
          go_wp2_with fail
          go_loopw [127] (fun i wr => ∃ j : Nat, j ≤ n ∧ i = .int .i64 j ∧ ∃ G CK, RpLs wr lo G T A n c ∧ Cli wr lo bc G k0 k1 k2 k3 CK k ((wt3 2 j).map idN) ∧ Hid (CK.length ≤ 8) ∧ Rnd wr ∧ Below w.heap.size w wr) (fun i _ => n - (intOf i).toNat)
          case atStart => exact ⟨0, by omega, rfl, G, CK, L0, C0, hC8, R0, B0⟩
          case round =>
            obtain ⟨j, hj, rfl, G, CK, L1, C1, hCK, R1, B1⟩ := hrel
            clear L0 C0 hC8 R0 B0
            by_cases hlt : j < n
            · have hlN : j < 11 := by have := hnN.out; omega
              obtain ⟨g, t, rfl, hTj, hc0, hM⟩ := L1.at hlt
              obtain ⟨ck, q1, q2, q3, q4⟩ := hT.out j t hTj
              obtain ⟨tb, tc, tl⟩ := t
              have q4 : tl = rpM (idN j) ck (twoL ca cb) k2 k3 := q4
              subst q4
              have hRl := rpM_len2 k2 k3 (idN_len j) q1 a52 e52
              have hc : wr.cell? ⟨g, j, none⟩ = some (.slice (some ⟨tb, 0, none⟩) 248 tc) := by
                rw [hc0]
                show some (Value.slice _ (rpM (idN j) ck (twoL ca cb) k2 k3).length _) = _
                rw [hRl]
              have hcap := hM.1.cap_le
              have hcapm := hM.1.cap_max
              rw [show ((tb, tc, rpM (idN j) ck (twoL ca cb) k2 k3) : CkT).2.2 = rpM (idN j) ck (twoL ca cb) k2 k3 from rfl, hRl] at hcap
              have j0 : (0 : Int) ≤ j := by omega
              have j1 : (j : Int) < n := by omega
              have hBs := hM.1.bs.wide (Nat.zero_le _) (Nat.le_refl _)
              obtain ⟨hwl, hwx, hww0⟩ := wt3_facts 2 (by omega) j hlN
              have hwl' : ((wt3 2 j).map idN).length ≤ 8 := by rw [List.length_map]; exact hwl
              clear hTj hM hRl hc0
              have i2 : IntKind.i64.wrap ((j : Int) + 1) = (j : Int) + 1 := IntWalk.i64_in _ (by omega)
              have hww : if j ≠ 7 ∧ 11 ≤ j + 9 then (wt3 2 j).findIdx? (· == j) = some 0 ∧ (wt3 2 j).drop 1 = wt3 2 (j + 1) else (wt3 2 j).findIdx? (· == j) = none ∧ wt3 2 j = wt3 2 (j + 1) := hww0
              clear hww0
              by_cases hcs : j ≠ 7 ∧ 11 ≤ j + 9
              · rw [if_pos hcs] at hww
                obtain ⟨hfi, hdr0⟩ := hww
                have hF : fiI ((wt3 2 j).map idN) (idN j) = ((0 : Nat) : Int) := by rw [fiI_idN _ j (by omega) hwx, hfi]
                have hdr := Lib.hid hdr0
                clear hdr0
                have hpos : 0 < ((wt3 2 j).map idN).length := by
                  rw [List.length_map]
                  exact (List.findIdx?_eq_some_iff_getElem.1 hfi).choose
                have hne : ((j : Int) != 7) = true := by rw [bne_iff_ne]; omega
                have hge : decide ((2 : Int) ≤ j) = true := decide_eq_true (by omega)
                go_wp2_with fail
                have hACC := t_acc2 (c := tc) 0 C1 hk2 hk3 R1 hCK.out hwl' (idN_len j) q1 (idN_byt j) q2 a52 e52 ab eb hpos hF hBs hcap hcapm
                rw [show ((wt3 2 j).map idN).take 0 ++ ((wt3 2 j).map idN).drop (0 + 1) = (wt3 2 (j + 1)).map idN from by rw [← hdr.out]; simp [List.map_drop]] at hACC
                with_reducible refine hACC.mono ?_
                rintro e w22 ⟨P1, q1', G2, rfl, C22, K22, n22⟩
                have L22 := L1.go K22 n22
                have R22 := R1.go K22 (C1.low hlo)
                have B22 : Below w.heap.size w w22 := K22.toBelow B1 B1.size (fun g hg => by have := (C1.rng g hg).1; omega)
                have hCK2 : Hid ((ckN CK [ck, ca, cb]).length ≤ 8) := ckN_len _ _
                have hc8 : decide ((8 : Int) < ((ckN CK [ck, ca, cb]).length : Int)) = false := decide_eq_false (by have := hCK2.out; omega)
                clear hACC K22 n22 L1 C1 R1 B1 hBs hfi hF hpos hdr hwl hwl' hwx hcs q1 q2 q3 hcap hcapm
                go_wp2_with (first
                  | ((refine wpl_alloc (by rfl) 27 (by rfl) (.agg (zN).toArray) (zN) zeroNtp rfl ?_; intro w23 H23 s23 b23))
                  | (refine wpl_store (by rfl) 27 _ _ (by rfl) w22.heap.size (by rfl) _ (by rfl) [.int .i64 0, .int .i64 4, .int .i64 3, .int .i64 0, .int .i64 0, .int .i64 0, .int .u32 0, .int .u32 0, .int .u32 0, .int .u64 0, .int .u64 0, .int .u64 0, .int .u64 9] rfl 27 _ H23 (by rfl) _ sizeNtp (by rfl) (by simp [Value.oneCell']) ?_; intro w24 H24 s24 g24; have g22 : Below w22.heap.size w22 w24 := b23.trans (But.below (g := w22.heap.size) g24 (by omega) (Nat.le_refl _)); have C24 := C22.below g22)
                  | (go_at_call 23; (have hCC := ccount C24); ((with_reducible refine hCC.mono ?_); rintro e' y1 ⟨rfl, rfl⟩)))
                have g22 : Below w22.heap.size w22 w24 := b23.trans (But.below (g := w22.heap.size) g24 (by omega) (Nat.le_refl _))
                exact ⟨⟨j + 1, by omega, by go_num, G2, _, L22.below g22, C24, hCK2, R22.below g22 R22.lt, B22.trans (g22.mono B22.size)⟩, by simp [intOf]; omega⟩
              · rw [if_neg hcs] at hww
                obtain ⟨hfi, hdr0⟩ := hww
                have hF : fiI ((wt3 2 j).map idN) (idN j) = -1 := by rw [fiI_idN _ j (by omega) hwx, hfi]
                have hdr := Lib.hid hdr0
                clear hdr0
                have hc8 : decide ((8 : Int) < (CK.length : Int)) = false := decide_eq_false (by have := hCK.out; omega)
                go_wp2_with fail
                have hACC := t_none2 (c := tc) C1 hk2 hk3 R1 hCK.out hwl' (idN_len j) q1 (idN_byt j) q2 a52 e52 ab eb hF hBs hcap hcapm
                rw [hdr.out] at C1
                with_reducible refine hACC.mono ?_
                rintro e w22 ⟨rfl, b22⟩
                have L22 := L1.below b22
                have C22 := C1.below b22
                have R22 := R1.below b22 R1.lt
                have B22 := B1.trans (b22.mono B1.size)
                clear hACC b22 L1 C1 R1 B1 hBs hfi hF hdr hwl hwl' hwx q1 q2 q3 hcap hcapm
                by_cases hai : (j : Int) = 7
                · skip
                  have hne : ((j : Int) != 7) = false := by rw [bne_eq_false_iff_eq]; exact hai
                  go_wp2_with (first
                    | ((refine wpl_alloc (by rfl) 27 (by rfl) (.agg (zN).toArray) (zN) zeroNtp rfl ?_; intro w23 H23 s23 b23))
                    | (refine wpl_store (by rfl) 27 _ _ (by rfl) w22.heap.size (by rfl) _ (by rfl) [.int .i64 0, .int .i64 0, .int .i64 0, .int .i64 0, .int .i64 0, .int .i64 0, .int .u32 0, .int .u32 0, .int .u32 0, .int .u64 0, .int .u64 0, .int .u64 0, .int .u64 0] rfl 27 _ H23 (by rfl) _ sizeNtp (by rfl) (by simp [Value.oneCell']) ?_; intro w24 H24 s24 g24; have g22 : Below w22.heap.size w22 w24 := b23.trans (But.below (g := w22.heap.size) g24 (by omega) (Nat.le_refl _)); have C24 := C22.below g22)
                    | (go_at_call 23; (have hCC := ccount C24); ((with_reducible refine hCC.mono ?_); rintro e' y1 ⟨rfl, rfl⟩)))
                  have g22 : Below w22.heap.size w22 w24 := b23.trans (But.below (g := w22.heap.size) g24 (by omega) (Nat.le_refl _))
                  exact ⟨⟨j + 1, by omega, by go_num, G, CK, L22.below g22, C24, hCK, R22.below g22 R22.lt, B22.trans (g22.mono B22.size)⟩, by simp [intOf]; omega⟩
                · skip
                  have hne : ((j : Int) != 7) = true := by rw [bne_iff_ne]; exact hai
                  have hge : decide ((2 : Int) ≤ j) = false := decide_eq_false (by omega)
                  go_wp2_with (first
                    | ((refine wpl_alloc (by rfl) 27 (by rfl) (.agg (zN).toArray) (zN) zeroNtp rfl ?_; intro w23 H23 s23 b23))
                    | (refine wpl_store (by rfl) 27 _ _ (by rfl) w22.heap.size (by rfl) _ (by rfl) [.int .i64 0, .int .i64 0, .int .i64 0, .int .i64 0, .int .i64 0, .int .i64 0, .int .u32 0, .int .u32 0, .int .u32 0, .int .u64 0, .int .u64 0, .int .u64 0, .int .u64 0] rfl 27 _ H23 (by rfl) _ sizeNtp (by rfl) (by simp [Value.oneCell']) ?_; intro w24 H24 s24 g24; have g22 : Below w22.heap.size w22 w24 := b23.trans (But.below (g := w22.heap.size) g24 (by omega) (Nat.le_refl _)); have C24 := C22.below g22)
                    | (go_at_call 23; (have hCC := ccount C24); ((with_reducible refine hCC.mono ?_); rintro e' y1 ⟨rfl, rfl⟩)))
                  have g22 : Below w22.heap.size w22 w24 := b23.trans (But.below (g := w22.heap.size) g24 (by omega) (Nat.le_refl _))
                  exact ⟨⟨j + 1, by omega, by go_num, G, CK, L22.below g22, C24, hCK, R22.below g22 R22.lt, B22.trans (g22.mono B22.size)⟩, by simp [intOf]; omega⟩
            · obtain rfl : j = n := by omega
              go_wp2_with (first
                | (go_at_call 10; ((with_reducible refine (awake_any _ R1).mono ?_); rintro e w36 ⟨rfl, b36⟩)))
              go_ret
              exact ⟨rfl, B1.trans (b36.mono B1.size)⟩
set_option maxRecDepth 100000 in
set_option maxHeartbeats 16000000 in
theorem waits_zero (k0 k1 k2 k3 s f : Int) (w : World) (d1 : (f % 3 == 1) = false) (d2 : (f % 3 == 2) = false) (hk0 : U64 k0) (hk1 : U64 k1) (hk2 : U64 k2) (hk3 : U64 k3) (hs : U64 s) (hf : 0 ≤ f ∧ f ≤ 255) (hR : Rnd w) :
    Calls Tryd.prog 6 #[keyV k0 k1, keyV k2 k3, .int .u64 s, .int .u8 f] w fun e w' => e = .returned (.bool true) ∧ Below w.heap.size w w' := by
  have hw0 := hR.lt
  have hg : Gn 1 := ⟨by omega, by omega⟩
  have hst : staleB 1 1 1 = false := by unfold staleB; rw [decide_eq_false (by omega : ¬ (1 : Int) ≤ 1 - 1)]; decide
  have hop : ∀ x, U64 x → Hid (opV s 1 1 (ckB s 1 x k0 k1 k2 k3) = .tuple #[keyV k0 k1, keyV k2 k3, .int .i64 0]) := fun x hx => by
    show _ = _
    rw [ck_open hg hx hk0 hk1 hk2 hk3, hst]; rfl
  have hSe := fun bj x W (hx : U64 x) hJ hR => seal_any bj s 1 1 k0 k1 k2 k3 x W hs hg hx hk0 hk1 hk2 hk3 hJ hR
  go_enter Tryd.func6, Tryd.ntmps6
  go_wp2_with (first
    | (refine wpl_box (by rfl) 29 _ (by rfl) _ (keyL k0 k1) (by rfl) rfl ?_; intro w1 U1 s1 b1)
    | ((refine wpl_box (by rfl) 29 _ (by rfl) _ (keyL k2 k3) (by rfl) rfl ?_; intro w2 V2 s2 b2); (have U2 := U1.below b2 (by omega)); (have B2 := b1.trans (b2.mono (by omega))))
    | (go_at_call 12; ((with_reducible refine (new_some s 1 _ (by omega) (by omega)).mono ?_); rintro e w5 ⟨rfl, J5, b5⟩; (have U5 := U2.below b5 U2.lt); (have V5 := V2.below b5 V2.lt); (have B5 := B2.trans (b5.mono B2.size)))))
  have R5 := hR.below B5 hw0
  have z14 : w1.heap.size < w2.heap.size := by omega
  have z01 : w.heap.size < w1.heap.size := s1
  clear U1 U2 V2 b1 b2 b5 B2 s1 s2
  generalize hq1 : w1.heap.size = n1 at *
  generalize hq4 : w2.heap.size = bj at *
  clear hq1 hq4
  go_loopw [10, 35] (fun l i wr => ∃ k : Nat, k ≤ 8 ∧ i = .int .i64 k ∧ ∃ g T A n c, l = .slice A n c ∧ CkLs wr bj g T A n c ∧ Hid (n = k) ∧ Hid (∀ t ∈ T, ∃ x, U64 x ∧ t.2.2 = ckB s 1 x k0 k1 k2 k3) ∧ Blk wr w.heap.size 29 (keyL k0 k1) ∧ Blk wr n1 29 (keyL k2 k3) ∧ Blk wr bj 84 (jarL s 1 1) ∧ Rnd wr ∧ Below w.heap.size w wr) (fun _ i _ => 8 - (intOf i).toNat)
  case atStart => exact ⟨0, by omega, rfl, bj, [], none, 0, 0, rfl, CkLs.nil J5.lt, rfl, fun t ht => by (cases ht), U5, V5, J5, R5, B5⟩
  case round =>
    obtain ⟨k, hk, rfl, g, T, A, n, c, rfl, hC, hnk, hT, hU, hV, hJ, hRr, hB⟩ := hrel
    obtain ⟨wo, rfl⟩ : ∃ wo : World, wo = wr := ⟨wr, rfl⟩
    clear U5 V5 J5 R5 B5
    by_cases hlt : k < 8
    · have i0 : (0 : Int) ≤ k := by omega
      have i1 : (k : Int) < 8 := by omega
      have hx : U64 (k : Int) := by unfold U64; omega
      have i3 : IntKind.u64.wrap (k : Int) = k := by rw [IntKind.wrap_u64]; omega
      have hSE := fun W hJ hR => hSe bj k W hx hJ hR
      go_wp2_with (first
        | (refine wpl_load (by rfl) 29 _ (by rfl) w.heap.size (by rfl) 29 _ hU _ Tryd.underlying29 rfl _ sizeKey (by rfl) ?_)
        | (refine wpl_load (by rfl) 29 _ (by rfl) n1 (by rfl) 29 _ hV _ Tryd.underlying29 rfl _ sizeKey (by rfl) ?_))
      have h52 : (ckB s 1 k k0 k1 k2 k3).length = 52 := ckB_len _ _ _ _ _ _ _
      have hSE' := hSE wo hJ hRr
      have hCKe : Hid (∃ x, U64 x ∧ ckB s 1 k k0 k1 k2 k3 = ckB s 1 x k0 k1 k2 k3) := ⟨k, hx, rfl⟩
      have i2 : IntKind.i64.wrap ((k : Int) + 1) = (k : Int) + 1 := IntWalk.i64_in _ (by omega)
      generalize ckB s 1 k k0 k1 k2 k3 = CK at hSE' hCKe h52
      with_reducible refine hSE'.mono ?_
      rintro e w6 ⟨A6, c6, rfl, O6, b6⟩
      obtain ⟨g6, rfl, hg6a, hg6b⟩ : ∃ g6, A6 = some ⟨g6, 0, none⟩ ∧ wo.heap.size ≤ g6 ∧ g6 < w6.heap.size := by
        rcases O6.form with ⟨_, e, _⟩ | ⟨g, e1, e2, e3⟩
        · rw [e] at h52; cases h52
        · exact ⟨g, e1, e2, e3⟩
      have hn8 : n ≤ 8 := by have := hnk.out; omega
      have hgl := hC.lt
      have hbl := hJ.lt
      have C6 := hC.below b6 (Nat.le_refl _)
      have U6 := hU.below b6 hU.lt
      have V6 := hV.below b6 hV.lt
      have J6 := hJ.below b6 hJ.lt
      have R6 := hRr.below b6 hRr.lt
      have B6 := hB.trans (b6.mono hB.size)
      clear hSE' hSE hC hU hV hJ hRr hB b6
      have zU := U6.lt
      have zV := V6.lt
      have zJ := J6.lt
      have bA : Below w6.heap.size w6 (w6.alloc (.cells #[.slice (some ⟨g6, 0, none⟩) 52 c6] 23)) := (Below.refl _ w6).alloc (Nat.le_refl _) _
      have CA := C6.below bA (Nat.le_refl _)
      have OA := O6.below bA (Nat.le_refl _)
      have UA := U6.below bA U6.lt
      have VA := V6.below bA V6.lt
      have JA := J6.below bA J6.lt
      have RA := R6.below bA R6.lt
      have BA := B6.trans (bA.mono B6.size)
      have NA := Blk.new w6 23 #[.slice (some ⟨g6, 0, none⟩) 52 c6] [.slice (some ⟨g6, 0, none⟩) 52 c6] rfl
      clear C6 O6 U6 V6 J6 R6 B6 bA
      go_wp2_with (first
        | (refine wpl_append_rw (by rfl) 51 23 (.slice none 0 0) 24 (.tmp 38) (.tmp 45) (by rfl) Tryd.underlying51 infoSl (by rfl) (by omega) (by rfl) CA.row ⟨w6.heap.size, 0, none⟩ 1 1 [.slice (some ⟨g6, 0, none⟩) 52 c6] (by rfl) rfl (by omega) (cells2_of NA) (by simp [Value.oneCell']) (by omega) (by omega) (by have := JA.lt; intro k hk; rw [List.mem_singleton.1 hk]; exact this) ?_; intro g9 A9 c9 w9 R9 K9 G9 L9))
      have hdu := fun {q : Nat} (hq : q ≤ bj) => CA.fp hq
      have C9 : CkLs w9 bj g9 (T ++ [(g6, c6, CK)]) A9 (n + 1) c9 := CkLs.push (t := (g6, c6, CK)) CA (OA.wide (by omega)) h52 (by show g6 ≠ g; omega) (by
          rw [show ckV (g6, c6, CK) = .slice (some ⟨g6, 0, none⟩) 52 c6 from by show Value.slice _ CK.length _ = _; rw [h52]]; exact R9) K9 G9 L9
      have hU9 := K9.blk UA (hdu (by omega))
      have hV9 := K9.blk VA (hdu (by omega))
      have hJ9 := K9.blk JA (hdu (Nat.le_refl _))
      have hR9 := K9.rnd RA (hdu (by omega))
      have hB9 : Below w.heap.size w w9 := K9.toBelow BA BA.size (fun q hq => by
        obtain ⟨hc, rfl⟩ := fp_mem hq
        have := CA.lo1
        omega)
      have hnk9 : Hid (n + 1 = k + 1) := by show _ = _; rw [hnk.out]
      have hT9 : Hid (∀ t ∈ T ++ [(g6, c6, CK)], ∃ x, U64 x ∧ t.2.2 = ckB s 1 x k0 k1 k2 k3) := fun t ht => by
        rw [List.mem_append] at ht
        rcases ht with ht | ht
        · exact hT.out t ht
        · rw [List.mem_singleton.1 ht]; exact hCKe.out
      exact ⟨⟨k + 1, by omega, by go_num, g9, _, A9, n + 1, c9, rfl, C9, hnk9, hT9, hU9, hV9, hJ9, hR9, hB9⟩, by simp [intOf]; omega⟩
    · obtain rfl : k = 8 := by omega
      go_wp2_with (first
        | (refine wpl_load (by rfl) 29 _ (by rfl) w.heap.size (by rfl) 29 _ hU _ Tryd.underlying29 rfl _ sizeKey (by rfl) ?_)
        | (refine wpl_load (by rfl) 29 _ (by rfl) n1 (by rfl) 29 _ hV _ Tryd.underlying29 rfl _ sizeKey (by rfl) ?_))
      have hnk' := hnk.out
      obtain ⟨M, hMe⟩ : ∃ M, T.map (fun t : CkT => t.2.2) = M := ⟨_, rfl⟩
      have hML : M.length = n := by rw [← hMe, List.length_map]; exact hC.tn
      have hMo : Hid (∀ d ∈ M, opV s 1 1 d = .tuple #[keyV k0 k1, keyV k2 k3, .int .i64 0]) := fun d hd => by
        rw [← hMe] at hd
        obtain ⟨t, ht, rfl⟩ := List.mem_map.1 hd
        obtain ⟨x, hx, e⟩ := hT.out t ht
        show opV s 1 1 t.2.2 = _
        rw [e]; exact (hop x hx).out
      have hM52 : ∀ d ∈ M, d.length = 52 := fun d hd => by
        rw [← hMe] at hd
        obtain ⟨t, ht, rfl⟩ := List.mem_map.1 hd
        exact (hC.ck t ht).2
      have hLs := hC.ls
      rw [hMe] at hLs
      have hNC := cnew k0 k1 k2 k3 A n c M wo (by omega) hML hLs hC.row.2.1 hM52
      with_reducible refine hNC.mono ?_
      rintro e w8 ⟨bc, G, rfl, C8, b8⟩
      have U8 : BlG w8 G w.heap.size 29 (keyL k0 k1) := ⟨hU.below b8 hU.lt, C8.low hU.lt⟩
      have V8 : BlG w8 G n1 29 (keyL k2 k3) := ⟨hV.below b8 hV.lt, C8.low hV.lt⟩
      have J8 : BlG w8 G bj 84 (jarL s 1 1) := ⟨hJ.below b8 hJ.lt, C8.low hJ.lt⟩
      have R8 := hRr.below b8 hRr.lt
      have B8 := hB.trans (b8.mono hB.size)
      have hlo : 0 < wo.heap.size := hRr.lt
      have hlow : w.heap.size ≤ wo.heap.size := hB.size
      rw [hnk'] at hML
      have hSf := hSe
      clear hNC hLs hMe hM52 hC hU hV hJ hRr hB b8 hT hnk hnk' hlt hk hSe
      generalize wo.heap.size = lo at *
      go_wp2_with fail
      have hS9 := fun W hJ hR => hSf bj 99 W (by unfold U64; omega) hJ hR
      have hS8 := fun W hJ hR => hSf bj 98 W (by unfold U64; omega) hJ hR
      have a52 : (ckB s 1 99 k0 k1 k2 k3).length = 52 := ckB_len _ _ _ _ _ _ _
      have ab : Byt (ckB s 1 99 k0 k1 k2 k3) := ckB_byt _ _ _ _ _ _ _
      have e52 : (ckB s 1 98 k0 k1 k2 k3).length = 52 := ckB_len _ _ _ _ _ _ _
      have eb : Byt (ckB s 1 98 k0 k1 k2 k3) := ckB_byt _ _ _ _ _ _ _
      have aop := hop 99 (by unfold U64; omega)
      have eop := hop 98 (by unfold U64; omega)
      generalize ckB s 1 99 k0 k1 k2 k3 = ca at hS9 a52 ab aop
      generalize ckB s 1 98 k0 k1 k2 k3 = cb at hS8 e52 eb eop
      refine wp_region_heldL (fun y => Blk y w.heap.size 29 (keyL k0 k1) ∧ Blk y n1 29 (keyL k2 k3)) 12 (by kernel_rfl) rfl ⟨U8.1.drew, V8.1.drew⟩ fun hHeld => ?_
      simp only [List.replicate]
      (refine wpH_take (i := 0) (v := _) (by simp only [List.getElem?_toArray, List.getElem?_cons_succ, List.getElem?_cons_zero]; rfl) (by kernel_rfl) (by kernel_rfl) (by kernel_rfl) (by intro _ _ _ h; exact h) (Or.inl ⟨by rfl, (by intro w' hSw; (try dsimp only at hSw); go_simp; first | done | with_reducible rfl)⟩) (by assumption) ?_; (try simp only [Act.put, List.setIfInBounds_toArray, List.set_cons_zero, List.set_cons_succ]))
      refine wpH_take (i := 1) (v := .agg (keyL k0 k1).toArray) (by simp only [List.getElem?_toArray, List.getElem?_cons_succ, List.getElem?_cons_zero]; rfl) (by kernel_rfl) (by kernel_rfl) (by kernel_rfl) (by intro _ _ _ h; exact h) (yieldsIf_load_mid (by rfl) 29 _ (by rfl) w.heap.size 0 (by rfl) (keyL k0 k1) _ (fun w' h => h.1.range) Tryd.underlying29 rfl sizeKey) (by assumption) ?_
      (try simp only [Act.put, List.setIfInBounds_toArray, List.set_cons_zero, List.set_cons_succ])
      refine wpH_take (i := 2) (v := .agg (keyL k2 k3).toArray) (by simp only [List.getElem?_toArray, List.getElem?_cons_succ, List.getElem?_cons_zero]; rfl) (by kernel_rfl) (by kernel_rfl) (by kernel_rfl) (by intro _ _ _ h; exact h) (yieldsIf_load_mid (by rfl) 29 _ (by rfl) n1 0 (by rfl) (keyL k2 k3) _ (fun w' h => h.2.range) Tryd.underlying29 rfl sizeKey) (by assumption) ?_
      (try simp only [Act.put, List.setIfInBounds_toArray, List.set_cons_zero, List.set_cons_succ])
      (refine wpH_take (i := 5) (v := _) (by simp only [List.getElem?_toArray, List.getElem?_cons_succ, List.getElem?_cons_zero]; rfl) (by kernel_rfl) (by kernel_rfl) (by kernel_rfl) (by intro _ _ _ h; exact h) (Or.inl ⟨by rfl, (by intro w' hSw; (try dsimp only at hSw); go_simp; first | done | with_reducible rfl)⟩) (by assumption) ?_; (try simp only [Act.put, List.setIfInBounds_toArray, List.set_cons_zero, List.set_cons_succ]))
      refine wpH_take (i := 6) (v := .agg (keyL k0 k1).toArray) (by simp only [List.getElem?_toArray, List.getElem?_cons_succ, List.getElem?_cons_zero]; rfl) (by kernel_rfl) (by kernel_rfl) (by kernel_rfl) (by intro _ _ _ h; exact h) (yieldsIf_load_mid (by rfl) 29 _ (by rfl) w.heap.size 0 (by rfl) (keyL k0 k1) _ (fun w' h => h.1.range) Tryd.underlying29 rfl sizeKey) (by assumption) ?_
      (try simp only [Act.put, List.setIfInBounds_toArray, List.set_cons_zero, List.set_cons_succ])
      refine wpH_take (i := 7) (v := .agg (keyL k2 k3).toArray) (by simp only [List.getElem?_toArray, List.getElem?_cons_succ, List.getElem?_cons_zero]; rfl) (by kernel_rfl) (by kernel_rfl) (by kernel_rfl) (by intro _ _ _ h; exact h) (yieldsIf_load_mid (by rfl) 29 _ (by rfl) n1 0 (by rfl) (keyL k2 k3) _ (fun w' h => h.2.range) Tryd.underlying29 rfl sizeKey) (by assumption) ?_
      (try simp only [Act.put, List.setIfInBounds_toArray, List.set_cons_zero, List.set_cons_succ])
      have hE1 := hS9 w8.drew J8.1.drew R8.drew
      (refine wpH_one (i := 3) (by simp only [List.getElem?_toArray, List.getElem?_cons_succ, List.getElem?_cons_zero]; rfl) (by kernel_rfl) (by rfl) ?_; (go_simp; (with_reducible refine hE1.mono ?_); rintro e w9 ⟨A6, c6, rfl, O9, b9⟩; refine ⟨⟨U8.1.drew.below b9 U8.1.lt, V8.1.drew.below b9 V8.1.lt⟩, ?_⟩); (try simp only [Act.put, List.setIfInBounds_toArray, List.set_cons_zero, List.set_cons_succ]))
      have hH9 : Blk w9 w.heap.size 29 (keyL k0 k1) ∧ Blk w9 n1 29 (keyL k2 k3) := ⟨U8.1.drew.below b9 U8.1.lt, V8.1.drew.below b9 V8.1.lt⟩
      have b9' : Below w8.heap.size w8 w9 := (Below.refl _ w8).drew.trans b9
      have U9 := U8.below b9'
      have V9 := V8.below b9'
      have J9 := J8.below b9'
      have C9 := C8.below b9'
      have R9 := R8.below b9' R8.lt
      have B9 := B8.trans (b9'.mono B8.size)
      (refine wpH_take (i := 4) (v := _) (by simp only [List.getElem?_toArray, List.getElem?_cons_succ, List.getElem?_cons_zero]; rfl) (by kernel_rfl) (by kernel_rfl) (by kernel_rfl) (by intro _ _ _ h; exact h) (Or.inl ⟨by rfl, (by intro w' hSw; (try dsimp only at hSw); go_simp; first | done | with_reducible rfl)⟩) (by assumption) ?_; (try simp only [Act.put, List.setIfInBounds_toArray, List.set_cons_zero, List.set_cons_succ]))
      have hE2 := hS8 w9 J9.1 R9
      (refine wpH_one (i := 8) (by simp only [List.getElem?_toArray, List.getElem?_cons_succ, List.getElem?_cons_zero]; rfl) (by kernel_rfl) (by rfl) ?_; (go_simp; (with_reducible refine hE2.mono ?_); rintro e w10 ⟨A7, c7, rfl, O10, b10⟩; refine ⟨⟨hH9.1.below b10 hH9.1.lt, hH9.2.below b10 hH9.2.lt⟩, ?_⟩); (try simp only [Act.put, List.setIfInBounds_toArray, List.set_cons_zero, List.set_cons_succ]))
      have hH10 : Blk w10 w.heap.size 29 (keyL k0 k1) ∧ Blk w10 n1 29 (keyL k2 k3) := ⟨hH9.1.below b10 hH9.1.lt, hH9.2.below b10 hH9.2.lt⟩
      have U10 := U9.below b10
      have V10 := V9.below b10
      have J10 := J9.below b10
      have C10 := C9.below b10
      have R10 := R9.below b10 R9.lt
      have B10 := B9.trans (b10.mono B9.size)
      have O9' := O9.below b10 (Nat.le_refl _)
      (refine wpH_take (i := 9) (v := _) (by simp only [List.getElem?_toArray, List.getElem?_cons_succ, List.getElem?_cons_zero]; rfl) (by kernel_rfl) (by kernel_rfl) (by kernel_rfl) (by intro _ _ _ h; exact h) (Or.inl ⟨by rfl, (by intro w' hSw; (try dsimp only at hSw); go_simp; first | done | with_reducible rfl)⟩) (by assumption) ?_; (try simp only [Act.put, List.setIfInBounds_toArray, List.set_cons_zero, List.set_cons_succ]))
      (refine wpH_one (i := 10) (by simp only [List.getElem?_toArray, List.getElem?_cons_succ, List.getElem?_cons_zero]; rfl) (by kernel_rfl) (by rfl) ?_; (go_simp; refine ⟨⟨hH10.1.old, hH10.2.old⟩, ?_⟩); (try simp only [Act.put, List.setIfInBounds_toArray, List.set_cons_zero, List.set_cons_succ]))
      obtain ⟨w11, hw11⟩ : ∃ w11, w11 = w10.alloc (.cells #[.int .i64 772, .slice A6 52 c6, .int .i64 772, .slice A7 52 c7] 62) := ⟨_, rfl⟩
      rw [← hw11]
      have b11 : Below w10.heap.size w10 w11 := by rw [hw11]; exact (Below.refl _ _).alloc (Nat.le_refl _) _
      have N11 : Blk w11 w10.heap.size 62 [.int .i64 772, .slice A6 52 c6, .int .i64 772, .slice A7 52 c7] := by rw [hw11]; exact Blk.new w10 _ _ _ rfl
      clear hw11
      have U11 := U10.below b11
      have V11 := V10.below b11
      have J11 := J10.below b11
      have C11 := C10.below b11
      have R11 := R10.below b11 R10.lt
      have B11 := B10.trans (b11.mono B10.size)
      obtain ⟨r6, rfl, hr6a, hr6b⟩ : ∃ r6, A6 = some ⟨r6, 0, none⟩ ∧ w8.heap.size ≤ r6 ∧ r6 < w9.heap.size := by
        rcases O9.form with ⟨_, e, _⟩ | ⟨g, e1, e2, e3⟩
        · rw [e] at a52; cases a52
        · exact ⟨g, e1, e2, e3⟩
      obtain ⟨r7, rfl, hr7a, hr7b⟩ : ∃ r7, A7 = some ⟨r7, 0, none⟩ ∧ w9.heap.size ≤ r7 ∧ r7 < w10.heap.size := by
        rcases O10.form with ⟨_, e, _⟩ | ⟨g, e1, e2, e3⟩
        · rw [e] at e52; cases e52
        · exact ⟨g, e1, e2, e3⟩
      have z89 := b9'.size
      have z910 := b10.size
      have X11 : X2 w11 G w10.heap.size ca cb := ⟨r6, c6, r7, c7, ⟨N11, fun hm => by have := (C8.rng _ hm).2; omega⟩, ⟨(O9'.below b11 (Nat.le_refl _)).wide (Nat.zero_le _), fun hm => by have := (C8.rng r6 hm).2; omega⟩, ⟨(O10.below b11 (Nat.le_refl _)).wide (Nat.zero_le _), fun hm => by have := (C8.rng r7 hm).2; omega⟩⟩
      have hH11 : Blk w11 w.heap.size 29 (keyL k0 k1) ∧ Blk w11 n1 29 (keyL k2 k3) := ⟨U11.1, V11.1⟩
      (refine wpH_take (i := 11) (v := _) (by simp only [List.getElem?_toArray, List.getElem?_cons_succ, List.getElem?_cons_zero]; rfl) (by kernel_rfl) (by kernel_rfl) (by kernel_rfl) (by intro _ _ _ h; exact h) (Or.inl ⟨by rfl, (by intro w' hSw; (try dsimp only at hSw); go_simp; first | done | with_reducible rfl)⟩) (by assumption) ?_; (try simp only [Act.put, List.setIfInBounds_toArray, List.set_cons_zero, List.set_cons_succ]))
      refine wpH_done (by kernel_rfl) ?_ _
      clear hHeld hE1 hE2 hH9 hH10 hH11 U8 V8 J8 C8 R8 B8 U9 V9 J9 C9 R9 B9 U10 V10 J10 C10 R10 B10 O9 O9' O10 b9 b9' b10 b11 N11 hS9 hS8 hr6a hr6b hr7a hr7b z89 z910
      generalize w10.heap.size = be at *
      go_wp2_with fail
      have hae : w8.heap.size ≤ w8.heap.size := Nat.le_refl _
      have hcr := fun i (hi : i < 8) => crs_facts 0 (by omega) i hi
      go_loopw [13, 70] (fun l i wr => ∃ k : Nat, k ≤ 8 ∧ i = .int .i64 k ∧ ∃ T A n c G CK, l = .slice A n c ∧ RpLs wr lo G T A n c ∧ Hid (n = k) ∧ Hid (∀ j t, T[j]? = some t → ∃ ck, ck.length = 52 ∧ Byt ck ∧ opV s 1 1 ck = .tuple #[keyV k0 k1, keyV k2 k3, .int .i64 0] ∧ t.2.2 = rpM (idN j) ck (twoL ca cb) k2 k3) ∧ Cli wr lo bc G k0 k1 k2 k3 CK k ((wtS 99 k).map idN) ∧ Hid (CK.length = ckS 99 k) ∧ Hid (∀ d ∈ CK, opV s 1 1 d = .tuple #[keyV k0 k1, keyV k2 k3, .int .i64 0]) ∧ BlG wr G w.heap.size 29 (keyL k0 k1) ∧ BlG wr G n1 29 (keyL k2 k3) ∧ BlG wr G bj 84 (jarL s 1 1) ∧ X2 wr G be ca cb ∧ Rnd wr ∧ Below w.heap.size w wr) (fun _ i _ => 8 - (intOf i).toNat)
      case atStart => exact ⟨0, by omega, rfl, [], none, 0, 0, G, M, rfl, RpLs.nil _ _ _, rfl, (fun j t ht => by simp at ht), C11, hML, hMo, U11, V11, J11, X11, R11, B11⟩
      case round =>
        obtain ⟨k, hk, rfl, T, A, n, c, G, CK, rfl, L0, hnk, hT, C0, hCL, hCo, U0, V0, J0, X0, R0, B0⟩ := hrel
        clear C11 hML hMo U11 V11 J11 X11 R11 B11
        by_cases hlt : k < 8
        · obtain ⟨hf1, hf2, hf3, hf4⟩ : 1 ≤ ckS 99 k ∧ ckS 99 k ≤ 8 ∧ (wtS 99 k).length ≤ 8 ∧ (∀ x ∈ wtS 99 k, x < k) := hcr k hlt
          obtain ⟨c0, CK', rfl⟩ : ∃ c0 CK', CK = c0 :: CK' := by
            rcases CK with _ | ⟨c0, CK'⟩
            · have := hCL.out; simp at this; omega
            · exact ⟨c0, CK', rfl⟩
          have hCl : Hid (CK'.length + 1 = ckS 99 k) := by
            show _ = _
            simpa using hCL.out
          have hl8 : CK'.length + 1 ≤ 8 := by have := hCl.out; omega
          have hop0 := hCo.out c0 (by simp)
          have hCo' : Hid (∀ d ∈ CK', opV s 1 1 d = .tuple #[keyV k0 k1, keyV k2 k3, .int .i64 0]) := fun d hd => hCo.out d (by simp [hd])
          obtain ⟨h52, hcb⟩ := C0.lens.1 c0 (by simp)
          have j0 : (0 : Int) ≤ k := by omega
          have j1 : (k : Int) < 8 := by omega
          have hn11 : n ≤ 11 := by have := hnk.out; omega
          clear hCL hCo
          go_wp2_with fail
          with_reducible refine (head_any _).mono ?_
          rintro e w9 ⟨rfl, b9⟩
          have U9 := U0.below b9
          have V9 := V0.below b9
          have J9 := J0.below b9
          have C9 := C0.below b9
          have R9 := R0.below b9 R0.lt
          have B9 := B0.trans (b9.mono B0.size)
          have L9 := L0.below b9
          have X9 : X2 _ _ be ca cb := X0.below b9
          clear U0 V0 J0 C0 R0 B0 L0 X0 b9
          go_wp2_with fail
          have hxw : U64 (k : Int) := by unfold U64; omega
          have i3 : IntKind.u64.wrap (k : Int) = k := by rw [IntKind.wrap_u64]; omega
          have hRQ := t_req k C9 hk0 hk1 (by omega) hxw R9 hlo hl8 (by rw [List.length_map]; exact hf3)
          with_reducible refine hRQ.mono ?_
          rintro e w10 ⟨r, cr, G', rfl, M10, C10, K10, n10⟩
          have U10 := U9.go K10 n10
          have V10 := V9.go K10 n10
          have J10 := J9.go K10 n10
          have L10 := L9.go K10 n10
          have X10 := X9.go K10 n10
          have R10 := R9.go K10 (C9.low hlo)
          have B10 : Below w.heap.size w _ := K10.toBelow B9 B9.size (fun g hg => by have := (C9.rng g hg).1; omega)
          have hcrc := M10.1.cap_le
          have hcrm := M10.1.cap_max
          have hml := rqM_len ((k : Int) + 1) k k0 k1 h52
          rw [show ((r, cr, rqM ((k : Int) + 1) k c0 k0 k1) : CkT).2.2 = rqM ((k : Int) + 1) k c0 k0 k1 from rfl, hml] at hcrc
          rw [wtN_idN] at C10
          obtain ⟨V, hV⟩ : ∃ V, V = (if (wtS 99 k).length = 8 then (wtS 99 k).drop 1 else wtS 99 k) ++ [k] := ⟨_, rfl⟩
          rw [← hV] at C10
          have hi1 := idN_len k
          have hi2 := idN_byt k
          clear U9 V9 J9 C9 R9 B9 L9 X9 K10 n10 hRQ hml
          go_wp2_with fail
          have hOPN := t_open (c := cr) ((k : Int) + 1) k J10.1 hs hg ⟨by omega, by omega⟩ R10 h52 hcb hop0 (M10.1.bs.wide (Nat.zero_le _) (Nat.le_refl _)) hcrc hcrm
          rw [show idB ((k : Int) + 1) k = idN k from rfl] at hOPN
          with_reducible refine hOPN.mono ?_
          rintro e w14 ⟨rt, ct, rfl, I14, b14⟩
          have U14 := U10.below b14
          have V14 := V10.below b14
          have J14 := J10.below b14
          have C14 := C10.below b14
          have R14 := R10.below b14 R10.lt
          have B14 := B10.trans (b14.mono B10.size)
          have L14 := L10.below b14
          have X14 : X2 _ _ be ca cb := X10.below b14
          have hlt14 := I14.blt rt rfl
          have hti : rt ∉ G' := by
            intro hm
            have := (C10.rng rt hm).2
            omega
          have I14' : Ck w14 w10.heap.size G' (rt, ct, idN k) := ⟨I14, hti⟩
          clear U10 V10 J10 C10 R10 B10 L10 X10 M10 b14 I14 hOPN
          go_wp2_with (first
            | ((refine wpl_alloc (by rfl) 27 (by rfl) (.agg (zN).toArray) (zN) zeroNtp rfl ?_; intro w15 P15 s15 b15); (have T15 := U14))
            | ((refine wpl_alloc (by rfl) 31 (by rfl) (.agg (tktL none 0 0 0 0 0 0).toArray) (tktL none 0 0 0 0 0 0) zeroTk rfl ?_; intro w16 T16 s16 b16); (have P16 := P15.below b16 (by omega)))
            | ((refine wpl_store (by rfl) 27 _ _ (by rfl) w14.heap.size (by rfl) _ (by rfl) _ rfl 27 _ P16 (by rfl) _ sizeNtp (by rfl) (by simp [Value.oneCell']) ?_; intro w17 P17 s17 g17); (have T17 := T16.but g17 (by omega)))
            | ((refine wpl_store (by rfl) 31 _ _ (by rfl) w15.heap.size (by rfl) _ (by rfl) _ rfl 31 _ T17 (by rfl) _ sizeTk (by rfl) (by simp [Value.oneCell']) ?_; intro w18 T18 s18 g18); (have P18 := P17.but g18 (by omega))))
          have g15 : Below w14.heap.size w14 w18 := ((b15.trans (b16.mono b15.size)).trans (But.below (g := w14.heap.size) g17 (by omega) (Nat.le_refl _))).trans (But.below (g := w15.heap.size) g18 (by omega) b15.size)
          have n15 : w15.heap.size ∉ G' := fun hm => by have := (C14.rng _ hm).2; omega
          have U18 := U14.below g15
          have V18 := V14.below g15
          have J18 := J14.below g15
          have C18 := C14.below g15
          have R18 := R14.below g15 R14.lt
          have B18 := B14.trans (g15.mono B14.size)
          have L18 := L14.below g15
          have X18 : X2 _ _ be ca cb := X14.below g15
          have I18 := I14'.below g15
          have hcap := I18.1.cap_le
          rw [show ((rt, ct, idN k) : CkT).2.2 = idN k from rfl, hi1] at hcap
          clear U14 V14 J14 C14 R14 B14 L14 X14 I14' b15 b16 g17 g18 g15 P15 P16 P17 P18 T15 T16 T17 s15 s16 s17 s18
          generalize hy : w15.heap.size = bt at *
          clear hy
          refine wp_region_heldL (fun y => Blk y bt 31 (tktL (some ⟨rt, 0, none⟩) 16 ct k0 k1 k2 k3)) 12 (by kernel_rfl) rfl T18.drew fun hHeld => ?_
          simp only [List.replicate]
          (refine wpH_take (i := 0) (v := _) (by simp only [List.getElem?_toArray, List.getElem?_cons_succ, List.getElem?_cons_zero]; rfl) (by kernel_rfl) (by kernel_rfl) (by kernel_rfl) (by intro _ _ _ h; exact h) (Or.inl ⟨by rfl, (by intro w' hSw; (try dsimp only at hSw); go_simp; first | done | with_reducible rfl)⟩) (by assumption) ?_; (try simp only [Act.put, List.setIfInBounds_toArray, List.set_cons_zero, List.set_cons_succ]))
          refine wpH_take (i := 1) (v := .agg (tktL (some ⟨rt, 0, none⟩) 16 ct k0 k1 k2 k3).toArray) (by simp only [List.getElem?_toArray, List.getElem?_cons_succ, List.getElem?_cons_zero]; rfl) (by kernel_rfl) (by kernel_rfl) (by kernel_rfl) (by intro _ _ _ h; exact h) (yieldsIf_load_mid (by rfl) 31 _ (by rfl) bt 0 (by rfl) (tktL (some ⟨rt, 0, none⟩) 16 ct k0 k1 k2 k3) _ (fun w' h => h.range) Tryd.underlying31 rfl sizeTk) (by assumption) ?_
          (try simp only [Act.put, List.setIfInBounds_toArray, List.set_cons_zero, List.set_cons_succ])
          (refine wpH_take (i := 3) (v := _) (by simp only [List.getElem?_toArray, List.getElem?_cons_succ, List.getElem?_cons_zero]; rfl) (by kernel_rfl) (by kernel_rfl) (by kernel_rfl) (by intro _ _ _ h; exact h) (Or.inl ⟨by rfl, (by intro w' hSw; (try dsimp only at hSw); go_simp; first | done | with_reducible rfl)⟩) (by assumption) ?_; (try simp only [Act.put, List.setIfInBounds_toArray, List.set_cons_zero, List.set_cons_succ]))
          (refine wpH_take (i := 4) (v := _) (by simp only [List.getElem?_toArray, List.getElem?_cons_succ, List.getElem?_cons_zero]; rfl) (by kernel_rfl) (by kernel_rfl) (by kernel_rfl) (by intro _ _ _ h; exact h) (Or.inl ⟨by rfl, (by intro w' hSw; (try dsimp only at hSw); go_simp; first | done | with_reducible rfl)⟩) (by assumption) ?_; (try simp only [Act.put, List.setIfInBounds_toArray, List.set_cons_zero, List.set_cons_succ]))
          (refine wpH_take (i := 5) (v := _) (by simp only [List.getElem?_toArray, List.getElem?_cons_succ, List.getElem?_cons_zero]; rfl) (by kernel_rfl) (by kernel_rfl) (by kernel_rfl) (by intro _ _ _ h; exact h) (Or.inl ⟨by rfl, (by intro w' hSw; (try dsimp only at hSw); go_simp; first | done | with_reducible rfl)⟩) (by assumption) ?_; (try simp only [Act.put, List.setIfInBounds_toArray, List.set_cons_zero, List.set_cons_succ]))
          have hhd := head_any w18.drew
          (refine wpH_one (i := 2) (by simp only [List.getElem?_toArray, List.getElem?_cons_succ, List.getElem?_cons_zero]; rfl) (by kernel_rfl) (by rfl) ?_; (go_simp; (with_reducible refine hhd.mono ?_); rintro e w19 ⟨rfl, b19⟩; refine ⟨T18.drew.below b19 T18.lt, ?_⟩); (try simp only [Act.put, List.setIfInBounds_toArray, List.set_cons_zero, List.set_cons_succ]))
          have b19' : Below w18.heap.size w18 w19 := (Below.refl _ w18).drew.trans b19
          have U19 := U18.below b19'
          have V19 := V18.below b19'
          have J19 := J18.below b19'
          have C19 := C18.below b19'
          have R19 := R18.below b19' R18.lt
          have B19 := B18.trans (b19'.mono B18.size)
          have L19 := L18.below b19'
          have X19 : X2 _ _ be ca cb := X18.below b19'
          have I19 := I18.below b19'
          have T19 := T18.drew.below b19 T18.lt
          have hREP := t_rep2 (ci := ct) (ca := ca) (cb := cb) k (some ⟨be, 0, none⟩) 2 (X19.xs a52 e52) (by simp) (by omega) (by omega) a52 e52 ab eb J19.1 hs hg R19 hxw hk0 hk1 hk2 hk3 hi1 (I19.1.bs.wide (Nat.zero_le _) (Nat.le_refl _)) hcap I19.1.cap_max
          (refine wpH_one (i := 6) (by simp only [List.getElem?_toArray, List.getElem?_cons_succ, List.getElem?_cons_zero]; rfl) (by kernel_rfl) (by rfl) ?_; (go_simp; (with_reducible refine hREP.mono ?_); rintro e w20 ⟨Ar, car, rfl, O20, b20⟩; refine ⟨T19.below b20 T19.lt, ?_⟩); (try simp only [Act.put, List.setIfInBounds_toArray, List.set_cons_zero, List.set_cons_succ]))
          have U20 := U19.below b20
          have V20 := V19.below b20
          have J20 := J19.below b20
          have C20 := C19.below b20
          have R20 := R19.below b20 R19.lt
          have B20 := B19.trans (b20.mono B19.size)
          have L20 := L19.below b20
          have X20 : X2 _ _ be ca cb := X19.below b20
          have T20 := T19.below b20 T19.lt
          (refine wpH_take (i := 7) (v := _) (by simp only [List.getElem?_toArray, List.getElem?_cons_succ, List.getElem?_cons_zero]; rfl) (by kernel_rfl) (by kernel_rfl) (by kernel_rfl) (by intro _ _ _ h; exact h) (Or.inl ⟨by rfl, (by intro w' hSw; (try dsimp only at hSw); go_simp; first | done | with_reducible rfl)⟩) (by assumption) ?_; (try simp only [Act.put, List.setIfInBounds_toArray, List.set_cons_zero, List.set_cons_succ]))
          (refine wpH_take (i := 8) (v := _) (by simp only [List.getElem?_toArray, List.getElem?_cons_succ, List.getElem?_cons_zero]; rfl) (by kernel_rfl) (by kernel_rfl) (by kernel_rfl) (by intro _ _ _ h; exact h) (Or.inl ⟨by rfl, (by intro w' hSw; (try dsimp only at hSw); go_simp; first | done | with_reducible rfl)⟩) (by assumption) ?_; (try simp only [Act.put, List.setIfInBounds_toArray, List.set_cons_zero, List.set_cons_succ]))
          (refine wpH_take (i := 9) (v := _) (by simp only [List.getElem?_toArray, List.getElem?_cons_succ, List.getElem?_cons_zero]; rfl) (by kernel_rfl) (by kernel_rfl) (by kernel_rfl) (by intro _ _ _ h; exact h) (Or.inl ⟨by rfl, (by intro w' hSw; (try dsimp only at hSw); go_simp; first | done | with_reducible rfl)⟩) (by assumption) ?_; (try simp only [Act.put, List.setIfInBounds_toArray, List.set_cons_zero, List.set_cons_succ]))
          (refine wpH_take (i := 10) (v := _) (by simp only [List.getElem?_toArray, List.getElem?_cons_succ, List.getElem?_cons_zero]; rfl) (by kernel_rfl) (by kernel_rfl) (by kernel_rfl) (by intro _ _ _ h; exact h) (Or.inl ⟨by rfl, (by intro w' hSw; (try dsimp only at hSw); go_simp; first | done | with_reducible rfl)⟩) (by assumption) ?_; (try simp only [Act.put, List.setIfInBounds_toArray, List.set_cons_zero, List.set_cons_succ]))
          (refine wpH_take (i := 11) (v := _) (by simp only [List.getElem?_toArray, List.getElem?_cons_succ, List.getElem?_cons_zero]; rfl) (by kernel_rfl) (by kernel_rfl) (by kernel_rfl) (by intro _ _ _ h; exact h) (Or.inl ⟨by rfl, (by intro w' hSw; (try dsimp only at hSw); go_simp; first | done | with_reducible rfl)⟩) (by assumption) ?_; (try simp only [Act.put, List.setIfInBounds_toArray, List.set_cons_zero, List.set_cons_succ]))
          refine wpH_done (by kernel_rfl) ?_ _
          have hk52 : (ckB s 1 k k0 k1 k2 k3).length = 52 := ckB_len _ _ _ _ _ _ _
          have hkb : Byt (ckB s 1 k k0 k1 k2 k3) := ckB_byt _ _ _ _ _ _ _
          have hopN := hop k hxw
          generalize ckB s 1 k k0 k1 k2 k3 = CKn at *
          have hRl := rpM_len2 k2 k3 hi1 hk52 a52 e52
          have hcar := O20.cap_le
          rw [hRl] at hcar
          have hcarm := O20.cap_max
          obtain ⟨rr, rfl, hrr⟩ : ∃ rr, Ar = some ⟨rr, 0, none⟩ ∧ rr ∉ G' ∧ lo ≤ rr ∧ rr < w20.heap.size := by
            rcases O20.form with ⟨_, e, _⟩ | ⟨rr, e1, e2, e3⟩
            · rw [e] at hRl; cases hRl
            · exact ⟨rr, e1, fun hm => by have := (C19.rng _ hm).2; omega, by have := C19.rng bc (by obtain ⟨g1, g2, _, _, _, _, _, _, _, rfl, _⟩ := C19; simp); omega, e3⟩
          have M20 : Ck w20 lo G' (rr, car, rpM (idN k) CKn (twoL ca cb) k2 k3) := ⟨O20.wide (by have := C19.rng bc (by obtain ⟨g1, g2, _, _, _, _, _, _, _, rfl, _⟩ := C19; simp); omega), hrr.1⟩
          clear hHeld hREP hhd T18 T19 T20 U18 V18 J18 C18 R18 B18 L18 X18 I18 U19 V19 J19 C19 R19 B19 L19 X19 I19 b19 b19' b20 O20
          have bA : Below w20.heap.size w20 (w20.alloc (.cells #[.slice (some ⟨rr, 0, none⟩) 248 car] 23)) := (Below.refl _ w20).alloc (Nat.le_refl _) _
          have U21 := U20.below bA
          have V21 := V20.below bA
          have J21 := J20.below bA
          have C21 := C20.below bA
          have R21 := R20.below bA R20.lt
          have B21 := B20.trans (bA.mono B20.size)
          have L21 := L20.below bA
          have X21 : X2 _ _ be ca cb := X20.below bA
          have M21 := M20.below bA
          have NA := Blk.new w20 23 #[.slice (some ⟨rr, 0, none⟩) 248 car] [.slice (some ⟨rr, 0, none⟩) 248 car] rfl
          clear U20 V20 J20 C20 R20 B20 L20 X20 M20 bA
          have hT9 : Hid (∀ j t, (T ++ [(rr, car, rpM (idN k) CKn (twoL ca cb) k2 k3)])[j]? = some t → ∃ ck, ck.length = 52 ∧ Byt ck ∧ opV s 1 1 ck = .tuple #[keyV k0 k1, keyV k2 k3, .int .i64 0] ∧ t.2.2 = rpM (idN j) ck (twoL ca cb) k2 k3) := fun j t ht => by
            by_cases hj : j < T.length
            · rw [List.getElem?_append_left hj] at ht; exact hT.out j t ht
            · have hj2 := (List.getElem?_eq_some_iff.1 ht).1
              rw [List.length_append, List.length_singleton] at hj2
              obtain rfl : j = T.length := by omega
              rw [List.getElem?_append_right (Nat.le_refl _), Nat.sub_self] at ht
              obtain rfl := Option.some.inj ht
              have hTk : T.length = k := by rw [L21.tn]; exact hnk.out
              rw [hTk]
              exact ⟨CKn, hk52, hkb, hopN.out, rfl⟩
          have hnk9 : Hid (n + 1 = k + 1) := by show _ = _; rw [hnk.out]
          have hGl : ∀ x ∈ G', x < (w20.alloc (.cells #[.slice (some ⟨rr, 0, none⟩) 248 car] 23)).heap.size := fun x hx => (C21.rng x hx).2
          have i2 : IntKind.i64.wrap ((k : Int) + 1) = (k : Int) + 1 := IntWalk.i64_in _ (by omega)
          by_cases hka : k = 99
          · skip
            exfalso; omega
          · have hAi : ((k : Int) == -1) = false := by rw [beq_eq_false_iff_ne]; omega
            go_wp2_with (first
              | (refine wpl_append_sl (by rfl) (.tmp 108) (.tmp 110) 51 (by rfl) 23 (.slice none 0 0) 1 24 Tryd.underlying51 infoSl rfl (by omega) (.slice A n c) n (T.map ckV) lo (by rfl) L21.row ⟨w20.heap.size, 0, none⟩ 1 1 (by rfl) [.slice (some ⟨rr, 0, none⟩) 248 car] rfl (cells2_of NA) (by simp [Value.oneCell']) (by omega) (by omega) (by have := C21.rng bc (by obtain ⟨g1, g2, _, _, _, _, _, _, _, rfl, _⟩ := C21; simp); omega) ?_; intro v9 w9 R9 K9 H9))
            obtain ⟨A9, c9, rfl, L9⟩ := L21.push (t := (rr, car, rpM (idN k) CKn (twoL ca cb) k2 k3)) M21 hGl (by
              rw [show ckV (rr, car, rpM (idN k) CKn (twoL ca cb) k2 k3) = .slice (some ⟨rr, 0, none⟩) 248 car from by show Value.slice _ (rpM (idN k) CKn (twoL ca cb) k2 k3).length _ = _; rw [hRl]]
              exact R9) K9 H9
            have KF := kp_grown K9
            have TF := L21.ty
            have U9 := U21.kpf KF TF (by decide)
            have V9 := V21.kpf KF TF (by decide)
            have J9 := J21.kpf KF TF (by decide)
            have X9 := X21.kpf KF TF
            have C9 := C21.kpf KF TF L21.ng
            have R9' : Rnd w9 := R21.go KF (fun hm => by have := (L21.rng 0 hm).1; omega)
            have B9 : Below w.heap.size w w9 := KF.toBelow B21 B21.size (fun x hx => by have := (L21.rng x hx).1; omega)
            have hW : wtS 99 (k + 1) = V := by rw [hV]; simp only [wtS, if_neg hka]
            have hC9 : Hid (CK'.length = ckS 99 (k + 1)) := by
              show _ = _
              have := hCl.out
              simp only [ckS, if_neg hka]
              omega
            rw [← hW] at C9
            exact ⟨⟨k + 1, by omega, by go_num, _, A9, n + 1, c9, G', CK', rfl, L9, hnk9, hT9, C9, hC9, hCo', U9, V9, J9, X9, R9', B9⟩, by simp [intOf]; omega⟩
        · have hkN : k = 8 := by omega
          have hkd : decide ((k : Int) < 8) = false := decide_eq_false (by omega)
          have hnN : Hid (n = 8) := by show _ = _; rw [hnk.out, hkN]
          have hC8 : Hid (CK.length ≤ 8) := by
            show _ ≤ _
            rw [hCL.out, hkN]; decide
          have hw3 : wtS 99 k = wt3 0 0 := by rw [hkN]; decide
          rw [hw3] at C0
          clear hCL hCo hw3 U0 V0 J0 X0 hcr hae hlt hkN hk hnk
          go_wp2_with fail
          go_loopw [127] (fun i wr => ∃ j : Nat, j ≤ n ∧ i = .int .i64 j ∧ ∃ G CK, RpLs wr lo G T A n c ∧ Cli wr lo bc G k0 k1 k2 k3 CK k ((wt3 0 j).map idN) ∧ Hid (CK.length ≤ 8) ∧ Rnd wr ∧ Below w.heap.size w wr) (fun i _ => n - (intOf i).toNat)
          case atStart => exact ⟨0, by omega, rfl, G, CK, L0, C0, hC8, R0, B0⟩
          case round =>
            obtain ⟨j, hj, rfl, G, CK, L1, C1, hCK, R1, B1⟩ := hrel
            clear L0 C0 hC8 R0 B0
            by_cases hlt : j < n
            · have hlN : j < 8 := by have := hnN.out; omega
              obtain ⟨g, t, rfl, hTj, hc0, hM⟩ := L1.at hlt
              obtain ⟨ck, q1, q2, q3, q4⟩ := hT.out j t hTj
              obtain ⟨tb, tc, tl⟩ := t
              have q4 : tl = rpM (idN j) ck (twoL ca cb) k2 k3 := q4
              subst q4
              have hRl := rpM_len2 k2 k3 (idN_len j) q1 a52 e52
              have hc : wr.cell? ⟨g, j, none⟩ = some (.slice (some ⟨tb, 0, none⟩) 248 tc) := by
                rw [hc0]
                show some (Value.slice _ (rpM (idN j) ck (twoL ca cb) k2 k3).length _) = _
                rw [hRl]
              have hcap := hM.1.cap_le
              have hcapm := hM.1.cap_max
              rw [show ((tb, tc, rpM (idN j) ck (twoL ca cb) k2 k3) : CkT).2.2 = rpM (idN j) ck (twoL ca cb) k2 k3 from rfl, hRl] at hcap
              have j0 : (0 : Int) ≤ j := by omega
              have j1 : (j : Int) < n := by omega
              have hBs := hM.1.bs.wide (Nat.zero_le _) (Nat.le_refl _)
              obtain ⟨hwl, hwx, hww0⟩ := wt3_facts 0 (by omega) j hlN
              have hwl' : ((wt3 0 j).map idN).length ≤ 8 := by rw [List.length_map]; exact hwl
              clear hTj hM hRl hc0
              have i2 : IntKind.i64.wrap ((j : Int) + 1) = (j : Int) + 1 := IntWalk.i64_in _ (by omega)
              have hww : if j ≠ 99 ∧ 8 ≤ j + 9 then (wt3 0 j).findIdx? (· == j) = some 0 ∧ (wt3 0 j).drop 1 = wt3 0 (j + 1) else (wt3 0 j).findIdx? (· == j) = none ∧ wt3 0 j = wt3 0 (j + 1) := hww0
              clear hww0
              by_cases hcs : j ≠ 99 ∧ 8 ≤ j + 9
              · rw [if_pos hcs] at hww
                obtain ⟨hfi, hdr0⟩ := hww
                have hF : fiI ((wt3 0 j).map idN) (idN j) = ((0 : Nat) : Int) := by rw [fiI_idN _ j (by omega) hwx, hfi]
                have hdr := Lib.hid hdr0
                clear hdr0
                have hpos : 0 < ((wt3 0 j).map idN).length := by
                  rw [List.length_map]
                  exact (List.findIdx?_eq_some_iff_getElem.1 hfi).choose
                have hne : ((j : Int) != -1) = true := by rw [bne_iff_ne]; omega
                have hge : decide ((-1 : Int) ≤ j) = true := decide_eq_true (by omega)
                go_wp2_with fail
                have hACC := t_acc2 (c := tc) 0 C1 hk2 hk3 R1 hCK.out hwl' (idN_len j) q1 (idN_byt j) q2 a52 e52 ab eb hpos hF hBs hcap hcapm
                rw [show ((wt3 0 j).map idN).take 0 ++ ((wt3 0 j).map idN).drop (0 + 1) = (wt3 0 (j + 1)).map idN from by rw [← hdr.out]; simp [List.map_drop]] at hACC
                with_reducible refine hACC.mono ?_
                rintro e w22 ⟨P1, q1', G2, rfl, C22, K22, n22⟩
                have L22 := L1.go K22 n22
                have R22 := R1.go K22 (C1.low hlo)
                have B22 : Below w.heap.size w w22 := K22.toBelow B1 B1.size (fun g hg => by have := (C1.rng g hg).1; omega)
                have hCK2 : Hid ((ckN CK [ck, ca, cb]).length ≤ 8) := ckN_len _ _
                have hc8 : decide ((8 : Int) < ((ckN CK [ck, ca, cb]).length : Int)) = false := decide_eq_false (by have := hCK2.out; omega)
                clear hACC K22 n22 L1 C1 R1 B1 hBs hfi hF hpos hdr hwl hwl' hwx hcs q1 q2 q3 hcap hcapm
                go_wp2_with (first
                  | ((refine wpl_alloc (by rfl) 27 (by rfl) (.agg (zN).toArray) (zN) zeroNtp rfl ?_; intro w23 H23 s23 b23))
                  | (refine wpl_store (by rfl) 27 _ _ (by rfl) w22.heap.size (by rfl) _ (by rfl) [.int .i64 0, .int .i64 4, .int .i64 3, .int .i64 0, .int .i64 0, .int .i64 0, .int .u32 0, .int .u32 0, .int .u32 0, .int .u64 0, .int .u64 0, .int .u64 0, .int .u64 9] rfl 27 _ H23 (by rfl) _ sizeNtp (by rfl) (by simp [Value.oneCell']) ?_; intro w24 H24 s24 g24; have g22 : Below w22.heap.size w22 w24 := b23.trans (But.below (g := w22.heap.size) g24 (by omega) (Nat.le_refl _)); have C24 := C22.below g22)
                  | (go_at_call 23; (have hCC := ccount C24); ((with_reducible refine hCC.mono ?_); rintro e' y1 ⟨rfl, rfl⟩)))
                have g22 : Below w22.heap.size w22 w24 := b23.trans (But.below (g := w22.heap.size) g24 (by omega) (Nat.le_refl _))
                exact ⟨⟨j + 1, by omega, by go_num, G2, _, L22.below g22, C24, hCK2, R22.below g22 R22.lt, B22.trans (g22.mono B22.size)⟩, by simp [intOf]; omega⟩
              · rw [if_neg hcs] at hww
                obtain ⟨hfi, hdr0⟩ := hww
                have hF : fiI ((wt3 0 j).map idN) (idN j) = -1 := by rw [fiI_idN _ j (by omega) hwx, hfi]
                have hdr := Lib.hid hdr0
                clear hdr0
                have hc8 : decide ((8 : Int) < (CK.length : Int)) = false := decide_eq_false (by have := hCK.out; omega)
                go_wp2_with fail
                have hACC := t_none2 (c := tc) C1 hk2 hk3 R1 hCK.out hwl' (idN_len j) q1 (idN_byt j) q2 a52 e52 ab eb hF hBs hcap hcapm
                rw [hdr.out] at C1
                with_reducible refine hACC.mono ?_
                rintro e w22 ⟨rfl, b22⟩
                have L22 := L1.below b22
                have C22 := C1.below b22
                have R22 := R1.below b22 R1.lt
                have B22 := B1.trans (b22.mono B1.size)
                clear hACC b22 L1 C1 R1 B1 hBs hfi hF hdr hwl hwl' hwx q1 q2 q3 hcap hcapm
                by_cases hai : (j : Int) = -1
                · skip
                  exfalso; omega
                · skip
                  exfalso; omega
            · obtain rfl : j = n := by omega
              go_wp2_with (first
                | (go_at_call 10; ((with_reducible refine (awake_any _ R1).mono ?_); rintro e w36 ⟨rfl, b36⟩)))
              go_ret
              exact ⟨rfl, B1.trans (b36.mono B1.size)⟩
theorem waits_main (k0 k1 k2 k3 s f : Int) (w : World) (hk0 : U64 k0) (hk1 : U64 k1) (hk2 : U64 k2) (hk3 : U64 k3) (hs : U64 s) (hf : 0 ≤ f ∧ f ≤ 255) (hR : Rnd w) :
    Calls Tryd.prog 6 #[keyV k0 k1, keyV k2 k3, .int .u64 s, .int .u8 f] w fun e w' => e = .returned (.bool true) ∧ Below w.heap.size w w' := by
  cases h1 : (f % 3 == 1) with
  | true => exact waits_one k0 k1 k2 k3 s f w h1 hk0 hk1 hk2 hk3 hs hf hR
  | false => cases h2 : (f % 3 == 2) with
    | true => exact waits_two k0 k1 k2 k3 s f w h1 h2 hk0 hk1 hk2 hk3 hs hf hR
    | false => exact waits_zero k0 k1 k2 k3 s f w h1 h2 hk0 hk1 hk2 hk3 hs hf hR
end Go.Proofs.YtachhbbofemfdaaDoor
