/- The jar of cookies: CookieLengths. -/
import Derived.Test.YtkgpeddncpdjjaaDoorCkQ
namespace Go.Proofs.YtkgpeddncpdjjaaDoor
open Go.RowKit
set_option linter.unusedSimpArgs false
set_option linter.unusedVariables false
set_option maxRecDepth 100000
open Go.RowKit
theorem ck_nonce {s g n m c0 c1 s0 s1 : Int} (hg : Gn g) (hn : U64 n) (hm : U64 m) (hc0 : U64 c0) (hc1 : U64 c1) (hs0 : U64 s0) (hs1 : U64 s1) : eqB (ckB s g n c0 c1 s0 s1) (ckB s g m c0 c1 s0 s1) = (n == m) := by
  have key : ∀ x : Int, U64 x → fB (ckB s g x c0 c1 s0 s1) 4 8 = x := fun x hx => by
    have e : ckB s g x c0 c1 s0 s1 = ckP g x (xr c0 (padF s g x 0)) (xr c1 (padF s g x 1)) (xr s0 (padF s g x 2)) (xr s1 (padF s g x 3)) (jtag s g (sbB g x (xr c0 (padF s g x 0)) (xr c1 (padF s g x 1)) (xr s0 (padF s g x 2)) (xr s1 (padF s g x 3)) 4)) := by
      unfold ckB; exact ckP_of _ _ _ _ _ _ _
    rw [e]
    exact (ckP_read hg hx (xr_u64 hc0 (padF_u64 s g x 0)) (xr_u64 hc1 (padF_u64 s g x 1)) (xr_u64 hs0 (padF_u64 s g x 2)) (xr_u64 hs1 (padF_u64 s g x 3)) (jtag_u64 s g _)).2.1
  unfold eqB
  by_cases h : n = m
  · subst h; simp
  · have : ¬ ckB s g n c0 c1 s0 s1 = ckB s g m c0 c1 s0 s1 := fun e => h (by rw [← key n hn, e, key m hm])
    simp [h, this]
set_option maxHeartbeats 16000000 in
theorem lengthsLaw (s a b c d nonce other n : Int) (w : World) (hs : U64 s) (ha : U64 a) (hb : U64 b) (hc : U64 c) (hd : U64 d) (hn : U64 nonce) (hm : U64 other) (h0 : 0 ≤ n) (hR : Rnd w) :
    Calls Tryd.prog 6 #[.int .u64 s, keyV a b, keyV c d, .int .u64 nonce, .int .u64 other, .int .u16 n] w fun e w' => e = .returned (.bool true) ∧ Below w.heap.size w w' := by
  obtain ⟨N, hN⟩ : ∃ N : Nat, (N : Int) = n % 301 := ⟨(n % 301).toNat, by omega⟩
  have hN3 : N < 301 := by omega
  have hmk : ∀ W : World, (Instr.makeSlice 30 (.int .u16 (n % 301)) (.int .u16 (n % 301))).run Tryd.prog W = .ok (.slice (some ⟨W.heap.size, 0, none⟩) N N) (W.alloc (.cells (madeCells #[.int .u8 0] N) 5)) := fun W => by rw [← hN]; exact makeU8 .u16 .u16 N (by omega) W
  have hg : Gn 1 := ⟨by omega, by omega⟩
  have hS1 := fun bj W hJ hr => seal_any bj s 2 1 a b c d nonce W hs hg hn ha hb hc hd hJ hr
  have hS2 := fun bj W hJ hr => seal_any bj s 2 1 a b c d other W hs hg hm ha hb hc hd hJ hr
  have hq := ck_nonce (s := s) hg hn hm ha hb hc hd
  have hc1 : Hid ((ckB s 1 nonce a b c d).length = 52) := ckB_len _ _ _ _ _ _ _
  have hc2 : Hid ((ckB s 1 other a b c d).length = 52) := ckB_len _ _ _ _ _ _ _
  generalize ckB s 1 nonce a b c d = C1 at hS1 hq hc1
  generalize ckB s 1 other a b c d = C2 at hS2 hq hc2
  clear ha hb hc hd hn hm
  have hz := zeros_open s 2 1 N
  have HN := Lib.hid hN
  clear hN
  obtain ⟨q, hqe⟩ : ∃ q, q = (nonce == other) := ⟨_, rfl⟩
  rw [← hqe] at hq
  by_cases h1 : N < 52
  · rw [if_pos h1] at hz
    have HZ := Lib.hid hz
    have e1 : decide ((N : Int) < 52) = true := decide_eq_true (by omega)
    have e2 : decide ((52 : Int) < N) = false := decide_eq_false (by omega)
    have e3 : ((N : Int) == 52) = false := by simp; omega
    clear hz h1
    go_enter Tryd.func6, Tryd.ntmps6
    go_wp2_with (first
      | ((refine wpl_box (by rfl) 24 _ (by rfl) _ (keyL a b) (by rfl) rfl ?_; intro w1 P1 s1 b1))
      | ((refine wpl_box (by rfl) 24 _ (by rfl) _ (keyL c d) (by rfl) rfl ?_; intro w2 Q2 s2 b2); (have P2 := P1.below b2 (by omega))))
    have B2 := b1.trans (b2.mono (by omega))
    with_reducible refine (new_some s 2 w2 (by omega) (by omega)).mono ?_
    rintro e w3 ⟨rfl, J3, b3⟩
    have l3 := J3.lt
    have P3 := P2.below b3 (by omega)
    have Q3 := Q2.below b3 (by omega)
    have B3 := B2.trans (b3.mono (by omega))
    clear P1 P2 Q2 B2 b1 b2
    have mk : Below w3.heap.size w3 (w3.alloc (.cells (madeCells #[.int .u8 0] N) 5)) := (Below.refl _ _).alloc (Nat.le_refl _) _
    have B4 := B3.trans (mk.mono B3.size)
    have P4 := P3.below mk P3.lt
    have Q4 := Q3.below mk Q3.lt
    have J4 := J3.below mk l3
    have R4 := hR.below B4 hR.lt
    have hE := open_any w2.heap.size s 2 1 (some ⟨w3.heap.size, 0, none⟩) N N (List.replicate N 0) _ (List.length_replicate) ((Ow.made w3 N (by omega)).bs.wide (Nat.zero_le _) (Nat.le_refl _)) (Nat.le_refl _) (by omega) hs ⟨by omega, by omega⟩ (by omega) J4 R4
    rw [HZ.out] at hE
    have zz : w3.heap.size < (w3.alloc (.cells (madeCells #[.int .u8 0] N) 5)).heap.size := by simp
    go_wp2_with fail
    with_reducible refine hE.mono ?_
    rintro e k1 ⟨rfl, kb⟩
    have Bk := B4.trans (kb.mono B4.size)
    have zk := Nat.le_trans mk.size kb.size
    have zB := Bk.size
    have Pk := P4.below kb P4.lt
    have Qk := Q4.below kb Q4.lt
    have Jk := J4.below kb J4.lt
    have lP := Pk.lt
    have lQ := Qk.lt
    have lJ := Jk.lt
    clear hE P3 Q3 J3 B3 P4 Q4 J4 R4 B4 mk kb b3
    go_wp2_with (first
      | ((with_reducible show wpList _ _ _ (⟨some 15, _, _, _, _, _⟩ :: _) _ _); refine wpl_alloc (by rfl) 24 (by rfl) (keyV 0 0) (keyL 0 0) zeroKey rfl ?_; intro k2 kXA kt2 kq2)
      | (((with_reducible show wpList _ _ _ (⟨some 16, _, _, _, _, _⟩ :: _) _ _); refine wpl_alloc (by rfl) 24 (by rfl) (keyV 0 0) (keyL 0 0) zeroKey rfl ?_; intro k3 kYA kt3 kq3); (have kXB := kXA.below kq3 (by omega)))
      | (((with_reducible show wpList _ _ _ (⟨_, .store _ _ _, _, _, _, _⟩ :: _) _ _); refine wpl_store (by rfl) 24 _ _ (by rfl) k1.heap.size (by rfl) _ (by rfl) (keyL 0 0) rfl 24 _ kXB (show (2 : Nat) = 2 from rfl) _ sizeKey (by rfl) (by simp [Value.oneCell']) ?_; intro k4 kXC kt4 kr4); (have kYC := kYA.but kr4 (by omega)))
      | (((with_reducible show wpList _ _ _ (⟨_, .store _ _ _, _, _, _, _⟩ :: _) _ _); refine wpl_store (by rfl) 24 _ _ (by rfl) k2.heap.size (by rfl) _ (by rfl) (keyL 0 0) rfl 24 _ kYC (show (2 : Nat) = 2 from rfl) _ sizeKey (by rfl) (by simp [Value.oneCell']) ?_; intro k5 kYD kt5 kr5); (have kXD := kXC.but kr5 (by omega)))
      )
    have B5 : Below w.heap.size w k5 := ((((Bk).trans (kq2.mono (Bk).size)).trans (kq3.mono (by have := (Bk).size; omega))).trans (kr4.below (by have := (Bk).size; omega) (by have := (Bk).size; omega))).trans (kr5.below (by have := (Bk).size; omega) (by have := (Bk).size; omega))
    have P5 := (((Pk.below kq2 (by omega)).below kq3 (by omega)).but kr4 (by omega)).but kr5 (by omega)
    have Q5 := (((Qk.below kq2 (by omega)).below kq3 (by omega)).but kr4 (by omega)).but kr5 (by omega)
    have J5 := (((Jk.below kq2 (by omega)).below kq3 (by omega)).but kr4 (by omega)).but kr5 (by omega)
    have R5 := hR.below B5 hR.lt
    clear Pk Qk Jk Bk kXA kYA kXB kXC kYC kXD kYD kq2 kq3 kr4 kr5 hmk HZ
    go_wp2_with fail
    refine wp_region_heldL (fun y => Blk y w.heap.size 24 (keyL a b) ∧ Blk y w1.heap.size 24 (keyL c d)) 12 (by kernel_rfl) rfl ⟨P5.drew, Q5.drew⟩ fun hHeld => ?_
    simp only [List.replicate]
    (refine wpH_take (i := 0) (v := _) (by simp only [List.getElem?_toArray, List.getElem?_cons_succ, List.getElem?_cons_zero]; rfl) (by kernel_rfl) (by kernel_rfl) (by kernel_rfl) (by intro _ _ _ h; exact h) (Or.inl ⟨by rfl, (by intro w' hSw; (try dsimp only at hSw); go_simp; first | done | with_reducible rfl)⟩) (by assumption) ?_; (try simp only [Act.put, List.setIfInBounds_toArray, List.set_cons_zero, List.set_cons_succ]))
    refine wpH_take (i := 1) (v := .agg (keyL a b).toArray) (by simp only [List.getElem?_toArray, List.getElem?_cons_succ, List.getElem?_cons_zero]; rfl) (by kernel_rfl) (by kernel_rfl) (by kernel_rfl) (by intro _ _ _ h; exact h) (yieldsIf_load_mid (by rfl) 24 _ (by rfl) w.heap.size 0 (by rfl) (keyL a b) _ (fun w' h => Blk.range h.1) Tryd.underlying24 rfl sizeKey) (by assumption) ?_
    (try simp only [Act.put, List.setIfInBounds_toArray, List.set_cons_zero, List.set_cons_succ])
    refine wpH_take (i := 2) (v := .agg (keyL c d).toArray) (by simp only [List.getElem?_toArray, List.getElem?_cons_succ, List.getElem?_cons_zero]; rfl) (by kernel_rfl) (by kernel_rfl) (by kernel_rfl) (by intro _ _ _ h; exact h) (yieldsIf_load_mid (by rfl) 24 _ (by rfl) w1.heap.size 0 (by rfl) (keyL c d) _ (fun w' h => Blk.range h.2) Tryd.underlying24 rfl sizeKey) (by assumption) ?_
    (try simp only [Act.put, List.setIfInBounds_toArray, List.set_cons_zero, List.set_cons_succ])
    (refine wpH_take (i := 3) (v := _) (by simp only [List.getElem?_toArray, List.getElem?_cons_succ, List.getElem?_cons_zero]; rfl) (by kernel_rfl) (by kernel_rfl) (by kernel_rfl) (by intro _ _ _ h; exact h) (Or.inl ⟨by rfl, (by intro w' hSw; (try dsimp only at hSw); go_simp; first | done | with_reducible rfl)⟩) (by assumption) ?_; (try simp only [Act.put, List.setIfInBounds_toArray, List.set_cons_zero, List.set_cons_succ]))
    (refine wpH_take (i := 5) (v := _) (by simp only [List.getElem?_toArray, List.getElem?_cons_succ, List.getElem?_cons_zero]; rfl) (by kernel_rfl) (by kernel_rfl) (by kernel_rfl) (by intro _ _ _ h; exact h) (Or.inl ⟨by rfl, (by intro w' hSw; (try dsimp only at hSw); go_simp; first | done | with_reducible rfl)⟩) (by assumption) ?_; (try simp only [Act.put, List.setIfInBounds_toArray, List.set_cons_zero, List.set_cons_succ]))
    refine wpH_take (i := 6) (v := .agg (keyL a b).toArray) (by simp only [List.getElem?_toArray, List.getElem?_cons_succ, List.getElem?_cons_zero]; rfl) (by kernel_rfl) (by kernel_rfl) (by kernel_rfl) (by intro _ _ _ h; exact h) (yieldsIf_load_mid (by rfl) 24 _ (by rfl) w.heap.size 0 (by rfl) (keyL a b) _ (fun w' h => Blk.range h.1) Tryd.underlying24 rfl sizeKey) (by assumption) ?_
    (try simp only [Act.put, List.setIfInBounds_toArray, List.set_cons_zero, List.set_cons_succ])
    refine wpH_take (i := 7) (v := .agg (keyL c d).toArray) (by simp only [List.getElem?_toArray, List.getElem?_cons_succ, List.getElem?_cons_zero]; rfl) (by kernel_rfl) (by kernel_rfl) (by kernel_rfl) (by intro _ _ _ h; exact h) (yieldsIf_load_mid (by rfl) 24 _ (by rfl) w1.heap.size 0 (by rfl) (keyL c d) _ (fun w' h => Blk.range h.2) Tryd.underlying24 rfl sizeKey) (by assumption) ?_
    (try simp only [Act.put, List.setIfInBounds_toArray, List.set_cons_zero, List.set_cons_succ])
    (refine wpH_take (i := 8) (v := _) (by simp only [List.getElem?_toArray, List.getElem?_cons_succ, List.getElem?_cons_zero]; rfl) (by kernel_rfl) (by kernel_rfl) (by kernel_rfl) (by intro _ _ _ h; exact h) (Or.inl ⟨by rfl, (by intro w' hSw; (try dsimp only at hSw); go_simp; first | done | with_reducible rfl)⟩) (by assumption) ?_; (try simp only [Act.put, List.setIfInBounds_toArray, List.set_cons_zero, List.set_cons_succ]))
    (refine wpH_one (i := 4) (by simp only [List.getElem?_toArray, List.getElem?_cons_succ, List.getElem?_cons_zero]; rfl) (by kernel_rfl) (by rfl) ?_; (go_simp; (with_reducible refine (hS1 _ k5.drew J5.drew R5.drew).mono ?_); rintro e w6 ⟨A6, c6, rfl, O6, b6⟩; refine ⟨⟨P5.drew.below b6 P5.lt, Q5.drew.below b6 Q5.lt⟩, ?_⟩); (try simp only [Act.put, List.setIfInBounds_toArray, List.set_cons_zero, List.set_cons_succ]))
    have P6 := P5.drew.below b6 P5.lt
    have Q6 := Q5.drew.below b6 Q5.lt
    have J6 := J5.drew.below b6 J5.lt
    have R6 := R5.drew.below b6 R5.lt
    have B6 := B5.drew.trans (b6.mono B5.size)
    have hH6 : Blk w6 w.heap.size 24 (keyL a b) ∧ Blk w6 w1.heap.size 24 (keyL c d) := ⟨P6, Q6⟩
    (refine wpH_one (i := 9) (by simp only [List.getElem?_toArray, List.getElem?_cons_succ, List.getElem?_cons_zero]; rfl) (by kernel_rfl) (by rfl) ?_; (go_simp; (with_reducible refine (hS2 _ w6 J6 R6).mono ?_); rintro e w7 ⟨A7, c7, rfl, O7, b7⟩; refine ⟨⟨P6.below b7 P6.lt, Q6.below b7 Q6.lt⟩, ?_⟩); (try simp only [Act.put, List.setIfInBounds_toArray, List.set_cons_zero, List.set_cons_succ]))
    have B7 := B6.trans (b7.mono B6.size)
    have O6' := O6.below b7 (Nat.le_refl _)
    have R7 := R6.below b7 R6.lt
    have hH7 : Blk w7 w.heap.size 24 (keyL a b) ∧ Blk w7 w1.heap.size 24 (keyL c d) := ⟨P6.below b7 P6.lt, Q6.below b7 Q6.lt⟩
    (refine wpH_take (i := 10) (v := _) (by simp only [List.getElem?_toArray, List.getElem?_cons_succ, List.getElem?_cons_zero]; rfl) (by kernel_rfl) (by kernel_rfl) (by kernel_rfl) (by intro _ _ _ h; exact h) (Or.inl ⟨by rfl, (by intro w' hSw; (try dsimp only at hSw); go_simp; first | done | with_reducible rfl)⟩) (by assumption) ?_; (try simp only [Act.put, List.setIfInBounds_toArray, List.set_cons_zero, List.set_cons_succ]))
    (refine wpH_take (i := 11) (v := _) (by simp only [List.getElem?_toArray, List.getElem?_cons_succ, List.getElem?_cons_zero]; rfl) (by kernel_rfl) (by kernel_rfl) (by kernel_rfl) (by intro _ _ _ h; exact h) (Or.inl ⟨by rfl, (by intro w' hSw; (try dsimp only at hSw); go_simp; first | done | with_reducible rfl)⟩) (by assumption) ?_; (try simp only [Act.put, List.setIfInBounds_toArray, List.set_cons_zero, List.set_cons_succ]))
    refine wpH_done (by kernel_rfl) ?_ _
    have hQ := bequal_any A6 A7 52 52 c6 c7 _ _ _ _ _ _ w7 hc1.out hc2.out O6'.bs O7.bs
    rw [hq] at hQ
    clear hHeld hH6 hH7 O6 O6' O7 P6 Q6 J6 R6 P5 Q5 J5 R5 B5 B6 b6 b7 hS1 hS2
    have hqe' : (nonce == other) = q := hqe.symm
    clear hqe
    go_wp2_with fail
    with_reducible refine hQ.mono ?_
    rintro e _ ⟨rfl, rfl⟩
    go_wp2_with fail
    with_reducible refine (awake_any _ R7).mono ?_
    rintro e wa ⟨rfl, ba⟩
    have Ba := (B7).trans (ba.mono (B7).size)
    go_wp2
    go_ret
    exact ⟨rfl, Ba⟩
  · by_cases h2 : 52 < N
    · rw [if_neg h1, if_pos h2] at hz
      have HZ := Lib.hid hz
      have e1 : decide ((N : Int) < 52) = false := decide_eq_false (by omega)
      have e2 : decide ((52 : Int) < N) = true := decide_eq_true (by omega)
      have e3 : ((N : Int) == 52) = false := by simp; omega
      clear hz h1 h2
      go_enter Tryd.func6, Tryd.ntmps6
      go_wp2_with (first
        | ((refine wpl_box (by rfl) 24 _ (by rfl) _ (keyL a b) (by rfl) rfl ?_; intro w1 P1 s1 b1))
        | ((refine wpl_box (by rfl) 24 _ (by rfl) _ (keyL c d) (by rfl) rfl ?_; intro w2 Q2 s2 b2); (have P2 := P1.below b2 (by omega))))
      have B2 := b1.trans (b2.mono (by omega))
      with_reducible refine (new_some s 2 w2 (by omega) (by omega)).mono ?_
      rintro e w3 ⟨rfl, J3, b3⟩
      have l3 := J3.lt
      have P3 := P2.below b3 (by omega)
      have Q3 := Q2.below b3 (by omega)
      have B3 := B2.trans (b3.mono (by omega))
      clear P1 P2 Q2 B2 b1 b2
      have mk : Below w3.heap.size w3 (w3.alloc (.cells (madeCells #[.int .u8 0] N) 5)) := (Below.refl _ _).alloc (Nat.le_refl _) _
      have B4 := B3.trans (mk.mono B3.size)
      have P4 := P3.below mk P3.lt
      have Q4 := Q3.below mk Q3.lt
      have J4 := J3.below mk l3
      have R4 := hR.below B4 hR.lt
      have hE := open_any w2.heap.size s 2 1 (some ⟨w3.heap.size, 0, none⟩) N N (List.replicate N 0) _ (List.length_replicate) ((Ow.made w3 N (by omega)).bs.wide (Nat.zero_le _) (Nat.le_refl _)) (Nat.le_refl _) (by omega) hs ⟨by omega, by omega⟩ (by omega) J4 R4
      rw [HZ.out] at hE
      have zz : w3.heap.size < (w3.alloc (.cells (madeCells #[.int .u8 0] N) 5)).heap.size := by simp
      go_wp2_with fail
      with_reducible refine hE.mono ?_
      rintro e k1 ⟨rfl, kb⟩
      have Bk := B4.trans (kb.mono B4.size)
      have zk := Nat.le_trans mk.size kb.size
      have zB := Bk.size
      have Pk := P4.below kb P4.lt
      have Qk := Q4.below kb Q4.lt
      have Jk := J4.below kb J4.lt
      have lP := Pk.lt
      have lQ := Qk.lt
      have lJ := Jk.lt
      clear hE P3 Q3 J3 B3 P4 Q4 J4 R4 B4 mk kb b3
      go_wp2_with (first
        | ((with_reducible show wpList _ _ _ (⟨some 15, _, _, _, _, _⟩ :: _) _ _); refine wpl_alloc (by rfl) 24 (by rfl) (keyV 0 0) (keyL 0 0) zeroKey rfl ?_; intro k2 kXA kt2 kq2)
        | (((with_reducible show wpList _ _ _ (⟨some 16, _, _, _, _, _⟩ :: _) _ _); refine wpl_alloc (by rfl) 24 (by rfl) (keyV 0 0) (keyL 0 0) zeroKey rfl ?_; intro k3 kYA kt3 kq3); (have kXB := kXA.below kq3 (by omega)))
        | (((with_reducible show wpList _ _ _ (⟨_, .store _ _ _, _, _, _, _⟩ :: _) _ _); refine wpl_store (by rfl) 24 _ _ (by rfl) k1.heap.size (by rfl) _ (by rfl) (keyL 0 0) rfl 24 _ kXB (show (2 : Nat) = 2 from rfl) _ sizeKey (by rfl) (by simp [Value.oneCell']) ?_; intro k4 kXC kt4 kr4); (have kYC := kYA.but kr4 (by omega)))
        | (((with_reducible show wpList _ _ _ (⟨_, .store _ _ _, _, _, _, _⟩ :: _) _ _); refine wpl_store (by rfl) 24 _ _ (by rfl) k2.heap.size (by rfl) _ (by rfl) (keyL 0 0) rfl 24 _ kYC (show (2 : Nat) = 2 from rfl) _ sizeKey (by rfl) (by simp [Value.oneCell']) ?_; intro k5 kYD kt5 kr5); (have kXD := kXC.but kr5 (by omega)))
        )
      have B5 : Below w.heap.size w k5 := ((((Bk).trans (kq2.mono (Bk).size)).trans (kq3.mono (by have := (Bk).size; omega))).trans (kr4.below (by have := (Bk).size; omega) (by have := (Bk).size; omega))).trans (kr5.below (by have := (Bk).size; omega) (by have := (Bk).size; omega))
      have P5 := (((Pk.below kq2 (by omega)).below kq3 (by omega)).but kr4 (by omega)).but kr5 (by omega)
      have Q5 := (((Qk.below kq2 (by omega)).below kq3 (by omega)).but kr4 (by omega)).but kr5 (by omega)
      have J5 := (((Jk.below kq2 (by omega)).below kq3 (by omega)).but kr4 (by omega)).but kr5 (by omega)
      have R5 := hR.below B5 hR.lt
      clear Pk Qk Jk Bk kXA kYA kXB kXC kYC kXD kYD kq2 kq3 kr4 kr5 hmk HZ
      go_wp2_with fail
      refine wp_region_heldL (fun y => Blk y w.heap.size 24 (keyL a b) ∧ Blk y w1.heap.size 24 (keyL c d)) 12 (by kernel_rfl) rfl ⟨P5.drew, Q5.drew⟩ fun hHeld => ?_
      simp only [List.replicate]
      (refine wpH_take (i := 0) (v := _) (by simp only [List.getElem?_toArray, List.getElem?_cons_succ, List.getElem?_cons_zero]; rfl) (by kernel_rfl) (by kernel_rfl) (by kernel_rfl) (by intro _ _ _ h; exact h) (Or.inl ⟨by rfl, (by intro w' hSw; (try dsimp only at hSw); go_simp; first | done | with_reducible rfl)⟩) (by assumption) ?_; (try simp only [Act.put, List.setIfInBounds_toArray, List.set_cons_zero, List.set_cons_succ]))
      refine wpH_take (i := 1) (v := .agg (keyL a b).toArray) (by simp only [List.getElem?_toArray, List.getElem?_cons_succ, List.getElem?_cons_zero]; rfl) (by kernel_rfl) (by kernel_rfl) (by kernel_rfl) (by intro _ _ _ h; exact h) (yieldsIf_load_mid (by rfl) 24 _ (by rfl) w.heap.size 0 (by rfl) (keyL a b) _ (fun w' h => Blk.range h.1) Tryd.underlying24 rfl sizeKey) (by assumption) ?_
      (try simp only [Act.put, List.setIfInBounds_toArray, List.set_cons_zero, List.set_cons_succ])
      refine wpH_take (i := 2) (v := .agg (keyL c d).toArray) (by simp only [List.getElem?_toArray, List.getElem?_cons_succ, List.getElem?_cons_zero]; rfl) (by kernel_rfl) (by kernel_rfl) (by kernel_rfl) (by intro _ _ _ h; exact h) (yieldsIf_load_mid (by rfl) 24 _ (by rfl) w1.heap.size 0 (by rfl) (keyL c d) _ (fun w' h => Blk.range h.2) Tryd.underlying24 rfl sizeKey) (by assumption) ?_
      (try simp only [Act.put, List.setIfInBounds_toArray, List.set_cons_zero, List.set_cons_succ])
      (refine wpH_take (i := 3) (v := _) (by simp only [List.getElem?_toArray, List.getElem?_cons_succ, List.getElem?_cons_zero]; rfl) (by kernel_rfl) (by kernel_rfl) (by kernel_rfl) (by intro _ _ _ h; exact h) (Or.inl ⟨by rfl, (by intro w' hSw; (try dsimp only at hSw); go_simp; first | done | with_reducible rfl)⟩) (by assumption) ?_; (try simp only [Act.put, List.setIfInBounds_toArray, List.set_cons_zero, List.set_cons_succ]))
      (refine wpH_take (i := 5) (v := _) (by simp only [List.getElem?_toArray, List.getElem?_cons_succ, List.getElem?_cons_zero]; rfl) (by kernel_rfl) (by kernel_rfl) (by kernel_rfl) (by intro _ _ _ h; exact h) (Or.inl ⟨by rfl, (by intro w' hSw; (try dsimp only at hSw); go_simp; first | done | with_reducible rfl)⟩) (by assumption) ?_; (try simp only [Act.put, List.setIfInBounds_toArray, List.set_cons_zero, List.set_cons_succ]))
      refine wpH_take (i := 6) (v := .agg (keyL a b).toArray) (by simp only [List.getElem?_toArray, List.getElem?_cons_succ, List.getElem?_cons_zero]; rfl) (by kernel_rfl) (by kernel_rfl) (by kernel_rfl) (by intro _ _ _ h; exact h) (yieldsIf_load_mid (by rfl) 24 _ (by rfl) w.heap.size 0 (by rfl) (keyL a b) _ (fun w' h => Blk.range h.1) Tryd.underlying24 rfl sizeKey) (by assumption) ?_
      (try simp only [Act.put, List.setIfInBounds_toArray, List.set_cons_zero, List.set_cons_succ])
      refine wpH_take (i := 7) (v := .agg (keyL c d).toArray) (by simp only [List.getElem?_toArray, List.getElem?_cons_succ, List.getElem?_cons_zero]; rfl) (by kernel_rfl) (by kernel_rfl) (by kernel_rfl) (by intro _ _ _ h; exact h) (yieldsIf_load_mid (by rfl) 24 _ (by rfl) w1.heap.size 0 (by rfl) (keyL c d) _ (fun w' h => Blk.range h.2) Tryd.underlying24 rfl sizeKey) (by assumption) ?_
      (try simp only [Act.put, List.setIfInBounds_toArray, List.set_cons_zero, List.set_cons_succ])
      (refine wpH_take (i := 8) (v := _) (by simp only [List.getElem?_toArray, List.getElem?_cons_succ, List.getElem?_cons_zero]; rfl) (by kernel_rfl) (by kernel_rfl) (by kernel_rfl) (by intro _ _ _ h; exact h) (Or.inl ⟨by rfl, (by intro w' hSw; (try dsimp only at hSw); go_simp; first | done | with_reducible rfl)⟩) (by assumption) ?_; (try simp only [Act.put, List.setIfInBounds_toArray, List.set_cons_zero, List.set_cons_succ]))
      (refine wpH_one (i := 4) (by simp only [List.getElem?_toArray, List.getElem?_cons_succ, List.getElem?_cons_zero]; rfl) (by kernel_rfl) (by rfl) ?_; (go_simp; (with_reducible refine (hS1 _ k5.drew J5.drew R5.drew).mono ?_); rintro e w6 ⟨A6, c6, rfl, O6, b6⟩; refine ⟨⟨P5.drew.below b6 P5.lt, Q5.drew.below b6 Q5.lt⟩, ?_⟩); (try simp only [Act.put, List.setIfInBounds_toArray, List.set_cons_zero, List.set_cons_succ]))
      have P6 := P5.drew.below b6 P5.lt
      have Q6 := Q5.drew.below b6 Q5.lt
      have J6 := J5.drew.below b6 J5.lt
      have R6 := R5.drew.below b6 R5.lt
      have B6 := B5.drew.trans (b6.mono B5.size)
      have hH6 : Blk w6 w.heap.size 24 (keyL a b) ∧ Blk w6 w1.heap.size 24 (keyL c d) := ⟨P6, Q6⟩
      (refine wpH_one (i := 9) (by simp only [List.getElem?_toArray, List.getElem?_cons_succ, List.getElem?_cons_zero]; rfl) (by kernel_rfl) (by rfl) ?_; (go_simp; (with_reducible refine (hS2 _ w6 J6 R6).mono ?_); rintro e w7 ⟨A7, c7, rfl, O7, b7⟩; refine ⟨⟨P6.below b7 P6.lt, Q6.below b7 Q6.lt⟩, ?_⟩); (try simp only [Act.put, List.setIfInBounds_toArray, List.set_cons_zero, List.set_cons_succ]))
      have B7 := B6.trans (b7.mono B6.size)
      have O6' := O6.below b7 (Nat.le_refl _)
      have R7 := R6.below b7 R6.lt
      have hH7 : Blk w7 w.heap.size 24 (keyL a b) ∧ Blk w7 w1.heap.size 24 (keyL c d) := ⟨P6.below b7 P6.lt, Q6.below b7 Q6.lt⟩
      (refine wpH_take (i := 10) (v := _) (by simp only [List.getElem?_toArray, List.getElem?_cons_succ, List.getElem?_cons_zero]; rfl) (by kernel_rfl) (by kernel_rfl) (by kernel_rfl) (by intro _ _ _ h; exact h) (Or.inl ⟨by rfl, (by intro w' hSw; (try dsimp only at hSw); go_simp; first | done | with_reducible rfl)⟩) (by assumption) ?_; (try simp only [Act.put, List.setIfInBounds_toArray, List.set_cons_zero, List.set_cons_succ]))
      (refine wpH_take (i := 11) (v := _) (by simp only [List.getElem?_toArray, List.getElem?_cons_succ, List.getElem?_cons_zero]; rfl) (by kernel_rfl) (by kernel_rfl) (by kernel_rfl) (by intro _ _ _ h; exact h) (Or.inl ⟨by rfl, (by intro w' hSw; (try dsimp only at hSw); go_simp; first | done | with_reducible rfl)⟩) (by assumption) ?_; (try simp only [Act.put, List.setIfInBounds_toArray, List.set_cons_zero, List.set_cons_succ]))
      refine wpH_done (by kernel_rfl) ?_ _
      have hQ := bequal_any A6 A7 52 52 c6 c7 _ _ _ _ _ _ w7 hc1.out hc2.out O6'.bs O7.bs
      rw [hq] at hQ
      clear hHeld hH6 hH7 O6 O6' O7 P6 Q6 J6 R6 P5 Q5 J5 R5 B5 B6 b6 b7 hS1 hS2
      have hqe' : (nonce == other) = q := hqe.symm
      clear hqe
      go_wp2_with fail
      with_reducible refine hQ.mono ?_
      rintro e _ ⟨rfl, rfl⟩
      go_wp2_with fail
      with_reducible refine (awake_any _ R7).mono ?_
      rintro e wa ⟨rfl, ba⟩
      have Ba := (B7).trans (ba.mono (B7).size)
      go_wp2
      go_ret
      exact ⟨rfl, Ba⟩
    · rw [if_neg h1, if_neg h2] at hz
      have HZ := Lib.hid hz
      obtain rfl : N = 52 := by omega
      clear hz h1 h2
      go_enter Tryd.func6, Tryd.ntmps6
      go_wp2_with (first
        | ((refine wpl_box (by rfl) 24 _ (by rfl) _ (keyL a b) (by rfl) rfl ?_; intro w1 P1 s1 b1))
        | ((refine wpl_box (by rfl) 24 _ (by rfl) _ (keyL c d) (by rfl) rfl ?_; intro w2 Q2 s2 b2); (have P2 := P1.below b2 (by omega))))
      have B2 := b1.trans (b2.mono (by omega))
      with_reducible refine (new_some s 2 w2 (by omega) (by omega)).mono ?_
      rintro e w3 ⟨rfl, J3, b3⟩
      have l3 := J3.lt
      have P3 := P2.below b3 (by omega)
      have Q3 := Q2.below b3 (by omega)
      have B3 := B2.trans (b3.mono (by omega))
      clear P1 P2 Q2 B2 b1 b2
      have mk : Below w3.heap.size w3 (w3.alloc (.cells (madeCells #[.int .u8 0] 52) 5)) := (Below.refl _ _).alloc (Nat.le_refl _) _
      have B4 := B3.trans (mk.mono B3.size)
      have P4 := P3.below mk P3.lt
      have Q4 := Q3.below mk Q3.lt
      have J4 := J3.below mk l3
      have R4 := hR.below B4 hR.lt
      have hE := open_any w2.heap.size s 2 1 (some ⟨w3.heap.size, 0, none⟩) 52 52 (List.replicate 52 0) _ (List.length_replicate) ((Ow.made w3 52 (by omega)).bs.wide (Nat.zero_le _) (Nat.le_refl _)) (Nat.le_refl _) (by omega) hs ⟨by omega, by omega⟩ (by omega) J4 R4
      rw [HZ.out] at hE
      have zz : w3.heap.size < (w3.alloc (.cells (madeCells #[.int .u8 0] 52) 5)).heap.size := by simp
      go_wp2_with fail
      with_reducible refine hE.mono ?_
      rintro e k1 ⟨rfl, kb⟩
      have Bk := B4.trans (kb.mono B4.size)
      have zk := Nat.le_trans mk.size kb.size
      have zB := Bk.size
      have Pk := P4.below kb P4.lt
      have Qk := Q4.below kb Q4.lt
      have Jk := J4.below kb J4.lt
      have lP := Pk.lt
      have lQ := Qk.lt
      have lJ := Jk.lt
      clear hE P3 Q3 J3 B3 P4 Q4 J4 R4 B4 mk kb b3
      go_wp2_with (first
        | ((with_reducible show wpList _ _ _ (⟨some 15, _, _, _, _, _⟩ :: _) _ _); refine wpl_alloc (by rfl) 24 (by rfl) (keyV 0 0) (keyL 0 0) zeroKey rfl ?_; intro k2 kXA kt2 kq2)
        | (((with_reducible show wpList _ _ _ (⟨some 16, _, _, _, _, _⟩ :: _) _ _); refine wpl_alloc (by rfl) 24 (by rfl) (keyV 0 0) (keyL 0 0) zeroKey rfl ?_; intro k3 kYA kt3 kq3); (have kXB := kXA.below kq3 (by omega)))
        | (((with_reducible show wpList _ _ _ (⟨_, .store _ _ _, _, _, _, _⟩ :: _) _ _); refine wpl_store (by rfl) 24 _ _ (by rfl) k1.heap.size (by rfl) _ (by rfl) (keyL 0 0) rfl 24 _ kXB (show (2 : Nat) = 2 from rfl) _ sizeKey (by rfl) (by simp [Value.oneCell']) ?_; intro k4 kXC kt4 kr4); (have kYC := kYA.but kr4 (by omega)))
        | (((with_reducible show wpList _ _ _ (⟨_, .store _ _ _, _, _, _, _⟩ :: _) _ _); refine wpl_store (by rfl) 24 _ _ (by rfl) k2.heap.size (by rfl) _ (by rfl) (keyL 0 0) rfl 24 _ kYC (show (2 : Nat) = 2 from rfl) _ sizeKey (by rfl) (by simp [Value.oneCell']) ?_; intro k5 kYD kt5 kr5); (have kXD := kXC.but kr5 (by omega)))
        )
      have B5 : Below w.heap.size w k5 := ((((Bk).trans (kq2.mono (Bk).size)).trans (kq3.mono (by have := (Bk).size; omega))).trans (kr4.below (by have := (Bk).size; omega) (by have := (Bk).size; omega))).trans (kr5.below (by have := (Bk).size; omega) (by have := (Bk).size; omega))
      have P5 := (((Pk.below kq2 (by omega)).below kq3 (by omega)).but kr4 (by omega)).but kr5 (by omega)
      have Q5 := (((Qk.below kq2 (by omega)).below kq3 (by omega)).but kr4 (by omega)).but kr5 (by omega)
      have J5 := (((Jk.below kq2 (by omega)).below kq3 (by omega)).but kr4 (by omega)).but kr5 (by omega)
      have R5 := hR.below B5 hR.lt
      clear Pk Qk Jk Bk kXA kYA kXB kXC kYC kXD kYD kq2 kq3 kr4 kr5 hmk HZ
      go_wp2_with fail
      refine wp_region_heldL (fun y => Blk y w.heap.size 24 (keyL a b) ∧ Blk y w1.heap.size 24 (keyL c d)) 12 (by kernel_rfl) rfl ⟨P5.drew, Q5.drew⟩ fun hHeld => ?_
      simp only [List.replicate]
      (refine wpH_take (i := 0) (v := _) (by simp only [List.getElem?_toArray, List.getElem?_cons_succ, List.getElem?_cons_zero]; rfl) (by kernel_rfl) (by kernel_rfl) (by kernel_rfl) (by intro _ _ _ h; exact h) (Or.inl ⟨by rfl, (by intro w' hSw; (try dsimp only at hSw); go_simp; first | done | with_reducible rfl)⟩) (by assumption) ?_; (try simp only [Act.put, List.setIfInBounds_toArray, List.set_cons_zero, List.set_cons_succ]))
      refine wpH_take (i := 1) (v := .agg (keyL a b).toArray) (by simp only [List.getElem?_toArray, List.getElem?_cons_succ, List.getElem?_cons_zero]; rfl) (by kernel_rfl) (by kernel_rfl) (by kernel_rfl) (by intro _ _ _ h; exact h) (yieldsIf_load_mid (by rfl) 24 _ (by rfl) w.heap.size 0 (by rfl) (keyL a b) _ (fun w' h => Blk.range h.1) Tryd.underlying24 rfl sizeKey) (by assumption) ?_
      (try simp only [Act.put, List.setIfInBounds_toArray, List.set_cons_zero, List.set_cons_succ])
      refine wpH_take (i := 2) (v := .agg (keyL c d).toArray) (by simp only [List.getElem?_toArray, List.getElem?_cons_succ, List.getElem?_cons_zero]; rfl) (by kernel_rfl) (by kernel_rfl) (by kernel_rfl) (by intro _ _ _ h; exact h) (yieldsIf_load_mid (by rfl) 24 _ (by rfl) w1.heap.size 0 (by rfl) (keyL c d) _ (fun w' h => Blk.range h.2) Tryd.underlying24 rfl sizeKey) (by assumption) ?_
      (try simp only [Act.put, List.setIfInBounds_toArray, List.set_cons_zero, List.set_cons_succ])
      (refine wpH_take (i := 3) (v := _) (by simp only [List.getElem?_toArray, List.getElem?_cons_succ, List.getElem?_cons_zero]; rfl) (by kernel_rfl) (by kernel_rfl) (by kernel_rfl) (by intro _ _ _ h; exact h) (Or.inl ⟨by rfl, (by intro w' hSw; (try dsimp only at hSw); go_simp; first | done | with_reducible rfl)⟩) (by assumption) ?_; (try simp only [Act.put, List.setIfInBounds_toArray, List.set_cons_zero, List.set_cons_succ]))
      (refine wpH_take (i := 5) (v := _) (by simp only [List.getElem?_toArray, List.getElem?_cons_succ, List.getElem?_cons_zero]; rfl) (by kernel_rfl) (by kernel_rfl) (by kernel_rfl) (by intro _ _ _ h; exact h) (Or.inl ⟨by rfl, (by intro w' hSw; (try dsimp only at hSw); go_simp; first | done | with_reducible rfl)⟩) (by assumption) ?_; (try simp only [Act.put, List.setIfInBounds_toArray, List.set_cons_zero, List.set_cons_succ]))
      refine wpH_take (i := 6) (v := .agg (keyL a b).toArray) (by simp only [List.getElem?_toArray, List.getElem?_cons_succ, List.getElem?_cons_zero]; rfl) (by kernel_rfl) (by kernel_rfl) (by kernel_rfl) (by intro _ _ _ h; exact h) (yieldsIf_load_mid (by rfl) 24 _ (by rfl) w.heap.size 0 (by rfl) (keyL a b) _ (fun w' h => Blk.range h.1) Tryd.underlying24 rfl sizeKey) (by assumption) ?_
      (try simp only [Act.put, List.setIfInBounds_toArray, List.set_cons_zero, List.set_cons_succ])
      refine wpH_take (i := 7) (v := .agg (keyL c d).toArray) (by simp only [List.getElem?_toArray, List.getElem?_cons_succ, List.getElem?_cons_zero]; rfl) (by kernel_rfl) (by kernel_rfl) (by kernel_rfl) (by intro _ _ _ h; exact h) (yieldsIf_load_mid (by rfl) 24 _ (by rfl) w1.heap.size 0 (by rfl) (keyL c d) _ (fun w' h => Blk.range h.2) Tryd.underlying24 rfl sizeKey) (by assumption) ?_
      (try simp only [Act.put, List.setIfInBounds_toArray, List.set_cons_zero, List.set_cons_succ])
      (refine wpH_take (i := 8) (v := _) (by simp only [List.getElem?_toArray, List.getElem?_cons_succ, List.getElem?_cons_zero]; rfl) (by kernel_rfl) (by kernel_rfl) (by kernel_rfl) (by intro _ _ _ h; exact h) (Or.inl ⟨by rfl, (by intro w' hSw; (try dsimp only at hSw); go_simp; first | done | with_reducible rfl)⟩) (by assumption) ?_; (try simp only [Act.put, List.setIfInBounds_toArray, List.set_cons_zero, List.set_cons_succ]))
      (refine wpH_one (i := 4) (by simp only [List.getElem?_toArray, List.getElem?_cons_succ, List.getElem?_cons_zero]; rfl) (by kernel_rfl) (by rfl) ?_; (go_simp; (with_reducible refine (hS1 _ k5.drew J5.drew R5.drew).mono ?_); rintro e w6 ⟨A6, c6, rfl, O6, b6⟩; refine ⟨⟨P5.drew.below b6 P5.lt, Q5.drew.below b6 Q5.lt⟩, ?_⟩); (try simp only [Act.put, List.setIfInBounds_toArray, List.set_cons_zero, List.set_cons_succ]))
      have P6 := P5.drew.below b6 P5.lt
      have Q6 := Q5.drew.below b6 Q5.lt
      have J6 := J5.drew.below b6 J5.lt
      have R6 := R5.drew.below b6 R5.lt
      have B6 := B5.drew.trans (b6.mono B5.size)
      have hH6 : Blk w6 w.heap.size 24 (keyL a b) ∧ Blk w6 w1.heap.size 24 (keyL c d) := ⟨P6, Q6⟩
      (refine wpH_one (i := 9) (by simp only [List.getElem?_toArray, List.getElem?_cons_succ, List.getElem?_cons_zero]; rfl) (by kernel_rfl) (by rfl) ?_; (go_simp; (with_reducible refine (hS2 _ w6 J6 R6).mono ?_); rintro e w7 ⟨A7, c7, rfl, O7, b7⟩; refine ⟨⟨P6.below b7 P6.lt, Q6.below b7 Q6.lt⟩, ?_⟩); (try simp only [Act.put, List.setIfInBounds_toArray, List.set_cons_zero, List.set_cons_succ]))
      have B7 := B6.trans (b7.mono B6.size)
      have O6' := O6.below b7 (Nat.le_refl _)
      have R7 := R6.below b7 R6.lt
      have hH7 : Blk w7 w.heap.size 24 (keyL a b) ∧ Blk w7 w1.heap.size 24 (keyL c d) := ⟨P6.below b7 P6.lt, Q6.below b7 Q6.lt⟩
      (refine wpH_take (i := 10) (v := _) (by simp only [List.getElem?_toArray, List.getElem?_cons_succ, List.getElem?_cons_zero]; rfl) (by kernel_rfl) (by kernel_rfl) (by kernel_rfl) (by intro _ _ _ h; exact h) (Or.inl ⟨by rfl, (by intro w' hSw; (try dsimp only at hSw); go_simp; first | done | with_reducible rfl)⟩) (by assumption) ?_; (try simp only [Act.put, List.setIfInBounds_toArray, List.set_cons_zero, List.set_cons_succ]))
      (refine wpH_take (i := 11) (v := _) (by simp only [List.getElem?_toArray, List.getElem?_cons_succ, List.getElem?_cons_zero]; rfl) (by kernel_rfl) (by kernel_rfl) (by kernel_rfl) (by intro _ _ _ h; exact h) (Or.inl ⟨by rfl, (by intro w' hSw; (try dsimp only at hSw); go_simp; first | done | with_reducible rfl)⟩) (by assumption) ?_; (try simp only [Act.put, List.setIfInBounds_toArray, List.set_cons_zero, List.set_cons_succ]))
      refine wpH_done (by kernel_rfl) ?_ _
      have hQ := bequal_any A6 A7 52 52 c6 c7 _ _ _ _ _ _ w7 hc1.out hc2.out O6'.bs O7.bs
      rw [hq] at hQ
      clear hHeld hH6 hH7 O6 O6' O7 P6 Q6 J6 R6 P5 Q5 J5 R5 B5 B6 b6 b7 hS1 hS2
      have hqe' : (nonce == other) = q := hqe.symm
      clear hqe
      go_wp2_with fail
      with_reducible refine hQ.mono ?_
      rintro e _ ⟨rfl, rfl⟩
      go_wp2_with fail
      with_reducible refine (awake_any _ R7).mono ?_
      rintro e wa ⟨rfl, ba⟩
      have Ba := (B7).trans (ba.mono (B7).size)
      go_wp2
      go_ret
      exact ⟨rfl, Ba⟩
end Go.Proofs.YtkgpeddncpdjjaaDoor
