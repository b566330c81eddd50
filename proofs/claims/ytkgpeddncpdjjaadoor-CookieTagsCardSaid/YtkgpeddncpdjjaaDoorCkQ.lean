/- The jar of cookies: CookieBack, CookieLengths, CookieTags. -/
import Derived.Test.YtkgpeddncpdjjaaDoorCkP
namespace Go.Proofs.YtkgpeddncpdjjaaDoor
open Go.RowKit
set_option linter.unusedSimpArgs false
set_option linter.unusedVariables false
set_option maxRecDepth 100000
open Go.RowKit
theorem stale_at {k g i : Int} (hk : 1 ≤ k ∧ k ≤ 8) (hg : 1 ≤ g) (hi : 0 ≤ i) : staleB k (g + i) g = decide (k ≤ i) := by
  unfold staleB
  rw [decide_eq_false (by omega : ¬ g < 1), decide_eq_false (by omega : ¬ g + i < g)]
  simp only [Bool.false_or]
  by_cases h : k ≤ i
  · rw [decide_eq_true h, decide_eq_true (by omega)]
  · rw [decide_eq_false h, decide_eq_false (by omega)]
set_option maxHeartbeats 8000000 in
theorem back_no (s k t a b c d nonce : Int) (w : World) (hk : ¬(1 ≤ k ∧ k ≤ 8)) (hR : Rnd w) :
    Calls Tryd.prog 5 #[.int .u64 s, .int .i64 k, .int .u8 t, keyV a b, keyV c d, .int .u64 nonce] w fun e w' => e = .returned (.bool true) ∧ Below w.heap.size w w' := by
  have hN := fun W => new_none s k W hk
  by_cases h1 : k < 1
  · have d1 : decide (k < 1) = true := decide_eq_true h1
    clear h1 hk
    go_enter Tryd.func5, Tryd.ntmps5
    go_wp2_with (first
      | ((refine wpl_box (by rfl) 24 _ (by rfl) _ (keyL a b) (by rfl) rfl ?_; intro w1 P1 s1 b1))
      | ((refine wpl_box (by rfl) 24 _ (by rfl) _ (keyL c d) (by rfl) rfl ?_; intro w2 Q2 s2 b2))
      | (go_at_call 18; ((with_reducible refine (hN _).mono ?_); rintro e _ ⟨rfl, rfl⟩)))
    have B2 := b1.trans (b2.mono (by omega))
    have R2 := hR.below B2 hR.lt
    with_reducible refine (awake_any _ R2).mono ?_
    rintro e wa ⟨rfl, ba⟩
    have Ba := (B2).trans (ba.mono (B2).size)
    go_wp2
    go_ret
    exact ⟨rfl, Ba⟩
  · have d1 : decide (k < 1) = false := decide_eq_false h1
    have d2 : decide (8 < k) = true := decide_eq_true (by omega)
    clear h1 hk
    go_enter Tryd.func5, Tryd.ntmps5
    go_wp2_with (first
      | ((refine wpl_box (by rfl) 24 _ (by rfl) _ (keyL a b) (by rfl) rfl ?_; intro w1 P1 s1 b1))
      | ((refine wpl_box (by rfl) 24 _ (by rfl) _ (keyL c d) (by rfl) rfl ?_; intro w2 Q2 s2 b2))
      | (go_at_call 18; ((with_reducible refine (hN _).mono ?_); rintro e _ ⟨rfl, rfl⟩)))
    have B2 := b1.trans (b2.mono (by omega))
    have R2 := hR.below B2 hR.lt
    with_reducible refine (awake_any _ R2).mono ?_
    rintro e wa ⟨rfl, ba⟩
    have Ba := (B2).trans (ba.mono (B2).size)
    go_wp2
    go_ret
    exact ⟨rfl, Ba⟩
set_option maxHeartbeats 16000000 in
theorem back_yes (s k t a b c d nonce : Int) (w : World) (hs : U64 s) (ha : U64 a) (hb : U64 b) (hc : U64 c) (hd : U64 d) (hn : U64 nonce) (hk : 1 ≤ k ∧ k ≤ 8) (ht : 0 ≤ t ∧ t ≤ 255) (hR : Rnd w) :
    Calls Tryd.prog 5 #[.int .u64 s, .int .i64 k, .int .u8 t, keyV a b, keyV c d, .int .u64 nonce] w fun e w' => e = .returned (.bool true) ∧ Below w.heap.size w w' := by
  have d1 : decide (k < 1) = false := decide_eq_false (by omega)
  have d2 : decide (8 < k) = false := decide_eq_false (by omega)
  have hN := fun W => new_some s k W hk.1 hk.2
  obtain ⟨T, hT⟩ : ∃ T, T = t % 20 := ⟨_, rfl⟩
  have hT0 : 0 ≤ T ∧ T < 20 := by omega
  have ht0 := ht.1
  have hTt := Lib.hid hT.symm
  clear hT
  have hg : Gn (1 + T) := ⟨by omega, by omega⟩
  have hSP := fun bj W hJ hr => seal_any bj s k (1 + T) a b c d nonce W hs hg hn ha hb hc hd hJ hr
  have hcl : Hid ((ckB s (1 + T) nonce a b c d).length = 52) := ckB_len _ _ _ _ _ _ _
  have hO := fun bj g A n c' l W hn' hB hc' hcc hg' hJ hr => open_any bj s k g A n c' l W hn' hB hc' hcc hs hg' hk hJ hr
  have hV : ∀ i : Int, 0 ≤ i → opV s k (1 + T + i) (ckB s (1 + T) nonce a b c d) = if decide (k ≤ i) = true then .tuple #[keyV 0 0, keyV 0 0, .int .i64 17] else .tuple #[keyV a b, keyV c d, .int .i64 0] := fun i hi => by
    rw [← stale_at (g := 1 + T) hk (by omega) hi]
    exact ck_open hg hn ha hb hc hd
  generalize ckB s (1 + T) nonce a b c d = CK at hSP hcl hV
  have hke := key_eq
  go_enter Tryd.func5, Tryd.ntmps5
  go_wp2_with (first
    | ((refine wpl_box (by rfl) 24 _ (by rfl) _ (keyL a b) (by rfl) rfl ?_; intro w1 P1 s1 b1))
    | ((refine wpl_box (by rfl) 24 _ (by rfl) _ (keyL c d) (by rfl) rfl ?_; intro w2 Q2 s2 b2); (have P2 := P1.below b2 (by omega))))
  have B2 := b1.trans (b2.mono (by omega))
  with_reducible refine (hN w2).mono ?_
  rintro e w3 ⟨rfl, J3, b3⟩
  go_wp2_with fail
  with_reducible refine (hN w3).mono ?_
  rintro e w4 ⟨rfl, K4, b4⟩
  have J4 := J3.below b4 J3.lt
  have l3 := J3.lt
  have l4 := K4.lt
  have P4 := (P2.below b3 (by omega)).below b4 (by omega)
  have Q4 := (Q2.below b3 (by omega)).below b4 (by omega)
  have B4 := (B2.trans (b3.mono (by omega))).trans (b4.mono (by omega))
  have R4 := hR.below B4 hR.lt
  have lo4 : 0 < w.heap.size ∧ w.heap.size < w1.heap.size ∧ w1.heap.size < w2.heap.size ∧ w2.heap.size < w3.heap.size := ⟨hR.lt, by omega, by omega, by omega⟩
  clear P1 P2 Q2 J3 B2 b1 b2 b3 b4 hN s1 s2
  generalize w2.heap.size = bj at J4 lo4 l3 ⊢
  generalize w3.heap.size = bo at K4 lo4 l3 l4 ⊢
  clear l3
  go_wp2_with fail
  rw [hTt.out]
  go_loopw [12, 42] (fun r i wr => ∃ n : Int, 0 ≤ n ∧ n ≤ T ∧ r = .bool false ∧ i = .int .u8 n ∧ Blk wr bj 50 (jarL s k (1 + n)) ∧ Blk wr bo 50 (jarL s k (1 + n)) ∧ Blk wr w.heap.size 24 (keyL a b) ∧ Blk wr w1.heap.size 24 (keyL c d) ∧ Below w.heap.size w wr) (fun _ i _ => 256 - (intOf i).toNat)
  case atStart => exact ⟨0, by omega, hT0.1, rfl, rfl, J4, K4, P4, Q4, B4⟩
  case round =>
    obtain ⟨n, hn0, hnt, rfl, rfl, hJ, hK, hP, hQ, hB⟩ := hrel
    clear J4 K4 P4 Q4 B4 R4
    have e1 : (1 : Int) + n + 1 = 1 + (n + 1) := by omega
    by_cases hlt : n < T
    · have hw : IntKind.u8.wrap (n + 1) = n + 1 := by rw [IntKind.wrap_u8]; omega
      have hr := rot_ok bj s k (1 + n) wr hJ (by omega) (by omega)
      rw [e1] at hr
      go_wp2_with fail
      with_reducible refine hr.mono ?_
      rintro e w5 ⟨rfl, J5, g5⟩
      have K5 := hK.but g5 (by omega)
      have hr2 := rot_ok bo s k (1 + n) w5 K5 (by omega) (by omega)
      rw [e1] at hr2
      go_wp2_with fail
      with_reducible refine hr2.mono ?_
      rintro e w6 ⟨rfl, K6, g6⟩
      go_wp2_with fail
      exact ⟨⟨n + 1, by omega, by omega, rfl, by simp, J5.but g6 (by omega), K6, (hP.but g5 (by omega)).but g6 (by omega), (hQ.but g5 (by omega)).but g6 (by omega), (hB.trans (g5.below hB.size (by omega))).trans (g6.below (Nat.le_trans hB.size g5.size) (by omega))⟩, by simp [intOf]; omega⟩
    · obtain rfl : n = T := by omega
      have hRr := hR.below hB hR.lt
      go_wp2_with (first | ((with_reducible show wpList _ _ _ (⟨_, .load _ _, _, _, _, _⟩ :: _) _ _); refine wpl_load (by rfl) 24 _ (by rfl) w.heap.size (by rfl) 24 (keyL a b) hP _ Tryd.underlying24 rfl _ sizeKey (show (2 : Nat) = 2 from rfl) ?_) | ((with_reducible show wpList _ _ _ (⟨_, .load _ _, _, _, _, _⟩ :: _) _ _); refine wpl_load (by rfl) 24 _ (by rfl) w1.heap.size (by rfl) 24 (keyL c d) hQ _ Tryd.underlying24 rfl _ sizeKey (show (2 : Nat) = 2 from rfl) ?_))
      have hE := hSP bj wr hJ hRr
      with_reducible refine hE.mono ?_
      rintro e w5 ⟨A5, c5, rfl, O5, b5⟩
      have J5 := hJ.below b5 hJ.lt
      have K5 := hK.below b5 hK.lt
      have P5 := hP.below b5 hP.lt
      have Q5 := hQ.below b5 hQ.lt
      have R5 := hRr.below b5 hRr.lt
      have B5 := hB.trans (b5.mono hB.size)
      have ltr : bo < wr.heap.size ∧ bj < wr.heap.size := ⟨hK.lt, hJ.lt⟩
      have z5 := b5.size
      clear hE hJ hK hP hQ hRr hB b5
      go_wp2_with (first | ((with_reducible show wpList _ _ _ (⟨_, .load _ _, _, _, _, _⟩ :: _) _ _); refine wpl_load (by rfl) 24 _ (by rfl) w.heap.size (by rfl) 24 (keyL a b) P5 _ Tryd.underlying24 rfl _ sizeKey (show (2 : Nat) = 2 from rfl) ?_) | ((with_reducible show wpList _ _ _ (⟨_, .load _ _, _, _, _, _⟩ :: _) _ _); refine wpl_load (by rfl) 24 _ (by rfl) w1.heap.size (by rfl) 24 (keyL c d) Q5 _ Tryd.underlying24 rfl _ sizeKey (show (2 : Nat) = 2 from rfl) ?_))
      have hE := hSP bo w5 K5 R5
      with_reducible refine hE.mono ?_
      rintro e w6 ⟨A6, c6, rfl, O6, b6⟩
      have J6 := J5.below b6 J5.lt
      have K6 := K5.below b6 K5.lt
      have P6 := P5.below b6 P5.lt
      have Q6 := Q5.below b6 Q5.lt
      have R6 := R5.below b6 R5.lt
      have B6 := B5.trans (b6.mono B5.size)
      have hc5 := O5.cap_le
      have hm5 := O5.cap_max
      rw [hcl.out] at hc5
      have D6 := O5.bs.below b6 (Nat.le_refl _)
      have z6 := b6.size
      have hQ := bequal_any A5 A6 52 52 c5 c6 _ _ _ _ _ _ w6 hcl.out hcl.out D6 O6.bs
      rw [eqB_self] at hQ
      clear hE O5 O6 J5 K5 P5 Q5 R5 B5 b6 hSP
      go_wp2_with fail
      with_reducible refine hQ.mono ?_
      rintro e _ ⟨rfl, rfl⟩
      clear hQ
      obtain ⟨hi, hhi⟩ : ∃ hi, hi = w5.heap.size := ⟨_, rfl⟩
      rw [← hhi] at D6 z6
      have hlo : bo < wr.heap.size := ltr.1
      generalize wr.heap.size = lo at D6 hlo ltr z5
      clear hhi
      go_wp2_with fail
      go_loopw [66] (fun i wr => ∃ m : Nat, m ≤ 12 ∧ i = .int .i64 m ∧ Blk wr bj 50 (jarL s k (1 + n)) ∧ Blk wr bo 50 (jarL s k (1 + n + m)) ∧ Blk wr w.heap.size 24 (keyL a b) ∧ Blk wr w1.heap.size 24 (keyL c d) ∧ Bs wr lo hi A5 CK ∧ hi ≤ wr.heap.size ∧ Below w.heap.size w wr) (fun i _ => 12 - (intOf i).toNat)
      case atStart => exact ⟨0, by omega, rfl, J6, by simpa using K6, P6, Q6, D6, z6, B6⟩
      case round =>
        rename_i wq
        obtain ⟨m, hm, rfl, hJ, hK, hP, hQ, hD, hh, hB⟩ := hrel
        clear J6 K6 P6 Q6 R6 D6 B6 z6
        by_cases hlt : m < 12
        · obtain ⟨wo, rfl⟩ : ∃ wo : World, wo = wr := ⟨wr, rfl⟩
          have hltI : (m : Int) < 12 := by omega
          have hRr := hR.below hB hR.lt
          have hE := hO bo (1 + n + m) A5 52 c5 CK wo hcl.out (hD.wide (Nat.zero_le _) hh) hc5 hm5 ⟨by omega, by omega⟩ hK hRr
          rw [hV m (by omega)] at hE
          by_cases hkm : k ≤ (m : Int)
          · rw [if_pos (decide_eq_true hkm)] at hE
            have e1 : decide ((m : Int) < k) = false := decide_eq_false (by omega)
            have e2 : decide (k ≤ (m : Int)) = true := decide_eq_true hkm
            clear hkm
            go_wp2_with fail
            with_reducible refine hE.mono ?_
            rintro e k1 ⟨rfl, kb⟩
            have Bk := hB.trans (kb.mono hB.size)
            have zk := kb.size
            have zB := Bk.size
            have Pk := hP.below kb hP.lt
            have Qk := hQ.below kb hQ.lt
            have Jk := hJ.below kb hJ.lt
            have Kk := hK.below kb hK.lt
            have Dk := hD.below kb hh
            have lP := Pk.lt
            have lQ := Qk.lt
            have lJ := Jk.lt
            have lK := Kk.lt
            clear hE hP hQ hJ hK hD hB kb hRr
            go_wp2_with (first
              | ((with_reducible show wpList _ _ _ (⟨some 17, _, _, _, _, _⟩ :: _) _ _); refine wpl_alloc (by rfl) 24 (by rfl) (keyV 0 0) (keyL 0 0) zeroKey rfl ?_; intro k2 kXA kt2 kq2)
              | (((with_reducible show wpList _ _ _ (⟨some 18, _, _, _, _, _⟩ :: _) _ _); refine wpl_alloc (by rfl) 24 (by rfl) (keyV 0 0) (keyL 0 0) zeroKey rfl ?_; intro k3 kYA kt3 kq3); (have kXB := kXA.below kq3 (by omega)))
              | (((with_reducible show wpList _ _ _ (⟨_, .store _ _ _, _, _, _, _⟩ :: _) _ _); refine wpl_store (by rfl) 24 _ _ (by rfl) k1.heap.size (by rfl) _ (by rfl) (keyL 0 0) rfl 24 _ kXB (show (2 : Nat) = 2 from rfl) _ sizeKey (by rfl) (by simp [Value.oneCell']) ?_; intro k4 kXC kt4 kr4); (have kYC := kYA.but kr4 (by omega)))
              | (((with_reducible show wpList _ _ _ (⟨_, .store _ _ _, _, _, _, _⟩ :: _) _ _); refine wpl_store (by rfl) 24 _ _ (by rfl) k2.heap.size (by rfl) _ (by rfl) (keyL 0 0) rfl 24 _ kYC (show (2 : Nat) = 2 from rfl) _ sizeKey (by rfl) (by simp [Value.oneCell']) ?_; intro k5 kYD kt5 kr5); (have kXD := kXC.but kr5 (by omega)); (have P5 := (((Pk.below kq2 (by omega)).below kq3 (by omega)).but kr4 (by omega)).but kr5 (by omega)); (have Q5 := (((Qk.below kq2 (by omega)).below kq3 (by omega)).but kr4 (by omega)).but kr5 (by omega)))
              )
            have B5 : Below w.heap.size w k5 := ((((Bk).trans (kq2.mono (Bk).size)).trans (kq3.mono (by have := (Bk).size; omega))).trans (kr4.below (by have := (Bk).size; omega) (by have := (Bk).size; omega))).trans (kr5.below (by have := (Bk).size; omega) (by have := (Bk).size; omega))
            have J5 := (((Jk.below kq2 (by omega)).below kq3 (by omega)).but kr4 (by omega)).but kr5 (by omega)
            have K5 := (((Kk.below kq2 (by omega)).below kq3 (by omega)).but kr4 (by omega)).but kr5 (by omega)
            have D5 := (((Dk.below kq2 (by omega)).below kq3 (by omega)).grown kr4 (by omega) (by intro r hr; simp at hr; omega)).grown kr5 (by omega) (by intro r hr; simp at hr; omega)
            have z5 := B5.size
            have lJ5 := J5.lt
            have hr := rot_ok bo s k (1 + n + m) k5 K5 (by omega) (by omega)
            rw [show (1 : Int) + n + m + 1 = 1 + n + ((m + 1 : Nat) : Int) by omega] at hr
            with_reducible refine hr.mono ?_
            rintro e w9 ⟨rfl, K9, g9⟩
            have z9 := g9.size
            go_wp2_with fail
            exact ⟨⟨m + 1, by omega, by go_num, J5.but g9 (by omega), K9, P5.but g9 (by omega), Q5.but g9 (by omega), D5.grown g9 (by omega) (by intro r hr; simp at hr; omega), by omega, B5.trans (g9.below z5 (by omega))⟩, by simp [intOf]; omega⟩
          · rw [if_neg (by simpa using hkm)] at hE
            have e1 : decide ((m : Int) < k) = true := decide_eq_true (by omega)
            have e2 : decide (k ≤ (m : Int)) = false := decide_eq_false hkm
            clear hkm
            go_wp2_with fail
            with_reducible refine hE.mono ?_
            rintro e k1 ⟨rfl, kb⟩
            have Bk := hB.trans (kb.mono hB.size)
            have zk := kb.size
            have zB := Bk.size
            have Pk := hP.below kb hP.lt
            have Qk := hQ.below kb hQ.lt
            have Jk := hJ.below kb hJ.lt
            have Kk := hK.below kb hK.lt
            have Dk := hD.below kb hh
            have lP := Pk.lt
            have lQ := Qk.lt
            have lJ := Jk.lt
            have lK := Kk.lt
            clear hE hP hQ hJ hK hD hB kb hRr
            go_wp2_with (first
              | ((with_reducible show wpList _ _ _ (⟨some 17, _, _, _, _, _⟩ :: _) _ _); refine wpl_alloc (by rfl) 24 (by rfl) (keyV 0 0) (keyL 0 0) zeroKey rfl ?_; intro k2 kXA kt2 kq2)
              | (((with_reducible show wpList _ _ _ (⟨some 18, _, _, _, _, _⟩ :: _) _ _); refine wpl_alloc (by rfl) 24 (by rfl) (keyV 0 0) (keyL 0 0) zeroKey rfl ?_; intro k3 kYA kt3 kq3); (have kXB := kXA.below kq3 (by omega)))
              | (((with_reducible show wpList _ _ _ (⟨_, .store _ _ _, _, _, _, _⟩ :: _) _ _); refine wpl_store (by rfl) 24 _ _ (by rfl) k1.heap.size (by rfl) _ (by rfl) (keyL a b) rfl 24 _ kXB (show (2 : Nat) = 2 from rfl) _ sizeKey (by rfl) (by simp [Value.oneCell']) ?_; intro k4 kXC kt4 kr4); (have kYC := kYA.but kr4 (by omega)))
              | (((with_reducible show wpList _ _ _ (⟨_, .store _ _ _, _, _, _, _⟩ :: _) _ _); refine wpl_store (by rfl) 24 _ _ (by rfl) k2.heap.size (by rfl) _ (by rfl) (keyL c d) rfl 24 _ kYC (show (2 : Nat) = 2 from rfl) _ sizeKey (by rfl) (by simp [Value.oneCell']) ?_; intro k5 kYD kt5 kr5); (have kXD := kXC.but kr5 (by omega)); (have P5 := (((Pk.below kq2 (by omega)).below kq3 (by omega)).but kr4 (by omega)).but kr5 (by omega)); (have Q5 := (((Qk.below kq2 (by omega)).below kq3 (by omega)).but kr4 (by omega)).but kr5 (by omega)))
              | ((with_reducible show wpList _ _ _ (⟨_, .load _ _, _, _, _, _⟩ :: _) _ _); refine wpl_load (by rfl) 24 _ (by rfl) k1.heap.size (by rfl) 24 (keyL a b) kXD _ Tryd.underlying24 rfl _ sizeKey (show (2 : Nat) = 2 from rfl) ?_) | ((with_reducible show wpList _ _ _ (⟨_, .load _ _, _, _, _, _⟩ :: _) _ _); refine wpl_load (by rfl) 24 _ (by rfl) w.heap.size (by rfl) 24 (keyL a b) P5 _ Tryd.underlying24 rfl _ sizeKey (show (2 : Nat) = 2 from rfl) ?_) | ((with_reducible show wpList _ _ _ (⟨_, .load _ _, _, _, _, _⟩ :: _) _ _); refine wpl_load (by rfl) 24 _ (by rfl) k2.heap.size (by rfl) 24 (keyL c d) kYD _ Tryd.underlying24 rfl _ sizeKey (show (2 : Nat) = 2 from rfl) ?_) | ((with_reducible show wpList _ _ _ (⟨_, .load _ _, _, _, _, _⟩ :: _) _ _); refine wpl_load (by rfl) 24 _ (by rfl) w1.heap.size (by rfl) 24 (keyL c d) Q5 _ Tryd.underlying24 rfl _ sizeKey (show (2 : Nat) = 2 from rfl) ?_))
            have B5 : Below w.heap.size w k5 := ((((Bk).trans (kq2.mono (Bk).size)).trans (kq3.mono (by have := (Bk).size; omega))).trans (kr4.below (by have := (Bk).size; omega) (by have := (Bk).size; omega))).trans (kr5.below (by have := (Bk).size; omega) (by have := (Bk).size; omega))
            have J5 := (((Jk.below kq2 (by omega)).below kq3 (by omega)).but kr4 (by omega)).but kr5 (by omega)
            have K5 := (((Kk.below kq2 (by omega)).below kq3 (by omega)).but kr4 (by omega)).but kr5 (by omega)
            have D5 := (((Dk.below kq2 (by omega)).below kq3 (by omega)).grown kr4 (by omega) (by intro r hr; simp at hr; omega)).grown kr5 (by omega) (by intro r hr; simp at hr; omega)
            have z5 := B5.size
            have lJ5 := J5.lt
            have hr := rot_ok bo s k (1 + n + m) k5 K5 (by omega) (by omega)
            rw [show (1 : Int) + n + m + 1 = 1 + n + ((m + 1 : Nat) : Int) by omega] at hr
            with_reducible refine hr.mono ?_
            rintro e w9 ⟨rfl, K9, g9⟩
            have z9 := g9.size
            go_wp2_with fail
            exact ⟨⟨m + 1, by omega, by go_num, J5.but g9 (by omega), K9, P5.but g9 (by omega), Q5.but g9 (by omega), D5.grown g9 (by omega) (by intro r hr; simp at hr; omega), by omega, B5.trans (g9.below z5 (by omega))⟩, by simp [intOf]; omega⟩
        · obtain rfl : 12 = m := by omega
          have hRr := hR.below hB hR.lt
          have hE := hO bj (1 + n) A5 52 c5 CK wr hcl.out (hD.wide (Nat.zero_le _) hh) hc5 hm5 ⟨by omega, by omega⟩ hJ hRr
          have hV0 := hV 0 (by omega)
          rw [Int.add_zero, if_neg (by simp; omega)] at hV0
          rw [hV0] at hE
          clear hV0 hP hQ hK hD hRr
          go_wp2_with fail
          with_reducible refine hE.mono ?_
          rintro e k1 ⟨rfl, kb⟩
          have Bk := hB.trans (kb.mono hB.size)
          have zk := kb.size
          have zB := Bk.size
          clear hE hJ kb
          go_wp2_with (first
            | ((with_reducible show wpList _ _ _ (⟨some 20, _, _, _, _, _⟩ :: _) _ _); refine wpl_alloc (by rfl) 24 (by rfl) (keyV 0 0) (keyL 0 0) zeroKey rfl ?_; intro k2 kXA kt2 kq2)
            | (((with_reducible show wpList _ _ _ (⟨some 21, _, _, _, _, _⟩ :: _) _ _); refine wpl_alloc (by rfl) 24 (by rfl) (keyV 0 0) (keyL 0 0) zeroKey rfl ?_; intro k3 kYA kt3 kq3); (have kXB := kXA.below kq3 (by omega)))
            | (((with_reducible show wpList _ _ _ (⟨_, .store _ _ _, _, _, _, _⟩ :: _) _ _); refine wpl_store (by rfl) 24 _ _ (by rfl) k1.heap.size (by rfl) _ (by rfl) (keyL a b) rfl 24 _ kXB (show (2 : Nat) = 2 from rfl) _ sizeKey (by rfl) (by simp [Value.oneCell']) ?_; intro k4 kXC kt4 kr4); (have kYC := kYA.but kr4 (by omega)))
            | (((with_reducible show wpList _ _ _ (⟨_, .store _ _ _, _, _, _, _⟩ :: _) _ _); refine wpl_store (by rfl) 24 _ _ (by rfl) k2.heap.size (by rfl) _ (by rfl) (keyL c d) rfl 24 _ kYC (show (2 : Nat) = 2 from rfl) _ sizeKey (by rfl) (by simp [Value.oneCell']) ?_; intro k5 kYD kt5 kr5); (have kXD := kXC.but kr5 (by omega)))
            )
          have B5 : Below w.heap.size w k5 := ((((Bk).trans (kq2.mono (Bk).size)).trans (kq3.mono (by have := (Bk).size; omega))).trans (kr4.below (by have := (Bk).size; omega) (by have := (Bk).size; omega))).trans (kr5.below (by have := (Bk).size; omega) (by have := (Bk).size; omega))
          have Ra := hR.below B5 hR.lt
          with_reducible refine (awake_any _ Ra).mono ?_
          rintro e wa ⟨rfl, ba⟩
          have Ba := (B5).trans (ba.mono (B5).size)
          go_wp2
          go_ret
          exact ⟨rfl, Ba⟩
theorem backLaw (s k t a b c d nonce : Int) (w : World) (hs : U64 s) (ha : U64 a) (hb : U64 b) (hc : U64 c) (hd : U64 d) (hn : U64 nonce) (ht : 0 ≤ t ∧ t ≤ 255) (hR : Rnd w) :
    Calls Tryd.prog 5 #[.int .u64 s, .int .i64 k, .int .u8 t, keyV a b, keyV c d, .int .u64 nonce] w fun e w' => e = .returned (.bool true) ∧ Below w.heap.size w w' := by
  by_cases hk : 1 ≤ k ∧ k ≤ 8
  · exact back_yes s k t a b c d nonce w hs ha hb hc hd hn hk ht hR
  · exact back_no s k t a b c d nonce w hk hR
end Go.Proofs.YtkgpeddncpdjjaaDoor
