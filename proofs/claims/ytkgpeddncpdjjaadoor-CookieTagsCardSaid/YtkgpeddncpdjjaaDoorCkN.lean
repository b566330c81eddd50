/- The jar of cookies: turned; CookieSeals, CookieOpens, CookieNobody. -/
import Derived.Test.YtkgpeddncpdjjaaDoorCkM
namespace Go.Proofs.YtkgpeddncpdjjaaDoor
open Go.RowKit
set_option linter.unusedSimpArgs false
set_option linter.unusedVariables false
set_option maxRecDepth 100000
open Go.RowKit
set_option maxHeartbeats 4000000 in
theorem turned_some (s k t : Int) (w : World) (hk : 1 ≤ k ∧ k ≤ 8) (ht : 0 ≤ t ∧ t ≤ 255) :
    Calls Tryd.prog 9 #[.int .u64 s, .int .i64 k, .int .u8 t] w fun e w' => ∃ bj bk, e = .returned (.tuple #[.pointer (some ⟨bj, 0, none⟩), .pointer (some ⟨bk, 0, none⟩)]) ∧ Blk w' bj 50 (jarL s k (1 + t)) ∧ Blk w' bk 55 (jarL s k (1 + t)) ∧ w.heap.size ≤ bj ∧ w.heap.size ≤ bk ∧ bj ≠ bk ∧ Below w.heap.size w w' := by
  obtain ⟨hk1, hk8⟩ := hk
  go_enter Tryd.func9, Tryd.ntmps9
  go_wp2_with (first
    | (go_at_call 18; ((with_reducible refine (new_some s k _ hk1 hk8).mono ?_); rintro e w1 ⟨rfl, J1, b1⟩))
    | (go_at_call 21; ((with_reducible refine (rnew_some s k _ hk1 hk8).mono ?_); rintro e w2 ⟨rfl, K2, b2⟩; (have J2 := J1.below b2 J1.lt))))
  have l1 := J1.lt
  have l2 := K2.lt
  have hne : w.heap.size ≠ w1.heap.size := by omega
  have B2 := b1.trans (b2.mono (by omega))
  have hlo : w.heap.size ≤ w1.heap.size := by omega
  clear J1 b1 b2
  generalize hbk : w1.heap.size = bk at K2 hne hlo ⊢
  clear hbk
  go_loopw [17] (fun i wr => ∃ n : Int, 0 ≤ n ∧ n ≤ t ∧ i = .int .u8 n ∧ Blk wr w.heap.size 50 (jarL s k (1 + n)) ∧ Blk wr bk 55 (jarL s k (1 + n)) ∧ Below w.heap.size w wr) (fun i _ => 256 - (intOf i).toNat)
  case atStart => exact ⟨0, by omega, ht.1, rfl, J2, K2, B2⟩
  case round =>
    obtain ⟨n, hn0, hnt, rfl, hJ, hK, hB⟩ := hrel
    clear J2 K2 B2
    obtain ⟨ht0, ht1⟩ := ht
    have e1 : (1 : Int) + n + 1 = 1 + (n + 1) := by omega
    by_cases hlt : n < t
    · have hw : IntKind.u8.wrap (n + 1) = n + 1 := by rw [IntKind.wrap_u8]; omega
      have hr := rot_ok w.heap.size s k (1 + n) wr hJ (by omega) (by omega)
      rw [e1] at hr
      go_wp2_with fail
      with_reducible refine hr.mono ?_
      rintro e w3 ⟨rfl, J3, g3⟩
      have K3 := hK.but g3 (Ne.symm hne)
      have hr2 := rrot_ok bk s k (1 + n) w3 K3 (by omega) (by omega)
      rw [e1] at hr2
      go_wp2_with fail
      with_reducible refine hr2.mono ?_
      rintro e w4 ⟨rfl, K4, g4⟩
      go_wp2_with fail
      exact ⟨⟨n + 1, by omega, by omega, by simp, J3.but g4 hne, K4, (hB.trans (g3.below hB.size (Nat.le_refl _))).trans (g4.below (Nat.le_trans hB.size g3.size) hlo)⟩, by simp [intOf]; omega⟩
    · obtain rfl : n = t := by omega
      go_wp2_with fail
      go_ret2
      exact ⟨_, _, rfl, hJ, hK, Nat.le_refl _, hlo, hne, hB⟩
set_option maxHeartbeats 4000000 in
theorem turned_none (s k t : Int) (w : World) (hk : ¬(1 ≤ k ∧ k ≤ 8)) (ht : 0 ≤ t ∧ t ≤ 255) :
    Calls Tryd.prog 9 #[.int .u64 s, .int .i64 k, .int .u8 t] w fun e w' => e = .returned (.tuple #[.pointer none, .pointer none]) ∧ w = w' := by
  go_enter Tryd.func9, Tryd.ntmps9
  go_wp2_with (first
    | (go_at_call 18; ((with_reducible refine (new_none s k _ hk).mono ?_); rintro e w1 ⟨rfl, rfl⟩))
    | (go_at_call 21; ((with_reducible refine (rnew_none s k _ hk).mono ?_); rintro e w2 ⟨rfl, rfl⟩)))
  go_loop [17] (fun i => ∃ n : Int, 0 ≤ n ∧ n ≤ t ∧ i = .int .u8 n) (fun i => 256 - (intOf i).toNat)
  case atStart => exact ⟨0, by omega, ht.1, rfl⟩
  case round =>
    obtain ⟨n, hn0, hnt, rfl⟩ := hrel
    obtain ⟨ht0, ht1⟩ := ht
    by_cases hlt : n < t
    · have hw : IntKind.u8.wrap (n + 1) = n + 1 := by rw [IntKind.wrap_u8]; omega
      go_wp2_with (first
        | (go_at_call 19; ((with_reducible refine (rot_nil _).mono ?_); rintro e w1 ⟨rfl, rfl⟩))
        | (go_at_call 22; ((with_reducible refine (rrot_nil _).mono ?_); rintro e w1 ⟨rfl, rfl⟩)))
      exact ⟨⟨n + 1, by omega, by omega, by simp⟩, by simp [intOf]; omega⟩
    · obtain rfl : n = t := by omega
      go_wp2_with fail
      go_ret2
      exact ⟨rfl, rfl⟩
open Go.RowKit
set_option maxHeartbeats 8000000 in
theorem nobodyLaw (a b c d nonce : Int) (A : Option Addr) (n k : Nat) (w : World) (hR : Rnd w) :
    Calls Tryd.prog 7 #[keyV a b, keyV c d, .int .u64 nonce, .slice A n k] w fun e w' => e = .returned (.bool true) ∧ Below w.heap.size w w' := by
  have hw0 := hR.lt
  have hke := key_eq
  go_enter Tryd.func7, Tryd.ntmps7
  go_wp2_with (first
    | ((refine wpl_box (by rfl) 24 _ (by rfl) _ (keyL a b) (by rfl) rfl ?_; intro w1 P1 s1 b1))
    | ((refine wpl_box (by rfl) 24 _ (by rfl) _ (keyL c d) (by rfl) rfl ?_; intro w2 Q2 s2 b2); (have P2 := P1.below b2 (by omega))))
  with_reducible refine (open_nil _ _ _ _).mono ?_
  rintro e k1 ⟨rfl, kb⟩
  have B2 := b1.trans (b2.mono (by omega))
  have Bk := B2.trans (kb.mono B2.size)
  have R1 := hR.below Bk hw0
  have P3 := P2.below kb P2.lt
  have Q3 := Q2.below kb Q2.lt
  have lp := P3.lt
  have lq := Q3.lt
  go_wp2_with (first
    | ((with_reducible show wpList _ _ _ (⟨some 10, _, _, _, _, _⟩ :: _) _ _); refine wpl_alloc (by rfl) 24 (by rfl) (keyV 0 0) (keyL 0 0) zeroKey rfl ?_; intro k2 kXA kt2 kq2)
    | (((with_reducible show wpList _ _ _ (⟨some 11, _, _, _, _, _⟩ :: _) _ _); refine wpl_alloc (by rfl) 24 (by rfl) (keyV 0 0) (keyL 0 0) zeroKey rfl ?_; intro k3 kYA kt3 kq3); (have kXB := kXA.below kq3 (by omega)))
    | ((refine wpl_store (by rfl) 24 _ _ (by rfl) k1.heap.size (by rfl) _ (by rfl) (keyL 0 0) rfl 24 _ kXB (show (2 : Nat) = 2 from rfl) _ sizeKey (by rfl) (by simp [Value.oneCell']) ?_; intro k4 kXC kt4 kr4); (have kYC := kYA.but kr4 (by omega)))
    | ((refine wpl_store (by rfl) 24 _ _ (by rfl) k2.heap.size (by rfl) _ (by rfl) (keyL 0 0) rfl 24 _ kYC (show (2 : Nat) = 2 from rfl) _ sizeKey (by rfl) (by simp [Value.oneCell']) ?_; intro k5 kYD kt5 kr5); (have kXD := kXC.but kr5 (by omega))))
  have B5 : Below w.heap.size w k5 := ((((Bk).trans (kq2.mono (Bk).size)).trans (kq3.mono (by have := (Bk).size; omega))).trans (kr4.below (by have := (Bk).size; omega) (by have := (Bk).size; omega))).trans (kr5.below (by have := (Bk).size; omega) (by have := (Bk).size; omega))
  have P5 := (((P3.below kq2 (by omega)).below kq3 (by omega)).but kr4 (by omega)).but kr5 (by omega)
  have Q5 := (((Q3.below kq2 (by omega)).below kq3 (by omega)).but kr4 (by omega)).but kr5 (by omega)
  have R5 := hR.below B5 hw0
  clear P1 Q2 P2 P3 Q3 R1 Bk B2 b1 b2 kb kXA kYA kXB kXC kYC kq2 kq3 kr4 kr5
  go_wp2_with (first
    | (go_at_call 19; ((with_reducible refine (rot_nil _).mono ?_); rintro e _ ⟨rfl, rfl⟩))
    | (refine wpl_load (by rfl) 24 _ (by rfl) w.heap.size (by rfl) 24 (keyL a b) P5 _ Tryd.underlying24 rfl _ sizeKey (show (2 : Nat) = 2 from rfl) ?_) | (refine wpl_load (by rfl) 24 _ (by rfl) w1.heap.size (by rfl) 24 (keyL c d) Q5 _ Tryd.underlying24 rfl _ sizeKey (show (2 : Nat) = 2 from rfl) ?_))
  with_reducible refine (seal_nil a b c d nonce k5).mono ?_
  rintro e w7 ⟨rfl, b7⟩
  have X7 := kXD.below b7 kXD.lt
  have Y7 := kYD.below b7 kYD.lt
  have B7 := B5.trans (b7.mono B5.size)
  have R7 := hR.below B7 hw0
  clear P5 Q5 R5 B5 kXD kYD b7
  go_wp2_with (first
    | (refine wpl_load (by rfl) 24 _ (by rfl) k1.heap.size (by rfl) 24 (keyL 0 0) X7 _ Tryd.underlying24 rfl _ sizeKey (show (2 : Nat) = 2 from rfl) ?_) | (refine wpl_load (by rfl) 24 _ (by rfl) k2.heap.size (by rfl) 24 (keyL 0 0) Y7 _ Tryd.underlying24 rfl _ sizeKey (show (2 : Nat) = 2 from rfl) ?_)
    | (go_at_call 13; ((with_reducible refine (gen_nil _).mono ?_); rintro e _ ⟨rfl, rfl⟩)))
  with_reducible refine (awake_any _ R7).mono ?_
  rintro e wa ⟨rfl, ba⟩
  go_wp2_with fail
  go_ret
  exact ⟨rfl, B7.trans (ba.mono B7.size)⟩
end Go.Proofs.YtkgpeddncpdjjaaDoor
