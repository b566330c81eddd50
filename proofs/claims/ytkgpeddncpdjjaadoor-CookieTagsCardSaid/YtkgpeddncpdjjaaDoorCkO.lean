/- The jar of cookies: CookieSeals, CookieOpens. -/
import Derived.Test.YtkgpeddncpdjjaaDoorCkN
namespace Go.Proofs.YtkgpeddncpdjjaaDoor
open Go.RowKit
set_option linter.unusedSimpArgs false
set_option linter.unusedVariables false
set_option maxRecDepth 100000
open Go.RowKit
set_option maxHeartbeats 8000000 in
theorem opens_long (s k t : Int) (A : Option Addr) (n c : Nat) (w : World) (h : 300 < n) (hR : Rnd w) :
    Calls Tryd.prog 4 #[.int .u64 s, .int .i64 k, .int .u8 t, .slice A n c] w fun e w' => e = .returned (.bool true) ∧ Below w.heap.size w w' := by
  have h' : (300 : Int) < n := by omega
  have B0 := Below.refl w.heap.size w
  go_enter Tryd.func4, Tryd.ntmps4
  go_wp2_with fail
  with_reducible refine (awake_any _ hR).mono ?_
  rintro e wa ⟨rfl, ba⟩
  have Ba := (B0).trans (ba.mono (B0).size)
  go_wp2
  go_ret
  exact ⟨rfl, Ba⟩
open Go.RowKit
set_option maxHeartbeats 16000000 in
theorem opens_nil (s k t : Int) (A : Option Addr) (n c : Nat) (w : World) (h : n ≤ 300) (hk : ¬(1 ≤ k ∧ k ≤ 8)) (ht : 0 ≤ t ∧ t ≤ 255) (hR : Rnd w) :
    Calls Tryd.prog 4 #[.int .u64 s, .int .i64 k, .int .u8 t, .slice A n c] w fun e w' => e = .returned (.bool true) ∧ Below w.heap.size w w' := by
  have h' : (n : Int) ≤ 300 := by omega
  have Bt := Below.refl w.heap.size w
  have hke := key_eq
  have hP := fun W => open_nil A n c W
  have hQ := fun W => ropen_nil A n c W
  obtain ⟨a0, ha0⟩ : ∃ a : Int, 0 = a := ⟨_, rfl⟩
  obtain ⟨a1, ha1⟩ : ∃ a : Int, 0 = a := ⟨_, rfl⟩
  obtain ⟨a2, ha2⟩ : ∃ a : Int, 0 = a := ⟨_, rfl⟩
  obtain ⟨a3, ha3⟩ : ∃ a : Int, 0 = a := ⟨_, rfl⟩
  have hP' : ∀ W : World, Calls Tryd.prog 16 #[.pointer none, .slice A n c] W fun e w' => e = .returned (.tuple #[keyV a0 a1, keyV a2 a3, .int .i64 1]) ∧ Below W.heap.size W w' := by subst ha0 ha1 ha2 ha3; exact hP
  have hQ' : ∀ W : World, Calls Tryd.prog 17 #[.pointer none, .slice A n c] W fun e w' => e = .returned (.tuple #[keyV a0 a1, keyV a2 a3, .int .i64 1]) ∧ Below W.heap.size W w' := by subst ha0 ha1 ha2 ha3; exact hQ
  clear ha0 ha1 ha2 ha3 hP hQ
  go_enter Tryd.func4, Tryd.ntmps4
  go_wp2_with fail
  with_reducible refine (turned_none s k t w hk ht).mono ?_
  rintro e _ ⟨rfl, rfl⟩
  go_wp2_with fail
  with_reducible refine (hP' _).mono ?_
  rintro e k1 ⟨rfl, kb⟩
  have Bk := Bt.trans (kb.mono Bt.size)
  have zk := Bk.size
  clear kb
  go_wp2_with (first
    | ((with_reducible show wpList _ _ _ (⟨some 11, _, _, _, _, _⟩ :: _) _ _); refine wpl_alloc (by rfl) 24 (by rfl) (keyV 0 0) (keyL 0 0) zeroKey rfl ?_; intro k2 kXA kt2 kq2)
    | (((with_reducible show wpList _ _ _ (⟨some 12, _, _, _, _, _⟩ :: _) _ _); refine wpl_alloc (by rfl) 24 (by rfl) (keyV 0 0) (keyL 0 0) zeroKey rfl ?_; intro k3 kYA kt3 kq3); (have kXB := kXA.below kq3 (by omega)))
    | ((refine wpl_store (by rfl) 24 _ _ (by rfl) k1.heap.size (by rfl) _ (by rfl) (keyL a0 a1) rfl 24 _ kXB (show (2 : Nat) = 2 from rfl) _ sizeKey (by rfl) (by simp [Value.oneCell']) ?_; intro k4 kXC kt4 kr4); (have kYC := kYA.but kr4 (by omega)))
    | ((refine wpl_store (by rfl) 24 _ _ (by rfl) k2.heap.size (by rfl) _ (by rfl) (keyL a2 a3) rfl 24 _ kYC (show (2 : Nat) = 2 from rfl) _ sizeKey (by rfl) (by simp [Value.oneCell']) ?_; intro k5 kYD kt5 kr5); (have kXD := kXC.but kr5 (by omega)))
    )
  have B5 : Below w.heap.size w k5 := ((((Bk).trans (kq2.mono (Bk).size)).trans (kq3.mono (by have := (Bk).size; omega))).trans (kr4.below (by have := (Bk).size; omega) (by have := (Bk).size; omega))).trans (kr5.below (by have := (Bk).size; omega) (by have := (Bk).size; omega))
  have z5 := B5.size
  have bk : Below k1.heap.size k1 k5 := ((kq2.trans (kq3.mono (by omega))).trans (kr4.below (by omega) (by omega))).trans (kr5.below (by omega) (by omega))
  clear kXA kYA kXB kXC kYC kq2 kq3 kr4 kr5
  go_wp2_with fail
  with_reducible refine (hQ' _).mono ?_
  rintro e q1 ⟨rfl, qb⟩
  have X6 := kXD.below qb kXD.lt
  have Y6 := kYD.below qb kYD.lt
  have B6 := B5.trans (qb.mono B5.size)
  have lx := X6.lt
  have ly := Y6.lt
  clear kXD kYD qb
  go_wp2_with (first
    | ((with_reducible show wpList _ _ _ (⟨some 14, _, _, _, _, _⟩ :: _) _ _); refine wpl_alloc (by rfl) 24 (by rfl) (keyV 0 0) (keyL 0 0) zeroKey rfl ?_; intro q2 qXA qt2 qq2)
    | (((with_reducible show wpList _ _ _ (⟨some 15, _, _, _, _, _⟩ :: _) _ _); refine wpl_alloc (by rfl) 24 (by rfl) (keyV 0 0) (keyL 0 0) zeroKey rfl ?_; intro q3 qYA qt3 qq3); (have qXB := qXA.below qq3 (by omega)))
    | ((refine wpl_store (by rfl) 24 _ _ (by rfl) q1.heap.size (by rfl) _ (by rfl) (keyL a0 a1) rfl 24 _ qXB (show (2 : Nat) = 2 from rfl) _ sizeKey (by rfl) (by simp [Value.oneCell']) ?_; intro q4 qXC qt4 qr4); (have qYC := qYA.but qr4 (by omega)))
    | ((refine wpl_store (by rfl) 24 _ _ (by rfl) q2.heap.size (by rfl) _ (by rfl) (keyL a2 a3) rfl 24 _ qYC (show (2 : Nat) = 2 from rfl) _ sizeKey (by rfl) (by simp [Value.oneCell']) ?_; intro q5 qYD qt5 qr5); (have qXD := qXC.but qr5 (by omega)); (have X7 := (((X6.below qq2 (by omega)).below qq3 (by omega)).but qr4 (by omega)).but qr5 (by omega)); (have Y7 := (((Y6.below qq2 (by omega)).below qq3 (by omega)).but qr4 (by omega)).but qr5 (by omega)))
    | (refine wpl_load (by rfl) 24 _ (by rfl) k1.heap.size (by rfl) 24 (keyL a0 a1) X7 _ Tryd.underlying24 rfl _ sizeKey (show (2 : Nat) = 2 from rfl) ?_) | (refine wpl_load (by rfl) 24 _ (by rfl) q1.heap.size (by rfl) 24 (keyL a0 a1) qXD _ Tryd.underlying24 rfl _ sizeKey (show (2 : Nat) = 2 from rfl) ?_) | (refine wpl_load (by rfl) 24 _ (by rfl) k2.heap.size (by rfl) 24 (keyL a2 a3) Y7 _ Tryd.underlying24 rfl _ sizeKey (show (2 : Nat) = 2 from rfl) ?_) | (refine wpl_load (by rfl) 24 _ (by rfl) q2.heap.size (by rfl) 24 (keyL a2 a3) qYD _ Tryd.underlying24 rfl _ sizeKey (show (2 : Nat) = 2 from rfl) ?_))
  have B7 : Below w.heap.size w q5 := ((((B6).trans (qq2.mono (B6).size)).trans (qq3.mono (by have := (B6).size; omega))).trans (qr4.below (by have := (B6).size; omega) (by have := (B6).size; omega))).trans (qr5.below (by have := (B6).size; omega) (by have := (B6).size; omega))
  have R7 := hR.below B7 hR.lt
  clear qXA qYA qXB qXC qYC qq2 qq3 qr4 qr5 X6 Y6 B6
  with_reducible refine (awake_any _ R7).mono ?_
  rintro e wa ⟨rfl, ba⟩
  have Ba := (B7).trans (ba.mono (B7).size)
  go_wp2
  go_ret
  exact ⟨rfl, Ba⟩
set_option maxHeartbeats 16000000 in
theorem opens_some (s k t : Int) (A : Option Addr) (n c : Nat) (l : List Int) (w : World) (hs : U64 s) (hn : l.length = n) (hl : Bs w 0 w.heap.size A l) (hc : n ≤ c) (hcc : c ≤ 9223372036854775807) (h : n ≤ 300) (hk : 1 ≤ k ∧ k ≤ 8) (ht : 0 ≤ t ∧ t ≤ 255) (hR : Rnd w) :
    Calls Tryd.prog 4 #[.int .u64 s, .int .i64 k, .int .u8 t, .slice A n c] w fun e w' => e = .returned (.bool true) ∧ Below w.heap.size w w' := by
  have h' : (n : Int) ≤ 300 := by omega
  have hke := key_eq
  have hg : Gn (1 + t) := ⟨by omega, by omega⟩
  have hP := fun bj W hB hJ hr => open_any bj s k (1 + t) A n c l W hn hB hc hcc hs hg hk hJ hr
  have hQ := fun bj W hB hJ => ropen_any bj s k (1 + t) A n c l W hn hB hc hcc hs hg hk hJ
  obtain ⟨a0, a1, a2, a3, E, hV⟩ : ∃ a0 a1 a2 a3 E, opV s k (1 + t) l = .tuple #[keyV a0 a1, keyV a2 a3, .int .i64 E] := ⟨_, _, _, _, _, rfl⟩
  rw [hV] at hP hQ
  clear hV hn
  go_enter Tryd.func4, Tryd.ntmps4
  go_wp2_with fail
  with_reducible refine (turned_some s k t w hk ht).mono ?_
  rintro e wt ⟨bj, bk', rfl, Jt, Kt, hlj, hlk, hne, Bt⟩
  have ltj := Jt.lt
  have ltk := Kt.lt
  have Rt := hR.below Bt hR.lt
  have ht' := (hl.below Bt (Nat.le_refl _)).wide (Nat.le_refl _) (hi' := wt.heap.size) Bt.size
  go_wp2_with fail
  have hP1 := hP bj wt ht' Jt Rt
  have hQ1 : ∀ W, Below wt.heap.size wt W → Calls Tryd.prog 17 #[.pointer (some ⟨bk', 0, none⟩), .slice A n c] W fun e w' => e = .returned (.tuple #[keyV a0 a1, keyV a2 a3, .int .i64 E]) ∧ Below W.heap.size W w' := fun W hb => hQ bk' W ((ht'.below hb (Nat.le_refl _)).wide (Nat.le_refl _) hb.size) (Kt.below hb ltk)
  clear hP hQ
  with_reducible refine hP1.mono ?_
  rintro e k1 ⟨rfl, kb⟩
  have Bk := Bt.trans (kb.mono Bt.size)
  have zk := Bk.size
  have zkb := kb.size
  go_wp2_with (first
    | ((with_reducible show wpList _ _ _ (⟨some 11, _, _, _, _, _⟩ :: _) _ _); refine wpl_alloc (by rfl) 24 (by rfl) (keyV 0 0) (keyL 0 0) zeroKey rfl ?_; intro k2 kXA kt2 kq2)
    | (((with_reducible show wpList _ _ _ (⟨some 12, _, _, _, _, _⟩ :: _) _ _); refine wpl_alloc (by rfl) 24 (by rfl) (keyV 0 0) (keyL 0 0) zeroKey rfl ?_; intro k3 kYA kt3 kq3); (have kXB := kXA.below kq3 (by omega)))
    | ((refine wpl_store (by rfl) 24 _ _ (by rfl) k1.heap.size (by rfl) _ (by rfl) (keyL a0 a1) rfl 24 _ kXB (show (2 : Nat) = 2 from rfl) _ sizeKey (by rfl) (by simp [Value.oneCell']) ?_; intro k4 kXC kt4 kr4); (have kYC := kYA.but kr4 (by omega)))
    | ((refine wpl_store (by rfl) 24 _ _ (by rfl) k2.heap.size (by rfl) _ (by rfl) (keyL a2 a3) rfl 24 _ kYC (show (2 : Nat) = 2 from rfl) _ sizeKey (by rfl) (by simp [Value.oneCell']) ?_; intro k5 kYD kt5 kr5); (have kXD := kXC.but kr5 (by omega)))
    )
  have B5 : Below w.heap.size w k5 := ((((Bk).trans (kq2.mono (Bk).size)).trans (kq3.mono (by have := (Bk).size; omega))).trans (kr4.below (by have := (Bk).size; omega) (by have := (Bk).size; omega))).trans (kr5.below (by have := (Bk).size; omega) (by have := (Bk).size; omega))
  have z5 := B5.size
  have bk : Below wt.heap.size wt k5 := kb.trans ((((kq2.trans (kq3.mono (by omega))).trans (kr4.below (by omega) (by omega))).trans (kr5.below (by omega) (by omega))).mono zkb)
  clear kXA kYA kXB kXC kYC kq2 kq3 kr4 kr5 kb
  go_wp2_with fail
  have hQ2 := hQ1 k5 bk
  with_reducible refine hQ2.mono ?_
  rintro e q1 ⟨rfl, qb⟩
  have X6 := kXD.below qb kXD.lt
  have Y6 := kYD.below qb kYD.lt
  have B6 := B5.trans (qb.mono B5.size)
  have lx := X6.lt
  have ly := Y6.lt
  clear kXD kYD qb hQ1 hQ2 hP1 Jt Kt ht' bk
  go_wp2_with (first
    | ((with_reducible show wpList _ _ _ (⟨some 14, _, _, _, _, _⟩ :: _) _ _); refine wpl_alloc (by rfl) 24 (by rfl) (keyV 0 0) (keyL 0 0) zeroKey rfl ?_; intro q2 qXA qt2 qq2)
    | (((with_reducible show wpList _ _ _ (⟨some 15, _, _, _, _, _⟩ :: _) _ _); refine wpl_alloc (by rfl) 24 (by rfl) (keyV 0 0) (keyL 0 0) zeroKey rfl ?_; intro q3 qYA qt3 qq3); (have qXB := qXA.below qq3 (by omega)))
    | ((refine wpl_store (by rfl) 24 _ _ (by rfl) q1.heap.size (by rfl) _ (by rfl) (keyL a0 a1) rfl 24 _ qXB (show (2 : Nat) = 2 from rfl) _ sizeKey (by rfl) (by simp [Value.oneCell']) ?_; intro q4 qXC qt4 qr4); (have qYC := qYA.but qr4 (by omega)))
    | ((refine wpl_store (by rfl) 24 _ _ (by rfl) q2.heap.size (by rfl) _ (by rfl) (keyL a2 a3) rfl 24 _ qYC (show (2 : Nat) = 2 from rfl) _ sizeKey (by rfl) (by simp [Value.oneCell']) ?_; intro q5 qYD qt5 qr5); (have qXD := qXC.but qr5 (by omega)); (have X7 := (((X6.below qq2 (by omega)).below qq3 (by omega)).but qr4 (by omega)).but qr5 (by omega)); (have Y7 := (((Y6.below qq2 (by omega)).below qq3 (by omega)).but qr4 (by omega)).but qr5 (by omega)))
    | (refine wpl_load (by rfl) 24 _ (by rfl) k1.heap.size (by rfl) 24 (keyL a0 a1) X7 _ Tryd.underlying24 rfl _ sizeKey (show (2 : Nat) = 2 from rfl) ?_) | (refine wpl_load (by rfl) 24 _ (by rfl) q1.heap.size (by rfl) 24 (keyL a0 a1) qXD _ Tryd.underlying24 rfl _ sizeKey (show (2 : Nat) = 2 from rfl) ?_) | (refine wpl_load (by rfl) 24 _ (by rfl) k2.heap.size (by rfl) 24 (keyL a2 a3) Y7 _ Tryd.underlying24 rfl _ sizeKey (show (2 : Nat) = 2 from rfl) ?_) | (refine wpl_load (by rfl) 24 _ (by rfl) q2.heap.size (by rfl) 24 (keyL a2 a3) qYD _ Tryd.underlying24 rfl _ sizeKey (show (2 : Nat) = 2 from rfl) ?_))
  have B7 : Below w.heap.size w q5 := ((((B6).trans (qq2.mono (B6).size)).trans (qq3.mono (by have := (B6).size; omega))).trans (qr4.below (by have := (B6).size; omega) (by have := (B6).size; omega))).trans (qr5.below (by have := (B6).size; omega) (by have := (B6).size; omega))
  have R7 := hR.below B7 hR.lt
  clear qXA qYA qXB qXC qYC qq2 qq3 qr4 qr5 X6 Y6 B6
  with_reducible refine (awake_any _ R7).mono ?_
  rintro e wa ⟨rfl, ba⟩
  have Ba := (B7).trans (ba.mono (B7).size)
  go_wp2
  go_ret
  exact ⟨rfl, Ba⟩
theorem opensLaw (s k t : Int) (A : Option Addr) (n c : Nat) (l : List Int) (w : World) (hs : U64 s) (hn : l.length = n) (hl : Bs w 0 w.heap.size A l) (hc : n ≤ c) (hcc : c ≤ 9223372036854775807) (ht : 0 ≤ t ∧ t ≤ 255) (hR : Rnd w) :
    Calls Tryd.prog 4 #[.int .u64 s, .int .i64 k, .int .u8 t, .slice A n c] w fun e w' => e = .returned (.bool true) ∧ Below w.heap.size w w' := by
  by_cases h : n ≤ 300
  · by_cases hk : 1 ≤ k ∧ k ≤ 8
    · exact opens_some s k t A n c l w hs hn hl hc hcc h hk ht hR
    · exact opens_nil s k t A n c w h hk ht hR
  · exact opens_long s k t A n c w (by omega) hR
end Go.Proofs.YtkgpeddncpdjjaaDoor
