/- ServerFields (P30.3): for every input the law returns true, and its arguments read afterwards as before. No condition. -/
import Derived.Test.YtjclifjipphnkaaSvN
import Derived.Test.YtjclifjipphnkaaSvH
import Derived.Test.YtjclifjipphnkaaExt2
namespace Go.Proofs.Ytjclifjipphnkaa
open Go.ChangeShapes Go.WideShapes Go.ChangeAt Go.RowKit Go.Joins
set_option linter.unusedSimpArgs false
set_option linter.unusedVariables false
set_option maxRecDepth 100000
theorem Xs.grown {w w' : World} {hi g : Nat} {A : Option Addr} {L : List (Int × List Int)} (h : Xs w hi A L) (hg : But g w w') (hh : hi ≤ w.heap.size) (hr : hi ≤ g) : Xs w' hi A L := h.below (hg.below hh hr) (Nat.le_refl _)
theorem field_both (a b : Int) : ∃ (K E : Int) (D : List Int) (N : Nat), D.length = N ∧ N ≤ 16 ∧
    (∀ w : World, Calls Try.prog 18 #[.agg (ivL a b).toArray] w fun e w' => ∃ A c, e = .returned (.tuple #[exV K A N c, .int .i64 E]) ∧ Bs w' w.heap.size w'.heap.size A D ∧ Below w.heap.size w w') ∧
    (∀ w : World, Calls Try.prog 19 #[.agg (ivL a b).toArray] w fun e w' => ∃ A c, e = .returned (.tuple #[exV K A N c, .int .i64 E]) ∧ Bs w' w.heap.size w'.heap.size A D ∧ Below w.heap.size w w') := by
  cases h : ivB a b with
  | true =>
    refine ⟨28929, 0, bytesB 8 (u64 a) ++ bytesB 8 (u64 b), 16, by rw [List.length_append, bytesB_length, bytesB_length], by omega, fun w => ?_, fun w => ?_⟩
    · exact (field_ok a b w h).mono fun e w' ⟨g, h1, h2, h3, h4⟩ => ⟨_, _, h1, (h2.bs (Byt.app (bytesB_byt _ _) (bytesB_byt _ _))).wide h3 (by have := h2.lt; omega), h4⟩
    · exact rfield_ok a b w h
  | false =>
    refine ⟨0, 2, [], 0, rfl, by omega, fun w => ?_, fun w => ?_⟩
    · exact (field_no a b w h).mono fun e w' ⟨h1, h2⟩ => ⟨none, 0, h1, Bs.nil, h2⟩
    · exact (rfield_no a b w h).mono fun e w' ⟨h1, h2⟩ => ⟨none, 0, h1, Bs.nil, h2⟩
theorem interval_both (A : Option Addr) (c : Nat) (L : List (Int × List Int)) (n : Nat) (hn : L.length = n) (hnc : n ≤ c) (hc : c ≤ 9223372036854775807) (hsz : ∀ k, k < n → (dtL L k).length ≤ 140737488351232) : ∃ x y E : Int,
    (∀ w, Xs w w.heap.size A L → Calls Try.prog 20 #[.slice A n c] w fun e w' => e = .returned (.tuple #[.agg (ivL x y).toArray, .int .i64 E]) ∧ Below w.heap.size w w') ∧
    (∀ w, Xs w w.heap.size A L → Calls Try.prog 21 #[.slice A n c] w fun e w' => e = .returned (.tuple #[.agg (ivL x y).toArray, .int .i64 E]) ∧ Below w.heap.size w w') := by
  rcases first_or L 28929 n with h | ⟨k, h1, h2, h3⟩
  · exact ⟨0, 0, 11, fun w H => interval_none A c L n w hn H hnc hc hsz h, fun w H => rinterval_none A c L n w hn H hnc hc h⟩
  · exact ⟨_, _, _, fun w H => interval_some A c L n k w hn H hnc hc hsz h1 h2 h3, fun w H => rinterval_some A c L n k w hn H hnc hc h1 h2 h3⟩
set_option maxHeartbeats 2000000 in
theorem same_yes (K : Int) (A B : Option Addr) (n c d lo hi lo' hi' : Nat) (D : List Int) (w : World) (hn : D.length = n) (hA : Bs w lo hi A D) (hB : Bs w lo' hi' B D) (h1 : hi ≤ w.heap.size) (h2 : hi' ≤ w.heap.size) (hm : n ≤ 1000000) :
    Calls Try.prog 22 #[exV K A n c, exV K B n d] w fun e w' => e = .returned (.bool true) ∧ Below w.heap.size w w' := by
  go_enter Try.func22, Try.ntmps22
  go_wp2_with (first
    | (refine wpl_box (by rfl) 50 _ (by rfl) _ (exL K A n c) (by rfl) rfl ?_; intro w1 P1 s1 b1)
    | ((refine wpl_box (by rfl) 50 _ (by rfl) _ (exL K B n d) (by rfl) rfl ?_; intro w2 Q2 s2 b2); (have P2 := P1.below b2 (by omega)))
    | (refine wpl_loadf (by rfl) 3 _ (by rfl) w.heap.size 0 (by rfl) _ _ P2 _ rfl _ Try.underlying3 rfl ?_) | (refine wpl_loadf (by rfl) 3 _ (by rfl) w1.heap.size 0 (by rfl) _ _ Q2 _ rfl _ Try.underlying3 rfl ?_) | (refine wpl_loadf (by rfl) 48 _ (by rfl) w.heap.size 1 (by rfl) _ _ P2 _ rfl _ Try.underlying48 rfl ?_) | (refine wpl_loadf (by rfl) 48 _ (by rfl) w1.heap.size 1 (by rfl) _ _ Q2 _ rfl _ Try.underlying48 rfl ?_))
  have hE := equal_any A B n n c d lo hi lo' hi' D D w2 hn hn ((hA.below b1 h1).below b2 (by omega)) ((hB.below b1 h2).below b2 (by omega)) (by omega) (by omega) (by omega) (by omega)
  rw [eqB_self] at hE
  with_reducible refine hE.mono ?_
  rintro e w3 ⟨rfl, b3⟩
  go_wp2
  go_ret
  exact ⟨rfl, (b1.trans (b2.mono (by omega))).trans (b3.mono (by omega))⟩
set_option maxHeartbeats 8000000 in
theorem fieldsLaw (a b : Int) (A : Option Addr) (n c : Nat) (L : List (Int × List Int)) (w : World) (hL : L.length = n) (hX0 : Xs w w.heap.size A L) (hnc : n ≤ c) (hc : c ≤ 9223372036854775807) (hsz : ∀ k, k < n → (dtL L k).length ≤ 140737488351232) :
    Calls Try.prog 6 #[.agg (ivL a b).toArray, .slice A n c] w fun e w' => e = .returned (.bool true) ∧ Below w.heap.size w w' := by
  obtain ⟨K, E, D, N, hN, hN16, hF, hG⟩ := field_both a b
  by_cases h200 : n ≤ 200
  · obtain ⟨x, y, Z, hI, hR⟩ := interval_both A c L n hL hnc hc hsz
    have h' : (n : Int) ≤ 200 := by omega
    have hmin : (min (n : Int) 200).toNat = n := by omega
    have hX := hX0
    clear hX0 hsz hL
    go_enter Try.func6, Try.ntmps6
    go_wp2_with (first
      | (refine wpl_box (by rfl) 46 _ (by rfl) _ (ivL a b) (by rfl) rfl ?_; intro w1 P1 s1 b1)
      | (refine wpl_load (by rfl) 46 _ (by rfl) w.heap.size (by rfl) 46 _ P1 _ Try.underlying46 rfl _ sizeIv (by rfl) ?_))
    with_reducible refine (hF w1).mono ?_
    rintro e w2 ⟨A2, c2, rfl, D2, b2⟩
    have P2 := P1.below b2 (by omega)
    have X2 := (hX.below b1 (Nat.le_refl _)).below b2 (by omega)
    have B2 := b1.trans (b2.mono b1.size)
    have z2 := b2.size
    clear P1 hX b1 b2 hF
    go_wp2_with (first
      | (refine wpl_alloc (by rfl) 50 (by rfl) (.agg (exL 0 none 0 0).toArray) (exL 0 none 0 0) zeroExt rfl ?_; intro w3 J3 s3 b3)
      | (refine wpl_store (by rfl) 50 _ _ (by rfl) w2.heap.size (by rfl) _ (by rfl) (exL K A2 N c2) rfl 50 _ J3 (by rfl) _ sizeExt (by rfl) (by simp [Value.oneCell']) ?_; intro w4 J4 s4 g4; (have P4 := (P2.below b3 (by omega)).but g4 (by omega)))
      | (refine wpl_load (by rfl) 46 _ (by rfl) w.heap.size (by rfl) 46 _ P4 _ Try.underlying46 rfl _ sizeIv (by rfl) ?_))
    have D4 := (D2.below b3 (Nat.le_refl _)).grown g4 (by omega) (by intro g hg; simp at hg; omega)
    have X4 := (X2.below b3 (by omega)).grown g4 (by omega) (by omega)
    have B4 := (B2.trans (b3.mono (by omega))).trans (g4.below (by omega) (by omega))
    have z4 := J4.lt
    clear P2 X2 D2 B2 b3 g4 J3
    with_reducible refine (hG w4).mono ?_
    rintro e w5 ⟨A5, c5, rfl, D5, b5⟩
    have J5 := J4.below b5 z4
    have D5' := D4.below b5 (by omega)
    have X5 := X4.below b5 (by omega)
    have B5 := B4.trans (b5.mono B4.size)
    have z5 := b5.size
    clear J4 D4 X4 B4 b5 hG P4
    go_wp2_with (first
      | (refine wpl_alloc (by rfl) 50 (by rfl) (.agg (exL 0 none 0 0).toArray) (exL 0 none 0 0) zeroExt rfl ?_; intro w6 K6 s6 b6)
      | (refine wpl_store (by rfl) 50 _ _ (by rfl) w5.heap.size (by rfl) _ (by rfl) (exL K A5 N c5) rfl 50 _ K6 (by rfl) _ sizeExt (by rfl) (by simp [Value.oneCell']) ?_; intro w7 K7 s7 g7))
    have J7 := (J5.below b6 (by omega)).but g7 (by omega)
    have E7 := (D5'.below b6 (by omega)).grown g7 (by omega) (by intro g hg; simp at hg; omega)
    have D7 := (D5.below b6 (Nat.le_refl _)).grown g7 (by omega) (by intro g hg; simp at hg; omega)
    have X7 := (X5.below b6 (by omega)).grown g7 (by omega) (by omega)
    have B7 := (B5.trans (b6.mono (by omega))).trans (g7.below (by omega) (by omega))
    have z7 := K7.lt
    clear J5 D5 D5' X5 B5 b6 g7 K6
    with_reducible refine (hI w7 (X7.wide (by omega))).mono ?_
    rintro e w8 ⟨rfl, b8⟩
    have J8 := J7.below b8 (by omega)
    have K8 := K7.below b8 (by omega)
    have E8 := E7.below b8 (by omega)
    have D8 := D7.below b8 (by omega)
    have X8 := X7.below b8 (by omega)
    have B8 := B7.trans (b8.mono B7.size)
    have z8 := b8.size
    clear J7 K7 E7 D7 X7 B7 b8 hI
    go_wp2_with (first
      | (refine wpl_alloc (by rfl) 46 (by rfl) (.agg (ivL 0 0).toArray) (ivL 0 0) zeroIv rfl ?_; intro w9 I9 s9 b9)
      | (refine wpl_store (by rfl) 46 _ _ (by rfl) w8.heap.size (by rfl) _ (by rfl) _ rfl 46 _ I9 (by rfl) _ sizeIv (by rfl) (by simp [Value.oneCell']) ?_; intro w10 I10 s10 g10))
    have J10 := (J8.below b9 (by omega)).but g10 (by omega)
    have K10 := (K8.below b9 (by omega)).but g10 (by omega)
    have E10 := (E8.below b9 (by omega)).grown g10 (by omega) (by intro g hg; simp at hg; omega)
    have D10 := (D8.below b9 (by omega)).grown g10 (by omega) (by intro g hg; simp at hg; omega)
    have X10 := (X8.below b9 (by omega)).grown g10 (by omega) (by omega)
    have B10 := (B8.trans (b9.mono (by omega))).trans (g10.below (by omega) (by omega))
    have z10 := I10.lt
    clear J8 K8 E8 D8 X8 B8 b9 g10 I9
    with_reducible refine (hR w10 (X10.wide (by omega))).mono ?_
    rintro e w11 ⟨rfl, b11⟩
    have J11 := J10.below b11 (by omega)
    have K11 := K10.below b11 (by omega)
    have I11 := I10.below b11 (by omega)
    have E11 := E10.below b11 (by omega)
    have D11 := D10.below b11 (by omega)
    have B11 := B10.trans (b11.mono B10.size)
    have z11 := b11.size
    clear J10 K10 I10 E10 D10 X10 B10 b11 hR
    go_wp2_with (first
      | (refine wpl_alloc (by rfl) 46 (by rfl) (.agg (ivL 0 0).toArray) (ivL 0 0) zeroIv rfl ?_; intro w12 M12 s12 b12)
      | ((refine wpl_store (by rfl) 46 _ _ (by rfl) w11.heap.size (by rfl) _ (by rfl) _ rfl 46 _ M12 (by rfl) _ sizeIv (by rfl) (by simp [Value.oneCell']) ?_; intro w13 M13 s13 g13); (have J13 := (J11.below b12 (by omega)).but g13 (by omega)); (have K13 := (K11.below b12 (by omega)).but g13 (by omega)))
      | (refine wpl_load (by rfl) 50 _ (by rfl) w2.heap.size (by rfl) 50 _ J13 _ Try.underlying50 rfl _ sizeExt (by rfl) ?_) | (refine wpl_load (by rfl) 50 _ (by rfl) w5.heap.size (by rfl) 50 _ K13 _ Try.underlying50 rfl _ sizeExt (by rfl) ?_))
    have I13 := (I11.below b12 (by omega)).but g13 (by omega)
    have E13 := (E11.below b12 (by omega)).grown g13 (by omega) (by intro g hg; simp at hg; omega)
    have D13 := (D11.below b12 (by omega)).grown g13 (by omega) (by intro g hg; simp at hg; omega)
    have B13 := (B11.trans (b12.mono (by omega))).trans (g13.below (by omega) (by omega))
    have z13 := M13.lt
    clear J11 K11 I11 E11 D11 B11 b12 g13 M12
    with_reducible refine (same_yes K A2 A5 N c2 c5 _ _ _ _ D w13 hN E13 D13 (by omega) (by omega) (by omega)).mono ?_
    rintro e w14 ⟨rfl, b14⟩
    have I14 := I13.below b14 (by omega)
    have M14 := M13.below b14 z13
    have B14 := B13.trans (b14.mono B13.size)
    clear I13 M13 E13 D13 B13 b14 J13 K13
    go_wp2_with (first | (refine wpl_load (by rfl) 46 _ (by rfl) w8.heap.size (by rfl) 46 _ I14 _ Try.underlying46 rfl _ sizeIv (by rfl) ?_) | (refine wpl_load (by rfl) 46 _ (by rfl) w11.heap.size (by rfl) 46 _ M14 _ Try.underlying46 rfl _ sizeIv (by rfl) ?_))
    with_reducible refine (awake_any _).mono ?_
    rintro e wa ⟨rfl, ba⟩
    have Ba := (B14).trans (ba.mono (B14).size)
    go_wp2
    go_ret
    exact ⟨rfl, Ba⟩
  · have hX := hX0.take 200
    have hlt : (L.take 200).length = 200 := by rw [List.length_take]; omega
    obtain ⟨x, y, Z, hI, hR⟩ := interval_both A c (L.take 200) 200 hlt (by omega) hc (fun k hk => by
      have : dtL (L.take 200) k = dtL L k := by
        unfold dtL
        rw [List.getD_eq_getElem?_getD, List.getD_eq_getElem?_getD, List.getElem?_take, if_pos hk]
      rw [this]
      exact hsz k (by omega))
    have h' : (200 : Int) < n := by omega
    have h'' : (200 : Int) ≤ c := by omega
    have hmin : (min (n : Int) 200).toNat = 200 := by omega
    clear hX0 hsz hL hlt
    go_enter Try.func6, Try.ntmps6
    go_wp2_with (first
      | (refine wpl_box (by rfl) 46 _ (by rfl) _ (ivL a b) (by rfl) rfl ?_; intro w1 P1 s1 b1)
      | (refine wpl_load (by rfl) 46 _ (by rfl) w.heap.size (by rfl) 46 _ P1 _ Try.underlying46 rfl _ sizeIv (by rfl) ?_))
    with_reducible refine (hF w1).mono ?_
    rintro e w2 ⟨A2, c2, rfl, D2, b2⟩
    have P2 := P1.below b2 (by omega)
    have X2 := (hX.below b1 (Nat.le_refl _)).below b2 (by omega)
    have B2 := b1.trans (b2.mono b1.size)
    have z2 := b2.size
    clear P1 hX b1 b2 hF
    go_wp2_with (first
      | (refine wpl_alloc (by rfl) 50 (by rfl) (.agg (exL 0 none 0 0).toArray) (exL 0 none 0 0) zeroExt rfl ?_; intro w3 J3 s3 b3)
      | (refine wpl_store (by rfl) 50 _ _ (by rfl) w2.heap.size (by rfl) _ (by rfl) (exL K A2 N c2) rfl 50 _ J3 (by rfl) _ sizeExt (by rfl) (by simp [Value.oneCell']) ?_; intro w4 J4 s4 g4; (have P4 := (P2.below b3 (by omega)).but g4 (by omega)))
      | (refine wpl_load (by rfl) 46 _ (by rfl) w.heap.size (by rfl) 46 _ P4 _ Try.underlying46 rfl _ sizeIv (by rfl) ?_))
    have D4 := (D2.below b3 (Nat.le_refl _)).grown g4 (by omega) (by intro g hg; simp at hg; omega)
    have X4 := (X2.below b3 (by omega)).grown g4 (by omega) (by omega)
    have B4 := (B2.trans (b3.mono (by omega))).trans (g4.below (by omega) (by omega))
    have z4 := J4.lt
    clear P2 X2 D2 B2 b3 g4 J3
    with_reducible refine (hG w4).mono ?_
    rintro e w5 ⟨A5, c5, rfl, D5, b5⟩
    have J5 := J4.below b5 z4
    have D5' := D4.below b5 (by omega)
    have X5 := X4.below b5 (by omega)
    have B5 := B4.trans (b5.mono B4.size)
    have z5 := b5.size
    clear J4 D4 X4 B4 b5 hG P4
    go_wp2_with (first
      | (refine wpl_alloc (by rfl) 50 (by rfl) (.agg (exL 0 none 0 0).toArray) (exL 0 none 0 0) zeroExt rfl ?_; intro w6 K6 s6 b6)
      | (refine wpl_store (by rfl) 50 _ _ (by rfl) w5.heap.size (by rfl) _ (by rfl) (exL K A5 N c5) rfl 50 _ K6 (by rfl) _ sizeExt (by rfl) (by simp [Value.oneCell']) ?_; intro w7 K7 s7 g7))
    have J7 := (J5.below b6 (by omega)).but g7 (by omega)
    have E7 := (D5'.below b6 (by omega)).grown g7 (by omega) (by intro g hg; simp at hg; omega)
    have D7 := (D5.below b6 (Nat.le_refl _)).grown g7 (by omega) (by intro g hg; simp at hg; omega)
    have X7 := (X5.below b6 (by omega)).grown g7 (by omega) (by omega)
    have B7 := (B5.trans (b6.mono (by omega))).trans (g7.below (by omega) (by omega))
    have z7 := K7.lt
    clear J5 D5 D5' X5 B5 b6 g7 K6
    with_reducible refine (hI w7 (X7.wide (by omega))).mono ?_
    rintro e w8 ⟨rfl, b8⟩
    have J8 := J7.below b8 (by omega)
    have K8 := K7.below b8 (by omega)
    have E8 := E7.below b8 (by omega)
    have D8 := D7.below b8 (by omega)
    have X8 := X7.below b8 (by omega)
    have B8 := B7.trans (b8.mono B7.size)
    have z8 := b8.size
    clear J7 K7 E7 D7 X7 B7 b8 hI
    go_wp2_with (first
      | (refine wpl_alloc (by rfl) 46 (by rfl) (.agg (ivL 0 0).toArray) (ivL 0 0) zeroIv rfl ?_; intro w9 I9 s9 b9)
      | (refine wpl_store (by rfl) 46 _ _ (by rfl) w8.heap.size (by rfl) _ (by rfl) _ rfl 46 _ I9 (by rfl) _ sizeIv (by rfl) (by simp [Value.oneCell']) ?_; intro w10 I10 s10 g10))
    have J10 := (J8.below b9 (by omega)).but g10 (by omega)
    have K10 := (K8.below b9 (by omega)).but g10 (by omega)
    have E10 := (E8.below b9 (by omega)).grown g10 (by omega) (by intro g hg; simp at hg; omega)
    have D10 := (D8.below b9 (by omega)).grown g10 (by omega) (by intro g hg; simp at hg; omega)
    have X10 := (X8.below b9 (by omega)).grown g10 (by omega) (by omega)
    have B10 := (B8.trans (b9.mono (by omega))).trans (g10.below (by omega) (by omega))
    have z10 := I10.lt
    clear J8 K8 E8 D8 X8 B8 b9 g10 I9
    with_reducible refine (hR w10 (X10.wide (by omega))).mono ?_
    rintro e w11 ⟨rfl, b11⟩
    have J11 := J10.below b11 (by omega)
    have K11 := K10.below b11 (by omega)
    have I11 := I10.below b11 (by omega)
    have E11 := E10.below b11 (by omega)
    have D11 := D10.below b11 (by omega)
    have B11 := B10.trans (b11.mono B10.size)
    have z11 := b11.size
    clear J10 K10 I10 E10 D10 X10 B10 b11 hR
    go_wp2_with (first
      | (refine wpl_alloc (by rfl) 46 (by rfl) (.agg (ivL 0 0).toArray) (ivL 0 0) zeroIv rfl ?_; intro w12 M12 s12 b12)
      | ((refine wpl_store (by rfl) 46 _ _ (by rfl) w11.heap.size (by rfl) _ (by rfl) _ rfl 46 _ M12 (by rfl) _ sizeIv (by rfl) (by simp [Value.oneCell']) ?_; intro w13 M13 s13 g13); (have J13 := (J11.below b12 (by omega)).but g13 (by omega)); (have K13 := (K11.below b12 (by omega)).but g13 (by omega)))
      | (refine wpl_load (by rfl) 50 _ (by rfl) w2.heap.size (by rfl) 50 _ J13 _ Try.underlying50 rfl _ sizeExt (by rfl) ?_) | (refine wpl_load (by rfl) 50 _ (by rfl) w5.heap.size (by rfl) 50 _ K13 _ Try.underlying50 rfl _ sizeExt (by rfl) ?_))
    have I13 := (I11.below b12 (by omega)).but g13 (by omega)
    have E13 := (E11.below b12 (by omega)).grown g13 (by omega) (by intro g hg; simp at hg; omega)
    have D13 := (D11.below b12 (by omega)).grown g13 (by omega) (by intro g hg; simp at hg; omega)
    have B13 := (B11.trans (b12.mono (by omega))).trans (g13.below (by omega) (by omega))
    have z13 := M13.lt
    clear J11 K11 I11 E11 D11 B11 b12 g13 M12
    with_reducible refine (same_yes K A2 A5 N c2 c5 _ _ _ _ D w13 hN E13 D13 (by omega) (by omega) (by omega)).mono ?_
    rintro e w14 ⟨rfl, b14⟩
    have I14 := I13.below b14 (by omega)
    have M14 := M13.below b14 z13
    have B14 := B13.trans (b14.mono B13.size)
    clear I13 M13 E13 D13 B13 b14 J13 K13
    go_wp2_with (first | (refine wpl_load (by rfl) 46 _ (by rfl) w8.heap.size (by rfl) 46 _ I14 _ Try.underlying46 rfl _ sizeIv (by rfl) ?_) | (refine wpl_load (by rfl) 46 _ (by rfl) w11.heap.size (by rfl) 46 _ M14 _ Try.underlying46 rfl _ sizeIv (by rfl) ?_))
    with_reducible refine (awake_any _).mono ?_
    rintro e wa ⟨rfl, ba⟩
    have Ba := (B14).trans (ba.mono (B14).size)
    go_wp2
    go_ret
    exact ⟨rfl, Ba⟩
theorem cellsIv : Try.prog.cellsOf 46 = 2 := by kernel_rfl
theorem iv_cells {H : Type} {enc : TypeId × Value → H} {w : World} {base : Nat} {spare : Nat → Bool} {held : Bool} {fuel : Nat} {cs : List Value} {x : DataW H × List MemPlace} (h : DataW.trod enc Try.prog w base spare held fuel 46 cs = some x) :
    ∃ a b : Int, cs = ivL a b ∧ (-9223372036854775808 ≤ a ∧ a ≤ 9223372036854775807) ∧ (-9223372036854775808 ≤ b ∧ b ≤ 9223372036854775807) := by
  obtain ⟨hl, hf⟩ := trod_fields Try.underlying46 h
  rw [cellsIv] at hl
  match cs, hl with
  | [c0, c1], _ =>
    obtain ⟨y0, n0, h0⟩ := hf 0 _ rfl
    obtain ⟨a, e0, _, wf0⟩ := DataW.trod_int Try.underlying3 h0
    obtain ⟨y1, n1, h1⟩ := hf 1 _ rfl
    obtain ⟨b, e1, _, wf1⟩ := DataW.trod_int Try.underlying3 h1
    simp [cellsI64] at e0 e1
    subst e0 e1
    exact ⟨a, b, rfl, bounds_i64 wf0, bounds_i64 wf1⟩
namespace lawFields
set_option maxRecDepth 100000 in
theorem lifted (os : Os) (started : os.Started) (H : Type) (enc : TypeId × Value → H) :
    ReturnsInHanded {} Try.checked os 6 .any (Rows.serverFieldsSpec.pre6 enc Try.prog Try.f6 Rows.serverFieldsRow.domain false) (Rows.serverFieldsSpec.post enc Try.prog Try.f6 false true false false) := by
  refine returnsInHanded_of_change_sized (C := Try.checked) own started (by kernel_rfl) Try.func6
    (ChangeSpec.witness6 (enc := enc) (C := Try.checked) false ⟨#[], #[.agg #[.int .i64 0, .int .i64 0], .slice none 0 0], []⟩ 8 (by kernel_rfl) (by kernel_rfl) (by kernel_rfl) (by kernel_rfl)) ?_
  intro W base args ds gs before hval0 hW hcnd hsz0 _
  have hval : ∀ (j : Nat) t v, Try.f6.params[j]? = some t → args[j]? = some v → Value.okWide Try.prog W .any base t v := hval0
  have hW' := hW
  obtain ⟨p, q, hA0, hV, rfl, hfz, hnd⟩ := hW
  have hA : DataW.TrodAll enc Try.prog W 0 (fun _ => true) true Try.f6.params.toList args.toList ds p := hA0
  have hsz : (DataW.weightsEach Try.prog (Try.f6.params.toList ++ Rows.serverFieldsSpec.plain.varTypes Try.prog) (ds ++ gs)).all (· ≤ reachBytes) = true := hsz0
  rw [Try.params6] at hA hval hsz
  obtain ⟨rfl, rfl⟩ := trodVars_none hV
  obtain ⟨v0, v1, d0, d1, p0, p1, rfl, rfl, rfl, h0, h1⟩ := trodAll_two hA
  obtain ⟨cs, fuel, x, rfl, hx⟩ := open_struct Try.underlying46 (hval 0 46 v0 rfl rfl) h0
  obtain ⟨a, b, rfl, _, _⟩ := iv_cells hx
  obtain ⟨A, n, c, L, rfl, hL, hX, hnc, hc, _, hz⟩ := open_exts (hval 1 47 v1 rfl rfl) h1
  have hsz' := hz hsz (j := 1) rfl rfl
  refine (fieldsLaw a b A n c L W hL hX hnc hc hsz').mono fun e W' ⟨he, hb⟩ => ?_
  subst he
  revert hb
  simp only [List.append_nil] at hW'
  intro hb
  exact ⟨_, rfl, law_post (tb := 4) laidOut Try.underlying4 rfl (by rw [Try.params6]; intro t ht; revert ht; revert t; exact of_decide_eq_true (by kernel_rfl)) rfl rfl rfl rfl hW' hb⟩
theorem over : Rows.serverFieldsRow.holds Try.pinned (OpenSpec.ofChange Rows.serverFieldsSpec) :=
  OpenClaim.holds_of_wide 6 Try.f6 rfl rfl rfl rfl rfl rfl rfl ⟨rfl, rfl, rfl, rfl, rfl⟩ rfl rfl rfl rfl rfl (by kernel_rfl) Try.func6 (by kernel_rfl)
    (of_decide_eq_true (by kernel_rfl)) (by unfold Func.isWrapper; first | (rw [if_pos (by decide +kernel)]; kernel_rfl) | (rw [if_neg (by decide +kernel)]; exact ⟨rfl, rfl⟩))
    (fun os started H enc _ => lifted os started H enc)
theorem proved : Rows.ServerFieldsSaid :=
  over
#print axioms proved
end lawFields
end Go.Proofs.Ytjclifjipphnkaa
