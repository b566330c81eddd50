/- The reference's guard: Open. The chapter's examples (awake). -/
import Derived.Test.YtachhbbofemfdaaDoorGXz17
import Derived.Test.YtachhbbofemfdaaDoorGXz16
import Derived.Test.YtachhbbofemfdaaDoorGXz9
namespace Go.Proofs.YtachhbbofemfdaaDoor
open Go.RowKit
set_option linter.unusedSimpArgs false
set_option linter.unusedVariables false
set_option maxRecDepth 100000
set_option maxRecDepth 100000 in
set_option maxHeartbeats 8000000 in
theorem rgopen_err (bj : Nat) (A : Option Addr) (n c : Nat) (b : List Int) (w : World) (hn : b.length = n) (h : Bs w 0 w.heap.size A b) (hnc : n ≤ c) (hc : c ≤ 9223372036854775807) (hm : n ≤ 1000000) (hE : spE b ≠ 0) :
    Calls Tryd.prog 13 #[.pointer (some ⟨bj, 0, none⟩), .slice A n c] w fun e w' => e = .returned (.tuple #[ntp0, .agg (tktL none 0 0 0 0 0 0).toArray, .int .i64 (spE b)]) ∧ Below w.heap.size w w' := by
  have hS := fun W hB => rread_err A n c b W hn hB hnc hc hm hE
  have hE' : (spE b != 0) = true := by simpa using hE
  generalize spE b = E at hS hE' ⊢
  clear hE
  go_enter Tryd.func13, Tryd.ntmps13
  go_wp2_with (first
    | ((refine wpl_alloc (by rfl) 27 (by rfl) (.agg (zN).toArray) (zN) zeroNtp rfl ?_; intro w4 P4 s4 b4); (have J4 := J3.below b4 J3.lt); (have T4 := T3.below b4 T3.lt); (have B4 := B3.trans (b4.mono B3.size)))
    | (refine wpl_alloc (by rfl) 27 (by rfl) (.agg (zN).toArray) (zN) zeroNtp rfl ?_; intro w1 J1 s1 b1)
    | ((refine wpl_alloc (by rfl) 31 (by rfl) (.agg (tktL none 0 0 0 0 0 0).toArray) (tktL none 0 0 0 0 0 0) zeroTk rfl ?_; intro w2 T2 s2 b2); (have J2 := J1.below b2 (by omega)); (have B2 := b1.trans (b2.mono (by omega))))
    | (go_at_call 35; ((with_reducible refine (hS _ ((h.below B2 (Nat.le_refl _)).wide (Nat.le_refl _) B2.size)).mono ?_); rintro e w3 ⟨rfl, b3⟩; (have J3 := J2.below b3 J2.lt); (have T3 := T2.below b3 T2.lt); (have B3 := B2.trans (b3.mono B2.size)); (have z3 := b3.size)))
    | ((refine wpl_store (by rfl) 27 _ _ (by rfl) w3.heap.size (by rfl) _ (by rfl) _ rfl 27 _ P4 (by rfl) _ sizeNtp (by rfl) (by simp [Value.oneCell']) ?_; intro w5 P5 s5 g5); (have J5 := J4.but g5 (Nat.ne_of_lt J3.lt)); (have T5 := T4.but g5 (Nat.ne_of_lt T3.lt)); (have B5 := B4.trans (g5.below B4.size B3.size)))
    | ((refine wpl_store (by rfl) 27 _ _ (by rfl) w.heap.size (by rfl) _ (by rfl) _ rfl 27 _ J5 (by rfl) _ sizeNtp (by rfl) (by simp [Value.oneCell']) ?_; intro w6 J6 s6 g6); (have T6 := T5.but g6 (by omega)); (have B6 := B5.trans (g6.below B5.size (Nat.le_refl _))))
    | ((refine wpl_store (by rfl) 31 _ _ (by rfl) w1.heap.size (by rfl) _ (by rfl) _ rfl 31 _ T6 (by rfl) _ sizeTk (by rfl) (by simp [Value.oneCell']) ?_; intro w7 T7 s7 g7); (have J7 := J6.but g7 (by omega)); (have B7 := B6.trans (g7.below B6.size (by omega)))))
  refine bodyPost_ret (res_ctx Tryd.results13 (by rfl) (by rfl) J7 T7 Tryd.underlying27 rfl Tryd.underlying31 rfl sizeNtp (by rfl) sizeTk (by rfl) (by rfl)) rfl ?_
  exact ⟨rfl, B7⟩
set_option maxRecDepth 100000 in
set_option maxHeartbeats 8000000 in
theorem rgopen_form (bj : Nat) (s kk g : Int) (A : Option Addr) (n c : Nat) (b : List Int) (w : World) (hJ : Blk w bj 89 (jarL s kk g)) (hs : U64 s) (hg : Gn g) (hkk : 1 ≤ kk ∧ kk ≤ 8) (hn : b.length = n) (h : Bs w 0 w.heap.size A b) (hnc : n ≤ c) (hc : c ≤ 9223372036854775807) (hm : n ≤ 1000000) (hE : spE b = 0) (l v m st po pr rd rp id ref org rec xmt : Int) (hV : dcV b = ntp l v m st po pr rd rp id ref org rec xmt) (hT : (spC b).length ≠ 52) :
    Calls Tryd.prog 13 #[.pointer (some ⟨bj, 0, none⟩), .slice A n c] w fun e w' => e = .returned (.tuple #[ntp0, .agg (tktL none 0 0 0 0 0 0).toArray, .int .i64 7]) ∧ Below w.heap.size w w' := by
  have hS := fun W hB => rread_ok A n c b W hn hB hnc hc hm hE l v m st po pr rd rp id ref org rec xmt hV
  obtain ⟨hI16, hA12, h12⟩ : (spI b).length = 16 ∧ (spA b).length = 12 ∧ 12 ≤ n := by
    rcases spE_cases b with ⟨h1, h2⟩ | ⟨h1, h2, h3⟩ | ⟨h1, h2, h3, h4⟩ | ⟨h1, h2, h3, h4, h5⟩
    · exact absurd (h2.symm.trans hE) h1
    · exact absurd (h3.symm.trans hE) h2
    · rw [h4] at hE; cases hE
    · exact ⟨h4, h3, by have := (spA_n h.byt hn h1 h2 h3).1; omega⟩
  have hsz : ∀ q, (dtL (spL b) q).length ≤ 256 := fun q => dt_small (by unfold dcR; split; exact h.byt.drop _; exact Byt.nil)
  have hP := fun k0 k1 A4 c4 W hk0 hk1 hB h4 hc4 hcc4 => rtagged_any A4 c4 (spA b) A n c b k0 k1 W hn h12 hB hnc hc hm hA12 h4 hc4 hcc4 hk0 hk1
  have hFi := fun W A c N hN hX hc hcc => rfind_u A c (spL b) N 516 W hN hX hc hcc (fun q _ => Nat.le_trans (hsz q) (by omega))
  have hO := fun W A N c hN hB hc hcc hJ => ropen_any bj s kk g A N c (spC b) W hN hB hc hcc hs hg hkk hJ
  clear hP hO
  generalize hCC : spC b = CC at *
  obtain ⟨N9, hN9⟩ : ∃ N, CC.length = N := ⟨_, rfl⟩
  have hFi' : ∀ (W : World) (A : Option Addr) (c N : Nat), (spL b).length = N → Xs W W.heap.size A (spL b) → N ≤ c → c ≤ 9223372036854775807 → Calls Tryd.prog 36 #[.slice A N c, .int .i64 516] W fun e w' => ∃ A' c', e = .returned (.tuple #[.slice A' N9 c', .bool (fdB (spL b) 516)]) ∧ Ow w' W.heap.size A' c' CC ∧ Below W.heap.size W w' := fun W A c N h1 h2 h3 h4 => (hFi W A c N h1 h2 h3 h4).mono fun e w' ⟨A1, c1, n1, e1, e2, e3⟩ => by
    have hx : fdD (spL b) 516 = CC := hCC
    rw [hx] at e2 e3
    obtain rfl : N9 = n1 := hN9.symm.trans e2
    exact ⟨A1, c1, e1, e3⟩
  clear hFi
  have hFi := hFi'
  clear hFi'
  generalize fdB (spL b) 516 = IB at hFi
  generalize spL b = L at hS hFi hsz
  rw [hN9] at hT
  have d9 : ((N9 : Int) != 52) = true := by simp; omega
  clear hE hV hT hCC hN9
  go_enter Tryd.func13, Tryd.ntmps13
  go_wp2_with (first
    | ((refine wpl_alloc (by rfl) 27 (by rfl) (.agg (zN).toArray) (zN) zeroNtp rfl ?_; intro w4 P4' s4 b4); (have J4 := J3.below b4 J3.lt); (have T4 := T3.below b4 T3.lt); (have B4 := B3.trans (b4.mono B3.size)))
    | (refine wpl_alloc (by rfl) 27 (by rfl) (.agg (zN).toArray) (zN) zeroNtp rfl ?_; intro w1 J1 s1 b1)
    | ((refine wpl_alloc (by rfl) 31 (by rfl) (.agg (tktL none 0 0 0 0 0 0).toArray) (tktL none 0 0 0 0 0 0) zeroTk rfl ?_; intro w2 T2 s2 b2); (have J2 := J1.below b2 (by omega)); (have B2 := b1.trans (b2.mono (by omega))))
    | (go_at_call 35; ((with_reducible refine (hS _ ((h.below B2 (Nat.le_refl _)).wide (Nat.le_refl _) B2.size)).mono ?_); rintro e w3 ⟨P1, p1, q1, P2, q2, P4, q4, rfl, hL1, X3, OI3, OA3, b3⟩; (have J3 := J2.below b3 J2.lt); (have T3 := T2.below b3 T2.lt); (have B3 := B2.trans (b3.mono B2.size)); (have z3 := b3.size)))
    | ((refine wpl_store (by rfl) 27 _ _ (by rfl) w3.heap.size (by rfl) _ (by rfl) _ rfl 27 _ P4' (by rfl) _ sizeNtp (by rfl) (by simp [Value.oneCell']) ?_; intro w5 P5 s5 g5); (have J5 := J4.but g5 (Nat.ne_of_lt J3.lt)); (have T5 := T4.but g5 (Nat.ne_of_lt T3.lt)); (have B5 := B4.trans (g5.below B4.size B3.size)); (have B35 : Below w3.heap.size w3 w5 := b4.trans (But.below (g := w3.heap.size) g5 (Nat.le_of_lt s4) (Nat.le_refl _))); (have X5 := X3.below B35 (Nat.le_refl _)); (have OI5 := OI3.below B35 (Nat.le_refl _)); (have OA5 := OA3.below B35 (Nat.le_refl _)); (have hp := X5.cap); rw [hL1] at hp)
    | (go_at_call 36; ((with_reducible refine (hFi _ _ _ _ hL1 X5.xs hp.1 hp.2.1).mono ?_); rintro e w6 ⟨A6, c6, rfl, O6, b6⟩; (have J6 := J5.below b6 J5.lt); (have T6 := T5.below b6 T5.lt); (have P6 := P5.below b6 P5.lt); (have B6 := B5.trans (b6.mono B5.size)); (have OI6 := OI5.below b6 (Nat.le_refl _)); (have OA6 := OA5.below b6 (Nat.le_refl _))))
    | ((refine wpl_store (by rfl) 27 _ _ (by rfl) w.heap.size (by rfl) _ (by rfl) _ rfl 27 _ J6 (by rfl) _ sizeNtp (by rfl) (by simp [Value.oneCell']) ?_; intro w7 J7 s7 g7); (have T7 := T6.but g7 (by omega)); (have B7 := B6.trans (g7.below B6.size (Nat.le_refl _))))
    | ((refine wpl_store (by rfl) 31 _ _ (by rfl) w1.heap.size (by rfl) _ (by rfl) _ rfl 31 _ T7 (by rfl) _ sizeTk (by rfl) (by simp [Value.oneCell']) ?_; intro w8 T8 s8 g8); (have J8 := J7.but g8 (by omega)); (have B8 := B7.trans (g8.below B7.size (by omega)))))
  refine bodyPost_ret (res_ctx Tryd.results13 (by rfl) (by rfl) J8 T8 Tryd.underlying27 rfl Tryd.underlying31 rfl sizeNtp (by rfl) sizeTk (by rfl) (by rfl)) rfl ?_
  exact ⟨rfl, B8⟩
set_option maxRecDepth 100000 in
set_option maxHeartbeats 8000000 in
theorem rgopen_bad (bj : Nat) (s kk g : Int) (A : Option Addr) (n c : Nat) (b : List Int) (w : World) (hJ : Blk w bj 89 (jarL s kk g)) (hs : U64 s) (hg : Gn g) (hkk : 1 ≤ kk ∧ kk ≤ 8) (hn : b.length = n) (h : Bs w 0 w.heap.size A b) (hnc : n ≤ c) (hc : c ≤ 9223372036854775807) (hm : n ≤ 1000000) (hE : spE b = 0) (l v m st po pr rd rp id ref org rec xmt : Int) (hV : dcV b = ntp l v m st po pr rd rp id ref org rec xmt) (hT : (spC b).length = 52) (hO1 : opE s kk g (spC b) ≠ 0) :
    Calls Tryd.prog 13 #[.pointer (some ⟨bj, 0, none⟩), .slice A n c] w fun e w' => e = .returned (.tuple #[ntp0, .agg (tktL none 0 0 0 0 0 0).toArray, .int .i64 (opE s kk g (spC b))]) ∧ Below w.heap.size w w' := by
  have hS := fun W hB => rread_ok A n c b W hn hB hnc hc hm hE l v m st po pr rd rp id ref org rec xmt hV
  obtain ⟨hI16, hA12, h12⟩ : (spI b).length = 16 ∧ (spA b).length = 12 ∧ 12 ≤ n := by
    rcases spE_cases b with ⟨h1, h2⟩ | ⟨h1, h2, h3⟩ | ⟨h1, h2, h3, h4⟩ | ⟨h1, h2, h3, h4, h5⟩
    · exact absurd (h2.symm.trans hE) h1
    · exact absurd (h3.symm.trans hE) h2
    · rw [h4] at hE; cases hE
    · exact ⟨h4, h3, by have := (spA_n h.byt hn h1 h2 h3).1; omega⟩
  have hsz : ∀ q, (dtL (spL b) q).length ≤ 256 := fun q => dt_small (by unfold dcR; split; exact h.byt.drop _; exact Byt.nil)
  have hP := fun k0 k1 A4 c4 W hk0 hk1 hB h4 hc4 hcc4 => rtagged_any A4 c4 (spA b) A n c b k0 k1 W hn h12 hB hnc hc hm hA12 h4 hc4 hcc4 hk0 hk1
  have hFi := fun W A c N hN hX hc hcc => rfind_u A c (spL b) N 516 W hN hX hc hcc (fun q _ => Nat.le_trans (hsz q) (by omega))
  have hO := fun W A N c hN hB hc hcc hJ => ropen_any bj s kk g A N c (spC b) W hN hB hc hcc hs hg hkk hJ
  rw [opV_err rfl hO1] at hO
  generalize hOE : opE s kk g (spC b) = OE at hO hO1 ⊢
  have hOE' : (OE != 0) = true := by simpa using hO1
  clear hP
  generalize hCC : spC b = CC at *
  obtain ⟨N9, hN9⟩ : ∃ N, CC.length = N := ⟨_, rfl⟩
  have hFi' : ∀ (W : World) (A : Option Addr) (c N : Nat), (spL b).length = N → Xs W W.heap.size A (spL b) → N ≤ c → c ≤ 9223372036854775807 → Calls Tryd.prog 36 #[.slice A N c, .int .i64 516] W fun e w' => ∃ A' c', e = .returned (.tuple #[.slice A' N9 c', .bool (fdB (spL b) 516)]) ∧ Ow w' W.heap.size A' c' CC ∧ Below W.heap.size W w' := fun W A c N h1 h2 h3 h4 => (hFi W A c N h1 h2 h3 h4).mono fun e w' ⟨A1, c1, n1, e1, e2, e3⟩ => by
    have hx : fdD (spL b) 516 = CC := hCC
    rw [hx] at e2 e3
    obtain rfl : N9 = n1 := hN9.symm.trans e2
    exact ⟨A1, c1, e1, e3⟩
  clear hFi
  have hFi := hFi'
  clear hFi'
  generalize fdB (spL b) 516 = IB at hFi
  generalize spL b = L at hS hFi hsz
  obtain rfl : N9 = 52 := hN9.symm.trans hT
  clear hE hV hOE hO1 hT hCC
  go_enter Tryd.func13, Tryd.ntmps13
  go_wp2_with (first
    | ((refine wpl_alloc (by rfl) 27 (by rfl) (.agg (zN).toArray) (zN) zeroNtp rfl ?_; intro w4 P4' s4 b4); (have J4 := J3.below b4 J3.lt); (have T4 := T3.below b4 T3.lt); (have B4 := B3.trans (b4.mono B3.size)))
    | (refine wpl_alloc (by rfl) 27 (by rfl) (.agg (zN).toArray) (zN) zeroNtp rfl ?_; intro w1 J1 s1 b1)
    | ((refine wpl_alloc (by rfl) 31 (by rfl) (.agg (tktL none 0 0 0 0 0 0).toArray) (tktL none 0 0 0 0 0 0) zeroTk rfl ?_; intro w2 T2 s2 b2); (have J2 := J1.below b2 (by omega)); (have B2 := b1.trans (b2.mono (by omega))))
    | (go_at_call 35; ((with_reducible refine (hS _ ((h.below B2 (Nat.le_refl _)).wide (Nat.le_refl _) B2.size)).mono ?_); rintro e w3 ⟨P1, p1, q1, P2, q2, P4, q4, rfl, hL1, X3, OI3, OA3, b3⟩; (have J3 := J2.below b3 J2.lt); (have T3 := T2.below b3 T2.lt); (have B3 := B2.trans (b3.mono B2.size)); (have z3 := b3.size)))
    | ((refine wpl_store (by rfl) 27 _ _ (by rfl) w3.heap.size (by rfl) _ (by rfl) _ rfl 27 _ P4' (by rfl) _ sizeNtp (by rfl) (by simp [Value.oneCell']) ?_; intro w5 P5 s5 g5); (have J5 := J4.but g5 (Nat.ne_of_lt J3.lt)); (have T5 := T4.but g5 (Nat.ne_of_lt T3.lt)); (have B5 := B4.trans (g5.below B4.size B3.size)); (have B35 : Below w3.heap.size w3 w5 := b4.trans (But.below (g := w3.heap.size) g5 (Nat.le_of_lt s4) (Nat.le_refl _))); (have X5 := X3.below B35 (Nat.le_refl _)); (have OI5 := OI3.below B35 (Nat.le_refl _)); (have OA5 := OA3.below B35 (Nat.le_refl _)); (have hp := X5.cap); rw [hL1] at hp)
    | (go_at_call 36; ((with_reducible refine (hFi _ _ _ _ hL1 X5.xs hp.1 hp.2.1).mono ?_); rintro e w6 ⟨A6, c6, rfl, O6, b6⟩; (have J6 := J5.below b6 J5.lt); (have T6 := T5.below b6 T5.lt); (have P6 := P5.below b6 P5.lt); (have B6 := B5.trans (b6.mono B5.size)); (have OI6 := OI5.below b6 (Nat.le_refl _)); (have OA6 := OA5.below b6 (Nat.le_refl _))))
    | (go_at_call 37; ((with_reducible refine (hO _ _ _ _ hN9 (O6.bs.wide (Nat.zero_le _) (Nat.le_refl _)) (by have := O6.cap_le; omega) O6.cap_max (hJ.below B6 hJ.lt)).mono ?_); rintro e w7 ⟨rfl, b7⟩; (have J7 := J6.below b7 J6.lt); (have T7 := T6.below b7 T6.lt); (have P7 := P6.below b7 P6.lt); (have B7 := B6.trans (b7.mono B6.size)); (have OI7 := OI6.below b7 (Nat.le_refl _)); (have OA7 := OA6.below b7 (Nat.le_refl _))))
    | ((refine wpl_alloc (by rfl) 29 (by rfl) (.agg (keyL 0 0).toArray) (keyL 0 0) zeroKey rfl ?_; intro w9 U9 s9 b9); (have J9 := J8.below b9 J8.lt); (have T9 := T8.below b9 T8.lt); (have P9 := P8.below b9 P8.lt); (have U8' := U8.below b9 U8.lt); (have B9 := B8.trans (b9.mono B8.size)))
    | ((refine wpl_alloc (by rfl) 29 (by rfl) (.agg (keyL 0 0).toArray) (keyL 0 0) zeroKey rfl ?_; intro w8 U8 s8 b8); (have J8 := J7.below b8 J7.lt); (have T8 := T7.below b8 T7.lt); (have P8 := P7.below b8 P7.lt); (have B8 := B7.trans (b8.mono B7.size)))
    | (refine wpl_store (by rfl) 29 _ _ (by rfl) w7.heap.size (by rfl) _ (by rfl) (keyL 0 0) rfl 29 _ U8' (by rfl) _ sizeKey (by rfl) (by simp [Value.oneCell']) ?_; intro w10 U10 s10 g10; (have J10 := J9.but g10 (Nat.ne_of_lt J7.lt)); (have T10 := T9.but g10 (Nat.ne_of_lt T7.lt)); (have P10 := P9.but g10 (Nat.ne_of_lt P7.lt)); (have V10 := U9.but g10 (Nat.ne_of_gt U8.lt)); (have B10 := B9.trans (g10.below B9.size B7.size)))
    | (refine wpl_store (by rfl) 29 _ _ (by rfl) w8.heap.size (by rfl) _ (by rfl) (keyL 0 0) rfl 29 _ V10 (by rfl) _ sizeKey (by rfl) (by simp [Value.oneCell']) ?_; intro w11 V11 s11 g11; (have J11 := J10.but g11 (Nat.ne_of_lt J8.lt)); (have T11 := T10.but g11 (Nat.ne_of_lt T8.lt)); (have P11 := P10.but g11 (Nat.ne_of_lt P8.lt)); (have U11 := U10.but g11 (Nat.ne_of_lt U8.lt)); (have B11 := B10.trans (g11.below B10.size B8.size)); (have B711 : Below w7.heap.size w7 w11 := ((b8.trans (b9.mono b8.size)).trans (But.below (g := w7.heap.size) g10 (Nat.le_trans b8.size b9.size) (Nat.le_refl _))).trans (But.below (g := w8.heap.size) g11 (Nat.le_trans (Nat.le_trans b8.size b9.size) s10) b8.size)); (have OA11 := OA7.below B711 (Nat.le_refl _)); (have OI11 := OI7.below B711 (Nat.le_refl _)))
    | ((refine wpl_store (by rfl) 27 _ _ (by rfl) w.heap.size (by rfl) _ (by rfl) _ rfl 27 _ J11 (by rfl) _ sizeNtp (by rfl) (by simp [Value.oneCell']) ?_; intro w12 J12 s12 g12); (have T12 := T11.but g12 (by omega)); (have B12 := B11.trans (g12.below B11.size (Nat.le_refl _))))
    | ((refine wpl_store (by rfl) 31 _ _ (by rfl) w1.heap.size (by rfl) _ (by rfl) _ rfl 31 _ T12 (by rfl) _ sizeTk (by rfl) (by simp [Value.oneCell']) ?_; intro w13 T13 s13 g13); (have J13 := J12.but g13 (by omega)); (have B13 := B12.trans (g13.below B12.size (by omega)))))
  refine bodyPost_ret (res_ctx Tryd.results13 (by rfl) (by rfl) J13 T13 Tryd.underlying27 rfl Tryd.underlying31 rfl sizeNtp (by rfl) sizeTk (by rfl) (by rfl)) rfl ?_
  exact ⟨rfl, B13⟩
set_option maxRecDepth 100000 in
set_option maxHeartbeats 8000000 in
theorem rgopen_tag (bj : Nat) (s kk g : Int) (A : Option Addr) (n c : Nat) (b : List Int) (w : World) (hJ : Blk w bj 89 (jarL s kk g)) (hs : U64 s) (hg : Gn g) (hkk : 1 ≤ kk ∧ kk ≤ 8) (hn : b.length = n) (h : Bs w 0 w.heap.size A b) (hnc : n ≤ c) (hc : c ≤ 9223372036854775807) (hm : n ≤ 1000000) (hE : spE b = 0) (l v m st po pr rd rp id ref org rec xmt : Int) (hV : dcV b = ntp l v m st po pr rd rp id ref org rec xmt) (hT : (spC b).length = 52) (hO1 : opE s kk g (spC b) = 0) (hPV : prvB (opK s kk g (spC b) 0) (opK s kk g (spC b) 1) (spB b) (spA b) = false) :
    Calls Tryd.prog 13 #[.pointer (some ⟨bj, 0, none⟩), .slice A n c] w fun e w' => e = .returned (.tuple #[ntp0, .agg (tktL none 0 0 0 0 0 0).toArray, .int .i64 16]) ∧ Below w.heap.size w w' := by
  have hS := fun W hB => rread_ok A n c b W hn hB hnc hc hm hE l v m st po pr rd rp id ref org rec xmt hV
  obtain ⟨hI16, hA12, h12⟩ : (spI b).length = 16 ∧ (spA b).length = 12 ∧ 12 ≤ n := by
    rcases spE_cases b with ⟨h1, h2⟩ | ⟨h1, h2, h3⟩ | ⟨h1, h2, h3, h4⟩ | ⟨h1, h2, h3, h4, h5⟩
    · exact absurd (h2.symm.trans hE) h1
    · exact absurd (h3.symm.trans hE) h2
    · rw [h4] at hE; cases hE
    · exact ⟨h4, h3, by have := (spA_n h.byt hn h1 h2 h3).1; omega⟩
  have hsz : ∀ q, (dtL (spL b) q).length ≤ 256 := fun q => dt_small (by unfold dcR; split; exact h.byt.drop _; exact Byt.nil)
  have hP := fun k0 k1 A4 c4 W hk0 hk1 hB h4 hc4 hcc4 => rtagged_any A4 c4 (spA b) A n c b k0 k1 W hn h12 hB hnc hc hm hA12 h4 hc4 hcc4 hk0 hk1
  have hFi := fun W A c N hN hX hc hcc => rfind_u A c (spL b) N 516 W hN hX hc hcc (fun q _ => Nat.le_trans (hsz q) (by omega))
  have hO := fun W A N c hN hB hc hcc hJ => ropen_any bj s kk g A N c (spC b) W hN hB hc hcc hs hg hkk hJ
  rw [opV_val] at hO
  have u0 := opK_u64 s kk g (spC_byt h.byt) 0
  have u1 := opK_u64 s kk g (spC_byt h.byt) 1
  rw [hO1] at hO
  generalize hk0 : opK s kk g (spC b) 0 = a0 at *
  generalize hk1 : opK s kk g (spC b) 1 = a1 at *
  generalize hk2 : opK s kk g (spC b) 2 = a2 at *
  generalize hk3 : opK s kk g (spC b) 3 = a3 at *
  have hP' := fun A4 c4 W hB h4 hc4 hcc4 => hP a0 a1 A4 c4 W u0 u1 hB h4 hc4 hcc4
  clear hP
  generalize hCC : spC b = CC at *
  obtain ⟨N9, hN9⟩ : ∃ N, CC.length = N := ⟨_, rfl⟩
  have hFi' : ∀ (W : World) (A : Option Addr) (c N : Nat), (spL b).length = N → Xs W W.heap.size A (spL b) → N ≤ c → c ≤ 9223372036854775807 → Calls Tryd.prog 36 #[.slice A N c, .int .i64 516] W fun e w' => ∃ A' c', e = .returned (.tuple #[.slice A' N9 c', .bool (fdB (spL b) 516)]) ∧ Ow w' W.heap.size A' c' CC ∧ Below W.heap.size W w' := fun W A c N h1 h2 h3 h4 => (hFi W A c N h1 h2 h3 h4).mono fun e w' ⟨A1, c1, n1, e1, e2, e3⟩ => by
    have hx : fdD (spL b) 516 = CC := hCC
    rw [hx] at e2 e3
    obtain rfl : N9 = n1 := hN9.symm.trans e2
    exact ⟨A1, c1, e1, e3⟩
  clear hFi
  have hFi := hFi'
  clear hFi'
  generalize fdB (spL b) 516 = IB at hFi
  generalize spL b = L at hS hFi hsz
  obtain rfl : N9 = 52 := hN9.symm.trans hT
  clear hE hV hO1 hT hCC hk0 hk1 hk2 hk3 hn
  rw [hPV] at hP'
  clear hPV
  have HA := Lib.hid hA12
  clear hA12 hI16
  go_enter Tryd.func13, Tryd.ntmps13
  go_wp2_with (first
    | ((refine wpl_alloc (by rfl) 27 (by rfl) (.agg (zN).toArray) (zN) zeroNtp rfl ?_; intro w4 P4' s4 b4); (have J4 := J3.below b4 J3.lt); (have T4 := T3.below b4 T3.lt); (have B4 := B3.trans (b4.mono B3.size)))
    | (refine wpl_alloc (by rfl) 27 (by rfl) (.agg (zN).toArray) (zN) zeroNtp rfl ?_; intro w1 J1 s1 b1)
    | ((refine wpl_alloc (by rfl) 31 (by rfl) (.agg (tktL none 0 0 0 0 0 0).toArray) (tktL none 0 0 0 0 0 0) zeroTk rfl ?_; intro w2 T2 s2 b2); (have J2 := J1.below b2 (by omega)); (have B2 := b1.trans (b2.mono (by omega))))
    | (go_at_call 35; ((with_reducible refine (hS _ ((h.below B2 (Nat.le_refl _)).wide (Nat.le_refl _) B2.size)).mono ?_); rintro e w3 ⟨P1, p1, q1, P2, q2, P4, q4, rfl, hL1, X3, OI3, OA3, b3⟩; (have J3 := J2.below b3 J2.lt); (have T3 := T2.below b3 T2.lt); (have B3 := B2.trans (b3.mono B2.size)); (have z3 := b3.size)))
    | ((refine wpl_store (by rfl) 27 _ _ (by rfl) w3.heap.size (by rfl) _ (by rfl) _ rfl 27 _ P4' (by rfl) _ sizeNtp (by rfl) (by simp [Value.oneCell']) ?_; intro w5 P5 s5 g5); (have J5 := J4.but g5 (Nat.ne_of_lt J3.lt)); (have T5 := T4.but g5 (Nat.ne_of_lt T3.lt)); (have B5 := B4.trans (g5.below B4.size B3.size)); (have B35 : Below w3.heap.size w3 w5 := b4.trans (But.below (g := w3.heap.size) g5 (Nat.le_of_lt s4) (Nat.le_refl _))); (have X5 := X3.below B35 (Nat.le_refl _)); (have OI5 := OI3.below B35 (Nat.le_refl _)); (have OA5 := OA3.below B35 (Nat.le_refl _)); (have hp := X5.cap); rw [hL1] at hp)
    | (go_at_call 36; ((with_reducible refine (hFi _ _ _ _ hL1 X5.xs hp.1 hp.2.1).mono ?_); rintro e w6 ⟨A6, c6, rfl, O6, b6⟩; (have J6 := J5.below b6 J5.lt); (have T6 := T5.below b6 T5.lt); (have P6 := P5.below b6 P5.lt); (have B6 := B5.trans (b6.mono B5.size)); (have OI6 := OI5.below b6 (Nat.le_refl _)); (have OA6 := OA5.below b6 (Nat.le_refl _))))
    | (go_at_call 37; ((with_reducible refine (hO _ _ _ _ hN9 (O6.bs.wide (Nat.zero_le _) (Nat.le_refl _)) (by have := O6.cap_le; omega) O6.cap_max (hJ.below B6 hJ.lt)).mono ?_); rintro e w7 ⟨rfl, b7⟩; (have J7 := J6.below b7 J6.lt); (have T7 := T6.below b7 T6.lt); (have P7 := P6.below b7 P6.lt); (have B7 := B6.trans (b7.mono B6.size)); (have OI7 := OI6.below b7 (Nat.le_refl _)); (have OA7 := OA6.below b7 (Nat.le_refl _))))
    | ((refine wpl_alloc (by rfl) 29 (by rfl) (.agg (keyL 0 0).toArray) (keyL 0 0) zeroKey rfl ?_; intro w9 U9 s9 b9); (have J9 := J8.below b9 J8.lt); (have T9 := T8.below b9 T8.lt); (have P9 := P8.below b9 P8.lt); (have U8' := U8.below b9 U8.lt); (have B9 := B8.trans (b9.mono B8.size)))
    | ((refine wpl_alloc (by rfl) 29 (by rfl) (.agg (keyL 0 0).toArray) (keyL 0 0) zeroKey rfl ?_; intro w8 U8 s8 b8); (have J8 := J7.below b8 J7.lt); (have T8 := T7.below b8 T7.lt); (have P8 := P7.below b8 P7.lt); (have B8 := B7.trans (b8.mono B7.size)))
    | (refine wpl_store (by rfl) 29 _ _ (by rfl) w7.heap.size (by rfl) _ (by rfl) (keyL a0 a1) rfl 29 _ U8' (by rfl) _ sizeKey (by rfl) (by simp [Value.oneCell']) ?_; intro w10 U10 s10 g10; (have J10 := J9.but g10 (Nat.ne_of_lt J7.lt)); (have T10 := T9.but g10 (Nat.ne_of_lt T7.lt)); (have P10 := P9.but g10 (Nat.ne_of_lt P7.lt)); (have V10 := U9.but g10 (Nat.ne_of_gt U8.lt)); (have B10 := B9.trans (g10.below B9.size B7.size)))
    | (refine wpl_store (by rfl) 29 _ _ (by rfl) w8.heap.size (by rfl) _ (by rfl) (keyL a2 a3) rfl 29 _ V10 (by rfl) _ sizeKey (by rfl) (by simp [Value.oneCell']) ?_; intro w11 V11 s11 g11; (have J11 := J10.but g11 (Nat.ne_of_lt J8.lt)); (have T11 := T10.but g11 (Nat.ne_of_lt T8.lt)); (have P11 := P10.but g11 (Nat.ne_of_lt P8.lt)); (have U11 := U10.but g11 (Nat.ne_of_lt U8.lt)); (have B11 := B10.trans (g11.below B10.size B8.size)); (have B711 : Below w7.heap.size w7 w11 := ((b8.trans (b9.mono b8.size)).trans (But.below (g := w7.heap.size) g10 (Nat.le_trans b8.size b9.size) (Nat.le_refl _))).trans (But.below (g := w8.heap.size) g11 (Nat.le_trans (Nat.le_trans b8.size b9.size) s10) b8.size)); (have OA11 := OA7.below B711 (Nat.le_refl _)); (have OI11 := OI7.below B711 (Nat.le_refl _)))
    | (refine wpl_load (by rfl) 29 _ (by rfl) w7.heap.size (by rfl) 29 _ U11 _ Tryd.underlying29 rfl _ sizeKey (by rfl) ?_)
    | (go_at_call 38; ((with_reducible refine (hP' _ _ _ ((h.below B11 (Nat.le_refl _)).wide (Nat.le_refl _) B11.size) (OA11.bs.wide (Nat.zero_le _) (Nat.le_refl _)) (by have := OA11.cap_le; rw [HA.out] at this; exact this) OA11.cap_max).mono ?_); rintro e w12 ⟨rfl, b12⟩; (have J12 := J11.below b12 J11.lt); (have T12 := T11.below b12 T11.lt); (have B12 := B11.trans (b12.mono B11.size))))
    | ((refine wpl_store (by rfl) 27 _ _ (by rfl) w.heap.size (by rfl) _ (by rfl) _ rfl 27 _ J12 (by rfl) _ sizeNtp (by rfl) (by simp [Value.oneCell']) ?_; intro w13 J13 s13 g13); (have T13 := T12.but g13 (by omega)); (have B13 := B12.trans (g13.below B12.size (Nat.le_refl _))))
    | ((refine wpl_store (by rfl) 31 _ _ (by rfl) w1.heap.size (by rfl) _ (by rfl) _ rfl 31 _ T13 (by rfl) _ sizeTk (by rfl) (by simp [Value.oneCell']) ?_; intro w14 T14 s14 g14); (have J14 := J13.but g14 (by omega)); (have B14 := B13.trans (g14.below B13.size (by omega)))))
  refine bodyPost_ret (res_ctx Tryd.results13 (by rfl) (by rfl) J14 T14 Tryd.underlying27 rfl Tryd.underlying31 rfl sizeNtp (by rfl) sizeTk (by rfl) (by rfl)) rfl ?_
  exact ⟨rfl, B14⟩
set_option maxRecDepth 100000 in
set_option maxHeartbeats 16000000 in
theorem rgopen_ok (bj : Nat) (s kk g : Int) (A : Option Addr) (n c : Nat) (b : List Int) (w : World) (hJ : Blk w bj 89 (jarL s kk g)) (hs : U64 s) (hg : Gn g) (hkk : 1 ≤ kk ∧ kk ≤ 8) (hn : b.length = n) (h : Bs w 0 w.heap.size A b) (hnc : n ≤ c) (hc : c ≤ 9223372036854775807) (hm : n ≤ 1000000) (hE : spE b = 0) (l v m st po pr rd rp id ref org rec xmt : Int) (hV : dcV b = ntp l v m st po pr rd rp id ref org rec xmt) (hT : (spC b).length = 52) (hO1 : opE s kk g (spC b) = 0) (hPV : prvB (opK s kk g (spC b) 0) (opK s kk g (spC b) 1) (spB b) (spA b) = true) :
    Calls Tryd.prog 13 #[.pointer (some ⟨bj, 0, none⟩), .slice A n c] w fun e w' => ∃ A' c', e = .returned (.tuple #[ntp l v m st po pr rd rp id ref org rec xmt, .agg (tktL A' 16 c' (opK s kk g (spC b) 0) (opK s kk g (spC b) 1) (opK s kk g (spC b) 2) (opK s kk g (spC b) 3)).toArray, .int .i64 0]) ∧ Ow w' w.heap.size A' c' (spI b) ∧ Below w.heap.size w w' := by
  have hS := fun W hB => rread_ok A n c b W hn hB hnc hc hm hE l v m st po pr rd rp id ref org rec xmt hV
  obtain ⟨hI16, hA12, h12⟩ : (spI b).length = 16 ∧ (spA b).length = 12 ∧ 12 ≤ n := by
    rcases spE_cases b with ⟨h1, h2⟩ | ⟨h1, h2, h3⟩ | ⟨h1, h2, h3, h4⟩ | ⟨h1, h2, h3, h4, h5⟩
    · exact absurd (h2.symm.trans hE) h1
    · exact absurd (h3.symm.trans hE) h2
    · rw [h4] at hE; cases hE
    · exact ⟨h4, h3, by have := (spA_n h.byt hn h1 h2 h3).1; omega⟩
  have hsz : ∀ q, (dtL (spL b) q).length ≤ 256 := fun q => dt_small (by unfold dcR; split; exact h.byt.drop _; exact Byt.nil)
  have hP := fun k0 k1 A4 c4 W hk0 hk1 hB h4 hc4 hcc4 => rtagged_any A4 c4 (spA b) A n c b k0 k1 W hn h12 hB hnc hc hm hA12 h4 hc4 hcc4 hk0 hk1
  have hFi := fun W A c N hN hX hc hcc => rfind_u A c (spL b) N 516 W hN hX hc hcc (fun q _ => Nat.le_trans (hsz q) (by omega))
  have hO := fun W A N c hN hB hc hcc hJ => ropen_any bj s kk g A N c (spC b) W hN hB hc hcc hs hg hkk hJ
  rw [opV_val] at hO
  have u0 := opK_u64 s kk g (spC_byt h.byt) 0
  have u1 := opK_u64 s kk g (spC_byt h.byt) 1
  rw [hO1] at hO
  generalize hk0 : opK s kk g (spC b) 0 = a0 at *
  generalize hk1 : opK s kk g (spC b) 1 = a1 at *
  generalize hk2 : opK s kk g (spC b) 2 = a2 at *
  generalize hk3 : opK s kk g (spC b) 3 = a3 at *
  have hP' := fun A4 c4 W hB h4 hc4 hcc4 => hP a0 a1 A4 c4 W u0 u1 hB h4 hc4 hcc4
  clear hP
  generalize hCC : spC b = CC at *
  obtain ⟨N9, hN9⟩ : ∃ N, CC.length = N := ⟨_, rfl⟩
  have hFi' : ∀ (W : World) (A : Option Addr) (c N : Nat), (spL b).length = N → Xs W W.heap.size A (spL b) → N ≤ c → c ≤ 9223372036854775807 → Calls Tryd.prog 36 #[.slice A N c, .int .i64 516] W fun e w' => ∃ A' c', e = .returned (.tuple #[.slice A' N9 c', .bool (fdB (spL b) 516)]) ∧ Ow w' W.heap.size A' c' CC ∧ Below W.heap.size W w' := fun W A c N h1 h2 h3 h4 => (hFi W A c N h1 h2 h3 h4).mono fun e w' ⟨A1, c1, n1, e1, e2, e3⟩ => by
    have hx : fdD (spL b) 516 = CC := hCC
    rw [hx] at e2 e3
    obtain rfl : N9 = n1 := hN9.symm.trans e2
    exact ⟨A1, c1, e1, e3⟩
  clear hFi
  have hFi := hFi'
  clear hFi'
  generalize fdB (spL b) 516 = IB at hFi
  generalize spL b = L at hS hFi hsz
  obtain rfl : N9 = 52 := hN9.symm.trans hT
  clear hE hV hO1 hT hCC hk0 hk1 hk2 hk3 hn
  rw [hPV] at hP'
  clear hPV
  have HA := Lib.hid hA12
  have HI := Lib.hid hI16
  clear hA12 hI16
  go_enter Tryd.func13, Tryd.ntmps13
  go_wp2_with (first
    | ((refine wpl_alloc (by rfl) 27 (by rfl) (.agg (zN).toArray) (zN) zeroNtp rfl ?_; intro w4 P4' s4 b4); (have J4 := J3.below b4 J3.lt); (have T4 := T3.below b4 T3.lt); (have B4 := B3.trans (b4.mono B3.size)))
    | (refine wpl_alloc (by rfl) 27 (by rfl) (.agg (zN).toArray) (zN) zeroNtp rfl ?_; intro w1 J1 s1 b1)
    | ((refine wpl_alloc (by rfl) 31 (by rfl) (.agg (tktL none 0 0 0 0 0 0).toArray) (tktL none 0 0 0 0 0 0) zeroTk rfl ?_; intro w2 T2 s2 b2); (have J2 := J1.below b2 (by omega)); (have B2 := b1.trans (b2.mono (by omega))))
    | (go_at_call 35; ((with_reducible refine (hS _ ((h.below B2 (Nat.le_refl _)).wide (Nat.le_refl _) B2.size)).mono ?_); rintro e w3 ⟨P1, p1, q1, P2, q2, P4, q4, rfl, hL1, X3, OI3, OA3, b3⟩; (have J3 := J2.below b3 J2.lt); (have T3 := T2.below b3 T2.lt); (have B3 := B2.trans (b3.mono B2.size)); (have z3 := b3.size)))
    | ((refine wpl_store (by rfl) 27 _ _ (by rfl) w3.heap.size (by rfl) _ (by rfl) _ rfl 27 _ P4' (by rfl) _ sizeNtp (by rfl) (by simp [Value.oneCell']) ?_; intro w5 P5 s5 g5); (have J5 := J4.but g5 (Nat.ne_of_lt J3.lt)); (have T5 := T4.but g5 (Nat.ne_of_lt T3.lt)); (have B5 := B4.trans (g5.below B4.size B3.size)); (have B35 : Below w3.heap.size w3 w5 := b4.trans (But.below (g := w3.heap.size) g5 (Nat.le_of_lt s4) (Nat.le_refl _))); (have X5 := X3.below B35 (Nat.le_refl _)); (have OI5 := OI3.below B35 (Nat.le_refl _)); (have OA5 := OA3.below B35 (Nat.le_refl _)); (have hp := X5.cap); rw [hL1] at hp)
    | (go_at_call 36; ((with_reducible refine (hFi _ _ _ _ hL1 X5.xs hp.1 hp.2.1).mono ?_); rintro e w6 ⟨A6, c6, rfl, O6, b6⟩; (have J6 := J5.below b6 J5.lt); (have T6 := T5.below b6 T5.lt); (have P6 := P5.below b6 P5.lt); (have B6 := B5.trans (b6.mono B5.size)); (have OI6 := OI5.below b6 (Nat.le_refl _)); (have OA6 := OA5.below b6 (Nat.le_refl _))))
    | (go_at_call 37; ((with_reducible refine (hO _ _ _ _ hN9 (O6.bs.wide (Nat.zero_le _) (Nat.le_refl _)) (by have := O6.cap_le; omega) O6.cap_max (hJ.below B6 hJ.lt)).mono ?_); rintro e w7 ⟨rfl, b7⟩; (have J7 := J6.below b7 J6.lt); (have T7 := T6.below b7 T6.lt); (have P7 := P6.below b7 P6.lt); (have B7 := B6.trans (b7.mono B6.size)); (have OI7 := OI6.below b7 (Nat.le_refl _)); (have OA7 := OA6.below b7 (Nat.le_refl _))))
    | ((refine wpl_alloc (by rfl) 29 (by rfl) (.agg (keyL 0 0).toArray) (keyL 0 0) zeroKey rfl ?_; intro w9 U9 s9 b9); (have J9 := J8.below b9 J8.lt); (have T9 := T8.below b9 T8.lt); (have P9 := P8.below b9 P8.lt); (have U8' := U8.below b9 U8.lt); (have B9 := B8.trans (b9.mono B8.size)))
    | ((refine wpl_alloc (by rfl) 29 (by rfl) (.agg (keyL 0 0).toArray) (keyL 0 0) zeroKey rfl ?_; intro w8 U8 s8 b8); (have J8 := J7.below b8 J7.lt); (have T8 := T7.below b8 T7.lt); (have P8 := P7.below b8 P7.lt); (have B8 := B7.trans (b8.mono B7.size)))
    | (refine wpl_store (by rfl) 29 _ _ (by rfl) w7.heap.size (by rfl) _ (by rfl) (keyL a0 a1) rfl 29 _ U8' (by rfl) _ sizeKey (by rfl) (by simp [Value.oneCell']) ?_; intro w10 U10 s10 g10; (have J10 := J9.but g10 (Nat.ne_of_lt J7.lt)); (have T10 := T9.but g10 (Nat.ne_of_lt T7.lt)); (have P10 := P9.but g10 (Nat.ne_of_lt P7.lt)); (have V10 := U9.but g10 (Nat.ne_of_gt U8.lt)); (have B10 := B9.trans (g10.below B9.size B7.size)))
    | (refine wpl_store (by rfl) 29 _ _ (by rfl) w8.heap.size (by rfl) _ (by rfl) (keyL a2 a3) rfl 29 _ V10 (by rfl) _ sizeKey (by rfl) (by simp [Value.oneCell']) ?_; intro w11 V11 s11 g11; (have J11 := J10.but g11 (Nat.ne_of_lt J8.lt)); (have T11 := T10.but g11 (Nat.ne_of_lt T8.lt)); (have P11 := P10.but g11 (Nat.ne_of_lt P8.lt)); (have U11 := U10.but g11 (Nat.ne_of_lt U8.lt)); (have B11 := B10.trans (g11.below B10.size B8.size)); (have B711 : Below w7.heap.size w7 w11 := ((b8.trans (b9.mono b8.size)).trans (But.below (g := w7.heap.size) g10 (Nat.le_trans b8.size b9.size) (Nat.le_refl _))).trans (But.below (g := w8.heap.size) g11 (Nat.le_trans (Nat.le_trans b8.size b9.size) s10) b8.size)); (have OA11 := OA7.below B711 (Nat.le_refl _)); (have OI11 := OI7.below B711 (Nat.le_refl _)))
    | (refine wpl_load (by rfl) 29 _ (by rfl) w7.heap.size (by rfl) 29 _ U11 _ Tryd.underlying29 rfl _ sizeKey (by rfl) ?_)
    | (go_at_call 38; ((with_reducible refine (hP' _ _ _ ((h.below B11 (Nat.le_refl _)).wide (Nat.le_refl _) B11.size) (OA11.bs.wide (Nat.zero_le _) (Nat.le_refl _)) (by have := OA11.cap_le; rw [HA.out] at this; exact this) OA11.cap_max).mono ?_); rintro e w12 ⟨rfl, b12⟩; (have J12 := J11.below b12 J11.lt); (have T12 := T11.below b12 T11.lt); (have B12 := B11.trans (b12.mono B11.size)))))
  have P12 := P11.below b12 P11.lt
  have U12 := U11.below b12 U11.lt
  have V12 := V11.below b12 V11.lt
  have OI12 := OI11.below b12 (Nat.le_refl _)
  have z3' : w.heap.size < w1.heap.size := s1
  have z13 : w1.heap.size < w3.heap.size := by omega
  have z37 : w3.heap.size < w7.heap.size := P7.lt
  have z78 : w7.heap.size < w8.heap.size := U8.lt
  have z812 : w8.heap.size < w12.heap.size := V12.lt
  have hz2 : w1.heap.size < w2.heap.size := s2
  have hz23 : w2.heap.size ≤ w3.heap.size := z3
  have hI3 := OI12
  clear J1 J2 J3 J4 J5 J6 J7 J8 J9 J10 J11 T2 T3 T4 T5 T6 T7 T8 T9 T10 T11 P5 P6 P7 P8 P9 P10 P11 U8 U8' U9 U10 U11 V10 V11 OI3 OI5 OI6 OI7 OI11 OA3 OA5 OA6 OA7 OA11 X3 X5 O6 b1 b2 b3 b4 g5 b6 b7 b8 b9 g10 g11 b12 B2 B3 B4 B5 B6 B7 B8 B9 B10 B11 B35 B711 hO hP' hFi hS hsz
  generalize w1.heap.size = n1 at *
  generalize w3.heap.size = n3 at *
  generalize w7.heap.size = n7 at *
  generalize w8.heap.size = n8 at *
  refine wp_region_heldL (fun y => Blk y n3 27 [.int .i64 l, .int .i64 v, .int .i64 m, .int .i64 st, .int .i64 po, .int .i64 pr, .int .u32 rd, .int .u32 rp, .int .u32 id, .int .u64 ref, .int .u64 org, .int .u64 rec, .int .u64 xmt] ∧ Blk y n7 29 (keyL a0 a1) ∧ Blk y n8 29 (keyL a2 a3)) 8 (by kernel_rfl) rfl ⟨P12.drew, U12.drew, V12.drew⟩ fun hHeld => ?_
  simp only [List.replicate]
  refine wpH_t 0 (.agg ([.int .i64 l, .int .i64 v, .int .i64 m, .int .i64 st, .int .i64 po, .int .i64 pr, .int .u32 rd, .int .u32 rp, .int .u32 id, .int .u64 ref, .int .u64 org, .int .u64 rec, .int .u64 xmt]).toArray) (by exact gE rfl) (by kernel_rfl) (by intro _ _ _ h; exact h) (yieldsIf_load_mid (by rfl) 27 _ (by rfl) n3 0 (by rfl) ([.int .i64 l, .int .i64 v, .int .i64 m, .int .i64 st, .int .i64 po, .int .i64 pr, .int .u32 rd, .int .u32 rp, .int .u32 id, .int .u64 ref, .int .u64 org, .int .u64 rec, .int .u64 xmt]) _ (fun w' h => h.1.range) Tryd.underlying27 rfl sizeNtp) (by assumption) ?_
  (try simp only [Act.put, zs0, zs1, zs2])
  (refine wpH_t 1 _ (by exact gE rfl) (by kernel_rfl) (by intro _ _ _ h; exact h) (Or.inl ⟨by rfl, (by intro _ h; (try dsimp only at h); go_simp; first | done | with_reducible rfl)⟩) (by assumption) ?_; (try simp only [Act.put, zs0, zs1, zs2]))
  refine wpH_t 2 (.agg (keyL a0 a1).toArray) (by exact gE rfl) (by kernel_rfl) (by intro _ _ _ h; exact h) (yieldsIf_load_mid (by rfl) 29 _ (by rfl) n7 0 (by rfl) (keyL a0 a1) _ (fun w' h => h.2.1.range) Tryd.underlying29 rfl sizeKey) (by assumption) ?_
  (try simp only [Act.put, zs0, zs1, zs2])
  refine wpH_t 3 (.agg (keyL a2 a3).toArray) (by exact gE rfl) (by kernel_rfl) (by intro _ _ _ h; exact h) (yieldsIf_load_mid (by rfl) 29 _ (by rfl) n8 0 (by rfl) (keyL a2 a3) _ (fun w' h => h.2.2.range) Tryd.underlying29 rfl sizeKey) (by assumption) ?_
  (try simp only [Act.put, zs0, zs1, zs2])
  (refine wpH_t 4 _ (by exact gE rfl) (by kernel_rfl) (by intro _ _ _ h; exact h) (Or.inl ⟨by rfl, (by intro _ h; (try dsimp only at h); go_simp; first | done | with_reducible rfl)⟩) (by assumption) ?_; (try simp only [Act.put, zs0, zs1, zs2]))
  have ne3 : n3 ≠ w.heap.size := by omega
  have ne7 : n7 ≠ w.heap.size := by omega
  have ne8 : n8 ≠ w.heap.size := by omega
  have nf3 : n3 ≠ n1 := by omega
  have nf7 : n7 ≠ n1 := by omega
  have nf8 : n8 ≠ n1 := by omega
  have P13 := P12.drew
  have U13 := U12.drew
  have V13 := V12.drew
  have J13 := J12.drew
  have T13 := T12.drew
  have B13 := B12.drew
  have O13 := OI12.drew
  (refine wpH_one (i := 5) (by exact gE rfl) (by kernel_rfl) (by rfl) ?_; (refine wp_store1 27 (.tmp 4) (.tmp 62) (by rfl) w.heap.size (by rfl) _ (by rfl) [.int .i64 l, .int .i64 v, .int .i64 m, .int .i64 st, .int .i64 po, .int .i64 pr, .int .u32 rd, .int .u32 rp, .int .u32 id, .int .u64 ref, .int .u64 org, .int .u64 rec, .int .u64 xmt] rfl 27 _ J13 (by rfl) 13 sizeNtp (by rfl) (by simp [Value.oneCell']) ?_; intro w14 J14 s14 g14; refine ⟨⟨P13.but g14 ne3, U13.but g14 ne7, V13.but g14 ne8⟩, ?_⟩); (try simp only [Act.put, zs0, zs1, zs2]))
  have T14 := T13.but g14 (by omega)
  have P14 := P13.but g14 ne3
  have U14 := U13.but g14 ne7
  have V14 := V13.but g14 ne8
  (refine wpH_one (i := 6) (by exact gE rfl) (by kernel_rfl) (by rfl) ?_; (refine wp_store1 31 (.tmp 5) (.tmp 66) (by rfl) n1 (by rfl) _ (by rfl) (tktL P2 16 q2 a0 a1 a2 a3) rfl 31 _ T14 (by rfl) 5 sizeTk (by rfl) (by simp [Value.oneCell']) ?_; intro w15 T15 s15 g15; refine ⟨⟨P14.but g15 nf3, U14.but g15 nf7, V14.but g15 nf8⟩, ?_⟩); (try simp only [Act.put, zs0, zs1, zs2]))
  have J15 := J14.but g15 (by omega)
  have hH15 : Blk w15 n3 27 [.int .i64 l, .int .i64 v, .int .i64 m, .int .i64 st, .int .i64 po, .int .i64 pr, .int .u32 rd, .int .u32 rp, .int .u32 id, .int .u64 ref, .int .u64 org, .int .u64 rec, .int .u64 xmt] ∧ Blk w15 n7 29 (keyL a0 a1) ∧ Blk w15 n8 29 (keyL a2 a3) := ⟨P14.but g15 nf3, U14.but g15 nf7, V14.but g15 nf8⟩
  (refine wpH_t 7 _ (by exact gE rfl) (by kernel_rfl) (by intro _ _ _ h; exact h) (Or.inl ⟨by rfl, (by intro _ h; (try dsimp only at h); go_simp; first | done | with_reducible rfl)⟩) (by assumption) ?_; (try simp only [Act.put, zs0, zs1, zs2]))
  refine wpH_done (by kernel_rfl) ?_ _
  have O15 := (O13.grown g14 (fun q e => by have := O13.blt q e; simp; omega)).grown g15 (fun q e => by have := O13.blt q e; simp; omega)
  have B15 := (B13.trans (g14.below B13.size (Nat.le_refl _))).trans (g15.below (by have := B13.size; omega) (by omega))
  clear hHeld hH15 P12 P13 P14 U12 U13 U14 V12 V13 V14 O13 J12 J13 J14 T12 T13 T14
  go_wp2_with fail
  refine bodyPost_ret (res_ctx Tryd.results13 (by rfl) (by rfl) J15 T15 Tryd.underlying27 rfl Tryd.underlying31 rfl sizeNtp (by rfl) sizeTk (by rfl) (by rfl)) rfl ?_
  exact ⟨P2, q2, rfl, O15.wide (by omega), B15⟩
end Go.Proofs.YtachhbbofemfdaaDoor
namespace Go.Proofs.YtachhbbofemfdaaDoor
open Go.RowKit
set_option linter.unusedSimpArgs false
set_option linter.unusedVariables false
set_option maxRecDepth 100000
/-- the cookie of the examples -/
def exCK (n : Int) : List Int := ckB 5 1 n 1 2 3 4
theorem ex_u : U64 1 ∧ U64 2 ∧ U64 3 ∧ U64 4 ∧ U64 5 := by unfold U64; omega
theorem exCK_op (n : Int) (hn : U64 n) : opV 5 2 1 (exCK n) = .tuple #[keyV 1 2, keyV 3 4, .int .i64 0] := by
  have h := ck_open (s := 5) (k := 2) (g' := 1) (g := 1) (n := n) (c0 := 1) (c1 := 2) (s0 := 3) (s1 := 4) ⟨by omega, by omega⟩ hn ex_u.1 ex_u.2.1 ex_u.2.2.1 ex_u.2.2.2.1
  unfold exCK
  rw [h]
  rfl
def exM (ck : List Int) : List Int := msgB 0 4 3 0 0 0 0 0 0 0 0 0 9 (rqF 1 7 ck) 1 2
theorem exM_len {ck : List Int} (h : ck.length = 52) : (exM ck).length = 136 := by
  unfold exM
  rw [msgB_len]
  have := idB_len 1 7
  simp [rqF, fldsB, fldB, bytesB_length, this, h]
theorem exM_at {ck : List Int} (h : ck.length = 52) : ((exM ck).drop 48).take 12 = [1, 4, 0, 20, 0, 0, 0, 0, 0, 0, 0, 1] := by
  unfold exM msgB bdyB
  rw [List.append_assoc, List.drop_left' (encH_len _ _ _ _ _ _ _ _ _ _ _ _ _)]
  have e : fldsB (rqF 1 7 ck) = [1, 4, 0, 20, 0, 0, 0, 0, 0, 0, 0, 1] ++ (bytesB 8 7 ++ fldsB [(516, ck)]) := by
    have h1 : bytesB 2 260 = [1, 4] := by decide
    have h2 : bytesB 2 20 = [0, 20] := by decide
    have h3 : bytesB 8 1 = [0, 0, 0, 0, 0, 0, 0, 1] := by decide
    have h4 : ((4 : Int) + ((idB 1 7).length : Nat)) = 20 := by rw [idB_len]; rfl
    show bytesB 2 260 ++ bytesB 2 (4 + ((idB 1 7).length : Nat)) ++ idB 1 7 ++ fldsB [(516, ck)] = _
    rw [h4, h1, h2]
    unfold idB
    rw [h3]
    simp
  rw [e, List.append_assoc]
  exact List.take_left' (l₁ := [1, 4, 0, 20, 0, 0, 0, 0, 0, 0, 0, 1]) rfl
theorem exN : nchk 0 4 3 0 0 0 = 0 := by decide
/-- a list of one byte slice -/
theorem ls_one {w : World} {g hi : Nat} {A : Option Addr} {n c : Nat} {d : List Int} (h : Blk w g 23 [.slice A n c]) (hg : g < hi) (hn : d.length = n) (hb : Bs w 0 hi A d) : Ls w hi (some ⟨g, 0, none⟩) [d] := fun _ =>
  ⟨g, 0, rfl, hg, fun k hk => by
    obtain rfl : k = 0 := by simpa using hk
    subst hn
    exact ⟨A, c, h.cell (i := 0) rfl, hb⟩⟩
theorem ex_req {lo b : Nat} {G : List Nat} {CK : List Int} {W : World} (h : Cli W lo b G 1 2 3 4 [CK] 0 []) (h52 : CK.length = 52) (hR : Rnd W) (hlo : 0 < lo) :
    Calls Tryd.prog 21 #[.pointer (some ⟨b, 0, none⟩), ntp 0 4 3 0 0 0 0 0 0 0 0 0 9, .int .u64 7] W fun e w' => ∃ r c' G', e = .returned (.tuple #[.slice (some ⟨r, 0, none⟩) 136 c', .int .i64 0]) ∧ Ck w' W.heap.size G' (r, c', exM CK) ∧ Cli w' lo b G' 1 2 3 4 [] 1 [idB 1 7] ∧ Kp W G w' ∧ Nw W G G' := by
  refine (creq 0 4 3 0 0 0 0 0 0 0 0 0 9 7 h exN (by omega) (by omega) (by omega) (by omega) (by omega) (by omega) (by omega) ex_u.1 ex_u.2.1 (by omega) (by unfold U64; omega) hR hlo (by simp) (by simp)).mono fun e w' ⟨r, c', Nn, G', q1, q2, q3, q4, q5, q6⟩ => ?_
  have hl : (msgB 0 4 3 0 0 0 0 0 0 0 0 0 9 (rqF (0 + 1) 7 CK) 1 2).length = 136 := exM_len h52
  obtain rfl : 136 = Nn := hl.symm.trans q2
  exact ⟨r, c', G', q1, q3, q4, q5, q6⟩
def exR : List Int := msgB 0 4 3 0 0 0 0 0 0 0 0 0 9 (rpF (idB 1 7) (exCK 8) []) 3 4
theorem exR_len : exR.length = 136 := by
  unfold exR
  rw [msgB_len]
  have h1 := idB_len 1 7
  have h2 : (exCK 8).length = 52 := ckB_len _ _ _ _ _ _ _
  simp [rpF, fldsB, fldB, bytesB_length, h1, h2]
theorem exR_all : spE exR = 0 ∧ dcV exR = ntp 0 4 3 0 0 0 0 0 0 0 0 0 9 ∧ spL exR = rpF (idB 1 7) (exCK 8) [] ∧ spI exR = idB 1 7 ∧ prvB 3 4 (spB exR) (spA exR) = true := by
  obtain ⟨hv, h16⟩ := rpF_valid (id := idB 1 7) (ck := exCK 8) (L := []) (idB_len 1 7) (ckB_len _ _ _ _ _ _ _) (idB_byt 1 7) (ckB_byt _ _ _ _ _ _ _) (fun t ht => by cases ht) (by simp)
  have hid : (fdD (rpF (idB 1 7) (exCK 8) []) 260).length = 16 := by rw [rpF_fd]; exact idB_len 1 7
  obtain ⟨e1, e2, e3, e4, e5, e6, e7⟩ := msg_all 0 4 3 0 0 0 0 0 0 0 0 0 9 (rpF (idB 1 7) (exCK 8) []) 3 4 exN (by omega) (by omega) (by omega) (by omega) (by omega) (by omega) (by omega) hv h16 hid
  have hp := msg_prv 0 4 3 0 0 0 0 0 0 0 0 0 9 (rpF (idB 1 7) (exCK 8) []) 3 4 exN (by omega) (by omega) (by omega) (by omega) (by omega) (by omega) (by omega) hv h16 hid
  exact ⟨e1, e2, e3, e4.trans (rpF_fd _ _ _), hp⟩
theorem ex_acc {lo b : Nat} {G : List Nat} {W : World} {A : Option Addr} {c : Nat} (h : Cli W lo b G 1 2 3 4 [] 1 [idB 1 7]) (hR : Rnd W) (hB : Bs W 0 W.heap.size A exR) (hnc : 136 ≤ c) (hc : c ≤ 9223372036854775807) :
    Calls Tryd.prog 24 #[.pointer (some ⟨b, 0, none⟩), .slice A 136 c] W fun e w' => ∃ P1 q1 G', e = .returned (.tuple #[ntp 0 4 3 0 0 0 0 0 0 0 0 0 9, .slice P1 2 q1, .int .i64 0]) ∧ Cli w' lo b G' 1 2 3 4 [exCK 8] 1 [] ∧ Kp W G w' ∧ Nw W G G' := by
  obtain ⟨e1, e2, e3, e4, e5⟩ := exR_all
  have hfr : frs (spL exR) = [exCK 8] := by rw [e3]; rfl
  refine (cacc A 136 c exR 0 4 3 0 0 0 0 0 0 0 0 0 9 h ex_u.2.2.1 ex_u.2.2.2.1 hR (by simp) (by simp) exR_len hB hnc hc (by omega) e1 e2 e5 0 (by simp) (by rw [e4]; exact fiI_some (k := 0) (by simp) rfl (fun j hj => by omega)) (by
    refine frB_yes fun d hd => ?_
    rw [hfr] at hd
    rw [List.mem_singleton.1 hd]
    exact ckB_len _ _ _ _ _ _ _)).mono fun e w' ⟨P1, p1, q1, G', z1, z2, z3, z4, z5, z6⟩ => ?_
  have hl : (spL exR).length = 2 := by rw [e3]; rfl
  obtain rfl : 2 = p1 := hl.symm.trans z2
  rw [hfr] at z4
  exact ⟨P1, q1, G', z1, z4, z5, z6⟩
theorem ex_acc2 {lo b : Nat} {G : List Nat} {CK : List (List Int)} {W : World} {A : Option Addr} {c : Nat} (h : Cli W lo b G 1 2 3 4 CK 1 []) (h8 : CK.length ≤ 8) (hR : Rnd W) (hB : Bs W 0 W.heap.size A exR) (hnc : 136 ≤ c) (hc : c ≤ 9223372036854775807) :
    Calls Tryd.prog 24 #[.pointer (some ⟨b, 0, none⟩), .slice A 136 c] W fun e w' => e = .returned (.tuple #[ntp0, .slice none 0 0, .int .i64 11]) ∧ Below W.heap.size W w' := by
  obtain ⟨e1, e2, e3, e4, e5⟩ := exR_all
  exact cacc_none A 136 c exR 0 4 3 0 0 0 0 0 0 0 0 0 9 h ex_u.2.2.1 ex_u.2.2.2.1 hR h8 (by simp) exR_len hB hnc hc (by omega) e1 e2 e5 (fiI_none (fun j hj => by simp at hj))
theorem ex_open {CK : List Int} {W : World} {bj : Nat} {A : Option Addr} {c : Nat} (hJ : Blk W bj 84 (jarL 5 2 1)) (hR : Rnd W) (h52 : CK.length = 52) (hcb : Byt CK) (hop : opV 5 2 1 CK = .tuple #[keyV 1 2, keyV 3 4, .int .i64 0]) (hB : Bs W 0 W.heap.size A (exM CK)) (hnc : 136 ≤ c) (hc : c ≤ 9223372036854775807) :
    Calls Tryd.prog 11 #[.pointer (some ⟨bj, 0, none⟩), .slice A 136 c] W fun e w' => ∃ r c', e = .returned (.tuple #[ntp 0 4 3 0 0 0 0 0 0 0 0 0 9, .agg (tktL (some ⟨r, 0, none⟩) 16 c' 1 2 3 4).toArray, .int .i64 0]) ∧ Ow w' W.heap.size (some ⟨r, 0, none⟩) c' (idB 1 7) ∧ Below W.heap.size W w' :=
  sopen 0 4 3 0 0 0 0 0 0 0 0 0 9 1 7 CK 1 2 3 4 5 2 1 bj A 136 c W hJ ex_u.2.2.2.2 ⟨by omega, by omega⟩ (by omega) hR exN (by omega) (by omega) (by omega) (by omega) (by omega) (by omega) (by omega) h52 hcb hop (exM_len h52) hB hnc hc (by omega)
theorem ex_rep {W : World} {bj r ci : Nat} (hJ : Blk W bj 84 (jarL 5 2 1)) (hR : Rnd W) (hI : Bs W 0 W.heap.size (some ⟨r, 0, none⟩) (idB 1 7)) (hic : 16 ≤ ci) (hicc : ci ≤ 9223372036854775807) :
    Calls Tryd.prog 17 #[.pointer (some ⟨bj, 0, none⟩), .agg (tktL (some ⟨r, 0, none⟩) 16 ci 1 2 3 4).toArray, ntp 0 4 3 0 0 0 0 0 0 0 0 0 9, .slice none 0 0, .int .u64 8] W fun e w' => ∃ A c, e = .returned (.tuple #[.slice A 136 c, .int .i64 0]) ∧ Ow w' W.heap.size A c exR ∧ Below W.heap.size W w' := by
  refine (sreply 0 4 3 0 0 0 0 0 0 0 0 0 9 8 (idB 1 7) 1 2 3 4 5 2 1 bj r ci W hJ ex_u.2.2.2.2 ⟨by omega, by omega⟩ hR exN (by omega) (by omega) (by omega) (by omega) (by omega) (by omega) (by omega) (by unfold U64; omega) ex_u.1 ex_u.2.1 ex_u.2.2.1 ex_u.2.2.2.1 (idB_len 1 7) hI hic hicc).mono fun e w' ⟨A, c, n, q1, q2, q3, q4⟩ => ?_
  have hl : (msgB 0 4 3 0 0 0 0 0 0 0 0 0 9 (rpF (idB 1 7) (ckB 5 1 8 1 2 3 4) []) 3 4).length = 136 := exR_len
  obtain rfl : 136 = n := hl.symm.trans q2
  exact ⟨A, c, q1, q3, q4⟩
/-- what the last expression reads -/
def ExS (w0 : World) (ka kb bp bt bq bc lo : Nat) (rt ct : Nat) (G : List Nat) (CK : List (List Int)) (y : World) : Prop :=
  Blk y bp 27 [.int .i64 0, .int .i64 4, .int .i64 3, .int .i64 0, .int .i64 0, .int .i64 0, .int .u32 0, .int .u32 0, .int .u32 0, .int .u64 0, .int .u64 0, .int .u64 0, .int .u64 9] ∧ Blk y bt 31 (tktL (some ⟨rt, 0, none⟩) 16 ct 1 2 3 4) ∧ Blk y ka 29 (keyL 1 2) ∧ Blk y kb 29 (keyL 3 4) ∧
    Blk y bq 27 [.int .i64 0, .int .i64 4, .int .i64 3, .int .i64 0, .int .i64 0, .int .i64 0, .int .u32 0, .int .u32 0, .int .u32 0, .int .u64 0, .int .u64 0, .int .u64 0, .int .u64 9] ∧ Cli y lo bc G 1 2 3 4 CK 1 [] ∧ Below w0.heap.size w0 y
theorem ExS.below {w0 y z : World} {ka kb bp bt bq bc lo rt ct : Nat} {G : List Nat} {CK : List (List Int)} (h : ExS w0 ka kb bp bt bq bc lo rt ct G CK y) (hb : Below y.heap.size y z) : ExS w0 ka kb bp bt bq bc lo rt ct G CK z := by
  obtain ⟨h1, h2, h3, h4, h5, h6, h7⟩ := h
  exact ⟨h1.below hb h1.lt, h2.below hb h2.lt, h3.below hb h3.lt, h4.below hb h4.lt, h5.below hb h5.lt, h6.below hb, h7.trans (hb.mono h7.size)⟩
set_option maxRecDepth 100000 in
set_option maxHeartbeats 16000000 in
theorem awake_any (w : World) (hR : Rnd w) : Calls Tryd.prog 10 #[] w fun e w' => e = .returned (.bool true) ∧ Below w.heap.size w w' := by
  have hw0 := hR.lt
  obtain ⟨CK, hCK⟩ : ∃ CK, CK = exCK 6 := ⟨_, rfl⟩
  have hop := exCK_op 6 (by unfold U64; omega)
  have h52 : (exCK 6).length = 52 := ckB_len _ _ _ _ _ _ _
  have hcb : Byt (exCK 6) := ckB_byt _ _ _ _ _ _ _
  have hSe := fun bj W hJ hR => seal_any bj 5 2 1 1 2 3 4 6 W ex_u.2.2.2.2 ⟨by omega, by omega⟩ (by unfold U64; omega) ex_u.1 ex_u.2.1 ex_u.2.2.1 ex_u.2.2.2.1 hJ hR
  have eCK : ckB 5 1 6 1 2 3 4 = exCK 6 := rfl
  rw [eCK] at hSe
  rw [← hCK] at hop h52 hcb hSe
  clear eCK hCK
  go_enter Tryd.func10, Tryd.ntmps10
  go_wp2_with (first
    | ((refine wpl_alloc (by rfl) 29 (by rfl) (.agg (keyL 0 0).toArray) (keyL 0 0) zeroKey rfl ?_; intro w2 V2 s2 b2); (have U2 := U1.below b2 (by omega)); (have B2 := b1.trans (b2.mono (by omega))))
    | (refine wpl_alloc (by rfl) 29 (by rfl) (.agg (keyL 0 0).toArray) (keyL 0 0) zeroKey rfl ?_; intro w1 U1 s1 b1)
    | (refine wpl_store (by rfl) 29 _ _ (by rfl) w.heap.size (by rfl) _ (by rfl) (keyL 1 2) rfl 29 _ U2 (by rfl) _ sizeKey (by rfl) (by simp [Value.oneCell']) ?_; intro w3 U3 s3 g3; (have V3 := V2.but g3 (by omega)); (have B3 := B2.trans (g3.below B2.size (Nat.le_refl _))))
    | (refine wpl_store (by rfl) 29 _ _ (by rfl) w1.heap.size (by rfl) _ (by rfl) (keyL 3 4) rfl 29 _ V3 (by rfl) _ sizeKey (by rfl) (by simp [Value.oneCell']) ?_; intro w4 V4 s4 g4; (have U4 := U3.but g4 (by omega)); (have B4 := B3.trans (g4.below B3.size (by omega))))
    | (go_at_call 12; ((with_reducible refine (new_some 5 2 _ (by omega) (by omega)).mono ?_); rintro e w5 ⟨rfl, J5, b5⟩; (have U5 := U4.below b5 U4.lt); (have V5 := V4.below b5 V4.lt); (have B5 := B4.trans (b5.mono B4.size)))))
  have R5 := hR.below B5 hw0
  have z14 : w1.heap.size < w4.heap.size := by omega
  have z01 : w.heap.size < w1.heap.size := s1
  clear U1 U2 U3 U4 V2 V3 V4 b1 b2 g3 g4 b5 B2 B3 B4 s1 s2 s3 s4
  generalize hq1 : w1.heap.size = n1 at *
  generalize hq4 : w4.heap.size = bj at *
  clear hq1 hq4
  refine wp_region_heldL (fun y => Blk y w.heap.size 29 (keyL 1 2) ∧ Blk y n1 29 (keyL 3 4)) 9 (by kernel_rfl) rfl ⟨U5.drew, V5.drew⟩ fun hHeld => ?_
  simp only [List.replicate]
  refine wpH_t 0 (.agg (keyL 1 2).toArray) (by exact gE rfl) (by kernel_rfl) (by intro _ _ _ h; exact h) (yieldsIf_load_mid (by rfl) 29 _ (by rfl) w.heap.size 0 (by rfl) (keyL 1 2) _ (fun w' h => h.1.range) Tryd.underlying29 rfl sizeKey) (by assumption) ?_
  (try simp only [Act.put, zs0, zs1, zs2])
  refine wpH_t 1 (.agg (keyL 3 4).toArray) (by exact gE rfl) (by kernel_rfl) (by intro _ _ _ h; exact h) (yieldsIf_load_mid (by rfl) 29 _ (by rfl) n1 0 (by rfl) (keyL 3 4) _ (fun w' h => h.2.range) Tryd.underlying29 rfl sizeKey) (by assumption) ?_
  (try simp only [Act.put, zs0, zs1, zs2])
  (refine wpH_t 2 _ (by exact gE rfl) (by kernel_rfl) (by intro _ _ _ h; exact h) (Or.inl ⟨by rfl, (by intro _ h; (try dsimp only at h); go_simp; first | done | with_reducible rfl)⟩) (by assumption) ?_; (try simp only [Act.put, zs0, zs1, zs2]))
  refine wpH_t 3 (.agg (keyL 1 2).toArray) (by exact gE rfl) (by kernel_rfl) (by intro _ _ _ h; exact h) (yieldsIf_load_mid (by rfl) 29 _ (by rfl) w.heap.size 0 (by rfl) (keyL 1 2) _ (fun w' h => h.1.range) Tryd.underlying29 rfl sizeKey) (by assumption) ?_
  (try simp only [Act.put, zs0, zs1, zs2])
  refine wpH_t 4 (.agg (keyL 3 4).toArray) (by exact gE rfl) (by kernel_rfl) (by intro _ _ _ h; exact h) (yieldsIf_load_mid (by rfl) 29 _ (by rfl) n1 0 (by rfl) (keyL 3 4) _ (fun w' h => h.2.range) Tryd.underlying29 rfl sizeKey) (by assumption) ?_
  (try simp only [Act.put, zs0, zs1, zs2])
  have hSE := hSe bj w5.drew J5.drew R5.drew
  (refine wpH_one (i := 5) (by exact gE rfl) (by kernel_rfl) (by rfl) ?_; (go_simp; (with_reducible refine hSE.mono ?_); rintro e w6 ⟨A6, c6, rfl, O6, b6⟩; refine ⟨⟨U5.drew.below b6 U5.lt, V5.drew.below b6 V5.lt⟩, ?_⟩); (try simp only [Act.put, zs0, zs1, zs2]))
  have U6 := U5.drew.below b6 U5.lt
  have V6 := V5.drew.below b6 V5.lt
  have J6 := J5.drew.below b6 J5.lt
  have R6 := R5.drew.below b6 R5.lt
  have B6 := B5.drew.trans (b6.mono B5.size)
  (refine wpH_one (i := 6) (by exact gE rfl) (by kernel_rfl) (by rfl) ?_; (go_simp; refine ⟨⟨U6.old, V6.old⟩, ?_⟩); (try simp only [Act.put, zs0, zs1, zs2]))
  obtain ⟨w7, hw7⟩ : ∃ w7, w7 = w6.alloc (.cells #[.slice A6 52 c6] 23) := ⟨_, rfl⟩
  rw [← hw7]
  have b7 : Below w6.heap.size w6 w7 := by rw [hw7]; exact (Below.refl _ w6).alloc (Nat.le_refl _) _
  have N7 : Blk w7 w6.heap.size 23 [.slice A6 52 c6] := by rw [hw7]; exact Blk.new w6 _ _ _ rfl
  clear hw7
  have U7 := U6.below b7 U6.lt
  have V7 := V6.below b7 V6.lt
  have J7 := J6.below b7 J6.lt
  have R7 := R6.below b7 R6.lt
  have B7 := B6.trans (b7.mono B6.size)
  have L7 := ls_one N7 N7.lt h52 ((O6.bs.wide (Nat.zero_le _) (Nat.le_refl _)).below b7 (Nat.le_refl _) |>.wide (Nat.le_refl _) b7.size)
  have hNC := cnew 1 2 3 4 (some ⟨w6.heap.size, 0, none⟩) 1 1 [CK] w7 (by omega) rfl L7 (Nat.le_refl _) (fun l hl => by rw [List.mem_singleton.1 hl]; exact h52)
  have hH7 : Blk w7 w.heap.size 29 (keyL 1 2) ∧ Blk w7 n1 29 (keyL 3 4) := ⟨U7, V7⟩
  (refine wpH_one (i := 7) (by exact gE rfl) (by kernel_rfl) (by rfl) ?_; (go_simp; (with_reducible refine hNC.mono ?_); rintro e w8 ⟨bc, G, rfl, C8, b8⟩; refine ⟨⟨U7.below b8 U7.lt, V7.below b8 V7.lt⟩, ?_⟩); (try simp only [Act.put, zs0, zs1, zs2]))
  have U8 : BlG w8 G w.heap.size 29 (keyL 1 2) := ⟨U7.below b8 U7.lt, C8.low U7.lt⟩
  have V8 : BlG w8 G n1 29 (keyL 3 4) := ⟨V7.below b8 V7.lt, C8.low V7.lt⟩
  have J8 : BlG w8 G bj 84 (jarL 5 2 1) := ⟨J7.below b8 J7.lt, C8.low J7.lt⟩
  have R8 := R7.below b8 R7.lt
  have B8 := B7.trans (b8.mono B7.size)
  have hH8 : Blk w8 w.heap.size 29 (keyL 1 2) ∧ Blk w8 n1 29 (keyL 3 4) := ⟨U8.1, V8.1⟩
  have hlo : 0 < w7.heap.size := R7.lt
  have hlow : w.heap.size ≤ w7.heap.size := B7.size
  (refine wpH_t 8 _ (by exact gE rfl) (by kernel_rfl) (by intro _ _ _ h; exact h) (Or.inl ⟨by rfl, (by intro _ h; (try dsimp only at h); go_simp; first | done | with_reducible rfl)⟩) (by assumption) ?_; (try simp only [Act.put, zs0, zs1, zs2]))
  refine wpH_done (by kernel_rfl) ?_ _
  clear hHeld hH7 hH8 U5 V5 J5 R5 B5 U6 V6 J6 R6 B6 U7 V7 J7 N7 L7 hNC hSE hSe O6 b6 b7 b8
  generalize w7.heap.size = lo at *
  go_wp2_with fail
  with_reducible refine (head_any _).mono ?_
  rintro e w9 ⟨rfl, b9⟩
  have U9 := U8.below b9
  have V9 := V8.below b9
  have J9 := J8.below b9
  have C9 := C8.below b9
  have R9 := R8.below b9 R8.lt
  have B9 := B8.trans (b9.mono B8.size)
  clear U8 V8 J8 C8 R8 B8 b9
  go_wp2_with fail
  with_reducible refine (ex_req C9 h52 R9 hlo).mono ?_
  rintro e w10 ⟨r, cr, G', rfl, M10, C10, K10, n10⟩
  have z0 : 0 ∉ G := C9.low hlo
  have U10 := U9.go K10 n10
  have V10 := V9.go K10 n10
  have J10 := J9.go K10 n10
  have R10 := R9.go K10 z0
  have B10 : Below w.heap.size w w10 := K10.toBelow B9 B9.size (fun g hg => by have := (C9.rng g hg).1; omega)
  have hcr := M10.1.cap_le
  rw [exM_len h52] at hcr
  clear U9 V9 J9 C9 R9 B9 K10 n10 z0
  go_wp2_with fail
  with_reducible refine (head_any _).mono ?_
  rintro e w11 ⟨rfl, b11⟩
  have U11 := U10.below b11
  have V11 := V10.below b11
  have J11 := J10.below b11
  have C11 := C10.below b11
  have R11 := R10.below b11 R10.lt
  have B11 := B10.trans (b11.mono B10.size)
  have M11 := M10.below b11
  clear U10 V10 J10 C10 R10 B10 M10 b11
  go_wp2_with fail
  with_reducible refine (creq_empty 0 4 3 0 0 0 0 0 0 0 0 0 9 7 C11 exN).mono ?_
  rintro e w12 ⟨rfl, b12⟩
  have U12 := U11.below b12
  have V12 := V11.below b12
  have J12 := J11.below b12
  have C12 := C11.below b12
  have R12 := R11.below b12 R11.lt
  have B12 := B11.trans (b12.mono B11.size)
  have M12 := M11.below b12
  clear U11 V11 J11 C11 R11 B11 M11 b12
  have hc48 : ¬ (cr = 48) := by omega
  have i60 : (60 : Int) ≤ cr := by omega
  have hMt := exM_at h52
  have hEq : ∀ (W : World) (A : Option Addr) (c : Nat), Bs W 0 W.heap.size (some ⟨r, 48, none⟩) [1, 4, 0, 20, 0, 0, 0, 0, 0, 0, 0, 1] → Bs W 0 W.heap.size A [1, 4, 0, 20, 0, 0, 0, 0, 0, 0, 0, 1] → ∀ d, Calls Tryd.prog 15 #[.slice (some ⟨r, 48, none⟩) 12 c, .slice A 12 d] W fun e w' => e = .returned (.bool true) ∧ W = w' := fun W A c h1 h2 d => by
    have h := bequal_any (some ⟨r, 48, none⟩) A 12 12 c d _ _ _ _ _ _ W rfl rfl h1 h2
    rwa [eqB_self] at h
  have M48 : Bs w12 0 w12.heap.size (some ⟨r, 48, none⟩) [1, 4, 0, 20, 0, 0, 0, 0, 0, 0, 0, 1] := by
    have h := (M12.1.bs.wide (Nat.zero_le _) (Nat.le_refl _)).cutm 48 12
    rw [hMt] at h
    simpa [Addr.add] using h
  go_wp2_with fail
  obtain ⟨w13, hw13⟩ : ∃ w13, w13 = w12.alloc (.cells #[.int .u8 1, .int .u8 4, .int .u8 0, .int .u8 20, .int .u8 0, .int .u8 0, .int .u8 0, .int .u8 0, .int .u8 0, .int .u8 0, .int .u8 0, .int .u8 1] 5) := ⟨_, rfl⟩
  rw [← hw13]
  have b13 : Below w12.heap.size w12 w13 := by rw [hw13]; exact (Below.refl _ w12).alloc (Nat.le_refl _) _
  have Q13 : Bs w13 0 w13.heap.size (some ⟨w12.heap.size, 0, none⟩) [1, 4, 0, 20, 0, 0, 0, 0, 0, 0, 0, 1] := by
    have N13 : Blk w13 w12.heap.size 5 (byC [1, 4, 0, 20, 0, 0, 0, 0, 0, 0, 0, 1]) := by rw [hw13]; exact Blk.new w12 _ _ _ rfl
    exact (blk_bs N13 (by decide)).wide (Nat.zero_le _) N13.lt
  clear hw13
  have U13 := U12.below b13
  have V13 := V12.below b13
  have J13 := J12.below b13
  have C13 := C12.below b13
  have R13 := R12.below b13 R12.lt
  have B13 := B12.trans (b13.mono B12.size)
  have M13 := M12.below b13
  have M48' := (M48.below b13 (Nat.le_refl _)).wide (Nat.le_refl _) b13.size
  clear U12 V12 J12 C12 R12 B12 M12 b13 M48
  have hEQ := hEq w13 _ (cr - 48) M48' Q13 12
  with_reducible refine hEQ.mono ?_
  rintro e _ ⟨rfl, rfl⟩
  clear hEQ hEq M48' Q13
  go_wp2_with fail
  have hOPN := ex_open J13.1 R13 h52 hcb hop (M13.1.bs.wide (Nat.zero_le _) (Nat.le_refl _)) hcr M13.1.cap_max
  with_reducible refine hOPN.mono ?_
  rintro e w14 ⟨rt, ct, rfl, I14, b14⟩
  have U14 := U13.below b14
  have V14 := V13.below b14
  have J14 := J13.below b14
  have C14 := C13.below b14
  have R14 := R13.below b14 R13.lt
  have B14 := B13.trans (b14.mono B13.size)
  have hlt := I14.blt rt rfl
  have hti : rt ∉ G' := by
    intro hm
    have := (C13.rng rt hm).2
    omega
  have I14' : Ck w14 w13.heap.size G' (rt, ct, idB 1 7) := ⟨I14, hti⟩
  clear U13 V13 J13 C13 R13 B13 M13 b14 I14 hOPN
  go_wp2_with (first
    | ((refine wpl_alloc (by rfl) 27 (by rfl) (.agg (zN).toArray) (zN) zeroNtp rfl ?_; intro w15 P15 s15 b15); (have T15 := U14))
    | ((refine wpl_alloc (by rfl) 31 (by rfl) (.agg (tktL none 0 0 0 0 0 0).toArray) (tktL none 0 0 0 0 0 0) zeroTk rfl ?_; intro w16 T16 s16 b16); (have P16 := P15.below b16 (by omega)))
    | ((refine wpl_store (by rfl) 27 _ _ (by rfl) w14.heap.size (by rfl) _ (by rfl) _ rfl 27 _ P16 (by rfl) _ sizeNtp (by rfl) (by simp [Value.oneCell']) ?_; intro w17 P17 s17 g17); (have T17 := T16.but g17 (by omega)))
    | ((refine wpl_store (by rfl) 31 _ _ (by rfl) w15.heap.size (by rfl) _ (by rfl) _ rfl 31 _ T17 (by rfl) _ sizeTk (by rfl) (by simp [Value.oneCell']) ?_; intro w18 T18 s18 g18); (have P18 := P17.but g18 (by omega))))
  have g15 : Below w14.heap.size w14 w18 := ((b15.trans (b16.mono b15.size)).trans (But.below (g := w14.heap.size) g17 (by omega) (Nat.le_refl _))).trans (But.below (g := w15.heap.size) g18 (by omega) b15.size)
  have n14 : w14.heap.size ∉ G' := fun hm => by have := (C14.rng _ hm).2; omega
  have n15 : w15.heap.size ∉ G' := fun hm => by have := (C14.rng _ hm).2; omega
  have U18 := U14.below g15
  have V18 := V14.below g15
  have J18 := J14.below g15
  have C18 := C14.below g15
  have R18 := R14.below g15 R14.lt
  have B18 := B14.trans (g15.mono B14.size)
  have I18 := I14'.below g15
  have P18' : BlG w18 G' w14.heap.size 27 [.int .i64 0, .int .i64 4, .int .i64 3, .int .i64 0, .int .i64 0, .int .i64 0, .int .u32 0, .int .u32 0, .int .u32 0, .int .u64 0, .int .u64 0, .int .u64 0, .int .u64 9] := ⟨P18, n14⟩
  have T18' : BlG w18 G' w15.heap.size 31 (tktL (some ⟨rt, 0, none⟩) 16 ct 1 2 3 4) := ⟨T18, n15⟩
  have hcap := I18.1.cap_le
  rw [idB_len] at hcap
  have z15 : w14.heap.size < w15.heap.size := s15
  clear U14 V14 J14 C14 R14 B14 I14' b15 b16 g17 g18 g15 P15 P16 P17 P18 T15 T16 T17 T18 n14 n15 s15 s16 s17 s18
  generalize hx : w14.heap.size = bp at *
  generalize hy : w15.heap.size = bt at *
  clear hx hy
  have hT18 := T18'.1
  refine wp_region_heldL (fun y => Blk y bt 31 (tktL (some ⟨rt, 0, none⟩) 16 ct 1 2 3 4)) 9 (by kernel_rfl) rfl hT18.drew fun hHeld => ?_
  simp only [List.replicate]
  (refine wpH_t 0 _ (by exact gE rfl) (by kernel_rfl) (by intro _ _ _ h; exact h) (Or.inl ⟨by rfl, (by intro _ h; (try dsimp only at h); go_simp; first | done | with_reducible rfl)⟩) (by assumption) ?_; (try simp only [Act.put, zs0, zs1, zs2]))
  refine wpH_t 1 (.agg (tktL (some ⟨rt, 0, none⟩) 16 ct 1 2 3 4).toArray) (by exact gE rfl) (by kernel_rfl) (by intro _ _ _ h; exact h) (yieldsIf_load_mid (by rfl) 31 _ (by rfl) bt 0 (by rfl) (tktL (some ⟨rt, 0, none⟩) 16 ct 1 2 3 4) _ (fun w' h => h.range) Tryd.underlying31 rfl sizeTk) (by assumption) ?_
  (try simp only [Act.put, zs0, zs1, zs2])
  have hhd := head_any w18.drew
  (refine wpH_one (i := 2) (by exact gE rfl) (by kernel_rfl) (by rfl) ?_; (go_simp; (with_reducible refine hhd.mono ?_); rintro e w19 ⟨rfl, b19⟩; refine ⟨hT18.drew.below b19 hT18.lt, ?_⟩); (try simp only [Act.put, zs0, zs1, zs2]))
  have b19' : Below w18.heap.size w18 w19 := (Below.refl _ w18).drew.trans b19
  have U19 := U18.below b19'
  have V19 := V18.below b19'
  have J19 := J18.below b19'
  have C19 := C18.below b19'
  have R19 := R18.below b19' R18.lt
  have B19 := B18.trans (b19'.mono B18.size)
  have I19 := I18.below b19'
  have P19 := P18'.below b19'
  have T19 := T18'.below b19'
  have hT19 := T19.1
  have hREP := ex_rep (ci := ct) J19.1 R19 (I19.1.bs.wide (Nat.zero_le _) (Nat.le_refl _)) hcap I19.1.cap_max
  (refine wpH_one (i := 3) (by exact gE rfl) (by kernel_rfl) (by rfl) ?_; (go_simp; (with_reducible refine hREP.mono ?_); rintro e w20 ⟨Ar, car, rfl, O20, b20⟩; refine ⟨hT19.below b20 hT19.lt, ?_⟩); (try simp only [Act.put, zs0, zs1, zs2]))
  have U20 := U19.below b20
  have V20 := V19.below b20
  have J20 := J19.below b20
  have C20 := C19.below b20
  have R20 := R19.below b20 R19.lt
  have B20 := B19.trans (b20.mono B19.size)
  have P20 := P19.below b20
  have T20 := T19.below b20
  have hT20 := T20.1
  (refine wpH_t 4 _ (by exact gE rfl) (by kernel_rfl) (by intro _ _ _ h; exact h) (Or.inl ⟨by rfl, (by intro _ h; (try dsimp only at h); go_simp; first | done | with_reducible rfl)⟩) (by assumption) ?_; (try simp only [Act.put, zs0, zs1, zs2]))
  (refine wpH_t 5 _ (by exact gE rfl) (by kernel_rfl) (by intro _ _ _ h; exact h) (Or.inl ⟨by rfl, (by intro _ h; (try dsimp only at h); go_simp; first | done | with_reducible rfl)⟩) (by assumption) ?_; (try simp only [Act.put, zs0, zs1, zs2]))
  (refine wpH_t 6 _ (by exact gE rfl) (by kernel_rfl) (by intro _ _ _ h; exact h) (Or.inl ⟨by rfl, (by intro _ h; (try dsimp only at h); go_simp; first | done | with_reducible rfl)⟩) (by assumption) ?_; (try simp only [Act.put, zs0, zs1, zs2]))
  (refine wpH_t 7 _ (by exact gE rfl) (by kernel_rfl) (by intro _ _ _ h; exact h) (Or.inl ⟨by rfl, (by intro _ h; (try dsimp only at h); go_simp; first | done | with_reducible rfl)⟩) (by assumption) ?_; (try simp only [Act.put, zs0, zs1, zs2]))
  (refine wpH_t 8 _ (by exact gE rfl) (by kernel_rfl) (by intro _ _ _ h; exact h) (Or.inl ⟨by rfl, (by intro _ h; (try dsimp only at h); go_simp; first | done | with_reducible rfl)⟩) (by assumption) ?_; (try simp only [Act.put, zs0, zs1, zs2]))
  refine wpH_done (by kernel_rfl) ?_ _
  have hcar := O20.cap_le
  rw [exR_len] at hcar
  have hcarm := O20.cap_max
  have hO20 : Bs w20 0 w20.heap.size Ar exR := O20.bs.wide (Nat.zero_le _) (Nat.le_refl _)
  obtain ⟨rr, rfl, hrr⟩ : ∃ rr, Ar = some ⟨rr, 0, none⟩ ∧ rr ∉ G' ∧ rr < w20.heap.size := by
    rcases O20.form with ⟨_, e, _⟩ | ⟨rr, e1, e2, e3⟩
    · have := exR_len; rw [e] at this; cases this
    · exact ⟨rr, e1, fun hm => by have := (C19.rng _ hm).2; omega, e3⟩
  have M20 : Ck w20 w19.heap.size G' (rr, car, exR) := ⟨O20, hrr.1⟩
  clear hHeld hREP hhd hT18 hT19 hT20 U18 V18 J18 C18 R18 B18 I18 P18' T18' U19 V19 J19 C19 R19 B19 I19 P19 T19 b19 b19' b20 O20 hrr
  go_wp2_with fail
  have hACC := ex_acc (c := car) C20 R20 hO20 hcar hcarm
  with_reducible refine hACC.mono ?_
  rintro e w21 ⟨P1, q1, G2, rfl, C21, K21, n21⟩
  have z0 : 0 ∉ G' := C20.low hlo
  have U21 := U20.go K21 n21
  have V21 := V20.go K21 n21
  have J21 := J20.go K21 n21
  have P21 := P20.go K21 n21
  have T21 := T20.go K21 n21
  have M21 := M20.go K21 n21
  have R21 := R20.go K21 z0
  have B21 : Below w.heap.size w w21 := K21.toBelow B20 B20.size (fun g hg => by have := (C20.rng g hg).1; omega)
  clear U20 V20 J20 P20 T20 M20 R20 B20 C20 K21 n21 z0 hACC hO20
  go_wp2_with (first
    | (refine wpl_alloc (by rfl) 27 (by rfl) (.agg (zN).toArray) (zN) zeroNtp rfl ?_; intro w22 H22 s22 b22)
    | (refine wpl_store (by rfl) 27 _ _ (by rfl) w21.heap.size (by rfl) _ (by rfl) [.int .i64 0, .int .i64 4, .int .i64 3, .int .i64 0, .int .i64 0, .int .i64 0, .int .u32 0, .int .u32 0, .int .u32 0, .int .u64 0, .int .u64 0, .int .u64 0, .int .u64 9] rfl 27 _ H22 (by rfl) _ sizeNtp (by rfl) (by simp [Value.oneCell']) ?_; intro w23 H23 s23 g23))
  have g22 : Below w21.heap.size w21 w23 := b22.trans (But.below (g := w21.heap.size) g23 (by omega) (Nat.le_refl _))
  have n22 : w21.heap.size ∉ G2 := fun hm => by have := (C21.rng _ hm).2; omega
  have U23 := U21.below g22
  have V23 := V21.below g22
  have J23 := J21.below g22
  have C23 := C21.below g22
  have R23 := R21.below g22 R21.lt
  have B23 := B21.trans (g22.mono B21.size)
  have P23 := P21.below g22
  have T23 := T21.below g22
  have M23 := M21.below g22
  have H23' : BlG w23 G2 w21.heap.size 27 [.int .i64 0, .int .i64 4, .int .i64 3, .int .i64 0, .int .i64 0, .int .i64 0, .int .u32 0, .int .u32 0, .int .u32 0, .int .u64 0, .int .u64 0, .int .u64 0, .int .u64 9] := ⟨H23, n22⟩
  have hACC2 := ex_acc2 (c := car) C23 (by simp) R23 (M23.1.bs.wide (Nat.zero_le _) (Nat.le_refl _)) hcar hcarm
  clear U21 V21 J21 P21 T21 M21 R21 B21 C21 b22 g23 g22 H22 H23 n22 s22 s23
  with_reducible refine hACC2.mono ?_
  rintro e w24 ⟨rfl, b24⟩
  have U24 := U23.below b24
  have V24 := V23.below b24
  have J24 := J23.below b24
  have C24 := C23.below b24
  have R24 := R23.below b24 R23.lt
  have B24 := B23.trans (b24.mono B23.size)
  have P24 := P23.below b24
  have T24 := T23.below b24
  have H24 := H23'.below b24
  clear U23 V23 J23 P23 T23 M23 R23 B23 C23 H23' b24 hACC2
  go_wp2_with (first
    | (refine wpl_alloc (by rfl) 27 (by rfl) (.agg (zN).toArray) (zN) zeroNtp rfl ?_; intro w25 I25 s25 b25)
    | (refine wpl_store (by rfl) 27 _ _ (by rfl) w24.heap.size (by rfl) _ (by rfl) _ rfl 27 _ I25 (by rfl) _ sizeNtp (by rfl) (by simp [Value.oneCell']) ?_; intro w26 I26 s26 g26))
  have g25 : Below w24.heap.size w24 w26 := b25.trans (But.below (g := w24.heap.size) g26 (by omega) (Nat.le_refl _))
  have U26 := U24.below g25
  have V26 := V24.below g25
  have J26 := J24.below g25
  have C26 := C24.below g25
  have R26 := R24.below g25 R24.lt
  have B26 := B24.trans (g25.mono B24.size)
  have hEx : ExS w w.heap.size n1 bp bt w21.heap.size bc lo rt ct G2 [exCK 8] w26.drew := ⟨(P24.below g25).1.drew, (T24.below g25).1.drew, U26.1.drew, V26.1.drew, (H24.below g25).1.drew, C26.below ((Below.refl _ _).drew), B26.drew⟩
  clear U24 V24 J24 P24 T24 R24 B24 C24 H24 I25 I26 b25 g26 g25 s25 s26 U26 V26 J26 R26 B26 C26
  generalize w21.heap.size = bq at *
  have hke := key_eq
  refine wp_region_det (fun y => ExS w w.heap.size n1 bp bt bq bc lo rt ct G2 [exCK 8] y) 47 (by kernel_rfl) rfl (by exact hEx) ?_
  simp only [List.replicate]
  refine wpD_t 0 (.agg ([.int .i64 0, .int .i64 4, .int .i64 3, .int .i64 0, .int .i64 0, .int .i64 0, .int .u32 0, .int .u32 0, .int .u32 0, .int .u64 0, .int .u64 0, .int .u64 0, .int .u64 9]).toArray) (by exact gE rfl) (by kernel_rfl) (by rfl) (ys_load_mid 27 _ (by rfl) bp 0 (by rfl) ([.int .i64 0, .int .i64 4, .int .i64 3, .int .i64 0, .int .i64 0, .int .i64 0, .int .u32 0, .int .u32 0, .int .u32 0, .int .u64 0, .int .u64 0, .int .u64 0, .int .u64 9]) _ (fun w' h => h.1.range) Tryd.underlying27 rfl sizeNtp) ?_
  (try simp only [Act.put, zs0, zs1, zs2])
  (refine wpD_t 1 _ (by exact gE rfl) (by kernel_rfl) (by rfl) (by intro w' hSw; (try dsimp only at hSw); go_simp; (go_at_call 22; ((with_reducible refine (head_any _).mono ?_); rintro e' y1 ⟨rfl, hb⟩; exact ⟨rfl, hSw.below hb⟩))) ?_; (try simp only [Act.put, zs0, zs1, zs2]))
  (refine wpD_t 2 _ (by exact gE rfl) (by kernel_rfl) (by rfl) (YS.of_value (by intro _ h; (try dsimp only at h); go_simp; first | done | with_reducible rfl)) ?_; (try simp only [Act.put, zs0, zs1, zs2]))
  (refine wpD_t 3 _ (by exact gE rfl) (by kernel_rfl) (by rfl) (YS.of_value (by intro _ h; (try dsimp only at h); go_simp; first | done | with_reducible rfl)) ?_; (try simp only [Act.put, zs0, zs1, zs2]))
  (refine wpD_t 4 _ (by exact gE rfl) (by kernel_rfl) (by rfl) (YS.of_value (by intro _ h; (try dsimp only at h); go_simp; first | done | with_reducible rfl)) ?_; (try simp only [Act.put, zs0, zs1, zs2]))
  refine wpD_t 5 (.agg (keyL 1 2).toArray) (by exact gE rfl) (by kernel_rfl) (by rfl) (ys_load_mid 29 _ (by rfl) bt 1 (by rfl) (keyL 1 2) _ (fun w' h => Blk.mid h.2.1 1 (keyL 1 2) rfl) Tryd.underlying29 rfl sizeKey) ?_
  (try simp only [Act.put, zs0, zs1, zs2])
  refine wpD_t 6 (.agg (keyL 1 2).toArray) (by exact gE rfl) (by kernel_rfl) (by rfl) (ys_load_mid 29 _ (by rfl) w.heap.size 0 (by rfl) (keyL 1 2) _ (fun w' h => h.2.2.1.range) Tryd.underlying29 rfl sizeKey) ?_
  (try simp only [Act.put, zs0, zs1, zs2])
  (refine wpD_t 7 _ (by exact gE rfl) (by kernel_rfl) (by rfl) (YS.of_value (by intro _ h; (try dsimp only at h); go_simp; first | done | with_reducible rfl)) ?_; (try simp only [Act.put, zs0, zs1, zs2]))
  (refine wpD_t 8 _ (by exact gE rfl) (by kernel_rfl) (by rfl) (YS.of_value (by intro _ h; (try dsimp only at h); go_simp; first | done | with_reducible rfl)) ?_; (try simp only [Act.put, zs0, zs1, zs2]))
  (refine wpD_t 9 _ (by exact gE rfl) (by kernel_rfl) (by rfl) (YS.of_value (by intro _ h; (try dsimp only at h); go_simp; first | done | with_reducible rfl)) ?_; (try simp only [Act.put, zs0, zs1, zs2]))
  (refine wpD_t 10 _ (by exact gE rfl) (by kernel_rfl) (by rfl) (YS.of_value (by intro _ h; (try dsimp only at h); go_simp; first | done | with_reducible rfl)) ?_; (try simp only [Act.put, zs0, zs1, zs2]))
  refine wpD_t 11 (.agg (keyL 3 4).toArray) (by exact gE rfl) (by kernel_rfl) (by rfl) (ys_load_mid 29 _ (by rfl) bt 3 (by rfl) (keyL 3 4) _ (fun w' h => Blk.mid h.2.1 3 (keyL 3 4) rfl) Tryd.underlying29 rfl sizeKey) ?_
  (try simp only [Act.put, zs0, zs1, zs2])
  refine wpD_t 12 (.agg (keyL 3 4).toArray) (by exact gE rfl) (by kernel_rfl) (by rfl) (ys_load_mid 29 _ (by rfl) n1 0 (by rfl) (keyL 3 4) _ (fun w' h => h.2.2.2.1.range) Tryd.underlying29 rfl sizeKey) ?_
  (try simp only [Act.put, zs0, zs1, zs2])
  (refine wpD_t 13 _ (by exact gE rfl) (by kernel_rfl) (by rfl) (YS.of_value (by intro _ h; (try dsimp only at h); go_simp; first | done | with_reducible rfl)) ?_; (try simp only [Act.put, zs0, zs1, zs2]))
  (refine wpD_t 14 _ (by exact gE rfl) (by kernel_rfl) (by rfl) (YS.of_value (by intro _ h; (try dsimp only at h); go_simp; first | done | with_reducible rfl)) ?_; (try simp only [Act.put, zs0, zs1, zs2]))
  (refine wpD_t 15 _ (by exact gE rfl) (by kernel_rfl) (by rfl) (YS.of_value (by intro _ h; (try dsimp only at h); go_simp; first | done | with_reducible rfl)) ?_; (try simp only [Act.put, zs0, zs1, zs2]))
  (refine wpD_t 16 _ (by exact gE rfl) (by kernel_rfl) (by rfl) (YS.of_value (by intro _ h; (try dsimp only at h); go_simp; first | done | with_reducible rfl)) ?_; (try simp only [Act.put, zs0, zs1, zs2]))
  (refine wpD_t 17 _ (by exact gE rfl) (by kernel_rfl) (by rfl) (YS.of_value (by intro _ h; (try dsimp only at h); go_simp; first | done | with_reducible rfl)) ?_; (try simp only [Act.put, zs0, zs1, zs2]))
  (refine wpD_t 18 _ (by exact gE rfl) (by kernel_rfl) (by rfl) (YS.of_value (by intro _ h; (try dsimp only at h); go_simp; first | done | with_reducible rfl)) ?_; (try simp only [Act.put, zs0, zs1, zs2]))
  (refine wpD_t 19 _ (by exact gE rfl) (by kernel_rfl) (by rfl) (YS.of_value (by intro _ h; (try dsimp only at h); go_simp; first | done | with_reducible rfl)) ?_; (try simp only [Act.put, zs0, zs1, zs2]))
  (refine wpD_t 20 _ (by exact gE rfl) (by kernel_rfl) (by rfl) (YS.of_value (by intro _ h; (try dsimp only at h); go_simp; first | done | with_reducible rfl)) ?_; (try simp only [Act.put, zs0, zs1, zs2]))
  (refine wpD_t 21 _ (by exact gE rfl) (by kernel_rfl) (by rfl) (YS.of_value (by intro _ h; (try dsimp only at h); go_simp; first | done | with_reducible rfl)) ?_; (try simp only [Act.put, zs0, zs1, zs2]))
  (refine wpD_t 22 _ (by exact gE rfl) (by kernel_rfl) (by rfl) (YS.of_value (by intro _ h; (try dsimp only at h); go_simp; first | done | with_reducible rfl)) ?_; (try simp only [Act.put, zs0, zs1, zs2]))
  (refine wpD_t 23 _ (by exact gE rfl) (by kernel_rfl) (by rfl) (YS.of_value (by intro _ h; (try dsimp only at h); go_simp; first | done | with_reducible rfl)) ?_; (try simp only [Act.put, zs0, zs1, zs2]))
  refine wpD_t 24 (.agg ([.int .i64 0, .int .i64 4, .int .i64 3, .int .i64 0, .int .i64 0, .int .i64 0, .int .u32 0, .int .u32 0, .int .u32 0, .int .u64 0, .int .u64 0, .int .u64 0, .int .u64 9]).toArray) (by exact gE rfl) (by kernel_rfl) (by rfl) (ys_load_mid 27 _ (by rfl) bq 0 (by rfl) ([.int .i64 0, .int .i64 4, .int .i64 3, .int .i64 0, .int .i64 0, .int .i64 0, .int .u32 0, .int .u32 0, .int .u32 0, .int .u64 0, .int .u64 0, .int .u64 0, .int .u64 9]) _ (fun w' h => h.2.2.2.2.1.range) Tryd.underlying27 rfl sizeNtp) ?_
  (try simp only [Act.put, zs0, zs1, zs2])
  (refine wpD_t 25 _ (by exact gE rfl) (by kernel_rfl) (by rfl) (by intro w' hSw; (try dsimp only at hSw); go_simp; (go_at_call 22; ((with_reducible refine (head_any _).mono ?_); rintro e' y1 ⟨rfl, hb⟩; exact ⟨rfl, hSw.below hb⟩))) ?_; (try simp only [Act.put, zs0, zs1, zs2]))
  (refine wpD_t 26 _ (by exact gE rfl) (by kernel_rfl) (by rfl) (YS.of_value (by intro _ h; (try dsimp only at h); go_simp; first | done | with_reducible rfl)) ?_; (try simp only [Act.put, zs0, zs1, zs2]))
  (refine wpD_t 27 _ (by exact gE rfl) (by kernel_rfl) (by rfl) (YS.of_value (by intro _ h; (try dsimp only at h); go_simp; first | done | with_reducible rfl)) ?_; (try simp only [Act.put, zs0, zs1, zs2]))
  (refine wpD_t 28 _ (by exact gE rfl) (by kernel_rfl) (by rfl) (YS.of_value (by intro _ h; (try dsimp only at h); go_simp; first | done | with_reducible rfl)) ?_; (try simp only [Act.put, zs0, zs1, zs2]))
  (refine wpD_t 29 _ (by exact gE rfl) (by kernel_rfl) (by rfl) (YS.of_value (by intro _ h; (try dsimp only at h); go_simp; first | done | with_reducible rfl)) ?_; (try simp only [Act.put, zs0, zs1, zs2]))
  (refine wpD_t 30 _ (by exact gE rfl) (by kernel_rfl) (by rfl) (YS.of_value (by intro _ h; (try dsimp only at h); go_simp; first | done | with_reducible rfl)) ?_; (try simp only [Act.put, zs0, zs1, zs2]))
  (refine wpD_t 31 _ (by exact gE rfl) (by kernel_rfl) (by rfl) (YS.of_value (by intro _ h; (try dsimp only at h); go_simp; first | done | with_reducible rfl)) ?_; (try simp only [Act.put, zs0, zs1, zs2]))
  (refine wpD_t 32 _ (by exact gE rfl) (by kernel_rfl) (by rfl) (YS.of_value (by intro _ h; (try dsimp only at h); go_simp; first | done | with_reducible rfl)) ?_; (try simp only [Act.put, zs0, zs1, zs2]))
  (refine wpD_t 33 _ (by exact gE rfl) (by kernel_rfl) (by rfl) (YS.of_value (by intro _ h; (try dsimp only at h); go_simp; first | done | with_reducible rfl)) ?_; (try simp only [Act.put, zs0, zs1, zs2]))
  (refine wpD_t 34 _ (by exact gE rfl) (by kernel_rfl) (by rfl) (YS.of_value (by intro _ h; (try dsimp only at h); go_simp; first | done | with_reducible rfl)) ?_; (try simp only [Act.put, zs0, zs1, zs2]))
  (refine wpD_t 35 _ (by exact gE rfl) (by kernel_rfl) (by rfl) (YS.of_value (by intro _ h; (try dsimp only at h); go_simp; first | done | with_reducible rfl)) ?_; (try simp only [Act.put, zs0, zs1, zs2]))
  (refine wpD_t 36 _ (by exact gE rfl) (by kernel_rfl) (by rfl) (YS.of_value (by intro _ h; (try dsimp only at h); go_simp; first | done | with_reducible rfl)) ?_; (try simp only [Act.put, zs0, zs1, zs2]))
  (refine wpD_t 37 _ (by exact gE rfl) (by kernel_rfl) (by rfl) (YS.of_value (by intro _ h; (try dsimp only at h); go_simp; first | done | with_reducible rfl)) ?_; (try simp only [Act.put, zs0, zs1, zs2]))
  (refine wpD_t 38 _ (by exact gE rfl) (by kernel_rfl) (by rfl) (YS.of_value (by intro _ h; (try dsimp only at h); go_simp; first | done | with_reducible rfl)) ?_; (try simp only [Act.put, zs0, zs1, zs2]))
  (refine wpD_t 39 _ (by exact gE rfl) (by kernel_rfl) (by rfl) (YS.of_value (by intro _ h; (try dsimp only at h); go_simp; first | done | with_reducible rfl)) ?_; (try simp only [Act.put, zs0, zs1, zs2]))
  (refine wpD_t 40 _ (by exact gE rfl) (by kernel_rfl) (by rfl) (YS.of_value (by intro _ h; (try dsimp only at h); go_simp; first | done | with_reducible rfl)) ?_; (try simp only [Act.put, zs0, zs1, zs2]))
  (refine wpD_t 41 _ (by exact gE rfl) (by kernel_rfl) (by rfl) (YS.of_value (by intro _ h; (try dsimp only at h); go_simp; first | done | with_reducible rfl)) ?_; (try simp only [Act.put, zs0, zs1, zs2]))
  (refine wpD_t 42 _ (by exact gE rfl) (by kernel_rfl) (by rfl) (YS.of_value (by intro _ h; (try dsimp only at h); go_simp; first | done | with_reducible rfl)) ?_; (try simp only [Act.put, zs0, zs1, zs2]))
  (refine wpD_t 43 _ (by exact gE rfl) (by kernel_rfl) (by rfl) (by intro w' hSw; (try dsimp only at hSw); go_simp; (go_at_call 23; (have hCC := ccount hSw.2.2.2.2.2.1); ((with_reducible refine hCC.mono ?_); rintro e' y1 ⟨rfl, rfl⟩; exact ⟨rfl, hSw⟩))) ?_; (try simp only [Act.put, zs0, zs1, zs2]))
  (refine wpD_t 44 _ (by exact gE rfl) (by kernel_rfl) (by rfl) (YS.of_value (by intro _ h; (try dsimp only at h); go_simp; first | done | with_reducible rfl)) ?_; (try simp only [Act.put, zs0, zs1, zs2]))
  (refine wpD_t 45 _ (by exact gE rfl) (by kernel_rfl) (by rfl) (YS.of_value (by intro _ h; (try dsimp only at h); go_simp; first | done | with_reducible rfl)) ?_; (try simp only [Act.put, zs0, zs1, zs2]))
  (refine wpD_t 46 _ (by exact gE rfl) (by kernel_rfl) (by rfl) (YS.of_value (by intro _ h; (try dsimp only at h); go_simp; first | done | with_reducible rfl)) ?_; (try simp only [Act.put, zs0, zs1, zs2]))
  refine wpD_done (by kernel_rfl) ?_ _
  intro wz hSz
  have Bz := hSz.2.2.2.2.2.2
  clear hSz hEx
  go_wp2_with fail
  go_ret
  exact ⟨rfl, Bz⟩
end Go.Proofs.YtachhbbofemfdaaDoor
