/- The reference's guard: Open. Open of the program and of the reference, in one statement; GuardOpens's walk. -/
import Derived.Test.YtachhbbofemfdaaDoorGRz1
import Derived.Test.YtachhbbofemfdaaDoorGZ18
import Derived.Test.YtachhbbofemfdaaDoorGZ4
namespace Go.Proofs.YtachhbbofemfdaaDoor
open Go.RowKit
set_option linter.unusedSimpArgs false
set_option linter.unusedVariables false
set_option maxRecDepth 100000
set_option maxRecDepth 100000 in
set_option maxHeartbeats 4000000 in
theorem rgopen_nil (A : Option Addr) (n c : Nat) (w : World) : Calls Tryd.prog 13 #[.pointer none, .slice A n c] w fun e w' => e = .returned (.tuple #[ntp0, .agg (tktL none 0 0 0 0 0 0).toArray, .int .i64 1]) ∧ Below w.heap.size w w' := by
  go_enter Tryd.func13, Tryd.ntmps13
  go_wp2_with (first
    | (refine wpl_alloc (by rfl) 27 (by rfl) (.agg (zN).toArray) (zN) zeroNtp rfl ?_; intro w1 J1 s1 b1)
    | ((refine wpl_alloc (by rfl) 31 (by rfl) (.agg (tktL none 0 0 0 0 0 0).toArray) (tktL none 0 0 0 0 0 0) zeroTk rfl ?_; intro w2 T2 s2 b2); (have J2 := J1.below b2 (by omega)))
    | ((refine wpl_store (by rfl) 27 _ _ (by rfl) w.heap.size (by rfl) _ (by rfl) _ rfl 27 _ J2 (by rfl) _ sizeNtp (by rfl) (by simp [Value.oneCell']) ?_; intro w3 J3 s3 g3); (have T3 := T2.but g3 (by omega)))
    | ((refine wpl_store (by rfl) 31 _ _ (by rfl) w1.heap.size (by rfl) _ (by rfl) _ rfl 31 _ T3 (by rfl) _ sizeTk (by rfl) (by simp [Value.oneCell']) ?_; intro w4 T4 s4 g4); (have J4 := J3.but g4 (by omega))))
  refine bodyPost_ret (res_ctx Tryd.results13 (by rfl) (by rfl) J4 T4 Tryd.underlying27 rfl Tryd.underlying31 rfl sizeNtp (by rfl) sizeTk (by rfl) (by rfl)) rfl ?_
  exact ⟨rfl, ((b1.trans (b2.mono (by omega))).trans (g3.below (by omega) (Nat.le_refl _))).trans (g4.below (by omega) (by omega))⟩
set_option maxRecDepth 100000 in
set_option maxHeartbeats 8000000 in
theorem rgopen_err (bj : Nat) (A : Option Addr) (n c : Nat) (b : List Int) (w : World) (hn : b.length = n) (h : Bs w 0 w.heap.size A b) (hnc : n ≤ c) (hc : c ≤ 9223372036854775807) (hm : n ≤ 1000000) (hE : spE b ≠ 0) :
    Calls Tryd.prog 13 #[.pointer (some ⟨bj, 0, none⟩), .slice A n c] w fun e w' => e = .returned (.tuple #[ntp0, .agg (tktL none 0 0 0 0 0 0).toArray, .int .i64 (spE b)]) ∧ Below w.heap.size w w' := by
  have hS := fun W hB => rread_err A n c b W hn hB hnc hc hm hE
  have hE' : (spE b != 0) = true := by simpa using hE
  generalize spE b = E at hS hE' ⊢
  clear hE
  go_enter Tryd.func13, Tryd.ntmps13
  go_wp2_with (first
    | ((refine wpl_alloc (by rfl) 27 (by rfl) (.agg (zN).toArray) (zN) zeroNtp rfl ?_; intro w4 P4 s4 b4); (have J4 := J3.below b4 J3.lt); (have T4 := T3.below b4 T3.lt); (have B4 := B3.trans (b4.mono B3.size)))
    | (refine wpl_alloc (by rfl) 27 (by rfl) (.agg (zN).toArray) (zN) zeroNtp rfl ?_; intro w1 J1 s1 b1)
    | ((refine wpl_alloc (by rfl) 31 (by rfl) (.agg (tktL none 0 0 0 0 0 0).toArray) (tktL none 0 0 0 0 0 0) zeroTk rfl ?_; intro w2 T2 s2 b2); (have J2 := J1.below b2 (by omega)); (have B2 := b1.trans (b2.mono (by omega))))
    | (go_at_call 35; ((with_reducible refine (hS _ ((h.below B2 (Nat.le_refl _)).wide (Nat.le_refl _) B2.size)).mono ?_); rintro e w3 ⟨rfl, b3⟩; (have J3 := J2.below b3 J2.lt); (have T3 := T2.below b3 T2.lt); (have B3 := B2.trans (b3.mono B2.size)); (have z3 := b3.size)))
    | ((refine wpl_store (by rfl) 27 _ _ (by rfl) w3.heap.size (by rfl) _ (by rfl) _ rfl 27 _ P4 (by rfl) _ sizeNtp (by rfl) (by simp [Value.oneCell']) ?_; intro w5 P5 s5 g5); (have J5 := J4.but g5 (Nat.ne_of_lt J3.lt)); (have T5 := T4.but g5 (Nat.ne_of_lt T3.lt)); (have B5 := B4.trans (g5.below B4.size B3.size)))
    | ((refine wpl_store (by rfl) 27 _ _ (by rfl) w.heap.size (by rfl) _ (by rfl) _ rfl 27 _ J5 (by rfl) _ sizeNtp (by rfl) (by simp [Value.oneCell']) ?_; intro w6 J6 s6 g6); (have T6 := T5.but g6 (by omega)); (have B6 := B5.trans (g6.below B5.size (Nat.le_refl _))))
    | ((refine wpl_store (by rfl) 31 _ _ (by rfl) w1.heap.size (by rfl) _ (by rfl) _ rfl 31 _ T6 (by rfl) _ sizeTk (by rfl) (by simp [Value.oneCell']) ?_; intro w7 T7 s7 g7); (have J7 := J6.but g7 (by omega)); (have B7 := B6.trans (g7.below B6.size (by omega)))))
  refine bodyPost_ret (res_ctx Tryd.results13 (by rfl) (by rfl) J7 T7 Tryd.underlying27 rfl Tryd.underlying31 rfl sizeNtp (by rfl) sizeTk (by rfl) (by rfl)) rfl ?_
  exact ⟨rfl, B7⟩
set_option maxRecDepth 100000 in
set_option maxHeartbeats 8000000 in
theorem rgopen_form (bj : Nat) (s kk g : Int) (A : Option Addr) (n c : Nat) (b : List Int) (w : World) (hJ : Blk w bj 89 (jarL s kk g)) (hs : U64 s) (hg : Gn g) (hkk : 1 ≤ kk ∧ kk ≤ 8) (hn : b.length = n) (h : Bs w 0 w.heap.size A b) (hnc : n ≤ c) (hc : c ≤ 9223372036854775807) (hm : n ≤ 1000000) (hE : spE b = 0) (l v m st po pr rd rp id ref org rec xmt : Int) (hV : dcV b = ntp l v m st po pr rd rp id ref org rec xmt) (hT : (spC b).length ≠ 52) :
    Calls Tryd.prog 13 #[.pointer (some ⟨bj, 0, none⟩), .slice A n c] w fun e w' => e = .returned (.tuple #[ntp0, .agg (tktL none 0 0 0 0 0 0).toArray, .int .i64 7]) ∧ Below w.heap.size w w' := by
  have hS := fun W hB => rread_ok A n c b W hn hB hnc hc hm hE l v m st po pr rd rp id ref org rec xmt hV
  obtain ⟨hI16, hA12, h12⟩ : (spI b).length = 16 ∧ (spA b).length = 12 ∧ 12 ≤ n := by
    rcases spE_cases b with ⟨h1, h2⟩ | ⟨h1, h2, h3⟩ | ⟨h1, h2, h3, h4⟩ | ⟨h1, h2, h3, h4, h5⟩
    · exact absurd (h2.symm.trans hE) h1
    · exact absurd (h3.symm.trans hE) h2
    · rw [h4] at hE; cases hE
    · exact ⟨h4, h3, by have := (spA_n h.byt hn h1 h2 h3).1; omega⟩
  have hsz : ∀ q, (dtL (spL b) q).length ≤ 256 := fun q => dt_small (by unfold dcR; split; exact h.byt.drop _; exact Byt.nil)
  have hP := fun k0 k1 A4 c4 W hk0 hk1 hB h4 hc4 hcc4 => rtagged_any A4 c4 (spA b) A n c b k0 k1 W hn h12 hB hnc hc hm hA12 h4 hc4 hcc4 hk0 hk1
  have hFi := fun W A c N hN hX hc hcc => rfind_u A c (spL b) N 516 W hN hX hc hcc (fun q _ => Nat.le_trans (hsz q) (by omega))
  have hO := fun W A N c hN hB hc hcc hJ => ropen_any bj s kk g A N c (spC b) W hN hB hc hcc hs hg hkk hJ
  clear hP hO
  generalize hCC : spC b = CC at *
  obtain ⟨N9, hN9⟩ : ∃ N, CC.length = N := ⟨_, rfl⟩
  have hFi' : ∀ (W : World) (A : Option Addr) (c N : Nat), (spL b).length = N → Xs W W.heap.size A (spL b) → N ≤ c → c ≤ 9223372036854775807 → Calls Tryd.prog 36 #[.slice A N c, .int .i64 516] W fun e w' => ∃ A' c', e = .returned (.tuple #[.slice A' N9 c', .bool (fdB (spL b) 516)]) ∧ Ow w' W.heap.size A' c' CC ∧ Below W.heap.size W w' := fun W A c N h1 h2 h3 h4 => (hFi W A c N h1 h2 h3 h4).mono fun e w' ⟨A1, c1, n1, e1, e2, e3⟩ => by
    have hx : fdD (spL b) 516 = CC := hCC
    rw [hx] at e2 e3
    obtain rfl : N9 = n1 := hN9.symm.trans e2
    exact ⟨A1, c1, e1, e3⟩
  clear hFi
  have hFi := hFi'
  clear hFi'
  generalize fdB (spL b) 516 = IB at hFi
  generalize spL b = L at hS hFi hsz
  rw [hN9] at hT
  have d9 : ((N9 : Int) != 52) = true := by simp; omega
  clear hE hV hT hCC hN9
  go_enter Tryd.func13, Tryd.ntmps13
  go_wp2_with (first
    | ((refine wpl_alloc (by rfl) 27 (by rfl) (.agg (zN).toArray) (zN) zeroNtp rfl ?_; intro w4 P4' s4 b4); (have J4 := J3.below b4 J3.lt); (have T4 := T3.below b4 T3.lt); (have B4 := B3.trans (b4.mono B3.size)))
    | (refine wpl_alloc (by rfl) 27 (by rfl) (.agg (zN).toArray) (zN) zeroNtp rfl ?_; intro w1 J1 s1 b1)
    | ((refine wpl_alloc (by rfl) 31 (by rfl) (.agg (tktL none 0 0 0 0 0 0).toArray) (tktL none 0 0 0 0 0 0) zeroTk rfl ?_; intro w2 T2 s2 b2); (have J2 := J1.below b2 (by omega)); (have B2 := b1.trans (b2.mono (by omega))))
    | (go_at_call 35; ((with_reducible refine (hS _ ((h.below B2 (Nat.le_refl _)).wide (Nat.le_refl _) B2.size)).mono ?_); rintro e w3 ⟨P1, p1, q1, P2, q2, P4, q4, rfl, hL1, X3, OI3, OA3, b3⟩; (have J3 := J2.below b3 J2.lt); (have T3 := T2.below b3 T2.lt); (have B3 := B2.trans (b3.mono B2.size)); (have z3 := b3.size)))
    | ((refine wpl_store (by rfl) 27 _ _ (by rfl) w3.heap.size (by rfl) _ (by rfl) _ rfl 27 _ P4' (by rfl) _ sizeNtp (by rfl) (by simp [Value.oneCell']) ?_; intro w5 P5 s5 g5); (have J5 := J4.but g5 (Nat.ne_of_lt J3.lt)); (have T5 := T4.but g5 (Nat.ne_of_lt T3.lt)); (have B5 := B4.trans (g5.below B4.size B3.size)); (have B35 : Below w3.heap.size w3 w5 := b4.trans (But.below (g := w3.heap.size) g5 (Nat.le_of_lt s4) (Nat.le_refl _))); (have X5 := X3.below B35 (Nat.le_refl _)); (have OI5 := OI3.below B35 (Nat.le_refl _)); (have OA5 := OA3.below B35 (Nat.le_refl _)); (have hp := X5.cap); rw [hL1] at hp)
    | (go_at_call 36; ((with_reducible refine (hFi _ _ _ _ hL1 X5.xs hp.1 hp.2.1).mono ?_); rintro e w6 ⟨A6, c6, rfl, O6, b6⟩; (have J6 := J5.below b6 J5.lt); (have T6 := T5.below b6 T5.lt); (have P6 := P5.below b6 P5.lt); (have B6 := B5.trans (b6.mono B5.size)); (have OI6 := OI5.below b6 (Nat.le_refl _)); (have OA6 := OA5.below b6 (Nat.le_refl _))))
    | ((refine wpl_store (by rfl) 27 _ _ (by rfl) w.heap.size (by rfl) _ (by rfl) _ rfl 27 _ J6 (by rfl) _ sizeNtp (by rfl) (by simp [Value.oneCell']) ?_; intro w7 J7 s7 g7); (have T7 := T6.but g7 (by omega)); (have B7 := B6.trans (g7.below B6.size (Nat.le_refl _))))
    | ((refine wpl_store (by rfl) 31 _ _ (by rfl) w1.heap.size (by rfl) _ (by rfl) _ rfl 31 _ T7 (by rfl) _ sizeTk (by rfl) (by simp [Value.oneCell']) ?_; intro w8 T8 s8 g8); (have J8 := J7.but g8 (by omega)); (have B8 := B7.trans (g8.below B7.size (by omega)))))
  refine bodyPost_ret (res_ctx Tryd.results13 (by rfl) (by rfl) J8 T8 Tryd.underlying27 rfl Tryd.underlying31 rfl sizeNtp (by rfl) sizeTk (by rfl) (by rfl)) rfl ?_
  exact ⟨rfl, B8⟩
set_option maxRecDepth 100000 in
set_option maxHeartbeats 8000000 in
theorem rgopen_bad (bj : Nat) (s kk g : Int) (A : Option Addr) (n c : Nat) (b : List Int) (w : World) (hJ : Blk w bj 89 (jarL s kk g)) (hs : U64 s) (hg : Gn g) (hkk : 1 ≤ kk ∧ kk ≤ 8) (hn : b.length = n) (h : Bs w 0 w.heap.size A b) (hnc : n ≤ c) (hc : c ≤ 9223372036854775807) (hm : n ≤ 1000000) (hE : spE b = 0) (l v m st po pr rd rp id ref org rec xmt : Int) (hV : dcV b = ntp l v m st po pr rd rp id ref org rec xmt) (hT : (spC b).length = 52) (hO1 : opE s kk g (spC b) ≠ 0) :
    Calls Tryd.prog 13 #[.pointer (some ⟨bj, 0, none⟩), .slice A n c] w fun e w' => e = .returned (.tuple #[ntp0, .agg (tktL none 0 0 0 0 0 0).toArray, .int .i64 (opE s kk g (spC b))]) ∧ Below w.heap.size w w' := by
  have hS := fun W hB => rread_ok A n c b W hn hB hnc hc hm hE l v m st po pr rd rp id ref org rec xmt hV
  obtain ⟨hI16, hA12, h12⟩ : (spI b).length = 16 ∧ (spA b).length = 12 ∧ 12 ≤ n := by
    rcases spE_cases b with ⟨h1, h2⟩ | ⟨h1, h2, h3⟩ | ⟨h1, h2, h3, h4⟩ | ⟨h1, h2, h3, h4, h5⟩
    · exact absurd (h2.symm.trans hE) h1
    · exact absurd (h3.symm.trans hE) h2
    · rw [h4] at hE; cases hE
    · exact ⟨h4, h3, by have := (spA_n h.byt hn h1 h2 h3).1; omega⟩
  have hsz : ∀ q, (dtL (spL b) q).length ≤ 256 := fun q => dt_small (by unfold dcR; split; exact h.byt.drop _; exact Byt.nil)
  have hP := fun k0 k1 A4 c4 W hk0 hk1 hB h4 hc4 hcc4 => rtagged_any A4 c4 (spA b) A n c b k0 k1 W hn h12 hB hnc hc hm hA12 h4 hc4 hcc4 hk0 hk1
  have hFi := fun W A c N hN hX hc hcc => rfind_u A c (spL b) N 516 W hN hX hc hcc (fun q _ => Nat.le_trans (hsz q) (by omega))
  have hO := fun W A N c hN hB hc hcc hJ => ropen_any bj s kk g A N c (spC b) W hN hB hc hcc hs hg hkk hJ
  rw [opV_err rfl hO1] at hO
  generalize hOE : opE s kk g (spC b) = OE at hO hO1 ⊢
  have hOE' : (OE != 0) = true := by simpa using hO1
  clear hP
  generalize hCC : spC b = CC at *
  obtain ⟨N9, hN9⟩ : ∃ N, CC.length = N := ⟨_, rfl⟩
  have hFi' : ∀ (W : World) (A : Option Addr) (c N : Nat), (spL b).length = N → Xs W W.heap.size A (spL b) → N ≤ c → c ≤ 9223372036854775807 → Calls Tryd.prog 36 #[.slice A N c, .int .i64 516] W fun e w' => ∃ A' c', e = .returned (.tuple #[.slice A' N9 c', .bool (fdB (spL b) 516)]) ∧ Ow w' W.heap.size A' c' CC ∧ Below W.heap.size W w' := fun W A c N h1 h2 h3 h4 => (hFi W A c N h1 h2 h3 h4).mono fun e w' ⟨A1, c1, n1, e1, e2, e3⟩ => by
    have hx : fdD (spL b) 516 = CC := hCC
    rw [hx] at e2 e3
    obtain rfl : N9 = n1 := hN9.symm.trans e2
    exact ⟨A1, c1, e1, e3⟩
  clear hFi
  have hFi := hFi'
  clear hFi'
  generalize fdB (spL b) 516 = IB at hFi
  generalize spL b = L at hS hFi hsz
  obtain rfl : N9 = 52 := hN9.symm.trans hT
  clear hE hV hOE hO1 hT hCC
  go_enter Tryd.func13, Tryd.ntmps13
  go_wp2_with (first
    | ((refine wpl_alloc (by rfl) 27 (by rfl) (.agg (zN).toArray) (zN) zeroNtp rfl ?_; intro w4 P4' s4 b4); (have J4 := J3.below b4 J3.lt); (have T4 := T3.below b4 T3.lt); (have B4 := B3.trans (b4.mono B3.size)))
    | (refine wpl_alloc (by rfl) 27 (by rfl) (.agg (zN).toArray) (zN) zeroNtp rfl ?_; intro w1 J1 s1 b1)
    | ((refine wpl_alloc (by rfl) 31 (by rfl) (.agg (tktL none 0 0 0 0 0 0).toArray) (tktL none 0 0 0 0 0 0) zeroTk rfl ?_; intro w2 T2 s2 b2); (have J2 := J1.below b2 (by omega)); (have B2 := b1.trans (b2.mono (by omega))))
    | (go_at_call 35; ((with_reducible refine (hS _ ((h.below B2 (Nat.le_refl _)).wide (Nat.le_refl _) B2.size)).mono ?_); rintro e w3 ⟨P1, p1, q1, P2, q2, P4, q4, rfl, hL1, X3, OI3, OA3, b3⟩; (have J3 := J2.below b3 J2.lt); (have T3 := T2.below b3 T2.lt); (have B3 := B2.trans (b3.mono B2.size)); (have z3 := b3.size)))
    | ((refine wpl_store (by rfl) 27 _ _ (by rfl) w3.heap.size (by rfl) _ (by rfl) _ rfl 27 _ P4' (by rfl) _ sizeNtp (by rfl) (by simp [Value.oneCell']) ?_; intro w5 P5 s5 g5); (have J5 := J4.but g5 (Nat.ne_of_lt J3.lt)); (have T5 := T4.but g5 (Nat.ne_of_lt T3.lt)); (have B5 := B4.trans (g5.below B4.size B3.size)); (have B35 : Below w3.heap.size w3 w5 := b4.trans (But.below (g := w3.heap.size) g5 (Nat.le_of_lt s4) (Nat.le_refl _))); (have X5 := X3.below B35 (Nat.le_refl _)); (have OI5 := OI3.below B35 (Nat.le_refl _)); (have OA5 := OA3.below B35 (Nat.le_refl _)); (have hp := X5.cap); rw [hL1] at hp)
    | (go_at_call 36; ((with_reducible refine (hFi _ _ _ _ hL1 X5.xs hp.1 hp.2.1).mono ?_); rintro e w6 ⟨A6, c6, rfl, O6, b6⟩; (have J6 := J5.below b6 J5.lt); (have T6 := T5.below b6 T5.lt); (have P6 := P5.below b6 P5.lt); (have B6 := B5.trans (b6.mono B5.size)); (have OI6 := OI5.below b6 (Nat.le_refl _)); (have OA6 := OA5.below b6 (Nat.le_refl _))))
    | (go_at_call 37; ((with_reducible refine (hO _ _ _ _ hN9 (O6.bs.wide (Nat.zero_le _) (Nat.le_refl _)) (by have := O6.cap_le; omega) O6.cap_max (hJ.below B6 hJ.lt)).mono ?_); rintro e w7 ⟨rfl, b7⟩; (have J7 := J6.below b7 J6.lt); (have T7 := T6.below b7 T6.lt); (have P7 := P6.below b7 P6.lt); (have B7 := B6.trans (b7.mono B6.size)); (have OI7 := OI6.below b7 (Nat.le_refl _)); (have OA7 := OA6.below b7 (Nat.le_refl _))))
    | ((refine wpl_alloc (by rfl) 29 (by rfl) (.agg (keyL 0 0).toArray) (keyL 0 0) zeroKey rfl ?_; intro w9 U9 s9 b9); (have J9 := J8.below b9 J8.lt); (have T9 := T8.below b9 T8.lt); (have P9 := P8.below b9 P8.lt); (have U8' := U8.below b9 U8.lt); (have B9 := B8.trans (b9.mono B8.size)))
    | ((refine wpl_alloc (by rfl) 29 (by rfl) (.agg (keyL 0 0).toArray) (keyL 0 0) zeroKey rfl ?_; intro w8 U8 s8 b8); (have J8 := J7.below b8 J7.lt); (have T8 := T7.below b8 T7.lt); (have P8 := P7.below b8 P7.lt); (have B8 := B7.trans (b8.mono B7.size)))
    | (refine wpl_store (by rfl) 29 _ _ (by rfl) w7.heap.size (by rfl) _ (by rfl) (keyL 0 0) rfl 29 _ U8' (by rfl) _ sizeKey (by rfl) (by simp [Value.oneCell']) ?_; intro w10 U10 s10 g10; (have J10 := J9.but g10 (Nat.ne_of_lt J7.lt)); (have T10 := T9.but g10 (Nat.ne_of_lt T7.lt)); (have P10 := P9.but g10 (Nat.ne_of_lt P7.lt)); (have V10 := U9.but g10 (Nat.ne_of_gt U8.lt)); (have B10 := B9.trans (g10.below B9.size B7.size)))
    | (refine wpl_store (by rfl) 29 _ _ (by rfl) w8.heap.size (by rfl) _ (by rfl) (keyL 0 0) rfl 29 _ V10 (by rfl) _ sizeKey (by rfl) (by simp [Value.oneCell']) ?_; intro w11 V11 s11 g11; (have J11 := J10.but g11 (Nat.ne_of_lt J8.lt)); (have T11 := T10.but g11 (Nat.ne_of_lt T8.lt)); (have P11 := P10.but g11 (Nat.ne_of_lt P8.lt)); (have U11 := U10.but g11 (Nat.ne_of_lt U8.lt)); (have B11 := B10.trans (g11.below B10.size B8.size)); (have B711 : Below w7.heap.size w7 w11 := ((b8.trans (b9.mono b8.size)).trans (But.below (g := w7.heap.size) g10 (Nat.le_trans b8.size b9.size) (Nat.le_refl _))).trans (But.below (g := w8.heap.size) g11 (Nat.le_trans (Nat.le_trans b8.size b9.size) s10) b8.size)); (have OA11 := OA7.below B711 (Nat.le_refl _)); (have OI11 := OI7.below B711 (Nat.le_refl _)))
    | ((refine wpl_store (by rfl) 27 _ _ (by rfl) w.heap.size (by rfl) _ (by rfl) _ rfl 27 _ J11 (by rfl) _ sizeNtp (by rfl) (by simp [Value.oneCell']) ?_; intro w12 J12 s12 g12); (have T12 := T11.but g12 (by omega)); (have B12 := B11.trans (g12.below B11.size (Nat.le_refl _))))
    | ((refine wpl_store (by rfl) 31 _ _ (by rfl) w1.heap.size (by rfl) _ (by rfl) _ rfl 31 _ T12 (by rfl) _ sizeTk (by rfl) (by simp [Value.oneCell']) ?_; intro w13 T13 s13 g13); (have J13 := J12.but g13 (by omega)); (have B13 := B12.trans (g13.below B12.size (by omega)))))
  refine bodyPost_ret (res_ctx Tryd.results13 (by rfl) (by rfl) J13 T13 Tryd.underlying27 rfl Tryd.underlying31 rfl sizeNtp (by rfl) sizeTk (by rfl) (by rfl)) rfl ?_
  exact ⟨rfl, B13⟩
set_option maxRecDepth 100000 in
set_option maxHeartbeats 8000000 in
theorem rgopen_tag (bj : Nat) (s kk g : Int) (A : Option Addr) (n c : Nat) (b : List Int) (w : World) (hJ : Blk w bj 89 (jarL s kk g)) (hs : U64 s) (hg : Gn g) (hkk : 1 ≤ kk ∧ kk ≤ 8) (hn : b.length = n) (h : Bs w 0 w.heap.size A b) (hnc : n ≤ c) (hc : c ≤ 9223372036854775807) (hm : n ≤ 1000000) (hE : spE b = 0) (l v m st po pr rd rp id ref org rec xmt : Int) (hV : dcV b = ntp l v m st po pr rd rp id ref org rec xmt) (hT : (spC b).length = 52) (hO1 : opE s kk g (spC b) = 0) (hPV : prvB (opK s kk g (spC b) 0) (opK s kk g (spC b) 1) (spB b) (spA b) = false) :
    Calls Tryd.prog 13 #[.pointer (some ⟨bj, 0, none⟩), .slice A n c] w fun e w' => e = .returned (.tuple #[ntp0, .agg (tktL none 0 0 0 0 0 0).toArray, .int .i64 16]) ∧ Below w.heap.size w w' := by
  have hS := fun W hB => rread_ok A n c b W hn hB hnc hc hm hE l v m st po pr rd rp id ref org rec xmt hV
  obtain ⟨hI16, hA12, h12⟩ : (spI b).length = 16 ∧ (spA b).length = 12 ∧ 12 ≤ n := by
    rcases spE_cases b with ⟨h1, h2⟩ | ⟨h1, h2, h3⟩ | ⟨h1, h2, h3, h4⟩ | ⟨h1, h2, h3, h4, h5⟩
    · exact absurd (h2.symm.trans hE) h1
    · exact absurd (h3.symm.trans hE) h2
    · rw [h4] at hE; cases hE
    · exact ⟨h4, h3, by have := (spA_n h.byt hn h1 h2 h3).1; omega⟩
  have hsz : ∀ q, (dtL (spL b) q).length ≤ 256 := fun q => dt_small (by unfold dcR; split; exact h.byt.drop _; exact Byt.nil)
  have hP := fun k0 k1 A4 c4 W hk0 hk1 hB h4 hc4 hcc4 => rtagged_any A4 c4 (spA b) A n c b k0 k1 W hn h12 hB hnc hc hm hA12 h4 hc4 hcc4 hk0 hk1
  have hFi := fun W A c N hN hX hc hcc => rfind_u A c (spL b) N 516 W hN hX hc hcc (fun q _ => Nat.le_trans (hsz q) (by omega))
  have hO := fun W A N c hN hB hc hcc hJ => ropen_any bj s kk g A N c (spC b) W hN hB hc hcc hs hg hkk hJ
  rw [opV_val] at hO
  have u0 := opK_u64 s kk g (spC_byt h.byt) 0
  have u1 := opK_u64 s kk g (spC_byt h.byt) 1
  rw [hO1] at hO
  generalize hk0 : opK s kk g (spC b) 0 = a0 at *
  generalize hk1 : opK s kk g (spC b) 1 = a1 at *
  generalize hk2 : opK s kk g (spC b) 2 = a2 at *
  generalize hk3 : opK s kk g (spC b) 3 = a3 at *
  have hP' := fun A4 c4 W hB h4 hc4 hcc4 => hP a0 a1 A4 c4 W u0 u1 hB h4 hc4 hcc4
  clear hP
  generalize hCC : spC b = CC at *
  obtain ⟨N9, hN9⟩ : ∃ N, CC.length = N := ⟨_, rfl⟩
  have hFi' : ∀ (W : World) (A : Option Addr) (c N : Nat), (spL b).length = N → Xs W W.heap.size A (spL b) → N ≤ c → c ≤ 9223372036854775807 → Calls Tryd.prog 36 #[.slice A N c, .int .i64 516] W fun e w' => ∃ A' c', e = .returned (.tuple #[.slice A' N9 c', .bool (fdB (spL b) 516)]) ∧ Ow w' W.heap.size A' c' CC ∧ Below W.heap.size W w' := fun W A c N h1 h2 h3 h4 => (hFi W A c N h1 h2 h3 h4).mono fun e w' ⟨A1, c1, n1, e1, e2, e3⟩ => by
    have hx : fdD (spL b) 516 = CC := hCC
    rw [hx] at e2 e3
    obtain rfl : N9 = n1 := hN9.symm.trans e2
    exact ⟨A1, c1, e1, e3⟩
  clear hFi
  have hFi := hFi'
  clear hFi'
  generalize fdB (spL b) 516 = IB at hFi
  generalize spL b = L at hS hFi hsz
  obtain rfl : N9 = 52 := hN9.symm.trans hT
  clear hE hV hO1 hT hCC hk0 hk1 hk2 hk3 hn
  rw [hPV] at hP'
  clear hPV
  have HA := Lib.hid hA12
  clear hA12 hI16
  go_enter Tryd.func13, Tryd.ntmps13
  go_wp2_with (first
    | ((refine wpl_alloc (by rfl) 27 (by rfl) (.agg (zN).toArray) (zN) zeroNtp rfl ?_; intro w4 P4' s4 b4); (have J4 := J3.below b4 J3.lt); (have T4 := T3.below b4 T3.lt); (have B4 := B3.trans (b4.mono B3.size)))
    | (refine wpl_alloc (by rfl) 27 (by rfl) (.agg (zN).toArray) (zN) zeroNtp rfl ?_; intro w1 J1 s1 b1)
    | ((refine wpl_alloc (by rfl) 31 (by rfl) (.agg (tktL none 0 0 0 0 0 0).toArray) (tktL none 0 0 0 0 0 0) zeroTk rfl ?_; intro w2 T2 s2 b2); (have J2 := J1.below b2 (by omega)); (have B2 := b1.trans (b2.mono (by omega))))
    | (go_at_call 35; ((with_reducible refine (hS _ ((h.below B2 (Nat.le_refl _)).wide (Nat.le_refl _) B2.size)).mono ?_); rintro e w3 ⟨P1, p1, q1, P2, q2, P4, q4, rfl, hL1, X3, OI3, OA3, b3⟩; (have J3 := J2.below b3 J2.lt); (have T3 := T2.below b3 T2.lt); (have B3 := B2.trans (b3.mono B2.size)); (have z3 := b3.size)))
    | ((refine wpl_store (by rfl) 27 _ _ (by rfl) w3.heap.size (by rfl) _ (by rfl) _ rfl 27 _ P4' (by rfl) _ sizeNtp (by rfl) (by simp [Value.oneCell']) ?_; intro w5 P5 s5 g5); (have J5 := J4.but g5 (Nat.ne_of_lt J3.lt)); (have T5 := T4.but g5 (Nat.ne_of_lt T3.lt)); (have B5 := B4.trans (g5.below B4.size B3.size)); (have B35 : Below w3.heap.size w3 w5 := b4.trans (But.below (g := w3.heap.size) g5 (Nat.le_of_lt s4) (Nat.le_refl _))); (have X5 := X3.below B35 (Nat.le_refl _)); (have OI5 := OI3.below B35 (Nat.le_refl _)); (have OA5 := OA3.below B35 (Nat.le_refl _)); (have hp := X5.cap); rw [hL1] at hp)
    | (go_at_call 36; ((with_reducible refine (hFi _ _ _ _ hL1 X5.xs hp.1 hp.2.1).mono ?_); rintro e w6 ⟨A6, c6, rfl, O6, b6⟩; (have J6 := J5.below b6 J5.lt); (have T6 := T5.below b6 T5.lt); (have P6 := P5.below b6 P5.lt); (have B6 := B5.trans (b6.mono B5.size)); (have OI6 := OI5.below b6 (Nat.le_refl _)); (have OA6 := OA5.below b6 (Nat.le_refl _))))
    | (go_at_call 37; ((with_reducible refine (hO _ _ _ _ hN9 (O6.bs.wide (Nat.zero_le _) (Nat.le_refl _)) (by have := O6.cap_le; omega) O6.cap_max (hJ.below B6 hJ.lt)).mono ?_); rintro e w7 ⟨rfl, b7⟩; (have J7 := J6.below b7 J6.lt); (have T7 := T6.below b7 T6.lt); (have P7 := P6.below b7 P6.lt); (have B7 := B6.trans (b7.mono B6.size)); (have OI7 := OI6.below b7 (Nat.le_refl _)); (have OA7 := OA6.below b7 (Nat.le_refl _))))
    | ((refine wpl_alloc (by rfl) 29 (by rfl) (.agg (keyL 0 0).toArray) (keyL 0 0) zeroKey rfl ?_; intro w9 U9 s9 b9); (have J9 := J8.below b9 J8.lt); (have T9 := T8.below b9 T8.lt); (have P9 := P8.below b9 P8.lt); (have U8' := U8.below b9 U8.lt); (have B9 := B8.trans (b9.mono B8.size)))
    | ((refine wpl_alloc (by rfl) 29 (by rfl) (.agg (keyL 0 0).toArray) (keyL 0 0) zeroKey rfl ?_; intro w8 U8 s8 b8); (have J8 := J7.below b8 J7.lt); (have T8 := T7.below b8 T7.lt); (have P8 := P7.below b8 P7.lt); (have B8 := B7.trans (b8.mono B7.size)))
    | (refine wpl_store (by rfl) 29 _ _ (by rfl) w7.heap.size (by rfl) _ (by rfl) (keyL a0 a1) rfl 29 _ U8' (by rfl) _ sizeKey (by rfl) (by simp [Value.oneCell']) ?_; intro w10 U10 s10 g10; (have J10 := J9.but g10 (Nat.ne_of_lt J7.lt)); (have T10 := T9.but g10 (Nat.ne_of_lt T7.lt)); (have P10 := P9.but g10 (Nat.ne_of_lt P7.lt)); (have V10 := U9.but g10 (Nat.ne_of_gt U8.lt)); (have B10 := B9.trans (g10.below B9.size B7.size)))
    | (refine wpl_store (by rfl) 29 _ _ (by rfl) w8.heap.size (by rfl) _ (by rfl) (keyL a2 a3) rfl 29 _ V10 (by rfl) _ sizeKey (by rfl) (by simp [Value.oneCell']) ?_; intro w11 V11 s11 g11; (have J11 := J10.but g11 (Nat.ne_of_lt J8.lt)); (have T11 := T10.but g11 (Nat.ne_of_lt T8.lt)); (have P11 := P10.but g11 (Nat.ne_of_lt P8.lt)); (have U11 := U10.but g11 (Nat.ne_of_lt U8.lt)); (have B11 := B10.trans (g11.below B10.size B8.size)); (have B711 : Below w7.heap.size w7 w11 := ((b8.trans (b9.mono b8.size)).trans (But.below (g := w7.heap.size) g10 (Nat.le_trans b8.size b9.size) (Nat.le_refl _))).trans (But.below (g := w8.heap.size) g11 (Nat.le_trans (Nat.le_trans b8.size b9.size) s10) b8.size)); (have OA11 := OA7.below B711 (Nat.le_refl _)); (have OI11 := OI7.below B711 (Nat.le_refl _)))
    | (refine wpl_load (by rfl) 29 _ (by rfl) w7.heap.size (by rfl) 29 _ U11 _ Tryd.underlying29 rfl _ sizeKey (by rfl) ?_)
    | (go_at_call 38; ((with_reducible refine (hP' _ _ _ ((h.below B11 (Nat.le_refl _)).wide (Nat.le_refl _) B11.size) (OA11.bs.wide (Nat.zero_le _) (Nat.le_refl _)) (by have := OA11.cap_le; rw [HA.out] at this; exact this) OA11.cap_max).mono ?_); rintro e w12 ⟨rfl, b12⟩; (have J12 := J11.below b12 J11.lt); (have T12 := T11.below b12 T11.lt); (have B12 := B11.trans (b12.mono B11.size))))
    | ((refine wpl_store (by rfl) 27 _ _ (by rfl) w.heap.size (by rfl) _ (by rfl) _ rfl 27 _ J12 (by rfl) _ sizeNtp (by rfl) (by simp [Value.oneCell']) ?_; intro w13 J13 s13 g13); (have T13 := T12.but g13 (by omega)); (have B13 := B12.trans (g13.below B12.size (Nat.le_refl _))))
    | ((refine wpl_store (by rfl) 31 _ _ (by rfl) w1.heap.size (by rfl) _ (by rfl) _ rfl 31 _ T13 (by rfl) _ sizeTk (by rfl) (by simp [Value.oneCell']) ?_; intro w14 T14 s14 g14); (have J14 := J13.but g14 (by omega)); (have B14 := B13.trans (g14.below B13.size (by omega)))))
  refine bodyPost_ret (res_ctx Tryd.results13 (by rfl) (by rfl) J14 T14 Tryd.underlying27 rfl Tryd.underlying31 rfl sizeNtp (by rfl) sizeTk (by rfl) (by rfl)) rfl ?_
  exact ⟨rfl, B14⟩
set_option maxRecDepth 100000 in
set_option maxHeartbeats 16000000 in
theorem rgopen_ok (bj : Nat) (s kk g : Int) (A : Option Addr) (n c : Nat) (b : List Int) (w : World) (hJ : Blk w bj 89 (jarL s kk g)) (hs : U64 s) (hg : Gn g) (hkk : 1 ≤ kk ∧ kk ≤ 8) (hn : b.length = n) (h : Bs w 0 w.heap.size A b) (hnc : n ≤ c) (hc : c ≤ 9223372036854775807) (hm : n ≤ 1000000) (hE : spE b = 0) (l v m st po pr rd rp id ref org rec xmt : Int) (hV : dcV b = ntp l v m st po pr rd rp id ref org rec xmt) (hT : (spC b).length = 52) (hO1 : opE s kk g (spC b) = 0) (hPV : prvB (opK s kk g (spC b) 0) (opK s kk g (spC b) 1) (spB b) (spA b) = true) :
    Calls Tryd.prog 13 #[.pointer (some ⟨bj, 0, none⟩), .slice A n c] w fun e w' => ∃ A' c', e = .returned (.tuple #[ntp l v m st po pr rd rp id ref org rec xmt, .agg (tktL A' 16 c' (opK s kk g (spC b) 0) (opK s kk g (spC b) 1) (opK s kk g (spC b) 2) (opK s kk g (spC b) 3)).toArray, .int .i64 0]) ∧ Ow w' w.heap.size A' c' (spI b) ∧ Below w.heap.size w w' := by
  have hS := fun W hB => rread_ok A n c b W hn hB hnc hc hm hE l v m st po pr rd rp id ref org rec xmt hV
  obtain ⟨hI16, hA12, h12⟩ : (spI b).length = 16 ∧ (spA b).length = 12 ∧ 12 ≤ n := by
    rcases spE_cases b with ⟨h1, h2⟩ | ⟨h1, h2, h3⟩ | ⟨h1, h2, h3, h4⟩ | ⟨h1, h2, h3, h4, h5⟩
    · exact absurd (h2.symm.trans hE) h1
    · exact absurd (h3.symm.trans hE) h2
    · rw [h4] at hE; cases hE
    · exact ⟨h4, h3, by have := (spA_n h.byt hn h1 h2 h3).1; omega⟩
  have hsz : ∀ q, (dtL (spL b) q).length ≤ 256 := fun q => dt_small (by unfold dcR; split; exact h.byt.drop _; exact Byt.nil)
  have hP := fun k0 k1 A4 c4 W hk0 hk1 hB h4 hc4 hcc4 => rtagged_any A4 c4 (spA b) A n c b k0 k1 W hn h12 hB hnc hc hm hA12 h4 hc4 hcc4 hk0 hk1
  have hFi := fun W A c N hN hX hc hcc => rfind_u A c (spL b) N 516 W hN hX hc hcc (fun q _ => Nat.le_trans (hsz q) (by omega))
  have hO := fun W A N c hN hB hc hcc hJ => ropen_any bj s kk g A N c (spC b) W hN hB hc hcc hs hg hkk hJ
  rw [opV_val] at hO
  have u0 := opK_u64 s kk g (spC_byt h.byt) 0
  have u1 := opK_u64 s kk g (spC_byt h.byt) 1
  rw [hO1] at hO
  generalize hk0 : opK s kk g (spC b) 0 = a0 at *
  generalize hk1 : opK s kk g (spC b) 1 = a1 at *
  generalize hk2 : opK s kk g (spC b) 2 = a2 at *
  generalize hk3 : opK s kk g (spC b) 3 = a3 at *
  have hP' := fun A4 c4 W hB h4 hc4 hcc4 => hP a0 a1 A4 c4 W u0 u1 hB h4 hc4 hcc4
  clear hP
  generalize hCC : spC b = CC at *
  obtain ⟨N9, hN9⟩ : ∃ N, CC.length = N := ⟨_, rfl⟩
  have hFi' : ∀ (W : World) (A : Option Addr) (c N : Nat), (spL b).length = N → Xs W W.heap.size A (spL b) → N ≤ c → c ≤ 9223372036854775807 → Calls Tryd.prog 36 #[.slice A N c, .int .i64 516] W fun e w' => ∃ A' c', e = .returned (.tuple #[.slice A' N9 c', .bool (fdB (spL b) 516)]) ∧ Ow w' W.heap.size A' c' CC ∧ Below W.heap.size W w' := fun W A c N h1 h2 h3 h4 => (hFi W A c N h1 h2 h3 h4).mono fun e w' ⟨A1, c1, n1, e1, e2, e3⟩ => by
    have hx : fdD (spL b) 516 = CC := hCC
    rw [hx] at e2 e3
    obtain rfl : N9 = n1 := hN9.symm.trans e2
    exact ⟨A1, c1, e1, e3⟩
  clear hFi
  have hFi := hFi'
  clear hFi'
  generalize fdB (spL b) 516 = IB at hFi
  generalize spL b = L at hS hFi hsz
  obtain rfl : N9 = 52 := hN9.symm.trans hT
  clear hE hV hO1 hT hCC hk0 hk1 hk2 hk3 hn
  rw [hPV] at hP'
  clear hPV
  have HA := Lib.hid hA12
  have HI := Lib.hid hI16
  clear hA12 hI16
  go_enter Tryd.func13, Tryd.ntmps13
  go_wp2_with (first
    | ((refine wpl_alloc (by rfl) 27 (by rfl) (.agg (zN).toArray) (zN) zeroNtp rfl ?_; intro w4 P4' s4 b4); (have J4 := J3.below b4 J3.lt); (have T4 := T3.below b4 T3.lt); (have B4 := B3.trans (b4.mono B3.size)))
    | (refine wpl_alloc (by rfl) 27 (by rfl) (.agg (zN).toArray) (zN) zeroNtp rfl ?_; intro w1 J1 s1 b1)
    | ((refine wpl_alloc (by rfl) 31 (by rfl) (.agg (tktL none 0 0 0 0 0 0).toArray) (tktL none 0 0 0 0 0 0) zeroTk rfl ?_; intro w2 T2 s2 b2); (have J2 := J1.below b2 (by omega)); (have B2 := b1.trans (b2.mono (by omega))))
    | (go_at_call 35; ((with_reducible refine (hS _ ((h.below B2 (Nat.le_refl _)).wide (Nat.le_refl _) B2.size)).mono ?_); rintro e w3 ⟨P1, p1, q1, P2, q2, P4, q4, rfl, hL1, X3, OI3, OA3, b3⟩; (have J3 := J2.below b3 J2.lt); (have T3 := T2.below b3 T2.lt); (have B3 := B2.trans (b3.mono B2.size)); (have z3 := b3.size)))
    | ((refine wpl_store (by rfl) 27 _ _ (by rfl) w3.heap.size (by rfl) _ (by rfl) _ rfl 27 _ P4' (by rfl) _ sizeNtp (by rfl) (by simp [Value.oneCell']) ?_; intro w5 P5 s5 g5); (have J5 := J4.but g5 (Nat.ne_of_lt J3.lt)); (have T5 := T4.but g5 (Nat.ne_of_lt T3.lt)); (have B5 := B4.trans (g5.below B4.size B3.size)); (have B35 : Below w3.heap.size w3 w5 := b4.trans (But.below (g := w3.heap.size) g5 (Nat.le_of_lt s4) (Nat.le_refl _))); (have X5 := X3.below B35 (Nat.le_refl _)); (have OI5 := OI3.below B35 (Nat.le_refl _)); (have OA5 := OA3.below B35 (Nat.le_refl _)); (have hp := X5.cap); rw [hL1] at hp)
    | (go_at_call 36; ((with_reducible refine (hFi _ _ _ _ hL1 X5.xs hp.1 hp.2.1).mono ?_); rintro e w6 ⟨A6, c6, rfl, O6, b6⟩; (have J6 := J5.below b6 J5.lt); (have T6 := T5.below b6 T5.lt); (have P6 := P5.below b6 P5.lt); (have B6 := B5.trans (b6.mono B5.size)); (have OI6 := OI5.below b6 (Nat.le_refl _)); (have OA6 := OA5.below b6 (Nat.le_refl _))))
    | (go_at_call 37; ((with_reducible refine (hO _ _ _ _ hN9 (O6.bs.wide (Nat.zero_le _) (Nat.le_refl _)) (by have := O6.cap_le; omega) O6.cap_max (hJ.below B6 hJ.lt)).mono ?_); rintro e w7 ⟨rfl, b7⟩; (have J7 := J6.below b7 J6.lt); (have T7 := T6.below b7 T6.lt); (have P7 := P6.below b7 P6.lt); (have B7 := B6.trans (b7.mono B6.size)); (have OI7 := OI6.below b7 (Nat.le_refl _)); (have OA7 := OA6.below b7 (Nat.le_refl _))))
    | ((refine wpl_alloc (by rfl) 29 (by rfl) (.agg (keyL 0 0).toArray) (keyL 0 0) zeroKey rfl ?_; intro w9 U9 s9 b9); (have J9 := J8.below b9 J8.lt); (have T9 := T8.below b9 T8.lt); (have P9 := P8.below b9 P8.lt); (have U8' := U8.below b9 U8.lt); (have B9 := B8.trans (b9.mono B8.size)))
    | ((refine wpl_alloc (by rfl) 29 (by rfl) (.agg (keyL 0 0).toArray) (keyL 0 0) zeroKey rfl ?_; intro w8 U8 s8 b8); (have J8 := J7.below b8 J7.lt); (have T8 := T7.below b8 T7.lt); (have P8 := P7.below b8 P7.lt); (have B8 := B7.trans (b8.mono B7.size)))
    | (refine wpl_store (by rfl) 29 _ _ (by rfl) w7.heap.size (by rfl) _ (by rfl) (keyL a0 a1) rfl 29 _ U8' (by rfl) _ sizeKey (by rfl) (by simp [Value.oneCell']) ?_; intro w10 U10 s10 g10; (have J10 := J9.but g10 (Nat.ne_of_lt J7.lt)); (have T10 := T9.but g10 (Nat.ne_of_lt T7.lt)); (have P10 := P9.but g10 (Nat.ne_of_lt P7.lt)); (have V10 := U9.but g10 (Nat.ne_of_gt U8.lt)); (have B10 := B9.trans (g10.below B9.size B7.size)))
    | (refine wpl_store (by rfl) 29 _ _ (by rfl) w8.heap.size (by rfl) _ (by rfl) (keyL a2 a3) rfl 29 _ V10 (by rfl) _ sizeKey (by rfl) (by simp [Value.oneCell']) ?_; intro w11 V11 s11 g11; (have J11 := J10.but g11 (Nat.ne_of_lt J8.lt)); (have T11 := T10.but g11 (Nat.ne_of_lt T8.lt)); (have P11 := P10.but g11 (Nat.ne_of_lt P8.lt)); (have U11 := U10.but g11 (Nat.ne_of_lt U8.lt)); (have B11 := B10.trans (g11.below B10.size B8.size)); (have B711 : Below w7.heap.size w7 w11 := ((b8.trans (b9.mono b8.size)).trans (But.below (g := w7.heap.size) g10 (Nat.le_trans b8.size b9.size) (Nat.le_refl _))).trans (But.below (g := w8.heap.size) g11 (Nat.le_trans (Nat.le_trans b8.size b9.size) s10) b8.size)); (have OA11 := OA7.below B711 (Nat.le_refl _)); (have OI11 := OI7.below B711 (Nat.le_refl _)))
    | (refine wpl_load (by rfl) 29 _ (by rfl) w7.heap.size (by rfl) 29 _ U11 _ Tryd.underlying29 rfl _ sizeKey (by rfl) ?_)
    | (go_at_call 38; ((with_reducible refine (hP' _ _ _ ((h.below B11 (Nat.le_refl _)).wide (Nat.le_refl _) B11.size) (OA11.bs.wide (Nat.zero_le _) (Nat.le_refl _)) (by have := OA11.cap_le; rw [HA.out] at this; exact this) OA11.cap_max).mono ?_); rintro e w12 ⟨rfl, b12⟩; (have J12 := J11.below b12 J11.lt); (have T12 := T11.below b12 T11.lt); (have B12 := B11.trans (b12.mono B11.size)))))
  have P12 := P11.below b12 P11.lt
  have U12 := U11.below b12 U11.lt
  have V12 := V11.below b12 V11.lt
  have OI12 := OI11.below b12 (Nat.le_refl _)
  have z3' : w.heap.size < w1.heap.size := s1
  have z13 : w1.heap.size < w3.heap.size := by omega
  have z37 : w3.heap.size < w7.heap.size := P7.lt
  have z78 : w7.heap.size < w8.heap.size := U8.lt
  have z812 : w8.heap.size < w12.heap.size := V12.lt
  have hz2 : w1.heap.size < w2.heap.size := s2
  have hz23 : w2.heap.size ≤ w3.heap.size := z3
  have hI3 := OI12
  clear J1 J2 J3 J4 J5 J6 J7 J8 J9 J10 J11 T2 T3 T4 T5 T6 T7 T8 T9 T10 T11 P5 P6 P7 P8 P9 P10 P11 U8 U8' U9 U10 U11 V10 V11 OI3 OI5 OI6 OI7 OI11 OA3 OA5 OA6 OA7 OA11 X3 X5 O6 b1 b2 b3 b4 g5 b6 b7 b8 b9 g10 g11 b12 B2 B3 B4 B5 B6 B7 B8 B9 B10 B11 B35 B711 hO hP' hFi hS hsz
  generalize w1.heap.size = n1 at *
  generalize w3.heap.size = n3 at *
  generalize w7.heap.size = n7 at *
  generalize w8.heap.size = n8 at *
  refine wp_region_heldL (fun y => Blk y n3 27 [.int .i64 l, .int .i64 v, .int .i64 m, .int .i64 st, .int .i64 po, .int .i64 pr, .int .u32 rd, .int .u32 rp, .int .u32 id, .int .u64 ref, .int .u64 org, .int .u64 rec, .int .u64 xmt] ∧ Blk y n7 29 (keyL a0 a1) ∧ Blk y n8 29 (keyL a2 a3)) 8 (by kernel_rfl) rfl ⟨P12.drew, U12.drew, V12.drew⟩ fun hHeld => ?_
  simp only [List.replicate]
  refine wpH_take (i := 0) (v := .agg ([.int .i64 l, .int .i64 v, .int .i64 m, .int .i64 st, .int .i64 po, .int .i64 pr, .int .u32 rd, .int .u32 rp, .int .u32 id, .int .u64 ref, .int .u64 org, .int .u64 rec, .int .u64 xmt]).toArray) (by simp only [List.getElem?_toArray, List.getElem?_cons_succ, List.getElem?_cons_zero]; rfl) (by kernel_rfl) (by kernel_rfl) (by kernel_rfl) (by intro _ _ _ h; exact h) (yieldsIf_load_mid (by rfl) 27 _ (by rfl) n3 0 (by rfl) ([.int .i64 l, .int .i64 v, .int .i64 m, .int .i64 st, .int .i64 po, .int .i64 pr, .int .u32 rd, .int .u32 rp, .int .u32 id, .int .u64 ref, .int .u64 org, .int .u64 rec, .int .u64 xmt]) _ (fun w' h => h.1.range) Tryd.underlying27 rfl sizeNtp) (by assumption) ?_
  (try simp only [Act.put, List.setIfInBounds_toArray, List.set_cons_zero, List.set_cons_succ])
  (refine wpH_take (i := 1) (v := _) (by simp only [List.getElem?_toArray, List.getElem?_cons_succ, List.getElem?_cons_zero]; rfl) (by kernel_rfl) (by kernel_rfl) (by kernel_rfl) (by intro _ _ _ h; exact h) (Or.inl ⟨by rfl, (by intro w' hSw; (try dsimp only at hSw); go_simp; first | done | with_reducible rfl)⟩) (by assumption) ?_; (try simp only [Act.put, List.setIfInBounds_toArray, List.set_cons_zero, List.set_cons_succ]))
  refine wpH_take (i := 2) (v := .agg (keyL a0 a1).toArray) (by simp only [List.getElem?_toArray, List.getElem?_cons_succ, List.getElem?_cons_zero]; rfl) (by kernel_rfl) (by kernel_rfl) (by kernel_rfl) (by intro _ _ _ h; exact h) (yieldsIf_load_mid (by rfl) 29 _ (by rfl) n7 0 (by rfl) (keyL a0 a1) _ (fun w' h => h.2.1.range) Tryd.underlying29 rfl sizeKey) (by assumption) ?_
  (try simp only [Act.put, List.setIfInBounds_toArray, List.set_cons_zero, List.set_cons_succ])
  refine wpH_take (i := 3) (v := .agg (keyL a2 a3).toArray) (by simp only [List.getElem?_toArray, List.getElem?_cons_succ, List.getElem?_cons_zero]; rfl) (by kernel_rfl) (by kernel_rfl) (by kernel_rfl) (by intro _ _ _ h; exact h) (yieldsIf_load_mid (by rfl) 29 _ (by rfl) n8 0 (by rfl) (keyL a2 a3) _ (fun w' h => h.2.2.range) Tryd.underlying29 rfl sizeKey) (by assumption) ?_
  (try simp only [Act.put, List.setIfInBounds_toArray, List.set_cons_zero, List.set_cons_succ])
  (refine wpH_take (i := 4) (v := _) (by simp only [List.getElem?_toArray, List.getElem?_cons_succ, List.getElem?_cons_zero]; rfl) (by kernel_rfl) (by kernel_rfl) (by kernel_rfl) (by intro _ _ _ h; exact h) (Or.inl ⟨by rfl, (by intro w' hSw; (try dsimp only at hSw); go_simp; first | done | with_reducible rfl)⟩) (by assumption) ?_; (try simp only [Act.put, List.setIfInBounds_toArray, List.set_cons_zero, List.set_cons_succ]))
  have ne3 : n3 ≠ w.heap.size := by omega
  have ne7 : n7 ≠ w.heap.size := by omega
  have ne8 : n8 ≠ w.heap.size := by omega
  have nf3 : n3 ≠ n1 := by omega
  have nf7 : n7 ≠ n1 := by omega
  have nf8 : n8 ≠ n1 := by omega
  have P13 := P12.drew
  have U13 := U12.drew
  have V13 := V12.drew
  have J13 := J12.drew
  have T13 := T12.drew
  have B13 := B12.drew
  have O13 := OI12.drew
  (refine wpH_one (i := 5) (by simp only [List.getElem?_toArray, List.getElem?_cons_succ, List.getElem?_cons_zero]; rfl) (by kernel_rfl) (by rfl) ?_; (refine wp_store1 27 (.tmp 4) (.tmp 62) (by rfl) w.heap.size (by rfl) _ (by rfl) [.int .i64 l, .int .i64 v, .int .i64 m, .int .i64 st, .int .i64 po, .int .i64 pr, .int .u32 rd, .int .u32 rp, .int .u32 id, .int .u64 ref, .int .u64 org, .int .u64 rec, .int .u64 xmt] rfl 27 _ J13 (by rfl) 13 sizeNtp (by rfl) (by simp [Value.oneCell']) ?_; intro w14 J14 s14 g14; refine ⟨⟨P13.but g14 ne3, U13.but g14 ne7, V13.but g14 ne8⟩, ?_⟩); (try simp only [Act.put, List.setIfInBounds_toArray, List.set_cons_zero, List.set_cons_succ]))
  have T14 := T13.but g14 (by omega)
  have P14 := P13.but g14 ne3
  have U14 := U13.but g14 ne7
  have V14 := V13.but g14 ne8
  (refine wpH_one (i := 6) (by simp only [List.getElem?_toArray, List.getElem?_cons_succ, List.getElem?_cons_zero]; rfl) (by kernel_rfl) (by rfl) ?_; (refine wp_store1 31 (.tmp 5) (.tmp 66) (by rfl) n1 (by rfl) _ (by rfl) (tktL P2 16 q2 a0 a1 a2 a3) rfl 31 _ T14 (by rfl) 5 sizeTk (by rfl) (by simp [Value.oneCell']) ?_; intro w15 T15 s15 g15; refine ⟨⟨P14.but g15 nf3, U14.but g15 nf7, V14.but g15 nf8⟩, ?_⟩); (try simp only [Act.put, List.setIfInBounds_toArray, List.set_cons_zero, List.set_cons_succ]))
  have J15 := J14.but g15 (by omega)
  have hH15 : Blk w15 n3 27 [.int .i64 l, .int .i64 v, .int .i64 m, .int .i64 st, .int .i64 po, .int .i64 pr, .int .u32 rd, .int .u32 rp, .int .u32 id, .int .u64 ref, .int .u64 org, .int .u64 rec, .int .u64 xmt] ∧ Blk w15 n7 29 (keyL a0 a1) ∧ Blk w15 n8 29 (keyL a2 a3) := ⟨P14.but g15 nf3, U14.but g15 nf7, V14.but g15 nf8⟩
  (refine wpH_take (i := 7) (v := _) (by simp only [List.getElem?_toArray, List.getElem?_cons_succ, List.getElem?_cons_zero]; rfl) (by kernel_rfl) (by kernel_rfl) (by kernel_rfl) (by intro _ _ _ h; exact h) (Or.inl ⟨by rfl, (by intro w' hSw; (try dsimp only at hSw); go_simp; first | done | with_reducible rfl)⟩) (by assumption) ?_; (try simp only [Act.put, List.setIfInBounds_toArray, List.set_cons_zero, List.set_cons_succ]))
  refine wpH_done (by kernel_rfl) ?_ _
  have O15 := (O13.grown g14 (fun q e => by have := O13.blt q e; simp; omega)).grown g15 (fun q e => by have := O13.blt q e; simp; omega)
  have B15 := (B13.trans (g14.below B13.size (Nat.le_refl _))).trans (g15.below (by have := B13.size; omega) (by omega))
  clear hHeld hH15 P12 P13 P14 U12 U13 U14 V12 V13 V14 O13 J12 J13 J14 T12 T13 T14
  go_wp2_with fail
  refine bodyPost_ret (res_ctx Tryd.results13 (by rfl) (by rfl) J15 T15 Tryd.underlying27 rfl Tryd.underlying31 rfl sizeNtp (by rfl) sizeTk (by rfl) (by rfl)) rfl ?_
  exact ⟨P2, q2, rfl, O15.wide (by omega), B15⟩
end Go.Proofs.YtachhbbofemfdaaDoor
namespace Go.Proofs.YtachhbbofemfdaaDoor
open Go.RowKit
set_option linter.unusedSimpArgs false
set_option linter.unusedVariables false
set_option maxRecDepth 100000
theorem spI_byt {b : List Int} (h : Byt b) : Byt (spI b) := by
  have hR : Byt (dcR b) := by unfold dcR; split; exact h.drop _; exact Byt.nil
  have hv : ∀ t ∈ spL b, Byt t.2 := by
    obtain ⟨h1, h2⟩ := prs_back hR
    intro t ht
    unfold spL at ht
    by_cases hE : prsE (dcR b) = 0
    · exact ((h1 hE).2.1 t ht).2
    · rw [(h2 hE).1] at ht; cases ht
  unfold spI fdD
  cases hf : (spL b).find? fun t => t.1 == 260 with
  | none => exact Byt.nil
  | some t => exact hv t (List.mem_of_find?_eq_some hf)
theorem spI_16 {b : List Int} (hE : spE b = 0) : (spI b).length = 16 := by
  rcases spE_cases b with ⟨h1, h2⟩ | ⟨h1, h2, h3⟩ | ⟨h1, h2, h3, h4⟩ | ⟨h1, h2, h3, h4, h5⟩
  · exact absurd (h2.symm.trans hE) h1
  · exact absurd (h3.symm.trans hE) h2
  · rw [h4] at hE; cases hE
  · exact h4
/-- what both Opens return -/
def OpB (s kk g : Int) (b : List Int) (l v m st po pr rd rp id ref org rec xmt k0 k1 k2 k3 E : Int) (ID : List Int) : Prop :=
  (∀ (bj : Nat) (A : Option Addr) (n c : Nat) (w : World), Blk w bj 84 (jarL s kk g) → Rnd w → b.length = n → Bs w 0 w.heap.size A b → n ≤ c → c ≤ 9223372036854775807 → n ≤ 1000000 →
    Calls Tryd.prog 11 #[.pointer (some ⟨bj, 0, none⟩), .slice A n c] w fun e w' => ∃ A' c', e = .returned (.tuple #[ntp l v m st po pr rd rp id ref org rec xmt, .agg (tktL A' ID.length c' k0 k1 k2 k3).toArray, .int .i64 E]) ∧ Ow w' w.heap.size A' c' ID ∧ Below w.heap.size w w') ∧
  (∀ (bj : Nat) (A : Option Addr) (n c : Nat) (w : World), Blk w bj 89 (jarL s kk g) → b.length = n → Bs w 0 w.heap.size A b → n ≤ c → c ≤ 9223372036854775807 → n ≤ 1000000 →
    Calls Tryd.prog 13 #[.pointer (some ⟨bj, 0, none⟩), .slice A n c] w fun e w' => ∃ A' c', e = .returned (.tuple #[ntp l v m st po pr rd rp id ref org rec xmt, .agg (tktL A' ID.length c' k0 k1 k2 k3).toArray, .int .i64 E]) ∧ Ow w' w.heap.size A' c' ID ∧ Below w.heap.size w w')
theorem open_both (s kk g : Int) (b : List Int) (hs : U64 s) (hg : Gn g) (hkk : 1 ≤ kk ∧ kk ≤ 8) (hb : Byt b) :
    ∃ l v m st po pr rd rp id ref org rec xmt k0 k1 k2 k3 E ID, OpB s kk g b l v m st po pr rd rp id ref org rec xmt k0 k1 k2 k3 E ID ∧ (U64 k0 ∧ U64 k1 ∧ U64 k2 ∧ U64 k3) ∧ Byt ID ∧ ID.length ≤ 16 := by
  have u0 : U64 0 := ⟨by omega, by omega⟩
  by_cases hE : spE b = 0
  · obtain ⟨l, v, m, st, po, pr, rd, rp, id, ref, org, rec, xmt, hV, _, _⟩ := dcV_form b
    by_cases hT : (spC b).length = 52
    · by_cases hO1 : opE s kk g (spC b) = 0
      · cases hPV : prvB (opK s kk g (spC b) 0) (opK s kk g (spC b) 1) (spB b) (spA b) with
        | true =>
          have h16 := spI_16 hE
          refine ⟨l, v, m, st, po, pr, rd, rp, id, ref, org, rec, xmt, opK s kk g (spC b) 0, opK s kk g (spC b) 1, opK s kk g (spC b) 2, opK s kk g (spC b) 3, 0, spI b, ⟨fun bj A n c w hJ hR hn h hnc hc hm => ?_, fun bj A n c w hJ hn h hnc hc hm => ?_⟩, ⟨opK_u64 _ _ _ (spC_byt hb) _, opK_u64 _ _ _ (spC_byt hb) _, opK_u64 _ _ _ (spC_byt hb) _, opK_u64 _ _ _ (spC_byt hb) _⟩, spI_byt hb, by omega⟩
          · rw [h16]
            exact (gopen_ok bj s kk g A n c b w hJ hs hg hkk hR hn h hnc hc hm hE l v m st po pr rd rp id ref org rec xmt hV hT hO1 hPV).mono fun e w' ⟨r, c', h1, h2, h3⟩ => ⟨_, c', h1, h2, h3⟩
          · rw [h16]
            exact rgopen_ok bj s kk g A n c b w hJ hs hg hkk hn h hnc hc hm hE l v m st po pr rd rp id ref org rec xmt hV hT hO1 hPV
        | false =>
          refine ⟨0, 0, 0, 0, 0, 0, 0, 0, 0, 0, 0, 0, 0, 0, 0, 0, 0, 16, [], ⟨fun bj A n c w hJ hR hn h hnc hc hm => ?_, fun bj A n c w hJ hn h hnc hc hm => ?_⟩, ⟨u0, u0, u0, u0⟩, Byt.nil, by simp⟩
          · exact (gopen_tag bj s kk g A n c b w hJ hs hg hkk hR hn h hnc hc hm hE l v m st po pr rd rp id ref org rec xmt hV hT hO1 hPV).mono fun e w' ⟨h1, h2⟩ => ⟨none, 0, h1, Ow.nil _ _, h2⟩
          · exact (rgopen_tag bj s kk g A n c b w hJ hs hg hkk hn h hnc hc hm hE l v m st po pr rd rp id ref org rec xmt hV hT hO1 hPV).mono fun e w' ⟨h1, h2⟩ => ⟨none, 0, h1, Ow.nil _ _, h2⟩
      · refine ⟨0, 0, 0, 0, 0, 0, 0, 0, 0, 0, 0, 0, 0, 0, 0, 0, 0, opE s kk g (spC b), [], ⟨fun bj A n c w hJ hR hn h hnc hc hm => ?_, fun bj A n c w hJ hn h hnc hc hm => ?_⟩, ⟨u0, u0, u0, u0⟩, Byt.nil, by simp⟩
        · exact (gopen_bad bj s kk g A n c b w hJ hs hg hkk hR hn h hnc hc hm hE l v m st po pr rd rp id ref org rec xmt hV hT hO1).mono fun e w' ⟨h1, h2⟩ => ⟨none, 0, h1, Ow.nil _ _, h2⟩
        · exact (rgopen_bad bj s kk g A n c b w hJ hs hg hkk hn h hnc hc hm hE l v m st po pr rd rp id ref org rec xmt hV hT hO1).mono fun e w' ⟨h1, h2⟩ => ⟨none, 0, h1, Ow.nil _ _, h2⟩
    · refine ⟨0, 0, 0, 0, 0, 0, 0, 0, 0, 0, 0, 0, 0, 0, 0, 0, 0, 7, [], ⟨fun bj A n c w hJ hR hn h hnc hc hm => ?_, fun bj A n c w hJ hn h hnc hc hm => ?_⟩, ⟨u0, u0, u0, u0⟩, Byt.nil, by simp⟩
      · exact (gopen_form bj s kk g A n c b w hJ hs hg hkk hR hn h hnc hc hm hE l v m st po pr rd rp id ref org rec xmt hV hT).mono fun e w' ⟨h1, h2⟩ => ⟨none, 0, h1, Ow.nil _ _, h2⟩
      · exact (rgopen_form bj s kk g A n c b w hJ hs hg hkk hn h hnc hc hm hE l v m st po pr rd rp id ref org rec xmt hV hT).mono fun e w' ⟨h1, h2⟩ => ⟨none, 0, h1, Ow.nil _ _, h2⟩
  · refine ⟨0, 0, 0, 0, 0, 0, 0, 0, 0, 0, 0, 0, 0, 0, 0, 0, 0, spE b, [], ⟨fun bj A n c w hJ hR hn h hnc hc hm => ?_, fun bj A n c w hJ hn h hnc hc hm => ?_⟩, ⟨u0, u0, u0, u0⟩, Byt.nil, by simp⟩
    · exact (gopen_err bj A n c b w hn h hnc hc hm hE).mono fun e w' ⟨h1, h2⟩ => ⟨none, 0, h1, Ow.nil _ _, h2⟩
    · exact (rgopen_err bj A n c b w hn h hnc hc hm hE).mono fun e w' ⟨h1, h2⟩ => ⟨none, 0, h1, Ow.nil _ _, h2⟩
set_option maxRecDepth 100000 in
set_option maxHeartbeats 16000000 in
theorem opens47 (s : Int) (A : Option Addr) (n c : Nat) (b : List Int) (w : World) (hs : U64 s) (hn : b.length = n) (h : Bs w 0 w.heap.size A b) (hnc : n ≤ c) (hc : c ≤ 9223372036854775807) (hR : Rnd w) :
    Calls Tryd.prog 3 #[.int .u64 s, .slice A n c] w fun e w' => e = .returned (.bool true) ∧ Below w.heap.size w w' := by
  by_cases hm : n ≤ 2000
  · obtain ⟨l, v, m, st, po, pr, rd, rp, id, ref, org, rec, xmt, k0, k1, k2, k3, E, ID, ⟨hO, hP⟩, hU, hIb, hI16⟩ := open_both s 2 1 b hs ⟨by omega, by omega⟩ ⟨by omega, by omega⟩ h.byt
    have hO' := fun W hJ hR hB => hO w.heap.size A n c W hJ hR hn hB hnc hc (by omega)
    have hP' := fun bj W hJ hB => hP bj A n c W hJ hn hB hnc hc (by omega)
    obtain ⟨N, hN⟩ : ∃ N, ID.length = N := ⟨_, rfl⟩
    rw [hN] at hO' hP' hI16
    have HN := Lib.hid hN
    have hm' : decide ((2000 : Int) < n) = false := decide_eq_false (by omega)
    have hIe := eqB_self ID
    have hke := key_eq
    clear hO hP hN hn hm hU
    go_enter Tryd.func3, Tryd.ntmps3
    go_wp2_with (first
      | (go_at_call 12; ((with_reducible refine (new_some s 2 _ (by omega) (by omega)).mono ?_); rintro e w1 ⟨rfl, J1, b1⟩))
      | (go_at_call 11; ((with_reducible refine (hO' _ J1 (hR.below b1 hR.lt) ((h.below b1 (Nat.le_refl _)).wide (Nat.le_refl _) b1.size)).mono ?_); rintro e w2 ⟨A2, c2, rfl, O2, b2⟩; (have B2 := b1.trans (b2.mono b1.size))))
      | ((refine wpl_alloc (by rfl) 27 (by rfl) (.agg (zN).toArray) (zN) zeroNtp rfl ?_; intro w9 Q9 s9 b9); (have P9 := P8.below b9 P8.lt); (have T9 := T8.below b9 T8.lt); (have B9 := B8.trans (b9.mono B8.size)))
      | ((refine wpl_alloc (by rfl) 27 (by rfl) (.agg (zN).toArray) (zN) zeroNtp rfl ?_; intro w3 P3 s3 b3); (have B3 := B2.trans (b3.mono B2.size)))
      | ((refine wpl_alloc (by rfl) 31 (by rfl) (.agg (tktL none 0 0 0 0 0 0).toArray) (tktL none 0 0 0 0 0 0) zeroTk rfl ?_; intro w10 U10 s10 b10); (have P10 := P9.below b10 P9.lt); (have T10 := T9.below b10 T9.lt); (have Q10 := Q9.below b10 Q9.lt); (have B10 := B9.trans (b10.mono B9.size)))
      | ((refine wpl_alloc (by rfl) 31 (by rfl) (.agg (tktL none 0 0 0 0 0 0).toArray) (tktL none 0 0 0 0 0 0) zeroTk rfl ?_; intro w4 T4 s4 b4); (have P4 := P3.below b4 P3.lt); (have B4 := B3.trans (b4.mono B3.size)))
      | ((refine wpl_store (by rfl) 27 _ _ (by rfl) w2.heap.size (by rfl) _ (by rfl) _ rfl 27 _ P4 (by rfl) _ sizeNtp (by rfl) (by simp [Value.oneCell']) ?_; intro w5 P5 s5 g5); (have T5 := T4.but g5 (Nat.ne_of_gt P3.lt)); (have B5 := B4.trans (g5.below B4.size B2.size)))
      | ((refine wpl_store (by rfl) 31 _ _ (by rfl) w3.heap.size (by rfl) _ (by rfl) _ rfl 31 _ T5 (by rfl) _ sizeTk (by rfl) (by simp [Value.oneCell']) ?_; intro w6 T6 s6 g6); (have P6 := P5.but g6 (Nat.ne_of_lt P3.lt)); (have B6 := B5.trans (g6.below B5.size B3.size)); (have b26 : Below w2.heap.size w2 w6 := ((b3.trans (b4.mono b3.size)).trans (But.below (g := w2.heap.size) g5 (Nat.le_trans b3.size b4.size) (Nat.le_refl _))).trans (But.below (g := w3.heap.size) g6 (Nat.le_trans (Nat.le_trans b3.size b4.size) s5) b3.size)); (have O6 := O2.below b26 (Nat.le_refl _)))
      | (go_at_call 14; ((with_reducible refine (rnew_some s 2 _ (by omega) (by omega)).mono ?_); rintro e w7 ⟨rfl, J7, b7⟩; (have P7 := P6.below b7 P6.lt); (have T7 := T6.below b7 T6.lt); (have O7 := O6.below b7 (Nat.le_refl _)); (have B7 := B6.trans (b7.mono B6.size))))
      | (go_at_call 13; ((with_reducible refine (hP' _ _ J7 ((h.below B7 (Nat.le_refl _)).wide (Nat.le_refl _) B7.size)).mono ?_); rintro e w8 ⟨A8, c8, rfl, O8, b8⟩; (have P8 := P7.below b8 P7.lt); (have T8 := T7.below b8 T7.lt); (have O7' := O7.below b8 (Nat.le_refl _)); (have B8 := B7.trans (b8.mono B7.size))))
      | ((refine wpl_store (by rfl) 27 _ _ (by rfl) w8.heap.size (by rfl) _ (by rfl) _ rfl 27 _ Q10 (by rfl) _ sizeNtp (by rfl) (by simp [Value.oneCell']) ?_; intro w11 Q11 s11 g11); (have P11 := P10.but g11 (Nat.ne_of_lt P8.lt)); (have T11 := T10.but g11 (Nat.ne_of_lt T8.lt)); (have U11 := U10.but g11 (Nat.ne_of_gt Q9.lt)); (have B11 := B10.trans (g11.below B10.size B8.size)))
      | ((refine wpl_store (by rfl) 31 _ _ (by rfl) w9.heap.size (by rfl) _ (by rfl) _ rfl 31 _ U11 (by rfl) _ sizeTk (by rfl) (by simp [Value.oneCell']) ?_; intro w12 U12 s12 g12); (have P12 := P11.but g12 (Nat.ne_of_lt P9.lt)); (have T12 := T11.but g12 (Nat.ne_of_lt T9.lt)); (have Q12 := Q11.but g12 (Nat.ne_of_lt Q9.lt)); (have B12 := B11.trans (g12.below B11.size B9.size)); (have b812 : Below w8.heap.size w8 w12 := ((b9.trans (b10.mono b9.size)).trans (But.below (g := w8.heap.size) g11 (Nat.le_trans b9.size b10.size) (Nat.le_refl _))).trans (But.below (g := w9.heap.size) g12 (Nat.le_trans (Nat.le_trans b9.size b10.size) s11) b9.size)); (have O12 := O7'.below b812 (Nat.le_refl _)); (have O12' := O8.below b812 (Nat.le_refl _)))
      | (refine wpl_load (by rfl) 27 _ (by rfl) w2.heap.size (by rfl) 27 _ P12 _ Tryd.underlying27 rfl _ sizeNtp (by rfl) ?_)
      | (refine wpl_load (by rfl) 27 _ (by rfl) w8.heap.size (by rfl) 27 _ Q12 _ Tryd.underlying27 rfl _ sizeNtp (by rfl) ?_)
      | (refine wpl_loadf (by rfl) 23 _ (by rfl) w3.heap.size 0 (by rfl) _ _ T12 _ rfl _ Tryd.underlying23 rfl ?_)
      | (refine wpl_loadf (by rfl) 23 _ (by rfl) w9.heap.size 0 (by rfl) _ _ U12 _ rfl _ Tryd.underlying23 rfl ?_)
      | (go_at_call 15; (have hBE := bequal_any A2 A8 N N c2 c8 _ _ _ _ ID ID w12 HN.out HN.out O12.bs O12'.bs); (rw [hIe] at hBE); ((with_reducible refine hBE.mono ?_); rintro e _ ⟨rfl, rfl⟩))
      | ((refine wpl_loadm (by rfl) 29 _ (by rfl) w3.heap.size 1 (by rfl) _ _ T12 _ _ Tryd.underlying29 rfl _ sizeKey (by rfl) (by rfl) ?_))
      | ((refine wpl_loadm (by rfl) 29 _ (by rfl) w9.heap.size 1 (by rfl) _ _ U12 _ _ Tryd.underlying29 rfl _ sizeKey (by rfl) (by rfl) ?_))
      | ((refine wpl_loadm (by rfl) 29 _ (by rfl) w3.heap.size 3 (by rfl) _ _ T12 _ _ Tryd.underlying29 rfl _ sizeKey (by rfl) (by rfl) ?_))
      | ((refine wpl_loadm (by rfl) 29 _ (by rfl) w9.heap.size 3 (by rfl) _ _ U12 _ _ Tryd.underlying29 rfl _ sizeKey (by rfl) (by rfl) ?_))
      | (go_at_call 10; ((with_reducible refine (awake_any _ (hR.below B12 hR.lt)).mono ?_); rintro e w13 ⟨rfl, b13⟩)))
    go_ret
    exact ⟨rfl, B12.trans (b13.mono B12.size)⟩
  · have hm' : decide ((2000 : Int) < n) = true := decide_eq_true (by omega)
    clear hm
    go_enter Tryd.func3, Tryd.ntmps3
    go_wp2_with (first
      | (go_at_call 10; ((with_reducible refine (awake_any _ hR).mono ?_); rintro e w13 ⟨rfl, b13⟩)))
    go_ret
    exact ⟨rfl, b13⟩
end Go.Proofs.YtachhbbofemfdaaDoor
