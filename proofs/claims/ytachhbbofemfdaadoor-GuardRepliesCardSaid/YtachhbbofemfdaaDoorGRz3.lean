/- The reference's guard: sealed, Reply. Reply of the program and of the reference, in one statement; lists of calls in memory; moderate. GuardReplies (P47.5): the walk. -/
import Derived.Test.YtachhbbofemfdaaDoorGRz1
import Derived.Test.YtachhbbofemfdaaDoorGZ17
import Derived.Test.YtachhbbofemfdaaDoorGRz2
namespace Go.Proofs.YtachhbbofemfdaaDoor
open Go.RowKit
set_option linter.unusedSimpArgs false
set_option linter.unusedVariables false
set_option maxRecDepth 100000
set_option maxRecDepth 100000 in
set_option maxHeartbeats 8000000 in
theorem rsealed_ok (l v m st po pr rd rp id ref org rec xmt : Int) (B : Option Addr) (q d : Nat) (L : Flds) (k0 k1 : Int) (w : World) (hk : nchk l v m st po pr = 0) (h6 : 0 ≤ rd ∧ rd ≤ 4294967295) (h7 : 0 ≤ rp ∧ rp ≤ 4294967295) (h8 : 0 ≤ id ∧ id ≤ 4294967295) (h9 : 0 ≤ ref ∧ ref ≤ 18446744073709551615) (h10 : 0 ≤ org ∧ org ≤ 18446744073709551615) (h11 : 0 ≤ rec ∧ rec ≤ 18446744073709551615) (h12 : 0 ≤ xmt ∧ xmt ≤ 18446744073709551615) (hm : L.length = q) (hX : Xs w w.heap.size B L) (hmd : q ≤ d) (hd : d ≤ 9223372036854775807) (he : apxE L = 0) (hk0 : U64 k0) (hk1 : U64 k1) :
    Calls Tryd.prog 44 #[ntp l v m st po pr rd rp id ref org rec xmt, .slice B q d, keyV k0 k1] w fun e w' => ∃ A c N, e = .returned (.slice A N c) ∧ (msgB l v m st po pr rd rp id ref org rec xmt L k0 k1).length = N ∧ Ow w' w.heap.size A c (msgB l v m st po pr rd rp id ref org rec xmt L k0 k1) ∧ Below w.heap.size w w' := by
  have hfl := flds_small he
  have hE := fun W => rencode_ok l v m st po pr rd rp id ref org rec xmt W hk h6 h7 h8 h9 h10 h11 h12
  obtain ⟨hd1, hhd⟩ : ∃ H, encH l v m st po pr rd rp id ref org rec xmt = H := ⟨_, rfl⟩
  have hdl : hd1.length = 48 := by rw [← hhd, encH_len]
  unfold msgB bdyB
  rw [hhd] at hE ⊢
  obtain ⟨N, hN⟩ : ∃ N, (hd1 ++ fldsB L).length = N := ⟨_, rfl⟩
  have hN2 : N ≤ 4208 := by rw [← hN, List.length_append]; omega
  obtain ⟨D, hD⟩ : ∃ D, D = hd1 ++ fldsB L := ⟨_, rfl⟩
  rw [← hD] at hN ⊢
  have hT := fun W A c hB hc hcc => rtag_any k0 k1 A N c D W hk0 hk1 hN hB (by omega) hc hcc
  have ht := tagF_u64 k0 k1 D
  unfold athB
  generalize tagF k0 k1 D = T at hT ht ⊢
  have hA := fun W => rauth_any 0 T W (by omega) (by omega) ht.1 ht.2
  have hal := auth_len 0 T
  generalize bytesB 4 0 ++ bytesB 8 T = AB at hA hal ⊢
  have HN := Lib.hid hN
  have HA := Lib.hid hal
  have HD := Lib.hid hD
  have HL := Lib.hid hdl
  clear hhd hN hal hD hdl
  go_enter Tryd.func44, Tryd.ntmps44
  go_wp2_with (first
    | (refine wpl_box (by rfl) 27 _ (by rfl) _ ([.int .i64 l, .int .i64 v, .int .i64 m, .int .i64 st, .int .i64 po, .int .i64 pr, .int .u32 rd, .int .u32 rp, .int .u32 id, .int .u64 ref, .int .u64 org, .int .u64 rec, .int .u64 xmt]) (by rfl) rfl ?_; intro w1 P1 s1 b1)
    | ((refine wpl_box (by rfl) 29 _ (by rfl) _ (keyL k0 k1) (by rfl) rfl ?_; intro w2 K2 s2 b2); (have P2 := P1.below b2 (by omega)))
    | (refine wpl_load (by rfl) 27 _ (by rfl) w.heap.size (by rfl) 27 _ P2 _ Tryd.underlying27 rfl _ sizeNtp (by rfl) ?_)
    | (go_at_call 75; ((with_reducible refine (hE _).mono ?_); rintro e w3 ⟨A3, c3, rfl, O3, b3⟩; (have K3 := K2.below b3 (by omega)); (have z3 := b3.size))))
  have hX3 := (((hX.below b1 (Nat.le_refl _)).below b2 (by omega)).below b3 (by omega)).wide (hi' := w3.heap.size) (by omega)
  have hF := rxappend_ok A3 48 c3 _ _ hd1 B q d L w3 HL.out O3 (Nat.le_refl _) (by omega) hm hX3 hmd hd he
  rw [← HD.out] at hF
  with_reducible refine hF.mono ?_
  rintro e w4 ⟨A4, c4, N4, rfl, hN4, O4, b4⟩
  obtain rfl : N = N4 := HN.out.symm.trans hN4
  have B4 : Below w.heap.size w w4 := ((b1.trans (b2.mono (by omega))).trans (b3.mono (by omega))).trans (b4.mono (by omega))
  have K4 := K3.below b4 (by omega)
  have z4 := b4.size
  have hc4 := O4.cap_le
  have hcm4 := O4.cap_max
  rw [HN.out] at hc4
  clear hF hN4 hX3 hX hE P1 P2 K2 K3 O3 b1 b2 b3 b4
  go_wp2_with (first
    | (refine wpl_load (by rfl) 29 _ (by rfl) w1.heap.size (by rfl) 29 _ K4 _ Tryd.underlying29 rfl _ sizeKey (by rfl) ?_)
    | (go_at_call 69; ((with_reducible refine (hT _ _ _ (O4.bs.wide (Nat.zero_le _) (Nat.le_refl _)) hc4 hcm4).mono ?_); rintro e w5 ⟨rfl, b5⟩; (have O5 := O4.below b5 (Nat.le_refl _)); (have B5 := B4.trans (b5.mono B4.size)); (have z5 := b5.size)))
    | (go_at_call 77; ((with_reducible refine (hA _).mono ?_); rintro e w6 ⟨A6, c6, rfl, O6, b6⟩; (have O5' := O5.below b6 (Nat.le_refl _)); (have B6 := B5.trans (b6.mono B5.size)); (have z6 := b6.size)))
    | (refine wpl_append_bs (by rfl) (.tmp 20) (.tmp 24) (by rfl) N c4 12 c6 (by rfl) (by rfl) HN.out HA.out O5' O6.bs (by omega) (by omega) ?_; intro A7 c7 w7 O7 b7))
  go_ret
  exact ⟨A7, c7, _, rfl, by rw [List.length_append, HN.out, HA.out], O7.wide (by omega), B6.trans (b7.mono (by omega))⟩
set_option maxRecDepth 100000 in
set_option maxHeartbeats 8000000 in
theorem rgreply_err (bj : Nat) (Ai : Option Addr) (ni ci : Nat) (x0 x1 x2 x3 : Int) (l v m st po pr rd rp id ref org rec xmt nonce : Int) (B : Option Addr) (q d : Nat) (L : Flds) (w : World) (hL : L.length = q) (hX : Xs w w.heap.size B L) (hqd : q ≤ d) (hd : d ≤ 9223372036854775807) (hsz : ∀ k, k < q → (dtL L k).length ≤ 140737488351232) (hE : grE (nchk l v m st po pr) ni L ≠ 0) :
    Calls Tryd.prog 18 #[.pointer (some ⟨bj, 0, none⟩), .agg (tktL Ai ni ci x0 x1 x2 x3).toArray, ntp l v m st po pr rd rp id ref org rec xmt, .slice B q d, .int .u64 nonce] w fun e w' => e = .returned (.tuple #[.slice none 0 0, .int .i64 (grE (nchk l v m st po pr) ni L)]) ∧ Below w.heap.size w w' := by
  have hK := fun W => rnchk_any l v m st po pr rd rp id ref org rec xmt W
  rcases grE_cases (nchk l v m st po pr) ni L with ⟨h1, h2⟩ | ⟨h1, h2, h3⟩ | ⟨h1, h2, h3, h4⟩ | ⟨h1, h2, h3, h4, h5⟩ | ⟨h1, h2, h3, h4, h5⟩
  · rw [h2]
    have h1' : (nchk l v m st po pr != 0) = true := by simpa using h1
    generalize nchk l v m st po pr = E at hK h1'
    clear h1 h2 hE
    go_enter Tryd.func18, Tryd.ntmps18
    go_wp2_with (first
      | (refine wpl_box (by rfl) 31 _ (by rfl) _ (tktL Ai ni ci x0 x1 x2 x3) (by rfl) rfl ?_; intro w1 K1 s1 b1)
      | ((refine wpl_box (by rfl) 27 _ (by rfl) _ ([.int .i64 l, .int .i64 v, .int .i64 m, .int .i64 st, .int .i64 po, .int .i64 pr, .int .u32 rd, .int .u32 rp, .int .u32 id, .int .u64 ref, .int .u64 org, .int .u64 rec, .int .u64 xmt]) (by rfl) rfl ?_; intro w2 P2 s2 b2); (have K2 := K1.below b2 (by omega)); (have B2 := b1.trans (b2.mono (by omega))))
      | (refine wpl_load (by rfl) 27 _ (by rfl) w1.heap.size (by rfl) 27 _ P2 _ Tryd.underlying27 rfl _ sizeNtp (by rfl) ?_)
      | (go_at_call 42; ((with_reducible refine (hK _).mono ?_); rintro e w3 ⟨rfl, b3⟩; (have K3 := K2.below b3 K2.lt); (have P3 := P2.below b3 P2.lt); (have B3 := B2.trans (b3.mono B2.size))))
      | (refine wpl_loadf (by rfl) 23 _ (by rfl) w.heap.size 0 (by rfl) _ _ K3 _ rfl _ Tryd.underlying23 rfl ?_))
    go_ret2
    exact ⟨rfl, B3⟩
  · rw [h3]
    rw [h1] at hK
    have h2' : ((ni : Int) != 16) = true := by simp; omega
    clear h1 h2 h3 hE
    go_enter Tryd.func18, Tryd.ntmps18
    go_wp2_with (first
      | (refine wpl_box (by rfl) 31 _ (by rfl) _ (tktL Ai ni ci x0 x1 x2 x3) (by rfl) rfl ?_; intro w1 K1 s1 b1)
      | ((refine wpl_box (by rfl) 27 _ (by rfl) _ ([.int .i64 l, .int .i64 v, .int .i64 m, .int .i64 st, .int .i64 po, .int .i64 pr, .int .u32 rd, .int .u32 rp, .int .u32 id, .int .u64 ref, .int .u64 org, .int .u64 rec, .int .u64 xmt]) (by rfl) rfl ?_; intro w2 P2 s2 b2); (have K2 := K1.below b2 (by omega)); (have B2 := b1.trans (b2.mono (by omega))))
      | (refine wpl_load (by rfl) 27 _ (by rfl) w1.heap.size (by rfl) 27 _ P2 _ Tryd.underlying27 rfl _ sizeNtp (by rfl) ?_)
      | (go_at_call 42; ((with_reducible refine (hK _).mono ?_); rintro e w3 ⟨rfl, b3⟩; (have K3 := K2.below b3 K2.lt); (have P3 := P2.below b3 P2.lt); (have B3 := B2.trans (b3.mono B2.size))))
      | (refine wpl_loadf (by rfl) 23 _ (by rfl) w.heap.size 0 (by rfl) _ _ K3 _ rfl _ Tryd.underlying23 rfl ?_))
    go_ret2
    exact ⟨rfl, B3⟩
  · rw [h4]
    rw [h1] at hK
    have h2' : ((ni : Int) != 16) = false := by simp; omega
    obtain ⟨kb, hkb, hbad⟩ := firE_bad h3
    have HBad := Lib.hid hbad
    clear h1 h2 h3 h4 hE hbad
    go_enter Tryd.func18, Tryd.ntmps18
    go_wp2_with (first
      | (refine wpl_box (by rfl) 31 _ (by rfl) _ (tktL Ai ni ci x0 x1 x2 x3) (by rfl) rfl ?_; intro w1 K1 s1 b1)
      | ((refine wpl_box (by rfl) 27 _ (by rfl) _ ([.int .i64 l, .int .i64 v, .int .i64 m, .int .i64 st, .int .i64 po, .int .i64 pr, .int .u32 rd, .int .u32 rp, .int .u32 id, .int .u64 ref, .int .u64 org, .int .u64 rec, .int .u64 xmt]) (by rfl) rfl ?_; intro w2 P2 s2 b2); (have K2 := K1.below b2 (by omega)); (have B2 := b1.trans (b2.mono (by omega))))
      | (refine wpl_load (by rfl) 27 _ (by rfl) w1.heap.size (by rfl) 27 _ P2 _ Tryd.underlying27 rfl _ sizeNtp (by rfl) ?_)
      | (go_at_call 42; ((with_reducible refine (hK _).mono ?_); rintro e w3 ⟨rfl, b3⟩; (have K3 := K2.below b3 K2.lt); (have P3 := P2.below b3 P2.lt); (have B3 := B2.trans (b3.mono B2.size))))
      | (refine wpl_loadf (by rfl) 23 _ (by rfl) w.heap.size 0 (by rfl) _ _ K3 _ rfl _ Tryd.underlying23 rfl ?_))
    go_loopw [12] (fun i wr => ∃ k : Nat, k ≤ q ∧ i = .int .i64 k ∧ Hid (∀ j, j < k → chkE (kdL L j) (dtL L j).length = 0) ∧ Below w.heap.size w wr) (fun i _ => q - (intOf i).toNat)
    case atStart => exact ⟨0, by omega, rfl, fun j hj => absurd hj (by omega), B3⟩
    case round =>
      obtain ⟨k, hk, rfl, hV, hB⟩ := hrel
      by_cases hlt : k < q
      · skip
        obtain ⟨bb, o, rfl, hbw, hx⟩ := (hX.below hB (Nat.le_refl _)) (by omega)
        obtain ⟨Ak, ck, hrg, hBk, hlc, hcm, hno⟩ := (hx k (by omega)).open'
        have hi0 : (0 : Int) ≤ k := by omega
        have hi1 : (k : Int) < q := by omega
        obtain ⟨K, hK⟩ : ∃ K, K = kdL L k := ⟨_, rfl⟩
        obtain ⟨D, hD⟩ : ∃ D, D = (dtL L k).length := ⟨_, rfl⟩
        rw [← hK, ← hD] at hrg
        have hck := fun W => rchk_any K Ak D ck W (by have := hsz k (by omega); omega)
        have hE0 : chkE K D = chkE (kdL L k) (dtL L k).length := by rw [hK, hD]
        clear hx hBk hlc hno hK hD
        generalize hEE : chkE K D = E at hck hE0
        by_cases hE0' : E = 0
        · have hc0 : (E != 0) = false := by simpa using hE0'
          have hV' : Hid (∀ j, j < k + 1 → chkE (kdL L j) (dtL L j).length = 0) := fun j hj => by
            rcases Nat.lt_or_ge j k with q1 | q1
            · exact hV.out j q1
            · obtain rfl : j = k := by omega
              rw [← hE0, hE0']
          clear hE0 hE0' hEE
          go_wp2_with (first
            | (refine wpl_loadr (by rfl) 62 _ (by rfl) bb (o + k * 2) (by rfl) _ hrg _ Tryd.underlying62 rfl _ sizeExt (by rfl) ?_)
            | (go_at_call 43; ((with_reducible refine (hck _).mono ?_); rintro e wc ⟨rfl, bc⟩)))
          exact ⟨⟨k + 1, by omega, by go_num, hV', hB.trans (bc.mono hB.size)⟩, by simp [intOf]; omega⟩
        · have hc0 : (E != 0) = true := by simpa using hE0'
          clear hE0 hE0' hEE
          go_wp2_with (first
            | (refine wpl_loadr (by rfl) 62 _ (by rfl) bb (o + k * 2) (by rfl) _ hrg _ Tryd.underlying62 rfl _ sizeExt (by rfl) ?_)
            | (go_at_call 43; ((with_reducible refine (hck _).mono ?_); rintro e wc ⟨rfl, bc⟩)))
          go_ret2
          exact ⟨rfl, hB.trans (bc.mono hB.size)⟩
      · exfalso
        exact HBad.out (hV.out kb (by omega))
  · rw [h5]
    rw [h1] at hK
    have h2' : ((ni : Int) != 16) = false := by simp; omega
    have hall := Lib.hid (fir_at h3)
    have hgt : decide ((14 : Int) < q) = true := decide_eq_true (by omega)
    clear h1 h2 h3 h4 h5 hE
    go_enter Tryd.func18, Tryd.ntmps18
    go_wp2_with (first
      | (refine wpl_box (by rfl) 31 _ (by rfl) _ (tktL Ai ni ci x0 x1 x2 x3) (by rfl) rfl ?_; intro w1 K1 s1 b1)
      | ((refine wpl_box (by rfl) 27 _ (by rfl) _ ([.int .i64 l, .int .i64 v, .int .i64 m, .int .i64 st, .int .i64 po, .int .i64 pr, .int .u32 rd, .int .u32 rp, .int .u32 id, .int .u64 ref, .int .u64 org, .int .u64 rec, .int .u64 xmt]) (by rfl) rfl ?_; intro w2 P2 s2 b2); (have K2 := K1.below b2 (by omega)); (have B2 := b1.trans (b2.mono (by omega))))
      | (refine wpl_load (by rfl) 27 _ (by rfl) w1.heap.size (by rfl) 27 _ P2 _ Tryd.underlying27 rfl _ sizeNtp (by rfl) ?_)
      | (go_at_call 42; ((with_reducible refine (hK _).mono ?_); rintro e w3 ⟨rfl, b3⟩; (have K3 := K2.below b3 K2.lt); (have P3 := P2.below b3 P2.lt); (have B3 := B2.trans (b3.mono B2.size))))
      | (refine wpl_loadf (by rfl) 23 _ (by rfl) w.heap.size 0 (by rfl) _ _ K3 _ rfl _ Tryd.underlying23 rfl ?_))
    go_loopw [12] (fun i wr => ∃ k : Nat, k ≤ q ∧ i = .int .i64 k ∧ Below w.heap.size w wr) (fun i _ => q - (intOf i).toNat)
    case atStart => exact ⟨0, by omega, rfl, B3⟩
    case round =>
      obtain ⟨k, hk, rfl, hB⟩ := hrel
      by_cases hlt : k < q
      · skip
        obtain ⟨bb, o, rfl, hbw, hx⟩ := (hX.below hB (Nat.le_refl _)) (by omega)
        obtain ⟨Ak, ck, hrg, hBk, hlc, hcm, hno⟩ := (hx k (by omega)).open'
        have hi0 : (0 : Int) ≤ k := by omega
        have hi1 : (k : Int) < q := by omega
        obtain ⟨K, hK⟩ : ∃ K, K = kdL L k := ⟨_, rfl⟩
        obtain ⟨D, hD⟩ : ∃ D, D = (dtL L k).length := ⟨_, rfl⟩
        rw [← hK, ← hD] at hrg
        have hck := fun W => rchk_any K Ak D ck W (by have := hsz k (by omega); omega)
        have hE0 : chkE K D = chkE (kdL L k) (dtL L k).length := by rw [hK, hD]
        clear hx hBk hlc hno hK hD
        generalize hEE : chkE K D = E at hck hE0
        have hc0 : (E != 0) = false := by
          have := hall.out k (by omega)
          rw [← hE0] at this
          simp [this]
        clear hE0 hEE
        go_wp2_with (first
          | (refine wpl_loadr (by rfl) 62 _ (by rfl) bb (o + k * 2) (by rfl) _ hrg _ Tryd.underlying62 rfl _ sizeExt (by rfl) ?_)
          | (go_at_call 43; ((with_reducible refine (hck _).mono ?_); rintro e wc ⟨rfl, bc⟩)))
        exact ⟨⟨k + 1, by omega, by go_num, hB.trans (bc.mono hB.size)⟩, by simp [intOf]; omega⟩
      · obtain rfl : k = q := by omega
        go_wp2
        go_ret2
        exact ⟨rfl, hB⟩
  · exact absurd h5 hE
set_option maxRecDepth 100000 in
set_option maxHeartbeats 16000000 in
theorem rgreply_ok (bj : Nat) (Ai : Option Addr) (ni ci : Nat) (x0 x1 x2 x3 : Int) (l v m st po pr rd rp id ref org rec xmt nonce : Int) (B : Option Addr) (q d : Nat) (L : Flds) (w : World) (hL : L.length = q) (hX : Xs w w.heap.size B L) (hqd : q ≤ d) (hd : d ≤ 9223372036854775807) (hsz : ∀ k, k < q → (dtL L k).length ≤ 140737488351232) (s kk g : Int) (id' : List Int) (hJ : Blk w bj 89 (jarL s kk g)) (hs : U64 s) (hg : Gn g) (hno : U64 nonce) (hx0 : U64 x0) (hx1 : U64 x1) (hx2 : U64 x2) (hx3 : U64 x3) (hBn : B = none → q = 0) (hI : Bs w 0 w.heap.size Ai id') (hil : id'.length = ni) (hic : ni ≤ ci) (hicc : ci ≤ 9223372036854775807) (hin : Ai = none → ni = 0 ∧ ci = 0) (h6 : 0 ≤ rd ∧ rd ≤ 4294967295) (h7 : 0 ≤ rp ∧ rp ≤ 4294967295) (h8 : 0 ≤ id ∧ id ≤ 4294967295) (h9 : 0 ≤ ref ∧ ref ≤ 18446744073709551615) (h10 : 0 ≤ org ∧ org ≤ 18446744073709551615) (h11 : 0 ≤ rec ∧ rec ≤ 18446744073709551615) (h12 : 0 ≤ xmt ∧ xmt ≤ 18446744073709551615) (hE : grE (nchk l v m st po pr) ni L = 0) :
    Calls Tryd.prog 18 #[.pointer (some ⟨bj, 0, none⟩), .agg (tktL Ai ni ci x0 x1 x2 x3).toArray, ntp l v m st po pr rd rp id ref org rec xmt, .slice B q d, .int .u64 nonce] w fun e w' => ∃ A c n, e = .returned (.tuple #[.slice A n c, .int .i64 0]) ∧ (msgB l v m st po pr rd rp id ref org rec xmt (rpF id' (ckB s g nonce x0 x1 x2 x3) L) x2 x3).length = n ∧ Ow w' w.heap.size A c (msgB l v m st po pr rd rp id ref org rec xmt (rpF id' (ckB s g nonce x0 x1 x2 x3) L) x2 x3) ∧ Below w.heap.size w w' := by
  have hK := fun W => rnchk_any l v m st po pr rd rp id ref org rec xmt W
  obtain ⟨h1, h2, h3, h4⟩ : nchk l v m st po pr = 0 ∧ ni = 16 ∧ firE L = 0 ∧ L.length ≤ 14 := by
    rcases grE_cases (nchk l v m st po pr) ni L with ⟨h1, h2⟩ | ⟨h1, h2, h3⟩ | ⟨h1, h2, h3, h4⟩ | ⟨h1, h2, h3, h4, h5⟩ | ⟨h1, h2, h3, h4, h5⟩
    · omega
    · omega
    · omega
    · omega
    · exact ⟨h1, h2, h3, h4⟩
  have hck52 := ckB_len s g nonce x0 x1 x2 x3
  have hapx := rpF_apx (L := L) (hil.trans h2) hck52 h3 h4
  rw [h1] at hK
  have h2' : ((ni : Int) != 16) = false := by simp; omega
  have hall := Lib.hid (fir_at h3)
  have hgt : decide ((14 : Int) < q) = false := decide_eq_false (by omega)
  have hSe := fun W hJ => rseal_any bj s kk g x0 x1 x2 x3 nonce W hs hg hno hx0 hx1 hx2 hx3 hJ
  have hMs := fun B q d W hm hX hmd hd => rsealed_ok l v m st po pr rd rp id ref org rec xmt B q d (rpF id' (ckB s g nonce x0 x1 x2 x3) L) x2 x3 W h1 h6 h7 h8 h9 h10 h11 h12 hm hX hmd hd hapx hx2 hx3
  generalize ckB s g nonce x0 x1 x2 x3 = CK at hSe hMs hck52 ⊢
  have hML : Hid (L.length ≤ 14) := h4
  have HN16 := Lib.hid h2
  clear h2 h3 hE hapx
  go_enter Tryd.func18, Tryd.ntmps18
  go_wp2_with (first
    | (refine wpl_box (by rfl) 31 _ (by rfl) _ (tktL Ai ni ci x0 x1 x2 x3) (by rfl) rfl ?_; intro w1 K1 s1 b1)
    | ((refine wpl_box (by rfl) 27 _ (by rfl) _ ([.int .i64 l, .int .i64 v, .int .i64 m, .int .i64 st, .int .i64 po, .int .i64 pr, .int .u32 rd, .int .u32 rp, .int .u32 id, .int .u64 ref, .int .u64 org, .int .u64 rec, .int .u64 xmt]) (by rfl) rfl ?_; intro w2 P2 s2 b2); (have K2 := K1.below b2 (by omega)); (have B2 := b1.trans (b2.mono (by omega))))
    | (refine wpl_load (by rfl) 27 _ (by rfl) w1.heap.size (by rfl) 27 _ P2 _ Tryd.underlying27 rfl _ sizeNtp (by rfl) ?_)
    | (go_at_call 42; ((with_reducible refine (hK _).mono ?_); rintro e w3 ⟨rfl, b3⟩; (have K3 := K2.below b3 K2.lt); (have P3 := P2.below b3 P2.lt); (have B3 := B2.trans (b3.mono B2.size))))
    | (refine wpl_loadf (by rfl) 23 _ (by rfl) w.heap.size 0 (by rfl) _ _ K3 _ rfl _ Tryd.underlying23 rfl ?_))
  go_loopw [12] (fun i wr => ∃ k : Nat, k ≤ q ∧ i = .int .i64 k ∧ Below w3.heap.size w3 wr) (fun i _ => q - (intOf i).toNat)
  case atStart => exact ⟨0, by omega, rfl, Below.refl _ _⟩
  case round =>
    obtain ⟨k, hk, rfl, hB3⟩ := hrel
    have hB := B3.trans (hB3.mono B3.size)
    by_cases hlt : k < q
    · skip
      obtain ⟨bb, o, rfl, hbw, hx⟩ := (hX.below hB (Nat.le_refl _)) (by omega)
      obtain ⟨Ak, ck, hrg, hBk, hlc, hcm, hno⟩ := (hx k (by omega)).open'
      have hi0 : (0 : Int) ≤ k := by omega
      have hi1 : (k : Int) < q := by omega
      obtain ⟨K, hK⟩ : ∃ K, K = kdL L k := ⟨_, rfl⟩
      obtain ⟨D, hD⟩ : ∃ D, D = (dtL L k).length := ⟨_, rfl⟩
      rw [← hK, ← hD] at hrg
      have hck := fun W => rchk_any K Ak D ck W (by have := hsz k (by omega); omega)
      have hE0 : chkE K D = chkE (kdL L k) (dtL L k).length := by rw [hK, hD]
      clear hx hBk hlc hno hK hD
      generalize hEE : chkE K D = E at hck hE0
      have hc0 : (E != 0) = false := by
        have := hall.out k (by omega)
        rw [← hE0] at this
        simp [this]
      clear hE0 hEE
      go_wp2_with (first
        | (refine wpl_loadr (by rfl) 62 _ (by rfl) bb (o + k * 2) (by rfl) _ hrg _ Tryd.underlying62 rfl _ sizeExt (by rfl) ?_)
        | (go_at_call 43; ((with_reducible refine (hck _).mono ?_); rintro e wc ⟨rfl, bc⟩)))
      exact ⟨⟨k + 1, by omega, by go_num, hB3.trans (bc.mono hB3.size)⟩, by simp [intOf]; omega⟩
    · obtain rfl : k = q := by omega
      have K4 := K3.below hB3 K3.lt
      have P4 := P3.below hB3 P3.lt
      have J4 := hJ.below hB hJ.lt
      have I4 := hI.below hB (Nat.le_refl _)
      have X4 := hX.below hB (Nat.le_refl _)
      have z4 := hB.size
      have hK0 : wr.cell? ⟨w.heap.size, 0, none⟩ = some (.slice Ai ni ci) := K4.cell rfl
      clear K1 K2 K3 P2 P3 b1 b2 b3 B2 B3 hB3 hall hsz
      go_wp2_with fail
      refine wp_region_heldL (fun y => Blk y w.heap.size 31 (tktL Ai ni ci x0 x1 x2 x3) ∧ y.cell? ⟨w.heap.size, 0, none⟩ = some (.slice Ai ni ci)) 13 (by kernel_rfl) rfl ⟨K4.drew, hK0⟩ fun hHeld => ?_
      simp only [List.replicate]
      (refine wpH_take (i := 0) (v := _) (by simp only [List.getElem?_toArray, List.getElem?_cons_succ, List.getElem?_cons_zero]; rfl) (by kernel_rfl) (by kernel_rfl) (by kernel_rfl) (by intro _ _ _ h; exact h) (Or.inl ⟨by rfl, (by intro w' hSw; (try dsimp only at hSw); go_simp; first | done | with_reducible rfl)⟩) (by assumption) ?_; (try simp only [Act.put, List.setIfInBounds_toArray, List.set_cons_zero, List.set_cons_succ]))
      (refine wpH_take (i := 1) (v := _) (by simp only [List.getElem?_toArray, List.getElem?_cons_succ, List.getElem?_cons_zero]; rfl) (by kernel_rfl) (by kernel_rfl) (by kernel_rfl) (by intro _ _ _ h; exact h) (Or.inl ⟨by rfl, (by intro w' hSw; (try dsimp only at hSw); go_simp; first | done | with_reducible rfl)⟩) (by assumption) ?_; (try simp only [Act.put, List.setIfInBounds_toArray, List.set_cons_zero, List.set_cons_succ]))
      (refine wpH_take (i := 2) (v := _) (by simp only [List.getElem?_toArray, List.getElem?_cons_succ, List.getElem?_cons_zero]; rfl) (by kernel_rfl) (by kernel_rfl) (by kernel_rfl) (by intro _ _ _ h; exact h) (Or.inl ⟨by rfl, (by intro w' hSw; (try dsimp only at hSw); go_simp; first | done | with_reducible rfl)⟩) (by assumption) ?_; (try simp only [Act.put, List.setIfInBounds_toArray, List.set_cons_zero, List.set_cons_succ]))
      (refine wpH_take (i := 3) (v := _) (by simp only [List.getElem?_toArray, List.getElem?_cons_succ, List.getElem?_cons_zero]; rfl) (by kernel_rfl) (by kernel_rfl) (by kernel_rfl) (by intro _ _ _ h; exact h) (Or.inl ⟨by rfl, (by intro w' hSw; (try dsimp only at hSw); go_simp; first | done | with_reducible rfl)⟩) (by assumption) ?_; (try simp only [Act.put, List.setIfInBounds_toArray, List.set_cons_zero, List.set_cons_succ]))
      (refine wpH_take (i := 4) (v := _) (by simp only [List.getElem?_toArray, List.getElem?_cons_succ, List.getElem?_cons_zero]; rfl) (by kernel_rfl) (by kernel_rfl) (by kernel_rfl) (by intro _ _ _ h; exact h) (Or.inl ⟨by rfl, (by intro w' hSw; (try dsimp only at hSw); go_simp; first | done | with_reducible rfl)⟩) (by assumption) ?_; (try simp only [Act.put, List.setIfInBounds_toArray, List.set_cons_zero, List.set_cons_succ]))
      refine wpH_take (i := 5) (v := .agg (keyL x0 x1).toArray) (by simp only [List.getElem?_toArray, List.getElem?_cons_succ, List.getElem?_cons_zero]; rfl) (by kernel_rfl) (by kernel_rfl) (by kernel_rfl) (by intro _ _ _ h; exact h) (yieldsIf_load_mid (by rfl) 29 _ (by rfl) w.heap.size 1 (by rfl) (keyL x0 x1) _ (fun w' h => Blk.mid h.1 1 (keyL x0 x1) rfl) Tryd.underlying29 rfl sizeKey) (by assumption) ?_
      (try simp only [Act.put, List.setIfInBounds_toArray, List.set_cons_zero, List.set_cons_succ])
      (refine wpH_take (i := 6) (v := _) (by simp only [List.getElem?_toArray, List.getElem?_cons_succ, List.getElem?_cons_zero]; rfl) (by kernel_rfl) (by kernel_rfl) (by kernel_rfl) (by intro _ _ _ h; exact h) (Or.inl ⟨by rfl, (by intro w' hSw; (try dsimp only at hSw); go_simp; first | done | with_reducible rfl)⟩) (by assumption) ?_; (try simp only [Act.put, List.setIfInBounds_toArray, List.set_cons_zero, List.set_cons_succ]))
      refine wpH_take (i := 7) (v := .agg (keyL x2 x3).toArray) (by simp only [List.getElem?_toArray, List.getElem?_cons_succ, List.getElem?_cons_zero]; rfl) (by kernel_rfl) (by kernel_rfl) (by kernel_rfl) (by intro _ _ _ h; exact h) (yieldsIf_load_mid (by rfl) 29 _ (by rfl) w.heap.size 3 (by rfl) (keyL x2 x3) _ (fun w' h => Blk.mid h.1 3 (keyL x2 x3) rfl) Tryd.underlying29 rfl sizeKey) (by assumption) ?_
      (try simp only [Act.put, List.setIfInBounds_toArray, List.set_cons_zero, List.set_cons_succ])
      (refine wpH_take (i := 8) (v := _) (by simp only [List.getElem?_toArray, List.getElem?_cons_succ, List.getElem?_cons_zero]; rfl) (by kernel_rfl) (by kernel_rfl) (by kernel_rfl) (by intro _ _ _ h; exact h) (Or.inl ⟨by rfl, (by intro w' hSw; (try dsimp only at hSw); go_simp; first | done | with_reducible rfl)⟩) (by assumption) ?_; (try simp only [Act.put, List.setIfInBounds_toArray, List.set_cons_zero, List.set_cons_succ]))
      have hSE := hSe wr.drew J4.drew
      (refine wpH_one (i := 9) (by simp only [List.getElem?_toArray, List.getElem?_cons_succ, List.getElem?_cons_zero]; rfl) (by kernel_rfl) (by rfl) ?_; (go_simp; (with_reducible refine hSE.mono ?_); rintro e w5 ⟨A5, c5, rfl, O5, b5⟩; refine ⟨⟨K4.drew.below b5 K4.lt, (K4.drew.below b5 K4.lt).cell rfl⟩, ?_⟩); (try simp only [Act.put, List.setIfInBounds_toArray, List.set_cons_zero, List.set_cons_succ]))
      have K5 := K4.drew.below b5 K4.lt
      have P5 := P4.drew.below b5 P4.lt
      have I5 := I4.drew.below b5 z4
      have X5 := X4.below (((Below.refl _ wr).drew).trans b5) z4
      have z5 : wr.heap.size ≤ w5.heap.size := b5.size
      have B5 := hB.drew.trans (b5.mono z4)
      have hH5 : Blk w5 w.heap.size 31 (tktL Ai ni ci x0 x1 x2 x3) ∧ w5.cell? ⟨w.heap.size, 0, none⟩ = some (.slice Ai ni ci) := ⟨K5, K5.cell rfl⟩
      (refine wpH_take (i := 10) (v := _) (by simp only [List.getElem?_toArray, List.getElem?_cons_succ, List.getElem?_cons_zero]; rfl) (by kernel_rfl) (by kernel_rfl) (by kernel_rfl) (by intro _ _ _ h; exact h) (Or.inl ⟨by rfl, (by intro w' hSw; (try dsimp only at hSw); go_simp; first | done | with_reducible rfl)⟩) (by assumption) ?_; (try simp only [Act.put, List.setIfInBounds_toArray, List.set_cons_zero, List.set_cons_succ]))
      have hcc5 := O5.cap_le
      rw [hck52] at hcc5
      have hO5n : A5 ≠ none := fun e => by
        rcases O5.form with ⟨_, e2, _⟩ | ⟨r, e2, _⟩
        · rw [e2] at hck52; cases hck52
        · rw [e2] at e; cases e
      (refine wpH_one (i := 11) (by simp only [List.getElem?_toArray, List.getElem?_cons_succ, List.getElem?_cons_zero]; rfl) (by kernel_rfl) (by rfl) ?_; (go_simp; refine ⟨⟨K5.old, K5.old.cell rfl⟩, ?_⟩); (try simp only [Act.put, List.setIfInBounds_toArray, List.set_cons_zero, List.set_cons_succ]))
      obtain ⟨w6, hw6⟩ : ∃ w6, w6 = w5.alloc (.cells #[.int .i64 260, .slice Ai ni ci, .int .i64 772, .slice A5 52 c5] 62) := ⟨_, rfl⟩
      rw [← hw6]
      have b6 : Below w5.heap.size w5 w6 := by rw [hw6]; exact (Below.refl _ w5).alloc (Nat.le_refl _) _
      have N6 : Blk w6 w5.heap.size 62 [.int .i64 260, .slice Ai ni ci, .int .i64 772, .slice A5 52 c5] := by rw [hw6]; exact Blk.new w5 _ _ _ rfl
      clear hw6
      have K6 := K5.below b6 K5.lt
      have zP5 := P5.lt
      have zK5 := K5.lt
      have P6 := P5.below b6 P5.lt
      have z45 := hB.size
      have zw5 : w.heap.size ≤ w5.heap.size := by omega
      have TB := xb_two (lo := w5.heap.size) N6 (Nat.le_refl _) hil hck52 ⟨((I5.below b6 (by omega)).wide (Nat.le_refl _) zw5), by show id'.length ≤ ci; omega, hicc, by rw [hil]; exact hin⟩ ⟨(O5.bs.wide (Nat.zero_le _) (Nat.le_refl _)).below b6 (Nat.le_refl _), by show CK.length ≤ c5; omega, O5.cap_max, fun e => absurd e hO5n⟩
      have X6 := X5.below b6 (by omega)
      obtain ⟨U, hU, hUc, hUX⟩ := xs_rows_any (lo := w5.heap.size) (n := k) X6 hL hBn zw5
      have hUl : U.length = k := by rw [← flds_len, hU, hL]
      have B6 := B5.trans (b6.mono B5.size)
      have z6 := N6.lt
      have hH6 : Blk w6 w.heap.size 31 (tktL Ai ni ci x0 x1 x2 x3) ∧ w6.cell? ⟨w.heap.size, 0, none⟩ = some (.slice Ai ni ci) := ⟨K6, K6.cell rfl⟩
      (refine wpH_take (i := 12) (v := _) (by simp only [List.getElem?_toArray, List.getElem?_cons_succ, List.getElem?_cons_zero]; rfl) (by kernel_rfl) (by kernel_rfl) (by kernel_rfl) (by intro _ _ _ h; exact h) (Or.inl ⟨by rfl, (by intro w' hSw; (try dsimp only at hSw); go_simp; first | done | with_reducible rfl)⟩) (by assumption) ?_; (try simp only [Act.put, List.setIfInBounds_toArray, List.set_cons_zero, List.set_cons_succ]))
      refine wpH_done (by kernel_rfl) ?_ _
      clear hHeld hH5 hH6 K4 K5 P4 P5 J4 I4 I5 X4 X5 X6 hSE hSe B5 b5 hK0 N6 O5 hO5n
      go_wp2_with fail
      have zP := P6.lt
      have zK := K6.lt
      have z1' : w1.heap.size ≤ w6.heap.size := by omega
      generalize hq1 : w1.heap.size = n1 at *
      refine wp_region_heldL (fun y => Blk y w.heap.size 31 (tktL Ai ni ci x0 x1 x2 x3) ∧ Blk y n1 27 [.int .i64 l, .int .i64 v, .int .i64 m, .int .i64 st, .int .i64 po, .int .i64 pr, .int .u32 rd, .int .u32 rp, .int .u32 id, .int .u64 ref, .int .u64 org, .int .u64 rec, .int .u64 xmt]) 9 (by kernel_rfl) rfl ⟨K6.drew, P6.drew⟩ fun hHeld => ?_
      simp only [List.replicate]
      refine wpH_take (i := 0) (v := .agg ([.int .i64 l, .int .i64 v, .int .i64 m, .int .i64 st, .int .i64 po, .int .i64 pr, .int .u32 rd, .int .u32 rp, .int .u32 id, .int .u64 ref, .int .u64 org, .int .u64 rec, .int .u64 xmt]).toArray) (by simp only [List.getElem?_toArray, List.getElem?_cons_succ, List.getElem?_cons_zero]; rfl) (by kernel_rfl) (by kernel_rfl) (by kernel_rfl) (by intro _ _ _ h; exact h) (yieldsIf_load_mid (by rfl) 27 _ (by rfl) n1 0 (by rfl) ([.int .i64 l, .int .i64 v, .int .i64 m, .int .i64 st, .int .i64 po, .int .i64 pr, .int .u32 rd, .int .u32 rp, .int .u32 id, .int .u64 ref, .int .u64 org, .int .u64 rec, .int .u64 xmt]) _ (fun w' h => h.2.range) Tryd.underlying27 rfl sizeNtp) (by assumption) ?_
      (try simp only [Act.put, List.setIfInBounds_toArray, List.set_cons_zero, List.set_cons_succ])
      (refine wpH_take (i := 1) (v := _) (by simp only [List.getElem?_toArray, List.getElem?_cons_succ, List.getElem?_cons_zero]; rfl) (by kernel_rfl) (by kernel_rfl) (by kernel_rfl) (by intro _ _ _ h; exact h) (Or.inl ⟨by rfl, (by intro w' hSw; (try dsimp only at hSw); go_simp; first | done | with_reducible rfl)⟩) (by assumption) ?_; (try simp only [Act.put, List.setIfInBounds_toArray, List.set_cons_zero, List.set_cons_succ]))
      (refine wpH_take (i := 2) (v := _) (by simp only [List.getElem?_toArray, List.getElem?_cons_succ, List.getElem?_cons_zero]; rfl) (by kernel_rfl) (by kernel_rfl) (by kernel_rfl) (by intro _ _ _ h; exact h) (Or.inl ⟨by rfl, (by intro w' hSw; (try dsimp only at hSw); go_simp; first | done | with_reducible rfl)⟩) (by assumption) ?_; (try simp only [Act.put, List.setIfInBounds_toArray, List.set_cons_zero, List.set_cons_succ]))
      (refine wpH_take (i := 4) (v := _) (by simp only [List.getElem?_toArray, List.getElem?_cons_succ, List.getElem?_cons_zero]; rfl) (by kernel_rfl) (by kernel_rfl) (by kernel_rfl) (by intro _ _ _ h; exact h) (Or.inl ⟨by rfl, (by intro w' hSw; (try dsimp only at hSw); go_simp; first | done | with_reducible rfl)⟩) (by assumption) ?_; (try simp only [Act.put, List.setIfInBounds_toArray, List.set_cons_zero, List.set_cons_succ]))
      refine wpH_take (i := 5) (v := .agg (keyL x2 x3).toArray) (by simp only [List.getElem?_toArray, List.getElem?_cons_succ, List.getElem?_cons_zero]; rfl) (by kernel_rfl) (by kernel_rfl) (by kernel_rfl) (by intro _ _ _ h; exact h) (yieldsIf_load_mid (by rfl) 29 _ (by rfl) w.heap.size 3 (by rfl) (keyL x2 x3) _ (fun w' h => Blk.mid h.1 3 (keyL x2 x3) rfl) Tryd.underlying29 rfl sizeKey) (by assumption) ?_
      (try simp only [Act.put, List.setIfInBounds_toArray, List.set_cons_zero, List.set_cons_succ])
      (refine wpH_one (i := 3) (by simp only [List.getElem?_toArray, List.getElem?_cons_succ, List.getElem?_cons_zero]; rfl) (by kernel_rfl) (by rfl) ?_; (refine wp_append_xb (.tmp 53) (.tmp 54) (by rfl) 2 2 k d (by rfl) (by rfl) rfl hUl TB.drew (fun ad e j u hu => hUc ad e j u hu) hBn (fun t ht => (hUX t ht).drew) (by have := hML.out; omega) (Nat.le_of_lt z6) ?_; intro A7 c7 w7 X7 b7; refine ⟨⟨K6.drew.below b7 zK5, P6.drew.below b7 zP5⟩, ?_⟩); (try simp only [Act.put, List.setIfInBounds_toArray, List.set_cons_zero, List.set_cons_succ]))
      have b7' : Below w5.heap.size w6 w7 := (Below.refl _ w6).drew.trans b7
      have K7 := K6.below b7' zK5
      have P7 := P6.below b7' zP5
      have B7 := B6.trans (b7'.mono zw5)
      have hH7 : Blk w7 w.heap.size 31 (tktL Ai ni ci x0 x1 x2 x3) ∧ Blk w7 n1 27 [.int .i64 l, .int .i64 v, .int .i64 m, .int .i64 st, .int .i64 po, .int .i64 pr, .int .u32 rd, .int .u32 rp, .int .u32 id, .int .u64 ref, .int .u64 org, .int .u64 rec, .int .u64 xmt] := ⟨K7, P7⟩
      have zw7 : w5.heap.size ≤ w7.heap.size := Nat.le_trans (Nat.le_of_lt z6) b7'.size
      have XX := X7.xs zw7
      have hcap := X7.cap
      have hfl : flds ([((260, id'), (Ai, ci)), ((772, CK), (A5, c5))] ++ U) = rpF id' CK L := by
        unfold rpF
        rw [← hU]
        simp [flds]
      rw [hfl] at XX
      have hrl : (rpF id' CK L).length = 2 + k := by unfold rpF; rw [List.length_append, hL]; rfl
      rw [List.length_append] at hcap
      simp only [List.length_cons, List.length_nil, hUl] at hcap
      have hSL := hMs A7 (2 + k) c7 w7 hrl XX (by omega) hcap.2.1
      (refine wpH_one (i := 6) (by simp only [List.getElem?_toArray, List.getElem?_cons_succ, List.getElem?_cons_zero]; rfl) (by kernel_rfl) (by rfl) ?_; (go_simp; (with_reducible refine hSL.mono ?_); rintro e w8 ⟨A8, c8, N8, rfl, h8, O8, b8⟩; refine ⟨⟨K7.below b8 K7.lt, P7.below b8 P7.lt⟩, ?_⟩); (try simp only [Act.put, List.setIfInBounds_toArray, List.set_cons_zero, List.set_cons_succ]))
      have hH8 : Blk w8 w.heap.size 31 (tktL Ai ni ci x0 x1 x2 x3) ∧ Blk w8 n1 27 [.int .i64 l, .int .i64 v, .int .i64 m, .int .i64 st, .int .i64 po, .int .i64 pr, .int .u32 rd, .int .u32 rp, .int .u32 id, .int .u64 ref, .int .u64 org, .int .u64 rec, .int .u64 xmt] := ⟨K7.below b8 K7.lt, P7.below b8 P7.lt⟩
      (refine wpH_take (i := 7) (v := _) (by simp only [List.getElem?_toArray, List.getElem?_cons_succ, List.getElem?_cons_zero]; rfl) (by kernel_rfl) (by kernel_rfl) (by kernel_rfl) (by intro _ _ _ h; exact h) (Or.inl ⟨by rfl, (by intro w' hSw; (try dsimp only at hSw); go_simp; first | done | with_reducible rfl)⟩) (by assumption) ?_; (try simp only [Act.put, List.setIfInBounds_toArray, List.set_cons_zero, List.set_cons_succ]))
      (refine wpH_take (i := 8) (v := _) (by simp only [List.getElem?_toArray, List.getElem?_cons_succ, List.getElem?_cons_zero]; rfl) (by kernel_rfl) (by kernel_rfl) (by kernel_rfl) (by intro _ _ _ h; exact h) (Or.inl ⟨by rfl, (by intro w' hSw; (try dsimp only at hSw); go_simp; first | done | with_reducible rfl)⟩) (by assumption) ?_; (try simp only [Act.put, List.setIfInBounds_toArray, List.set_cons_zero, List.set_cons_succ]))
      refine wpH_done (by kernel_rfl) ?_ _
      have B8 := B7.trans (b8.mono B7.size)
      have O8' := O8.wide B7.size
      clear hHeld hH7 hH8 hSL XX X7 hfl hMs K6 K7 P6 P7 TB hUc hUX
      go_wp2_with fail
      go_ret2
      exact ⟨A8, c8, N8, rfl, h8, O8', B8⟩
end Go.Proofs.YtachhbbofemfdaaDoor
namespace Go.Proofs.YtachhbbofemfdaaDoor
open Go.RowKit
set_option linter.unusedSimpArgs false
set_option linter.unusedVariables false
set_option maxRecDepth 100000
/-- what both Replies return -/
def RpB (s kk g x0 x1 x2 x3 : Int) (l v m st po pr rd rp id ref org rec xmt nonce : Int) (L : Flds) (id' : List Int) (E : Int) (M : List Int) : Prop :=
  (∀ (bj : Nat) (Ai : Option Addr) (ni ci : Nat) (B : Option Addr) (q d : Nat) (w : World), Blk w bj 84 (jarL s kk g) → Rnd w → L.length = q → Xs w w.heap.size B L → q ≤ d → d ≤ 9223372036854775807 → (∀ k, k < q → (dtL L k).length ≤ 140737488351232) → (B = none → q = 0) → Bs w 0 w.heap.size Ai id' → id'.length = ni → ni ≤ ci → ci ≤ 9223372036854775807 → (Ai = none → ni = 0 ∧ ci = 0) →
    Calls Tryd.prog 17 #[.pointer (some ⟨bj, 0, none⟩), .agg (tktL Ai ni ci x0 x1 x2 x3).toArray, ntp l v m st po pr rd rp id ref org rec xmt, .slice B q d, .int .u64 nonce] w fun e w' => ∃ A c, e = .returned (.tuple #[.slice A M.length c, .int .i64 E]) ∧ Ow w' w.heap.size A c M ∧ Below w.heap.size w w') ∧
  (∀ (bj : Nat) (Ai : Option Addr) (ni ci : Nat) (B : Option Addr) (q d : Nat) (w : World), Blk w bj 89 (jarL s kk g) → L.length = q → Xs w w.heap.size B L → q ≤ d → d ≤ 9223372036854775807 → (∀ k, k < q → (dtL L k).length ≤ 140737488351232) → (B = none → q = 0) → Bs w 0 w.heap.size Ai id' → id'.length = ni → ni ≤ ci → ci ≤ 9223372036854775807 → (Ai = none → ni = 0 ∧ ci = 0) →
    Calls Tryd.prog 18 #[.pointer (some ⟨bj, 0, none⟩), .agg (tktL Ai ni ci x0 x1 x2 x3).toArray, ntp l v m st po pr rd rp id ref org rec xmt, .slice B q d, .int .u64 nonce] w fun e w' => ∃ A c, e = .returned (.tuple #[.slice A M.length c, .int .i64 E]) ∧ Ow w' w.heap.size A c M ∧ Below w.heap.size w w')
theorem reply_both (s kk g x0 x1 x2 x3 : Int) (l v m st po pr rd rp id ref org rec xmt nonce : Int) (L : Flds) (id' : List Int) (h6 : 0 ≤ rd ∧ rd ≤ 4294967295) (h7 : 0 ≤ rp ∧ rp ≤ 4294967295) (h8 : 0 ≤ id ∧ id ≤ 4294967295) (h9 : 0 ≤ ref ∧ ref ≤ 18446744073709551615) (h10 : 0 ≤ org ∧ org ≤ 18446744073709551615) (h11 : 0 ≤ rec ∧ rec ≤ 18446744073709551615) (h12 : 0 ≤ xmt ∧ xmt ≤ 18446744073709551615) (hs : U64 s) (hg : Gn g) (hno : U64 nonce) (hx0 : U64 x0) (hx1 : U64 x1) (hx2 : U64 x2) (hx3 : U64 x3) :
    ∃ E M, RpB s kk g x0 x1 x2 x3 l v m st po pr rd rp id ref org rec xmt nonce L id' E M ∧ M.length ≤ 1000000 := by
  by_cases hE : grE (nchk l v m st po pr) id'.length L = 0
  · refine ⟨0, msgB l v m st po pr rd rp id ref org rec xmt (rpF id' (ckB s g nonce x0 x1 x2 x3) L) x2 x3, ⟨fun bj Ai ni ci B q d w hJ hR hL hX hqd hd hsz hB hI hil hic hicc hin => ?_, fun bj Ai ni ci B q d w hJ hL hX hqd hd hsz hB hI hil hic hicc hin => ?_⟩, ?_⟩
    · subst hil
      exact (greply_ok bj Ai _ ci x0 x1 x2 x3 l v m st po pr rd rp id ref org rec xmt nonce B q d L w hL hX hqd hd hsz s kk g id' hJ hs hg hR hno hx0 hx1 hx2 hx3 hB hI rfl hic hicc hin h6 h7 h8 h9 h10 h11 h12 hE).mono fun e w' ⟨A, c, n, h1, h2, h3⟩ => by
        subst h2
        exact ⟨A, c, h1, h3⟩
    · subst hil
      exact (rgreply_ok bj Ai _ ci x0 x1 x2 x3 l v m st po pr rd rp id ref org rec xmt nonce B q d L w hL hX hqd hd hsz s kk g id' hJ hs hg hno hx0 hx1 hx2 hx3 hB hI rfl hic hicc hin h6 h7 h8 h9 h10 h11 h12 hE).mono fun e w' ⟨A, c, n, h1, h2, h3⟩ => by
        subst h2
        exact ⟨A, c, h1, h3⟩
    · rcases grE_cases (nchk l v m st po pr) id'.length L with ⟨h1, h2⟩ | ⟨h1, h2, h3⟩ | ⟨h1, h2, h3, h4⟩ | ⟨h1, h2, h3, h4, h5⟩ | ⟨h1, h2, h3, h4, h5⟩
      · omega
      · omega
      · omega
      · omega
      · have := flds_small (rpF_apx (L := L) h2 (ckB_len s g nonce x0 x1 x2 x3) h3 h4)
        rw [msgB_len]
        omega
  · refine ⟨grE (nchk l v m st po pr) id'.length L, [], ⟨fun bj Ai ni ci B q d w hJ hR hL hX hqd hd hsz hB hI hil hic hicc hin => ?_, fun bj Ai ni ci B q d w hJ hL hX hqd hd hsz hB hI hil hic hicc hin => ?_⟩, by simp⟩
    · subst hil
      exact (greply_err bj Ai _ ci x0 x1 x2 x3 l v m st po pr rd rp id ref org rec xmt nonce B q d L w hL hX hqd hd hsz hE).mono fun e w' ⟨h1, h2⟩ => ⟨none, 0, h1, Ow.nil _ _, h2⟩
    · subst hil
      exact (rgreply_err bj Ai _ ci x0 x1 x2 x3 l v m st po pr rd rp id ref org rec xmt nonce B q d L w hL hX hqd hd hsz hE).mono fun e w' ⟨h1, h2⟩ => ⟨none, 0, h1, Ow.nil _ _, h2⟩
/-- one call of GuardRuns -/
structure OpT where
  kd : Int
  n : Int
  l : Int
  v : Int
  m : Int
  st : Int
  po : Int
  pr : Int
  rd : Int
  rp : Int
  id : Int
  ref : Int
  org : Int
  rc : Int
  xmt : Int
  nonce : Int
  L : Flds
  b : List Int
def opZ : OpT := ⟨0, 0, 0, 0, 0, 0, 0, 0, 0, 0, 0, 0, 0, 0, 0, 0, [], []⟩
def opAt (T : List OpT) (k : Nat) : OpT := T.getD k opZ
abbrev opC (kd n l v m st po pr rd rp id ref org rec xmt nonce : Int) (A : Option Addr) (na ca : Nat) (B : Option Addr) (nb cb : Nat) : List Value := [.int .u8 kd, .int .i64 n, .int .i64 l, .int .i64 v, .int .i64 m, .int .i64 st, .int .i64 po, .int .i64 pr, .int .u32 rd, .int .u32 rp, .int .u32 id, .int .u64 ref, .int .u64 org, .int .u64 rec, .int .u64 xmt, .int .u64 nonce, .slice A na ca, .slice B nb cb]
abbrev opCt (t : OpT) (A : Option Addr) (ca : Nat) (B : Option Addr) (cb : Nat) : List Value := opC t.kd t.n t.l t.v t.m t.st t.po t.pr t.rd t.rp t.id t.ref t.org t.rc t.xmt t.nonce A t.L.length ca B t.b.length cb
theorem sizeOp : (Tryd.prog.info? 45).map (·.size) = some 18 := by kernel_rfl
theorem zeroOp : (Tryd.prog.info? 45).map (·.zero) = some (some (.agg (opC 0 0 0 0 0 0 0 0 0 0 0 0 0 0 0 0 none 0 0 none 0 0).toArray)) := by kernel_rfl
/-- a call's cells, its fields and its bytes in blocks below hi -/
def Opd (w : World) (hi b o : Nat) (t : OpT) : Prop :=
  ∃ A ca B cb, w.rangeAt b o (opCt t A ca B cb) ∧ (Xs w hi A t.L ∧ t.L.length ≤ ca ∧ ca ≤ 9223372036854775807 ∧ (A = none → t.L.length = 0)) ∧ Bs w 0 hi B t.b ∧ t.b.length ≤ cb ∧ cb ≤ 9223372036854775807 ∧ (B = none → t.b.length = 0 ∧ cb = 0)
def Opl (w : World) (hi : Nat) (A : Option Addr) (T : List OpT) : Prop :=
  0 < T.length → ∃ b o, A = some ⟨b, o, none⟩ ∧ b < hi ∧ ∀ k, k < T.length → Opd w hi b (o + k * 18) (opAt T k)
theorem Opd.below {w w' : World} {hi b o B : Nat} {t : OpT} (h : Opd w hi b o t) (hb : Below B w w') (h1 : hi ≤ B) (h2 : b < B) : Opd w' hi b o t := by
  obtain ⟨A, ca, D, cb, hr, ⟨hX, q1, q2, q3⟩, hB, q4⟩ := h
  exact ⟨A, ca, D, cb, range_below hr hb h2, ⟨hX.below hb h1, q1, q2, q3⟩, hB.below hb h1, q4⟩
theorem Opl.below {w w' : World} {hi B : Nat} {A : Option Addr} {T : List OpT} (h : Opl w hi A T) (hb : Below B w w') (h1 : hi ≤ B) : Opl w' hi A T := fun hn => by
  obtain ⟨b, o, e, h2, hc⟩ := h hn
  exact ⟨b, o, e, h2, fun k hk => (hc k hk).below hb h1 (by omega)⟩
def fewL (L : Flds) : Bool := L.all fun t => decide (t.2.length ≤ 300)
def okO (t : OpT) : Bool := decide (t.b.length ≤ 2000) && decide (t.L.length ≤ 20) && fewL t.L
def modB (T : List OpT) : Bool := T.all okO && decide (T.length ≤ 40)
theorem opAt_get {T : List OpT} {k : Nat} (h : k < T.length) : opAt T k = T[k] := by
  unfold opAt
  rw [List.getD_eq_getElem?_getD, List.getElem?_eq_getElem h]
  rfl
theorem mod_no {T : List OpT} {k : Nat} (hk : k < T.length) (h : okO (opAt T k) = false) : modB T = false := by
  unfold modB
  rw [Bool.and_eq_false_iff]
  left
  rw [List.all_eq_false]
  exact ⟨_, List.getElem_mem hk, by rw [← opAt_get hk, h]; simp⟩
theorem mod_len {T : List OpT} (h : ∀ j, j < T.length → okO (opAt T j) = true) : modB T = decide (T.length ≤ 40) := by
  unfold modB
  have : T.all okO = true := List.all_eq_true.2 fun t ht => by
    obtain ⟨i, hi, rfl⟩ := List.mem_iff_getElem.1 ht
    rw [← opAt_get hi]
    exact h i hi
  rw [this, Bool.true_and]
theorem mod_yes {T : List OpT} (h : modB T = true) : T.length ≤ 40 ∧ ∀ j, j < T.length → okO (opAt T j) = true := by
  unfold modB at h
  rw [Bool.and_eq_true] at h
  refine ⟨by simpa using h.2, fun j hj => ?_⟩
  rw [opAt_get hj]
  exact List.all_eq_true.1 h.1 _ (List.getElem_mem hj)
theorem fewL_no {L : Flds} {k : Nat} (hk : k < L.length) (h : 300 < (dtL L k).length) : fewL L = false := by
  unfold fewL
  rw [List.all_eq_false]
  refine ⟨_, List.getElem_mem hk, ?_⟩
  rw [(kd_get hk).2] at h
  simp
  omega
theorem fewL_yes {L : Flds} (h : ∀ j, j < L.length → (dtL L j).length ≤ 300) : fewL L = true := by
  unfold fewL
  refine List.all_eq_true.2 fun t ht => ?_
  obtain ⟨i, hi, rfl⟩ := List.mem_iff_getElem.1 ht
  have := h i hi
  rw [(kd_get hi).2] at this
  simpa using this
theorem fewL_dt {L : Flds} (h : fewL L = true) : ∀ j, j < L.length → (dtL L j).length ≤ 300 := fun j hj => by
  rw [(kd_get hj).2]
  simpa using List.all_eq_true.1 h _ (List.getElem_mem hj)
theorem okO_yes {t : OpT} (h : okO t = true) : t.b.length ≤ 2000 ∧ t.L.length ≤ 20 ∧ fewL t.L = true := by
  unfold okO at h
  simp only [Bool.and_eq_true, decide_eq_true_eq] at h
  exact ⟨h.1.1, h.1.2, h.2⟩
set_option maxRecDepth 100000 in
set_option maxHeartbeats 8000000 in
theorem mod_any (A : Option Addr) (n c : Nat) (T : List OpT) (w : World) (hn : T.length = n) (h : Opl w w.heap.size A T) (hnc : n ≤ c) (hc : c ≤ 9223372036854775807) :
    Calls Tryd.prog 16 #[.slice A n c] w fun e w' => e = .returned (.bool (modB T)) ∧ Below w.heap.size w w' := by
  have HNo : Hid (∀ k, k < n → okO (opAt T k) = false → modB T = false) := fun k hk he => mod_no (by omega) he
  have HYes : Hid ((∀ k, k < n → okO (opAt T k) = true) → modB T = decide ((n : Int) ≤ 40)) := fun hh => by
    rw [mod_len (fun j hj => hh j (by omega)), hn]
    congr 1
    simp
    omega
  generalize modB T = MB at HNo HYes ⊢
  have HN := Lib.hid hn
  clear hn
  go_enter Tryd.func16, Tryd.ntmps16
  go_wp2
  go_loopw [9] (fun i wr => ∃ k : Nat, k ≤ n ∧ i = .int .i64 k ∧ Hid (∀ j, j < k → okO (opAt T j) = true) ∧ Below w.heap.size w wr) (fun i _ => n - (intOf i).toNat)
  case atStart => exact ⟨0, by omega, rfl, fun j hj => absurd hj (by omega), Below.refl _ _⟩
  case round =>
    obtain ⟨k, hk, rfl, hV, hBw⟩ := hrel
    by_cases hlt : k < n
    · obtain ⟨b, o, rfl, hbw, hx⟩ := (h.below hBw (Nat.le_refl _)) (by rw [HN.out]; omega)
      obtain ⟨Ak, ca, Bk, cb, hrg, ⟨hX, q1, q2, q3⟩, _, _, _, _⟩ := hx k (by rw [HN.out]; omega)
      have hNk := HNo.out k hlt
      have hi0 : (0 : Int) ≤ k := by omega
      have hi1 : (k : Int) < n := by omega
      obtain ⟨t, ht⟩ : ∃ t, t = opAt T k := ⟨_, rfl⟩
      rw [← ht] at hrg hX q1 q3 hNk
      have HT := Lib.hid ht
      clear ht hx
      obtain ⟨kd, nn, l, v, m, st, po, pr, rd, rp, id, ref, org, rec, xmt, nonce, L, bb⟩ := t
      dsimp only [opCt] at hrg hX q1 q3
      obtain ⟨NB, hNB⟩ : ∃ NB, bb.length = NB := ⟨_, rfl⟩
      obtain ⟨NL, hNL⟩ : ∃ NL, L.length = NL := ⟨_, rfl⟩
      rw [hNB, hNL] at hrg
      rw [hNL] at q1 q3
      have hOk : okO ⟨kd, nn, l, v, m, st, po, pr, rd, rp, id, ref, org, rec, xmt, nonce, L, bb⟩ = (decide (NB ≤ 2000) && decide (NL ≤ 20) && fewL L) := by unfold okO; rw [hNB, hNL]
      rw [hOk] at hNk
      have HO := Lib.hid hOk
      have HNL := Lib.hid hNL
      clear hOk hNB hNL
      by_cases hb1 : NB ≤ 2000
      · by_cases hb2 : NL ≤ 20
        · have d1 : decide ((2000 : Int) < NB) = false := decide_eq_false (by omega)
          have d2 : decide ((20 : Int) < NL) = false := decide_eq_false (by omega)
          have hNk' : fewL L = false → MB = false := fun e => hNk (by rw [e]; simp)
          have HNk := Lib.hid hNk'
          have HO' : Hid (fewL L = true → okO ⟨kd, nn, l, v, m, st, po, pr, rd, rp, id, ref, org, rec, xmt, nonce, L, bb⟩ = true) := fun e => by rw [HO.out, e]; simp [hb1, hb2]
          clear hNk hNk' hb1 HO
          go_wp2_with (first
            | (refine wpl_loadr (by rfl) 45 _ (by rfl) b (o + k * 18) (by rfl) _ hrg _ Tryd.underlying45 rfl _ sizeOp (by rfl) ?_)
            | (refine wpl_alloc (by rfl) 45 (by rfl) (.agg (opC 0 0 0 0 0 0 0 0 0 0 0 0 0 0 0 0 none 0 0 none 0 0).toArray) (opC 0 0 0 0 0 0 0 0 0 0 0 0 0 0 0 0 none 0 0 none 0 0) zeroOp rfl ?_; intro wa Ja sa ba)
            | (refine wpl_store (by rfl) 45 _ _ (by rfl) wr.heap.size (by rfl) _ (by rfl) _ rfl 45 _ Ja (by rfl) _ sizeOp (by rfl) (by simp [Value.oneCell']) ?_; intro wb Jb sb gb)
            | (refine wpl_loadf (by rfl) 23 _ (by rfl) wr.heap.size 17 (by rfl) _ _ Jb _ rfl _ Tryd.underlying23 rfl ?_)
            | (refine wpl_loadf (by rfl) 42 _ (by rfl) wr.heap.size 16 (by rfl) _ _ Jb _ rfl _ Tryd.underlying42 rfl ?_))
          have B2 : Below w.heap.size w wb := (hBw.trans (ba.mono hBw.size)).trans (gb.below (hBw.trans (ba.mono hBw.size)).size hBw.size)
          have X2 := hX.below ((ba.mono hBw.size).trans (gb.below (B := w.heap.size) (Nat.le_trans hBw.size ba.size) hBw.size)) (Nat.le_refl _)
          clear hrg hX Ja Jb ba gb sa sb
          go_loopw [26] (fun i wx => ∃ j : Nat, j ≤ NL ∧ i = .int .i64 j ∧ Hid (∀ q, q < j → (dtL L q).length ≤ 300) ∧ Below w.heap.size w wx ∧ Below w.heap.size wb wx) (fun i _ => NL - (intOf i).toNat)
          case atStart => exact ⟨0, by omega, rfl, fun j hj => absurd hj (by omega), B2, Below.refl _ _⟩
          case round =>
            obtain ⟨j, hj, rfl, hW, hBx, hBy⟩ := hrel
            by_cases hjl : j < NL
            · obtain ⟨b2, o2, rfl, hbw2, hx2⟩ := (X2.below hBy (Nat.le_refl _)) (by rw [HNL.out]; omega)
              obtain ⟨Aj, cj, hrg2, _, _, _, _⟩ := (hx2 j (by rw [HNL.out]; omega)).open'
              have hj0 : (0 : Int) ≤ j := by omega
              have hj1 : (j : Int) < NL := by omega
              obtain ⟨D, hD⟩ : ∃ D, (dtL L j).length = D := ⟨_, rfl⟩
              rw [hD] at hrg2
              generalize kdL L j = K at hrg2
              have HD := Lib.hid hD
              clear hD hx2
              by_cases hD3 : D ≤ 300
              · have d3 : decide ((300 : Int) < D) = false := decide_eq_false (by omega)
                have hW' : Hid (∀ q, q < j + 1 → (dtL L q).length ≤ 300) := fun q hq => by
                  rcases Nat.lt_or_ge q j with h1 | h1
                  · exact hW.out q h1
                  · obtain rfl : q = j := by omega
                    rw [HD.out]; exact hD3
                clear hD3
                go_wp2_with (first
                  | (refine wpl_loadr (by rfl) 62 _ (by rfl) b2 (o2 + j * 2) (by rfl) _ hrg2 _ Tryd.underlying62 rfl _ sizeExt (by rfl) ?_)
                  | (refine wpl_alloc (by rfl) 62 (by rfl) (.agg (exC 0 none 0 0).toArray) (exC 0 none 0 0) zeroExt rfl ?_; intro wc Jc sc bc)
                  | (refine wpl_store (by rfl) 62 _ _ (by rfl) wr.heap.size (by rfl) _ (by rfl) _ rfl 62 _ Jc (by rfl) _ sizeExt (by rfl) (by simp [Value.oneCell']) ?_; intro wd Jd sd gd)
                  | (refine wpl_loadf (by rfl) 23 _ (by rfl) wr.heap.size 1 (by rfl) _ _ Jd _ rfl _ Tryd.underlying23 rfl ?_))
                exact ⟨⟨j + 1, by omega, by go_num, hW', (hBx.trans (bc.mono hBx.size)).trans (gd.below (hBx.trans (bc.mono hBx.size)).size hBx.size), (hBy.trans (bc.mono hBx.size)).trans (gd.below (hBx.trans (bc.mono hBx.size)).size hBx.size)⟩, by simp [intOf]; omega⟩
              · have d3 : decide ((300 : Int) < D) = true := decide_eq_true (by omega)
                have hMB : MB = false := HNk.out (fewL_no (k := j) (by rw [HNL.out]; omega) (by rw [HD.out]; omega))
                clear hD3
                go_wp2_with (first
                  | (refine wpl_loadr (by rfl) 62 _ (by rfl) b2 (o2 + j * 2) (by rfl) _ hrg2 _ Tryd.underlying62 rfl _ sizeExt (by rfl) ?_)
                  | (refine wpl_alloc (by rfl) 62 (by rfl) (.agg (exC 0 none 0 0).toArray) (exC 0 none 0 0) zeroExt rfl ?_; intro wc Jc sc bc)
                  | (refine wpl_store (by rfl) 62 _ _ (by rfl) wr.heap.size (by rfl) _ (by rfl) _ rfl 62 _ Jc (by rfl) _ sizeExt (by rfl) (by simp [Value.oneCell']) ?_; intro wd Jd sd gd)
                  | (refine wpl_loadf (by rfl) 23 _ (by rfl) wr.heap.size 1 (by rfl) _ _ Jd _ rfl _ Tryd.underlying23 rfl ?_))
                go_ret
                exact ⟨by rw [hMB]; rfl, (hBx.trans (bc.mono hBx.size)).trans (gd.below (hBx.trans (bc.mono hBx.size)).size hBx.size)⟩
            · obtain rfl : j = NL := by omega
              have hV' : Hid (∀ q, q < k + 1 → okO (opAt T q) = true) := fun q hq => by
                rcases Nat.lt_or_ge q k with h1 | h1
                · exact hV.out q h1
                · obtain rfl : q = k := by omega
                  rw [← HT.out]
                  exact HO'.out (fewL_yes (by rw [HNL.out]; exact hW.out))
              go_wp2
              exact ⟨⟨k + 1, by omega, by go_num, hV', hBx⟩, by simp [intOf]; omega⟩
        · have d1 : decide ((2000 : Int) < NB) = false := decide_eq_false (by omega)
          have d2 : decide ((20 : Int) < NL) = true := decide_eq_true (by omega)
          have hMB : MB = false := hNk (by simp; omega)
          clear hNk hb1 hb2 HO
          go_wp2_with (first
            | (refine wpl_loadr (by rfl) 45 _ (by rfl) b (o + k * 18) (by rfl) _ hrg _ Tryd.underlying45 rfl _ sizeOp (by rfl) ?_)
            | (refine wpl_alloc (by rfl) 45 (by rfl) (.agg (opC 0 0 0 0 0 0 0 0 0 0 0 0 0 0 0 0 none 0 0 none 0 0).toArray) (opC 0 0 0 0 0 0 0 0 0 0 0 0 0 0 0 0 none 0 0 none 0 0) zeroOp rfl ?_; intro wa Ja sa ba)
            | (refine wpl_store (by rfl) 45 _ _ (by rfl) wr.heap.size (by rfl) _ (by rfl) _ rfl 45 _ Ja (by rfl) _ sizeOp (by rfl) (by simp [Value.oneCell']) ?_; intro wb Jb sb gb)
            | (refine wpl_loadf (by rfl) 23 _ (by rfl) wr.heap.size 17 (by rfl) _ _ Jb _ rfl _ Tryd.underlying23 rfl ?_)
            | (refine wpl_loadf (by rfl) 42 _ (by rfl) wr.heap.size 16 (by rfl) _ _ Jb _ rfl _ Tryd.underlying42 rfl ?_))
          go_ret
          exact ⟨by rw [hMB]; rfl, (hBw.trans (ba.mono hBw.size)).trans (gb.below (hBw.trans (ba.mono hBw.size)).size hBw.size)⟩
      · have d1 : decide ((2000 : Int) < NB) = true := decide_eq_true (by omega)
        have hMB : MB = false := hNk (by simp; omega)
        clear hNk hb1 HO
        go_wp2_with (first
          | (refine wpl_loadr (by rfl) 45 _ (by rfl) b (o + k * 18) (by rfl) _ hrg _ Tryd.underlying45 rfl _ sizeOp (by rfl) ?_)
          | (refine wpl_alloc (by rfl) 45 (by rfl) (.agg (opC 0 0 0 0 0 0 0 0 0 0 0 0 0 0 0 0 none 0 0 none 0 0).toArray) (opC 0 0 0 0 0 0 0 0 0 0 0 0 0 0 0 0 none 0 0 none 0 0) zeroOp rfl ?_; intro wa Ja sa ba)
          | (refine wpl_store (by rfl) 45 _ _ (by rfl) wr.heap.size (by rfl) _ (by rfl) _ rfl 45 _ Ja (by rfl) _ sizeOp (by rfl) (by simp [Value.oneCell']) ?_; intro wb Jb sb gb)
          | (refine wpl_loadf (by rfl) 23 _ (by rfl) wr.heap.size 17 (by rfl) _ _ Jb _ rfl _ Tryd.underlying23 rfl ?_)
          | (refine wpl_loadf (by rfl) 42 _ (by rfl) wr.heap.size 16 (by rfl) _ _ Jb _ rfl _ Tryd.underlying42 rfl ?_))
        go_ret
        exact ⟨by rw [hMB]; rfl, (hBw.trans (ba.mono hBw.size)).trans (gb.below (hBw.trans (ba.mono hBw.size)).size hBw.size)⟩
    · obtain rfl : k = n := by omega
      have hMB := HYes.out hV.out
      go_wp2
      go_ret
      exact ⟨by rw [hMB]; rfl, hBw⟩
end Go.Proofs.YtachhbbofemfdaaDoor
namespace Go.Proofs.YtachhbbofemfdaaDoor
open Go.RowKit
set_option linter.unusedSimpArgs false
set_option linter.unusedVariables false
set_option maxRecDepth 100000
theorem opl_one {w : World} {hi b : Nat} {t : OpT} {A B : Option Addr} {ca cb : Nat} {T' : TypeId} (h : Blk w b T' (opCt t A ca B cb)) (hb : b < hi) (hX : Xs w hi A t.L) (q1 : t.L.length ≤ ca) (q2 : ca ≤ 9223372036854775807) (q3 : A = none → t.L.length = 0) (hB : Bs w 0 hi B t.b) (q4 : t.b.length ≤ cb) (q5 : cb ≤ 9223372036854775807) (q6 : B = none → t.b.length = 0 ∧ cb = 0) : Opl w hi (some ⟨b, 0, none⟩) [t] := fun _ => by
  refine ⟨b, 0, rfl, hb, fun k hk => ?_⟩
  obtain rfl : k = 0 := by simpa using hk
  exact ⟨A, ca, B, cb, h.range, ⟨hX, q1, q2, q3⟩, hB, q4, q5, q6⟩
def opF (L : Flds) : OpT := ⟨0, 0, 0, 0, 0, 0, 0, 0, 0, 0, 0, 0, 0, 0, 0, 0, L, []⟩
set_option maxRecDepth 100000 in
set_option maxHeartbeats 16000000 in
theorem replies47 (s : Int) (Ai : Option Addr) (ni ci : Nat) (x0 x1 x2 x3 : Int) (l v m st po pr rd rp id ref org rec xmt nonce : Int) (B : Option Addr) (q d : Nat) (L : Flds) (id' : List Int) (w : World) (hs : U64 s) (hno : U64 nonce) (hx0 : U64 x0) (hx1 : U64 x1) (hx2 : U64 x2) (hx3 : U64 x3) (h6 : 0 ≤ rd ∧ rd ≤ 4294967295) (h7 : 0 ≤ rp ∧ rp ≤ 4294967295) (h8 : 0 ≤ id ∧ id ≤ 4294967295) (h9 : 0 ≤ ref ∧ ref ≤ 18446744073709551615) (h10 : 0 ≤ org ∧ org ≤ 18446744073709551615) (h11 : 0 ≤ rec ∧ rec ≤ 18446744073709551615) (h12 : 0 ≤ xmt ∧ xmt ≤ 18446744073709551615) (hL : L.length = q) (hX : Xs w w.heap.size B L) (hqd : q ≤ d) (hd : d ≤ 9223372036854775807) (hB : B = none → q = 0) (hI : Bs w 0 w.heap.size Ai id') (hil : id'.length = ni) (hic : ni ≤ ci) (hicc : ci ≤ 9223372036854775807) (hin : Ai = none → ni = 0 ∧ ci = 0) (hR : Rnd w) :
    Calls Tryd.prog 4 #[.int .u64 s, .agg (tktL Ai ni ci x0 x1 x2 x3).toArray, ntp l v m st po pr rd rp id ref org rec xmt, .slice B q d, .int .u64 nonce] w fun e w' => e = .returned (.bool true) ∧ Below w.heap.size w w' := by
  by_cases hm : ni ≤ 300
  · have hm' : decide ((300 : Int) < ni) = false := decide_eq_false (by omega)
    obtain ⟨E, M, ⟨hP, hQ⟩, hM⟩ := reply_both s 2 1 x0 x1 x2 x3 l v m st po pr rd rp id ref org rec xmt nonce L id' h6 h7 h8 h9 h10 h11 h12 hs ⟨by omega, by omega⟩ hno hx0 hx1 hx2 hx3
    obtain ⟨N, hN⟩ : ∃ N, M.length = N := ⟨_, rfl⟩
    rw [hN] at hP hQ
    have HN := Lib.hid hN
    have hIe := eqB_self M
    have hMo := fun W A hO => mod_any A 1 1 [opF L] W rfl hO (by omega) (by omega)
    have hYes : modB [opF L] = true → L.length ≤ 20 ∧ ∀ k, k < L.length → (dtL L k).length ≤ 300 := fun e => by
      obtain ⟨_, h⟩ := mod_yes e
      obtain ⟨_, h2, h3⟩ := okO_yes (h 0 (by simp))
      exact ⟨h2, fewL_dt h3⟩
    generalize modB [opF L] = MB at hMo hYes
    have HL := Lib.hid hL
    have HI := Lib.hid hil
    clear hN hm hL hil h6 h7 h8 h9 h10 h11 h12
    go_enter Tryd.func4, Tryd.ntmps4
    go_wp2_with (first
      | (refine wpl_box (by rfl) 31 _ (by rfl) _ (tktL Ai ni ci x0 x1 x2 x3) (by rfl) rfl ?_; intro w1 K1 s1 b1)
      | ((refine wpl_box (by rfl) 27 _ (by rfl) _ ([.int .i64 l, .int .i64 v, .int .i64 m, .int .i64 st, .int .i64 po, .int .i64 pr, .int .u32 rd, .int .u32 rp, .int .u32 id, .int .u64 ref, .int .u64 org, .int .u64 rec, .int .u64 xmt]) (by rfl) rfl ?_; intro w2 P2 s2 b2); (have K2 := K1.below b2 (by omega)); (have B2 := b1.trans (b2.mono (by omega))))
      | (refine wpl_loadf (by rfl) 23 _ (by rfl) w.heap.size 0 (by rfl) _ _ K2 _ rfl _ Tryd.underlying23 rfl ?_))
    obtain ⟨w3, hw3⟩ : ∃ w3, w3 = w2.alloc (.cells #[.int .u8 0, .int .i64 0, .int .i64 0, .int .i64 0, .int .i64 0, .int .i64 0, .int .i64 0, .int .i64 0, .int .u32 0, .int .u32 0, .int .u32 0, .int .u64 0, .int .u64 0, .int .u64 0, .int .u64 0, .int .u64 0, .slice B q d, .slice none 0 0] 45) := ⟨_, rfl⟩
    rw [← hw3]
    have b3 : Below w2.heap.size w2 w3 := by rw [hw3]; exact (Below.refl _ w2).alloc (Nat.le_refl _) _
    have O3 : Blk w3 w2.heap.size 45 (opCt (opF L) B d none 0) := by
      rw [hw3]
      show Blk _ _ _ (opC 0 0 0 0 0 0 0 0 0 0 0 0 0 0 0 0 B L.length d none 0 0)
      rw [HL.out]
      exact Blk.new w2 _ _ _ rfl
    clear hw3
    have z3 := O3.lt
    have B3 := B2.trans (b3.mono B2.size)
    have K3 := K2.below b3 K2.lt
    have P3 := P2.below b3 P2.lt
    have hC := hMo w3 _ (opl_one O3 z3 ((hX.below B3 (Nat.le_refl _)).wide B3.size) (by show L.length ≤ d; rw [HL.out]; exact hqd) hd (fun e => (HL.out.trans (hB e) : L.length = 0)) Bs.nil (Nat.le_refl 0) (by omega) (fun _ => ⟨rfl, rfl⟩))
    with_reducible refine hC.mono ?_
    rintro e w4 ⟨rfl, b4⟩
    have B4 := B3.trans (b4.mono B3.size)
    have K4 := K3.below b4 K3.lt
    have P4 := P3.below b4 P3.lt
    have z14 : w1.heap.size < w4.heap.size := P4.lt
    clear hC hMo K1 K2 K3 P2 P3 O3 b1 b2 b3 b4 B2 B3 s2 z3
    cases MB with
    | false =>
      clear hP hQ
      go_wp2_with (first
        | (go_at_call 10; ((with_reducible refine (awake_any _ (hR.below B4 hR.lt)).mono ?_); rintro e w13 ⟨rfl, b13⟩)))
      go_ret
      exact ⟨rfl, B4.trans (b13.mono B4.size)⟩
    | true =>
      obtain ⟨hL20, hL300⟩ := hYes rfl
      have hsz : ∀ k, k < q → (dtL L k).length ≤ 140737488351232 := fun k hk => Nat.le_trans (hL300 k (by rw [HL.out]; exact hk)) (by omega)
      have HS := Lib.hid hsz
      have hz4 : w4.drew.heap.size = w4.heap.size := rfl
      have hN5 := new_some s 2 w4.drew (by omega) (by omega)
      rw [hz4] at hN5
      have hwz : w.heap.size < w1.heap.size := s1
      clear hL20 hL300 hsz hYes
      generalize hn1 : w1.heap.size = n1 at *
      go_wp2_with fail
      refine wp_region_heldL (fun y => Blk y w.heap.size 31 (tktL Ai ni ci x0 x1 x2 x3) ∧ Blk y n1 27 [.int .i64 l, .int .i64 v, .int .i64 m, .int .i64 st, .int .i64 po, .int .i64 pr, .int .u32 rd, .int .u32 rp, .int .u32 id, .int .u64 ref, .int .u64 org, .int .u64 rec, .int .u64 xmt]) 12 (by kernel_rfl) rfl ⟨K4.drew, P4.drew⟩ fun hHeld => ?_
      simp only [List.replicate]
      (refine wpH_take (i := 0) (v := _) (by simp only [List.getElem?_toArray, List.getElem?_cons_succ, List.getElem?_cons_zero]; rfl) (by kernel_rfl) (by kernel_rfl) (by kernel_rfl) (by intro _ _ _ h; exact h) (Or.inl ⟨by rfl, (by intro w' hSw; (try dsimp only at hSw); go_simp; first | done | with_reducible rfl)⟩) (by assumption) ?_; (try simp only [Act.put, List.setIfInBounds_toArray, List.set_cons_zero, List.set_cons_succ]))
      refine wpH_take (i := 2) (v := .agg (tktL Ai ni ci x0 x1 x2 x3).toArray) (by simp only [List.getElem?_toArray, List.getElem?_cons_succ, List.getElem?_cons_zero]; rfl) (by kernel_rfl) (by kernel_rfl) (by kernel_rfl) (by intro _ _ _ h; exact h) (yieldsIf_load_mid (by rfl) 31 _ (by rfl) w.heap.size 0 (by rfl) (tktL Ai ni ci x0 x1 x2 x3) _ (fun w' h => h.1.range) Tryd.underlying31 rfl sizeTk) (by assumption) ?_
      (try simp only [Act.put, List.setIfInBounds_toArray, List.set_cons_zero, List.set_cons_succ])
      refine wpH_take (i := 3) (v := .agg ([.int .i64 l, .int .i64 v, .int .i64 m, .int .i64 st, .int .i64 po, .int .i64 pr, .int .u32 rd, .int .u32 rp, .int .u32 id, .int .u64 ref, .int .u64 org, .int .u64 rec, .int .u64 xmt]).toArray) (by simp only [List.getElem?_toArray, List.getElem?_cons_succ, List.getElem?_cons_zero]; rfl) (by kernel_rfl) (by kernel_rfl) (by kernel_rfl) (by intro _ _ _ h; exact h) (yieldsIf_load_mid (by rfl) 27 _ (by rfl) n1 0 (by rfl) ([.int .i64 l, .int .i64 v, .int .i64 m, .int .i64 st, .int .i64 po, .int .i64 pr, .int .u32 rd, .int .u32 rp, .int .u32 id, .int .u64 ref, .int .u64 org, .int .u64 rec, .int .u64 xmt]) _ (fun w' h => h.2.range) Tryd.underlying27 rfl sizeNtp) (by assumption) ?_
      (try simp only [Act.put, List.setIfInBounds_toArray, List.set_cons_zero, List.set_cons_succ])
      (refine wpH_take (i := 4) (v := _) (by simp only [List.getElem?_toArray, List.getElem?_cons_succ, List.getElem?_cons_zero]; rfl) (by kernel_rfl) (by kernel_rfl) (by kernel_rfl) (by intro _ _ _ h; exact h) (Or.inl ⟨by rfl, (by intro w' hSw; (try dsimp only at hSw); go_simp; first | done | with_reducible rfl)⟩) (by assumption) ?_; (try simp only [Act.put, List.setIfInBounds_toArray, List.set_cons_zero, List.set_cons_succ]))
      (refine wpH_take (i := 5) (v := _) (by simp only [List.getElem?_toArray, List.getElem?_cons_succ, List.getElem?_cons_zero]; rfl) (by kernel_rfl) (by kernel_rfl) (by kernel_rfl) (by intro _ _ _ h; exact h) (Or.inl ⟨by rfl, (by intro w' hSw; (try dsimp only at hSw); go_simp; first | done | with_reducible rfl)⟩) (by assumption) ?_; (try simp only [Act.put, List.setIfInBounds_toArray, List.set_cons_zero, List.set_cons_succ]))
      (refine wpH_one (i := 1) (by simp only [List.getElem?_toArray, List.getElem?_cons_succ, List.getElem?_cons_zero]; rfl) (by kernel_rfl) (by rfl) ?_; (go_simp; (with_reducible refine hN5.mono ?_); rintro e w5 ⟨rfl, J5, b5⟩; refine ⟨⟨K4.drew.below b5 K4.lt, P4.drew.below b5 P4.lt⟩, ?_⟩); (try simp only [Act.put, List.setIfInBounds_toArray, List.set_cons_zero, List.set_cons_succ]))
      have B5 := B4.drew.trans (b5.mono B4.size)
      have hRp := hP _ Ai ni ci B q d w5 J5 (hR.below B5 hR.lt) HL.out ((hX.below B5 (Nat.le_refl _)).wide B5.size) hqd hd HS.out hB ((hI.below B5 (Nat.le_refl _)).wide (Nat.le_refl _) B5.size) HI.out hic hicc hin
      (refine wpH_one (i := 6) (by simp only [List.getElem?_toArray, List.getElem?_cons_succ, List.getElem?_cons_zero]; rfl) (by kernel_rfl) (by rfl) ?_; (go_simp; (with_reducible refine hRp.mono ?_); rintro e w6 ⟨A6, c6, rfl, O6, b6⟩; refine ⟨⟨(K4.drew.below b5 K4.lt).below b6 (K4.drew.below b5 K4.lt).lt, (P4.drew.below b5 P4.lt).below b6 (P4.drew.below b5 P4.lt).lt⟩, ?_⟩); (try simp only [Act.put, List.setIfInBounds_toArray, List.set_cons_zero, List.set_cons_succ]))
      have K6 := (K4.drew.below b5 K4.lt).below b6 (K4.drew.below b5 K4.lt).lt
      have P6 := (P4.drew.below b5 P4.lt).below b6 (P4.drew.below b5 P4.lt).lt
      have hH6 : Blk w6 w.heap.size 31 (tktL Ai ni ci x0 x1 x2 x3) ∧ Blk w6 n1 27 [.int .i64 l, .int .i64 v, .int .i64 m, .int .i64 st, .int .i64 po, .int .i64 pr, .int .u32 rd, .int .u32 rp, .int .u32 id, .int .u64 ref, .int .u64 org, .int .u64 rec, .int .u64 xmt] := ⟨K6, P6⟩
      (refine wpH_take (i := 7) (v := _) (by simp only [List.getElem?_toArray, List.getElem?_cons_succ, List.getElem?_cons_zero]; rfl) (by kernel_rfl) (by kernel_rfl) (by kernel_rfl) (by intro _ _ _ h; exact h) (Or.inl ⟨by rfl, (by intro w' hSw; (try dsimp only at hSw); go_simp; first | done | with_reducible rfl)⟩) (by assumption) ?_; (try simp only [Act.put, List.setIfInBounds_toArray, List.set_cons_zero, List.set_cons_succ]))
      (refine wpH_take (i := 8) (v := _) (by simp only [List.getElem?_toArray, List.getElem?_cons_succ, List.getElem?_cons_zero]; rfl) (by kernel_rfl) (by kernel_rfl) (by kernel_rfl) (by intro _ _ _ h; exact h) (Or.inl ⟨by rfl, (by intro w' hSw; (try dsimp only at hSw); go_simp; first | done | with_reducible rfl)⟩) (by assumption) ?_; (try simp only [Act.put, List.setIfInBounds_toArray, List.set_cons_zero, List.set_cons_succ]))
      (refine wpH_take (i := 9) (v := _) (by simp only [List.getElem?_toArray, List.getElem?_cons_succ, List.getElem?_cons_zero]; rfl) (by kernel_rfl) (by kernel_rfl) (by kernel_rfl) (by intro _ _ _ h; exact h) (Or.inl ⟨by rfl, (by intro w' hSw; (try dsimp only at hSw); go_simp; first | done | with_reducible rfl)⟩) (by assumption) ?_; (try simp only [Act.put, List.setIfInBounds_toArray, List.set_cons_zero, List.set_cons_succ]))
      (refine wpH_take (i := 10) (v := _) (by simp only [List.getElem?_toArray, List.getElem?_cons_succ, List.getElem?_cons_zero]; rfl) (by kernel_rfl) (by kernel_rfl) (by kernel_rfl) (by intro _ _ _ h; exact h) (Or.inl ⟨by rfl, (by intro w' hSw; (try dsimp only at hSw); go_simp; first | done | with_reducible rfl)⟩) (by assumption) ?_; (try simp only [Act.put, List.setIfInBounds_toArray, List.set_cons_zero, List.set_cons_succ]))
      (refine wpH_take (i := 11) (v := _) (by simp only [List.getElem?_toArray, List.getElem?_cons_succ, List.getElem?_cons_zero]; rfl) (by kernel_rfl) (by kernel_rfl) (by kernel_rfl) (by intro _ _ _ h; exact h) (Or.inl ⟨by rfl, (by intro w' hSw; (try dsimp only at hSw); go_simp; first | done | with_reducible rfl)⟩) (by assumption) ?_; (try simp only [Act.put, List.setIfInBounds_toArray, List.set_cons_zero, List.set_cons_succ]))
      refine wpH_done (by kernel_rfl) ?_ _
      have B6 := B5.trans (b6.mono B5.size)
      clear hHeld hH6 hRp K4 P4 J5 b5 b6 B4 hN5 hP
      have hz6 : w6.drew.heap.size = w6.heap.size := rfl
      have hN7 := rnew_some s 2 w6.drew (by omega) (by omega)
      rw [hz6] at hN7
      go_wp2_with fail
      refine wp_region_heldL (fun y => Blk y w.heap.size 31 (tktL Ai ni ci x0 x1 x2 x3) ∧ Blk y n1 27 [.int .i64 l, .int .i64 v, .int .i64 m, .int .i64 st, .int .i64 po, .int .i64 pr, .int .u32 rd, .int .u32 rp, .int .u32 id, .int .u64 ref, .int .u64 org, .int .u64 rec, .int .u64 xmt]) 12 (by kernel_rfl) rfl ⟨K6.drew, P6.drew⟩ fun hHeld => ?_
      simp only [List.replicate]
      (refine wpH_take (i := 0) (v := _) (by simp only [List.getElem?_toArray, List.getElem?_cons_succ, List.getElem?_cons_zero]; rfl) (by kernel_rfl) (by kernel_rfl) (by kernel_rfl) (by intro _ _ _ h; exact h) (Or.inl ⟨by rfl, (by intro w' hSw; (try dsimp only at hSw); go_simp; first | done | with_reducible rfl)⟩) (by assumption) ?_; (try simp only [Act.put, List.setIfInBounds_toArray, List.set_cons_zero, List.set_cons_succ]))
      refine wpH_take (i := 2) (v := .agg (tktL Ai ni ci x0 x1 x2 x3).toArray) (by simp only [List.getElem?_toArray, List.getElem?_cons_succ, List.getElem?_cons_zero]; rfl) (by kernel_rfl) (by kernel_rfl) (by kernel_rfl) (by intro _ _ _ h; exact h) (yieldsIf_load_mid (by rfl) 31 _ (by rfl) w.heap.size 0 (by rfl) (tktL Ai ni ci x0 x1 x2 x3) _ (fun w' h => h.1.range) Tryd.underlying31 rfl sizeTk) (by assumption) ?_
      (try simp only [Act.put, List.setIfInBounds_toArray, List.set_cons_zero, List.set_cons_succ])
      refine wpH_take (i := 3) (v := .agg ([.int .i64 l, .int .i64 v, .int .i64 m, .int .i64 st, .int .i64 po, .int .i64 pr, .int .u32 rd, .int .u32 rp, .int .u32 id, .int .u64 ref, .int .u64 org, .int .u64 rec, .int .u64 xmt]).toArray) (by simp only [List.getElem?_toArray, List.getElem?_cons_succ, List.getElem?_cons_zero]; rfl) (by kernel_rfl) (by kernel_rfl) (by kernel_rfl) (by intro _ _ _ h; exact h) (yieldsIf_load_mid (by rfl) 27 _ (by rfl) n1 0 (by rfl) ([.int .i64 l, .int .i64 v, .int .i64 m, .int .i64 st, .int .i64 po, .int .i64 pr, .int .u32 rd, .int .u32 rp, .int .u32 id, .int .u64 ref, .int .u64 org, .int .u64 rec, .int .u64 xmt]) _ (fun w' h => h.2.range) Tryd.underlying27 rfl sizeNtp) (by assumption) ?_
      (try simp only [Act.put, List.setIfInBounds_toArray, List.set_cons_zero, List.set_cons_succ])
      (refine wpH_take (i := 4) (v := _) (by simp only [List.getElem?_toArray, List.getElem?_cons_succ, List.getElem?_cons_zero]; rfl) (by kernel_rfl) (by kernel_rfl) (by kernel_rfl) (by intro _ _ _ h; exact h) (Or.inl ⟨by rfl, (by intro w' hSw; (try dsimp only at hSw); go_simp; first | done | with_reducible rfl)⟩) (by assumption) ?_; (try simp only [Act.put, List.setIfInBounds_toArray, List.set_cons_zero, List.set_cons_succ]))
      (refine wpH_take (i := 5) (v := _) (by simp only [List.getElem?_toArray, List.getElem?_cons_succ, List.getElem?_cons_zero]; rfl) (by kernel_rfl) (by kernel_rfl) (by kernel_rfl) (by intro _ _ _ h; exact h) (Or.inl ⟨by rfl, (by intro w' hSw; (try dsimp only at hSw); go_simp; first | done | with_reducible rfl)⟩) (by assumption) ?_; (try simp only [Act.put, List.setIfInBounds_toArray, List.set_cons_zero, List.set_cons_succ]))
      (refine wpH_one (i := 1) (by simp only [List.getElem?_toArray, List.getElem?_cons_succ, List.getElem?_cons_zero]; rfl) (by kernel_rfl) (by rfl) ?_; (go_simp; (with_reducible refine hN7.mono ?_); rintro e w7 ⟨rfl, J7, b7⟩; refine ⟨⟨K6.drew.below b7 K6.lt, P6.drew.below b7 P6.lt⟩, ?_⟩); (try simp only [Act.put, List.setIfInBounds_toArray, List.set_cons_zero, List.set_cons_succ]))
      have B7 := B6.drew.trans (b7.mono B6.size)
      have O7 := O6.drew.below b7 (Nat.le_refl _)
      have hRp := hQ _ Ai ni ci B q d w7 J7 HL.out ((hX.below B7 (Nat.le_refl _)).wide B7.size) hqd hd HS.out hB ((hI.below B7 (Nat.le_refl _)).wide (Nat.le_refl _) B7.size) HI.out hic hicc hin
      (refine wpH_one (i := 6) (by simp only [List.getElem?_toArray, List.getElem?_cons_succ, List.getElem?_cons_zero]; rfl) (by kernel_rfl) (by rfl) ?_; (go_simp; (with_reducible refine hRp.mono ?_); rintro e w8 ⟨A8, c8, rfl, O8, b8⟩; refine ⟨⟨(K6.drew.below b7 K6.lt).below b8 (K6.drew.below b7 K6.lt).lt, (P6.drew.below b7 P6.lt).below b8 (P6.drew.below b7 P6.lt).lt⟩, ?_⟩); (try simp only [Act.put, List.setIfInBounds_toArray, List.set_cons_zero, List.set_cons_succ]))
      have O8' := O7.below b8 (Nat.le_refl _)
      have hH8 : Blk w8 w.heap.size 31 (tktL Ai ni ci x0 x1 x2 x3) ∧ Blk w8 n1 27 [.int .i64 l, .int .i64 v, .int .i64 m, .int .i64 st, .int .i64 po, .int .i64 pr, .int .u32 rd, .int .u32 rp, .int .u32 id, .int .u64 ref, .int .u64 org, .int .u64 rec, .int .u64 xmt] := ⟨(K6.drew.below b7 K6.lt).below b8 (K6.drew.below b7 K6.lt).lt, (P6.drew.below b7 P6.lt).below b8 (P6.drew.below b7 P6.lt).lt⟩
      (refine wpH_take (i := 7) (v := _) (by simp only [List.getElem?_toArray, List.getElem?_cons_succ, List.getElem?_cons_zero]; rfl) (by kernel_rfl) (by kernel_rfl) (by kernel_rfl) (by intro _ _ _ h; exact h) (Or.inl ⟨by rfl, (by intro w' hSw; (try dsimp only at hSw); go_simp; first | done | with_reducible rfl)⟩) (by assumption) ?_; (try simp only [Act.put, List.setIfInBounds_toArray, List.set_cons_zero, List.set_cons_succ]))
      (refine wpH_take (i := 8) (v := _) (by simp only [List.getElem?_toArray, List.getElem?_cons_succ, List.getElem?_cons_zero]; rfl) (by kernel_rfl) (by kernel_rfl) (by kernel_rfl) (by intro _ _ _ h; exact h) (Or.inl ⟨by rfl, (by intro w' hSw; (try dsimp only at hSw); go_simp; first | done | with_reducible rfl)⟩) (by assumption) ?_; (try simp only [Act.put, List.setIfInBounds_toArray, List.set_cons_zero, List.set_cons_succ]))
      (refine wpH_take (i := 9) (v := _) (by simp only [List.getElem?_toArray, List.getElem?_cons_succ, List.getElem?_cons_zero]; rfl) (by kernel_rfl) (by kernel_rfl) (by kernel_rfl) (by intro _ _ _ h; exact h) (Or.inl ⟨by rfl, (by intro w' hSw; (try dsimp only at hSw); go_simp; first | done | with_reducible rfl)⟩) (by assumption) ?_; (try simp only [Act.put, List.setIfInBounds_toArray, List.set_cons_zero, List.set_cons_succ]))
      (refine wpH_take (i := 10) (v := _) (by simp only [List.getElem?_toArray, List.getElem?_cons_succ, List.getElem?_cons_zero]; rfl) (by kernel_rfl) (by kernel_rfl) (by kernel_rfl) (by intro _ _ _ h; exact h) (Or.inl ⟨by rfl, (by intro w' hSw; (try dsimp only at hSw); go_simp; first | done | with_reducible rfl)⟩) (by assumption) ?_; (try simp only [Act.put, List.setIfInBounds_toArray, List.set_cons_zero, List.set_cons_succ]))
      (refine wpH_take (i := 11) (v := _) (by simp only [List.getElem?_toArray, List.getElem?_cons_succ, List.getElem?_cons_zero]; rfl) (by kernel_rfl) (by kernel_rfl) (by kernel_rfl) (by intro _ _ _ h; exact h) (Or.inl ⟨by rfl, (by intro w' hSw; (try dsimp only at hSw); go_simp; first | done | with_reducible rfl)⟩) (by assumption) ?_; (try simp only [Act.put, List.setIfInBounds_toArray, List.set_cons_zero, List.set_cons_succ]))
      refine wpH_done (by kernel_rfl) ?_ _
      have B8 := B7.trans (b8.mono B7.size)
      clear hHeld hH8 hRp K6 P6 J7 b7 b8 B6 B7 hN7 hQ
      have hBE := bequal_any A6 A8 N N c6 c8 _ _ _ _ M M w8 HN.out HN.out O8'.bs O8.bs
      rw [hIe] at hBE
      go_wp2_with (first
        | (go_at_call 15; ((with_reducible refine hBE.mono ?_); rintro e _ ⟨rfl, rfl⟩))
        | (go_at_call 10; ((with_reducible refine (awake_any _ (hR.below B8 hR.lt)).mono ?_); rintro e w13 ⟨rfl, b13⟩)))
      go_ret
      exact ⟨rfl, B8.trans (b13.mono B8.size)⟩
  · have hm' : decide ((300 : Int) < ni) = true := decide_eq_true (by omega)
    clear hm hil
    go_enter Tryd.func4, Tryd.ntmps4
    go_wp2_with (first
      | (refine wpl_box (by rfl) 31 _ (by rfl) _ (tktL Ai ni ci x0 x1 x2 x3) (by rfl) rfl ?_; intro w1 K1 s1 b1)
      | ((refine wpl_box (by rfl) 27 _ (by rfl) _ ([.int .i64 l, .int .i64 v, .int .i64 m, .int .i64 st, .int .i64 po, .int .i64 pr, .int .u32 rd, .int .u32 rp, .int .u32 id, .int .u64 ref, .int .u64 org, .int .u64 rec, .int .u64 xmt]) (by rfl) rfl ?_; intro w2 P2 s2 b2); (have K2 := K1.below b2 (by omega)); (have B2 := b1.trans (b2.mono (by omega))))
      | (refine wpl_loadf (by rfl) 23 _ (by rfl) w.heap.size 0 (by rfl) _ _ K2 _ rfl _ Tryd.underlying23 rfl ?_)
      | (go_at_call 10; ((with_reducible refine (awake_any _ (hR.below B2 hR.lt)).mono ?_); rintro e w13 ⟨rfl, b13⟩)))
    go_ret
    exact ⟨rfl, B2.trans (b13.mono B2.size)⟩
end Go.Proofs.YtachhbbofemfdaaDoor
