/- The reference's guard: sealed, Reply. The reference's client: Request, waits. The reference's client: waits. -/
import Derived.Test.YtachhbbofemfdaaDoorGXz17
import Derived.Test.YtachhbbofemfdaaDoorGXz16
import Derived.Test.YtachhbbofemfdaaDoorGXz4
namespace Go.Proofs.YtachhbbofemfdaaDoor
open Go.RowKit
set_option linter.unusedSimpArgs false
set_option linter.unusedVariables false
set_option maxRecDepth 100000
set_option maxRecDepth 100000 in
set_option maxHeartbeats 8000000 in
theorem rsealed_ok (l v m st po pr rd rp id ref org rec xmt : Int) (B : Option Addr) (q d : Nat) (L : Flds) (k0 k1 : Int) (w : World) (hk : nchk l v m st po pr = 0) (h6 : 0 ≤ rd ∧ rd ≤ 4294967295) (h7 : 0 ≤ rp ∧ rp ≤ 4294967295) (h8 : 0 ≤ id ∧ id ≤ 4294967295) (h9 : 0 ≤ ref ∧ ref ≤ 18446744073709551615) (h10 : 0 ≤ org ∧ org ≤ 18446744073709551615) (h11 : 0 ≤ rec ∧ rec ≤ 18446744073709551615) (h12 : 0 ≤ xmt ∧ xmt ≤ 18446744073709551615) (hm : L.length = q) (hX : Xs w w.heap.size B L) (hmd : q ≤ d) (hd : d ≤ 9223372036854775807) (he : apxE L = 0) (hk0 : U64 k0) (hk1 : U64 k1) :
    Calls Tryd.prog 44 #[ntp l v m st po pr rd rp id ref org rec xmt, .slice B q d, keyV k0 k1] w fun e w' => ∃ A c N, e = .returned (.slice A N c) ∧ (msgB l v m st po pr rd rp id ref org rec xmt L k0 k1).length = N ∧ Ow w' w.heap.size A c (msgB l v m st po pr rd rp id ref org rec xmt L k0 k1) ∧ Below w.heap.size w w' := by
  have hfl := flds_small he
  have hE := fun W => rencode_ok l v m st po pr rd rp id ref org rec xmt W hk h6 h7 h8 h9 h10 h11 h12
  obtain ⟨hd1, hhd⟩ : ∃ H, encH l v m st po pr rd rp id ref org rec xmt = H := ⟨_, rfl⟩
  have hdl : hd1.length = 48 := by rw [← hhd, encH_len]
  unfold msgB bdyB
  rw [hhd] at hE ⊢
  obtain ⟨N, hN⟩ : ∃ N, (hd1 ++ fldsB L).length = N := ⟨_, rfl⟩
  have hN2 : N ≤ 4208 := by rw [← hN, List.length_append]; omega
  obtain ⟨D, hD⟩ : ∃ D, D = hd1 ++ fldsB L := ⟨_, rfl⟩
  rw [← hD] at hN ⊢
  have hT := fun W A c hB hc hcc => rtag_any k0 k1 A N c D W hk0 hk1 hN hB (by omega) hc hcc
  have ht := tagF_u64 k0 k1 D
  unfold athB
  generalize tagF k0 k1 D = T at hT ht ⊢
  have hA := fun W => rauth_any 0 T W (by omega) (by omega) ht.1 ht.2
  have hal := auth_len 0 T
  generalize bytesB 4 0 ++ bytesB 8 T = AB at hA hal ⊢
  have HN := Lib.hid hN
  have HA := Lib.hid hal
  have HD := Lib.hid hD
  have HL := Lib.hid hdl
  clear hhd hN hal hD hdl
  go_enter Tryd.func44, Tryd.ntmps44
  go_wp2_with (first
    | (refine wpl_box (by rfl) 27 _ (by rfl) _ ([.int .i64 l, .int .i64 v, .int .i64 m, .int .i64 st, .int .i64 po, .int .i64 pr, .int .u32 rd, .int .u32 rp, .int .u32 id, .int .u64 ref, .int .u64 org, .int .u64 rec, .int .u64 xmt]) (by rfl) rfl ?_; intro w1 P1 s1 b1)
    | ((refine wpl_box (by rfl) 29 _ (by rfl) _ (keyL k0 k1) (by rfl) rfl ?_; intro w2 K2 s2 b2); (have P2 := P1.below b2 (by omega)))
    | (refine wpl_load (by rfl) 27 _ (by rfl) w.heap.size (by rfl) 27 _ P2 _ Tryd.underlying27 rfl _ sizeNtp (by rfl) ?_)
    | (go_at_call 75; ((with_reducible refine (hE _).mono ?_); rintro e w3 ⟨A3, c3, rfl, O3, b3⟩; (have K3 := K2.below b3 (by omega)); (have z3 := b3.size))))
  have hX3 := (((hX.below b1 (Nat.le_refl _)).below b2 (by omega)).below b3 (by omega)).wide (hi' := w3.heap.size) (by omega)
  have hF := rxappend_ok A3 48 c3 _ _ hd1 B q d L w3 HL.out O3 (Nat.le_refl _) (by omega) hm hX3 hmd hd he
  rw [← HD.out] at hF
  with_reducible refine hF.mono ?_
  rintro e w4 ⟨A4, c4, N4, rfl, hN4, O4, b4⟩
  obtain rfl : N = N4 := HN.out.symm.trans hN4
  have B4 : Below w.heap.size w w4 := ((b1.trans (b2.mono (by omega))).trans (b3.mono (by omega))).trans (b4.mono (by omega))
  have K4 := K3.below b4 (by omega)
  have z4 := b4.size
  have hc4 := O4.cap_le
  have hcm4 := O4.cap_max
  rw [HN.out] at hc4
  clear hF hN4 hX3 hX hE P1 P2 K2 K3 O3 b1 b2 b3 b4
  go_wp2_with (first
    | (refine wpl_load (by rfl) 29 _ (by rfl) w1.heap.size (by rfl) 29 _ K4 _ Tryd.underlying29 rfl _ sizeKey (by rfl) ?_)
    | (go_at_call 69; ((with_reducible refine (hT _ _ _ (O4.bs.wide (Nat.zero_le _) (Nat.le_refl _)) hc4 hcm4).mono ?_); rintro e w5 ⟨rfl, b5⟩; (have O5 := O4.below b5 (Nat.le_refl _)); (have B5 := B4.trans (b5.mono B4.size)); (have z5 := b5.size)))
    | (go_at_call 77; ((with_reducible refine (hA _).mono ?_); rintro e w6 ⟨A6, c6, rfl, O6, b6⟩; (have O5' := O5.below b6 (Nat.le_refl _)); (have B6 := B5.trans (b6.mono B5.size)); (have z6 := b6.size)))
    | (refine wpl_append_bs (by rfl) (.tmp 20) (.tmp 24) (by rfl) N c4 12 c6 (by rfl) (by rfl) HN.out HA.out O5' O6.bs (by omega) (by omega) ?_; intro A7 c7 w7 O7 b7))
  go_ret
  exact ⟨A7, c7, _, rfl, by rw [List.length_append, HN.out, HA.out], O7.wide (by omega), B6.trans (b7.mono (by omega))⟩
set_option maxRecDepth 100000 in
set_option maxHeartbeats 8000000 in
theorem rgreply_err (bj : Nat) (Ai : Option Addr) (ni ci : Nat) (x0 x1 x2 x3 : Int) (l v m st po pr rd rp id ref org rec xmt nonce : Int) (B : Option Addr) (q d : Nat) (L : Flds) (w : World) (hL : L.length = q) (hX : Xs w w.heap.size B L) (hqd : q ≤ d) (hd : d ≤ 9223372036854775807) (hsz : ∀ k, k < q → (dtL L k).length ≤ 140737488351232) (hE : grE (nchk l v m st po pr) ni L ≠ 0) :
    Calls Tryd.prog 18 #[.pointer (some ⟨bj, 0, none⟩), .agg (tktL Ai ni ci x0 x1 x2 x3).toArray, ntp l v m st po pr rd rp id ref org rec xmt, .slice B q d, .int .u64 nonce] w fun e w' => e = .returned (.tuple #[.slice none 0 0, .int .i64 (grE (nchk l v m st po pr) ni L)]) ∧ Below w.heap.size w w' := by
  have hK := fun W => rnchk_any l v m st po pr rd rp id ref org rec xmt W
  rcases grE_cases (nchk l v m st po pr) ni L with ⟨h1, h2⟩ | ⟨h1, h2, h3⟩ | ⟨h1, h2, h3, h4⟩ | ⟨h1, h2, h3, h4, h5⟩ | ⟨h1, h2, h3, h4, h5⟩
  · rw [h2]
    have h1' : (nchk l v m st po pr != 0) = true := by simpa using h1
    generalize nchk l v m st po pr = E at hK h1'
    clear h1 h2 hE
    go_enter Tryd.func18, Tryd.ntmps18
    go_wp2_with (first
      | (refine wpl_box (by rfl) 31 _ (by rfl) _ (tktL Ai ni ci x0 x1 x2 x3) (by rfl) rfl ?_; intro w1 K1 s1 b1)
      | ((refine wpl_box (by rfl) 27 _ (by rfl) _ ([.int .i64 l, .int .i64 v, .int .i64 m, .int .i64 st, .int .i64 po, .int .i64 pr, .int .u32 rd, .int .u32 rp, .int .u32 id, .int .u64 ref, .int .u64 org, .int .u64 rec, .int .u64 xmt]) (by rfl) rfl ?_; intro w2 P2 s2 b2); (have K2 := K1.below b2 (by omega)); (have B2 := b1.trans (b2.mono (by omega))))
      | (refine wpl_load (by rfl) 27 _ (by rfl) w1.heap.size (by rfl) 27 _ P2 _ Tryd.underlying27 rfl _ sizeNtp (by rfl) ?_)
      | (go_at_call 42; ((with_reducible refine (hK _).mono ?_); rintro e w3 ⟨rfl, b3⟩; (have K3 := K2.below b3 K2.lt); (have P3 := P2.below b3 P2.lt); (have B3 := B2.trans (b3.mono B2.size))))
      | (refine wpl_loadf (by rfl) 23 _ (by rfl) w.heap.size 0 (by rfl) _ _ K3 _ rfl _ Tryd.underlying23 rfl ?_))
    go_ret2
    exact ⟨rfl, B3⟩
  · rw [h3]
    rw [h1] at hK
    have h2' : ((ni : Int) != 16) = true := by simp; omega
    clear h1 h2 h3 hE
    go_enter Tryd.func18, Tryd.ntmps18
    go_wp2_with (first
      | (refine wpl_box (by rfl) 31 _ (by rfl) _ (tktL Ai ni ci x0 x1 x2 x3) (by rfl) rfl ?_; intro w1 K1 s1 b1)
      | ((refine wpl_box (by rfl) 27 _ (by rfl) _ ([.int .i64 l, .int .i64 v, .int .i64 m, .int .i64 st, .int .i64 po, .int .i64 pr, .int .u32 rd, .int .u32 rp, .int .u32 id, .int .u64 ref, .int .u64 org, .int .u64 rec, .int .u64 xmt]) (by rfl) rfl ?_; intro w2 P2 s2 b2); (have K2 := K1.below b2 (by omega)); (have B2 := b1.trans (b2.mono (by omega))))
      | (refine wpl_load (by rfl) 27 _ (by rfl) w1.heap.size (by rfl) 27 _ P2 _ Tryd.underlying27 rfl _ sizeNtp (by rfl) ?_)
      | (go_at_call 42; ((with_reducible refine (hK _).mono ?_); rintro e w3 ⟨rfl, b3⟩; (have K3 := K2.below b3 K2.lt); (have P3 := P2.below b3 P2.lt); (have B3 := B2.trans (b3.mono B2.size))))
      | (refine wpl_loadf (by rfl) 23 _ (by rfl) w.heap.size 0 (by rfl) _ _ K3 _ rfl _ Tryd.underlying23 rfl ?_))
    go_ret2
    exact ⟨rfl, B3⟩
  · rw [h4]
    rw [h1] at hK
    have h2' : ((ni : Int) != 16) = false := by simp; omega
    obtain ⟨kb, hkb, hbad⟩ := firE_bad h3
    have HBad := Lib.hid hbad
    clear h1 h2 h3 h4 hE hbad
    go_enter Tryd.func18, Tryd.ntmps18
    go_wp2_with (first
      | (refine wpl_box (by rfl) 31 _ (by rfl) _ (tktL Ai ni ci x0 x1 x2 x3) (by rfl) rfl ?_; intro w1 K1 s1 b1)
      | ((refine wpl_box (by rfl) 27 _ (by rfl) _ ([.int .i64 l, .int .i64 v, .int .i64 m, .int .i64 st, .int .i64 po, .int .i64 pr, .int .u32 rd, .int .u32 rp, .int .u32 id, .int .u64 ref, .int .u64 org, .int .u64 rec, .int .u64 xmt]) (by rfl) rfl ?_; intro w2 P2 s2 b2); (have K2 := K1.below b2 (by omega)); (have B2 := b1.trans (b2.mono (by omega))))
      | (refine wpl_load (by rfl) 27 _ (by rfl) w1.heap.size (by rfl) 27 _ P2 _ Tryd.underlying27 rfl _ sizeNtp (by rfl) ?_)
      | (go_at_call 42; ((with_reducible refine (hK _).mono ?_); rintro e w3 ⟨rfl, b3⟩; (have K3 := K2.below b3 K2.lt); (have P3 := P2.below b3 P2.lt); (have B3 := B2.trans (b3.mono B2.size))))
      | (refine wpl_loadf (by rfl) 23 _ (by rfl) w.heap.size 0 (by rfl) _ _ K3 _ rfl _ Tryd.underlying23 rfl ?_))
    go_loopw [12] (fun i wr => ∃ k : Nat, k ≤ q ∧ i = .int .i64 k ∧ Hid (∀ j, j < k → chkE (kdL L j) (dtL L j).length = 0) ∧ Below w.heap.size w wr) (fun i _ => q - (intOf i).toNat)
    case atStart => exact ⟨0, by omega, rfl, fun j hj => absurd hj (by omega), B3⟩
    case round =>
      obtain ⟨k, hk, rfl, hV, hB⟩ := hrel
      by_cases hlt : k < q
      · skip
        obtain ⟨bb, o, rfl, hbw, hx⟩ := (hX.below hB (Nat.le_refl _)) (by omega)
        obtain ⟨Ak, ck, hrg, hBk, hlc, hcm, hno⟩ := (hx k (by omega)).open'
        have hi0 : (0 : Int) ≤ k := by omega
        have hi1 : (k : Int) < q := by omega
        obtain ⟨K, hK⟩ : ∃ K, K = kdL L k := ⟨_, rfl⟩
        obtain ⟨D, hD⟩ : ∃ D, D = (dtL L k).length := ⟨_, rfl⟩
        rw [← hK, ← hD] at hrg
        have hck := fun W => rchk_any K Ak D ck W (by have := hsz k (by omega); omega)
        have hE0 : chkE K D = chkE (kdL L k) (dtL L k).length := by rw [hK, hD]
        clear hx hBk hlc hno hK hD
        generalize hEE : chkE K D = E at hck hE0
        by_cases hE0' : E = 0
        · have hc0 : (E != 0) = false := by simpa using hE0'
          have hV' : Hid (∀ j, j < k + 1 → chkE (kdL L j) (dtL L j).length = 0) := fun j hj => by
            rcases Nat.lt_or_ge j k with q1 | q1
            · exact hV.out j q1
            · obtain rfl : j = k := by omega
              rw [← hE0, hE0']
          clear hE0 hE0' hEE
          go_wp2_with (first
            | (refine wpl_loadr (by rfl) 62 _ (by rfl) bb (o + k * 2) (by rfl) _ hrg _ Tryd.underlying62 rfl _ sizeExt (by rfl) ?_)
            | (go_at_call 43; ((with_reducible refine (hck _).mono ?_); rintro e wc ⟨rfl, bc⟩)))
          exact ⟨⟨k + 1, by omega, by go_num, hV', hB.trans (bc.mono hB.size)⟩, by simp [intOf]; omega⟩
        · have hc0 : (E != 0) = true := by simpa using hE0'
          clear hE0 hE0' hEE
          go_wp2_with (first
            | (refine wpl_loadr (by rfl) 62 _ (by rfl) bb (o + k * 2) (by rfl) _ hrg _ Tryd.underlying62 rfl _ sizeExt (by rfl) ?_)
            | (go_at_call 43; ((with_reducible refine (hck _).mono ?_); rintro e wc ⟨rfl, bc⟩)))
          go_ret2
          exact ⟨rfl, hB.trans (bc.mono hB.size)⟩
      · exfalso
        exact HBad.out (hV.out kb (by omega))
  · rw [h5]
    rw [h1] at hK
    have h2' : ((ni : Int) != 16) = false := by simp; omega
    have hall := Lib.hid (fir_at h3)
    have hgt : decide ((14 : Int) < q) = true := decide_eq_true (by omega)
    clear h1 h2 h3 h4 h5 hE
    go_enter Tryd.func18, Tryd.ntmps18
    go_wp2_with (first
      | (refine wpl_box (by rfl) 31 _ (by rfl) _ (tktL Ai ni ci x0 x1 x2 x3) (by rfl) rfl ?_; intro w1 K1 s1 b1)
      | ((refine wpl_box (by rfl) 27 _ (by rfl) _ ([.int .i64 l, .int .i64 v, .int .i64 m, .int .i64 st, .int .i64 po, .int .i64 pr, .int .u32 rd, .int .u32 rp, .int .u32 id, .int .u64 ref, .int .u64 org, .int .u64 rec, .int .u64 xmt]) (by rfl) rfl ?_; intro w2 P2 s2 b2); (have K2 := K1.below b2 (by omega)); (have B2 := b1.trans (b2.mono (by omega))))
      | (refine wpl_load (by rfl) 27 _ (by rfl) w1.heap.size (by rfl) 27 _ P2 _ Tryd.underlying27 rfl _ sizeNtp (by rfl) ?_)
      | (go_at_call 42; ((with_reducible refine (hK _).mono ?_); rintro e w3 ⟨rfl, b3⟩; (have K3 := K2.below b3 K2.lt); (have P3 := P2.below b3 P2.lt); (have B3 := B2.trans (b3.mono B2.size))))
      | (refine wpl_loadf (by rfl) 23 _ (by rfl) w.heap.size 0 (by rfl) _ _ K3 _ rfl _ Tryd.underlying23 rfl ?_))
    go_loopw [12] (fun i wr => ∃ k : Nat, k ≤ q ∧ i = .int .i64 k ∧ Below w.heap.size w wr) (fun i _ => q - (intOf i).toNat)
    case atStart => exact ⟨0, by omega, rfl, B3⟩
    case round =>
      obtain ⟨k, hk, rfl, hB⟩ := hrel
      by_cases hlt : k < q
      · skip
        obtain ⟨bb, o, rfl, hbw, hx⟩ := (hX.below hB (Nat.le_refl _)) (by omega)
        obtain ⟨Ak, ck, hrg, hBk, hlc, hcm, hno⟩ := (hx k (by omega)).open'
        have hi0 : (0 : Int) ≤ k := by omega
        have hi1 : (k : Int) < q := by omega
        obtain ⟨K, hK⟩ : ∃ K, K = kdL L k := ⟨_, rfl⟩
        obtain ⟨D, hD⟩ : ∃ D, D = (dtL L k).length := ⟨_, rfl⟩
        rw [← hK, ← hD] at hrg
        have hck := fun W => rchk_any K Ak D ck W (by have := hsz k (by omega); omega)
        have hE0 : chkE K D = chkE (kdL L k) (dtL L k).length := by rw [hK, hD]
        clear hx hBk hlc hno hK hD
        generalize hEE : chkE K D = E at hck hE0
        have hc0 : (E != 0) = false := by
          have := hall.out k (by omega)
          rw [← hE0] at this
          simp [this]
        clear hE0 hEE
        go_wp2_with (first
          | (refine wpl_loadr (by rfl) 62 _ (by rfl) bb (o + k * 2) (by rfl) _ hrg _ Tryd.underlying62 rfl _ sizeExt (by rfl) ?_)
          | (go_at_call 43; ((with_reducible refine (hck _).mono ?_); rintro e wc ⟨rfl, bc⟩)))
        exact ⟨⟨k + 1, by omega, by go_num, hB.trans (bc.mono hB.size)⟩, by simp [intOf]; omega⟩
      · obtain rfl : k = q := by omega
        go_wp2
        go_ret2
        exact ⟨rfl, hB⟩
  · exact absurd h5 hE
set_option maxRecDepth 100000 in
set_option maxHeartbeats 16000000 in
theorem rgreply_ok (bj : Nat) (Ai : Option Addr) (ni ci : Nat) (x0 x1 x2 x3 : Int) (l v m st po pr rd rp id ref org rec xmt nonce : Int) (B : Option Addr) (q d : Nat) (L : Flds) (w : World) (hL : L.length = q) (hX : Xs w w.heap.size B L) (hqd : q ≤ d) (hd : d ≤ 9223372036854775807) (hsz : ∀ k, k < q → (dtL L k).length ≤ 140737488351232) (s kk g : Int) (id' : List Int) (hJ : Blk w bj 89 (jarL s kk g)) (hs : U64 s) (hg : Gn g) (hno : U64 nonce) (hx0 : U64 x0) (hx1 : U64 x1) (hx2 : U64 x2) (hx3 : U64 x3) (hBn : B = none → q = 0) (hI : Bs w 0 w.heap.size Ai id') (hil : id'.length = ni) (hic : ni ≤ ci) (hicc : ci ≤ 9223372036854775807) (hin : Ai = none → ni = 0 ∧ ci = 0) (h6 : 0 ≤ rd ∧ rd ≤ 4294967295) (h7 : 0 ≤ rp ∧ rp ≤ 4294967295) (h8 : 0 ≤ id ∧ id ≤ 4294967295) (h9 : 0 ≤ ref ∧ ref ≤ 18446744073709551615) (h10 : 0 ≤ org ∧ org ≤ 18446744073709551615) (h11 : 0 ≤ rec ∧ rec ≤ 18446744073709551615) (h12 : 0 ≤ xmt ∧ xmt ≤ 18446744073709551615) (hE : grE (nchk l v m st po pr) ni L = 0) :
    Calls Tryd.prog 18 #[.pointer (some ⟨bj, 0, none⟩), .agg (tktL Ai ni ci x0 x1 x2 x3).toArray, ntp l v m st po pr rd rp id ref org rec xmt, .slice B q d, .int .u64 nonce] w fun e w' => ∃ A c n, e = .returned (.tuple #[.slice A n c, .int .i64 0]) ∧ (msgB l v m st po pr rd rp id ref org rec xmt (rpF id' (ckB s g nonce x0 x1 x2 x3) L) x2 x3).length = n ∧ Ow w' w.heap.size A c (msgB l v m st po pr rd rp id ref org rec xmt (rpF id' (ckB s g nonce x0 x1 x2 x3) L) x2 x3) ∧ Below w.heap.size w w' := by
  have hK := fun W => rnchk_any l v m st po pr rd rp id ref org rec xmt W
  obtain ⟨h1, h2, h3, h4⟩ : nchk l v m st po pr = 0 ∧ ni = 16 ∧ firE L = 0 ∧ L.length ≤ 14 := by
    rcases grE_cases (nchk l v m st po pr) ni L with ⟨h1, h2⟩ | ⟨h1, h2, h3⟩ | ⟨h1, h2, h3, h4⟩ | ⟨h1, h2, h3, h4, h5⟩ | ⟨h1, h2, h3, h4, h5⟩
    · omega
    · omega
    · omega
    · omega
    · exact ⟨h1, h2, h3, h4⟩
  have hck52 := ckB_len s g nonce x0 x1 x2 x3
  have hapx := rpF_apx (L := L) (hil.trans h2) hck52 h3 h4
  rw [h1] at hK
  have h2' : ((ni : Int) != 16) = false := by simp; omega
  have hall := Lib.hid (fir_at h3)
  have hgt : decide ((14 : Int) < q) = false := decide_eq_false (by omega)
  have hSe := fun W hJ => rseal_any bj s kk g x0 x1 x2 x3 nonce W hs hg hno hx0 hx1 hx2 hx3 hJ
  have hMs := fun B q d W hm hX hmd hd => rsealed_ok l v m st po pr rd rp id ref org rec xmt B q d (rpF id' (ckB s g nonce x0 x1 x2 x3) L) x2 x3 W h1 h6 h7 h8 h9 h10 h11 h12 hm hX hmd hd hapx hx2 hx3
  generalize ckB s g nonce x0 x1 x2 x3 = CK at hSe hMs hck52 ⊢
  have hML : Hid (L.length ≤ 14) := h4
  have HN16 := Lib.hid h2
  clear h2 h3 hE hapx
  go_enter Tryd.func18, Tryd.ntmps18
  go_wp2_with (first
    | (refine wpl_box (by rfl) 31 _ (by rfl) _ (tktL Ai ni ci x0 x1 x2 x3) (by rfl) rfl ?_; intro w1 K1 s1 b1)
    | ((refine wpl_box (by rfl) 27 _ (by rfl) _ ([.int .i64 l, .int .i64 v, .int .i64 m, .int .i64 st, .int .i64 po, .int .i64 pr, .int .u32 rd, .int .u32 rp, .int .u32 id, .int .u64 ref, .int .u64 org, .int .u64 rec, .int .u64 xmt]) (by rfl) rfl ?_; intro w2 P2 s2 b2); (have K2 := K1.below b2 (by omega)); (have B2 := b1.trans (b2.mono (by omega))))
    | (refine wpl_load (by rfl) 27 _ (by rfl) w1.heap.size (by rfl) 27 _ P2 _ Tryd.underlying27 rfl _ sizeNtp (by rfl) ?_)
    | (go_at_call 42; ((with_reducible refine (hK _).mono ?_); rintro e w3 ⟨rfl, b3⟩; (have K3 := K2.below b3 K2.lt); (have P3 := P2.below b3 P2.lt); (have B3 := B2.trans (b3.mono B2.size))))
    | (refine wpl_loadf (by rfl) 23 _ (by rfl) w.heap.size 0 (by rfl) _ _ K3 _ rfl _ Tryd.underlying23 rfl ?_))
  go_loopw [12] (fun i wr => ∃ k : Nat, k ≤ q ∧ i = .int .i64 k ∧ Below w3.heap.size w3 wr) (fun i _ => q - (intOf i).toNat)
  case atStart => exact ⟨0, by omega, rfl, Below.refl _ _⟩
  case round =>
    obtain ⟨k, hk, rfl, hB3⟩ := hrel
    have hB := B3.trans (hB3.mono B3.size)
    by_cases hlt : k < q
    · skip
      obtain ⟨bb, o, rfl, hbw, hx⟩ := (hX.below hB (Nat.le_refl _)) (by omega)
      obtain ⟨Ak, ck, hrg, hBk, hlc, hcm, hno⟩ := (hx k (by omega)).open'
      have hi0 : (0 : Int) ≤ k := by omega
      have hi1 : (k : Int) < q := by omega
      obtain ⟨K, hK⟩ : ∃ K, K = kdL L k := ⟨_, rfl⟩
      obtain ⟨D, hD⟩ : ∃ D, D = (dtL L k).length := ⟨_, rfl⟩
      rw [← hK, ← hD] at hrg
      have hck := fun W => rchk_any K Ak D ck W (by have := hsz k (by omega); omega)
      have hE0 : chkE K D = chkE (kdL L k) (dtL L k).length := by rw [hK, hD]
      clear hx hBk hlc hno hK hD
      generalize hEE : chkE K D = E at hck hE0
      have hc0 : (E != 0) = false := by
        have := hall.out k (by omega)
        rw [← hE0] at this
        simp [this]
      clear hE0 hEE
      go_wp2_with (first
        | (refine wpl_loadr (by rfl) 62 _ (by rfl) bb (o + k * 2) (by rfl) _ hrg _ Tryd.underlying62 rfl _ sizeExt (by rfl) ?_)
        | (go_at_call 43; ((with_reducible refine (hck _).mono ?_); rintro e wc ⟨rfl, bc⟩)))
      exact ⟨⟨k + 1, by omega, by go_num, hB3.trans (bc.mono hB3.size)⟩, by simp [intOf]; omega⟩
    · obtain rfl : k = q := by omega
      have K4 := K3.below hB3 K3.lt
      have P4 := P3.below hB3 P3.lt
      have J4 := hJ.below hB hJ.lt
      have I4 := hI.below hB (Nat.le_refl _)
      have X4 := hX.below hB (Nat.le_refl _)
      have z4 := hB.size
      have hK0 : wr.cell? ⟨w.heap.size, 0, none⟩ = some (.slice Ai ni ci) := K4.cell rfl
      clear K1 K2 K3 P2 P3 b1 b2 b3 B2 B3 hB3 hall hsz
      go_wp2_with fail
      refine wp_region_heldL (fun y => Blk y w.heap.size 31 (tktL Ai ni ci x0 x1 x2 x3) ∧ y.cell? ⟨w.heap.size, 0, none⟩ = some (.slice Ai ni ci)) 13 (by kernel_rfl) rfl ⟨K4.drew, hK0⟩ fun hHeld => ?_
      simp only [List.replicate]
      (refine wpH_t 0 _ (by exact gE rfl) (by kernel_rfl) (by intro _ _ _ h; exact h) (Or.inl ⟨by rfl, (by intro _ h; (try dsimp only at h); go_simp; first | done | with_reducible rfl)⟩) (by assumption) ?_; (try simp only [Act.put, zs0, zs1, zs2]))
      (refine wpH_t 1 _ (by exact gE rfl) (by kernel_rfl) (by intro _ _ _ h; exact h) (Or.inl ⟨by rfl, (by intro _ h; (try dsimp only at h); go_simp; first | done | with_reducible rfl)⟩) (by assumption) ?_; (try simp only [Act.put, zs0, zs1, zs2]))
      (refine wpH_t 2 _ (by exact gE rfl) (by kernel_rfl) (by intro _ _ _ h; exact h) (Or.inl ⟨by rfl, (by intro _ h; (try dsimp only at h); go_simp; first | done | with_reducible rfl)⟩) (by assumption) ?_; (try simp only [Act.put, zs0, zs1, zs2]))
      (refine wpH_t 3 _ (by exact gE rfl) (by kernel_rfl) (by intro _ _ _ h; exact h) (Or.inl ⟨by rfl, (by intro _ h; (try dsimp only at h); go_simp; first | done | with_reducible rfl)⟩) (by assumption) ?_; (try simp only [Act.put, zs0, zs1, zs2]))
      (refine wpH_t 4 _ (by exact gE rfl) (by kernel_rfl) (by intro _ _ _ h; exact h) (Or.inl ⟨by rfl, (by intro _ h; (try dsimp only at h); go_simp; first | done | with_reducible rfl)⟩) (by assumption) ?_; (try simp only [Act.put, zs0, zs1, zs2]))
      refine wpH_take (i := 5) (v := .agg (keyL x0 x1).toArray) (by exact gE rfl) (by kernel_rfl) (by kernel_rfl) (by kernel_rfl) (by intro _ _ _ h; exact h) (yieldsIf_load_mid (by rfl) 29 _ (by rfl) w.heap.size 1 (by rfl) (keyL x0 x1) _ (fun w' h => Blk.mid h.1 1 (keyL x0 x1) rfl) Tryd.underlying29 rfl sizeKey) (by assumption) ?_
      (try simp only [Act.put, zs0, zs1, zs2])
      (refine wpH_t 6 _ (by exact gE rfl) (by kernel_rfl) (by intro _ _ _ h; exact h) (Or.inl ⟨by rfl, (by intro _ h; (try dsimp only at h); go_simp; first | done | with_reducible rfl)⟩) (by assumption) ?_; (try simp only [Act.put, zs0, zs1, zs2]))
      refine wpH_take (i := 7) (v := .agg (keyL x2 x3).toArray) (by exact gE rfl) (by kernel_rfl) (by kernel_rfl) (by kernel_rfl) (by intro _ _ _ h; exact h) (yieldsIf_load_mid (by rfl) 29 _ (by rfl) w.heap.size 3 (by rfl) (keyL x2 x3) _ (fun w' h => Blk.mid h.1 3 (keyL x2 x3) rfl) Tryd.underlying29 rfl sizeKey) (by assumption) ?_
      (try simp only [Act.put, zs0, zs1, zs2])
      (refine wpH_t 8 _ (by exact gE rfl) (by kernel_rfl) (by intro _ _ _ h; exact h) (Or.inl ⟨by rfl, (by intro _ h; (try dsimp only at h); go_simp; first | done | with_reducible rfl)⟩) (by assumption) ?_; (try simp only [Act.put, zs0, zs1, zs2]))
      have hSE := hSe wr.drew J4.drew
      (refine wpH_one (i := 9) (by exact gE rfl) (by kernel_rfl) (by rfl) ?_; (go_simp; (with_reducible refine hSE.mono ?_); rintro e w5 ⟨A5, c5, rfl, O5, b5⟩; refine ⟨⟨K4.drew.below b5 K4.lt, (K4.drew.below b5 K4.lt).cell rfl⟩, ?_⟩); (try simp only [Act.put, zs0, zs1, zs2]))
      have K5 := K4.drew.below b5 K4.lt
      have P5 := P4.drew.below b5 P4.lt
      have I5 := I4.drew.below b5 z4
      have X5 := X4.below (((Below.refl _ wr).drew).trans b5) z4
      have z5 : wr.heap.size ≤ w5.heap.size := b5.size
      have B5 := hB.drew.trans (b5.mono z4)
      have hH5 : Blk w5 w.heap.size 31 (tktL Ai ni ci x0 x1 x2 x3) ∧ w5.cell? ⟨w.heap.size, 0, none⟩ = some (.slice Ai ni ci) := ⟨K5, K5.cell rfl⟩
      (refine wpH_t 10 _ (by exact gE rfl) (by kernel_rfl) (by intro _ _ _ h; exact h) (Or.inl ⟨by rfl, (by intro _ h; (try dsimp only at h); go_simp; first | done | with_reducible rfl)⟩) (by assumption) ?_; (try simp only [Act.put, zs0, zs1, zs2]))
      have hcc5 := O5.cap_le
      rw [hck52] at hcc5
      have hO5n : A5 ≠ none := fun e => by
        rcases O5.form with ⟨_, e2, _⟩ | ⟨r, e2, _⟩
        · rw [e2] at hck52; cases hck52
        · rw [e2] at e; cases e
      (refine wpH_one (i := 11) (by exact gE rfl) (by kernel_rfl) (by rfl) ?_; (go_simp; refine ⟨⟨K5.old, K5.old.cell rfl⟩, ?_⟩); (try simp only [Act.put, zs0, zs1, zs2]))
      obtain ⟨w6, hw6⟩ : ∃ w6, w6 = w5.alloc (.cells #[.int .i64 260, .slice Ai ni ci, .int .i64 772, .slice A5 52 c5] 62) := ⟨_, rfl⟩
      rw [← hw6]
      have b6 : Below w5.heap.size w5 w6 := by rw [hw6]; exact (Below.refl _ w5).alloc (Nat.le_refl _) _
      have N6 : Blk w6 w5.heap.size 62 [.int .i64 260, .slice Ai ni ci, .int .i64 772, .slice A5 52 c5] := by rw [hw6]; exact Blk.new w5 _ _ _ rfl
      clear hw6
      have K6 := K5.below b6 K5.lt
      have zP5 := P5.lt
      have zK5 := K5.lt
      have P6 := P5.below b6 P5.lt
      have z45 := hB.size
      have zw5 : w.heap.size ≤ w5.heap.size := by omega
      have TB := xb_two (lo := w5.heap.size) N6 (Nat.le_refl _) hil hck52 ⟨((I5.below b6 (by omega)).wide (Nat.le_refl _) zw5), by show id'.length ≤ ci; omega, hicc, by rw [hil]; exact hin⟩ ⟨(O5.bs.wide (Nat.zero_le _) (Nat.le_refl _)).below b6 (Nat.le_refl _), by show CK.length ≤ c5; omega, O5.cap_max, fun e => absurd e hO5n⟩
      have X6 := X5.below b6 (by omega)
      obtain ⟨U, hU, hUc, hUX⟩ := xs_rows_any (lo := w5.heap.size) (n := k) X6 hL hBn zw5
      have hUl : U.length = k := by rw [← flds_len, hU, hL]
      have B6 := B5.trans (b6.mono B5.size)
      have z6 := N6.lt
      have hH6 : Blk w6 w.heap.size 31 (tktL Ai ni ci x0 x1 x2 x3) ∧ w6.cell? ⟨w.heap.size, 0, none⟩ = some (.slice Ai ni ci) := ⟨K6, K6.cell rfl⟩
      (refine wpH_t 12 _ (by exact gE rfl) (by kernel_rfl) (by intro _ _ _ h; exact h) (Or.inl ⟨by rfl, (by intro _ h; (try dsimp only at h); go_simp; first | done | with_reducible rfl)⟩) (by assumption) ?_; (try simp only [Act.put, zs0, zs1, zs2]))
      refine wpH_done (by kernel_rfl) ?_ _
      clear hHeld hH5 hH6 K4 K5 P4 P5 J4 I4 I5 X4 X5 X6 hSE hSe B5 b5 hK0 N6 O5 hO5n
      go_wp2_with fail
      have zP := P6.lt
      have zK := K6.lt
      have z1' : w1.heap.size ≤ w6.heap.size := by omega
      generalize hq1 : w1.heap.size = n1 at *
      refine wp_region_heldL (fun y => Blk y w.heap.size 31 (tktL Ai ni ci x0 x1 x2 x3) ∧ Blk y n1 27 [.int .i64 l, .int .i64 v, .int .i64 m, .int .i64 st, .int .i64 po, .int .i64 pr, .int .u32 rd, .int .u32 rp, .int .u32 id, .int .u64 ref, .int .u64 org, .int .u64 rec, .int .u64 xmt]) 9 (by kernel_rfl) rfl ⟨K6.drew, P6.drew⟩ fun hHeld => ?_
      simp only [List.replicate]
      refine wpH_t 0 (.agg ([.int .i64 l, .int .i64 v, .int .i64 m, .int .i64 st, .int .i64 po, .int .i64 pr, .int .u32 rd, .int .u32 rp, .int .u32 id, .int .u64 ref, .int .u64 org, .int .u64 rec, .int .u64 xmt]).toArray) (by exact gE rfl) (by kernel_rfl) (by intro _ _ _ h; exact h) (yieldsIf_load_mid (by rfl) 27 _ (by rfl) n1 0 (by rfl) ([.int .i64 l, .int .i64 v, .int .i64 m, .int .i64 st, .int .i64 po, .int .i64 pr, .int .u32 rd, .int .u32 rp, .int .u32 id, .int .u64 ref, .int .u64 org, .int .u64 rec, .int .u64 xmt]) _ (fun w' h => h.2.range) Tryd.underlying27 rfl sizeNtp) (by assumption) ?_
      (try simp only [Act.put, zs0, zs1, zs2])
      (refine wpH_t 1 _ (by exact gE rfl) (by kernel_rfl) (by intro _ _ _ h; exact h) (Or.inl ⟨by rfl, (by intro _ h; (try dsimp only at h); go_simp; first | done | with_reducible rfl)⟩) (by assumption) ?_; (try simp only [Act.put, zs0, zs1, zs2]))
      (refine wpH_t 2 _ (by exact gE rfl) (by kernel_rfl) (by intro _ _ _ h; exact h) (Or.inl ⟨by rfl, (by intro _ h; (try dsimp only at h); go_simp; first | done | with_reducible rfl)⟩) (by assumption) ?_; (try simp only [Act.put, zs0, zs1, zs2]))
      (refine wpH_t 4 _ (by exact gE rfl) (by kernel_rfl) (by intro _ _ _ h; exact h) (Or.inl ⟨by rfl, (by intro _ h; (try dsimp only at h); go_simp; first | done | with_reducible rfl)⟩) (by assumption) ?_; (try simp only [Act.put, zs0, zs1, zs2]))
      refine wpH_take (i := 5) (v := .agg (keyL x2 x3).toArray) (by exact gE rfl) (by kernel_rfl) (by kernel_rfl) (by kernel_rfl) (by intro _ _ _ h; exact h) (yieldsIf_load_mid (by rfl) 29 _ (by rfl) w.heap.size 3 (by rfl) (keyL x2 x3) _ (fun w' h => Blk.mid h.1 3 (keyL x2 x3) rfl) Tryd.underlying29 rfl sizeKey) (by assumption) ?_
      (try simp only [Act.put, zs0, zs1, zs2])
      (refine wpH_one (i := 3) (by exact gE rfl) (by kernel_rfl) (by rfl) ?_; (refine wp_append_xb (.tmp 53) (.tmp 54) (by rfl) 2 2 k d (by rfl) (by rfl) rfl hUl TB.drew (fun ad e j u hu => hUc ad e j u hu) hBn (fun t ht => (hUX t ht).drew) (by have := hML.out; omega) (Nat.le_of_lt z6) ?_; intro A7 c7 w7 X7 b7; refine ⟨⟨K6.drew.below b7 zK5, P6.drew.below b7 zP5⟩, ?_⟩); (try simp only [Act.put, zs0, zs1, zs2]))
      have b7' : Below w5.heap.size w6 w7 := (Below.refl _ w6).drew.trans b7
      have K7 := K6.below b7' zK5
      have P7 := P6.below b7' zP5
      have B7 := B6.trans (b7'.mono zw5)
      have hH7 : Blk w7 w.heap.size 31 (tktL Ai ni ci x0 x1 x2 x3) ∧ Blk w7 n1 27 [.int .i64 l, .int .i64 v, .int .i64 m, .int .i64 st, .int .i64 po, .int .i64 pr, .int .u32 rd, .int .u32 rp, .int .u32 id, .int .u64 ref, .int .u64 org, .int .u64 rec, .int .u64 xmt] := ⟨K7, P7⟩
      have zw7 : w5.heap.size ≤ w7.heap.size := Nat.le_trans (Nat.le_of_lt z6) b7'.size
      have XX := X7.xs zw7
      have hcap := X7.cap
      have hfl : flds ([((260, id'), (Ai, ci)), ((772, CK), (A5, c5))] ++ U) = rpF id' CK L := by
        unfold rpF
        rw [← hU]
        simp [flds]
      rw [hfl] at XX
      have hrl : (rpF id' CK L).length = 2 + k := by unfold rpF; rw [List.length_append, hL]; rfl
      rw [List.length_append] at hcap
      simp only [List.length_cons, List.length_nil, hUl] at hcap
      have hSL := hMs A7 (2 + k) c7 w7 hrl XX (by omega) hcap.2.1
      (refine wpH_one (i := 6) (by exact gE rfl) (by kernel_rfl) (by rfl) ?_; (go_simp; (with_reducible refine hSL.mono ?_); rintro e w8 ⟨A8, c8, N8, rfl, h8, O8, b8⟩; refine ⟨⟨K7.below b8 K7.lt, P7.below b8 P7.lt⟩, ?_⟩); (try simp only [Act.put, zs0, zs1, zs2]))
      have hH8 : Blk w8 w.heap.size 31 (tktL Ai ni ci x0 x1 x2 x3) ∧ Blk w8 n1 27 [.int .i64 l, .int .i64 v, .int .i64 m, .int .i64 st, .int .i64 po, .int .i64 pr, .int .u32 rd, .int .u32 rp, .int .u32 id, .int .u64 ref, .int .u64 org, .int .u64 rec, .int .u64 xmt] := ⟨K7.below b8 K7.lt, P7.below b8 P7.lt⟩
      (refine wpH_t 7 _ (by exact gE rfl) (by kernel_rfl) (by intro _ _ _ h; exact h) (Or.inl ⟨by rfl, (by intro _ h; (try dsimp only at h); go_simp; first | done | with_reducible rfl)⟩) (by assumption) ?_; (try simp only [Act.put, zs0, zs1, zs2]))
      (refine wpH_t 8 _ (by exact gE rfl) (by kernel_rfl) (by intro _ _ _ h; exact h) (Or.inl ⟨by rfl, (by intro _ h; (try dsimp only at h); go_simp; first | done | with_reducible rfl)⟩) (by assumption) ?_; (try simp only [Act.put, zs0, zs1, zs2]))
      refine wpH_done (by kernel_rfl) ?_ _
      have B8 := B7.trans (b8.mono B7.size)
      have O8' := O8.wide B7.size
      clear hHeld hH7 hH8 hSL XX X7 hfl hMs K6 K7 P6 P7 TB hUc hUX
      go_wp2_with fail
      go_ret2
      exact ⟨A8, c8, N8, rfl, h8, O8', B8⟩
end Go.Proofs.YtachhbbofemfdaaDoor
namespace Go.Proofs.YtachhbbofemfdaaDoor
open Go.RowKit
set_option linter.unusedSimpArgs false
set_option linter.unusedVariables false
set_option maxRecDepth 100000
set_option maxRecDepth 100000 in
set_option maxHeartbeats 4000000 in
theorem rcreq_nil (l v m st po pr rd rp id ref org rec xmt nonce : Int) (w : World) : Calls Tryd.prog 53 #[.pointer none, ntp l v m st po pr rd rp id ref org rec xmt, .int .u64 nonce] w fun e w' => e = .returned (.tuple #[.slice none 0 0, .int .i64 1]) ∧ Below w.heap.size w w' := by
  go_enter Tryd.func53, Tryd.ntmps53
  go_wp2_with (first
    | (refine wpl_box (by rfl) 27 _ (by rfl) _ ([.int .i64 l, .int .i64 v, .int .i64 m, .int .i64 st, .int .i64 po, .int .i64 pr, .int .u32 rd, .int .u32 rp, .int .u32 id, .int .u64 ref, .int .u64 org, .int .u64 rec, .int .u64 xmt]) (by rfl) rfl ?_; intro w1 P1 s1 b1))
  go_ret2
  exact ⟨rfl, b1⟩
set_option maxRecDepth 100000 in
set_option maxHeartbeats 4000000 in
theorem rcreq_arg (l v m st po pr rd rp id ref org rec xmt nonce : Int) (b : Nat) (w : World) (hE : nchk l v m st po pr ≠ 0) : Calls Tryd.prog 53 #[.pointer (some ⟨b, 0, none⟩), ntp l v m st po pr rd rp id ref org rec xmt, .int .u64 nonce] w fun e w' => e = .returned (.tuple #[.slice none 0 0, .int .i64 2]) ∧ Below w.heap.size w w' := by
  have hK := fun W => rnchk_any l v m st po pr rd rp id ref org rec xmt W
  have hE' : (nchk l v m st po pr != 0) = true := by simpa using hE
  generalize nchk l v m st po pr = E at hK hE'
  clear hE
  go_enter Tryd.func53, Tryd.ntmps53
  go_wp2_with (first
    | (refine wpl_box (by rfl) 27 _ (by rfl) _ ([.int .i64 l, .int .i64 v, .int .i64 m, .int .i64 st, .int .i64 po, .int .i64 pr, .int .u32 rd, .int .u32 rp, .int .u32 id, .int .u64 ref, .int .u64 org, .int .u64 rec, .int .u64 xmt]) (by rfl) rfl ?_; intro w1 P1 s1 b1)
    | (refine wpl_load (by rfl) 27 _ (by rfl) w.heap.size (by rfl) 27 _ P1 _ Tryd.underlying27 rfl _ sizeNtp (by rfl) ?_)
    | (go_at_call 42; ((with_reducible refine (hK _).mono ?_); rintro e w2 ⟨rfl, b2⟩)))
  go_ret2
  exact ⟨rfl, b1.trans (b2.mono b1.size)⟩
set_option maxRecDepth 100000 in
set_option maxHeartbeats 4000000 in
theorem rcreq_empty {w : World} {lo b : Nat} {G : List Nat} {k0 k1 k2 k3 N : Int} {I : List (List Int)} (l v m st po pr rd rp id ref org rec xmt nonce : Int) (h : Rcl w lo b G k0 k1 k2 k3 [] N I) (hE : nchk l v m st po pr = 0) :
    Calls Tryd.prog 53 #[.pointer (some ⟨b, 0, none⟩), ntp l v m st po pr rd rp id ref org rec xmt, .int .u64 nonce] w fun e w' => e = .returned (.tuple #[.slice none 0 0, .int .i64 14]) ∧ Below w.heap.size w w' := by
  obtain ⟨g1, g2, T, U, A, n, c, A2, n2, c2, rfl, e2, e3, hC⟩ := h
  obtain rfl : T = [] := by simpa using e2
  obtain rfl : n = 0 := by have := hC.tn; simpa using this.symm
  have hK := fun W => rnchk_any l v m st po pr rd rp id ref org rec xmt W
  rw [hE] at hK
  have hB := hC.blk
  go_enter Tryd.func53, Tryd.ntmps53
  go_wp2_with (first
    | (refine wpl_box (by rfl) 27 _ (by rfl) _ ([.int .i64 l, .int .i64 v, .int .i64 m, .int .i64 st, .int .i64 po, .int .i64 pr, .int .u32 rd, .int .u32 rp, .int .u32 id, .int .u64 ref, .int .u64 org, .int .u64 rec, .int .u64 xmt]) (by rfl) rfl ?_; intro w1 P1 s1 b1)
    | (refine wpl_load (by rfl) 27 _ (by rfl) w.heap.size (by rfl) 27 _ P1 _ Tryd.underlying27 rfl _ sizeNtp (by rfl) ?_)
    | (go_at_call 42; ((with_reducible refine (hK _).mono ?_); rintro e w2 ⟨rfl, b2⟩; (have B2 := b1.trans (b2.mono b1.size)); (have hB2 := hB.below B2 hB.lt)))
    | (refine wpl_loadf (by rfl) 51 _ (by rfl) b 4 (by rfl) _ _ hB2 _ rfl _ Tryd.underlying51 rfl ?_))
  go_ret2
  exact ⟨rfl, B2⟩
theorem two_lt {b g N : Nat} (h1 : b < N) (h2 : g < N) : ∀ k, k ∈ [b, g] → k < N := fun k hk => by
  have hk' : k = b ∨ k = g := by simpa using hk
  omega
theorem al8 (w : World) (o : Obj) : Below w.heap.size w (w.alloc o) := (Below.refl _ _).alloc (Nat.le_refl _) _
set_option maxRecDepth 100000 in
set_option maxHeartbeats 16000000 in
theorem rcreq2 {w : World} {lo b g1 g2 : Nat} {k0 k1 k2 k3 N : Int} {t0 : CkT} {T U : List CkT} {A A2 : Option Addr} {n c n2 c2 : Nat} (l v m st po pr rd rp id ref org rec xmt nonce : Int) (hC : RcX w lo b g1 g2 k0 k1 k2 k3 (t0 :: T) N U A n c A2 n2 c2) (hE : nchk l v m st po pr = 0) (h6 : 0 ≤ rd ∧ rd ≤ 4294967295) (h7 : 0 ≤ rp ∧ rp ≤ 4294967295) (h8 : 0 ≤ id ∧ id ≤ 4294967295) (h9 : 0 ≤ ref ∧ ref ≤ 18446744073709551615) (h10 : 0 ≤ org ∧ org ≤ 18446744073709551615) (h11 : 0 ≤ rec ∧ rec ≤ 18446744073709551615) (h12 : 0 ≤ xmt ∧ xmt ≤ 18446744073709551615)
    (hk0 : U64 k0) (hk1 : U64 k1) (hN : 0 ≤ N ∧ N < 9223372036854775807) (hno : U64 nonce) (hn8 : T.length + 1 ≤ 8) (hn28 : n2 ≤ 8) :
    Calls Tryd.prog 53 #[.pointer (some ⟨b, 0, none⟩), ntp l v m st po pr rd rp id ref org rec xmt, .int .u64 nonce] w fun e w' => ∃ r c' Nn g2' U' A' n' c1' A2' n2' c2', e = .returned (.tuple #[.slice (some ⟨r, 0, none⟩) Nn c', .int .i64 0]) ∧ (msgB l v m st po pr rd rp id ref org rec xmt (rqF (N + 1) nonce t0.2.2) k0 k1).length = Nn ∧
      Ck w' w.heap.size [b, g1, g2'] (r, c', msgB l v m st po pr rd rp id ref org rec xmt (rqF (N + 1) nonce t0.2.2) k0 k1) ∧ RcX w' lo b g1 g2' k0 k1 k2 k3 T (N + 1) U' A' n' c1' A2' n2' c2' ∧ U'.map (fun t : CkT => t.2.2) = wtN (U.map fun t : CkT => t.2.2) (idB (N + 1) nonce) ∧
      Kp w [b, g1, g2] w' ∧ (g2' = g2 ∨ w.heap.size ≤ g2') ∧ ∀ t ∈ U', t ∈ U ∨ w.heap.size ≤ t.1 := by
  obtain ⟨I, e3⟩ : ∃ I, U.map (fun t : CkT => t.2.2) = I := ⟨_, rfl⟩
  rw [e3]
  · skip
    have hn : n = T.length + 1 := by have := hC.tn; simpa using this.symm
    have hIn : Hid (I.length = n2) := by show _ = _; rw [← hC.un, ← e3, List.length_map]
    have he3 := Lib.hid e3
    have hn2 : n2 ≤ 8 := hn28
    have hK := fun W => rnchk_any l v m st po pr rd rp id ref org rec xmt W
    rw [hE] at hK
    have hw1 : IntKind.i64.wrap (N + 1) = N + 1 := IntWalk.i64_in _ (by omega)
    have hw2 : IntKind.u64.wrap (N + 1) = N + 1 := by rw [IntKind.wrap_u64]; omega
    obtain ⟨hc0, hc52⟩ := hC.ck t0 (List.mem_cons_self ..)
    have hapx := rqF_apx (N + 1) nonce hc52
    have hS := fun B q d W hm hX hmd hd => rsealed_ok l v m st po pr rd rp id ref org rec xmt B q d (rqF (N + 1) nonce t0.2.2) k0 k1 W hE h6 h7 h8 h9 h10 h11 h12 hm hX hmd hd hapx hk0 hk1
    have hB := hC.blk
    have hnp : 0 < n := by omega
    have hnd : ((n : Int) == 0) = false := by simp; omega
    have HTn := Lib.hid hn
    have hn9 : n ≤ 8 := by omega
    clear hn
    have hid1 := fun W => rapp8 none 0 0 0 0 [] (N + 1) W rfl Bs.nil (Nat.zero_le _) (by omega) ⟨by omega, by omega⟩
    go_enter Tryd.func53, Tryd.ntmps53
    go_wp2_with (first
      | (refine wpl_box (by rfl) 27 _ (by rfl) _ ([.int .i64 l, .int .i64 v, .int .i64 m, .int .i64 st, .int .i64 po, .int .i64 pr, .int .u32 rd, .int .u32 rp, .int .u32 id, .int .u64 ref, .int .u64 org, .int .u64 rec, .int .u64 xmt]) (by rfl) rfl ?_; intro w1 P1 s1 b1)
      | (refine wpl_load (by rfl) 27 _ (by rfl) w.heap.size (by rfl) 27 _ P1 _ Tryd.underlying27 rfl _ sizeNtp (by rfl) ?_)
      | (go_at_call 42; ((with_reducible refine (hK _).mono ?_); rintro e w2 ⟨rfl, b2⟩; (have B2 := b1.trans (b2.mono b1.size)); (have P2 := P1.below b2 P1.lt); (have hB2 := hB.below B2 hB.lt)))
      | (refine wpl_loadf (by rfl) 51 _ (by rfl) b 4 (by rfl) _ _ hB2 _ rfl _ Tryd.underlying51 rfl ?_)
      | (refine wpl_loadf (by rfl) 3 _ (by rfl) b 5 (by rfl) _ _ hB2 _ rfl _ Tryd.underlying3 rfl ?_)
      | (refine wpl_storeg (by rfl) 3 _ _ (by rfl) b 5 (by rfl) (.int .i64 (N + 1)) (by rfl) (by rfl) (by simp [Value.oneCell']) _ _ (rcF k0 k1 k2 k3 (N + 1) (.slice A n c) (.slice A2 n2 c2)) hB2 (by simp) sizeI64' (by rfl) ?_; intro w3 hB3 s3 g3)
      | (refine wpl_loadf (by rfl) 3 _ (by rfl) b 5 (by rfl) _ _ hB3 _ rfl _ Tryd.underlying3 rfl ?_)
      | (go_at_call 50; ((with_reducible refine (hid1 _).mono ?_); rintro e w4 ⟨A4, c4, rfl, O4, b4⟩)))
    have hbw : b < w.heap.size := hB.lt
    have hg1w : g1 < w.heap.size := hC.lt1
    have hg2w : g2 < w.heap.size := hC.lt2
    have z34 := b4.size
    have zw1 : w.heap.size < w1.heap.size := s1
    have hC2 := hC.below B2 (Nat.le_refl _)
    have hC3 : RcX w3 lo b g1 g2 k0 k1 k2 k3 (t0 :: T) (N + 1) U A n c A2 n2 c2 := hC2.upd g3 hB3 (fun v hv => hv) (fun v hv => hv) hC2.tn hC2.un hC2.cs hC2.ws
    have P3 := P2.but g3 (Nat.ne_of_gt hbw)
    have hC4 := hC3.below b4 (Nat.le_refl _)
    have P4 := P3.below b4 P3.lt
    have K3 : Kp w [b, g1, g2] w3 := (Kp.of_below B2).but g3 (.inr (by simp))
    have K4 := K3.belowS b4
    have O4' : Ow w4 w3.heap.size A4 c4 (bytesB 8 (N + 1)) := by simpa using O4
    have hid2 := rapp8 A4 8 c4 _ _ (bytesB 8 (N + 1)) nonce w4 (bytesB_length _ _) O4'.bs (Nat.le_refl _) (by omega) ⟨hno.1, by have := hno.2; omega⟩
    have z3 : w.heap.size ≤ w3.heap.size := K3.size
    clear O4 hid1 P1 P2 P3 B2 hB2 hB3 hC hC2 hC3 b1 b2 g3 s3 s1 hB
    go_wp2_with fail
    with_reducible refine hid2.mono ?_
    rintro e w5 ⟨A5, c5, rfl, O5, b5⟩
    have hidl := idB_len (N + 1) nonce
    have O5 : Ow w5 w4.heap.size A5 c5 (idB (N + 1) nonce) := O5
    obtain ⟨gi, rfl, hgi1, hgi2⟩ : ∃ gi, A5 = some ⟨gi, 0, none⟩ ∧ w4.heap.size ≤ gi ∧ gi < w5.heap.size := by
      rcases O5.form with ⟨_, e, _⟩ | ⟨g, q1, q2, q3⟩
      · rw [e] at hidl; cases hidl
      · exact ⟨g, q1, q2, q3⟩
    have hC5 := hC4.below b5 (Nat.le_refl _)
    have P5 := P4.below b5 P4.lt
    have K5 := K4.belowS b5
    have hci := O5.cap_le
    have hcim := O5.cap_max
    rw [hidl] at hci
    have hB5 := hC5.blk
    obtain ⟨o, hA, hat⟩ := hC5.cs.at (k := 0) (by omega) (by omega)
    have e52 : ckV t0 = .slice (some ⟨t0.1, 0, none⟩) 52 t0.2.1 := by show Value.slice _ t0.2.2.length _ = _; rw [hc52]
    have hck5 : w5.cell? ⟨g1, o, none⟩ = some (.slice (some ⟨t0.1, 0, none⟩) 52 t0.2.1) := by rw [← e52]; simpa using hat 0 (by omega)
    subst hA
    have hn0 : (0 : Int) < n := by omega
    have hO5 := (hC5.ck t0 (List.mem_cons_self ..)).1.1
    have hc5 : w5.cell? ⟨b, 4, none⟩ = some (.slice (some ⟨g1, o, none⟩) n c) := hB5.cell rfl
    have zb : b < w5.heap.size := hB5.lt
    have z1 := hC5.lt1
    have z2' := hC5.lt2
    clear hC4 P4 K4 K3 O4' hid2 b4 b5 hat e52 hK
    go_wp2_with fail
    refine wp_region_heldL (fun y => Blk y w.heap.size 27 [.int .i64 l, .int .i64 v, .int .i64 m, .int .i64 st, .int .i64 po, .int .i64 pr, .int .u32 rd, .int .u32 rp, .int .u32 id, .int .u64 ref, .int .u64 org, .int .u64 rec, .int .u64 xmt] ∧ Blk y b 107 (rcF k0 k1 k2 k3 (N + 1) (.slice (some ⟨g1, o, none⟩) n c) (.slice A2 n2 c2)) ∧ y.cell? ⟨b, 4, none⟩ = some (.slice (some ⟨g1, o, none⟩) n c) ∧ y.cell? ⟨g1, o, none⟩ = some (.slice (some ⟨t0.1, 0, none⟩) 52 t0.2.1)) 17 (by kernel_rfl) rfl ⟨P5.drew, hB5.drew, hc5, hck5⟩ fun hHeld => ?_
    simp only [List.replicate]
    refine wpH_t 0 (.agg ([.int .i64 l, .int .i64 v, .int .i64 m, .int .i64 st, .int .i64 po, .int .i64 pr, .int .u32 rd, .int .u32 rp, .int .u32 id, .int .u64 ref, .int .u64 org, .int .u64 rec, .int .u64 xmt]).toArray) (by exact gE rfl) (by kernel_rfl) (by intro _ _ _ h; exact h) (yieldsIf_load_mid (by rfl) 27 _ (by rfl) w.heap.size 0 (by rfl) ([.int .i64 l, .int .i64 v, .int .i64 m, .int .i64 st, .int .i64 po, .int .i64 pr, .int .u32 rd, .int .u32 rp, .int .u32 id, .int .u64 ref, .int .u64 org, .int .u64 rec, .int .u64 xmt]) _ (fun w' h => h.1.range) Tryd.underlying27 rfl sizeNtp) (by assumption) ?_
    (try simp only [Act.put, zs0, zs1, zs2])
    (refine wpH_t 1 _ (by exact gE rfl) (by kernel_rfl) (by intro _ _ _ h; exact h) (Or.inl ⟨by rfl, (by intro _ h; (try dsimp only at h); go_simp; first | done | with_reducible rfl)⟩) (by assumption) ?_; (try simp only [Act.put, zs0, zs1, zs2]))
    (refine wpH_t 2 _ (by exact gE rfl) (by kernel_rfl) (by intro _ _ _ h; exact h) (Or.inl ⟨by rfl, (by intro _ h; (try dsimp only at h); go_simp; first | done | with_reducible rfl)⟩) (by assumption) ?_; (try simp only [Act.put, zs0, zs1, zs2]))
    (refine wpH_t 3 _ (by exact gE rfl) (by kernel_rfl) (by intro _ _ _ h; exact h) (Or.inl ⟨by rfl, (by intro _ h; (try dsimp only at h); go_simp; first | done | with_reducible rfl)⟩) (by assumption) ?_; (try simp only [Act.put, zs0, zs1, zs2]))
    (refine wpH_t 4 _ (by exact gE rfl) (by kernel_rfl) (by intro _ _ _ h; exact h) (Or.inl ⟨by rfl, (by intro _ h; (try dsimp only at h); go_simp; first | done | with_reducible rfl)⟩) (by assumption) ?_; (try simp only [Act.put, zs0, zs1, zs2]))
    (refine wpH_t 5 _ (by exact gE rfl) (by kernel_rfl) (by intro _ _ _ h; exact h) (Or.inl ⟨by rfl, (by intro _ h; (try dsimp only at h); go_simp; first | done | with_reducible rfl)⟩) (by assumption) ?_; (try simp only [Act.put, zs0, zs1, zs2]))
    (refine wpH_t 6 _ (by exact gE rfl) (by kernel_rfl) (by intro _ _ _ h; exact h) (Or.inl ⟨by rfl, (by intro _ h; (try dsimp only at h); go_simp; first | done | with_reducible rfl)⟩) (by assumption) ?_; (try simp only [Act.put, zs0, zs1, zs2]))
    (refine wpH_t 7 _ (by exact gE rfl) (by kernel_rfl) (by intro _ _ _ h; exact h) (Or.inl ⟨by rfl, (by intro _ h; (try dsimp only at h); go_simp; first | done | with_reducible rfl)⟩) (by assumption) ?_; (try simp only [Act.put, zs0, zs1, zs2]))
    (refine wpH_t 8 _ (by exact gE rfl) (by kernel_rfl) (by intro _ _ _ h; exact h) (Or.inl ⟨by rfl, (by intro _ h; (try dsimp only at h); go_simp; first | done | with_reducible rfl)⟩) (by assumption) ?_; (try simp only [Act.put, zs0, zs1, zs2]))
    (refine wpH_t 9 _ (by exact gE rfl) (by kernel_rfl) (by intro _ _ _ h; exact h) (Or.inl ⟨by rfl, (by intro _ h; (try dsimp only at h); go_simp; first | done | with_reducible rfl)⟩) (by assumption) ?_; (try simp only [Act.put, zs0, zs1, zs2]))
    (refine wpH_t 11 _ (by exact gE rfl) (by kernel_rfl) (by intro _ _ _ h; exact h) (Or.inl ⟨by rfl, (by intro _ h; (try dsimp only at h); go_simp; first | done | with_reducible rfl)⟩) (by assumption) ?_; (try simp only [Act.put, zs0, zs1, zs2]))
    (refine wpH_t 12 _ (by exact gE rfl) (by kernel_rfl) (by intro _ _ _ h; exact h) (Or.inl ⟨by rfl, (by intro _ h; (try dsimp only at h); go_simp; first | done | with_reducible rfl)⟩) (by assumption) ?_; (try simp only [Act.put, zs0, zs1, zs2]))
    (refine wpH_t 13 _ (by exact gE rfl) (by kernel_rfl) (by intro _ _ _ h; exact h) (Or.inl ⟨by rfl, (by intro _ h; (try dsimp only at h); go_simp; first | done | with_reducible rfl)⟩) (by assumption) ?_; (try simp only [Act.put, zs0, zs1, zs2]))
    refine wpH_t 14 (.agg (keyL k0 k1).toArray) (by exact gE rfl) (by kernel_rfl) (by intro _ _ _ h; exact h) (yieldsIf_load_mid (by rfl) 29 _ (by rfl) b 0 (by rfl) (keyL k0 k1) _ (fun w' h => Blk.mid h.2.1 0 (keyL k0 k1) rfl) Tryd.underlying29 rfl sizeKey) (by assumption) ?_
    (try simp only [Act.put, zs0, zs1, zs2])
    have hn5 : w5.drew.heap.size = w5.heap.size := rfl
    (refine wpH_one (i := 10) (by exact gE rfl) (by kernel_rfl) (by rfl) ?_; (go_simp; refine ⟨⟨P5.drew.old, hB5.drew.old⟩, ?_⟩); (try simp only [Act.put, zs0, zs1, zs2]))
    obtain ⟨w6, hw6⟩ : ∃ w6, w6 = (w5.alloc (.cells #[.int .i64 260, .slice (some ⟨gi, 0, none⟩) 16 c5, .int .i64 516, .slice (some ⟨t0.1, 0, none⟩) 52 t0.2.1] 62)).drew := ⟨_, rfl⟩
    rw [← hw6]
    have b6 : Below w5.heap.size w5 w6 := by rw [hw6]; exact ((Below.refl _ w5).alloc (Nat.le_refl _) _).drew
    have N6 : Blk w6 w5.heap.size 62 [.int .i64 260, .slice (some ⟨gi, 0, none⟩) 16 c5, .int .i64 516, .slice (some ⟨t0.1, 0, none⟩) 52 t0.2.1] := by rw [hw6]; exact (Blk.new w5 _ _ _ rfl).drew
    clear hw6
    have O6 := hO5.below b6 (Nat.le_refl _)
    have I6 := O5.below b6 (Nat.le_refl _)
    have z6 := N6.lt
    have X6 : Xs w6 w6.heap.size (some ⟨w5.heap.size, 0, none⟩) (rqF (N + 1) nonce t0.2.2) := xs_two N6 z6 hidl (I6.bs.wide (Nat.zero_le _) (Nat.le_refl _)) hci hcim (fun h => by cases h) hc52 (O6.bs.wide (Nat.zero_le _) (Nat.le_refl _)) (by have := O6.cap_le; omega) O6.cap_max (fun h => by cases h)
    have P6 := P5.below b6 P5.lt
    have hB6 := hB5.below b6 hB5.lt
    have hC6 := hC5.below b6 (Nat.le_refl _)
    have hck6 := kept_cell b6 hck5 (World.block_lt_of_cell? w5 _ hck5)
    have K6 := K5.belowS b6
    have hHeld6 : Blk w6 w.heap.size 27 [.int .i64 l, .int .i64 v, .int .i64 m, .int .i64 st, .int .i64 po, .int .i64 pr, .int .u32 rd, .int .u32 rp, .int .u32 id, .int .u64 ref, .int .u64 org, .int .u64 rec, .int .u64 xmt] ∧ Blk w6 b 107 (rcF k0 k1 k2 k3 (N + 1) (.slice (some ⟨g1, o, none⟩) n c) (.slice A2 n2 c2)) ∧ w6.cell? ⟨b, 4, none⟩ = some (.slice (some ⟨g1, o, none⟩) n c) ∧ w6.cell? ⟨g1, o, none⟩ = some (.slice (some ⟨t0.1, 0, none⟩) 52 t0.2.1) := ⟨P6, hB6, hB6.cell rfl, hck6⟩
    have hSE := hS (some ⟨w5.heap.size, 0, none⟩) 2 2 w6 rfl X6 (Nat.le_refl _) (by omega)
    have hML : 0 < (msgB l v m st po pr rd rp id ref org rec xmt (rqF (N + 1) nonce t0.2.2) k0 k1).length := by rw [msgB_len]; omega
    generalize hMM : msgB l v m st po pr rd rp id ref org rec xmt (rqF (N + 1) nonce t0.2.2) k0 k1 = MM at hSE hML ⊢
    (refine wpH_one (i := 15) (by exact gE rfl) (by kernel_rfl) (by rfl) ?_; (go_simp; (with_reducible refine hSE.mono ?_); rintro e w7 ⟨A7, c7, N7, rfl, h7, O7, b7⟩; refine ⟨⟨P6.below b7 P6.lt, hB6.below b7 hB6.lt, (hB6.below b7 hB6.lt).cell rfl, kept_cell b7 hck6 (World.block_lt_of_cell? w6 _ hck6)⟩, ?_⟩); (try simp only [Act.put, zs0, zs1, zs2]))
    have hHeld7 : Blk w7 w.heap.size 27 [.int .i64 l, .int .i64 v, .int .i64 m, .int .i64 st, .int .i64 po, .int .i64 pr, .int .u32 rd, .int .u32 rp, .int .u32 id, .int .u64 ref, .int .u64 org, .int .u64 rec, .int .u64 xmt] ∧ Blk w7 b 107 (rcF k0 k1 k2 k3 (N + 1) (.slice (some ⟨g1, o, none⟩) n c) (.slice A2 n2 c2)) ∧ w7.cell? ⟨b, 4, none⟩ = some (.slice (some ⟨g1, o, none⟩) n c) ∧ w7.cell? ⟨g1, o, none⟩ = some (.slice (some ⟨t0.1, 0, none⟩) 52 t0.2.1) := ⟨P6.below b7 P6.lt, hB6.below b7 hB6.lt, (hB6.below b7 hB6.lt).cell rfl, kept_cell b7 hck6 (World.block_lt_of_cell? w6 _ hck6)⟩
    (refine wpH_t 16 _ (by exact gE rfl) (by kernel_rfl) (by intro _ _ _ h; exact h) (Or.inl ⟨by rfl, (by intro _ h; (try dsimp only at h); go_simp; first | done | with_reducible rfl)⟩) (by assumption) ?_; (try simp only [Act.put, zs0, zs1, zs2]))
    refine wpH_done (by kernel_rfl) ?_ _
    have hC7 := hC6.below b7 (Nat.le_refl _)
    have I7 := I6.below b7 (Nat.le_refl _)
    have K7 := K6.belowS b7
    have hB7 := hC7.blk
    obtain ⟨r, rfl, hr1, hr2⟩ : ∃ r, A7 = some ⟨r, 0, none⟩ ∧ w6.heap.size ≤ r ∧ r < w7.heap.size := by
      rcases O7.form with ⟨_, e, _⟩ | ⟨r, e1, e2, e3⟩
      · rw [e] at hML; cases hML
      · exact ⟨r, e1, e2, e3⟩
    have HM := Lib.hid hMM
    have HN7 := Lib.hid h7
    have zw6 : w.heap.size ≤ w6.heap.size := K6.size
    clear hMM h7 hML hHeld hHeld6 hHeld7 X6 N6 hSE O6 P6 P5 hB6 hB5 hck5 hck6 hc5 hC5 hC6 b6 b7 hS hapx hO5 K5 K6 I6 O5
    have hn1 : (1 : Int) ≤ n := by omega
    have hnc := hC7.cs.2.1
    obtain ⟨A1, hA1⟩ : ∃ A1, (if c = 1 then some (⟨g1, o, none⟩ : Addr) else some ⟨g1, o + 1, none⟩) = A1 := ⟨_, rfl⟩
    have R1 : Rw w7 1 g1 [b, g2] A1 (n - 1) (c - 1) (T.map ckV) := by
      have h := hC7.cs.tail (by omega)
      rw [← hA1]
      simpa [Addr.add] using h
    have hTn1 : T.length = n - 1 := by have := HTn.out; omega
    have I7w := I7.wide (lo' := lo) (by have := hC7.lob; omega)
    have hgib : gi ∉ [b, g2, g1] := by simp; omega
    by_cases h28 : n2 = 8
    · have hd8 : decide ((8 : Int) < (n2 : Int) + 1) = true := decide_eq_true (by omega)
      have H28 := Lib.hid h28
      clear h28
      go_wp2_with (first
        | (refine wpl_loadf (by rfl) 51 _ (by rfl) b 4 (by rfl) _ _ hB7 _ rfl _ Tryd.underlying51 rfl ?_)
        | ((refine wpl_storeg (by rfl) 51 _ _ (by rfl) b 4 (by rfl) (.slice A1 (n - 1) (c - 1)) (by rfl) (by rfl) (by simp [Value.oneCell']) _ _ (rcF k0 k1 k2 k3 (N + 1) (.slice A1 (n - 1) (c - 1)) (.slice A2 n2 c2)) hB7 (by simp) sizeSls (by rfl) ?_; intro w8 hB8 s8 g8); (have hC8 : RcX w8 lo b g1 g2 k0 k1 k2 k3 T (N + 1) U A1 (n - 1) (c - 1) A2 n2 c2 := hC7.upd g8 hB8 (fun v hv => List.mem_cons_of_mem _ hv) (fun v hv => hv) hTn1 hC7.un R1 hC7.ws); (have I8 := I7w.grown g8 (fun g e => by cases e; simp; omega)); (have hCa := (hC8.below (al8 w8 (.cells #[.slice (some ⟨gi, 0, none⟩) 16 c5] 23)) (Nat.le_refl _)).swap); (have Na := Blk.new w8 23 #[.slice (some ⟨gi, 0, none⟩) 16 c5] [.slice (some ⟨gi, 0, none⟩) 16 c5] rfl))
        | (refine wpl_loadf (by rfl) 51 _ (by rfl) b 6 (by rfl) _ _ hB8 _ rfl _ Tryd.underlying51 rfl ?_)
        | (refine wpl_append_rw (by rfl) 51 23 (.slice none 0 0) 24 (.tmp 72) (.tmp 74) (by rfl) Tryd.underlying51 infoSl (by rfl) (by omega) (by rfl) hCa.cs ⟨w8.heap.size, 0, none⟩ 1 1 [.slice (some ⟨gi, 0, none⟩) 16 c5] (by rfl) rfl (by omega) (cells2_of Na) (by simp [Value.oneCell']) (by omega) (by omega) (two_lt hCa.blk.lt hCa.lt2) ?_; intro g9 A9 c9 w9 R9 K9 G9 L9; obtain ⟨o9, rfl, _⟩ := R9.at (k := 0) (Nat.succ_pos _) (by omega); have hJ9 := K9.blk hCa.blk hCa.bfp; have hc9 := R9.2.1; have hc91 : (c9 = 1) = False := eq_false (by have := H28.out; omega); have hc92 : (1 : Int) ≤ c9 := (by omega); have hc93 : (n2 : Int) + 1 ≤ c9 := (by omega); have hc94 : (1 : Int) ≤ (n2 : Int) + 1 := (by omega))
        | (refine wpl_storeg (by rfl) 51 _ _ (by rfl) b 6 (by rfl) (.slice (some ⟨g9, o9, none⟩) (n2 + 1) c9) (by rfl) (by rfl) (by simp [Value.oneCell']) _ _ (rcF k0 k1 k2 k3 (N + 1) (.slice A1 (n - 1) (c - 1)) (.slice (some ⟨g9, o9, none⟩) (n2 + 1) c9)) hJ9 (by simp) sizeSls (by rfl) ?_; intro w10 hB10 s10 g10)
        | (refine wpl_loadf (by rfl) 51 _ (by rfl) b 6 (by rfl) _ _ hB10 _ rfl _ Tryd.underlying51 rfl ?_)
        | ((refine wpl_storeg (by rfl) 51 _ _ (by rfl) b 6 (by rfl) (.slice (some ⟨g9, o9 + 1, none⟩) n2 (c9 - 1)) (by rfl) (by rfl) (by simp [Value.oneCell']) _ _ (rcF k0 k1 k2 k3 (N + 1) (.slice A1 (n - 1) (c - 1)) (.slice (some ⟨g9, o9 + 1, none⟩) n2 (c9 - 1))) hB10 (by simp) sizeSls (by rfl) ?_; intro w11 hB11 s11 g11)))
      have Ia := I8.below (al8 w8 (.cells #[.slice (some ⟨gi, 0, none⟩) 16 c5] 23)) (Nat.le_refl _)
      have zwa := (al8 w8 (.cells #[.slice (some ⟨gi, 0, none⟩) 16 c5] 23)).size
      obtain ⟨hC10, hK10, z10⟩ := hCa.push' (u := (gi, c5, idB (N + 1) nonce)) Ia hidl hgib (by show Rw w9 1 g9 [b, g1] (some ⟨g9, o9, none⟩) (n2 + 1) c9 (U.map ckV ++ [ckV (gi, c5, idB (N + 1) nonce)]); unfold ckV; rw [hidl]; exact R9) K9 G9 L9 g10 hB10
      have Kx : Kp w7 [b, g2] (w8.alloc (.cells #[.slice (some ⟨gi, 0, none⟩) 16 c5] 23)) := ((Kp.refl w7 _).but g8 (.inr (by simp))).belowS (al8 w8 _)
      have K710 := Kx.trans hK10
      have zs8 := g8.size
      have hr9 : r ≠ g9 := by rcases G9 with G9 | G9 <;> omega
      have Z7 : Ck w7 w.heap.size [b, g1, g2] (r, c7, MM) := ⟨O7.wide zw6, by simp; omega⟩
      have hNw : g9 = g2 ∨ w.heap.size ≤ g9 := by
        rcases G9 with G9 | G9
        · exact .inl G9
        · exact .inr (by omega)
      have hUn : ∀ v ∈ U ++ [(gi, c5, idB (N + 1) nonce)], v ∈ U ∨ w.heap.size ≤ v.1 := fun v hv => by
        rw [List.mem_append] at hv
        rcases hv with hv | hv
        · exact .inl hv
        · rw [List.mem_singleton.1 hv]; exact .inr (by show w.heap.size ≤ gi; omega)
      have K711 := K710.but g11 (.inr (by simp))
      have hcs := hC10.cs.tail (by omega)
      rw [if_neg (by have := H28.out; omega), ← List.map_drop] at hcs
      have hC11 := hC10.upd (F' := fun x y => rcF k0 k1 k2 k3 (N + 1) y x) (T' := (U ++ [(gi, c5, idB (N + 1) nonce)]).drop 1) g11 hB11 (fun v hv => List.mem_of_mem_drop hv) (fun v hv => hv) (by rw [List.length_drop, hC10.tn]; rfl) hC10.un (by simpa [Addr.add] using hcs) hC10.ws
      have hI : ((U ++ [(gi, c5, idB (N + 1) nonce)]).drop 1).map (fun t : CkT => t.2.2) = wtN I (idB (N + 1) nonce) := by
        unfold wtN
        rw [if_pos (hIn.out.trans H28.out), List.map_drop, List.map_append, he3.out, List.drop_append_of_le_length (by rw [hIn.out, H28.out]; omega)]
        rfl
      have Z11 := Z7.kp (G' := [b, g1, g9]) K711 (by show r ∉ _; simp; omega) (by show r ∉ _; simp; omega)
      have Kw := K7.trans (kp_mono K711 (fun x hx => by
        have : x = b ∨ x = g2 := by simpa using hx
        rcases this with rfl | rfl <;> simp))
      go_ret2
      exact ⟨r, c7, N7, g9, _, A1, n - 1, c - 1, some ⟨g9, o9 + 1, none⟩, n2, c9 - 1, rfl, by rw [HM.out]; exact HN7.out, by rw [HM.out]; exact Z11, hC11.swap.fun_eq (fun _ _ => rfl), hI, Kw, hNw, fun v hv => hUn v (List.mem_of_mem_drop hv)⟩
    · have hd8 : decide ((8 : Int) < (n2 : Int) + 1) = false := decide_eq_false (by omega)
      go_wp2_with (first
        | (refine wpl_loadf (by rfl) 51 _ (by rfl) b 4 (by rfl) _ _ hB7 _ rfl _ Tryd.underlying51 rfl ?_)
        | ((refine wpl_storeg (by rfl) 51 _ _ (by rfl) b 4 (by rfl) (.slice A1 (n - 1) (c - 1)) (by rfl) (by rfl) (by simp [Value.oneCell']) _ _ (rcF k0 k1 k2 k3 (N + 1) (.slice A1 (n - 1) (c - 1)) (.slice A2 n2 c2)) hB7 (by simp) sizeSls (by rfl) ?_; intro w8 hB8 s8 g8); (have hC8 : RcX w8 lo b g1 g2 k0 k1 k2 k3 T (N + 1) U A1 (n - 1) (c - 1) A2 n2 c2 := hC7.upd g8 hB8 (fun v hv => List.mem_cons_of_mem _ hv) (fun v hv => hv) hTn1 hC7.un R1 hC7.ws); (have I8 := I7w.grown g8 (fun g e => by cases e; simp; omega)); (have hCa := (hC8.below (al8 w8 (.cells #[.slice (some ⟨gi, 0, none⟩) 16 c5] 23)) (Nat.le_refl _)).swap); (have Na := Blk.new w8 23 #[.slice (some ⟨gi, 0, none⟩) 16 c5] [.slice (some ⟨gi, 0, none⟩) 16 c5] rfl))
        | (refine wpl_loadf (by rfl) 51 _ (by rfl) b 6 (by rfl) _ _ hB8 _ rfl _ Tryd.underlying51 rfl ?_)
        | (refine wpl_append_rw (by rfl) 51 23 (.slice none 0 0) 24 (.tmp 72) (.tmp 74) (by rfl) Tryd.underlying51 infoSl (by rfl) (by omega) (by rfl) hCa.cs ⟨w8.heap.size, 0, none⟩ 1 1 [.slice (some ⟨gi, 0, none⟩) 16 c5] (by rfl) rfl (by omega) (cells2_of Na) (by simp [Value.oneCell']) (by omega) (by omega) (two_lt hCa.blk.lt hCa.lt2) ?_; intro g9 A9 c9 w9 R9 K9 G9 L9; obtain ⟨o9, rfl, _⟩ := R9.at (k := 0) (Nat.succ_pos _) (by omega); have hJ9 := K9.blk hCa.blk hCa.bfp; have hc9 := R9.2.1; skip)
        | (refine wpl_storeg (by rfl) 51 _ _ (by rfl) b 6 (by rfl) (.slice (some ⟨g9, o9, none⟩) (n2 + 1) c9) (by rfl) (by rfl) (by simp [Value.oneCell']) _ _ (rcF k0 k1 k2 k3 (N + 1) (.slice A1 (n - 1) (c - 1)) (.slice (some ⟨g9, o9, none⟩) (n2 + 1) c9)) hJ9 (by simp) sizeSls (by rfl) ?_; intro w10 hB10 s10 g10)
        | (refine wpl_loadf (by rfl) 51 _ (by rfl) b 6 (by rfl) _ _ hB10 _ rfl _ Tryd.underlying51 rfl ?_)
        )
      have Ia := I8.below (al8 w8 (.cells #[.slice (some ⟨gi, 0, none⟩) 16 c5] 23)) (Nat.le_refl _)
      have zwa := (al8 w8 (.cells #[.slice (some ⟨gi, 0, none⟩) 16 c5] 23)).size
      obtain ⟨hC10, hK10, z10⟩ := hCa.push' (u := (gi, c5, idB (N + 1) nonce)) Ia hidl hgib (by show Rw w9 1 g9 [b, g1] (some ⟨g9, o9, none⟩) (n2 + 1) c9 (U.map ckV ++ [ckV (gi, c5, idB (N + 1) nonce)]); unfold ckV; rw [hidl]; exact R9) K9 G9 L9 g10 hB10
      have Kx : Kp w7 [b, g2] (w8.alloc (.cells #[.slice (some ⟨gi, 0, none⟩) 16 c5] 23)) := ((Kp.refl w7 _).but g8 (.inr (by simp))).belowS (al8 w8 _)
      have K710 := Kx.trans hK10
      have zs8 := g8.size
      have hr9 : r ≠ g9 := by rcases G9 with G9 | G9 <;> omega
      have Z7 : Ck w7 w.heap.size [b, g1, g2] (r, c7, MM) := ⟨O7.wide zw6, by simp; omega⟩
      have hNw : g9 = g2 ∨ w.heap.size ≤ g9 := by
        rcases G9 with G9 | G9
        · exact .inl G9
        · exact .inr (by omega)
      have hUn : ∀ v ∈ U ++ [(gi, c5, idB (N + 1) nonce)], v ∈ U ∨ w.heap.size ≤ v.1 := fun v hv => by
        rw [List.mem_append] at hv
        rcases hv with hv | hv
        · exact .inl hv
        · rw [List.mem_singleton.1 hv]; exact .inr (by show w.heap.size ≤ gi; omega)
      have hI : (U ++ [(gi, c5, idB (N + 1) nonce)]).map (fun t : CkT => t.2.2) = wtN I (idB (N + 1) nonce) := by
        unfold wtN
        rw [if_neg (by rw [hIn.out]; exact h28), List.map_append, he3.out]
        rfl
      have Z10 := Z7.kp (G' := [b, g1, g9]) K710 (by show r ∉ _; simp; omega) (by show r ∉ _; simp; omega)
      have Kw := K7.trans (kp_mono K710 (fun x hx => by
        have : x = b ∨ x = g2 := by simpa using hx
        rcases this with rfl | rfl <;> simp))
      go_ret2
      exact ⟨r, c7, N7, g9, U ++ [(gi, c5, idB (N + 1) nonce)], A1, n - 1, c - 1, some ⟨g9, o9, none⟩, n2 + 1, c9, rfl, by rw [HM.out]; exact HN7.out, by rw [HM.out]; exact Z10, hC10.swap.fun_eq (fun _ _ => rfl), hI, Kw, hNw, hUn⟩
end Go.Proofs.YtachhbbofemfdaaDoor
namespace Go.Proofs.YtachhbbofemfdaaDoor
open Go.RowKit
set_option linter.unusedSimpArgs false
set_option linter.unusedVariables false
set_option maxRecDepth 100000
set_option maxRecDepth 100000 in
set_option maxHeartbeats 8000000 in
theorem rwaits_any (w : World) {lo b g1 g2 : Nat} {k0 k1 k2 k3 N : Int} {T U : List CkT} {A A2 : Option Addr} {n c n2 c2 : Nat} (h : RcX w lo b g1 g2 k0 k1 k2 k3 T N U A n c A2 n2 c2) (B : Option Addr) (d : Nat) (x : List Int) (hx : x.length = 16) (hB : Bs w 0 w.heap.size B x) (hn2 : n2 ≤ 1000000) :
    Calls Tryd.prog 100 #[.pointer (some ⟨b, 0, none⟩), .slice B 16 d] w fun e w' => e = .returned (.int .i64 (fiI (U.map fun t : CkT => t.2.2) x)) ∧ Below w.heap.size w w' := by
  obtain ⟨I, hI⟩ : ∃ I, I = U.map fun t : CkT => t.2.2 := ⟨_, rfl⟩
  rw [← hI]
  have hIl : I.length = n2 := by rw [hI, List.length_map, h.un]
  have HI := Lib.hid hI
  clear hI
  go_enter Tryd.func100, Tryd.ntmps100
  go_wp2
  go_loopw [5] (fun i wr => ∃ k : Nat, k ≤ n2 ∧ i = .int .i64 k ∧ Hid (∀ j (hj : j < I.length), j < k → I[j] ≠ x) ∧ Below w.heap.size w wr) (fun i _ => n2 - (intOf i).toNat)
  case atStart => exact ⟨0, by omega, rfl, fun j hj h => absurd h (by omega), Below.refl _ _⟩
  case round =>
    obtain ⟨k, hk, rfl, hN, hBw⟩ := hrel
    have hC := h.below hBw (Nat.le_refl _)
    have hb6 : wr.cell? ⟨b, 6, none⟩ = some (.slice A2 n2 c2) := hC.blk.cell rfl
    by_cases hlt : k < n2
    · obtain ⟨o, rfl, hat⟩ := hC.ws.at (k := k) hlt (by omega)
      have hkU : k < U.length := by have := hC.un; omega
      obtain ⟨hck, hl16⟩ := hC.wk (U[k]) (List.getElem_mem hkU)
      have e0 : wr.cell? ⟨g2, o + k, none⟩ = some (ckV U[k]) := by
        have h0 := hat 0 (by omega)
        simp only [Nat.mul_one, Nat.add_zero] at h0
        rw [h0, List.getElem?_map, List.getElem?_eq_getElem hkU]
        rfl
      have hIk : I[k]'(by omega) = (U[k]).2.2 := by
        have hII : I = U.map fun t : CkT => t.2.2 := HI.out
        subst hII
        simp
      have hO := hck.1
      generalize U[k] = t at e0 hl16 hck hIk hO
      obtain ⟨r, ct, Y⟩ := t
      replace e0 : wr.cell? ⟨g2, o + k, none⟩ = some (.slice (some ⟨r, 0, none⟩) Y.length ct) := e0
      replace hl16 : Y.length = 16 := hl16
      rw [hl16] at e0
      have hIk : I[k]'(by omega) = Y := hIk
      have hHY := Lib.hid hIk
      have hlb : Byt Y := hO.1
      have hi0 : (0 : Int) ≤ k := by omega
      have hi1 : (k : Int) < n2 := by omega
      have v1 : (convert 23 9 (.slice (some ⟨r, 0, none⟩) 16 ct)).run Tryd.prog wr.drew = .ok (.string (strOf Y)) wr.drew := strOf_conv' hl16 hO.bs.drew
      have v2 : (convert 23 9 (.slice B 16 d)).run Tryd.prog wr.drew = .ok (.string (strOf x)) wr.drew := strOf_conv' hx ((hB.below hBw (Nat.le_refl _)).drew)
      have hE : ((strOf Y).toList == (strOf x).toList) = decide (Y = x) := by
        rw [Bool.eq_iff_iff, beq_iff_eq, decide_eq_true_eq, ByteArray.toList_eq, ByteArray.toList_eq, ← strOf_inj hlb hB.byt]
        exact ⟨fun h => WideShapes.bytes_inj h, fun h => by rw [h]⟩
      generalize strOf Y = s at v1 hE
      generalize strOf x = t at v2 hE
      clear hat hck hIk hC hO h
      by_cases heq : Y = x
      · rw [decide_eq_true heq] at hE
        have hF := Lib.hid (fiI_some (I := I) (x := x) (k := k) (by omega) (by rw [hHY.out]; exact heq) (fun j hj => hN.out j (by omega) hj))
        clear heq
        go_wp2_with fail
        refine wp_region_det (fun y => y = wr.drew) 11 (by kernel_rfl) rfl (by rfl) ?_
        simp only [List.replicate]
        (refine wpD_t 0 _ (by exact gE rfl) (by kernel_rfl) (by rfl) (YS.of_value (by intro _ h; (try dsimp only at h); go_simp; first | done | with_reducible rfl)) ?_; (try simp only [Act.put, zs0, zs1, zs2]))
        (refine wpD_t 1 _ (by exact gE rfl) (by kernel_rfl) (by rfl) (YS.of_value (by intro _ h; (try dsimp only at h); go_simp; first | done | with_reducible rfl)) ?_; (try simp only [Act.put, zs0, zs1, zs2]))
        (refine wpD_t 2 _ (by exact gE rfl) (by kernel_rfl) (by rfl) (YS.of_value (by intro _ h; (try dsimp only at h); go_simp; first | done | with_reducible rfl)) ?_; (try simp only [Act.put, zs0, zs1, zs2]))
        (refine wpD_t 3 _ (by exact gE rfl) (by kernel_rfl) (by rfl) (YS.of_value (by intro _ h; (try dsimp only at h); go_simp; first | done | with_reducible rfl)) ?_; (try simp only [Act.put, zs0, zs1, zs2]))
        (refine wpD_t 4 _ (by exact gE rfl) (by kernel_rfl) (by rfl) (YS.of_value (by intro _ h; (try dsimp only at h); go_simp; first | done | with_reducible rfl)) ?_; (try simp only [Act.put, zs0, zs1, zs2]))
        (refine wpD_t 5 _ (by exact gE rfl) (by kernel_rfl) (by rfl) (YS.of_value (by intro _ h; (try dsimp only at h); go_simp; first | done | with_reducible rfl)) ?_; (try simp only [Act.put, zs0, zs1, zs2]))
        (refine wpD_t 6 _ (by exact gE rfl) (by kernel_rfl) (by rfl) (YS.of_value (by intro _ h; (try dsimp only at h); go_simp; first | done | with_reducible rfl)) ?_; (try simp only [Act.put, zs0, zs1, zs2]))
        (refine wpD_t 7 _ (by exact gE rfl) (by kernel_rfl) (by rfl) (YS.of_value (by intro _ h; (try dsimp only at h); go_simp; first | done | with_reducible rfl)) ?_; (try simp only [Act.put, zs0, zs1, zs2]))
        (refine wpD_t 8 _ (by exact gE rfl) (by kernel_rfl) (by rfl) (YS.of_value (by intro _ h; (try dsimp only at h); go_simp; first | done | with_reducible rfl)) ?_; (try simp only [Act.put, zs0, zs1, zs2]))
        (refine wpD_t 9 _ (by exact gE rfl) (by kernel_rfl) (by rfl) (YS.of_value (by intro _ h; (try dsimp only at h); go_simp; first | done | with_reducible rfl)) ?_; (try simp only [Act.put, zs0, zs1, zs2]))
        (refine wpD_t 10 _ (by exact gE rfl) (by kernel_rfl) (by rfl) (YS.of_value (by intro _ h; (try dsimp only at h); go_simp; first | done | with_reducible rfl)) ?_; (try simp only [Act.put, zs0, zs1, zs2]))
        refine wpD_done (by kernel_rfl) ?_ _
        rintro _ rfl
        go_wp2
        go_ret
        exact ⟨by rw [hF.out]; rfl, hBw.drew⟩
      · rw [decide_eq_false heq] at hE
        have hN' : Hid (∀ j (hj : j < I.length), j < k + 1 → I[j] ≠ x) := fun j hj hjk => by
          rcases Nat.lt_or_ge j k with q | q
          · exact hN.out j hj q
          · obtain rfl : j = k := by omega
            rw [hHY.out]; exact heq
        clear heq hN
        go_wp2_with fail
        refine wp_region_det (fun y => y = wr.drew) 11 (by kernel_rfl) rfl (by rfl) ?_
        simp only [List.replicate]
        (refine wpD_t 0 _ (by exact gE rfl) (by kernel_rfl) (by rfl) (YS.of_value (by intro _ h; (try dsimp only at h); go_simp; first | done | with_reducible rfl)) ?_; (try simp only [Act.put, zs0, zs1, zs2]))
        (refine wpD_t 1 _ (by exact gE rfl) (by kernel_rfl) (by rfl) (YS.of_value (by intro _ h; (try dsimp only at h); go_simp; first | done | with_reducible rfl)) ?_; (try simp only [Act.put, zs0, zs1, zs2]))
        (refine wpD_t 2 _ (by exact gE rfl) (by kernel_rfl) (by rfl) (YS.of_value (by intro _ h; (try dsimp only at h); go_simp; first | done | with_reducible rfl)) ?_; (try simp only [Act.put, zs0, zs1, zs2]))
        (refine wpD_t 3 _ (by exact gE rfl) (by kernel_rfl) (by rfl) (YS.of_value (by intro _ h; (try dsimp only at h); go_simp; first | done | with_reducible rfl)) ?_; (try simp only [Act.put, zs0, zs1, zs2]))
        (refine wpD_t 4 _ (by exact gE rfl) (by kernel_rfl) (by rfl) (YS.of_value (by intro _ h; (try dsimp only at h); go_simp; first | done | with_reducible rfl)) ?_; (try simp only [Act.put, zs0, zs1, zs2]))
        (refine wpD_t 5 _ (by exact gE rfl) (by kernel_rfl) (by rfl) (YS.of_value (by intro _ h; (try dsimp only at h); go_simp; first | done | with_reducible rfl)) ?_; (try simp only [Act.put, zs0, zs1, zs2]))
        (refine wpD_t 6 _ (by exact gE rfl) (by kernel_rfl) (by rfl) (YS.of_value (by intro _ h; (try dsimp only at h); go_simp; first | done | with_reducible rfl)) ?_; (try simp only [Act.put, zs0, zs1, zs2]))
        (refine wpD_t 7 _ (by exact gE rfl) (by kernel_rfl) (by rfl) (YS.of_value (by intro _ h; (try dsimp only at h); go_simp; first | done | with_reducible rfl)) ?_; (try simp only [Act.put, zs0, zs1, zs2]))
        (refine wpD_t 8 _ (by exact gE rfl) (by kernel_rfl) (by rfl) (YS.of_value (by intro _ h; (try dsimp only at h); go_simp; first | done | with_reducible rfl)) ?_; (try simp only [Act.put, zs0, zs1, zs2]))
        (refine wpD_t 9 _ (by exact gE rfl) (by kernel_rfl) (by rfl) (YS.of_value (by intro _ h; (try dsimp only at h); go_simp; first | done | with_reducible rfl)) ?_; (try simp only [Act.put, zs0, zs1, zs2]))
        (refine wpD_t 10 _ (by exact gE rfl) (by kernel_rfl) (by rfl) (YS.of_value (by intro _ h; (try dsimp only at h); go_simp; first | done | with_reducible rfl)) ?_; (try simp only [Act.put, zs0, zs1, zs2]))
        refine wpD_done (by kernel_rfl) ?_ _
        rintro _ rfl
        go_wp2_with fail
        exact ⟨⟨k + 1, by omega, by go_num, hN', hBw.drew⟩, by simp [intOf]; omega⟩
    · obtain rfl : k = n2 := by omega
      have hF := Lib.hid (fiI_none (I := I) (x := x) (fun j hj => hN.out j hj (by omega)))
      go_wp2
      go_ret
      exact ⟨by rw [hF.out]; rfl, hBw⟩
end Go.Proofs.YtachhbbofemfdaaDoor
