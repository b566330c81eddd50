/- One trip with the head of the examples, for all keys; messages whose authenticator was changed. -/
import Derived.Test.YtachhbbofemfdaaDoorGZ18
namespace Go.Proofs.YtachhbbofemfdaaDoor
open Go.RowKit
set_option linter.unusedSimpArgs false
set_option linter.unusedVariables false
set_option maxRecDepth 100000
/-- a request and a reply below the head 0 4 3 0 .. 9 -/
def rqM (n x : Int) (ck : List Int) (k0 k1 : Int) : List Int := msgB 0 4 3 0 0 0 0 0 0 0 0 0 9 (rqF n x ck) k0 k1
def rpM (id ck : List Int) (L : Flds) (k2 k3 : Int) : List Int := msgB 0 4 3 0 0 0 0 0 0 0 0 0 9 (rpF id ck L) k2 k3
theorem rqM_len (n x : Int) {ck : List Int} (k0 k1 : Int) (h : ck.length = 52) : (rqM n x ck k0 k1).length = 136 := by
  unfold rqM
  rw [msgB_len]
  have := idB_len n x
  simp [rqF, fldsB, fldB, bytesB_length, this, h]
theorem rpM_len {id ck : List Int} (k2 k3 : Int) (h1 : id.length = 16) (h2 : ck.length = 52) : (rpM id ck [] k2 k3).length = 136 := by
  unfold rpM
  rw [msgB_len]
  simp [rpF, fldsB, fldB, bytesB_length, h1, h2]
theorem rpM_all {id ck : List Int} {L : Flds} (k2 k3 : Int) (h1 : id.length = 16) (h2 : ck.length = 52) (b1 : Byt id) (b2 : Byt ck) (h3 : AllV L) (h4 : L.length ≤ 14) :
    spE (rpM id ck L k2 k3) = 0 ∧ dcV (rpM id ck L k2 k3) = ntp 0 4 3 0 0 0 0 0 0 0 0 0 9 ∧ spL (rpM id ck L k2 k3) = rpF id ck L ∧ spI (rpM id ck L k2 k3) = id ∧ prvB k2 k3 (spB (rpM id ck L k2 k3)) (spA (rpM id ck L k2 k3)) = true := by
  obtain ⟨hv, h16⟩ := rpF_valid h1 h2 b1 b2 h3 h4
  have hid : (fdD (rpF id ck L) 260).length = 16 := by rw [rpF_fd]; exact h1
  obtain ⟨e1, e2, e3, e4, e5, e6, e7⟩ := msg_all 0 4 3 0 0 0 0 0 0 0 0 0 9 (rpF id ck L) k2 k3 exN (by omega) (by omega) (by omega) (by omega) (by omega) (by omega) (by omega) hv h16 hid
  have hp := msg_prv 0 4 3 0 0 0 0 0 0 0 0 0 9 (rpF id ck L) k2 k3 exN (by omega) (by omega) (by omega) (by omega) (by omega) (by omega) (by omega) hv h16 hid
  exact ⟨e1, e2, e3, e4.trans (rpF_fd _ _ _), hp⟩
theorem t_req {lo b : Nat} {G : List Nat} {k0 k1 k2 k3 N : Int} {ck : List Int} {CK I : List (List Int)} {W : World} (x : Int) (h : Cli W lo b G k0 k1 k2 k3 (ck :: CK) N I) (hk0 : U64 k0) (hk1 : U64 k1) (hN : 0 ≤ N ∧ N < 18446744073709551615) (hx : U64 x) (hR : Rnd W) (hlo : 0 < lo) (hn8 : CK.length + 1 ≤ 8) (hn28 : I.length ≤ 8) :
    Calls Tryd.prog 21 #[.pointer (some ⟨b, 0, none⟩), ntp 0 4 3 0 0 0 0 0 0 0 0 0 9, .int .u64 x] W fun e w' => ∃ r c' G', e = .returned (.tuple #[.slice (some ⟨r, 0, none⟩) 136 c', .int .i64 0]) ∧ Ck w' W.heap.size G' (r, c', rqM (N + 1) x ck k0 k1) ∧ Cli w' lo b G' k0 k1 k2 k3 CK (N + 1) (wtN I (idB (N + 1) x)) ∧ Kp W G w' ∧ Nw W G G' := by
  have h52 : ck.length = 52 := (h.lens.1 ck (by simp)).1
  refine (creq 0 4 3 0 0 0 0 0 0 0 0 0 9 x h exN (by omega) (by omega) (by omega) (by omega) (by omega) (by omega) (by omega) hk0 hk1 hN hx hR hlo hn8 hn28).mono fun e w' ⟨r, c', Nn, G', q1, q2, q3, q4, q5, q6⟩ => ?_
  have hl : (msgB 0 4 3 0 0 0 0 0 0 0 0 0 9 (rqF (N + 1) x ck) k0 k1).length = 136 := rqM_len _ _ _ _ h52
  obtain rfl : 136 = Nn := hl.symm.trans q2
  exact ⟨r, c', G', q1, q3, q4, q5, q6⟩
theorem t_open {CK : List Int} {W : World} {bj : Nat} {A : Option Addr} {c : Nat} {s kk g k0 k1 k2 k3 : Int} (n x : Int) (hJ : Blk W bj 84 (jarL s kk g)) (hs : U64 s) (hg : Gn g) (hkk : 1 ≤ kk ∧ kk ≤ 8) (hR : Rnd W) (h52 : CK.length = 52) (hcb : Byt CK) (hop : opV s kk g CK = .tuple #[keyV k0 k1, keyV k2 k3, .int .i64 0]) (hB : Bs W 0 W.heap.size A (rqM n x CK k0 k1)) (hnc : 136 ≤ c) (hc : c ≤ 9223372036854775807) :
    Calls Tryd.prog 11 #[.pointer (some ⟨bj, 0, none⟩), .slice A 136 c] W fun e w' => ∃ r c', e = .returned (.tuple #[ntp 0 4 3 0 0 0 0 0 0 0 0 0 9, .agg (tktL (some ⟨r, 0, none⟩) 16 c' k0 k1 k2 k3).toArray, .int .i64 0]) ∧ Ow w' W.heap.size (some ⟨r, 0, none⟩) c' (idB n x) ∧ Below W.heap.size W w' :=
  sopen 0 4 3 0 0 0 0 0 0 0 0 0 9 n x CK k0 k1 k2 k3 s kk g bj A 136 c W hJ hs hg hkk hR exN (by omega) (by omega) (by omega) (by omega) (by omega) (by omega) (by omega) h52 hcb hop (rqM_len n x k0 k1 h52) hB hnc hc (by omega)
theorem t_rep {W : World} {bj r ci : Nat} {id' : List Int} {s kk g k0 k1 k2 k3 : Int} (no : Int) (hJ : Blk W bj 84 (jarL s kk g)) (hs : U64 s) (hg : Gn g) (hR : Rnd W) (hno : U64 no) (hk0 : U64 k0) (hk1 : U64 k1) (hk2 : U64 k2) (hk3 : U64 k3) (hil : id'.length = 16) (hI : Bs W 0 W.heap.size (some ⟨r, 0, none⟩) id') (hic : 16 ≤ ci) (hicc : ci ≤ 9223372036854775807) :
    Calls Tryd.prog 17 #[.pointer (some ⟨bj, 0, none⟩), .agg (tktL (some ⟨r, 0, none⟩) 16 ci k0 k1 k2 k3).toArray, ntp 0 4 3 0 0 0 0 0 0 0 0 0 9, .slice none 0 0, .int .u64 no] W fun e w' => ∃ A c, e = .returned (.tuple #[.slice A 136 c, .int .i64 0]) ∧ Ow w' W.heap.size A c (rpM id' (ckB s g no k0 k1 k2 k3) [] k2 k3) ∧ Below W.heap.size W w' := by
  refine (sreply 0 4 3 0 0 0 0 0 0 0 0 0 9 no id' k0 k1 k2 k3 s kk g bj r ci W hJ hs hg hR exN (by omega) (by omega) (by omega) (by omega) (by omega) (by omega) (by omega) hno hk0 hk1 hk2 hk3 hil hI hic hicc).mono fun e w' ⟨A, c, n, q1, q2, q3, q4⟩ => ?_
  have hl : (msgB 0 4 3 0 0 0 0 0 0 0 0 0 9 (rpF id' (ckB s g no k0 k1 k2 k3) []) k2 k3).length = 136 := rpM_len k2 k3 hil (ckB_len _ _ _ _ _ _ _)
  obtain rfl : 136 = n := hl.symm.trans q2
  exact ⟨A, c, q1, q3, q4⟩
theorem t_acc {lo b : Nat} {G : List Nat} {k0 k1 k2 k3 N : Int} {CK I : List (List Int)} {W : World} {A : Option Addr} {c : Nat} {id ck : List Int} (k : Nat) (h : Cli W lo b G k0 k1 k2 k3 CK N I) (hk2 : U64 k2) (hk3 : U64 k3) (hR : Rnd W) (hn8 : CK.length ≤ 8) (hn28 : I.length ≤ 8) (h1 : id.length = 16) (h2 : ck.length = 52) (b1 : Byt id) (b2 : Byt ck) (hk : k < I.length) (hF : fiI I id = k) (hB : Bs W 0 W.heap.size A (rpM id ck [] k2 k3)) (hnc : 136 ≤ c) (hc : c ≤ 9223372036854775807) :
    Calls Tryd.prog 24 #[.pointer (some ⟨b, 0, none⟩), .slice A 136 c] W fun e w' => ∃ P1 q1 G', e = .returned (.tuple #[ntp 0 4 3 0 0 0 0 0 0 0 0 0 9, .slice P1 2 q1, .int .i64 0]) ∧ Cli w' lo b G' k0 k1 k2 k3 (ckN CK [ck]) N (I.take k ++ I.drop (k + 1)) ∧ Kp W G w' ∧ Nw W G G' := by
  obtain ⟨e1, e2, e3, e4, e5⟩ := rpM_all (L := []) k2 k3 h1 h2 b1 b2 (fun t ht => by cases ht) (by simp)
  have hfr : frs (spL (rpM id ck [] k2 k3)) = [ck] := by rw [e3]; rfl
  refine (cacc A 136 c (rpM id ck [] k2 k3) 0 4 3 0 0 0 0 0 0 0 0 0 9 h hk2 hk3 hR hn8 hn28 (rpM_len k2 k3 h1 h2) hB hnc hc (by omega) e1 e2 e5 k hk (by rw [e4]; exact hF) (by
    refine frB_yes fun d hd => ?_
    rw [hfr] at hd
    rw [List.mem_singleton.1 hd]
    exact h2)).mono fun e w' ⟨P1, p1, q1, G', z1, z2, z3, z4, z5, z6⟩ => ?_
  have hl : (spL (rpM id ck [] k2 k3)).length = 2 := by rw [e3]; rfl
  obtain rfl : 2 = p1 := hl.symm.trans z2
  rw [hfr] at z4
  exact ⟨P1, q1, G', z1, z4, z5, z6⟩
theorem t_none {lo b : Nat} {G : List Nat} {k0 k1 k2 k3 N : Int} {CK I : List (List Int)} {W : World} {A : Option Addr} {c : Nat} {id ck : List Int} (h : Cli W lo b G k0 k1 k2 k3 CK N I) (hk2 : U64 k2) (hk3 : U64 k3) (hR : Rnd W) (hn8 : CK.length ≤ 8) (hn28 : I.length ≤ 8) (h1 : id.length = 16) (h2 : ck.length = 52) (b1 : Byt id) (b2 : Byt ck) (hF : fiI I id = -1) (hB : Bs W 0 W.heap.size A (rpM id ck [] k2 k3)) (hnc : 136 ≤ c) (hc : c ≤ 9223372036854775807) :
    Calls Tryd.prog 24 #[.pointer (some ⟨b, 0, none⟩), .slice A 136 c] W fun e w' => e = .returned (.tuple #[ntp0, .slice none 0 0, .int .i64 11]) ∧ Below W.heap.size W w' := by
  obtain ⟨e1, e2, e3, e4, e5⟩ := rpM_all (L := []) k2 k3 h1 h2 b1 b2 (fun t ht => by cases ht) (by simp)
  exact cacc_none A 136 c _ 0 4 3 0 0 0 0 0 0 0 0 0 9 h hk2 hk3 hR hn8 hn28 (rpM_len k2 k3 h1 h2) hB hnc hc (by omega) e1 e2 e5 (by rw [e4]; exact hF)
/-! ### changed authenticators -/
theorem prvB_inv {k0 k1 : Int} {D T : List Int} (hb : Byt T) (hl : T.length = 12) (h : prvB k0 k1 D T = true) : T = athB k0 k1 D := by
  unfold prvB at h
  rw [Bool.and_eq_true, beq_iff_eq, beq_iff_eq] at h
  unfold athB
  have h1 := bytes_numB' 4 (T.take 4) (hb.take _) (by rw [List.length_take]; omega) (by omega)
  have h2 := bytes_numB' 8 ((T.drop 4).take 8) ((hb.drop _).take _) (by rw [List.length_take, List.length_drop]; omega) (by omega)
  rw [h.1] at h1
  rw [← h.2] at h2
  rw [h1, h2, List.take_of_length_le (l := T.drop 4) (by rw [List.length_drop]; omega)]
  exact (List.take_append_drop 4 T).symm
def xc (x y : Int) : Int := bits .xor .u8 x y
theorem xc_nat {x y : Int} (hx : 0 ≤ x ∧ x ≤ 255) (hy : 0 ≤ y ∧ y ≤ 255) : xc x y = ((x.toNat ^^^ y.toNat : Nat) : Int) := Go.u8_xor x y hx.1 (by omega) hy.1 (by omega)
theorem xc_rng {x y : Int} (hx : 0 ≤ x ∧ x ≤ 255) (hy : 0 ≤ y ∧ y ≤ 255) : 0 ≤ xc x y ∧ xc x y ≤ 255 := by
  rw [xc_nat hx hy]
  have h : x.toNat ^^^ y.toNat < 2 ^ 8 := Nat.xor_lt_two_pow (by omega) (by omega)
  omega
theorem xc_ne {x y : Int} (hx : 0 ≤ x ∧ x ≤ 255) (hy : 0 ≤ y ∧ y ≤ 255) (h : y ≠ 0) : xc x y ≠ x := by
  rw [xc_nat hx hy]
  intro e
  have e2 : x.toNat ^^^ y.toNat = x.toNat := by omega
  have e3 : x.toNat ^^^ (x.toNat ^^^ y.toNat) = x.toNat ^^^ x.toNat := by rw [e2]
  rw [← Nat.xor_assoc, Nat.xor_self, Nat.zero_xor] at e3
  omega
/-- a byte of the last twelve turned -/
theorem flip_parts (l v m st po pr rd rp id ref org rec xmt : Int) (L : Flds) (k0 k1 : Int) (j : Nat) (x : Int) (hn : 12 ≤ (msgB l v m st po pr rd rp id ref org rec xmt L k0 k1).length) (hj : (msgB l v m st po pr rd rp id ref org rec xmt L k0 k1).length - 12 ≤ j) (hj2 : j < (msgB l v m st po pr rd rp id ref org rec xmt L k0 k1).length) (hx : 0 ≤ x ∧ x ≤ 255) (hne : x ≠ atB (msgB l v m st po pr rd rp id ref org rec xmt L k0 k1) j) (hM : Byt (msgB l v m st po pr rd rp id ref org rec xmt L k0 k1)) :
    ∃ T, (msgB l v m st po pr rd rp id ref org rec xmt L k0 k1).set j x = bdyB l v m st po pr rd rp id ref org rec xmt L ++ T ∧ T.length = 12 ∧ Byt T ∧ T ≠ athB k0 k1 (bdyB l v m st po pr rd rp id ref org rec xmt L) := by
  have hb : (msgB l v m st po pr rd rp id ref org rec xmt L k0 k1).length = (bdyB l v m st po pr rd rp id ref org rec xmt L).length + 12 := by rw [msgB_len, bdyB_len]; omega
  have hA := athB_len k0 k1 (bdyB l v m st po pr rd rp id ref org rec xmt L)
  have hj' : (bdyB l v m st po pr rd rp id ref org rec xmt L).length ≤ j := by omega
  have hAb : Byt (athB k0 k1 (bdyB l v m st po pr rd rp id ref org rec xmt L)) := fun y hy => hM y (by unfold msgB; exact List.mem_append.2 (.inr hy))
  refine ⟨(athB k0 k1 (bdyB l v m st po pr rd rp id ref org rec xmt L)).set (j - (bdyB l v m st po pr rd rp id ref org rec xmt L).length) x, ?_, by rw [List.length_set]; exact hA, hAb.set _ hx.1 hx.2, fun e => hne ?_⟩
  · unfold msgB
    rw [List.set_append_right _ _ hj']
  · have h1 : ((athB k0 k1 (bdyB l v m st po pr rd rp id ref org rec xmt L)).set (j - (bdyB l v m st po pr rd rp id ref org rec xmt L).length) x)[j - (bdyB l v m st po pr rd rp id ref org rec xmt L).length]? = some x := by
      rw [List.getElem?_set, if_pos rfl, if_pos (by omega)]
    rw [e] at h1
    unfold atB msgB
    rw [List.getD_eq_getElem?_getD, List.getElem?_append_right hj', h1]
    rfl
theorem msgT_all (l v m st po pr rd rp id ref org rec xmt : Int) (L : Flds) (T : List Int) (hT : T.length = 12) (hk : nchk l v m st po pr = 0) (h6 : 0 ≤ rd ∧ rd ≤ 4294967295) (h7 : 0 ≤ rp ∧ rp ≤ 4294967295) (h8 : 0 ≤ id ∧ id ≤ 4294967295) (h9 : 0 ≤ ref ∧ ref ≤ 18446744073709551615) (h10 : 0 ≤ org ∧ org ≤ 18446744073709551615) (h11 : 0 ≤ rec ∧ rec ≤ 18446744073709551615) (h12 : 0 ≤ xmt ∧ xmt ≤ 18446744073709551615) (hv : AllV L) (h16 : L.length ≤ 16) (hid : (fdD L 260).length = 16) :
    spE (bdyB l v m st po pr rd rp id ref org rec xmt L ++ T) = 0 ∧ dcV (bdyB l v m st po pr rd rp id ref org rec xmt L ++ T) = ntp l v m st po pr rd rp id ref org rec xmt ∧ spL (bdyB l v m st po pr rd rp id ref org rec xmt L ++ T) = L ∧ spI (bdyB l v m st po pr rd rp id ref org rec xmt L ++ T) = fdD L 260 ∧ spA (bdyB l v m st po pr rd rp id ref org rec xmt L ++ T) = T ∧ spB (bdyB l v m st po pr rd rp id ref org rec xmt L ++ T) = bdyB l v m st po pr rd rp id ref org rec xmt L ∧ spC (bdyB l v m st po pr rd rp id ref org rec xmt L ++ T) = fdD L 516 := by
  obtain ⟨e1, e2, e4, e3, e5⟩ : dcE (bdyB l v m st po pr rd rp id ref org rec xmt L ++ T) = 0 ∧ dcV (bdyB l v m st po pr rd rp id ref org rec xmt L ++ T) = ntp l v m st po pr rd rp id ref org rec xmt ∧ spL (bdyB l v m st po pr rd rp id ref org rec xmt L ++ T) = L ∧ prsE (dcR (bdyB l v m st po pr rd rp id ref org rec xmt L ++ T)) = 0 ∧ spA (bdyB l v m st po pr rd rp id ref org rec xmt L ++ T) = T := by
    have e : bdyB l v m st po pr rd rp id ref org rec xmt L ++ T = encH l v m st po pr rd rp id ref org rec xmt ++ (fldsB L ++ T) := by unfold bdyB; rw [List.append_assoc]
    obtain ⟨e1, e2, e3⟩ := dcV_enc l v m st po pr rd rp id ref org rec xmt (fldsB L ++ T) hk h6 h7 h8 h9 h10 h11 h12
    obtain ⟨p1, p2, p3⟩ := prs_of (a := T) hv h16 (.inr hT)
    unfold spL spA
    rw [e, e1, e2, e3]
    exact ⟨rfl, rfl, p1, p3, p2⟩
  have eI : spI (bdyB l v m st po pr rd rp id ref org rec xmt L ++ T) = fdD L 260 := by unfold spI; rw [e4]
  have eB : spB (bdyB l v m st po pr rd rp id ref org rec xmt L ++ T) = bdyB l v m st po pr rd rp id ref org rec xmt L := by
    unfold spB
    rw [List.length_append, hT, Nat.add_sub_cancel]
    exact List.take_left' rfl
  refine ⟨?_, e2, e4, eI, e5, eB, by unfold spC; rw [e4]⟩
  rcases spE_cases (bdyB l v m st po pr rd rp id ref org rec xmt L ++ T) with ⟨h1, h2⟩ | ⟨h1, h2, h3⟩ | ⟨h1, h2, h3, h4⟩ | ⟨h1, h2, h3, h4, h5⟩
  · exact absurd e1 h1
  · exact absurd e3 h2
  · exact absurd ⟨by rw [e5]; exact hT, by rw [eI]; exact hid⟩ h3
  · exact h5
theorem prvB_no {k0 k1 : Int} {D T : List Int} (hb : Byt T) (hl : T.length = 12) (h : T ≠ athB k0 k1 D) : prvB k0 k1 D T = false := by
  rw [Bool.eq_false_iff]
  exact fun e => h (prvB_inv hb hl e)
theorem t_openx {CK : List Int} {W : World} {bj : Nat} {A : Option Addr} {c : Nat} {s kk g k0 k1 k2 k3 : Int} (n x : Int) (j : Nat) (y : Int) (hJ : Blk W bj 84 (jarL s kk g)) (hs : U64 s) (hg : Gn g) (hkk : 1 ≤ kk ∧ kk ≤ 8) (hR : Rnd W) (h52 : CK.length = 52) (hcb : Byt CK) (hop : opV s kk g CK = .tuple #[keyV k0 k1, keyV k2 k3, .int .i64 0]) (hMb : Byt (rqM n x CK k0 k1)) (hj : 124 ≤ j) (hj2 : j < 136) (hy : 0 ≤ y ∧ y ≤ 255) (hne : y ≠ atB (rqM n x CK k0 k1) j) (hB : Bs W 0 W.heap.size A ((rqM n x CK k0 k1).set j y)) (hnc : 136 ≤ c) (hc : c ≤ 9223372036854775807) :
    Calls Tryd.prog 11 #[.pointer (some ⟨bj, 0, none⟩), .slice A 136 c] W fun e w' => e = .returned (.tuple #[ntp0, .agg (tktL none 0 0 0 0 0 0).toArray, .int .i64 16]) ∧ Below W.heap.size W w' := by
  have hl := rqM_len n x k0 k1 h52
  obtain ⟨T, e, hT, hTb, hTn⟩ := flip_parts 0 4 3 0 0 0 0 0 0 0 0 0 9 (rqF n x CK) k0 k1 j y (by unfold rqM at hl; omega) (by unfold rqM at hl; omega) (by unfold rqM at hl; omega) hy hne hMb
  have hlx : ((rqM n x CK k0 k1).set j y).length = 136 := by rw [List.length_set]; exact hl
  have e' : (rqM n x CK k0 k1).set j y = bdyB 0 4 3 0 0 0 0 0 0 0 0 0 9 (rqF n x CK) ++ T := e
  rw [e'] at hB hlx
  obtain ⟨hv, h16⟩ := rqF_valid n x h52 hcb
  have hid : (fdD (rqF n x CK) 260).length = 16 := by rw [(rqF_fd n x CK).1]; exact idB_len n x
  obtain ⟨e1, e2, e3, e4, e5, e6, e7⟩ := msgT_all 0 4 3 0 0 0 0 0 0 0 0 0 9 (rqF n x CK) T hT exN (by omega) (by omega) (by omega) (by omega) (by omega) (by omega) (by omega) hv h16 hid
  rw [(rqF_fd n x CK).2] at e7
  obtain ⟨o0, o1, o2, o3, o4⟩ := opV_parts hop
  exact gopen_tag bj s kk g A 136 c _ W hJ hs hg hkk hR hlx hB hnc hc (by omega) e1 0 4 3 0 0 0 0 0 0 0 0 0 9 e2 (by rw [e7]; exact h52) (by rw [e7]; exact o0) (by rw [e7, o1, o2, e5, e6]; exact prvB_no hTb hT hTn)
theorem t_accx {lo b : Nat} {G : List Nat} {k0 k1 k2 k3 N : Int} {CK I : List (List Int)} {W : World} {A : Option Addr} {c : Nat} {id ck : List Int} (j : Nat) (y : Int) (h : Cli W lo b G k0 k1 k2 k3 CK N I) (hk2 : U64 k2) (hk3 : U64 k3) (hR : Rnd W) (hn8 : CK.length ≤ 8) (hn28 : I.length ≤ 8) (h1 : id.length = 16) (h2 : ck.length = 52) (b1 : Byt id) (b2 : Byt ck) (hMb : Byt (rpM id ck [] k2 k3)) (hj : 124 ≤ j) (hj2 : j < 136) (hy : 0 ≤ y ∧ y ≤ 255) (hne : y ≠ atB (rpM id ck [] k2 k3) j) (hB : Bs W 0 W.heap.size A ((rpM id ck [] k2 k3).set j y)) (hnc : 136 ≤ c) (hc : c ≤ 9223372036854775807) :
    Calls Tryd.prog 24 #[.pointer (some ⟨b, 0, none⟩), .slice A 136 c] W fun e w' => e = .returned (.tuple #[ntp0, .slice none 0 0, .int .i64 16]) ∧ Below W.heap.size W w' := by
  have hl := rpM_len k2 k3 h1 h2
  obtain ⟨T, e, hT, hTb, hTn⟩ := flip_parts 0 4 3 0 0 0 0 0 0 0 0 0 9 (rpF id ck []) k2 k3 j y (by unfold rpM at hl; omega) (by unfold rpM at hl; omega) (by unfold rpM at hl; omega) hy hne hMb
  have hlx : ((rpM id ck [] k2 k3).set j y).length = 136 := by rw [List.length_set]; exact hl
  have e' : (rpM id ck [] k2 k3).set j y = bdyB 0 4 3 0 0 0 0 0 0 0 0 0 9 (rpF id ck []) ++ T := e
  rw [e'] at hB hlx
  obtain ⟨hv, h16⟩ := rpF_valid (L := []) h1 h2 b1 b2 (fun t ht => by cases ht) (by simp)
  have hid : (fdD (rpF id ck []) 260).length = 16 := by rw [rpF_fd]; exact h1
  obtain ⟨e1, e2, e3, e4, e5, e6, e7⟩ := msgT_all 0 4 3 0 0 0 0 0 0 0 0 0 9 (rpF id ck []) T hT exN (by omega) (by omega) (by omega) (by omega) (by omega) (by omega) (by omega) hv h16 hid
  exact cacc_tag A 136 c _ 0 4 3 0 0 0 0 0 0 0 0 0 9 h hk2 hk3 hR hn8 hn28 hlx hB hnc hc (by omega) e1 e2 (by rw [e5, e6]; exact prvB_no hTb hT hTn)
end Go.Proofs.YtachhbbofemfdaaDoor
