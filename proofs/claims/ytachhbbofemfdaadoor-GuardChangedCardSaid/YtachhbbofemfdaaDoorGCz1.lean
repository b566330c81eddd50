/- One trip with the head of the examples, for all keys; messages whose authenticator was changed. GuardChanged (P47.3, P47.4, P47.7): the walk. -/
import Derived.Test.YtachhbbofemfdaaDoorGZ18
namespace Go.Proofs.YtachhbbofemfdaaDoor
open Go.RowKit
set_option linter.unusedSimpArgs false
set_option linter.unusedVariables false
set_option maxRecDepth 100000
/-- a request and a reply below the head 0 4 3 0 .. 9 -/
def rqM (n x : Int) (ck : List Int) (k0 k1 : Int) : List Int := msgB 0 4 3 0 0 0 0 0 0 0 0 0 9 (rqF n x ck) k0 k1
def rpM (id ck : List Int) (L : Flds) (k2 k3 : Int) : List Int := msgB 0 4 3 0 0 0 0 0 0 0 0 0 9 (rpF id ck L) k2 k3
theorem rqM_len (n x : Int) {ck : List Int} (k0 k1 : Int) (h : ck.length = 52) : (rqM n x ck k0 k1).length = 136 := by
  unfold rqM
  rw [msgB_len]
  have := idB_len n x
  simp [rqF, fldsB, fldB, bytesB_length, this, h]
theorem rpM_len {id ck : List Int} (k2 k3 : Int) (h1 : id.length = 16) (h2 : ck.length = 52) : (rpM id ck [] k2 k3).length = 136 := by
  unfold rpM
  rw [msgB_len]
  simp [rpF, fldsB, fldB, bytesB_length, h1, h2]
theorem rpM_all {id ck : List Int} {L : Flds} (k2 k3 : Int) (h1 : id.length = 16) (h2 : ck.length = 52) (b1 : Byt id) (b2 : Byt ck) (h3 : AllV L) (h4 : L.length ≤ 14) :
    spE (rpM id ck L k2 k3) = 0 ∧ dcV (rpM id ck L k2 k3) = ntp 0 4 3 0 0 0 0 0 0 0 0 0 9 ∧ spL (rpM id ck L k2 k3) = rpF id ck L ∧ spI (rpM id ck L k2 k3) = id ∧ prvB k2 k3 (spB (rpM id ck L k2 k3)) (spA (rpM id ck L k2 k3)) = true := by
  obtain ⟨hv, h16⟩ := rpF_valid h1 h2 b1 b2 h3 h4
  have hid : (fdD (rpF id ck L) 260).length = 16 := by rw [rpF_fd]; exact h1
  obtain ⟨e1, e2, e3, e4, e5, e6, e7⟩ := msg_all 0 4 3 0 0 0 0 0 0 0 0 0 9 (rpF id ck L) k2 k3 exN (by omega) (by omega) (by omega) (by omega) (by omega) (by omega) (by omega) hv h16 hid
  have hp := msg_prv 0 4 3 0 0 0 0 0 0 0 0 0 9 (rpF id ck L) k2 k3 exN (by omega) (by omega) (by omega) (by omega) (by omega) (by omega) (by omega) hv h16 hid
  exact ⟨e1, e2, e3, e4.trans (rpF_fd _ _ _), hp⟩
theorem t_req {lo b : Nat} {G : List Nat} {k0 k1 k2 k3 N : Int} {ck : List Int} {CK I : List (List Int)} {W : World} (x : Int) (h : Cli W lo b G k0 k1 k2 k3 (ck :: CK) N I) (hk0 : U64 k0) (hk1 : U64 k1) (hN : 0 ≤ N ∧ N < 18446744073709551615) (hx : U64 x) (hR : Rnd W) (hlo : 0 < lo) (hn8 : CK.length + 1 ≤ 8) (hn28 : I.length ≤ 8) :
    Calls Tryd.prog 21 #[.pointer (some ⟨b, 0, none⟩), ntp 0 4 3 0 0 0 0 0 0 0 0 0 9, .int .u64 x] W fun e w' => ∃ r c' G', e = .returned (.tuple #[.slice (some ⟨r, 0, none⟩) 136 c', .int .i64 0]) ∧ Ck w' W.heap.size G' (r, c', rqM (N + 1) x ck k0 k1) ∧ Cli w' lo b G' k0 k1 k2 k3 CK (N + 1) (wtN I (idB (N + 1) x)) ∧ Kp W G w' ∧ Nw W G G' := by
  have h52 : ck.length = 52 := (h.lens.1 ck (by simp)).1
  refine (creq 0 4 3 0 0 0 0 0 0 0 0 0 9 x h exN (by omega) (by omega) (by omega) (by omega) (by omega) (by omega) (by omega) hk0 hk1 hN hx hR hlo hn8 hn28).mono fun e w' ⟨r, c', Nn, G', q1, q2, q3, q4, q5, q6⟩ => ?_
  have hl : (msgB 0 4 3 0 0 0 0 0 0 0 0 0 9 (rqF (N + 1) x ck) k0 k1).length = 136 := rqM_len _ _ _ _ h52
  obtain rfl : 136 = Nn := hl.symm.trans q2
  exact ⟨r, c', G', q1, q3, q4, q5, q6⟩
theorem t_open {CK : List Int} {W : World} {bj : Nat} {A : Option Addr} {c : Nat} {s kk g k0 k1 k2 k3 : Int} (n x : Int) (hJ : Blk W bj 84 (jarL s kk g)) (hs : U64 s) (hg : Gn g) (hkk : 1 ≤ kk ∧ kk ≤ 8) (hR : Rnd W) (h52 : CK.length = 52) (hcb : Byt CK) (hop : opV s kk g CK = .tuple #[keyV k0 k1, keyV k2 k3, .int .i64 0]) (hB : Bs W 0 W.heap.size A (rqM n x CK k0 k1)) (hnc : 136 ≤ c) (hc : c ≤ 9223372036854775807) :
    Calls Tryd.prog 11 #[.pointer (some ⟨bj, 0, none⟩), .slice A 136 c] W fun e w' => ∃ r c', e = .returned (.tuple #[ntp 0 4 3 0 0 0 0 0 0 0 0 0 9, .agg (tktL (some ⟨r, 0, none⟩) 16 c' k0 k1 k2 k3).toArray, .int .i64 0]) ∧ Ow w' W.heap.size (some ⟨r, 0, none⟩) c' (idB n x) ∧ Below W.heap.size W w' :=
  sopen 0 4 3 0 0 0 0 0 0 0 0 0 9 n x CK k0 k1 k2 k3 s kk g bj A 136 c W hJ hs hg hkk hR exN (by omega) (by omega) (by omega) (by omega) (by omega) (by omega) (by omega) h52 hcb hop (rqM_len n x k0 k1 h52) hB hnc hc (by omega)
theorem t_rep {W : World} {bj r ci : Nat} {id' : List Int} {s kk g k0 k1 k2 k3 : Int} (no : Int) (hJ : Blk W bj 84 (jarL s kk g)) (hs : U64 s) (hg : Gn g) (hR : Rnd W) (hno : U64 no) (hk0 : U64 k0) (hk1 : U64 k1) (hk2 : U64 k2) (hk3 : U64 k3) (hil : id'.length = 16) (hI : Bs W 0 W.heap.size (some ⟨r, 0, none⟩) id') (hic : 16 ≤ ci) (hicc : ci ≤ 9223372036854775807) :
    Calls Tryd.prog 17 #[.pointer (some ⟨bj, 0, none⟩), .agg (tktL (some ⟨r, 0, none⟩) 16 ci k0 k1 k2 k3).toArray, ntp 0 4 3 0 0 0 0 0 0 0 0 0 9, .slice none 0 0, .int .u64 no] W fun e w' => ∃ A c, e = .returned (.tuple #[.slice A 136 c, .int .i64 0]) ∧ Ow w' W.heap.size A c (rpM id' (ckB s g no k0 k1 k2 k3) [] k2 k3) ∧ Below W.heap.size W w' := by
  refine (sreply 0 4 3 0 0 0 0 0 0 0 0 0 9 no id' k0 k1 k2 k3 s kk g bj r ci W hJ hs hg hR exN (by omega) (by omega) (by omega) (by omega) (by omega) (by omega) (by omega) hno hk0 hk1 hk2 hk3 hil hI hic hicc).mono fun e w' ⟨A, c, n, q1, q2, q3, q4⟩ => ?_
  have hl : (msgB 0 4 3 0 0 0 0 0 0 0 0 0 9 (rpF id' (ckB s g no k0 k1 k2 k3) []) k2 k3).length = 136 := rpM_len k2 k3 hil (ckB_len _ _ _ _ _ _ _)
  obtain rfl : 136 = n := hl.symm.trans q2
  exact ⟨A, c, q1, q3, q4⟩
theorem t_acc {lo b : Nat} {G : List Nat} {k0 k1 k2 k3 N : Int} {CK I : List (List Int)} {W : World} {A : Option Addr} {c : Nat} {id ck : List Int} (k : Nat) (h : Cli W lo b G k0 k1 k2 k3 CK N I) (hk2 : U64 k2) (hk3 : U64 k3) (hR : Rnd W) (hn8 : CK.length ≤ 8) (hn28 : I.length ≤ 8) (h1 : id.length = 16) (h2 : ck.length = 52) (b1 : Byt id) (b2 : Byt ck) (hk : k < I.length) (hF : fiI I id = k) (hB : Bs W 0 W.heap.size A (rpM id ck [] k2 k3)) (hnc : 136 ≤ c) (hc : c ≤ 9223372036854775807) :
    Calls Tryd.prog 24 #[.pointer (some ⟨b, 0, none⟩), .slice A 136 c] W fun e w' => ∃ P1 q1 G', e = .returned (.tuple #[ntp 0 4 3 0 0 0 0 0 0 0 0 0 9, .slice P1 2 q1, .int .i64 0]) ∧ Cli w' lo b G' k0 k1 k2 k3 (ckN CK [ck]) N (I.take k ++ I.drop (k + 1)) ∧ Kp W G w' ∧ Nw W G G' := by
  obtain ⟨e1, e2, e3, e4, e5⟩ := rpM_all (L := []) k2 k3 h1 h2 b1 b2 (fun t ht => by cases ht) (by simp)
  have hfr : frs (spL (rpM id ck [] k2 k3)) = [ck] := by rw [e3]; rfl
  refine (cacc A 136 c (rpM id ck [] k2 k3) 0 4 3 0 0 0 0 0 0 0 0 0 9 h hk2 hk3 hR hn8 hn28 (rpM_len k2 k3 h1 h2) hB hnc hc (by omega) e1 e2 e5 k hk (by rw [e4]; exact hF) (by
    refine frB_yes fun d hd => ?_
    rw [hfr] at hd
    rw [List.mem_singleton.1 hd]
    exact h2)).mono fun e w' ⟨P1, p1, q1, G', z1, z2, z3, z4, z5, z6⟩ => ?_
  have hl : (spL (rpM id ck [] k2 k3)).length = 2 := by rw [e3]; rfl
  obtain rfl : 2 = p1 := hl.symm.trans z2
  rw [hfr] at z4
  exact ⟨P1, q1, G', z1, z4, z5, z6⟩
theorem t_none {lo b : Nat} {G : List Nat} {k0 k1 k2 k3 N : Int} {CK I : List (List Int)} {W : World} {A : Option Addr} {c : Nat} {id ck : List Int} (h : Cli W lo b G k0 k1 k2 k3 CK N I) (hk2 : U64 k2) (hk3 : U64 k3) (hR : Rnd W) (hn8 : CK.length ≤ 8) (hn28 : I.length ≤ 8) (h1 : id.length = 16) (h2 : ck.length = 52) (b1 : Byt id) (b2 : Byt ck) (hF : fiI I id = -1) (hB : Bs W 0 W.heap.size A (rpM id ck [] k2 k3)) (hnc : 136 ≤ c) (hc : c ≤ 9223372036854775807) :
    Calls Tryd.prog 24 #[.pointer (some ⟨b, 0, none⟩), .slice A 136 c] W fun e w' => e = .returned (.tuple #[ntp0, .slice none 0 0, .int .i64 11]) ∧ Below W.heap.size W w' := by
  obtain ⟨e1, e2, e3, e4, e5⟩ := rpM_all (L := []) k2 k3 h1 h2 b1 b2 (fun t ht => by cases ht) (by simp)
  exact cacc_none A 136 c _ 0 4 3 0 0 0 0 0 0 0 0 0 9 h hk2 hk3 hR hn8 hn28 (rpM_len k2 k3 h1 h2) hB hnc hc (by omega) e1 e2 e5 (by rw [e4]; exact hF)
/-! ### changed authenticators -/
theorem prvB_inv {k0 k1 : Int} {D T : List Int} (hb : Byt T) (hl : T.length = 12) (h : prvB k0 k1 D T = true) : T = athB k0 k1 D := by
  unfold prvB at h
  rw [Bool.and_eq_true, beq_iff_eq, beq_iff_eq] at h
  unfold athB
  have h1 := bytes_numB' 4 (T.take 4) (hb.take _) (by rw [List.length_take]; omega) (by omega)
  have h2 := bytes_numB' 8 ((T.drop 4).take 8) ((hb.drop _).take _) (by rw [List.length_take, List.length_drop]; omega) (by omega)
  rw [h.1] at h1
  rw [← h.2] at h2
  rw [h1, h2, List.take_of_length_le (l := T.drop 4) (by rw [List.length_drop]; omega)]
  exact (List.take_append_drop 4 T).symm
def xc (x y : Int) : Int := bits .xor .u8 x y
theorem xc_nat {x y : Int} (hx : 0 ≤ x ∧ x ≤ 255) (hy : 0 ≤ y ∧ y ≤ 255) : xc x y = ((x.toNat ^^^ y.toNat : Nat) : Int) := Go.u8_xor x y hx.1 (by omega) hy.1 (by omega)
theorem xc_rng {x y : Int} (hx : 0 ≤ x ∧ x ≤ 255) (hy : 0 ≤ y ∧ y ≤ 255) : 0 ≤ xc x y ∧ xc x y ≤ 255 := by
  rw [xc_nat hx hy]
  have h : x.toNat ^^^ y.toNat < 2 ^ 8 := Nat.xor_lt_two_pow (by omega) (by omega)
  omega
theorem xc_ne {x y : Int} (hx : 0 ≤ x ∧ x ≤ 255) (hy : 0 ≤ y ∧ y ≤ 255) (h : y ≠ 0) : xc x y ≠ x := by
  rw [xc_nat hx hy]
  intro e
  have e2 : x.toNat ^^^ y.toNat = x.toNat := by omega
  have e3 : x.toNat ^^^ (x.toNat ^^^ y.toNat) = x.toNat ^^^ x.toNat := by rw [e2]
  rw [← Nat.xor_assoc, Nat.xor_self, Nat.zero_xor] at e3
  omega
/-- a byte of the last twelve turned -/
theorem flip_parts (l v m st po pr rd rp id ref org rec xmt : Int) (L : Flds) (k0 k1 : Int) (j : Nat) (x : Int) (hn : 12 ≤ (msgB l v m st po pr rd rp id ref org rec xmt L k0 k1).length) (hj : (msgB l v m st po pr rd rp id ref org rec xmt L k0 k1).length - 12 ≤ j) (hj2 : j < (msgB l v m st po pr rd rp id ref org rec xmt L k0 k1).length) (hx : 0 ≤ x ∧ x ≤ 255) (hne : x ≠ atB (msgB l v m st po pr rd rp id ref org rec xmt L k0 k1) j) (hM : Byt (msgB l v m st po pr rd rp id ref org rec xmt L k0 k1)) :
    ∃ T, (msgB l v m st po pr rd rp id ref org rec xmt L k0 k1).set j x = bdyB l v m st po pr rd rp id ref org rec xmt L ++ T ∧ T.length = 12 ∧ Byt T ∧ T ≠ athB k0 k1 (bdyB l v m st po pr rd rp id ref org rec xmt L) := by
  have hb : (msgB l v m st po pr rd rp id ref org rec xmt L k0 k1).length = (bdyB l v m st po pr rd rp id ref org rec xmt L).length + 12 := by rw [msgB_len, bdyB_len]; omega
  have hA := athB_len k0 k1 (bdyB l v m st po pr rd rp id ref org rec xmt L)
  have hj' : (bdyB l v m st po pr rd rp id ref org rec xmt L).length ≤ j := by omega
  have hAb : Byt (athB k0 k1 (bdyB l v m st po pr rd rp id ref org rec xmt L)) := fun y hy => hM y (by unfold msgB; exact List.mem_append.2 (.inr hy))
  refine ⟨(athB k0 k1 (bdyB l v m st po pr rd rp id ref org rec xmt L)).set (j - (bdyB l v m st po pr rd rp id ref org rec xmt L).length) x, ?_, by rw [List.length_set]; exact hA, hAb.set _ hx.1 hx.2, fun e => hne ?_⟩
  · unfold msgB
    rw [List.set_append_right _ _ hj']
  · have h1 : ((athB k0 k1 (bdyB l v m st po pr rd rp id ref org rec xmt L)).set (j - (bdyB l v m st po pr rd rp id ref org rec xmt L).length) x)[j - (bdyB l v m st po pr rd rp id ref org rec xmt L).length]? = some x := by
      rw [List.getElem?_set, if_pos rfl, if_pos (by omega)]
    rw [e] at h1
    unfold atB msgB
    rw [List.getD_eq_getElem?_getD, List.getElem?_append_right hj', h1]
    rfl
theorem msgT_all (l v m st po pr rd rp id ref org rec xmt : Int) (L : Flds) (T : List Int) (hT : T.length = 12) (hk : nchk l v m st po pr = 0) (h6 : 0 ≤ rd ∧ rd ≤ 4294967295) (h7 : 0 ≤ rp ∧ rp ≤ 4294967295) (h8 : 0 ≤ id ∧ id ≤ 4294967295) (h9 : 0 ≤ ref ∧ ref ≤ 18446744073709551615) (h10 : 0 ≤ org ∧ org ≤ 18446744073709551615) (h11 : 0 ≤ rec ∧ rec ≤ 18446744073709551615) (h12 : 0 ≤ xmt ∧ xmt ≤ 18446744073709551615) (hv : AllV L) (h16 : L.length ≤ 16) (hid : (fdD L 260).length = 16) :
    spE (bdyB l v m st po pr rd rp id ref org rec xmt L ++ T) = 0 ∧ dcV (bdyB l v m st po pr rd rp id ref org rec xmt L ++ T) = ntp l v m st po pr rd rp id ref org rec xmt ∧ spL (bdyB l v m st po pr rd rp id ref org rec xmt L ++ T) = L ∧ spI (bdyB l v m st po pr rd rp id ref org rec xmt L ++ T) = fdD L 260 ∧ spA (bdyB l v m st po pr rd rp id ref org rec xmt L ++ T) = T ∧ spB (bdyB l v m st po pr rd rp id ref org rec xmt L ++ T) = bdyB l v m st po pr rd rp id ref org rec xmt L ∧ spC (bdyB l v m st po pr rd rp id ref org rec xmt L ++ T) = fdD L 516 := by
  obtain ⟨e1, e2, e4, e3, e5⟩ : dcE (bdyB l v m st po pr rd rp id ref org rec xmt L ++ T) = 0 ∧ dcV (bdyB l v m st po pr rd rp id ref org rec xmt L ++ T) = ntp l v m st po pr rd rp id ref org rec xmt ∧ spL (bdyB l v m st po pr rd rp id ref org rec xmt L ++ T) = L ∧ prsE (dcR (bdyB l v m st po pr rd rp id ref org rec xmt L ++ T)) = 0 ∧ spA (bdyB l v m st po pr rd rp id ref org rec xmt L ++ T) = T := by
    have e : bdyB l v m st po pr rd rp id ref org rec xmt L ++ T = encH l v m st po pr rd rp id ref org rec xmt ++ (fldsB L ++ T) := by unfold bdyB; rw [List.append_assoc]
    obtain ⟨e1, e2, e3⟩ := dcV_enc l v m st po pr rd rp id ref org rec xmt (fldsB L ++ T) hk h6 h7 h8 h9 h10 h11 h12
    obtain ⟨p1, p2, p3⟩ := prs_of (a := T) hv h16 (.inr hT)
    unfold spL spA
    rw [e, e1, e2, e3]
    exact ⟨rfl, rfl, p1, p3, p2⟩
  have eI : spI (bdyB l v m st po pr rd rp id ref org rec xmt L ++ T) = fdD L 260 := by unfold spI; rw [e4]
  have eB : spB (bdyB l v m st po pr rd rp id ref org rec xmt L ++ T) = bdyB l v m st po pr rd rp id ref org rec xmt L := by
    unfold spB
    rw [List.length_append, hT, Nat.add_sub_cancel]
    exact List.take_left' rfl
  refine ⟨?_, e2, e4, eI, e5, eB, by unfold spC; rw [e4]⟩
  rcases spE_cases (bdyB l v m st po pr rd rp id ref org rec xmt L ++ T) with ⟨h1, h2⟩ | ⟨h1, h2, h3⟩ | ⟨h1, h2, h3, h4⟩ | ⟨h1, h2, h3, h4, h5⟩
  · exact absurd e1 h1
  · exact absurd e3 h2
  · exact absurd ⟨by rw [e5]; exact hT, by rw [eI]; exact hid⟩ h3
  · exact h5
theorem prvB_no {k0 k1 : Int} {D T : List Int} (hb : Byt T) (hl : T.length = 12) (h : T ≠ athB k0 k1 D) : prvB k0 k1 D T = false := by
  rw [Bool.eq_false_iff]
  exact fun e => h (prvB_inv hb hl e)
theorem t_openx {CK : List Int} {W : World} {bj : Nat} {A : Option Addr} {c : Nat} {s kk g k0 k1 k2 k3 : Int} (n x : Int) (j : Nat) (y : Int) (hJ : Blk W bj 84 (jarL s kk g)) (hs : U64 s) (hg : Gn g) (hkk : 1 ≤ kk ∧ kk ≤ 8) (hR : Rnd W) (h52 : CK.length = 52) (hcb : Byt CK) (hop : opV s kk g CK = .tuple #[keyV k0 k1, keyV k2 k3, .int .i64 0]) (hMb : Byt (rqM n x CK k0 k1)) (hj : 124 ≤ j) (hj2 : j < 136) (hy : 0 ≤ y ∧ y ≤ 255) (hne : y ≠ atB (rqM n x CK k0 k1) j) (hB : Bs W 0 W.heap.size A ((rqM n x CK k0 k1).set j y)) (hnc : 136 ≤ c) (hc : c ≤ 9223372036854775807) :
    Calls Tryd.prog 11 #[.pointer (some ⟨bj, 0, none⟩), .slice A 136 c] W fun e w' => e = .returned (.tuple #[ntp0, .agg (tktL none 0 0 0 0 0 0).toArray, .int .i64 16]) ∧ Below W.heap.size W w' := by
  have hl := rqM_len n x k0 k1 h52
  obtain ⟨T, e, hT, hTb, hTn⟩ := flip_parts 0 4 3 0 0 0 0 0 0 0 0 0 9 (rqF n x CK) k0 k1 j y (by unfold rqM at hl; omega) (by unfold rqM at hl; omega) (by unfold rqM at hl; omega) hy hne hMb
  have hlx : ((rqM n x CK k0 k1).set j y).length = 136 := by rw [List.length_set]; exact hl
  have e' : (rqM n x CK k0 k1).set j y = bdyB 0 4 3 0 0 0 0 0 0 0 0 0 9 (rqF n x CK) ++ T := e
  rw [e'] at hB hlx
  obtain ⟨hv, h16⟩ := rqF_valid n x h52 hcb
  have hid : (fdD (rqF n x CK) 260).length = 16 := by rw [(rqF_fd n x CK).1]; exact idB_len n x
  obtain ⟨e1, e2, e3, e4, e5, e6, e7⟩ := msgT_all 0 4 3 0 0 0 0 0 0 0 0 0 9 (rqF n x CK) T hT exN (by omega) (by omega) (by omega) (by omega) (by omega) (by omega) (by omega) hv h16 hid
  rw [(rqF_fd n x CK).2] at e7
  obtain ⟨o0, o1, o2, o3, o4⟩ := opV_parts hop
  exact gopen_tag bj s kk g A 136 c _ W hJ hs hg hkk hR hlx hB hnc hc (by omega) e1 0 4 3 0 0 0 0 0 0 0 0 0 9 e2 (by rw [e7]; exact h52) (by rw [e7]; exact o0) (by rw [e7, o1, o2, e5, e6]; exact prvB_no hTb hT hTn)
theorem t_accx {lo b : Nat} {G : List Nat} {k0 k1 k2 k3 N : Int} {CK I : List (List Int)} {W : World} {A : Option Addr} {c : Nat} {id ck : List Int} (j : Nat) (y : Int) (h : Cli W lo b G k0 k1 k2 k3 CK N I) (hk2 : U64 k2) (hk3 : U64 k3) (hR : Rnd W) (hn8 : CK.length ≤ 8) (hn28 : I.length ≤ 8) (h1 : id.length = 16) (h2 : ck.length = 52) (b1 : Byt id) (b2 : Byt ck) (hMb : Byt (rpM id ck [] k2 k3)) (hj : 124 ≤ j) (hj2 : j < 136) (hy : 0 ≤ y ∧ y ≤ 255) (hne : y ≠ atB (rpM id ck [] k2 k3) j) (hB : Bs W 0 W.heap.size A ((rpM id ck [] k2 k3).set j y)) (hnc : 136 ≤ c) (hc : c ≤ 9223372036854775807) :
    Calls Tryd.prog 24 #[.pointer (some ⟨b, 0, none⟩), .slice A 136 c] W fun e w' => e = .returned (.tuple #[ntp0, .slice none 0 0, .int .i64 16]) ∧ Below W.heap.size W w' := by
  have hl := rpM_len k2 k3 h1 h2
  obtain ⟨T, e, hT, hTb, hTn⟩ := flip_parts 0 4 3 0 0 0 0 0 0 0 0 0 9 (rpF id ck []) k2 k3 j y (by unfold rpM at hl; omega) (by unfold rpM at hl; omega) (by unfold rpM at hl; omega) hy hne hMb
  have hlx : ((rpM id ck [] k2 k3).set j y).length = 136 := by rw [List.length_set]; exact hl
  have e' : (rpM id ck [] k2 k3).set j y = bdyB 0 4 3 0 0 0 0 0 0 0 0 0 9 (rpF id ck []) ++ T := e
  rw [e'] at hB hlx
  obtain ⟨hv, h16⟩ := rpF_valid (L := []) h1 h2 b1 b2 (fun t ht => by cases ht) (by simp)
  have hid : (fdD (rpF id ck []) 260).length = 16 := by rw [rpF_fd]; exact h1
  obtain ⟨e1, e2, e3, e4, e5, e6, e7⟩ := msgT_all 0 4 3 0 0 0 0 0 0 0 0 0 9 (rpF id ck []) T hT exN (by omega) (by omega) (by omega) (by omega) (by omega) (by omega) (by omega) hv h16 hid
  exact cacc_tag A 136 c _ 0 4 3 0 0 0 0 0 0 0 0 0 9 h hk2 hk3 hR hn8 hn28 hlx hB hnc hc (by omega) e1 e2 (by rw [e5, e6]; exact prvB_no hTb hT hTn)
end Go.Proofs.YtachhbbofemfdaaDoor
namespace Go.Proofs.YtachhbbofemfdaaDoor
open Go.RowKit
set_option linter.unusedSimpArgs false
set_option linter.unusedVariables false
set_option maxRecDepth 100000
set_option maxRecDepth 100000 in
set_option maxHeartbeats 16000000 in
theorem changed_zero (k0 k1 k2 k3 s at' : Int) (w : World) (hR : Rnd w) :
    Calls Tryd.prog 8 #[keyV k0 k1, keyV k2 k3, .int .u64 s, .int .u8 at', .int .u8 0] w fun e w' => e = .returned (.bool true) ∧ Below w.heap.size w w' := by
  go_enter Tryd.func8, Tryd.ntmps8
  go_wp2_with (first
    | (refine wpl_box (by rfl) 29 _ (by rfl) _ (keyL k0 k1) (by rfl) rfl ?_; intro w1 P1 s1 b1)
    | (refine wpl_box (by rfl) 29 _ (by rfl) _ (keyL k2 k3) (by rfl) rfl ?_; intro w2 Q2 s2 b2))
  have B2 := b1.trans (b2.mono (by omega))
  have R2 := hR.below B2 hR.lt
  with_reducible refine (awake_any _ R2).mono ?_
  rintro e wa ⟨rfl, ba⟩
  have Ba := B2.trans (ba.mono B2.size)
  go_wp2
  go_ret
  exact ⟨rfl, Ba⟩
set_option maxRecDepth 100000 in
set_option maxHeartbeats 16000000 in
theorem changed_main (k0 k1 k2 k3 s at' ch : Int) (w : World) (hk0 : U64 k0) (hk1 : U64 k1) (hk2 : U64 k2) (hk3 : U64 k3) (hs : U64 s) (ha : 0 ≤ at' ∧ at' ≤ 255) (hc : 0 ≤ ch ∧ ch ≤ 255) (hne : ch ≠ 0) (hR : Rnd w) :
    Calls Tryd.prog 8 #[keyV k0 k1, keyV k2 k3, .int .u64 s, .int .u8 at', .int .u8 ch] w fun e w' => e = .returned (.bool true) ∧ Below w.heap.size w w' := by
  have hw0 := hR.lt
  have hch : (ch == 0) = false := by simpa using hne
  obtain ⟨CK, hCK⟩ : ∃ CK, CK = ckB s 1 1 k0 k1 k2 k3 := ⟨_, rfl⟩
  have hg : Gn 1 := ⟨by omega, by omega⟩
  have hn1 : U64 1 := by unfold U64; omega
  have hst : staleB 1 1 1 = false := by unfold staleB; rw [decide_eq_false (by omega : ¬ (1 : Int) ≤ 1 - 1)]; decide
  have hop : opV s 1 1 (ckB s 1 1 k0 k1 k2 k3) = .tuple #[keyV k0 k1, keyV k2 k3, .int .i64 0] := by
    rw [ck_open hg hn1 hk0 hk1 hk2 hk3, hst]; rfl
  have h52 : (ckB s 1 1 k0 k1 k2 k3).length = 52 := ckB_len _ _ _ _ _ _ _
  have hcb : Byt (ckB s 1 1 k0 k1 k2 k3) := ckB_byt _ _ _ _ _ _ _
  have hSe := fun bj W hJ hR => seal_any bj s 1 1 k0 k1 k2 k3 1 W hs hg hn1 hk0 hk1 hk2 hk3 hJ hR
  rw [← hCK] at hop h52 hcb hSe
  clear hCK hst
  go_enter Tryd.func8, Tryd.ntmps8
  go_wp2_with (first
    | (refine wpl_box (by rfl) 29 _ (by rfl) _ (keyL k0 k1) (by rfl) rfl ?_; intro w1 U1 s1 b1)
    | ((refine wpl_box (by rfl) 29 _ (by rfl) _ (keyL k2 k3) (by rfl) rfl ?_; intro w2 V2 s2 b2); (have U2 := U1.below b2 (by omega)); (have B2 := b1.trans (b2.mono (by omega))))
    | (go_at_call 12; ((with_reducible refine (new_some s 1 _ (by omega) (by omega)).mono ?_); rintro e w5 ⟨rfl, J5, b5⟩; (have U5 := U2.below b5 U2.lt); (have V5 := V2.below b5 V2.lt); (have B5 := B2.trans (b5.mono B2.size)))))
  have R5 := hR.below B5 hw0
  have z14 : w1.heap.size < w2.heap.size := by omega
  have z01 : w.heap.size < w1.heap.size := s1
  clear U1 U2 V2 b1 b2 b5 B2 s1 s2
  generalize hq1 : w1.heap.size = n1 at *
  generalize hq4 : w2.heap.size = bj at *
  clear hq1 hq4
  refine wp_region_heldL (fun y => Blk y w.heap.size 29 (keyL k0 k1) ∧ Blk y n1 29 (keyL k2 k3)) 9 (by kernel_rfl) rfl ⟨U5.drew, V5.drew⟩ fun hHeld => ?_
  simp only [List.replicate]
  refine wpH_take (i := 0) (v := .agg (keyL k0 k1).toArray) (by simp only [List.getElem?_toArray, List.getElem?_cons_succ, List.getElem?_cons_zero]; rfl) (by kernel_rfl) (by kernel_rfl) (by kernel_rfl) (by intro _ _ _ h; exact h) (yieldsIf_load_mid (by rfl) 29 _ (by rfl) w.heap.size 0 (by rfl) (keyL k0 k1) _ (fun w' h => h.1.range) Tryd.underlying29 rfl sizeKey) (by assumption) ?_
  (try simp only [Act.put, List.setIfInBounds_toArray, List.set_cons_zero, List.set_cons_succ])
  refine wpH_take (i := 1) (v := .agg (keyL k2 k3).toArray) (by simp only [List.getElem?_toArray, List.getElem?_cons_succ, List.getElem?_cons_zero]; rfl) (by kernel_rfl) (by kernel_rfl) (by kernel_rfl) (by intro _ _ _ h; exact h) (yieldsIf_load_mid (by rfl) 29 _ (by rfl) n1 0 (by rfl) (keyL k2 k3) _ (fun w' h => h.2.range) Tryd.underlying29 rfl sizeKey) (by assumption) ?_
  (try simp only [Act.put, List.setIfInBounds_toArray, List.set_cons_zero, List.set_cons_succ])
  (refine wpH_take (i := 2) (v := _) (by simp only [List.getElem?_toArray, List.getElem?_cons_succ, List.getElem?_cons_zero]; rfl) (by kernel_rfl) (by kernel_rfl) (by kernel_rfl) (by intro _ _ _ h; exact h) (Or.inl ⟨by rfl, (by intro w' hSw; (try dsimp only at hSw); go_simp; first | done | with_reducible rfl)⟩) (by assumption) ?_; (try simp only [Act.put, List.setIfInBounds_toArray, List.set_cons_zero, List.set_cons_succ]))
  refine wpH_take (i := 3) (v := .agg (keyL k0 k1).toArray) (by simp only [List.getElem?_toArray, List.getElem?_cons_succ, List.getElem?_cons_zero]; rfl) (by kernel_rfl) (by kernel_rfl) (by kernel_rfl) (by intro _ _ _ h; exact h) (yieldsIf_load_mid (by rfl) 29 _ (by rfl) w.heap.size 0 (by rfl) (keyL k0 k1) _ (fun w' h => h.1.range) Tryd.underlying29 rfl sizeKey) (by assumption) ?_
  (try simp only [Act.put, List.setIfInBounds_toArray, List.set_cons_zero, List.set_cons_succ])
  refine wpH_take (i := 4) (v := .agg (keyL k2 k3).toArray) (by simp only [List.getElem?_toArray, List.getElem?_cons_succ, List.getElem?_cons_zero]; rfl) (by kernel_rfl) (by kernel_rfl) (by kernel_rfl) (by intro _ _ _ h; exact h) (yieldsIf_load_mid (by rfl) 29 _ (by rfl) n1 0 (by rfl) (keyL k2 k3) _ (fun w' h => h.2.range) Tryd.underlying29 rfl sizeKey) (by assumption) ?_
  (try simp only [Act.put, List.setIfInBounds_toArray, List.set_cons_zero, List.set_cons_succ])
  have hSE := hSe bj w5.drew J5.drew R5.drew
  (refine wpH_one (i := 5) (by simp only [List.getElem?_toArray, List.getElem?_cons_succ, List.getElem?_cons_zero]; rfl) (by kernel_rfl) (by rfl) ?_; (go_simp; (with_reducible refine hSE.mono ?_); rintro e w6 ⟨A6, c6, rfl, O6, b6⟩; refine ⟨⟨U5.drew.below b6 U5.lt, V5.drew.below b6 V5.lt⟩, ?_⟩); (try simp only [Act.put, List.setIfInBounds_toArray, List.set_cons_zero, List.set_cons_succ]))
  have U6 := U5.drew.below b6 U5.lt
  have V6 := V5.drew.below b6 V5.lt
  have J6 := J5.drew.below b6 J5.lt
  have R6 := R5.drew.below b6 R5.lt
  have B6 := B5.drew.trans (b6.mono B5.size)
  (refine wpH_one (i := 6) (by simp only [List.getElem?_toArray, List.getElem?_cons_succ, List.getElem?_cons_zero]; rfl) (by kernel_rfl) (by rfl) ?_; (go_simp; refine ⟨⟨U6.old, V6.old⟩, ?_⟩); (try simp only [Act.put, List.setIfInBounds_toArray, List.set_cons_zero, List.set_cons_succ]))
  obtain ⟨w7, hw7⟩ : ∃ w7, w7 = w6.alloc (.cells #[.slice A6 52 c6] 23) := ⟨_, rfl⟩
  rw [← hw7]
  have b7 : Below w6.heap.size w6 w7 := by rw [hw7]; exact (Below.refl _ w6).alloc (Nat.le_refl _) _
  have N7 : Blk w7 w6.heap.size 23 [.slice A6 52 c6] := by rw [hw7]; exact Blk.new w6 _ _ _ rfl
  clear hw7
  have U7 := U6.below b7 U6.lt
  have V7 := V6.below b7 V6.lt
  have J7 := J6.below b7 J6.lt
  have R7 := R6.below b7 R6.lt
  have B7 := B6.trans (b7.mono B6.size)
  have L7 := ls_one N7 N7.lt h52 ((O6.bs.wide (Nat.zero_le _) (Nat.le_refl _)).below b7 (Nat.le_refl _) |>.wide (Nat.le_refl _) b7.size)
  have hNC := cnew k0 k1 k2 k3 (some ⟨w6.heap.size, 0, none⟩) 1 1 [CK] w7 (by omega) rfl L7 (Nat.le_refl _) (fun l hl => by rw [List.mem_singleton.1 hl]; exact h52)
  have hH7 : Blk w7 w.heap.size 29 (keyL k0 k1) ∧ Blk w7 n1 29 (keyL k2 k3) := ⟨U7, V7⟩
  (refine wpH_one (i := 7) (by simp only [List.getElem?_toArray, List.getElem?_cons_succ, List.getElem?_cons_zero]; rfl) (by kernel_rfl) (by rfl) ?_; (go_simp; (with_reducible refine hNC.mono ?_); rintro e w8 ⟨bc, G, rfl, C8, b8⟩; refine ⟨⟨U7.below b8 U7.lt, V7.below b8 V7.lt⟩, ?_⟩); (try simp only [Act.put, List.setIfInBounds_toArray, List.set_cons_zero, List.set_cons_succ]))
  have U8 : BlG w8 G w.heap.size 29 (keyL k0 k1) := ⟨U7.below b8 U7.lt, C8.low U7.lt⟩
  have V8 : BlG w8 G n1 29 (keyL k2 k3) := ⟨V7.below b8 V7.lt, C8.low V7.lt⟩
  have J8 : BlG w8 G bj 84 (jarL s 1 1) := ⟨J7.below b8 J7.lt, C8.low J7.lt⟩
  have R8 := R7.below b8 R7.lt
  have B8 := B7.trans (b8.mono B7.size)
  have hlo : 0 < w7.heap.size := R7.lt
  have hlow : w.heap.size ≤ w7.heap.size := B7.size
  have hH8 : Blk w8 w.heap.size 29 (keyL k0 k1) ∧ Blk w8 n1 29 (keyL k2 k3) := ⟨U8.1, V8.1⟩
  (refine wpH_take (i := 8) (v := _) (by simp only [List.getElem?_toArray, List.getElem?_cons_succ, List.getElem?_cons_zero]; rfl) (by kernel_rfl) (by kernel_rfl) (by kernel_rfl) (by intro _ _ _ h; exact h) (Or.inl ⟨by rfl, (by intro w' hSw; (try dsimp only at hSw); go_simp; first | done | with_reducible rfl)⟩) (by assumption) ?_; (try simp only [Act.put, List.setIfInBounds_toArray, List.set_cons_zero, List.set_cons_succ]))
  refine wpH_done (by kernel_rfl) ?_ _
  clear hHeld hH7 hH8 U5 V5 J5 R5 B5 U6 V6 J6 R6 B6 U7 V7 J7 N7 L7 hNC hSE hSe O6 b6 b7 b8
  generalize w7.heap.size = lo at *
  go_wp2_with fail
  with_reducible refine (head_any _).mono ?_
  rintro e w9 ⟨rfl, b9⟩
  have U9 := U8.below b9
  have V9 := V8.below b9
  have J9 := J8.below b9
  have C9 := C8.below b9
  have R9 := R8.below b9 R8.lt
  have B9 := B8.trans (b9.mono B8.size)
  clear U8 V8 J8 C8 R8 B8 b9
  go_wp2_with fail
  have hRQ := t_req 2 C9 hk0 hk1 (by omega) (by unfold U64; omega) R9 hlo (by simp) (by simp)
  with_reducible refine hRQ.mono ?_
  rintro e w10 ⟨r, cr, G', rfl, M10, C10, K10, n10⟩
  have z0 : 0 ∉ G := C9.low hlo
  have U10 := U9.go K10 n10
  have V10 := V9.go K10 n10
  have J10 := J9.go K10 n10
  have R10 := R9.go K10 z0
  have B10 : Below w.heap.size w w10 := K10.toBelow B9 B9.size (fun g hg => by have := (C9.rng g hg).1; omega)
  have hMb : Byt (rqM (0 + 1) 2 CK k0 k1) := M10.1.1
  have hcr := M10.1.cap_le
  have hcrm := M10.1.cap_max
  have hml := rqM_len (0 + 1) 2 k0 k1 h52
  rw [show ((r, cr, rqM (0 + 1) 2 CK k0 k1) : CkT).2.2 = rqM (0 + 1) 2 CK k0 k1 from rfl, hml] at hcr
  generalize hMe : rqM (0 + 1) 2 CK k0 k1 = M at M10 hMb hml
  clear U9 V9 J9 C9 R9 B9 K10 n10 z0 hRQ
  go_wp2_with fail
  have hOPN := t_open (c := cr) (0 + 1) 2 J10.1 hs hg ⟨by omega, by omega⟩ R10 h52 hcb hop (by rw [hMe]; exact M10.1.bs.wide (Nat.zero_le _) (Nat.le_refl _)) hcr hcrm
  with_reducible refine hOPN.mono ?_
  rintro e w14 ⟨rt, ct, rfl, I14, b14⟩
  have U14 := U10.below b14
  have V14 := V10.below b14
  have J14 := J10.below b14
  have C14 := C10.below b14
  have R14 := R10.below b14 R10.lt
  have B14 := B10.trans (b14.mono B10.size)
  have M14 := M10.below b14
  have hlt := I14.blt rt rfl
  have hti : rt ∉ G' := by
    intro hm
    have := (C10.rng rt hm).2
    omega
  have I14' : Ck w14 w10.heap.size G' (rt, ct, idB (0 + 1) 2) := ⟨I14, hti⟩
  clear U10 V10 J10 C10 R10 B10 M10 b14 I14 hOPN
  go_wp2_with (first
    | ((refine wpl_alloc (by rfl) 27 (by rfl) (.agg (zN).toArray) (zN) zeroNtp rfl ?_; intro w15 P15 s15 b15); (have T15 := U14))
    | ((refine wpl_alloc (by rfl) 31 (by rfl) (.agg (tktL none 0 0 0 0 0 0).toArray) (tktL none 0 0 0 0 0 0) zeroTk rfl ?_; intro w16 T16 s16 b16); (have P16 := P15.below b16 (by omega)))
    | ((refine wpl_store (by rfl) 27 _ _ (by rfl) w14.heap.size (by rfl) _ (by rfl) _ rfl 27 _ P16 (by rfl) _ sizeNtp (by rfl) (by simp [Value.oneCell']) ?_; intro w17 P17 s17 g17); (have T17 := T16.but g17 (by omega)))
    | ((refine wpl_store (by rfl) 31 _ _ (by rfl) w15.heap.size (by rfl) _ (by rfl) _ rfl 31 _ T17 (by rfl) _ sizeTk (by rfl) (by simp [Value.oneCell']) ?_; intro w18 T18 s18 g18); (have P18 := P17.but g18 (by omega))))
  have g15 : Below w14.heap.size w14 w18 := ((b15.trans (b16.mono b15.size)).trans (But.below (g := w14.heap.size) g17 (by omega) (Nat.le_refl _))).trans (But.below (g := w15.heap.size) g18 (by omega) b15.size)
  have n15 : w15.heap.size ∉ G' := fun hm => by have := (C14.rng _ hm).2; omega
  have U18 := U14.below g15
  have V18 := V14.below g15
  have J18 := J14.below g15
  have C18 := C14.below g15
  have R18 := R14.below g15 R14.lt
  have B18 := B14.trans (g15.mono B14.size)
  have I18 := I14'.below g15
  have M18 := M14.below g15
  have T18' : BlG w18 G' w15.heap.size 31 (tktL (some ⟨rt, 0, none⟩) 16 ct k0 k1 k2 k3) := ⟨T18, n15⟩
  have hcap := I18.1.cap_le
  rw [idB_len] at hcap
  clear U14 V14 J14 C14 R14 B14 M14 I14' b15 b16 g17 g18 g15 P15 P16 P17 P18 T15 T16 T17 T18 n15 s15 s16 s17 s18
  generalize hx : w14.heap.size = bp at *
  generalize hy : w15.heap.size = bt at *
  clear hx hy
  have hT18 := T18'.1
  refine wp_region_heldL (fun y => Blk y bt 31 (tktL (some ⟨rt, 0, none⟩) 16 ct k0 k1 k2 k3)) 9 (by kernel_rfl) rfl hT18.drew fun hHeld => ?_
  simp only [List.replicate]
  (refine wpH_take (i := 0) (v := _) (by simp only [List.getElem?_toArray, List.getElem?_cons_succ, List.getElem?_cons_zero]; rfl) (by kernel_rfl) (by kernel_rfl) (by kernel_rfl) (by intro _ _ _ h; exact h) (Or.inl ⟨by rfl, (by intro w' hSw; (try dsimp only at hSw); go_simp; first | done | with_reducible rfl)⟩) (by assumption) ?_; (try simp only [Act.put, List.setIfInBounds_toArray, List.set_cons_zero, List.set_cons_succ]))
  refine wpH_take (i := 1) (v := .agg (tktL (some ⟨rt, 0, none⟩) 16 ct k0 k1 k2 k3).toArray) (by simp only [List.getElem?_toArray, List.getElem?_cons_succ, List.getElem?_cons_zero]; rfl) (by kernel_rfl) (by kernel_rfl) (by kernel_rfl) (by intro _ _ _ h; exact h) (yieldsIf_load_mid (by rfl) 31 _ (by rfl) bt 0 (by rfl) (tktL (some ⟨rt, 0, none⟩) 16 ct k0 k1 k2 k3) _ (fun w' h => h.range) Tryd.underlying31 rfl sizeTk) (by assumption) ?_
  (try simp only [Act.put, List.setIfInBounds_toArray, List.set_cons_zero, List.set_cons_succ])
  have hhd := head_any w18.drew
  (refine wpH_one (i := 2) (by simp only [List.getElem?_toArray, List.getElem?_cons_succ, List.getElem?_cons_zero]; rfl) (by kernel_rfl) (by rfl) ?_; (go_simp; (with_reducible refine hhd.mono ?_); rintro e w19 ⟨rfl, b19⟩; refine ⟨hT18.drew.below b19 hT18.lt, ?_⟩); (try simp only [Act.put, List.setIfInBounds_toArray, List.set_cons_zero, List.set_cons_succ]))
  have b19' : Below w18.heap.size w18 w19 := (Below.refl _ w18).drew.trans b19
  have U19 := U18.below b19'
  have V19 := V18.below b19'
  have J19 := J18.below b19'
  have C19 := C18.below b19'
  have R19 := R18.below b19' R18.lt
  have B19 := B18.trans (b19'.mono B18.size)
  have I19 := I18.below b19'
  have M19 := M18.below b19'
  have T19 := T18'.below b19'
  have hT19 := T19.1
  have hREP := t_rep (ci := ct) 3 J19.1 hs hg R19 (by unfold U64; omega) hk0 hk1 hk2 hk3 (idB_len _ _) (I19.1.bs.wide (Nat.zero_le _) (Nat.le_refl _)) hcap I19.1.cap_max
  (refine wpH_one (i := 3) (by simp only [List.getElem?_toArray, List.getElem?_cons_succ, List.getElem?_cons_zero]; rfl) (by kernel_rfl) (by rfl) ?_; (go_simp; (with_reducible refine hREP.mono ?_); rintro e w20 ⟨Ar, car, rfl, O20, b20⟩; refine ⟨hT19.below b20 hT19.lt, ?_⟩); (try simp only [Act.put, List.setIfInBounds_toArray, List.set_cons_zero, List.set_cons_succ]))
  have U20 := U19.below b20
  have V20 := V19.below b20
  have J20 := J19.below b20
  have C20 := C19.below b20
  have R20 := R19.below b20 R19.lt
  have B20 := B19.trans (b20.mono B19.size)
  have M20 := M19.below b20
  have hT20 := hT19.below b20 hT19.lt
  (refine wpH_take (i := 4) (v := _) (by simp only [List.getElem?_toArray, List.getElem?_cons_succ, List.getElem?_cons_zero]; rfl) (by kernel_rfl) (by kernel_rfl) (by kernel_rfl) (by intro _ _ _ h; exact h) (Or.inl ⟨by rfl, (by intro w' hSw; (try dsimp only at hSw); go_simp; first | done | with_reducible rfl)⟩) (by assumption) ?_; (try simp only [Act.put, List.setIfInBounds_toArray, List.set_cons_zero, List.set_cons_succ]))
  (refine wpH_take (i := 5) (v := _) (by simp only [List.getElem?_toArray, List.getElem?_cons_succ, List.getElem?_cons_zero]; rfl) (by kernel_rfl) (by kernel_rfl) (by kernel_rfl) (by intro _ _ _ h; exact h) (Or.inl ⟨by rfl, (by intro w' hSw; (try dsimp only at hSw); go_simp; first | done | with_reducible rfl)⟩) (by assumption) ?_; (try simp only [Act.put, List.setIfInBounds_toArray, List.set_cons_zero, List.set_cons_succ]))
  (refine wpH_take (i := 6) (v := _) (by simp only [List.getElem?_toArray, List.getElem?_cons_succ, List.getElem?_cons_zero]; rfl) (by kernel_rfl) (by kernel_rfl) (by kernel_rfl) (by intro _ _ _ h; exact h) (Or.inl ⟨by rfl, (by intro w' hSw; (try dsimp only at hSw); go_simp; first | done | with_reducible rfl)⟩) (by assumption) ?_; (try simp only [Act.put, List.setIfInBounds_toArray, List.set_cons_zero, List.set_cons_succ]))
  (refine wpH_take (i := 7) (v := _) (by simp only [List.getElem?_toArray, List.getElem?_cons_succ, List.getElem?_cons_zero]; rfl) (by kernel_rfl) (by kernel_rfl) (by kernel_rfl) (by intro _ _ _ h; exact h) (Or.inl ⟨by rfl, (by intro w' hSw; (try dsimp only at hSw); go_simp; first | done | with_reducible rfl)⟩) (by assumption) ?_; (try simp only [Act.put, List.setIfInBounds_toArray, List.set_cons_zero, List.set_cons_succ]))
  (refine wpH_take (i := 8) (v := _) (by simp only [List.getElem?_toArray, List.getElem?_cons_succ, List.getElem?_cons_zero]; rfl) (by kernel_rfl) (by kernel_rfl) (by kernel_rfl) (by intro _ _ _ h; exact h) (Or.inl ⟨by rfl, (by intro w' hSw; (try dsimp only at hSw); go_simp; first | done | with_reducible rfl)⟩) (by assumption) ?_; (try simp only [Act.put, List.setIfInBounds_toArray, List.set_cons_zero, List.set_cons_succ]))
  refine wpH_done (by kernel_rfl) ?_ _
  have hi1 := idB_len (0 + 1) 2
  have hi2 := idB_byt (0 + 1) 2
  have hRl := rpM_len (ck := ckB s 1 3 k0 k1 k2 k3) k2 k3 hi1 (ckB_len _ _ _ _ _ _ _)
  have hcar := O20.cap_le
  rw [hRl] at hcar
  have hcarm := O20.cap_max
  obtain ⟨rr, rfl, hrr⟩ : ∃ rr, Ar = some ⟨rr, 0, none⟩ ∧ rr ∉ G' ∧ rr < w20.heap.size := by
    rcases O20.form with ⟨_, e, _⟩ | ⟨rr, e1, e2, e3⟩
    · rw [e] at hRl; cases hRl
    · exact ⟨rr, e1, fun hm => by have := (C19.rng _ hm).2; omega, e3⟩
  have M20' : Ck w20 w19.heap.size G' (rr, car, rpM (idB (0 + 1) 2) (ckB s 1 3 k0 k1 k2 k3) [] k2 k3) := ⟨O20, hrr.1⟩
  have hRb := O20.1
  have hfi : fiI (wtN [] (idB (0 + 1) 2)) (idB (0 + 1) 2) = (0 : Nat) := fiI_some (k := 0) (by simp [wtN]) rfl (fun j hj => by omega)
  have hk52 : (ckB s 1 3 k0 k1 k2 k3).length = 52 := ckB_len _ _ _ _ _ _ _
  have hkb : Byt (ckB s 1 3 k0 k1 k2 k3) := ckB_byt _ _ _ _ _ _ _
  generalize ckB s 1 3 k0 k1 k2 k3 = CK3 at *
  generalize hRe : rpM (idB (0 + 1) 2) CK3 [] k2 k3 = R at *
  clear hHeld hREP hhd hT18 hT19 hT20 U18 V18 J18 C18 R18 B18 I18 M18 T18' U19 V19 J19 C19 R19 B19 I19 M19 T19 b19 b19' b20 O20
  go_wp2_with fail
  have hCL := bclone_any (some ⟨r, 0, none⟩) 136 cr _ _ M w20 hml M20.1.bs (Nat.le_refl _) (by omega) (fun h => by cases h)
  with_reducible refine hCL.mono ?_
  rintro e w21 ⟨Ax, cx, rfl, X21, _, b21⟩
  have N21 := M20'.below b21
  have hcx := X21.cap_le
  have hcxm := X21.cap_max
  rw [hml] at hcx
  obtain ⟨gx, rfl, hgx1, hgx2⟩ : ∃ gx, Ax = some ⟨gx, 0, none⟩ ∧ w20.heap.size ≤ gx ∧ gx < w21.heap.size := by
    rcases X21.form with ⟨_, e, _⟩ | ⟨g, e1, e2, e3⟩
    · rw [e] at hml; cases hml
    · exact ⟨g, e1, e2, e3⟩
  clear hCL
  go_wp2_with fail
  have hCL := bclone_any (some ⟨rr, 0, none⟩) 136 car _ _ R w21 hRl N21.1.bs (Nat.le_refl _) (by omega) (fun h => by cases h)
  with_reducible refine hCL.mono ?_
  rintro e w22 ⟨Ay, cy, rfl, Y22, _, b22⟩
  have X22 := X21.below b22 (Nat.le_refl _)
  have hcy := Y22.cap_le
  have hcym := Y22.cap_max
  rw [hRl] at hcy
  obtain ⟨gy, rfl, hgy1, hgy2⟩ : ∃ gy, Ay = some ⟨gy, 0, none⟩ ∧ w21.heap.size ≤ gy ∧ gy < w22.heap.size := by
    rcases Y22.form with ⟨_, e, _⟩ | ⟨g, e1, e2, e3⟩
    · rw [e] at hRl; cases hRl
    · exact ⟨g, e1, e2, e3⟩
  clear hCL N21 X21
  have ho : 124 ≤ (135 - at' % 12).toNat ∧ (135 - at' % 12).toNat < 136 := by omega
  have q0 := X22.cell (k := (135 - at' % 12).toNat) (by omega)
  have q1 := X22.frozen
  have hy1 := X22.1.at (135 - at' % 12).toNat
  have hX := fun {x : Int} (h0 : 0 ≤ x) (h1 : x ≤ 255) => X22.set (135 - at' % 12).toNat h0 h1
  have hne1 := xc_ne hy1 hc hne
  have hrg1 := xc_rng hy1 hc
  generalize hY1 : atB M (135 - at' % 12).toNat = y1 at q0 hy1 hne1 hrg1
  have q2 := Y22.cell (k := (135 - at' % 12).toNat) (by omega)
  have q3 := Y22.frozen
  have hy2 := Y22.1.at (135 - at' % 12).toNat
  have hne2 := xc_ne hy2 hc hne
  have hrg2 := xc_rng hy2 hc
  generalize hY2 : atB R (135 - at' % 12).toNat = y2 at q2 hy2 hne2 hrg2
  have hgne : gy ≠ gx := by omega
  clear hX
  go_wp2_with fail
  have hX : Ow (w22.setCell ⟨gx, (135 - at' % 12).toNat, none⟩ (.int .u8 (bits .xor .u8 y1 ch))) w20.heap.size (some ⟨gx, 0, none⟩) cx (M.set (135 - at' % 12).toNat (xc y1 ch)) := X22.set (135 - at' % 12).toNat hrg1.1 hrg1.2
  have gX : But gx w22 (w22.setCell ⟨gx, (135 - at' % 12).toNat, none⟩ (.int .u8 (bits .xor .u8 y1 ch))) := but_setCell _ _ _ _
  generalize w22.setCell ⟨gx, (135 - at' % 12).toNat, none⟩ (.int .u8 (bits .xor .u8 y1 ch)) = w23 at *
  have hYg : Ow w23 w21.heap.size (some ⟨gy, 0, none⟩) cy R := Y22.grown gX (fun g e => by injection e with e; injection e with e; subst e; intro e; injection e with e; omega)
  have hY : Ow (w23.setCell ⟨gy, (135 - at' % 12).toNat, none⟩ (.int .u8 (bits .xor .u8 y2 ch))) w21.heap.size (some ⟨gy, 0, none⟩) cy (R.set (135 - at' % 12).toNat (xc y2 ch)) := hYg.set (135 - at' % 12).toNat hrg2.1 hrg2.2
  have gY : But gy w23 (w23.setCell ⟨gy, (135 - at' % 12).toNat, none⟩ (.int .u8 (bits .xor .u8 y2 ch))) := but_setCell _ _ _ _
  generalize w23.setCell ⟨gy, (135 - at' % 12).toNat, none⟩ (.int .u8 (bits .xor .u8 y2 ch)) = w24 at *
  have hX24 : Ow w24 w20.heap.size (some ⟨gx, 0, none⟩) cx (M.set (135 - at' % 12).toNat (xc y1 ch)) := hX.grown gY (fun g e => by injection e with e; injection e with e; subst e; intro e; injection e with e; omega)
  generalize (135 - at' % 12).toNat = o at *
  have g24 : Below w20.heap.size w20 w24 := ((b21.trans (b22.mono b21.size)).trans (gX.below (by omega) hgx1)).trans (gY.below (by have := gX.size; omega) (by omega))
  have U24 := U20.below g24
  have V24 := V20.below g24
  have J24 := J20.below g24
  have C24 := C20.below g24
  have R24 := R20.below g24 R20.lt
  have B24 := B20.trans (g24.mono B20.size)
  have N24 := M20'.below g24
  have hYn : gy ∉ G' := fun hm => by have := (C20.rng _ hm).2; omega
  have hYs : gy < w24.heap.size := by have := gX.size; have := gY.size; omega
  have Y24 : Ck w24 w21.heap.size G' (gy, cy, R.set o (xc y2 ch)) := ⟨hY, hYn⟩
  clear U20 V20 J20 C20 R20 B20 M20 M20' b21 b22 gX gY hX hY hYg X22 Y22 q0 q1 q2 q3 g24
  have hOPX := t_openx (c := cx) (0 + 1) 2 o (xc y1 ch) J24.1 hs hg ⟨by omega, by omega⟩ R24 h52 hcb hop (by rw [hMe]; exact hMb) ho.1 ho.2 hrg1 (by rw [hMe, hY1]; exact hne1) (by rw [hMe]; exact hX24.bs.wide (Nat.zero_le _) (Nat.le_refl _)) hcx hcxm
  with_reducible refine hOPX.mono ?_
  rintro e w25 ⟨rfl, b25⟩
  have U25 := U24.below b25
  have V25 := V24.below b25
  have J25 := J24.below b25
  have C25 := C24.below b25
  have R25 := R24.below b25 R24.lt
  have B25 := B24.trans (b25.mono B24.size)
  have N25 := N24.below b25
  have Y25 := Y24.below b25
  clear U24 V24 J24 C24 R24 B24 N24 Y24 b25 hOPX hX24
  go_wp2_with (first
    | ((refine wpl_alloc (by rfl) 27 (by rfl) (.agg (zN).toArray) (zN) zeroNtp rfl ?_; intro w26 P26 s26 b26))
    | ((refine wpl_alloc (by rfl) 31 (by rfl) (.agg (tktL none 0 0 0 0 0 0).toArray) (tktL none 0 0 0 0 0 0) zeroTk rfl ?_; intro w27 T27 s27 b27); (have P27 := P26.below b27 (by omega)))
    | ((refine wpl_store (by rfl) 27 _ _ (by rfl) w25.heap.size (by rfl) _ (by rfl) _ rfl 27 _ P27 (by rfl) _ sizeNtp (by rfl) (by simp [Value.oneCell']) ?_; intro w28 P28 s28 g28); (have T28 := T27.but g28 (by omega)))
    | ((refine wpl_store (by rfl) 31 _ _ (by rfl) w26.heap.size (by rfl) _ (by rfl) _ rfl 31 _ T28 (by rfl) _ sizeTk (by rfl) (by simp [Value.oneCell']) ?_; intro w29 T29 s29 g29)))
  have g25 : Below w25.heap.size w25 w29 := ((b26.trans (b27.mono b26.size)).trans (But.below (g := w25.heap.size) g28 (by omega) (Nat.le_refl _))).trans (But.below (g := w26.heap.size) g29 (by omega) b26.size)
  have U29 := U25.below g25
  have V29 := V25.below g25
  have J29 := J25.below g25
  have C29 := C25.below g25
  have R29 := R25.below g25 R25.lt
  have B29 := B25.trans (g25.mono B25.size)
  have N29 := N25.below g25
  have Y29 := Y25.below g25
  clear U25 V25 J25 C25 R25 B25 N25 Y25 b26 b27 g28 g29 g25 P26 P27 P28 T27 T28 T29 s26 s27 s28 s29
  have hACX := t_accx (c := cy) o (xc y2 ch) C29 hk2 hk3 R29 (by simp) (by simp [wtN]) hi1 hk52 hi2 hkb (by rw [hRe]; exact hRb) ho.1 ho.2 hrg2 (by rw [hRe, hY2]; exact hne2) (by rw [hRe]; exact Y29.1.bs.wide (Nat.zero_le _) (Nat.le_refl _)) hcy hcym
  with_reducible refine hACX.mono ?_
  rintro e w30 ⟨rfl, b30⟩
  have U30 := U29.below b30
  have V30 := V29.below b30
  have J30 := J29.below b30
  have C30 := C29.below b30
  have R30 := R29.below b30 R29.lt
  have B30 := B29.trans (b30.mono B29.size)
  have N30 := N29.below b30
  clear U29 V29 J29 C29 R29 B29 N29 Y29 b30 hACX
  go_wp2_with (first
    | ((refine wpl_alloc (by rfl) 27 (by rfl) (.agg (zN).toArray) (zN) zeroNtp rfl ?_; intro w31 P31 s31 b31))
    | ((refine wpl_store (by rfl) 27 _ _ (by rfl) w30.heap.size (by rfl) _ (by rfl) _ rfl 27 _ P31 (by rfl) _ sizeNtp (by rfl) (by simp [Value.oneCell']) ?_; intro w32 P32 s32 g32)))
  have g30 : Below w30.heap.size w30 w32 := b31.trans (But.below (g := w30.heap.size) g32 (by omega) (Nat.le_refl _))
  have U32 := U30.below g30
  have V32 := V30.below g30
  have J32 := J30.below g30
  have C32 := C30.below g30
  have R32 := R30.below g30 R30.lt
  have B32 := B30.trans (g30.mono B30.size)
  have N32 := N30.below g30
  clear U30 V30 J30 C30 R30 B30 N30 b31 g32 g30 P31 P32 s31 s32
  have hACC := t_acc (c := car) 0 C32 hk2 hk3 R32 (by simp) (by simp [wtN]) hi1 hk52 hi2 hkb (by simp [wtN]) hfi (by rw [hRe]; exact N32.1.bs.wide (Nat.zero_le _) (Nat.le_refl _)) hcar hcarm
  with_reducible refine hACC.mono ?_
  rintro e w33 ⟨P1, q1, G2, rfl, C33, K33, n33⟩
  have z0 : 0 ∉ G' := C32.low hlo
  have R33 := R32.go K33 z0
  have B33 : Below w.heap.size w w33 := K33.toBelow B32 B32.size (fun g hg => by have := (C32.rng g hg).1; omega)
  clear U32 V32 J32 C32 R32 B32 N32 K33 n33 z0 hACC
  go_wp2_with (first
    | ((refine wpl_alloc (by rfl) 27 (by rfl) (.agg (zN).toArray) (zN) zeroNtp rfl ?_; intro w34 P34 s34 b34))
    | (refine wpl_store (by rfl) 27 _ _ (by rfl) w33.heap.size (by rfl) _ (by rfl) [.int .i64 0, .int .i64 4, .int .i64 3, .int .i64 0, .int .i64 0, .int .i64 0, .int .u32 0, .int .u32 0, .int .u32 0, .int .u64 0, .int .u64 0, .int .u64 0, .int .u64 9] rfl 27 _ P34 (by rfl) _ sizeNtp (by rfl) (by simp [Value.oneCell']) ?_; intro w35 P35 s35 g35; (have g33 : Below w33.heap.size w33 w35 := b34.trans (But.below (g := w33.heap.size) g35 (by omega) (Nat.le_refl _))); (have C35 := C33.below g33); (have R35 := R33.below g33 R33.lt); (have B35 := B33.trans (g33.mono B33.size)))
    | (go_at_call 23; (have hCC := ccount C35); ((with_reducible refine hCC.mono ?_); rintro e _ ⟨rfl, rfl⟩))
    | (go_at_call 10; ((with_reducible refine (awake_any _ R35).mono ?_); rintro e w36 ⟨rfl, b36⟩)))
  go_ret
  exact ⟨rfl, B35.trans (b36.mono B35.size)⟩
theorem changed47 (k0 k1 k2 k3 s at' ch : Int) (w : World) (hk0 : U64 k0) (hk1 : U64 k1) (hk2 : U64 k2) (hk3 : U64 k3) (hs : U64 s) (ha : 0 ≤ at' ∧ at' ≤ 255) (hc : 0 ≤ ch ∧ ch ≤ 255) (hR : Rnd w) :
    Calls Tryd.prog 8 #[keyV k0 k1, keyV k2 k3, .int .u64 s, .int .u8 at', .int .u8 ch] w fun e w' => e = .returned (.bool true) ∧ Below w.heap.size w w' := by
  by_cases hne : ch = 0
  · subst hne; exact changed_zero k0 k1 k2 k3 s at' w hR
  · exact changed_main k0 k1 k2 k3 s at' ch w hk0 hk1 hk2 hk3 hs ha hc hne hR
end Go.Proofs.YtachhbbofemfdaaDoor
