/- The pair: one call of kind 1, 2, 3 or more than 3. The pair: one call of a kind above 3. The pair: a call of kind 0. Keys and tickets that came in, opened; six parameters at once. A list of sealed cookies under way; GuardTrips: the way to its rounds. GuardRuns: the clients are made; a list of cookies under way. -/
import Derived.Test.YtachhbbofemfdaaDoorGXz21
import Derived.Test.YtachhbbofemfdaaDoorGXz20
import Derived.Test.YtachhbbofemfdaaDoorGXz2
import Derived.Test.YtachhbbofemfdaaDoorGXz6
namespace Go.Proofs.YtachhbbofemfdaaDoor
open Go.RowKit
set_option linter.unusedSimpArgs false
set_option linter.unusedVariables false
set_option maxRecDepth 100000
set_option maxRecDepth 100000 in
set_option maxHeartbeats 16000000 in
theorem do_1 {vC vD : Option Addr} {mu : Bool} {w0 w : World} {lo p i : Nat} {s k0 k1 k2 k3 : Int} (l v m st po pr rd rp id ref org rec xmt nonce n : Int) (Aa : Option Addr) (na ca : Nat) (Ba : Option Addr) (nb cb : Nat) (L : Flds) (X : List Int) (h : PX mu w0 w lo p s k0 k1 k2 k3 vC vD i) (hs : U64 s) (hk0 : U64 k0) (hk1 : U64 k1) (hk2 : U64 k2) (hk3 : U64 k3) (h6 : 0 ≤ rd ∧ rd ≤ 4294967295) (h7 : 0 ≤ rp ∧ rp ≤ 4294967295) (h8' : 0 ≤ id ∧ id ≤ 4294967295) (h9 : 0 ≤ ref ∧ ref ≤ 18446744073709551615) (h10 : 0 ≤ org ∧ org ≤ 18446744073709551615) (h11 : 0 ≤ rec ∧ rec ≤ 18446744073709551615) (h12 : 0 ≤ xmt ∧ xmt ≤ 18446744073709551615) (hno : U64 nonce) (hi : i ≤ 1000)
    (hXs : Xs w w.heap.size Aa L) (hL : L.length = na) (hac : na ≤ ca) (hac2 : ca ≤ 9223372036854775807) (han : Aa = none → na = 0) (hdd : ∀ k, k < na → (dtL L k).length ≤ 300) (hBb : Bs w 0 lo Ba X) (hX : X.length = nb) (hbc : nb ≤ cb) (hcb : cb ≤ 9223372036854775807) (hb2 : nb ≤ 2000) : Calls Tryd.prog 28 #[.pointer (some ⟨p, 0, none⟩), .agg (opC (1) n l v m st po pr rd rp id ref org rec xmt nonce Aa na ca Ba nb cb).toArray] w fun e w' => e = .returned (.bool true) ∧ PX mu w0 w' lo p s k0 k1 k2 k3 vC vD (i + 1) := by
  go_enter Tryd.func28, Tryd.ntmps28
  go_wp2_with (first
    | (refine wpl_box (by rfl) 45 _ (by rfl) _ (opC 1 n l v m st po pr rd rp id ref org rec xmt nonce Aa na ca Ba nb cb) (by rfl) rfl ?_; intro w1 O1 s1 b1)
    | (refine wpl_loadf (by rfl) 5 _ (by rfl) w.heap.size 0 (by rfl) _ _ O1 _ rfl _ Tryd.underlying5 rfl ?_)
    | (refine wpl_load (by rfl) 45 _ (by rfl) w.heap.size (by rfl) 45 _ O1 _ Tryd.underlying45 rfl _ sizeOp (by rfl) ?_)
    | (go_at_call 54; (have hC := pair_answer 1 n l v m st po pr rd rp id ref org rec xmt nonce Aa na ca Ba nb cb L (h.below b1) hs hk0 hk1 hk2 hk3 h6 h7 h8' h9 h10 h11 h12 hno hi ((hXs.below b1 (Nat.le_refl _)).wide b1.size) hL hac hac2 han hdd); ((with_reducible refine hC.mono ?_); rintro e w2 ⟨rfl, h2⟩)))
  go_ret
  exact ⟨rfl, h2.mono (Nat.le_succ i)⟩
set_option maxRecDepth 100000 in
set_option maxHeartbeats 16000000 in
theorem do_2 {vC vD : Option Addr} {mu : Bool} {w0 w : World} {lo p i : Nat} {s k0 k1 k2 k3 : Int} (l v m st po pr rd rp id ref org rec xmt nonce n : Int) (Aa : Option Addr) (na ca : Nat) (Ba : Option Addr) (nb cb : Nat) (L : Flds) (X : List Int) (h : PX mu w0 w lo p s k0 k1 k2 k3 vC vD i) (hs : U64 s) (hk0 : U64 k0) (hk1 : U64 k1) (hk2 : U64 k2) (hk3 : U64 k3) (h6 : 0 ≤ rd ∧ rd ≤ 4294967295) (h7 : 0 ≤ rp ∧ rp ≤ 4294967295) (h8' : 0 ≤ id ∧ id ≤ 4294967295) (h9 : 0 ≤ ref ∧ ref ≤ 18446744073709551615) (h10 : 0 ≤ org ∧ org ≤ 18446744073709551615) (h11 : 0 ≤ rec ∧ rec ≤ 18446744073709551615) (h12 : 0 ≤ xmt ∧ xmt ≤ 18446744073709551615) (hno : U64 nonce) (hi : i ≤ 1000)
    (hXs : Xs w w.heap.size Aa L) (hL : L.length = na) (hac : na ≤ ca) (hac2 : ca ≤ 9223372036854775807) (han : Aa = none → na = 0) (hdd : ∀ k, k < na → (dtL L k).length ≤ 300) (hBb : Bs w 0 lo Ba X) (hX : X.length = nb) (hbc : nb ≤ cb) (hcb : cb ≤ 9223372036854775807) (hb2 : nb ≤ 2000) : Calls Tryd.prog 28 #[.pointer (some ⟨p, 0, none⟩), .agg (opC (2) n l v m st po pr rd rp id ref org rec xmt nonce Aa na ca Ba nb cb).toArray] w fun e w' => e = .returned (.bool true) ∧ PX mu w0 w' lo p s k0 k1 k2 k3 vC vD (i + 1) := by
  obtain ⟨c, bj, bk, g, M, gm, Am, nm, cm, Ar, nr, cr, R, N, CK, I, h, hA, hB, h8, hI8, hN⟩ := h
  have hcol : ∀ g o s, Ba = some ⟨g, o, s⟩ → 0 < X.length → g < lo := fun g o s e hl => by
    obtain ⟨b, o', e', _, q, _⟩ := hBb.2 hl
    rw [e] at e'
    cases e'
    exact q
  go_enter Tryd.func28, Tryd.ntmps28
  go_wp2_with (first
    | ((refine wpl_box (by rfl) 45 _ (by rfl) _ (opC 2 n l v m st po pr rd rp id ref org rec xmt nonce Aa na ca Ba nb cb) (by rfl) rfl ?_; intro w1 O1 s1 b1); (have gw : Gw 0 w c w1 (rcl w 3 c) := Gw.of_below b1 (fun _ q => rcl_old q)))
    | (refine wpl_loadf (by rfl) 5 _ (by rfl) w.heap.size 0 (by rfl) _ _ O1 _ rfl _ Tryd.underlying5 rfl ?_)
    | (refine wpl_loadf (by rfl) 23 _ (by rfl) w.heap.size 17 (by rfl) _ _ O1 _ rfl _ Tryd.underlying23 rfl ?_)
    | (go_at_call 55; (have hC := pair_accept (h.gw gw (by omega)) (hA.gw gw (by omega)) (hB.gw gw (by omega)) hk2 hk3 h8 hI8 Ba nb cb X hX ((hBb.below b1 h.los).wide (Nat.le_refl _) (Nat.le_trans h.los b1.size)) (fun g o s e hl => (rcl_old (Nat.lt_of_lt_of_le (hcol g o s e hl) h.los)).trans (h.low g (hcol g o s e hl))) hbc hcb (by omega)); ((with_reducible refine hC.mono ?_); rintro e w2 ⟨rfl, d', CK', I', z1, z2, z3, z4, z5⟩)))
  go_ret
  have hpx : PX mu w0 _ lo p s k0 k1 k2 k3 vC vD i := ⟨d', bj, bk, g, M, gm, Am, nm, cm, Ar, nr, cr, R, N, CK', I', z1, z2, z3, z4, z5, hN⟩
  exact ⟨rfl, hpx.mono (Nat.le_succ i)⟩
theorem ow_kp {w w' : World} {lo q : Nat} {A : Option Addr} {l : List Int} {H : List Nat} (h : Ow w lo A q l) (hk : Kp w H w') (hc : ∀ x, A = some ⟨x, 0, none⟩ → x ∉ H) : Ow w' lo A q l := by
  rcases h.form with ⟨rfl, rfl, rfl⟩ | ⟨x, rfl, h1, h2⟩
  · exact Ow.nil _ _
  · exact (Ck.kp (t := (x, q, l)) (G := []) (G' := []) ⟨h, by simp⟩ hk (hc x rfl) (by simp)).1
theorem PR.rot {w0 w w' : World} {c : Nat → Nat} {lo p bj bk gm nm cm nr cr i : Nat} {s g : Int} {vC vD Am Ar : Option Addr} {M : List CkT} {R : List Int} (h : PR w0 w c lo p bj bk s g vC vD M gm Am nm cm Ar nr cr R i) (hk : Kp w [bj, bk] w') (J : Blk w' bj 84 (jarL s 2 (g + 1))) (K : Blk w' bk 89 (jarL s 2 (g + 1))) :
    PR w0 w' c lo p bj bk s (g + 1) vC vD M gm Am nm cm Ar nr cr R (i + 1) :=
  have ne : ∀ x, c x ≠ 6 → c x ≠ 7 → x ∉ [bj, bk] := fun x h1 h2 hm => by
    have : x = bj ∨ x = bk := by simpa using hm
    rcases this with rfl | rfl
    · exact h1 h.cj
    · exact h2 h.ck
  { blk := hk.blk h.blk (ne p (by rw [h.cp]; omega) (by rw [h.cp]; omega))
    cp := h.cp
    jar := J
    cj := h.cj
    kar := K
    ck := h.ck
    mn := h.mn
    row := h.row.kp hk (by omega) fun _ hg => by
      rcases h.gmc with e | e
      · exact absurd (by simp [e]) hg
      · exact ne gm (by omega) (by omega)
    gml := Nat.lt_of_lt_of_le h.gml hk.size
    gmc := h.gmc
    me := fun t ht => ⟨ow_kp (h.me t ht).1 hk (fun x e => by cases e; exact ne t.1 (by rw [(h.me t ht).2.1]; omega) (by rw [(h.me t ht).2.1]; omega)), (h.me t ht).2⟩
    rn := h.rn
    r := ow_kp h.r hk (fun x e => ne x (by rw [h.rc x e]; omega) (by rw [h.rc x e]; omega))
    rc := h.rc
    rm := h.rm
    rnd := hk.rnd h.rnd (ne 0 (by rw [h.low 0 h.lo0]; omega) (by rw [h.low 0 h.lo0]; omega))
    bl := hk.toBelow h.bl h.los fun x hx => Nat.le_of_not_lt fun hlt => ne x (by rw [h.low x hlt]; omega) (by rw [h.low x hlt]; omega) hx
    lo0 := h.lo0
    los := Nat.le_trans h.los hk.size
    low := h.low
    gg := ⟨by have := h.gg.1; omega, by have := h.gg.2; omega⟩
    mi := Nat.le_succ_of_le h.mi }
set_option maxRecDepth 100000 in
set_option maxHeartbeats 16000000 in
theorem do_3 {vC vD : Option Addr} {mu : Bool} {w0 w : World} {lo p i : Nat} {s k0 k1 k2 k3 : Int} (l v m st po pr rd rp id ref org rec xmt nonce n : Int) (Aa : Option Addr) (na ca : Nat) (Ba : Option Addr) (nb cb : Nat) (L : Flds) (X : List Int) (h : PX mu w0 w lo p s k0 k1 k2 k3 vC vD i) (hs : U64 s) (hk0 : U64 k0) (hk1 : U64 k1) (hk2 : U64 k2) (hk3 : U64 k3) (h6 : 0 ≤ rd ∧ rd ≤ 4294967295) (h7 : 0 ≤ rp ∧ rp ≤ 4294967295) (h8' : 0 ≤ id ∧ id ≤ 4294967295) (h9 : 0 ≤ ref ∧ ref ≤ 18446744073709551615) (h10 : 0 ≤ org ∧ org ≤ 18446744073709551615) (h11 : 0 ≤ rec ∧ rec ≤ 18446744073709551615) (h12 : 0 ≤ xmt ∧ xmt ≤ 18446744073709551615) (hno : U64 nonce) (hi : i ≤ 1000)
    (hXs : Xs w w.heap.size Aa L) (hL : L.length = na) (hac : na ≤ ca) (hac2 : ca ≤ 9223372036854775807) (han : Aa = none → na = 0) (hdd : ∀ k, k < na → (dtL L k).length ≤ 300) (hBb : Bs w 0 lo Ba X) (hX : X.length = nb) (hbc : nb ≤ cb) (hcb : cb ≤ 9223372036854775807) (hb2 : nb ≤ 2000) : Calls Tryd.prog 28 #[.pointer (some ⟨p, 0, none⟩), .agg (opC (3) n l v m st po pr rd rp id ref org rec xmt nonce Aa na ca Ba nb cb).toArray] w fun e w' => e = .returned (.bool true) ∧ PX mu w0 w' lo p s k0 k1 k2 k3 vC vD (i + 1) := by
  obtain ⟨c, bj, bk, g, M, gm, Am, nm, cm, Ar, nr, cr, R, N, CK, I, h, hA, hB, h8, hI8, hN⟩ := h
  have hg1 : 0 ≤ g := by have := h.gg.1; omega
  have hg2 : g < 2147483647 := by have := h.gg.2; omega
  go_enter Tryd.func28, Tryd.ntmps28
  go_wp2_with (first
    | ((refine wpl_box (by rfl) 45 _ (by rfl) _ (opC 3 n l v m st po pr rd rp id ref org rec xmt nonce Aa na ca Ba nb cb) (by rfl) rfl ?_; intro w1 O1 s1 b1); (have gw : Gw 0 w c w1.drew (rcl w 3 c) := Gw.of_below b1.drew (fun _ q => rcl_old q)); (have h1 := h.gw gw (by omega)); (have A1 := hA.gw gw (by omega)); (have B1 := hB.gw gw (by omega)))
    | (refine wpl_loadf (by rfl) 5 _ (by rfl) w.heap.size 0 (by rfl) _ _ O1 _ rfl _ Tryd.underlying5 rfl ?_))
  generalize rcl w 3 c = c at *
  have hp := h1.blk
  have hJ := h1.jar
  have hK := h1.kar
  have e1 : p ≠ bj := fun e => by have q1 := h1.cp; have q2 := h1.cj; rw [e] at q1; omega
  have e2 : p ≠ bk := fun e => by have q1 := h1.cp; have q2 := h1.ck; rw [e] at q1; omega
  have e3 : bj ≠ bk := fun e => by have q1 := h1.cj; have q2 := h1.ck; rw [e] at q1; omega
  refine wp_region_heldL (fun y => y.cell? ⟨p, 2, none⟩ = some (.pointer (some ⟨bj, 0, none⟩)) ∧ y.cell? ⟨p, 3, none⟩ = some (.pointer (some ⟨bk, 0, none⟩))) 12 (by kernel_rfl) rfl ⟨hp.cell rfl, hp.cell rfl⟩ fun hHeld => ?_
  simp only [List.replicate]
  (refine wpH_t 0 _ (by exact gE rfl) (by kernel_rfl) (by intro _ _ _ h; exact h) (Or.inl ⟨by rfl, (by intro _ h; (try dsimp only at h); go_simp; first | done | with_reducible rfl)⟩) (by assumption) ?_; (try simp only [Act.put, zs0, zs1, zs2]))
  (refine wpH_t 1 _ (by exact gE rfl) (by kernel_rfl) (by intro _ _ _ h; exact h) (Or.inl ⟨by rfl, (by intro _ h; (try dsimp only at h); go_simp; first | done | with_reducible rfl)⟩) (by assumption) ?_; (try simp only [Act.put, zs0, zs1, zs2]))
  (refine wpH_t 2 _ (by exact gE rfl) (by kernel_rfl) (by intro _ _ _ h; exact h) (Or.inl ⟨by rfl, (by intro _ h; (try dsimp only at h); go_simp; first | done | with_reducible rfl)⟩) (by assumption) ?_; (try simp only [Act.put, zs0, zs1, zs2]))
  (refine wpH_t 3 _ (by exact gE rfl) (by kernel_rfl) (by intro _ _ _ h; exact h) (Or.inl ⟨by rfl, (by intro _ h; (try dsimp only at h); go_simp; first | done | with_reducible rfl)⟩) (by assumption) ?_; (try simp only [Act.put, zs0, zs1, zs2]))
  (refine wpH_t 5 _ (by exact gE rfl) (by kernel_rfl) (by intro _ _ _ h; exact h) (Or.inl ⟨by rfl, (by intro _ h; (try dsimp only at h); go_simp; first | done | with_reducible rfl)⟩) (by assumption) ?_; (try simp only [Act.put, zs0, zs1, zs2]))
  (refine wpH_t 6 _ (by exact gE rfl) (by kernel_rfl) (by intro _ _ _ h; exact h) (Or.inl ⟨by rfl, (by intro _ h; (try dsimp only at h); go_simp; first | done | with_reducible rfl)⟩) (by assumption) ?_; (try simp only [Act.put, zs0, zs1, zs2]))
  (refine wpH_t 7 _ (by exact gE rfl) (by kernel_rfl) (by intro _ _ _ h; exact h) (Or.inl ⟨by rfl, (by intro _ h; (try dsimp only at h); go_simp; first | done | with_reducible rfl)⟩) (by assumption) ?_; (try simp only [Act.put, zs0, zs1, zs2]))
  (refine wpH_t 8 _ (by exact gE rfl) (by kernel_rfl) (by intro _ _ _ h; exact h) (Or.inl ⟨by rfl, (by intro _ h; (try dsimp only at h); go_simp; first | done | with_reducible rfl)⟩) (by assumption) ?_; (try simp only [Act.put, zs0, zs1, zs2]))
  (refine wpH_one (i := 4) (by exact gE rfl) (by kernel_rfl) (by rfl) ?_; (go_simp; (with_reducible refine (rot_ok bj s 2 g _ hJ hg1 hg2).mono ?_); rintro e w2 ⟨rfl, J2, g2⟩; refine ⟨⟨(hp.but g2 e1).cell rfl, (hp.but g2 e1).cell rfl⟩, ?_⟩); (try simp only [Act.put, zs0, zs1, zs2]))
  have K2 := hK.but g2 e3.symm
  have hp2 := hp.but g2 e1
  have gw2 : Gw 6 w1.drew c w2 c := Gw.of_but g2 (.inr h1.cj)
  (refine wpH_one (i := 9) (by exact gE rfl) (by kernel_rfl) (by rfl) ?_; (go_simp; (with_reducible refine (rrot_ok bk s 2 g _ K2 hg1 hg2).mono ?_); rintro e w3 ⟨rfl, K3, g3⟩; refine ⟨⟨(hp2.but g3 e2).cell rfl, (hp2.but g3 e2).cell rfl⟩, ?_⟩); (try simp only [Act.put, zs0, zs1, zs2]))
  have J3 := J2.but g3 e3
  have gw3 : Gw 7 w2 c w3 c := Gw.of_but g3 (.inr h1.ck)
  have hHx : w3.cell? ⟨p, 2, none⟩ = some (.pointer (some ⟨bj, 0, none⟩)) ∧ w3.cell? ⟨p, 3, none⟩ = some (.pointer (some ⟨bk, 0, none⟩)) := ⟨(hp2.but g3 e2).cell rfl, (hp2.but g3 e2).cell rfl⟩
  have kp : Kp w1.drew [bj, bk] w3 := ((Kp.refl _ _).but g2 (.inr (by simp))).but g3 (.inr (by simp))
  (refine wpH_t 10 _ (by exact gE rfl) (by kernel_rfl) (by intro _ _ _ h; exact h) (Or.inl ⟨by rfl, (by intro _ h; (try dsimp only at h); go_simp; first | done | with_reducible rfl)⟩) (by assumption) ?_; (try simp only [Act.put, zs0, zs1, zs2]))
  (refine wpH_t 11 _ (by exact gE rfl) (by kernel_rfl) (by intro _ _ _ h; exact h) (Or.inl ⟨by rfl, (by intro _ h; (try dsimp only at h); go_simp; first | done | with_reducible rfl)⟩) (by assumption) ?_; (try simp only [Act.put, zs0, zs1, zs2]))
  refine wpH_done (by kernel_rfl) ?_ _
  go_wp2
  go_ret
  exact ⟨rfl, c, bj, bk, g + 1, M, gm, Am, nm, cm, Ar, nr, cr, R, N, CK, I, h1.rot kp J3 K3, (A1.gw gw2 (by omega)).gw gw3 (by omega), (B1.gw gw2 (by omega)).gw gw3 (by omega), h8, hI8, hN.1, by have := hN.2; omega⟩
end Go.Proofs.YtachhbbofemfdaaDoor
namespace Go.Proofs.YtachhbbofemfdaaDoor
open Go.RowKit
set_option linter.unusedSimpArgs false
set_option linter.unusedVariables false
set_option maxRecDepth 100000
theorem butdr {g : Nat} {w w' : World} (h : But g w w') : But g w w'.drew := ⟨h.os, h.tape, h.output, h.size, h.block⟩
theorem xorU {x y : Int} (hx : 0 ≤ x ∧ x ≤ 255) (hy : 0 ≤ y ∧ y ≤ 255) : 0 ≤ bits .xor .u8 x y ∧ bits .xor .u8 x y ≤ 255 := by
  rw [Go.u8_xor x y hx.1 (by omega) hy.1 (by omega)]
  have h : x.toNat ^^^ y.toNat < 2 ^ 8 := Nat.xor_lt_two_pow (by omega) (by omega)
  omega
set_option maxRecDepth 100000 in
set_option maxHeartbeats 16000000 in
theorem do_4 (kd : Int) (hkd : kd ≠ 0 ∧ kd ≠ 1 ∧ kd ≠ 2 ∧ kd ≠ 3) {vC vD : Option Addr} {mu : Bool} {w0 w : World} {lo p i : Nat} {s k0 k1 k2 k3 : Int} (l v m st po pr rd rp id ref org rec xmt nonce n : Int) (Aa : Option Addr) (na ca : Nat) (Ba : Option Addr) (nb cb : Nat) (L : Flds) (X : List Int) (h : PX mu w0 w lo p s k0 k1 k2 k3 vC vD i) (hs : U64 s) (hk0 : U64 k0) (hk1 : U64 k1) (hk2 : U64 k2) (hk3 : U64 k3) (h6 : 0 ≤ rd ∧ rd ≤ 4294967295) (h7 : 0 ≤ rp ∧ rp ≤ 4294967295) (h8' : 0 ≤ id ∧ id ≤ 4294967295) (h9 : 0 ≤ ref ∧ ref ≤ 18446744073709551615) (h10 : 0 ≤ org ∧ org ≤ 18446744073709551615) (h11 : 0 ≤ rec ∧ rec ≤ 18446744073709551615) (h12 : 0 ≤ xmt ∧ xmt ≤ 18446744073709551615) (hno : U64 nonce) (hi : i ≤ 1000)
    (hXs : Xs w w.heap.size Aa L) (hL : L.length = na) (hac : na ≤ ca) (hac2 : ca ≤ 9223372036854775807) (han : Aa = none → na = 0) (hdd : ∀ k, k < na → (dtL L k).length ≤ 300) (hBb : Bs w 0 lo Ba X) (hX : X.length = nb) (hbc : nb ≤ cb) (hcb : cb ≤ 9223372036854775807) (hb2 : nb ≤ 2000) : Calls Tryd.prog 28 #[.pointer (some ⟨p, 0, none⟩), .agg (opC (kd) n l v m st po pr rd rp id ref org rec xmt nonce Aa na ca Ba nb cb).toArray] w fun e w' => e = .returned (.bool true) ∧ PX mu w0 w' lo p s k0 k1 k2 k3 vC vD (i + 1) := by
  obtain ⟨c, bj, bk, g, M, gm, Am, nm, cm, Ar, nr, cr, R, N, CK, I, h, hA, hB, h8, hI8, hN⟩ := h
  have q0 : (kd == 0) = false := by simpa using hkd.1
  have q1 : (kd == 1) = false := by simpa using hkd.2.1
  have q2 : (kd == 2) = false := by simpa using hkd.2.2.1
  have q3 : (kd == 3) = false := by simpa using hkd.2.2.2
  have hp := h.blk
  have hrn : Ar = none → nr = 0 ∧ cr = 0 := fun e => by
    rcases h.r.form with ⟨_, e1, e2⟩ | ⟨x, e1, _⟩
    · exact ⟨by rw [← h.rn, e1]; rfl, e2⟩
    · rw [e] at e1; cases e1
  have hrm := h.rm
  have hCl := fun W (b1 : Below w.heap.size w W) => bclone_any Ar nr cr lo w.heap.size R W h.rn (h.r.bs.below b1 (Nat.le_refl _)) b1.size (by omega) hrn
  have HR := Lib.hid h.rn
  clear hkd
  by_cases h0 : nr = 0
  · have d0 : decide ((0 : Int) < nr) = false := decide_eq_false (by omega)
    have hlen : R.length = 0 := HR.out.trans h0
    have hnr : nr = 0 := h0
    clear h0
    have d0' : decide (0 < nr) = false := decide_eq_false (by omega)
    have HNr := Lib.hid hnr
    clear hnr
    go_enter Tryd.func28, Tryd.ntmps28
    go_wp2_with (first
      | ((refine wpl_box (by rfl) 45 _ (by rfl) _ (opC kd n l v m st po pr rd rp id ref org rec xmt nonce Aa na ca Ba nb cb) (by rfl) rfl ?_; intro w1 O1 s1 b1); (have hp1 := hp.below b1 hp.lt))
      | (refine wpl_loadf (by rfl) 5 _ (by rfl) w.heap.size 0 (by rfl) _ _ O1 _ rfl _ Tryd.underlying5 rfl ?_)
      | (refine wpl_loadf (by rfl) 23 _ (by rfl) p 5 (by rfl) _ _ hp1 _ rfl _ Tryd.underlying23 rfl ?_)
      | (go_at_call 25; ((with_reducible refine (hCl _ b1).mono ?_); rintro e w2 ⟨A2, c2, rfl, O2, _, b2⟩)))
    have b12 : Below w.heap.size w w2 := b1.trans (b2.mono b1.size)
    have zo1 := O1.lt
    have o2 := O1.below b2 O1.lt
    have z2 := b12.size
    have z1 := b1.size
    have hC2 := O2.cap_le
    have hC2m := O2.cap_max
    rw [HR.out] at hC2
    clear hCl hrn O1 s1 hp1 b1 b2 hp
    have gw : Gw 0 w c w2 (rcl w 3 c) := Gw.of_below b12 (fun _ q => rcl_old q)
    go_wp2_with (first
      | (go_at_call 55; (have hC := pair_accept (h.gw gw (by omega)) (hA.gw gw (by omega)) (hB.gw gw (by omega)) hk2 hk3 h8 hI8 A2 nr c2 R HR.out (O2.bs.wide (Nat.zero_le _) (Nat.le_refl _)) (fun g o s e hl => by rw [hlen] at hl; exact absurd hl (by omega)) hC2 hC2m hrm); ((with_reducible refine hC.mono ?_); rintro e w3 ⟨rfl, d', CK', I', z1, z2, z3, z4, z5⟩)))
    go_ret
    have hpx : PX mu w0 _ lo p s k0 k1 k2 k3 vC vD i := ⟨d', bj, bk, g, M, gm, Am, nm, cm, Ar, nr, cr, R, N, CK', I', z1, z2, z3, z4, z5, hN⟩
    exact ⟨rfl, hpx.mono (Nat.le_succ i)⟩
  · have d0 : decide ((0 : Int) < nr) = true := decide_eq_true (by omega)
    have d0' : decide (0 < nr) = true := decide_eq_true (by omega)
    have hlb : w.heap.size = w.heap.size := rfl
    go_enter Tryd.func28, Tryd.ntmps28
    go_wp2_with (first
      | ((refine wpl_box (by rfl) 45 _ (by rfl) _ (opC kd n l v m st po pr rd rp id ref org rec xmt nonce Aa na ca Ba nb cb) (by rfl) rfl ?_; intro w1 O1 s1 b1); (have hp1 := hp.below b1 hp.lt))
      | (refine wpl_loadf (by rfl) 5 _ (by rfl) w.heap.size 0 (by rfl) _ _ O1 _ rfl _ Tryd.underlying5 rfl ?_)
      | (refine wpl_loadf (by rfl) 23 _ (by rfl) p 5 (by rfl) _ _ hp1 _ rfl _ Tryd.underlying23 rfl ?_)
      | (go_at_call 25; ((with_reducible refine (hCl _ b1).mono ?_); rintro e w2 ⟨A2, c2, rfl, O2, _, b2⟩)))
    have b12 : Below w.heap.size w w2 := b1.trans (b2.mono b1.size)
    have zo1 := O1.lt
    have o2 := O1.below b2 O1.lt
    have z2 := b12.size
    have z1 := b1.size
    have hC2 := O2.cap_le
    have hC2m := O2.cap_max
    rw [HR.out] at hC2
    clear hCl hrn O1 s1 hp1 b1 b2 hp
    obtain ⟨k, hk, ek⟩ := wrap_idx n (k := nr) (by omega) (by omega)
    obtain ⟨x, rfl, hx1, hx2⟩ : ∃ x, A2 = some ⟨x, 0, none⟩ ∧ w.heap.size < x ∧ x < w2.heap.size := by
      rcases O2.form with ⟨_, e, _⟩ | ⟨x, e1, e2, e3⟩
      · have := HR.out; rw [e] at this; simp at this; omega
      · exact ⟨x, e1, Nat.lt_of_lt_of_le zo1 e2, e3⟩
    clear h0
    have hk0' : (0 : Int) ≤ k := by omega
    have hk1' : (k : Int) < nr := by omega
    have hwn : IntKind.u64.wrap (nr : Int) = nr := by rw [IntKind.wrap_u64]; omega
    have hwk : IntKind.i64.wrap (k : Int) = k := by rw [IntKind.wrap_i64]; omega
    have hek' : (IntKind.u64.wrap n).tmod nr = k := by rw [IntKind.wrap_u64, Int.tmod_eq_emod_of_nonneg (by omega)]; exact ek
    have hc1 : w2.cell? ⟨w.heap.size, 1, none⟩ = some (.int .i64 n) := o2.cell rfl
    have hc15 : w2.cell? ⟨w.heap.size, 15, none⟩ = some (.int .u64 nonce) := o2.cell rfl
    have p0 := O2.cell (k := k) (by rw [HR.out]; exact hk)
    have p1 := O2.frozen
    have hy := O2.1.at k
    have hS := fun {v : Int} (h0 : 0 ≤ v) (h1 : v ≤ 255) => O2.set k h0 h1
    have hm : 0 ≤ IntKind.u8.wrap nonce ∧ IntKind.u8.wrap nonce ≤ 255 := by rw [IntKind.wrap_u8]; omega
    generalize hY : atB R k = y at p0 hy
    generalize IntKind.u8.wrap nonce = mm at *
    clear ek
    go_region
    have hrg := xorU hy (show 0 ≤ nonce % 256 ∧ nonce % 256 ≤ 255 by omega)
    obtain ⟨w3, hw3⟩ : ∃ w3, w3 = (w2.setCell ⟨x, k, none⟩ (.int .u8 (bits .xor .u8 y (nonce % 256)))).drew := ⟨_, rfl⟩
    have O3 : Ow w3 w1.heap.size (some ⟨x, 0, none⟩) c2 (R.set k (bits .xor .u8 y (nonce % 256))) := by
      rw [hw3]
      exact (hS hrg.1 hrg.2).drew
    have G3 : But x w2 w3 := by rw [hw3]; exact butdr (but_setCell _ _ _ _)
    rw [← hw3]
    have hln : (R.set k (bits .xor .u8 y (nonce % 256))).length = nr := by rw [List.length_set, HR.out]
    generalize R.set k (bits .xor .u8 y (nonce % 256)) = R' at *
    have b13 : Below w.heap.size w w3 := b12.trans (G3.below z2 (Nat.le_of_lt hx1))
    have gw : Gw 0 w c w3 (rcl w 3 c) := Gw.of_below b13 (fun _ q => rcl_old q)
    clear hw3 hS p0 p1 hy hY hc1 hc15 o2 O2 hwn hwk hek' G3
    go_wp2_with (first
      | (go_at_call 55; (have hC := pair_accept (h.gw gw (by omega)) (hA.gw gw (by omega)) (hB.gw gw (by omega)) hk2 hk3 h8 hI8 (some ⟨x, 0, none⟩) nr c2 R' hln (O3.bs.wide (Nat.zero_le _) (Nat.le_refl _)) (fun g o s e hl => by cases e; exact rcl_new (Nat.le_of_lt hx1)) hC2 hC2m hrm); ((with_reducible refine hC.mono ?_); rintro e w4 ⟨rfl, d', CK', I', z1, z2, z3, z4, z5⟩)))
    go_ret
    have hpx : PX mu w0 _ lo p s k0 k1 k2 k3 vC vD i := ⟨d', bj, bk, g, M, gm, Am, nm, cm, Ar, nr, cr, R, N, CK', I', z1, z2, z3, z4, z5, hN⟩
    exact ⟨rfl, hpx.mono (Nat.le_succ i)⟩
end Go.Proofs.YtachhbbofemfdaaDoor
namespace Go.Proofs.YtachhbbofemfdaaDoor
open Go.RowKit
set_option linter.unusedSimpArgs false
set_option linter.unusedVariables false
set_option maxRecDepth 100000
theorem wtN_le {I : List (List Int)} (x : List Int) (h : I.length ≤ 8) : (wtN I x).length ≤ 8 := by
  unfold wtN
  split
  · rw [List.length_append, List.length_drop]; simp only [List.length_cons, List.length_nil]; omega
  · rw [List.length_append]; simp only [List.length_cons, List.length_nil]; omega
/-- a message more -/
theorem PR.pushM {w0 w w' x : World} {c : Nat → Nat} {lo p bj bk gm nm cm nr cr i : Nat} {s g : Int} {vC vD Am Ar : Option Addr} {M : List CkT} {R : List Int} {u : CkT} {g' c' : Nat} {A' : Option Addr} (h : PR w0 w c lo p bj bk s g vC vD M gm Am nm cm Ar nr cr R i)
    (hu : Ow w lo (some ⟨u.1, 0, none⟩) u.2.1 u.2.2) (cu : c u.1 = 3) (lu : u.2.2.length ≤ 1000000) (hr : Rw w' 1 g' [p] A' (nm + 1) c' (M.map ckV ++ [ckV u])) (hk : Kp w (fp cm gm) w') (hg : g' = gm ∨ w.heap.size ≤ g') (hl : g' < w'.heap.size) (gb : But p w' x) (hB : Blk x p 71 (pairL vC vD bj bk A' (nm + 1) c' Ar nr cr)) :
    PR w0 x (rcl w 5 c) lo p bj bk s g vC vD (M ++ [u]) g' A' (nm + 1) c' Ar nr cr R (i + 1) ∧ Gw 5 w c w' (rcl w 5 c) ∧ Gw 4 w' (rcl w 5 c) x (rcl w 5 c) := by
  have hp5 : ∀ k ∈ fp cm gm, c k = 5 := fun k hm => by
    obtain ⟨hc, rfl⟩ := fp_mem hm
    rcases h.gmc with e | e
    · exact absurd (by simp [e]) (h.row.lt hc (by omega)).2
    · exact e
  have g5 : Gw 5 w c w' (rcl w 5 c) := Gw.of_kp hk (fun k hm => .inr (hp5 k hm)) (fun _ q => rcl_old q)
  have cp : rcl w 5 c p = 4 := (rcl_old h.blk.lt).trans h.cp
  have g4 : Gw 4 w' (rcl w 5 c) x (rcl w 5 c) := Gw.of_but gb (.inr cp)
  have hgp : g' ∉ [p] := (hr.lt (by have := hr.2.1; omega) (by omega)).2
  have key : ∀ {A : Option Addr} {q : Nat} {l : List Int}, Ow w lo A q l → (∀ y, A = some ⟨y, 0, none⟩ → c y = 3) → Ow x lo A q l := fun {A q l} hO hc =>
    ow_gw (ow_gw hO g5 (fun y e => by rw [hc y e]; omega)) g4 (fun y e => by rw [rcl_old (hO.blt y e).2, hc y e]; omega)
  refine ⟨{ blk := hB, cp := cp, jar := g4.blk (g5.blk h.jar (by rw [h.cj]; omega)) (by rw [rcl_old h.jar.lt, h.cj]; omega), cj := (rcl_old h.jar.lt).trans h.cj, kar := g4.blk (g5.blk h.kar (by rw [h.ck]; omega)) (by rw [rcl_old h.kar.lt, h.ck]; omega), ck := (rcl_old h.kar.lt).trans h.ck, mn := by rw [List.length_append, h.mn]; rfl, row := ?_, gml := Nat.lt_of_lt_of_le hl g4.size, gmc := ?_, me := fun t ht => ?_, rn := h.rn, r := key h.r h.rc, rc := fun y e => (rcl_old (h.r.blt y e).2).trans (h.rc y e), rm := h.rm, rnd := ?_, bl := ?_, lo0 := h.lo0, los := Nat.le_trans h.los (Nat.le_trans g5.size g4.size), low := fun y hy => (rcl_old (Nat.lt_of_lt_of_le hy h.los)).trans (h.low y hy), gg := ⟨h.gg.1, by have := h.gg.2; omega⟩, mi := by have := h.mi; omega }, g5, g4⟩
  · rw [List.map_append]
    exact hr.kp (Kp.of_but (G := [p]) gb (.inr (by simp))) (by omega) fun _ hq => hq
  · rcases hg with e | e
    · rw [e] at hgp ⊢
      exact h.gmc.imp id fun q => (rcl_old h.gml).trans q
    · exact .inr (rcl_new e)
  · rw [List.mem_append] at ht
    rcases ht with ht | ht
    · exact ⟨key (h.me t ht).1 (fun y e => by cases e; exact (h.me t ht).2.1), (rcl_old ((h.me t ht).1.blt t.1 rfl).2).trans (h.me t ht).2.1, (h.me t ht).2.2⟩
    · rw [List.mem_singleton.1 ht]
      exact ⟨key hu (fun y e => by cases e; exact cu), (rcl_old (hu.blt u.1 rfl).2).trans cu, lu⟩
  · have c0 : c 0 = 3 := h.low 0 h.lo0
    have hR := g5.kp.rnd h.rnd (oth_not (by rw [c0]; omega))
    exact g4.kp.rnd hR (oth_not (by rw [rcl_old h.rnd.lt, c0]; omega))
  · have hb5 := gw_bl g5 h.bl h.los h.low (by omega)
    exact gw_bl g4 hb5 (Nat.le_trans h.los g5.size) (fun y hy => (rcl_old (Nat.lt_of_lt_of_le hy h.los)).trans (h.low y hy)) (by omega)
theorem preq_no {mu : Bool} {k0 k1 k2 k3 N : Int} {CK I : List (List Int)} (l v m st po pr rd rp id ref org rec xmt nonce : Int) (hno : mu = false ∨ nchk l v m st po pr ≠ 0 ∨ CK = []) :
    ∃ E : Int, E ≠ 0 ∧ (∀ (W : World) (c : Nat → Nat) (lo : Nat) (vC : Option Addr), PA mu W c lo vC k0 k1 k2 k3 CK N I → Calls Tryd.prog 21 #[.pointer vC, ntp l v m st po pr rd rp id ref org rec xmt, .int .u64 nonce] W fun e w' => e = .returned (.tuple #[.slice none 0 0, .int .i64 E]) ∧ Below W.heap.size W w') ∧
      (∀ (W : World) (c : Nat → Nat) (lo : Nat) (vD : Option Addr), PB mu W c lo vD k0 k1 k2 k3 CK N I → Calls Tryd.prog 53 #[.pointer vD, ntp l v m st po pr rd rp id ref org rec xmt, .int .u64 nonce] W fun e w' => e = .returned (.tuple #[.slice none 0 0, .int .i64 E]) ∧ Below W.heap.size W w') := by
  cases mu with
  | false => exact ⟨1, by omega, fun W c lo vC h => by rw [h.1]; exact req_nil l v m st po pr rd rp id ref org rec xmt nonce W, fun W c lo vD h => by rw [h.1]; exact rcreq_nil l v m st po pr rd rp id ref org rec xmt nonce W⟩
  | true =>
    by_cases hE : nchk l v m st po pr = 0
    · have hCK : CK = [] := by
        rcases hno with e | e | e
        · cases e
        · exact absurd hE e
        · exact e
      subst hCK
      exact ⟨14, by omega, fun W c lo vC h => by obtain ⟨b, rfl, h⟩ := h; exact qreq_empty l v m st po pr rd rp id ref org rec xmt nonce h hE, fun W c lo vD h => by obtain ⟨b, rfl, h⟩ := h; exact qrreq_empty l v m st po pr rd rp id ref org rec xmt nonce h hE⟩
    · exact ⟨2, by omega, fun W c lo vC h => by obtain ⟨b, rfl, h⟩ := h; exact req_arg l v m st po pr rd rp id ref org rec xmt nonce b W hE, fun W c lo vD h => by obtain ⟨b, rfl, h⟩ := h; exact rcreq_arg l v m st po pr rd rp id ref org rec xmt nonce b W hE⟩
set_option maxRecDepth 100000 in
set_option maxHeartbeats 16000000 in
theorem do_0n {vC vD : Option Addr} {mu : Bool} {w0 w : World} {lo p i : Nat} {s k0 k1 k2 k3 : Int} (l v m st po pr rd rp id ref org rec xmt nonce n : Int) (Aa : Option Addr) (na ca : Nat) (Ba : Option Addr) (nb cb : Nat) (L : Flds) (X : List Int) (h : PX mu w0 w lo p s k0 k1 k2 k3 vC vD i) (hs : U64 s) (hk0 : U64 k0) (hk1 : U64 k1) (hk2 : U64 k2) (hk3 : U64 k3) (h6 : 0 ≤ rd ∧ rd ≤ 4294967295) (h7 : 0 ≤ rp ∧ rp ≤ 4294967295) (h8' : 0 ≤ id ∧ id ≤ 4294967295) (h9 : 0 ≤ ref ∧ ref ≤ 18446744073709551615) (h10 : 0 ≤ org ∧ org ≤ 18446744073709551615) (h11 : 0 ≤ rec ∧ rec ≤ 18446744073709551615) (h12 : 0 ≤ xmt ∧ xmt ≤ 18446744073709551615) (hno : U64 nonce) (hi : i ≤ 1000)
    (hXs : Xs w w.heap.size Aa L) (hL : L.length = na) (hac : na ≤ ca) (hac2 : ca ≤ 9223372036854775807) (han : Aa = none → na = 0) (hdd : ∀ k, k < na → (dtL L k).length ≤ 300) (hBb : Bs w 0 lo Ba X) (hX : X.length = nb) (hbc : nb ≤ cb) (hcb : cb ≤ 9223372036854775807) (hb2 : nb ≤ 2000) {c : Nat → Nat} {bj bk : Nat} {g : Int} {M : List CkT} {gm : Nat} {Am : Option Addr} {nm cm : Nat} {Ar : Option Addr} {nr cr : Nat} {R : List Int} {N : Int} {CK I : List (List Int)}
    (hPR : PR w0 w c lo p bj bk s g vC vD M gm Am nm cm Ar nr cr R i) (hA : PA mu w c lo vC k0 k1 k2 k3 CK N I) (hB : PB mu w c lo vD k0 k1 k2 k3 CK N I) (hNo : mu = false ∨ nchk l v m st po pr ≠ 0 ∨ CK = []) : Calls Tryd.prog 28 #[.pointer (some ⟨p, 0, none⟩), .agg (opC (0) n l v m st po pr rd rp id ref org rec xmt nonce Aa na ca Ba nb cb).toArray] w fun e w' => e = .returned (.bool true) ∧ PX mu w0 w' lo p s k0 k1 k2 k3 vC vD (i + 1) := by
  have hPX := h
  obtain ⟨E, hE, hQ, hQ'⟩ := preq_no (k0 := k0) (k1 := k1) (k2 := k2) (k3 := k3) (N := N) (I := I) l v m st po pr rd rp id ref org rec xmt nonce hNo
  have dE : (E == 0) = false := by simpa using hE
  have hp := hPR.blk
  clear hE hNo
  go_enter Tryd.func28, Tryd.ntmps28
  go_wp2_with (first
    | ((refine wpl_box (by rfl) 45 _ (by rfl) _ (opC 0 n l v m st po pr rd rp id ref org rec xmt nonce Aa na ca Ba nb cb) (by rfl) rfl ?_; intro w1 O1 s1 b1); (have hp1 := hp.below b1 hp.lt))
    | (refine wpl_loadf (by rfl) 5 _ (by rfl) w.heap.size 0 (by rfl) _ _ O1 _ rfl _ Tryd.underlying5 rfl ?_))
  have gw : Gw 0 w c w1.drew (rcl w 3 c) := Gw.of_below b1.drew (fun _ q => rcl_old q)
  have hQ1 := hQ w1.drew _ lo vC (hA.gw gw (by omega))
  refine wp_region_heldL (fun y => y.cell? ⟨p, 0, none⟩ = some (.pointer vC) ∧ Blk y w.heap.size 45 (opC 0 n l v m st po pr rd rp id ref org rec xmt nonce Aa na ca Ba nb cb) ∧ y.cell? ⟨w.heap.size, 15, none⟩ = some (.int .u64 nonce)) 14 (by kernel_rfl) rfl ⟨(hp1).drew.cell rfl, (O1).drew, (O1).drew.cell rfl⟩ fun hHeld => ?_
  simp only [List.replicate]
  (refine wpH_t 0 _ (by exact gE rfl) (by kernel_rfl) (by intro _ _ _ h; exact h) (Or.inl ⟨by rfl, (by intro _ h; (try dsimp only at h); go_simp; first | done | with_reducible rfl)⟩) (by assumption) ?_; (try simp only [Act.put, zs0, zs1, zs2]))
  (refine wpH_t 1 _ (by exact gE rfl) (by kernel_rfl) (by intro _ _ _ h; exact h) (Or.inl ⟨by rfl, (by intro _ h; (try dsimp only at h); go_simp; first | done | with_reducible rfl)⟩) (by assumption) ?_; (try simp only [Act.put, zs0, zs1, zs2]))
  (refine wpH_t 2 _ (by exact gE rfl) (by kernel_rfl) (by intro _ _ _ h; exact h) (Or.inl ⟨by rfl, (by intro _ h; (try dsimp only at h); go_simp; first | done | with_reducible rfl)⟩) (by assumption) ?_; (try simp only [Act.put, zs0, zs1, zs2]))
  (refine wpH_t 3 _ (by exact gE rfl) (by kernel_rfl) (by intro _ _ _ h; exact h) (Or.inl ⟨by rfl, (by intro _ h; (try dsimp only at h); go_simp; first | done | with_reducible rfl)⟩) (by assumption) ?_; (try simp only [Act.put, zs0, zs1, zs2]))
  (refine wpH_t 4 _ (by exact gE rfl) (by kernel_rfl) (by intro _ _ _ h; exact h) (Or.inl ⟨by rfl, (by intro _ h; (try dsimp only at h); go_simp; first | done | with_reducible rfl)⟩) (by assumption) ?_; (try simp only [Act.put, zs0, zs1, zs2]))
  refine wpH_take (i := 5) (v := .agg ([.int .i64 l, .int .i64 v, .int .i64 m, .int .i64 st, .int .i64 po, .int .i64 pr, .int .u32 rd, .int .u32 rp, .int .u32 id, .int .u64 ref, .int .u64 org, .int .u64 rec, .int .u64 xmt]).toArray) (by exact gE rfl) (by kernel_rfl) (by kernel_rfl) (by kernel_rfl) (by intro _ _ _ h; exact h) (yieldsIf_load_mid (by rfl) 27 _ (by rfl) w.heap.size 2 (by rfl) ([.int .i64 l, .int .i64 v, .int .i64 m, .int .i64 st, .int .i64 po, .int .i64 pr, .int .u32 rd, .int .u32 rp, .int .u32 id, .int .u64 ref, .int .u64 org, .int .u64 rec, .int .u64 xmt]) _ (fun w' h => Blk.mid h.2.1 2 [.int .i64 l, .int .i64 v, .int .i64 m, .int .i64 st, .int .i64 po, .int .i64 pr, .int .u32 rd, .int .u32 rp, .int .u32 id, .int .u64 ref, .int .u64 org, .int .u64 rec, .int .u64 xmt] rfl) Tryd.underlying27 rfl sizeNtp) (by assumption) ?_
  (try simp only [Act.put, zs0, zs1, zs2])
  (refine wpH_t 6 _ (by exact gE rfl) (by kernel_rfl) (by intro _ _ _ h; exact h) (Or.inl ⟨by rfl, (by intro _ h; (try dsimp only at h); go_simp; first | done | with_reducible rfl)⟩) (by assumption) ?_; (try simp only [Act.put, zs0, zs1, zs2]))
  (refine wpH_t 7 _ (by exact gE rfl) (by kernel_rfl) (by intro _ _ _ h; exact h) (Or.inl ⟨by rfl, (by intro _ h; (try dsimp only at h); go_simp; first | done | with_reducible rfl)⟩) (by assumption) ?_; (try simp only [Act.put, zs0, zs1, zs2]))
  (refine wpH_one (i := 8) (by exact gE rfl) (by kernel_rfl) (by rfl) ?_; (go_simp; (with_reducible refine hQ1.mono ?_); rintro e w2 ⟨rfl, b2⟩; refine ⟨⟨(hp1.drew.below b2 hp1.lt).cell rfl, O1.drew.below b2 O1.lt, (O1.drew.below b2 O1.lt).cell rfl⟩, ?_⟩); (try simp only [Act.put, zs0, zs1, zs2]))
  have hHx : w2.cell? ⟨p, 0, none⟩ = some (.pointer vC) ∧ Blk w2 w.heap.size 45 (opC 0 n l v m st po pr rd rp id ref org rec xmt nonce Aa na ca Ba nb cb) ∧ w2.cell? ⟨w.heap.size, 15, none⟩ = some (.int .u64 nonce) := ⟨(hp1.drew.below b2 hp1.lt).cell rfl, O1.drew.below b2 O1.lt, (O1.drew.below b2 O1.lt).cell rfl⟩
  (refine wpH_t 9 _ (by exact gE rfl) (by kernel_rfl) (by intro _ _ _ h; exact h) (Or.inl ⟨by rfl, (by intro _ h; (try dsimp only at h); go_simp; first | done | with_reducible rfl)⟩) (by assumption) ?_; (try simp only [Act.put, zs0, zs1, zs2]))
  (refine wpH_t 10 _ (by exact gE rfl) (by kernel_rfl) (by intro _ _ _ h; exact h) (Or.inl ⟨by rfl, (by intro _ h; (try dsimp only at h); go_simp; first | done | with_reducible rfl)⟩) (by assumption) ?_; (try simp only [Act.put, zs0, zs1, zs2]))
  (refine wpH_t 11 _ (by exact gE rfl) (by kernel_rfl) (by intro _ _ _ h; exact h) (Or.inl ⟨by rfl, (by intro _ h; (try dsimp only at h); go_simp; first | done | with_reducible rfl)⟩) (by assumption) ?_; (try simp only [Act.put, zs0, zs1, zs2]))
  (refine wpH_t 12 _ (by exact gE rfl) (by kernel_rfl) (by intro _ _ _ h; exact h) (Or.inl ⟨by rfl, (by intro _ h; (try dsimp only at h); go_simp; first | done | with_reducible rfl)⟩) (by assumption) ?_; (try simp only [Act.put, zs0, zs1, zs2]))
  (refine wpH_t 13 _ (by exact gE rfl) (by kernel_rfl) (by intro _ _ _ h; exact h) (Or.inl ⟨by rfl, (by intro _ h; (try dsimp only at h); go_simp; first | done | with_reducible rfl)⟩) (by assumption) ?_; (try simp only [Act.put, zs0, zs1, zs2]))
  refine wpH_done (by kernel_rfl) ?_ _
  have hp2 := hp1.drew.below b2 hp1.lt
  have O2 := O1.drew.below b2 O1.lt
  have B2 : Below w.heap.size w w2 := b1.drew.trans (b2.mono b1.size)
  have gw' : Gw 0 w c w2.drew (rcl w 3 c) := Gw.of_below B2.drew (fun _ q => rcl_old q)
  have hQ2 := hQ' w2.drew _ lo vD (hB.gw gw' (by omega))
  clear hHeld hHx hQ1 hp1 O1 b1 b2 gw s1
  go_wp2_with fail
  refine wp_region_heldL (fun y => y.cell? ⟨p, 1, none⟩ = some (.pointer vD) ∧ Blk y w.heap.size 45 (opC 0 n l v m st po pr rd rp id ref org rec xmt nonce Aa na ca Ba nb cb) ∧ y.cell? ⟨w.heap.size, 15, none⟩ = some (.int .u64 nonce)) 14 (by kernel_rfl) rfl ⟨(hp2).drew.cell rfl, (O2).drew, (O2).drew.cell rfl⟩ fun hHeld => ?_
  simp only [List.replicate]
  (refine wpH_t 0 _ (by exact gE rfl) (by kernel_rfl) (by intro _ _ _ h; exact h) (Or.inl ⟨by rfl, (by intro _ h; (try dsimp only at h); go_simp; first | done | with_reducible rfl)⟩) (by assumption) ?_; (try simp only [Act.put, zs0, zs1, zs2]))
  (refine wpH_t 1 _ (by exact gE rfl) (by kernel_rfl) (by intro _ _ _ h; exact h) (Or.inl ⟨by rfl, (by intro _ h; (try dsimp only at h); go_simp; first | done | with_reducible rfl)⟩) (by assumption) ?_; (try simp only [Act.put, zs0, zs1, zs2]))
  (refine wpH_t 2 _ (by exact gE rfl) (by kernel_rfl) (by intro _ _ _ h; exact h) (Or.inl ⟨by rfl, (by intro _ h; (try dsimp only at h); go_simp; first | done | with_reducible rfl)⟩) (by assumption) ?_; (try simp only [Act.put, zs0, zs1, zs2]))
  (refine wpH_t 3 _ (by exact gE rfl) (by kernel_rfl) (by intro _ _ _ h; exact h) (Or.inl ⟨by rfl, (by intro _ h; (try dsimp only at h); go_simp; first | done | with_reducible rfl)⟩) (by assumption) ?_; (try simp only [Act.put, zs0, zs1, zs2]))
  (refine wpH_t 4 _ (by exact gE rfl) (by kernel_rfl) (by intro _ _ _ h; exact h) (Or.inl ⟨by rfl, (by intro _ h; (try dsimp only at h); go_simp; first | done | with_reducible rfl)⟩) (by assumption) ?_; (try simp only [Act.put, zs0, zs1, zs2]))
  refine wpH_take (i := 5) (v := .agg ([.int .i64 l, .int .i64 v, .int .i64 m, .int .i64 st, .int .i64 po, .int .i64 pr, .int .u32 rd, .int .u32 rp, .int .u32 id, .int .u64 ref, .int .u64 org, .int .u64 rec, .int .u64 xmt]).toArray) (by exact gE rfl) (by kernel_rfl) (by kernel_rfl) (by kernel_rfl) (by intro _ _ _ h; exact h) (yieldsIf_load_mid (by rfl) 27 _ (by rfl) w.heap.size 2 (by rfl) ([.int .i64 l, .int .i64 v, .int .i64 m, .int .i64 st, .int .i64 po, .int .i64 pr, .int .u32 rd, .int .u32 rp, .int .u32 id, .int .u64 ref, .int .u64 org, .int .u64 rec, .int .u64 xmt]) _ (fun w' h => Blk.mid h.2.1 2 [.int .i64 l, .int .i64 v, .int .i64 m, .int .i64 st, .int .i64 po, .int .i64 pr, .int .u32 rd, .int .u32 rp, .int .u32 id, .int .u64 ref, .int .u64 org, .int .u64 rec, .int .u64 xmt] rfl) Tryd.underlying27 rfl sizeNtp) (by assumption) ?_
  (try simp only [Act.put, zs0, zs1, zs2])
  (refine wpH_t 6 _ (by exact gE rfl) (by kernel_rfl) (by intro _ _ _ h; exact h) (Or.inl ⟨by rfl, (by intro _ h; (try dsimp only at h); go_simp; first | done | with_reducible rfl)⟩) (by assumption) ?_; (try simp only [Act.put, zs0, zs1, zs2]))
  (refine wpH_t 7 _ (by exact gE rfl) (by kernel_rfl) (by intro _ _ _ h; exact h) (Or.inl ⟨by rfl, (by intro _ h; (try dsimp only at h); go_simp; first | done | with_reducible rfl)⟩) (by assumption) ?_; (try simp only [Act.put, zs0, zs1, zs2]))
  (refine wpH_one (i := 8) (by exact gE rfl) (by kernel_rfl) (by rfl) ?_; (go_simp; (with_reducible refine hQ2.mono ?_); rintro e w3 ⟨rfl, b3⟩; refine ⟨⟨(hp2.drew.below b3 hp2.lt).cell rfl, O2.drew.below b3 O2.lt, (O2.drew.below b3 O2.lt).cell rfl⟩, ?_⟩); (try simp only [Act.put, zs0, zs1, zs2]))
  have hHx : w3.cell? ⟨p, 1, none⟩ = some (.pointer vD) ∧ Blk w3 w.heap.size 45 (opC 0 n l v m st po pr rd rp id ref org rec xmt nonce Aa na ca Ba nb cb) ∧ w3.cell? ⟨w.heap.size, 15, none⟩ = some (.int .u64 nonce) := ⟨(hp2.drew.below b3 hp2.lt).cell rfl, O2.drew.below b3 O2.lt, (O2.drew.below b3 O2.lt).cell rfl⟩
  (refine wpH_t 9 _ (by exact gE rfl) (by kernel_rfl) (by intro _ _ _ h; exact h) (Or.inl ⟨by rfl, (by intro _ h; (try dsimp only at h); go_simp; first | done | with_reducible rfl)⟩) (by assumption) ?_; (try simp only [Act.put, zs0, zs1, zs2]))
  (refine wpH_t 10 _ (by exact gE rfl) (by kernel_rfl) (by intro _ _ _ h; exact h) (Or.inl ⟨by rfl, (by intro _ h; (try dsimp only at h); go_simp; first | done | with_reducible rfl)⟩) (by assumption) ?_; (try simp only [Act.put, zs0, zs1, zs2]))
  (refine wpH_t 11 _ (by exact gE rfl) (by kernel_rfl) (by intro _ _ _ h; exact h) (Or.inl ⟨by rfl, (by intro _ h; (try dsimp only at h); go_simp; first | done | with_reducible rfl)⟩) (by assumption) ?_; (try simp only [Act.put, zs0, zs1, zs2]))
  (refine wpH_t 12 _ (by exact gE rfl) (by kernel_rfl) (by intro _ _ _ h; exact h) (Or.inl ⟨by rfl, (by intro _ h; (try dsimp only at h); go_simp; first | done | with_reducible rfl)⟩) (by assumption) ?_; (try simp only [Act.put, zs0, zs1, zs2]))
  (refine wpH_t 13 _ (by exact gE rfl) (by kernel_rfl) (by intro _ _ _ h; exact h) (Or.inl ⟨by rfl, (by intro _ h; (try dsimp only at h); go_simp; first | done | with_reducible rfl)⟩) (by assumption) ?_; (try simp only [Act.put, zs0, zs1, zs2]))
  refine wpH_done (by kernel_rfl) ?_ _
  have B3 : Below w.heap.size w w3 := B2.drew.trans (b3.mono B2.size)
  have hBE := bequal_any none none 0 0 0 0 0 0 0 0 [] [] w3 rfl rfl Bs.nil Bs.nil
  rw [eqB_self] at hBE
  go_wp2_with (first
    | (go_at_call 15; ((with_reducible refine hBE.mono ?_); rintro e _ ⟨rfl, rfl⟩)))
  go_ret
  exact ⟨rfl, (hPX.below B3).mono (Nat.le_succ i)⟩
set_option maxRecDepth 100000 in
set_option maxHeartbeats 16000000 in
theorem do_0y {b1 b2 : Nat} {ck : List Int} {vC vD : Option Addr} {mu : Bool} {w0 w : World} {lo p i : Nat} {s k0 k1 k2 k3 : Int} (l v m st po pr rd rp id ref org rec xmt nonce n : Int) (Aa : Option Addr) (na ca : Nat) (Ba : Option Addr) (nb cb : Nat) (L : Flds) (X : List Int) (h : PX mu w0 w lo p s k0 k1 k2 k3 vC vD i) (hs : U64 s) (hk0 : U64 k0) (hk1 : U64 k1) (hk2 : U64 k2) (hk3 : U64 k3) (h6 : 0 ≤ rd ∧ rd ≤ 4294967295) (h7 : 0 ≤ rp ∧ rp ≤ 4294967295) (h8' : 0 ≤ id ∧ id ≤ 4294967295) (h9 : 0 ≤ ref ∧ ref ≤ 18446744073709551615) (h10 : 0 ≤ org ∧ org ≤ 18446744073709551615) (h11 : 0 ≤ rec ∧ rec ≤ 18446744073709551615) (h12 : 0 ≤ xmt ∧ xmt ≤ 18446744073709551615) (hno : U64 nonce) (hi : i ≤ 1000)
    (hXs : Xs w w.heap.size Aa L) (hL : L.length = na) (hac : na ≤ ca) (hac2 : ca ≤ 9223372036854775807) (han : Aa = none → na = 0) (hdd : ∀ k, k < na → (dtL L k).length ≤ 300) (hBb : Bs w 0 lo Ba X) (hX : X.length = nb) (hbc : nb ≤ cb) (hcb : cb ≤ 9223372036854775807) (hb2 : nb ≤ 2000) {c : Nat → Nat} {bj bk : Nat} {g : Int} {M : List CkT} {gm : Nat} {Am : Option Addr} {nm cm : Nat} {Ar : Option Addr} {nr cr : Nat} {R : List Int} {N : Int} {CK I : List (List Int)} (hmu : mu = true) (evC : vC = some ⟨b1, 0, none⟩) (evD : vD = some ⟨b2, 0, none⟩)
    (hPR : PR w0 w c lo p bj bk s g vC vD M gm Am nm cm Ar nr cr R i) (hA : CCl w c lo b1 k0 k1 k2 k3 (ck :: CK) N I) (hB : CRl w c lo b2 k0 k1 k2 k3 (ck :: CK) N I) (hE : nchk l v m st po pr = 0) (h8 : CK.length + 1 ≤ 8) (hI8 : I.length ≤ 8) (hN : 0 ≤ N ∧ N ≤ i) : Calls Tryd.prog 28 #[.pointer (some ⟨p, 0, none⟩), .agg (opC (0) n l v m st po pr rd rp id ref org rec xmt nonce Aa na ca Ba nb cb).toArray] w fun e w' => e = .returned (.bool true) ∧ PX mu w0 w' lo p s k0 k1 k2 k3 vC vD (i + 1) := by
  subst evC evD
  have h52 := (hA.lens.1 ck (List.mem_cons_self ..)).1
  have hQ := fun (W : World) (c : Nat → Nat) (hA : CCl W c lo b1 k0 k1 k2 k3 (ck :: CK) N I) (hR : Rnd W) => qreq l v m st po pr rd rp id ref org rec xmt nonce hA hE h6 h7 h8' h9 h10 h11 h12 hk0 hk1 ⟨hN.1, by have := hN.2; omega⟩ hno hR hPR.lo0 h8 hI8
  have hQ' := fun (W : World) (c : Nat → Nat) (hB : CRl W c lo b2 k0 k1 k2 k3 (ck :: CK) N I) => qrreq l v m st po pr rd rp id ref org rec xmt nonce hB hE h6 h7 h8' h9 h10 h11 h12 hk0 hk1 ⟨hN.1, by have := hN.2; omega⟩ hno h8 hI8
  have hM6 : (msgB l v m st po pr rd rp id ref org rec xmt (rqF (N + 1) nonce ck) k0 k1).length ≤ 1000000 := by
    have := flds_small (rqF_apx (N + 1) nonce h52)
    rw [msgB_len]
    omega
  have hW8 := wtN_le (idB (N + 1) nonce) hI8
  have hlo := hPR.los
  have hmi := hPR.mi
  generalize msgB l v m st po pr rd rp id ref org rec xmt (rqF (N + 1) nonce ck) k0 k1 = MM at hQ hQ' hM6
  generalize wtN I (idB (N + 1) nonce) = I' at hQ hQ' hW8
  have hMe := eqB_self MM
  have hp := hPR.blk
  clear h52 hE h
  go_enter Tryd.func28, Tryd.ntmps28
  go_wp2_with (first
    | ((refine wpl_box (by rfl) 45 _ (by rfl) _ (opC 0 n l v m st po pr rd rp id ref org rec xmt nonce Aa na ca Ba nb cb) (by rfl) rfl ?_; intro w1 O1 s1 bb1); (have hp1 := hp.below bb1 hp.lt))
    | (refine wpl_loadf (by rfl) 5 _ (by rfl) w.heap.size 0 (by rfl) _ _ O1 _ rfl _ Tryd.underlying5 rfl ?_))
  have gw : Gw 0 w c w1.drew (rcl w 3 c) := Gw.of_below bb1.drew (fun _ q => rcl_old q)
  have h1 := hPR.gw gw (by omega)
  have A1 := hA.gw gw (by omega)
  have B1 := hB.gw gw (by omega)
  have co1 : rcl w 3 c w.heap.size = 3 := rcl_new (Nat.le_refl _)
  have zo1 : w.heap.size < w1.heap.size := O1.lt
  generalize rcl w 3 c = c1 at *
  have hQ1 := hQ w1.drew c1 A1 h1.rnd
  refine wp_region_heldL (fun y => y.cell? ⟨p, 0, none⟩ = some (.pointer (some ⟨b1, 0, none⟩)) ∧ Blk y w.heap.size 45 (opC 0 n l v m st po pr rd rp id ref org rec xmt nonce Aa na ca Ba nb cb) ∧ y.cell? ⟨w.heap.size, 15, none⟩ = some (.int .u64 nonce)) 14 (by kernel_rfl) rfl ⟨(hp1).drew.cell rfl, (O1).drew, (O1).drew.cell rfl⟩ fun hHeld => ?_
  simp only [List.replicate]
  (refine wpH_t 0 _ (by exact gE rfl) (by kernel_rfl) (by intro _ _ _ h; exact h) (Or.inl ⟨by rfl, (by intro _ h; (try dsimp only at h); go_simp; first | done | with_reducible rfl)⟩) (by assumption) ?_; (try simp only [Act.put, zs0, zs1, zs2]))
  (refine wpH_t 1 _ (by exact gE rfl) (by kernel_rfl) (by intro _ _ _ h; exact h) (Or.inl ⟨by rfl, (by intro _ h; (try dsimp only at h); go_simp; first | done | with_reducible rfl)⟩) (by assumption) ?_; (try simp only [Act.put, zs0, zs1, zs2]))
  (refine wpH_t 2 _ (by exact gE rfl) (by kernel_rfl) (by intro _ _ _ h; exact h) (Or.inl ⟨by rfl, (by intro _ h; (try dsimp only at h); go_simp; first | done | with_reducible rfl)⟩) (by assumption) ?_; (try simp only [Act.put, zs0, zs1, zs2]))
  (refine wpH_t 3 _ (by exact gE rfl) (by kernel_rfl) (by intro _ _ _ h; exact h) (Or.inl ⟨by rfl, (by intro _ h; (try dsimp only at h); go_simp; first | done | with_reducible rfl)⟩) (by assumption) ?_; (try simp only [Act.put, zs0, zs1, zs2]))
  (refine wpH_t 4 _ (by exact gE rfl) (by kernel_rfl) (by intro _ _ _ h; exact h) (Or.inl ⟨by rfl, (by intro _ h; (try dsimp only at h); go_simp; first | done | with_reducible rfl)⟩) (by assumption) ?_; (try simp only [Act.put, zs0, zs1, zs2]))
  refine wpH_take (i := 5) (v := .agg ([.int .i64 l, .int .i64 v, .int .i64 m, .int .i64 st, .int .i64 po, .int .i64 pr, .int .u32 rd, .int .u32 rp, .int .u32 id, .int .u64 ref, .int .u64 org, .int .u64 rec, .int .u64 xmt]).toArray) (by exact gE rfl) (by kernel_rfl) (by kernel_rfl) (by kernel_rfl) (by intro _ _ _ h; exact h) (yieldsIf_load_mid (by rfl) 27 _ (by rfl) w.heap.size 2 (by rfl) ([.int .i64 l, .int .i64 v, .int .i64 m, .int .i64 st, .int .i64 po, .int .i64 pr, .int .u32 rd, .int .u32 rp, .int .u32 id, .int .u64 ref, .int .u64 org, .int .u64 rec, .int .u64 xmt]) _ (fun w' h => Blk.mid h.2.1 2 [.int .i64 l, .int .i64 v, .int .i64 m, .int .i64 st, .int .i64 po, .int .i64 pr, .int .u32 rd, .int .u32 rp, .int .u32 id, .int .u64 ref, .int .u64 org, .int .u64 rec, .int .u64 xmt] rfl) Tryd.underlying27 rfl sizeNtp) (by assumption) ?_
  (try simp only [Act.put, zs0, zs1, zs2])
  (refine wpH_t 6 _ (by exact gE rfl) (by kernel_rfl) (by intro _ _ _ h; exact h) (Or.inl ⟨by rfl, (by intro _ h; (try dsimp only at h); go_simp; first | done | with_reducible rfl)⟩) (by assumption) ?_; (try simp only [Act.put, zs0, zs1, zs2]))
  (refine wpH_t 7 _ (by exact gE rfl) (by kernel_rfl) (by intro _ _ _ h; exact h) (Or.inl ⟨by rfl, (by intro _ h; (try dsimp only at h); go_simp; first | done | with_reducible rfl)⟩) (by assumption) ?_; (try simp only [Act.put, zs0, zs1, zs2]))
  (refine wpH_one (i := 8) (by exact gE rfl) (by kernel_rfl) (by rfl) ?_; (go_simp; (with_reducible refine hQ1.mono ?_); rintro e w2 ⟨r, q2, Nn, d2, rfl, hNn, Or2, dr, A2, g2⟩; (have hp2 := g2.blk hp1.drew (by rw [h1.cp]; omega)); (have O2 := g2.blk O1.drew (by rw [co1]; omega)); refine ⟨⟨hp2.cell rfl, O2, O2.cell rfl⟩, ?_⟩); (try simp only [Act.put, zs0, zs1, zs2]))
  have hHx : w2.cell? ⟨p, 0, none⟩ = some (.pointer (some ⟨b1, 0, none⟩)) ∧ Blk w2 w.heap.size 45 (opC 0 n l v m st po pr rd rp id ref org rec xmt nonce Aa na ca Ba nb cb) ∧ w2.cell? ⟨w.heap.size, 15, none⟩ = some (.int .u64 nonce) := ⟨hp2.cell rfl, O2, O2.cell rfl⟩
  (refine wpH_t 9 _ (by exact gE rfl) (by kernel_rfl) (by intro _ _ _ h; exact h) (Or.inl ⟨by rfl, (by intro _ h; (try dsimp only at h); go_simp; first | done | with_reducible rfl)⟩) (by assumption) ?_; (try simp only [Act.put, zs0, zs1, zs2]))
  (refine wpH_t 10 _ (by exact gE rfl) (by kernel_rfl) (by intro _ _ _ h; exact h) (Or.inl ⟨by rfl, (by intro _ h; (try dsimp only at h); go_simp; first | done | with_reducible rfl)⟩) (by assumption) ?_; (try simp only [Act.put, zs0, zs1, zs2]))
  (refine wpH_t 11 _ (by exact gE rfl) (by kernel_rfl) (by intro _ _ _ h; exact h) (Or.inl ⟨by rfl, (by intro _ h; (try dsimp only at h); go_simp; first | done | with_reducible rfl)⟩) (by assumption) ?_; (try simp only [Act.put, zs0, zs1, zs2]))
  (refine wpH_t 12 _ (by exact gE rfl) (by kernel_rfl) (by intro _ _ _ h; exact h) (Or.inl ⟨by rfl, (by intro _ h; (try dsimp only at h); go_simp; first | done | with_reducible rfl)⟩) (by assumption) ?_; (try simp only [Act.put, zs0, zs1, zs2]))
  (refine wpH_t 13 _ (by exact gE rfl) (by kernel_rfl) (by intro _ _ _ h; exact h) (Or.inl ⟨by rfl, (by intro _ h; (try dsimp only at h); go_simp; first | done | with_reducible rfl)⟩) (by assumption) ?_; (try simp only [Act.put, zs0, zs1, zs2]))
  refine wpH_done (by kernel_rfl) ?_ _
  have gd2 : Gw 0 w2 d2 w2.drew d2 := Gw.of_below (Below.refl _ _).drew (fun _ _ => rfl)
  have h2 := (h1.gw g2 (by omega)).gw gd2 (by omega)
  have B2 := (B1.gw g2 (by omega)).gw gd2 (by omega)
  have A2' := A2.gw gd2 (by omega)
  have co2 : d2 w.heap.size = 3 := g2.colN zo1 co1
  have z12 : w1.heap.size ≤ w2.heap.size := g2.size
  have Or2' := ow_gw Or2 gd2 (fun x e => by cases e; rw [dr]; omega)
  have hr2 := Or2'.blt r rfl
  have hQ2 := hQ' w2.drew d2 B2
  clear hHeld hHx hQ1 hp1 O1 bb1 gw s1 h1 A1 A2 B1 hA hB hPR g2 gd2 Or2 hQ hQ' co1 hp
  go_wp2_with fail
  refine wp_region_heldL (fun y => y.cell? ⟨p, 1, none⟩ = some (.pointer (some ⟨b2, 0, none⟩)) ∧ Blk y w.heap.size 45 (opC 0 n l v m st po pr rd rp id ref org rec xmt nonce Aa na ca Ba nb cb) ∧ y.cell? ⟨w.heap.size, 15, none⟩ = some (.int .u64 nonce)) 14 (by kernel_rfl) rfl ⟨(hp2).drew.cell rfl, (O2).drew, (O2).drew.cell rfl⟩ fun hHeld => ?_
  simp only [List.replicate]
  (refine wpH_t 0 _ (by exact gE rfl) (by kernel_rfl) (by intro _ _ _ h; exact h) (Or.inl ⟨by rfl, (by intro _ h; (try dsimp only at h); go_simp; first | done | with_reducible rfl)⟩) (by assumption) ?_; (try simp only [Act.put, zs0, zs1, zs2]))
  (refine wpH_t 1 _ (by exact gE rfl) (by kernel_rfl) (by intro _ _ _ h; exact h) (Or.inl ⟨by rfl, (by intro _ h; (try dsimp only at h); go_simp; first | done | with_reducible rfl)⟩) (by assumption) ?_; (try simp only [Act.put, zs0, zs1, zs2]))
  (refine wpH_t 2 _ (by exact gE rfl) (by kernel_rfl) (by intro _ _ _ h; exact h) (Or.inl ⟨by rfl, (by intro _ h; (try dsimp only at h); go_simp; first | done | with_reducible rfl)⟩) (by assumption) ?_; (try simp only [Act.put, zs0, zs1, zs2]))
  (refine wpH_t 3 _ (by exact gE rfl) (by kernel_rfl) (by intro _ _ _ h; exact h) (Or.inl ⟨by rfl, (by intro _ h; (try dsimp only at h); go_simp; first | done | with_reducible rfl)⟩) (by assumption) ?_; (try simp only [Act.put, zs0, zs1, zs2]))
  (refine wpH_t 4 _ (by exact gE rfl) (by kernel_rfl) (by intro _ _ _ h; exact h) (Or.inl ⟨by rfl, (by intro _ h; (try dsimp only at h); go_simp; first | done | with_reducible rfl)⟩) (by assumption) ?_; (try simp only [Act.put, zs0, zs1, zs2]))
  refine wpH_take (i := 5) (v := .agg ([.int .i64 l, .int .i64 v, .int .i64 m, .int .i64 st, .int .i64 po, .int .i64 pr, .int .u32 rd, .int .u32 rp, .int .u32 id, .int .u64 ref, .int .u64 org, .int .u64 rec, .int .u64 xmt]).toArray) (by exact gE rfl) (by kernel_rfl) (by kernel_rfl) (by kernel_rfl) (by intro _ _ _ h; exact h) (yieldsIf_load_mid (by rfl) 27 _ (by rfl) w.heap.size 2 (by rfl) ([.int .i64 l, .int .i64 v, .int .i64 m, .int .i64 st, .int .i64 po, .int .i64 pr, .int .u32 rd, .int .u32 rp, .int .u32 id, .int .u64 ref, .int .u64 org, .int .u64 rec, .int .u64 xmt]) _ (fun w' h => Blk.mid h.2.1 2 [.int .i64 l, .int .i64 v, .int .i64 m, .int .i64 st, .int .i64 po, .int .i64 pr, .int .u32 rd, .int .u32 rp, .int .u32 id, .int .u64 ref, .int .u64 org, .int .u64 rec, .int .u64 xmt] rfl) Tryd.underlying27 rfl sizeNtp) (by assumption) ?_
  (try simp only [Act.put, zs0, zs1, zs2])
  (refine wpH_t 6 _ (by exact gE rfl) (by kernel_rfl) (by intro _ _ _ h; exact h) (Or.inl ⟨by rfl, (by intro _ h; (try dsimp only at h); go_simp; first | done | with_reducible rfl)⟩) (by assumption) ?_; (try simp only [Act.put, zs0, zs1, zs2]))
  (refine wpH_t 7 _ (by exact gE rfl) (by kernel_rfl) (by intro _ _ _ h; exact h) (Or.inl ⟨by rfl, (by intro _ h; (try dsimp only at h); go_simp; first | done | with_reducible rfl)⟩) (by assumption) ?_; (try simp only [Act.put, zs0, zs1, zs2]))
  (refine wpH_one (i := 8) (by exact gE rfl) (by kernel_rfl) (by rfl) ?_; (go_simp; (with_reducible refine hQ2.mono ?_); rintro e w3 ⟨r3, q3, Nn3, rfl, hNn3, Or3, B3, g3⟩; (have hp3 := g3.blk hp2.drew (by rw [h2.cp]; omega)); (have O3 := g3.blk O2.drew (by rw [co2]; omega)); refine ⟨⟨hp3.cell rfl, O3, O3.cell rfl⟩, ?_⟩); (try simp only [Act.put, zs0, zs1, zs2]))
  have hHx : w3.cell? ⟨p, 1, none⟩ = some (.pointer (some ⟨b2, 0, none⟩)) ∧ Blk w3 w.heap.size 45 (opC 0 n l v m st po pr rd rp id ref org rec xmt nonce Aa na ca Ba nb cb) ∧ w3.cell? ⟨w.heap.size, 15, none⟩ = some (.int .u64 nonce) := ⟨hp3.cell rfl, O3, O3.cell rfl⟩
  (refine wpH_t 9 _ (by exact gE rfl) (by kernel_rfl) (by intro _ _ _ h; exact h) (Or.inl ⟨by rfl, (by intro _ h; (try dsimp only at h); go_simp; first | done | with_reducible rfl)⟩) (by assumption) ?_; (try simp only [Act.put, zs0, zs1, zs2]))
  (refine wpH_t 10 _ (by exact gE rfl) (by kernel_rfl) (by intro _ _ _ h; exact h) (Or.inl ⟨by rfl, (by intro _ h; (try dsimp only at h); go_simp; first | done | with_reducible rfl)⟩) (by assumption) ?_; (try simp only [Act.put, zs0, zs1, zs2]))
  (refine wpH_t 11 _ (by exact gE rfl) (by kernel_rfl) (by intro _ _ _ h; exact h) (Or.inl ⟨by rfl, (by intro _ h; (try dsimp only at h); go_simp; first | done | with_reducible rfl)⟩) (by assumption) ?_; (try simp only [Act.put, zs0, zs1, zs2]))
  (refine wpH_t 12 _ (by exact gE rfl) (by kernel_rfl) (by intro _ _ _ h; exact h) (Or.inl ⟨by rfl, (by intro _ h; (try dsimp only at h); go_simp; first | done | with_reducible rfl)⟩) (by assumption) ?_; (try simp only [Act.put, zs0, zs1, zs2]))
  (refine wpH_t 13 _ (by exact gE rfl) (by kernel_rfl) (by intro _ _ _ h; exact h) (Or.inl ⟨by rfl, (by intro _ h; (try dsimp only at h); go_simp; first | done | with_reducible rfl)⟩) (by assumption) ?_; (try simp only [Act.put, zs0, zs1, zs2]))
  refine wpH_done (by kernel_rfl) ?_ _
  obtain rfl : Nn3 = Nn := hNn3.symm.trans hNn
  have h3 := h2.gw g3 (by omega)
  have A3 := A2'.gw g3 (by omega)
  have Or3' := ow_gw Or2' g3 (fun x e => by cases e; rw [dr]; omega)
  have dr3 : rcl w2.drew 2 d2 r = 3 := g3.colN hr2.2 dr
  have drr : rcl w2.drew 2 d2 r3 = 2 := rcl_new (Or3.blt r3 rfl).1
  generalize rcl w2.drew 2 d2 = c3 at *
  have z23 : w2.heap.size ≤ w3.heap.size := g3.size
  have gal : Gw 0 w3 c3 (w3.alloc (.cells #[.slice (some ⟨r, 0, none⟩) Nn3 q2] 23)) (rcl w3 3 c3) := Gw.of_below (al8 w3 _) (fun _ q => rcl_old q)
  have h4 := h3.gw gal (by omega)
  have A4 := A3.gw gal (by omega)
  have B4 := B3.gw gal (by omega)
  have Or4 := ow_gw Or3' gal (fun x e => by cases e; rw [dr3]; omega)
  have Os4 := ow_gw Or3 gal (fun x e => by cases e; rw [drr]; omega)
  have dr4 : rcl w3 3 c3 r = 3 := gal.colN (Or3'.blt r rfl).2 dr3
  have drs4 : rcl w3 3 c3 r3 = 2 := gal.colN (Or3.blt r3 rfl).2 drr
  have Na := Blk.new w3 23 #[.slice (some ⟨r, 0, none⟩) Nn3 q2] [.slice (some ⟨r, 0, none⟩) Nn3 q2] rfl
  generalize rcl w3 3 c3 = c4 at *
  have hp4 := h4.blk
  have hbf : p ∉ fp cm gm := fun hm => by
    obtain ⟨hc, e⟩ := fp_mem hm
    exact (h4.row.lt hc (by omega)).2 (by rw [e]; simp)
  have HNn := Lib.hid hNn
  have q2c := Or4.cap_le
  clear hHeld hHx hQ2 hp2 O2 h2 h3 A2' A3 B2 B3 g3 gal O3 co2 Or2' Or3' Or3 hNn3 hNn dr3 drr
  go_wp2_with (first
    | (refine wpl_loadf (by rfl) 51 _ (by rfl) p 4 (by rfl) _ _ hp3 _ rfl _ Tryd.underlying51 rfl ?_)
    | (refine wpl_append_rw (by rfl) 51 23 (.slice none 0 0) 24 (.tmp 44) (.tmp 46) (by rfl) Tryd.underlying51 infoSl (by rfl) (by omega) (by rfl) h4.row ⟨w3.heap.size, 0, none⟩ 1 1 [.slice (some ⟨r, 0, none⟩) Nn3 q2] (by rfl) rfl (by omega) (cells2_of Na) (by simp [Value.oneCell']) (by omega) (by omega) (by simpa using hp4.lt) ?_; intro g9 A9 c9 w9 R9 K9 G9 L9; have hp9 := K9.blk hp4 hbf)
    | (refine wpl_storeg (by rfl) 51 _ _ (by rfl) p 4 (by rfl) (.slice A9 (nm + 1) c9) (by rfl) (by rfl) (by simp [Value.oneCell']) _ _ (pairL (some ⟨b1, 0, none⟩) (some ⟨b2, 0, none⟩) bj bk A9 (nm + 1) c9 Ar nr cr) hp9 (by simp) sizeSls (by rfl) ?_; intro w10 hp10 s10 g10))
  have hR9 : Rw w9 1 g9 [p] A9 (nm + 1) c9 (M.map ckV ++ [ckV (r, q2, MM)]) := by
    unfold ckV
    rw [HNn.out]
    exact R9
  obtain ⟨h10, g5, g4⟩ := h4.pushM (u := (r, q2, MM)) (Or4.wide (Nat.le_trans hlo (Nat.le_of_lt zo1))) dr4 hM6 hR9 K9 G9 L9 g10 hp10
  have hr4 := (Or4.blt r rfl).2
  have hs4 := (Os4.blt r3 rfl).2
  have Or10 := ow_gw (ow_gw Or4 g5 (fun x e => by cases e; rw [dr4]; omega)) g4 (fun x e => by cases e; rw [rcl_old hr4, dr4]; omega)
  have Os10 := ow_gw (ow_gw Os4 g5 (fun x e => by cases e; rw [drs4]; omega)) g4 (fun x e => by cases e; rw [rcl_old hs4, drs4]; omega)
  have A10 := (A4.gw g5 (by omega)).gw g4 (by omega)
  have B10 := (B4.gw g5 (by omega)).gw g4 (by omega)
  have hBE := bequal_any (some ⟨r, 0, none⟩) (some ⟨r3, 0, none⟩) Nn3 Nn3 q2 q3 _ _ _ _ MM MM w10 HNn.out HNn.out Or10.bs Os10.bs
  rw [hMe] at hBE
  clear h4 A4 B4 Or4 Os4 Or10 Os10 R9 hR9 K9 G9 L9 g5 g4 g10 hp9 hp4 hp3 Na
  go_wp2_with (first
    | (go_at_call 15; ((with_reducible refine hBE.mono ?_); rintro e _ ⟨rfl, rfl⟩)))
  go_ret
  subst hmu
  exact ⟨rfl, _, bj, bk, g, M ++ [(r, q2, MM)], g9, A9, nm + 1, c9, Ar, nr, cr, R, N + 1, CK, I', h10, ⟨b1, rfl, A10⟩, ⟨b2, rfl, B10⟩, by omega, hW8, by have := hN.1; omega, by have := hN.2; omega⟩
/-- one call, whatever its kind -/
theorem do_any (kd : Int) {vC vD : Option Addr} {mu : Bool} {w0 w : World} {lo p i : Nat} {s k0 k1 k2 k3 : Int} (l v m st po pr rd rp id ref org rec xmt nonce n : Int) (Aa : Option Addr) (na ca : Nat) (Ba : Option Addr) (nb cb : Nat) (L : Flds) (X : List Int) (h : PX mu w0 w lo p s k0 k1 k2 k3 vC vD i) (hs : U64 s) (hk0 : U64 k0) (hk1 : U64 k1) (hk2 : U64 k2) (hk3 : U64 k3) (h6 : 0 ≤ rd ∧ rd ≤ 4294967295) (h7 : 0 ≤ rp ∧ rp ≤ 4294967295) (h8' : 0 ≤ id ∧ id ≤ 4294967295) (h9 : 0 ≤ ref ∧ ref ≤ 18446744073709551615) (h10 : 0 ≤ org ∧ org ≤ 18446744073709551615) (h11 : 0 ≤ rec ∧ rec ≤ 18446744073709551615) (h12 : 0 ≤ xmt ∧ xmt ≤ 18446744073709551615) (hno : U64 nonce) (hi : i ≤ 1000)
    (hXs : Xs w w.heap.size Aa L) (hL : L.length = na) (hac : na ≤ ca) (hac2 : ca ≤ 9223372036854775807) (han : Aa = none → na = 0) (hdd : ∀ k, k < na → (dtL L k).length ≤ 300) (hBb : Bs w 0 lo Ba X) (hX : X.length = nb) (hbc : nb ≤ cb) (hcb : cb ≤ 9223372036854775807) (hb2 : nb ≤ 2000) : Calls Tryd.prog 28 #[.pointer (some ⟨p, 0, none⟩), .agg (opC (kd) n l v m st po pr rd rp id ref org rec xmt nonce Aa na ca Ba nb cb).toArray] w fun e w' => e = .returned (.bool true) ∧ PX mu w0 w' lo p s k0 k1 k2 k3 vC vD (i + 1) := by
  by_cases e0 : kd = 0
  · subst e0
    have hPX := h
    obtain ⟨c, bj, bk, g, M, gm, Am, nm, cm, Ar, nr, cr, R, N, CK, I, h', hA, hB, h8, hI8, hN⟩ := h
    by_cases hNo : mu = false ∨ nchk l v m st po pr ≠ 0 ∨ CK = []
    · exact do_0n l v m st po pr rd rp id ref org rec xmt nonce n Aa na ca Ba nb cb L X hPX hs hk0 hk1 hk2 hk3 h6 h7 h8' h9 h10 h11 h12 hno hi hXs hL hac hac2 han hdd hBb hX hbc hcb hb2 h' hA hB hNo
    · have hmu : mu = true := by
        cases mu with
        | false => exact absurd (.inl rfl) hNo
        | true => rfl
      have hE : nchk l v m st po pr = 0 := Decidable.byContradiction fun e => hNo (.inr (.inl e))
      match CK, hA, hB, h8, hNo with
      | [], _, _, _, hNo => exact absurd (.inr (.inr rfl)) hNo
      | ck :: CK', pA, pB, p8, pNo =>
        clear hA hB h8 hNo
        subst hmu
        obtain ⟨b1, rfl, qA⟩ := pA
        obtain ⟨b2, rfl, qB⟩ := pB
        exact do_0y l v m st po pr rd rp id ref org rec xmt nonce n Aa na ca Ba nb cb L X hPX hs hk0 hk1 hk2 hk3 h6 h7 h8' h9 h10 h11 h12 hno hi hXs hL hac hac2 han hdd hBb hX hbc hcb hb2 rfl rfl rfl h' qA qB hE p8 hI8 hN
  · by_cases e1 : kd = 1
    · subst e1
      exact do_1 l v m st po pr rd rp id ref org rec xmt nonce n Aa na ca Ba nb cb L X h hs hk0 hk1 hk2 hk3 h6 h7 h8' h9 h10 h11 h12 hno hi hXs hL hac hac2 han hdd hBb hX hbc hcb hb2
    · by_cases e2 : kd = 2
      · subst e2
        exact do_2 l v m st po pr rd rp id ref org rec xmt nonce n Aa na ca Ba nb cb L X h hs hk0 hk1 hk2 hk3 h6 h7 h8' h9 h10 h11 h12 hno hi hXs hL hac hac2 han hdd hBb hX hbc hcb hb2
      · by_cases e3 : kd = 3
        · subst e3
          exact do_3 l v m st po pr rd rp id ref org rec xmt nonce n Aa na ca Ba nb cb L X h hs hk0 hk1 hk2 hk3 h6 h7 h8' h9 h10 h11 h12 hno hi hXs hL hac hac2 han hdd hBb hX hbc hcb hb2
        · exact do_4 kd ⟨e0, e1, e2, e3⟩ l v m st po pr rd rp id ref org rec xmt nonce n Aa na ca Ba nb cb L X h hs hk0 hk1 hk2 hk3 h6 h7 h8' h9 h10 h11 h12 hno hi hXs hL hac hac2 han hdd hBb hX hbc hcb hb2
end Go.Proofs.YtachhbbofemfdaaDoor
namespace Go.Proofs.YtachhbbofemfdaaDoor
open Go.ChangeShapes Go.WideShapes Go.ChangeAt Go.RowKit Go.Joins
set_option linter.unusedSimpArgs false
set_option linter.unusedVariables false
set_option maxRecDepth 100000
theorem trodAll_five {H : Type} {enc : TypeId × Value → H} {P : Program} {w : World} {base : Nat} {spare : Nat → Bool} {held : Bool} {t0 t1 t2 t3 t4 : TypeId} {args : Array Value} {ds : List (DataW H)} {ps : List MemPlace} (h : DataW.TrodAll enc P w base spare held [t0, t1, t2, t3, t4] args.toList ds ps) :
    ∃ v0 v1 v2 v3 v4 d0 d1 d2 d3 d4 p0 p1 p2 p3 p4, args = #[v0, v1, v2, v3, v4] ∧ ds = [d0, d1, d2, d3, d4] ∧ ps = p0 ++ (p1 ++ (p2 ++ (p3 ++ p4))) ∧ DataW.Trod enc P w base spare held t0 v0 d0 p0 ∧ DataW.Trod enc P w base spare held t1 v1 d1 p1 ∧ DataW.Trod enc P w base spare held t2 v2 d2 p2 ∧ DataW.Trod enc P w base spare held t3 v3 d3 p3 ∧ DataW.Trod enc P w base spare held t4 v4 d4 p4 := by
  obtain ⟨args⟩ := args
  replace h : DataW.TrodAll enc P w base spare held [t0, t1, t2, t3, t4] args ds ps := h
  obtain ⟨v0, r0, d0, e0, p0, q0, rfl, rfl, rfl, h0, k0⟩ := trodAll_cons h
  obtain ⟨v1, r1, d1, e1, p1, q1, rfl, rfl, rfl, h1, k1⟩ := trodAll_cons k0
  obtain ⟨v2, r2, d2, e2, p2, q2, rfl, rfl, rfl, h2, k2⟩ := trodAll_cons k1
  obtain ⟨v3, r3, d3, e3, p3, q3, rfl, rfl, rfl, h3, k3⟩ := trodAll_cons k2
  obtain ⟨v4, r4, d4, e4, p4, q4, rfl, rfl, rfl, h4, k4⟩ := trodAll_cons k3
  obtain ⟨rfl, rfl, rfl⟩ := trodAll_nil k4
  exact ⟨v0, v1, v2, v3, v4, d0, d1, d2, d3, d4, p0, p1, p2, p3, p4, rfl, rfl, by simp, h0, h1, h2, h3, h4⟩
theorem key_cells {H : Type} {enc : TypeId × Value → H} {w : World} {base fuel : Nat} {spare : Nat → Bool} {held : Bool} {cs : List Value} {x : DataW H × List MemPlace} (hf : DataW.trod enc Tryd.prog w base spare held fuel 29 cs = some x) :
    ∃ a b : Int, cs = [.int .u64 a, .int .u64 b] ∧ U64 a ∧ U64 b := by
  have hu : Tryd.prog.underlying 29 = some (.array 2 22) := Tryd.underlying29
  obtain ⟨xs, m, _, _, hl, hxl, hg⟩ := DataW.trod_array hu hf
  have hk : Tryd.prog.cellsOf 29 = 2 := by kernel_rfl
  have h1 : Tryd.prog.cellsOf 22 = 1 := by kernel_rfl
  rw [hk] at hl
  simp only [h1] at hg
  match cs, hl, xs, hxl with
  | [c0, c1], _, [y0, y1], _ =>
    obtain ⟨a, e0, _, wa⟩ := DataW.trod_int Tryd.underlying22 (hg 0 (by omega))
    obtain ⟨b, e1, _, wb⟩ := DataW.trod_int Tryd.underlying22 (hg 1 (by omega))
    simp at e0 e1
    subst e0 e1
    exact ⟨a, b, rfl, bounds_u64 wa, bounds_u64 wb⟩
/-- a key by value: its cells -/
theorem open_key {H : Type} {enc : TypeId × Value → H} {w : World} {base b0 : Nat} {spare : Nat → Bool} {held : Bool} {r : Reach} {v : Value} {d : DataW H} {p : List MemPlace} (hv : Value.okWide Tryd.prog w r b0 29 v) (h : DataW.Trod enc Tryd.prog w base spare held 29 v d p) :
    ∃ a b : Int, v = keyV a b ∧ U64 a ∧ U64 b := by
  have hu : Tryd.prog.underlying 29 = some (.array 2 22) := Tryd.underlying29
  simp only [Value.okWide, hu] at hv
  obtain ⟨⟨l⟩, rfl, _, _⟩ := hv
  obtain ⟨fuel, hf⟩ := h
  obtain ⟨a, b, e, ha, hb⟩ := key_cells hf
  simp only [Value.cells] at e
  subst e
  exact ⟨a, b, rfl, ha, hb⟩
end Go.Proofs.YtachhbbofemfdaaDoor
namespace Go.Proofs.YtachhbbofemfdaaDoor
open Go.RowKit
set_option linter.unusedSimpArgs false
set_option linter.unusedVariables false
set_option maxRecDepth 100000
/-- cookies T in row g; blocks up to d are none of theirs -/
structure CkLs (w : World) (d g : Nat) (T : List CkT) (A : Option Addr) (n c : Nat) : Prop where
  tn : T.length = n
  row : Rw w 1 g [d] A n c (T.map ckV)
  ck : ∀ t ∈ T, Ck w (d + 1) [g] t ∧ t.2.2.length = 52
  lo1 : d ≤ g
  lt : g < w.heap.size
section
variable {w w' : World} {d g : Nat} {T : List CkT} {A : Option Addr} {n c : Nat}
theorem CkLs.nil (h : d < w.heap.size) : CkLs w d d [] none 0 0 := ⟨rfl, Rw.nil _ _ _ _, fun t ht => by (cases ht), Nat.le_refl _, h⟩
theorem CkLs.below {B : Nat} (h : CkLs w d g T A n c) (hb : Below B w w') (hB : w.heap.size ≤ B) : CkLs w' d g T A n c :=
  have hk : Kp w [] w' := (Kp.refl w []).below hb hB
  ⟨h.tn, h.row.below (by omega) hb hB, fun t ht => ⟨(h.ck t ht).1.kp hk (by simp) (h.ck t ht).1.2, (h.ck t ht).2⟩, h.lo1, Nat.lt_of_lt_of_le h.lt hk.size⟩
theorem CkLs.push {t : CkT} {g' c' : Nat} {A' : Option Addr} (h : CkLs w d g T A n c) (ht : Ow w (d + 1) (some ⟨t.1, 0, none⟩) t.2.1 t.2.2) (ht2 : t.2.2.length = 52) (hn : t.1 ≠ g)
    (hr : Rw w' 1 g' [d] A' (n + 1) c' (T.map ckV ++ [ckV t])) (hk : Kp w (fp c g) w') (hg : g' = g ∨ w.heap.size ≤ g') (hl : g' < w'.heap.size) : CkLs w' d g' (T ++ [t]) A' (n + 1) c' := by
  refine ⟨by rw [List.length_append, h.tn]; rfl, by rw [List.map_append]; exact hr, fun u hu => ?_, (by have := h.lt; have := h.lo1; omega), hl⟩
  rw [List.mem_append] at hu
  have key : Ck w (d + 1) [g] u ∧ u.2.2.length = 52 := by
    rcases hu with hu | hu
    · exact h.ck u hu
    · obtain rfl : u = t := by simpa using hu
      exact ⟨⟨ht, by simpa using hn⟩, ht2⟩
  have hu3 : u.1 ≠ g := by simpa using key.1.2
  have hul := key.1.lt
  refine ⟨key.1.kp hk (fun hm => hu3 (fp_mem hm).2) ?_, key.2⟩
  simp
  intro e
  rcases hg with hg | hg
  · exact hu3 (e.trans hg)
  · omega
/-- none of the blocks up to d is written by its append -/
theorem CkLs.fp (h : CkLs w d g T A n c) {k : Nat} (hk : k ≤ d) : k ∉ fp c g := fun hm => by
  obtain ⟨hc, rfl⟩ := fp_mem hm
  have h1 := (h.row.lt hc (by omega)).2
  have h2 := h.lo1
  have h3 : k ≠ d := by simpa using h1
  omega
theorem CkLs.ls (h : CkLs w d g T A n c) : Ls w w.heap.size A (T.map (·.2.2)) := fun hp => by
  have hn : 0 < n := by rw [← h.tn]; simpa using hp
  obtain ⟨o, e, _⟩ := h.row.at hn (by omega)
  refine ⟨g, o, e, h.lt, fun k hk => ?_⟩
  have hk' : k < T.length := by simpa using hk
  obtain ⟨o', e', hc⟩ := h.row.at (k := k) (by rw [← h.tn]; exact hk') (by omega)
  rw [e] at e'
  injection e' with e'
  injection e' with _ e' _
  subst e'
  have hc0 := hc 0 (by omega)
  have hm := (h.ck T[k] (List.getElem_mem hk')).1
  refine ⟨some ⟨T[k].1, 0, none⟩, T[k].2.1, ?_, ?_⟩
  · simp only [Nat.mul_one, Nat.add_zero] at hc0
    rw [hc0, List.getElem?_map, List.getElem?_eq_getElem hk']
    simp [ckV]
  · rw [List.getElem_map]
    exact hm.1.bs.wide (Nat.zero_le _) (Nat.le_refl _)
end
/-- what the expressions of a round read -/
def TrS (w0 : World) (ka kb bp bt bc lo rt ct : Nat) (k0 k1 k2 k3 : Int) (G : List Nat) (CK : List (List Int)) (N : Int) (I : List (List Int)) (v7 : Int) (y : World) : Prop :=
  Blk y bp 27 [.int .i64 0, .int .i64 4, .int .i64 3, .int .i64 0, .int .i64 0, .int .i64 0, .int .u32 0, .int .u32 0, .int .u32 0, .int .u64 0, .int .u64 0, .int .u64 0, .int .u64 9] ∧ Blk y bt 31 (tktL (some ⟨rt, 0, none⟩) 16 ct k0 k1 k2 k3) ∧ Blk y ka 29 (keyL k0 k1) ∧ Blk y kb 29 (keyL k2 k3) ∧
    y.cell? ⟨rt, 7, none⟩ = some (.int .u8 v7) ∧ Cli y lo bc G k0 k1 k2 k3 CK N I ∧ Below w0.heap.size w0 y
theorem TrS.below {w0 y z : World} {ka kb bp bt bc lo rt ct : Nat} {k0 k1 k2 k3 N v7 : Int} {G : List Nat} {CK I : List (List Int)} (h : TrS w0 ka kb bp bt bc lo rt ct k0 k1 k2 k3 G CK N I v7 y) (hb : Below y.heap.size y z) : TrS w0 ka kb bp bt bc lo rt ct k0 k1 k2 k3 G CK N I v7 z := by
  obtain ⟨h1, h2, h3, h4, h5, h6, h7⟩ := h
  exact ⟨h1.below hb h1.lt, h2.below hb h2.lt, h3.below hb h3.lt, h4.below hb h4.lt, kept_cell hb h5 (World.block_lt_of_cell? y _ h5), h6.below hb, h7.trans (hb.mono h7.size)⟩
def TrU (w0 : World) (bq bc lo : Nat) (k0 k1 k2 k3 : Int) (G : List Nat) (CK : List (List Int)) (N : Int) (I : List (List Int)) (y : World) : Prop :=
  Blk y bq 27 [.int .i64 0, .int .i64 4, .int .i64 3, .int .i64 0, .int .i64 0, .int .i64 0, .int .u32 0, .int .u32 0, .int .u32 0, .int .u64 0, .int .u64 0, .int .u64 0, .int .u64 9] ∧ Cli y lo bc G k0 k1 k2 k3 CK N I ∧ Below w0.heap.size w0 y
theorem TrU.below {w0 y z : World} {bq bc lo : Nat} {k0 k1 k2 k3 N : Int} {G : List Nat} {CK I : List (List Int)} (h : TrU w0 bq bc lo k0 k1 k2 k3 G CK N I y) (hb : Below y.heap.size y z) : TrU w0 bq bc lo k0 k1 k2 k3 G CK N I z := by
  obtain ⟨h1, h6, h7⟩ := h
  exact ⟨h1.below hb h1.lt, h6.below hb, h7.trans (hb.mono h7.size)⟩
end Go.Proofs.YtachhbbofemfdaaDoor
namespace Go.Proofs.YtachhbbofemfdaaDoor
open Go.RowKit
set_option linter.unusedSimpArgs false
set_option linter.unusedVariables false
set_option maxRecDepth 100000
theorem Ck.wide {w : World} {lo lo' : Nat} {G : List Nat} {t : CkT} (h : Ck w lo G t) (hl : lo' ≤ lo) : Ck w lo' G t := ⟨h.1.wide hl, h.2⟩
theorem CCl.of2 {w : World} {d : Nat → Nat} {lo lo' b : Nat} {G : List Nat} {k0 k1 k2 k3 N : Int} {CK I : List (List Int)} (h : Cli w lo b G k0 k1 k2 k3 CK N I) (hl : lo' ≤ lo) (hd : ∀ x, lo ≤ x → x < w.heap.size → d x = 1) : CCl w d lo' b k0 k1 k2 k3 CK N I := by
  obtain ⟨g1, g2, T, A, n, cc, A2, n2, c2, _, e, h⟩ := h
  exact ⟨g1, g2, T, A, n, cc, A2, n2, c2, e, ⟨h.blk, h.tn, h.wn, h.cs, h.ws, fun t ht => ⟨(h.ck t ht).1.wide hl, (h.ck t ht).2⟩, h.wt, Nat.le_trans hl h.lob, Nat.le_trans hl h.lo1, Nat.le_trans hl h.lo2, h.lt1, h.lt2⟩, ⟨hd _ h.lob h.blk.lt, hd _ h.lo1 h.lt1, hd _ h.lo2 h.lt2⟩, fun t ht => hd _ (h.ck t ht).1.lt.1 (h.ck t ht).1.lt.2⟩
theorem CRl.of2 {w : World} {d : Nat → Nat} {lo lo' b : Nat} {G : List Nat} {k0 k1 k2 k3 N : Int} {CK I : List (List Int)} (h : Rcl w lo b G k0 k1 k2 k3 CK N I) (hl : lo' ≤ lo) (hd : ∀ x, lo ≤ x → x < w.heap.size → d x = 2) : CRl w d lo' b k0 k1 k2 k3 CK N I := by
  obtain ⟨g1, g2, T, U, A, n, cc, A2, n2, c2, _, e, e', h⟩ := h
  exact ⟨g1, g2, T, U, A, n, cc, A2, n2, c2, e, e', ⟨h.blk, h.tn, h.un, h.cs, h.ws, fun t ht => ⟨(h.ck t ht).1.wide hl, (h.ck t ht).2⟩, fun t ht => ⟨(h.wk t ht).1.wide hl, (h.wk t ht).2⟩, Nat.le_trans hl h.lob, Nat.le_trans hl h.lo1, Nat.le_trans hl h.lo2, h.lt1, h.lt2⟩, ⟨hd _ h.lob h.blk.lt, hd _ h.lo1 h.lt1, hd _ h.lo2 h.lt2⟩, fun t ht => hd _ (h.ck t ht).1.lt.1 (h.ck t ht).1.lt.2, fun t ht => hd _ (h.wk t ht).1.lt.1 (h.wk t ht).1.lt.2⟩
def ckM (mu : Bool) (M : List (List Int)) : List (List Int) := match mu with | false => [] | true => M
/-- NewClient of the program, with any number of cookies -/
theorem pnew (mu : Bool) (lo' : Nat) (k0 k1 k2 k3 : Int) (B : Option Addr) (m c : Nat) (M : List (List Int)) (w : World) (hmu : mu = decide (m ≤ 8)) (hm2 : m ≤ 9223372036854775807) (hM : M.length = m) (hL : Ls w w.heap.size B M) (hmd : m ≤ c) (h52 : ∀ l ∈ M, l.length = 52) (hl : lo' ≤ w.heap.size) :
    Calls Tryd.prog 20 #[keyV k0 k1, keyV k2 k3, .slice B m c] w fun e w' => ∃ vC, e = .returned (.pointer vC) ∧ (mu = true ↔ ∃ a, vC = some a) ∧ (∀ d : Nat → Nat, (∀ x, w.heap.size ≤ x → x < w'.heap.size → d x = 1) → PA mu w' d lo' vC k0 k1 k2 k3 (ckM mu M) 0 []) ∧ Below w.heap.size w w' := by
  cases mu with
  | false =>
    have : 8 < m := by simpa using hmu
    exact (newcl_many k0 k1 k2 k3 B m c w this hm2).mono fun e w' ⟨h1, h2⟩ => ⟨none, h1, by simp, fun _ _ => ⟨rfl, rfl⟩, h2⟩
  | true =>
    have : m ≤ 8 := by simpa using hmu
    exact (cnew k0 k1 k2 k3 B m c M w this hM hL hmd h52).mono fun e w' ⟨b, G, h1, h2, h3⟩ => ⟨_, h1, by simp, fun d hd => ⟨b, rfl, CCl.of2 h2 hl hd⟩, h3⟩
theorem prnew (mu : Bool) (lo' : Nat) (k0 k1 k2 k3 : Int) (B : Option Addr) (m c : Nat) (M : List (List Int)) (w : World) (hmu : mu = decide (m ≤ 8)) (hm2 : m ≤ 9223372036854775807) (hM : M.length = m) (hL : Ls w w.heap.size B M) (hmd : m ≤ c) (h52 : ∀ l ∈ M, l.length = 52) (hl : lo' ≤ w.heap.size) :
    Calls Tryd.prog 27 #[keyV k0 k1, keyV k2 k3, .slice B m c] w fun e w' => ∃ vD, e = .returned (.pointer vD) ∧ (mu = true ↔ ∃ a, vD = some a) ∧ (∀ d : Nat → Nat, (∀ x, w.heap.size ≤ x → x < w'.heap.size → d x = 2) → PB mu w' d lo' vD k0 k1 k2 k3 (ckM mu M) 0 []) ∧ Below w.heap.size w w' := by
  cases mu with
  | false =>
    have : 8 < m := by simpa using hmu
    exact (rcnew_many k0 k1 k2 k3 B m c w this hm2).mono fun e w' ⟨h1, h2⟩ => ⟨none, h1, by simp, fun _ _ => ⟨rfl, rfl⟩, h2⟩
  | true =>
    have : m ≤ 8 := by simpa using hmu
    exact (rcnew k0 k1 k2 k3 B m c M w this hM hL hmd h52).mono fun e w' ⟨b, G, h1, h2, h3⟩ => ⟨_, h1, by simp, fun d hd => ⟨b, rfl, CRl.of2 h2 hl hd⟩, h3⟩
theorem pcount {mu : Bool} {w : World} {c : Nat → Nat} {lo : Nat} {vC : Option Addr} {k0 k1 k2 k3 N : Int} {CK I : List (List Int)} (h : PA mu w c lo vC k0 k1 k2 k3 CK N I) :
    Calls Tryd.prog 23 #[.pointer vC] w fun e w' => e = .returned (.int .i64 CK.length) ∧ w = w' := by
  cases mu with
  | false =>
    obtain ⟨rfl, rfl⟩ := h
    exact cookies_nil w
  | true =>
    obtain ⟨b, rfl, h⟩ := h
    exact qcount h
theorem prcount {mu : Bool} {w : World} {c : Nat → Nat} {lo : Nat} {vD : Option Addr} {k0 k1 k2 k3 N : Int} {CK I : List (List Int)} (h : PB mu w c lo vD k0 k1 k2 k3 CK N I) :
    Calls Tryd.prog 29 #[.pointer vD] w fun e w' => e = .returned (.int .i64 CK.length) ∧ w = w' := by
  cases mu with
  | false =>
    obtain ⟨rfl, rfl⟩ := h
    exact rccount_nil w
  | true =>
    obtain ⟨b, rfl, h⟩ := h
    exact qrcount h
end Go.Proofs.YtachhbbofemfdaaDoor
