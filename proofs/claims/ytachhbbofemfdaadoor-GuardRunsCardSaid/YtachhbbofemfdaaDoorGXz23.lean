/- GuardRuns (P47.1 to P47.5): the walk. -/
import Derived.Test.YtachhbbofemfdaaDoorGXz22
namespace Go.Proofs.YtachhbbofemfdaaDoor
open Go.RowKit
set_option linter.unusedSimpArgs false
set_option linter.unusedVariables false
set_option maxRecDepth 100000
theorem opl_wide {w : World} {hi hi' : Nat} {A : Option Addr} {T : List OpT} (h : Opl w hi A T) (hh : hi ≤ hi') : Opl w hi' A T := fun hn => by
  obtain ⟨b, o, e, h2, hc⟩ := h hn
  refine ⟨b, o, e, by omega, fun k hk => ?_⟩
  obtain ⟨A', ca, D, cb, hr, ⟨hX, q1⟩, hB, q4⟩ := hc k hk
  exact ⟨A', ca, D, cb, hr, ⟨hX.wide hh, q1⟩, hB.wide (Nat.le_refl _) hh, q4⟩
/-- the owners at the start: the jars, the pair, the clients' blocks -/
def col7 (bk bj p a0 a1 a2 x : Nat) : Nat := if x = bk then 7 else if x = bj then 6 else if x = p then 4 else if x < a0 then 3 else if x < a1 then 1 else if x < a2 then 2 else 3
section
variable {bk bj p a0 a1 a2 x : Nat}
theorem col7_k : col7 bk bj p a0 a1 a2 bk = 7 := if_pos rfl
theorem col7_j (h : bj ≠ bk) : col7 bk bj p a0 a1 a2 bj = 6 := by unfold col7; rw [if_neg h, if_pos rfl]
theorem col7_p (h : p ≠ bk) (h2 : p ≠ bj) : col7 bk bj p a0 a1 a2 p = 4 := by unfold col7; rw [if_neg h, if_neg h2, if_pos rfl]
theorem col7_3 (h1 : x ≠ bk) (h2 : x ≠ bj) (h3 : x ≠ p) (h4 : x < a0) : col7 bk bj p a0 a1 a2 x = 3 := by unfold col7; rw [if_neg h1, if_neg h2, if_neg h3, if_pos h4]
theorem col7_1 (h1 : x ≠ bk) (h2 : x ≠ bj) (h3 : x ≠ p) (h4 : a0 ≤ x) (h5 : x < a1) : col7 bk bj p a0 a1 a2 x = 1 := by unfold col7; rw [if_neg h1, if_neg h2, if_neg h3, if_neg (by omega), if_pos h5]
theorem col7_2 (h1 : x ≠ bk) (h2 : x ≠ bj) (h3 : x ≠ p) (h4 : a0 ≤ x) (h5 : a1 ≤ x) (h6 : x < a2) : col7 bk bj p a0 a1 a2 x = 2 := by unfold col7; rw [if_neg h1, if_neg h2, if_neg h3, if_neg (by omega), if_neg (by omega), if_pos h6]
end
section
variable {mu : Bool} {w0 w : World} {lo p i : Nat} {s k0 k1 k2 k3 : Int} {vC vD : Option Addr}
theorem PX.facts (h : PX mu w0 w lo p s k0 k1 k2 k3 vC vD i) : Below lo w0 w ∧ Rnd w ∧ lo ≤ w.heap.size ∧ w.cell? ⟨p, 0, none⟩ = some (.pointer vC) ∧ w.cell? ⟨p, 1, none⟩ = some (.pointer vD) := by
  obtain ⟨c, bj, bk, g, M, gm, Am, nm, cm, Ar, nr, cr, R, N, CK, I, h, _⟩ := h
  exact ⟨h.bl, h.rnd, h.los, h.blk.cell rfl, h.blk.cell rfl⟩
theorem PX.drew (h : PX mu w0 w lo p s k0 k1 k2 k3 vC vD i) : PX mu w0 w.drew lo p s k0 k1 k2 k3 vC vD i := h.below (Below.refl _ _).drew
/-- both Cookies alike -/
theorem PX.count (h : PX mu w0 w lo p s k0 k1 k2 k3 vC vD i) : ∃ q : Nat, Calls Tryd.prog 23 #[.pointer vC] w (fun e w' => e = .returned (.int .i64 q) ∧ w = w') ∧ Calls Tryd.prog 29 #[.pointer vD] w (fun e w' => e = .returned (.int .i64 q) ∧ w = w') := by
  obtain ⟨c, bj, bk, g, M, gm, Am, nm, cm, Ar, nr, cr, R, N, CK, I, h, hA, hB, _⟩ := h
  exact ⟨CK.length, pcount hA, prcount hB⟩
end
/-- the numbers of one call are of their types -/
structure OkW (t : OpT) : Prop where
  rd : 0 ≤ t.rd ∧ t.rd ≤ 4294967295
  rp : 0 ≤ t.rp ∧ t.rp ≤ 4294967295
  id : 0 ≤ t.id ∧ t.id ≤ 4294967295
  ref : 0 ≤ t.ref ∧ t.ref ≤ 18446744073709551615
  org : 0 ≤ t.org ∧ t.org ≤ 18446744073709551615
  rc : 0 ≤ t.rc ∧ t.rc ≤ 18446744073709551615
  xmt : 0 ≤ t.xmt ∧ t.xmt ≤ 18446744073709551615
  no : U64 t.nonce
set_option maxRecDepth 100000 in
set_option maxHeartbeats 16000000 in
theorem runs47 (k0 k1 k2 k3 s ck : Int) (A0 : Option Addr) (n0 c0 : Nat) (T0 : List OpT) (w : World) (hk0 : U64 k0) (hk1 : U64 k1) (hk2 : U64 k2) (hk3 : U64 k3) (hs : U64 s) (hck : 0 ≤ ck ∧ ck ≤ 255) (hn : T0.length = n0) (hO : Opl w w.heap.size A0 T0) (hT0 : ∀ j, j < n0 → OkW (opAt T0 j)) (hnc : n0 ≤ c0) (hc : c0 ≤ 9223372036854775807) (hR : Rnd w) :
    Calls Tryd.prog 9 #[keyV k0 k1, keyV k2 k3, .int .u64 s, .int .u8 ck, .slice A0 n0 c0] w fun e w' => e = .returned (.bool true) ∧ Below w.heap.size w w' := by
  have hw0 := hR.lt
  by_cases h20 : ck ≤ 20
  · have d1 : decide ((20 : Int) < ck) = false := decide_eq_false (by omega)
    have hMo := fun W (hb : Below w.heap.size w W) => mod_any A0 n0 c0 T0 W hn (opl_wide (hO.below hb (Nat.le_refl _)) hb.size) hnc hc
    obtain ⟨MB, hMB⟩ : ∃ MB, modB T0 = MB := ⟨_, rfl⟩
    rw [hMB] at hMo
    have HMB := Lib.hid hMB
    have HN := Lib.hid hn
    have HT := Lib.hid hT0
    clear hMB hn hT0
    cases MB with
    | false =>
      go_enter Tryd.func9, Tryd.ntmps9
      go_wp2_with (first
        | (refine wpl_box (by rfl) 29 _ (by rfl) _ (keyL k0 k1) (by rfl) rfl ?_; intro w1 U1 s1 b1)
        | ((refine wpl_box (by rfl) 29 _ (by rfl) _ (keyL k2 k3) (by rfl) rfl ?_; intro w2 V2 s2 b2); (have B2 := b1.trans (b2.mono (by omega))))
        | (go_at_call 16; ((with_reducible refine (hMo _ B2).mono ?_); rintro e w3 ⟨rfl, b3⟩; (have B3 := B2.trans (b3.mono B2.size))))
        | (go_at_call 10; ((with_reducible refine (awake_any _ (hR.below B3 hw0)).mono ?_); rintro e w4 ⟨rfl, b4⟩)))
      go_ret
      exact ⟨rfl, B3.trans (b4.mono B3.size)⟩
    | true =>
      obtain ⟨m, rfl⟩ : ∃ m : Nat, ck = m := ⟨ck.toNat, by omega⟩
      have hm : m ≤ 20 := by omega
      have hg : Gn 1 := ⟨by omega, by omega⟩
      have hSe := fun bj x W (hx : U64 x) hJ => rseal_any bj s 2 1 k0 k1 k2 k3 x W hs hg hx hk0 hk1 hk2 hk3 hJ
      clear hck h20
      go_enter Tryd.func9, Tryd.ntmps9
      go_wp2_with (first
        | (refine wpl_box (by rfl) 29 _ (by rfl) _ (keyL k0 k1) (by rfl) rfl ?_; intro w1 U1 s1 b1)
        | ((refine wpl_box (by rfl) 29 _ (by rfl) _ (keyL k2 k3) (by rfl) rfl ?_; intro w2 V2 s2 b2); (have U2 := U1.below b2 (by omega)); (have B2 := b1.trans (b2.mono (by omega))))
        | (go_at_call 16; ((with_reducible refine (hMo _ B2).mono ?_); rintro e w3 ⟨rfl, b3⟩; (have B3 := B2.trans (b3.mono B2.size)); (have U3 := U2.below b3 U2.lt); (have V3 := V2.below b3 V2.lt)))
        | (go_at_call 14; ((with_reducible refine (rnew_some s 2 _ (by omega) (by omega)).mono ?_); rintro e w5 ⟨rfl, J5, b5⟩; (have U5 := U3.below b5 U3.lt); (have V5 := V3.below b5 V3.lt); (have B5 := B3.trans (b5.mono B3.size)))))
      have R5 := hR.below B5 hw0
      have z14 : w1.heap.size < w3.heap.size := V3.lt
      have z01 : w.heap.size < w1.heap.size := s1
      clear U1 U2 V2 U3 V3 b1 b2 b3 b5 B2 B3 s1 s2 d1 hMo
      generalize hq1 : w1.heap.size = n1 at *
      generalize hq4 : w3.heap.size = bk at *
      clear hq1 hq4
      go_loopw [12, 28] (fun l i wr => ∃ k : Nat, k ≤ m ∧ i = .int .u8 k ∧ ∃ g T A n c, l = .slice A n c ∧ CkLs wr bk g T A n c ∧ Hid (n = k) ∧ Blk wr w.heap.size 29 (keyL k0 k1) ∧ Blk wr n1 29 (keyL k2 k3) ∧ Blk wr bk 89 (jarL s 2 1) ∧ Rnd wr ∧ Below w.heap.size w wr) (fun _ i _ => m - (intOf i).toNat)
      case atStart => exact ⟨0, by omega, rfl, bk, [], none, 0, 0, rfl, CkLs.nil J5.lt, rfl, U5, V5, J5, R5, B5⟩
      case round =>
        obtain ⟨k, hk, rfl, g, T, A, n, c, rfl, hC, hnk, hU, hV, hJ, hRr, hB⟩ := hrel
        obtain ⟨wo, rfl⟩ : ∃ wo : World, wo = wr := ⟨wr, rfl⟩
        clear U5 V5 J5 R5 B5
        by_cases hlt : k < m
        · have i0 : (0 : Int) ≤ k := by omega
          have i1 : (k : Int) < m := by omega
          have hx : U64 (k : Int) := by unfold U64; omega
          have hSE' := hSe bk k wo hx hJ
          have h52 : (ckB s 1 k k0 k1 k2 k3).length = 52 := ckB_len _ _ _ _ _ _ _
          have i2 : IntKind.u8.wrap ((k : Int) + 1) = ((k + 1 : Nat) : Int) := by rw [IntKind.wrap_u8]; omega
          generalize ckB s 1 k k0 k1 k2 k3 = CK at hSE' h52
          go_wp2_with (first
            | (refine wpl_load (by rfl) 29 _ (by rfl) w.heap.size (by rfl) 29 _ hU _ Tryd.underlying29 rfl _ sizeKey (by rfl) ?_)
            | (refine wpl_load (by rfl) 29 _ (by rfl) n1 (by rfl) 29 _ hV _ Tryd.underlying29 rfl _ sizeKey (by rfl) ?_))
          with_reducible refine hSE'.mono ?_
          rintro e w6 ⟨A6, c6, rfl, O6, b6⟩
          obtain ⟨g6, rfl, hg6a, hg6b⟩ : ∃ g6, A6 = some ⟨g6, 0, none⟩ ∧ wo.heap.size ≤ g6 ∧ g6 < w6.heap.size := by
            rcases O6.form with ⟨_, e, _⟩ | ⟨g, e1, e2, e3⟩
            · rw [e] at h52; cases h52
            · exact ⟨g, e1, e2, e3⟩
          have hn8 : n ≤ 20 := by have := hnk.out; omega
          have hgl := hC.lt
          have hbl := hJ.lt
          have C6 := hC.below b6 (Nat.le_refl _)
          have U6 := hU.below b6 hU.lt
          have V6 := hV.below b6 hV.lt
          have J6 := hJ.below b6 hJ.lt
          have R6 := hRr.below b6 hRr.lt
          have B6 := hB.trans (b6.mono hB.size)
          clear hSE' hC hU hV hJ hRr hB b6
          have zU := U6.lt
          have zV := V6.lt
          have zJ := J6.lt
          have bA : Below w6.heap.size w6 (w6.alloc (.cells #[.slice (some ⟨g6, 0, none⟩) 52 c6] 23)) := (Below.refl _ w6).alloc (Nat.le_refl _) _
          have CA := C6.below bA (Nat.le_refl _)
          have OA := O6.below bA (Nat.le_refl _)
          have UA := U6.below bA U6.lt
          have VA := V6.below bA V6.lt
          have JA := J6.below bA J6.lt
          have RA := R6.below bA R6.lt
          have BA := B6.trans (bA.mono B6.size)
          have NA := Blk.new w6 23 #[.slice (some ⟨g6, 0, none⟩) 52 c6] [.slice (some ⟨g6, 0, none⟩) 52 c6] rfl
          clear C6 O6 U6 V6 J6 R6 B6 bA
          go_wp2_with (first
            | (refine wpl_append_rw (by rfl) 51 23 (.slice none 0 0) 24 (.tmp 31) (.tmp 38) (by rfl) Tryd.underlying51 infoSl (by rfl) (by omega) (by rfl) CA.row ⟨w6.heap.size, 0, none⟩ 1 1 [.slice (some ⟨g6, 0, none⟩) 52 c6] (by rfl) rfl (by omega) (cells2_of NA) (by simp [Value.oneCell']) (by omega) (by omega) (by have := JA.lt; intro k hk; rw [List.mem_singleton.1 hk]; exact this) ?_; intro g9 A9 c9 w9 R9 K9 G9 L9))
          have hdu := fun {q : Nat} (hq : q ≤ bk) => CA.fp hq
          have C9 : CkLs w9 bk g9 (T ++ [(g6, c6, CK)]) A9 (n + 1) c9 := CkLs.push (t := (g6, c6, CK)) CA (OA.wide (by omega)) h52 (by show g6 ≠ g; omega) (by
              rw [show ckV (g6, c6, CK) = .slice (some ⟨g6, 0, none⟩) 52 c6 from by show Value.slice _ CK.length _ = _; rw [h52]]; exact R9) K9 G9 L9
          have hU9 := K9.blk UA (hdu (by omega))
          have hV9 := K9.blk VA (hdu (by omega))
          have hJ9 := K9.blk JA (hdu (Nat.le_refl _))
          have hR9 := K9.rnd RA (hdu (by omega))
          have hB9 : Below w.heap.size w w9 := K9.toBelow BA BA.size (fun q hq => by
            obtain ⟨hc, rfl⟩ := fp_mem hq
            have := CA.lo1
            omega)
          have hnk9 : Hid (n + 1 = k + 1) := by show _ = _; rw [hnk.out]
          exact ⟨⟨k + 1, by omega, by go_num, g9, _, A9, n + 1, c9, rfl, C9, hnk9, hU9, hV9, hJ9, hR9, hB9⟩, by simp [intOf]; omega⟩
        · obtain rfl : k = m := by omega
          have hnk' : n = k := hnk.out
          have hL := hC.ls
          have hML : (T.map (fun t : CkT => t.2.2)).length = n := by rw [List.length_map, hC.tn]
          have h52 : ∀ l ∈ T.map (fun t : CkT => t.2.2), l.length = 52 := fun l hl => by
            obtain ⟨t, ht, rfl⟩ := List.mem_map.1 hl
            exact (hC.ck t ht).2
          have hcap := hC.row.2.1
          have hcap2 := hC.row.2.2.1
          have hn20 : n ≤ 20 := by omega
          have h8M : ∀ mu, mu = decide (n ≤ 8) → (ckM mu (T.map (fun t : CkT => t.2.2))).length ≤ 8 := fun mu e => by
            cases mu with
            | false => exact Nat.zero_le _
            | true =>
              have : n ≤ 8 := by simpa using e
              show (T.map (fun t : CkT => t.2.2)).length ≤ 8
              omega
          obtain ⟨mu, hmu⟩ : ∃ mu, mu = decide (n ≤ 8) := ⟨_, rfl⟩
          have h8' := h8M mu hmu
          generalize T.map (fun t : CkT => t.2.2) = M at hL hML h52 h8'
          have hP := pnew mu w.heap.size k0 k1 k2 k3 A n c M wo.drew hmu (by omega) hML hL hcap h52 hB.size
          have hQ := fun W (hb : Below wo.heap.size wo W) => prnew mu w.heap.size k0 k1 k2 k3 A n c M W hmu (by omega) hML ((hL.below hb (Nat.le_refl _)).wide hb.size) hcap h52 (Nat.le_trans hB.size hb.size)
          have HMu := Lib.hid hmu
          have zJ := hJ.lt
          clear hmu h8M hnk hnk' hC hSe h52 hL hML hcap hcap2 hlt
          have zW : w.heap.size ≤ wo.heap.size := hB.size
          go_wp2_with fail
          refine wp_region_heldL (fun y => Blk y w.heap.size 29 (keyL k0 k1) ∧ Blk y n1 29 (keyL k2 k3)) 14 (by kernel_rfl) rfl ⟨hU.drew, hV.drew⟩ fun hHeld => ?_
          simp only [List.replicate]
          refine wpH_t 0 (.agg (keyL k0 k1).toArray) (by exact gE rfl) (by kernel_rfl) (by intro _ _ _ h; exact h) (yieldsIf_load_mid (by rfl) 29 _ (by rfl) w.heap.size 0 (by rfl) (keyL k0 k1) _ (fun w' h => h.1.range) Tryd.underlying29 rfl sizeKey) (by assumption) ?_
          (try simp only [Act.put, zs0, zs1, zs2])
          refine wpH_t 1 (.agg (keyL k2 k3).toArray) (by exact gE rfl) (by kernel_rfl) (by intro _ _ _ h; exact h) (yieldsIf_load_mid (by rfl) 29 _ (by rfl) n1 0 (by rfl) (keyL k2 k3) _ (fun w' h => h.2.range) Tryd.underlying29 rfl sizeKey) (by assumption) ?_
          (try simp only [Act.put, zs0, zs1, zs2])
          (refine wpH_t 2 _ (by exact gE rfl) (by kernel_rfl) (by intro _ _ _ h; exact h) (Or.inl ⟨by rfl, (by intro _ h; (try dsimp only at h); go_simp; first | done | with_reducible rfl)⟩) (by assumption) ?_; (try simp only [Act.put, zs0, zs1, zs2]))
          refine wpH_t 4 (.agg (keyL k0 k1).toArray) (by exact gE rfl) (by kernel_rfl) (by intro _ _ _ h; exact h) (yieldsIf_load_mid (by rfl) 29 _ (by rfl) w.heap.size 0 (by rfl) (keyL k0 k1) _ (fun w' h => h.1.range) Tryd.underlying29 rfl sizeKey) (by assumption) ?_
          (try simp only [Act.put, zs0, zs1, zs2])
          refine wpH_t 5 (.agg (keyL k2 k3).toArray) (by exact gE rfl) (by kernel_rfl) (by intro _ _ _ h; exact h) (yieldsIf_load_mid (by rfl) 29 _ (by rfl) n1 0 (by rfl) (keyL k2 k3) _ (fun w' h => h.2.range) Tryd.underlying29 rfl sizeKey) (by assumption) ?_
          (try simp only [Act.put, zs0, zs1, zs2])
          (refine wpH_t 6 _ (by exact gE rfl) (by kernel_rfl) (by intro _ _ _ h; exact h) (Or.inl ⟨by rfl, (by intro _ h; (try dsimp only at h); go_simp; first | done | with_reducible rfl)⟩) (by assumption) ?_; (try simp only [Act.put, zs0, zs1, zs2]))
          (refine wpH_t 8 _ (by exact gE rfl) (by kernel_rfl) (by intro _ _ _ h; exact h) (Or.inl ⟨by rfl, (by intro _ h; (try dsimp only at h); go_simp; first | done | with_reducible rfl)⟩) (by assumption) ?_; (try simp only [Act.put, zs0, zs1, zs2]))
          (refine wpH_t 10 _ (by exact gE rfl) (by kernel_rfl) (by intro _ _ _ h; exact h) (Or.inl ⟨by rfl, (by intro _ h; (try dsimp only at h); go_simp; first | done | with_reducible rfl)⟩) (by assumption) ?_; (try simp only [Act.put, zs0, zs1, zs2]))
          (refine wpH_one (i := 3) (by exact gE rfl) (by kernel_rfl) (by rfl) ?_; (go_simp; (with_reducible refine hP.mono ?_); rintro e w4 ⟨vC, rfl, hvC, hPA, b4⟩; refine ⟨⟨hU.drew.below b4 hU.lt, hV.drew.below b4 hV.lt⟩, ?_⟩); (try simp only [Act.put, zs0, zs1, zs2]))
          have b4' : Below wo.heap.size wo w4 := (Below.refl _ _).drew.trans b4
          have hQ4 := hQ w4 b4'
          have U4 := hU.below b4' hU.lt
          have V4 := hV.below b4' hV.lt
          (refine wpH_one (i := 7) (by exact gE rfl) (by kernel_rfl) (by rfl) ?_; (go_simp; (with_reducible refine hQ4.mono ?_); rintro e w5 ⟨vD, rfl, hvD, hPB, b5⟩; refine ⟨⟨U4.below b5 U4.lt, V4.below b5 V4.lt⟩, ?_⟩); (try simp only [Act.put, zs0, zs1, zs2]))
          have U5 := U4.below b5 U4.lt
          have V5 := V4.below b5 V4.lt
          (refine wpH_one (i := 9) (by exact gE rfl) (by kernel_rfl) (by rfl) ?_; (go_simp; (with_reducible refine (new_some s 2 _ (by omega) (by omega)).mono ?_); rintro e w6 ⟨rfl, J6, b6⟩; refine ⟨⟨U5.below b6 U5.lt, V5.below b6 V5.lt⟩, ?_⟩); (try simp only [Act.put, zs0, zs1, zs2]))
          have U6 := U5.below b6 U5.lt
          have V6 := V5.below b6 V5.lt
          have hH6 : (fun y : World => Blk y w.heap.size 29 (keyL k0 k1) ∧ Blk y n1 29 (keyL k2 k3)) w6 := ⟨U6, V6⟩
          (refine wpH_t 11 _ (by exact gE rfl) (by kernel_rfl) (by intro _ _ _ h; exact h) (Or.inl ⟨by rfl, (by intro _ h; (try dsimp only at h); go_simp; first | done | with_reducible rfl)⟩) (by assumption) ?_; (try simp only [Act.put, zs0, zs1, zs2]))
          obtain ⟨w7, hw7⟩ : ∃ w7, w7 = w6.alloc (.cells #[.pointer vC, .pointer vD, .pointer (some ⟨w5.heap.size, 0, none⟩), .pointer (some ⟨bk, 0, none⟩), .slice none 0 0, .slice none 0 0] 71) := ⟨_, rfl⟩
          have b7 : Below w6.heap.size w6 w7 := by rw [hw7]; exact (Below.refl _ w6).alloc (Nat.le_refl _) _
          have P7 : Blk w7 w6.heap.size 71 (pairL vC vD w5.heap.size bk none 0 0 none 0 0) := by rw [hw7]; exact Blk.new w6 _ _ _ rfl
          (refine wpH_one (i := 12) (by exact gE rfl) (by kernel_rfl) (by rfl) ?_; (go_simp; rw [← hw7]; refine ⟨⟨U6.below b7 U6.lt, V6.below b7 V6.lt⟩, ?_⟩); (try simp only [Act.put, zs0, zs1, zs2]))
          have hH7 : (fun y : World => Blk y w.heap.size 29 (keyL k0 k1) ∧ Blk y n1 29 (keyL k2 k3)) w7 := ⟨U6.below b7 U6.lt, V6.below b7 V6.lt⟩
          (refine wpH_t 13 _ (by exact gE rfl) (by kernel_rfl) (by intro _ _ _ h; exact h) (Or.inl ⟨by rfl, (by intro _ h; (try dsimp only at h); go_simp; first | done | with_reducible rfl)⟩) (by assumption) ?_; (try simp only [Act.put, zs0, zs1, zs2]))
          refine wpH_done (by kernel_rfl) ?_ _
          clear hw7 hHeld hH6 hH7 hQ hQ4 U4 V4 U5 V5 U6 V6 hU hV
          have z4 := b4'.size
          have z5 := b5.size
          have z6 := b6.size
          have z7 := b7.size
          have zb : w5.heap.size < w6.heap.size := J6.lt
          have zwd : wo.drew.heap.size = wo.heap.size := rfl
          obtain ⟨d, hd⟩ : ∃ d : Nat → Nat, d = col7 bk w5.heap.size w6.heap.size wo.heap.size w4.heap.size w5.heap.size := ⟨_, rfl⟩
          have A4 := hPA d (fun x h1 h2 => by rw [hd]; exact col7_1 (by omega) (by omega) (by omega) (by omega) h2)
          have B5 := hPB d (fun x h1 h2 => by rw [hd]; exact col7_2 (by omega) (by omega) (by omega) (by omega) h1 h2)
          have A7 := A4.gw (a := 0) (d := d) (Gw.of_below ((b5.trans (b6.mono z5)).trans (b7.mono (Nat.le_trans z5 z6))) (fun _ _ => rfl)) (by omega)
          have B7 := B5.gw (a := 0) (d := d) (Gw.of_below (b6.trans (b7.mono z6)) (fun _ _ => rfl)) (by omega)
          have BB : Below w.heap.size w w7 := (((hB.trans (b4'.mono zW)).trans (b5.mono (by omega))).trans (b6.mono (by omega))).trans (b7.mono (by omega))
          have hPX : PX mu w w7 w.heap.size w6.heap.size s k0 k1 k2 k3 vC vD 0 := ⟨d, w5.heap.size, bk, 1, [], w6.heap.size, none, 0, 0, none, 0, 0, [], 0, ckM mu M, [], {
            blk := P7
            cp := by rw [hd]; exact col7_p (by omega) (by omega)
            jar := J6.below b7 J6.lt
            cj := by rw [hd]; exact col7_j (by omega)
            kar := (((hJ.below b4' zJ).below b5 (by omega)).below b6 (by omega)).below b7 (by omega)
            ck := by rw [hd]; exact col7_k
            mn := rfl
            row := Rw.nil _ _ _ _
            gml := P7.lt
            gmc := .inl rfl
            me := fun t ht => by cases ht
            rn := rfl
            r := Ow.nil _ _
            rc := fun g e => by cases e
            rm := by omega
            rnd := hR.below BB hw0
            bl := BB
            lo0 := by omega
            los := by omega
            low := fun x hx => by rw [hd]; exact col7_3 (by omega) (by omega) (by omega) (by omega)
            gg := ⟨by omega, by omega⟩
            mi := Nat.le_refl _ }, A7, B7, h8', Nat.zero_le _, by omega, by omega⟩
          clear A4 A7 B5 B7 hPA hPB hd b4 b4' b5 b6 b7 hP J6 hJ hRr hB
          have hv : (vC = none ∧ vD = none) ∨ ((∃ a, vC = some a) ∧ ∃ a, vD = some a) := by
            cases mu with
            | false =>
              refine .inl ⟨?_, ?_⟩
              · cases vC with
                | none => rfl
                | some a => exact absurd (hvC.2 ⟨a, rfl⟩) (by simp)
              · cases vD with
                | none => rfl
                | some a => exact absurd (hvD.2 ⟨a, rfl⟩) (by simp)
            | true => exact .inr ⟨hvC.1 rfl, hvD.1 rfl⟩
          have hc0 := P7.drew.cell (i := 0) rfl
          have hc1 := P7.drew.cell (i := 1) rfl
          have hc2 := P7.drew.cell (i := 2) rfl
          have hok := (mod_yes HMB.out).2
          have hn40 := (mod_yes HMB.out).1
          rw [HN.out] at hok hn40
          have HOk := Lib.hid hok
          generalize w6.heap.size = p at *
          generalize w5.heap.size = bj at *
          clear hvC hvD HMu h8' zJ zW z4 z5 z6 z7 zb zwd hm hk hn20 HMB hok BB
          rcases hv with ⟨rfl, rfl⟩ | ⟨⟨aC, rfl⟩, ⟨aD, rfl⟩⟩
          · skip
            go_wp2_with fail
            refine wp_region_det (fun y => y = w7.drew) 18 (by kernel_rfl) rfl (by rfl) ?_
            simp only [List.replicate]
            (refine wpD_t 0 _ (by exact gE rfl) (by kernel_rfl) (by rfl) (YS.of_value (by intro _ h; (try dsimp only at h); go_simp; first | done | with_reducible rfl)) ?_; (try simp only [Act.put, zs0, zs1, zs2]))
            (refine wpD_t 1 _ (by exact gE rfl) (by kernel_rfl) (by rfl) (YS.of_value (by intro _ h; (try dsimp only at h); go_simp; first | done | with_reducible rfl)) ?_; (try simp only [Act.put, zs0, zs1, zs2]))
            (refine wpD_t 2 _ (by exact gE rfl) (by kernel_rfl) (by rfl) (YS.of_value (by intro _ h; (try dsimp only at h); go_simp; first | done | with_reducible rfl)) ?_; (try simp only [Act.put, zs0, zs1, zs2]))
            (refine wpD_t 3 _ (by exact gE rfl) (by kernel_rfl) (by rfl) (YS.of_value (by intro _ h; (try dsimp only at h); go_simp; first | done | with_reducible rfl)) ?_; (try simp only [Act.put, zs0, zs1, zs2]))
            (refine wpD_t 4 _ (by exact gE rfl) (by kernel_rfl) (by rfl) (YS.of_value (by intro _ h; (try dsimp only at h); go_simp; first | done | with_reducible rfl)) ?_; (try simp only [Act.put, zs0, zs1, zs2]))
            (refine wpD_t 5 _ (by exact gE rfl) (by kernel_rfl) (by rfl) (YS.of_value (by intro _ h; (try dsimp only at h); go_simp; first | done | with_reducible rfl)) ?_; (try simp only [Act.put, zs0, zs1, zs2]))
            (refine wpD_t 6 _ (by exact gE rfl) (by kernel_rfl) (by rfl) (YS.of_value (by intro _ h; (try dsimp only at h); go_simp; first | done | with_reducible rfl)) ?_; (try simp only [Act.put, zs0, zs1, zs2]))
            (refine wpD_t 7 _ (by exact gE rfl) (by kernel_rfl) (by rfl) (YS.of_value (by intro _ h; (try dsimp only at h); go_simp; first | done | with_reducible rfl)) ?_; (try simp only [Act.put, zs0, zs1, zs2]))
            (refine wpD_t 8 _ (by exact gE rfl) (by kernel_rfl) (by rfl) (YS.of_value (by intro _ h; (try dsimp only at h); go_simp; first | done | with_reducible rfl)) ?_; (try simp only [Act.put, zs0, zs1, zs2]))
            (refine wpD_t 9 _ (by exact gE rfl) (by kernel_rfl) (by rfl) (YS.of_value (by intro _ h; (try dsimp only at h); go_simp; first | done | with_reducible rfl)) ?_; (try simp only [Act.put, zs0, zs1, zs2]))
            (refine wpD_t 10 _ (by exact gE rfl) (by kernel_rfl) (by rfl) (YS.of_value (by intro _ h; (try dsimp only at h); go_simp; first | done | with_reducible rfl)) ?_; (try simp only [Act.put, zs0, zs1, zs2]))
            (refine wpD_t 11 _ (by exact gE rfl) (by kernel_rfl) (by rfl) (YS.of_value (by intro _ h; (try dsimp only at h); go_simp; first | done | with_reducible rfl)) ?_; (try simp only [Act.put, zs0, zs1, zs2]))
            (refine wpD_t 12 _ (by exact gE rfl) (by kernel_rfl) (by rfl) (YS.of_value (by intro _ h; (try dsimp only at h); go_simp; first | done | with_reducible rfl)) ?_; (try simp only [Act.put, zs0, zs1, zs2]))
            (refine wpD_t 13 _ (by exact gE rfl) (by kernel_rfl) (by rfl) (YS.of_value (by intro _ h; (try dsimp only at h); go_simp; first | done | with_reducible rfl)) ?_; (try simp only [Act.put, zs0, zs1, zs2]))
            (refine wpD_t 14 _ (by exact gE rfl) (by kernel_rfl) (by rfl) (YS.of_value (by intro _ h; (try dsimp only at h); go_simp; first | done | with_reducible rfl)) ?_; (try simp only [Act.put, zs0, zs1, zs2]))
            (refine wpD_t 15 _ (by exact gE rfl) (by kernel_rfl) (by rfl) (YS.of_value (by intro _ h; (try dsimp only at h); go_simp; first | done | with_reducible rfl)) ?_; (try simp only [Act.put, zs0, zs1, zs2]))
            (refine wpD_t 16 _ (by exact gE rfl) (by kernel_rfl) (by rfl) (YS.of_value (by intro _ h; (try dsimp only at h); go_simp; first | done | with_reducible rfl)) ?_; (try simp only [Act.put, zs0, zs1, zs2]))
            (refine wpD_t 17 _ (by exact gE rfl) (by kernel_rfl) (by rfl) (YS.of_value (by intro _ h; (try dsimp only at h); go_simp; first | done | with_reducible rfl)) ?_; (try simp only [Act.put, zs0, zs1, zs2]))
            refine wpD_done (by kernel_rfl) ?_ _
            intro w8 hw8
            have hP8 : PX mu w w8 w.heap.size p s k0 k1 k2 k3 none none 0 := by rw [hw8]; exact hPX.drew
            clear hw8 hPX P7 hc0 hc1 hc2
            go_wp2_with fail
            go_loopw [74] (fun i wr => ∃ k : Nat, k ≤ n0 ∧ i = .int .i64 k ∧ PX mu w wr w.heap.size p s k0 k1 k2 k3 none none k) (fun i _ => n0 - (intOf i).toNat)
            case atStart => exact ⟨0, by omega, rfl, hP8⟩
            case round =>
              obtain ⟨k, hk, rfl, hPX⟩ := hrel
              obtain ⟨hBl, hRr, hlos, _, _⟩ := hPX.facts
              clear hP8
              by_cases hlt : k < n0
              · obtain ⟨b, o, rfl, hbw, hx⟩ := (hO.below hBl (Nat.le_refl _)) (by rw [HN.out]; omega)
                obtain ⟨Ak, ca, Bk, cb, hrg, ⟨hX, q1, q2, q3⟩, hBb, q4, q5, q6⟩ := hx k (by rw [HN.out]; omega)
                obtain ⟨ob, oL, oF⟩ := okO_yes (HOk.out k hlt)
                have oD := fewL_dt oF
                obtain ⟨t1, t2, t3, t4, t5, t6, t7, t8⟩ := HT.out k hlt
                have hi0 : (0 : Int) ≤ k := by omega
                have hi1 : (k : Int) < n0 := by omega
                generalize opAt T0 k = t at hrg hX q1 q3 hBb q4 q6 ob oL oF oD t1 t2 t3 t4 t5 t6 t7 t8
                obtain ⟨kd, nn, l, v, m, st, po, pr, rd, rp, id, ref, org, rec, xmt, nonce, L, bb⟩ := t
                dsimp only [opCt] at hrg hX q1 q3 hBb q4 q6 ob oL oF oD t1 t2 t3 t4 t5 t6 t7 t8
                obtain ⟨nb, hnb⟩ : ∃ nb, bb.length = nb := ⟨_, rfl⟩
                obtain ⟨na, hna⟩ : ∃ na, L.length = na := ⟨_, rfl⟩
                rw [hnb, hna] at hrg
                rw [hna] at q1 q3 oD
                rw [hnb] at q4 ob
                have HNa := Lib.hid hna
                have HNb := Lib.hid hnb
                have HD := Lib.hid oD
                clear hnb hna oL oF hx q6 oD
                go_wp2_with (first
                  | (refine wpl_loadr (by rfl) 45 _ (by rfl) b (o + k * 18) (by rfl) _ hrg _ Tryd.underlying45 rfl _ sizeOp (by rfl) ?_)
                  | (refine wpl_alloc (by rfl) 45 (by rfl) (.agg (opC 0 0 0 0 0 0 0 0 0 0 0 0 0 0 0 0 none 0 0 none 0 0).toArray) (opC 0 0 0 0 0 0 0 0 0 0 0 0 0 0 0 0 none 0 0 none 0 0) zeroOp rfl ?_; intro wa Ja sa ba)
                  | (refine wpl_store (by rfl) 45 _ _ (by rfl) wr.heap.size (by rfl) _ (by rfl) _ rfl 45 _ Ja (by rfl) _ sizeOp (by rfl) (by simp [Value.oneCell']) ?_; intro wb Jb sb gb))
                have bw : Below wr.heap.size wr wb.drew := (ba.trans (gb.below ba.size (Nat.le_refl _))).drew
                have hPb := hPX.below bw
                obtain ⟨_, _, _, hp0, hp1⟩ := hPb.facts
                have hDo := do_any kd l v m st po pr rd rp id ref org rec xmt nonce nn Ak na ca Bk nb cb L bb hPb hs hk0 hk1 hk2 hk3 t1 t2 t3 t4 t5 t6 t7 t8 (by omega) (((hX.below bw hlos).wide (Nat.le_trans hlos bw.size))) HNa.out q1 q2 q3 HD.out (hBb.below bw hlos) HNb.out q4 q5 ob
                have hJd := Jb.drew.range
                clear hrg Ja ba gb sa sb hX hBb hPX hPb Jb
                refine wp_region_heldL (fun y => y.cell? ⟨p, 0, none⟩ = some (.pointer none) ∧ y.cell? ⟨p, 1, none⟩ = some (.pointer none)) 17 (by kernel_rfl) rfl ⟨hp0, hp1⟩ fun hHeld => ?_
                simp only [List.replicate]
                (refine wpH_t 0 _ (by exact gE rfl) (by kernel_rfl) (by intro _ _ _ h; exact h) (Or.inl ⟨by rfl, (by intro _ h; (try dsimp only at h); go_simp; first | done | with_reducible rfl)⟩) (by assumption) ?_; (try simp only [Act.put, zs0, zs1, zs2]))
                (refine wpH_one (i := 1) (by exact gE rfl) (by kernel_rfl) (by rfl) ?_; (refine wp_load_mid 45 _ (by rfl) wr.heap.size 0 (by rfl) (opC kd nn l v m st po pr rd rp id ref org rec xmt nonce Ak na ca Bk nb cb) _ hJd Tryd.underlying45 rfl sizeOp ?_; refine ⟨hHeld, ?_⟩); (try simp only [Act.put, zs0, zs1, zs2]))
                (refine wpH_one (i := 2) (by exact gE rfl) (by kernel_rfl) (by rfl) ?_; (go_simp; (with_reducible refine hDo.mono ?_); rintro e w5 ⟨rfl, hP5⟩; (obtain ⟨_, _, _, h50, h51⟩ := hP5.facts); (obtain ⟨q, hq1, hq2⟩ := hP5.count); refine ⟨⟨h50, h51⟩, ?_⟩); (try simp only [Act.put, zs0, zs1, zs2]))
                have hH5 : w5.cell? ⟨p, 0, none⟩ = some (.pointer none) ∧ w5.cell? ⟨p, 1, none⟩ = some (.pointer none) := ⟨h50, h51⟩
                (refine wpH_t 3 _ (by exact gE rfl) (by kernel_rfl) (by intro _ _ _ h; exact h) (Or.inl ⟨by rfl, (by intro _ h; (try dsimp only at h); go_simp; first | done | with_reducible rfl)⟩) (by assumption) ?_; (try simp only [Act.put, zs0, zs1, zs2]))
                (refine wpH_t 4 _ (by exact gE rfl) (by kernel_rfl) (by intro _ _ _ h; exact h) (Or.inl ⟨by rfl, (by intro _ h; (try dsimp only at h); go_simp; first | done | with_reducible rfl)⟩) (by assumption) ?_; (try simp only [Act.put, zs0, zs1, zs2]))
                (refine wpH_t 5 _ (by exact gE rfl) (by kernel_rfl) (by intro _ _ _ h; exact h) (Or.inl ⟨by rfl, (by intro _ h; (try dsimp only at h); go_simp; first | done | with_reducible rfl)⟩) (by assumption) ?_; (try simp only [Act.put, zs0, zs1, zs2]))
                (refine wpH_t 6 _ (by exact gE rfl) (by kernel_rfl) (by intro _ _ _ h; exact h) (Or.inl ⟨by rfl, (by intro _ h; (try dsimp only at h); go_simp; first | done | with_reducible rfl)⟩) (by assumption) ?_; (try simp only [Act.put, zs0, zs1, zs2]))
                (refine wpH_t 7 _ (by exact gE rfl) (by kernel_rfl) (by intro _ _ _ h; exact h) (Or.inl ⟨by rfl, (by intro _ h; (try dsimp only at h); go_simp; first | done | with_reducible rfl)⟩) (by assumption) ?_; (try simp only [Act.put, zs0, zs1, zs2]))
                (refine wpH_t 8 _ (by exact gE rfl) (by kernel_rfl) (by intro _ _ _ h; exact h) (Or.inl ⟨by rfl, (by intro _ h; (try dsimp only at h); go_simp; first | done | with_reducible rfl)⟩) (by assumption) ?_; (try simp only [Act.put, zs0, zs1, zs2]))
                (refine wpH_t 10 _ (by exact gE rfl) (by kernel_rfl) (by intro _ _ _ h; exact h) (Or.inl ⟨by rfl, (by intro _ h; (try dsimp only at h); go_simp; first | done | with_reducible rfl)⟩) (by assumption) ?_; (try simp only [Act.put, zs0, zs1, zs2]))
                (refine wpH_t 11 _ (by exact gE rfl) (by kernel_rfl) (by intro _ _ _ h; exact h) (Or.inl ⟨by rfl, (by intro _ h; (try dsimp only at h); go_simp; first | done | with_reducible rfl)⟩) (by assumption) ?_; (try simp only [Act.put, zs0, zs1, zs2]))
                (refine wpH_t 12 _ (by exact gE rfl) (by kernel_rfl) (by intro _ _ _ h; exact h) (Or.inl ⟨by rfl, (by intro _ h; (try dsimp only at h); go_simp; first | done | with_reducible rfl)⟩) (by assumption) ?_; (try simp only [Act.put, zs0, zs1, zs2]))
                (refine wpH_t 13 _ (by exact gE rfl) (by kernel_rfl) (by intro _ _ _ h; exact h) (Or.inl ⟨by rfl, (by intro _ h; (try dsimp only at h); go_simp; first | done | with_reducible rfl)⟩) (by assumption) ?_; (try simp only [Act.put, zs0, zs1, zs2]))
                (refine wpH_one (i := 9) (by exact gE rfl) (by kernel_rfl) (by rfl) ?_; (go_simp; (with_reducible refine hq1.mono ?_); rintro e _ ⟨rfl, rfl⟩; refine ⟨⟨h50, h51⟩, ?_⟩); (try simp only [Act.put, zs0, zs1, zs2]))
                (refine wpH_one (i := 14) (by exact gE rfl) (by kernel_rfl) (by rfl) ?_; (go_simp; (with_reducible refine hq2.mono ?_); rintro e _ ⟨rfl, rfl⟩; refine ⟨⟨h50, h51⟩, ?_⟩); (try simp only [Act.put, zs0, zs1, zs2]))
                (refine wpH_t 15 _ (by exact gE rfl) (by kernel_rfl) (by intro _ _ _ h; exact h) (Or.inl ⟨by rfl, (by intro _ h; (try dsimp only at h); go_simp; first | done | with_reducible rfl)⟩) (by assumption) ?_; (try simp only [Act.put, zs0, zs1, zs2]))
                (refine wpH_t 16 _ (by exact gE rfl) (by kernel_rfl) (by intro _ _ _ h; exact h) (Or.inl ⟨by rfl, (by intro _ h; (try dsimp only at h); go_simp; first | done | with_reducible rfl)⟩) (by assumption) ?_; (try simp only [Act.put, zs0, zs1, zs2]))
                refine wpH_done (by kernel_rfl) ?_ _
                clear hHeld hH5 hDo hq1 hq2 hJd
                go_wp2_with fail
                exact ⟨⟨k + 1, by omega, by go_num, hP5⟩, by simp [intOf]; omega⟩
              · obtain rfl : k = n0 := by omega
                go_wp2_with (first
                  | (go_at_call 10; ((with_reducible refine (awake_any _ hRr).mono ?_); rintro e w4 ⟨rfl, b4⟩)))
                go_ret
                exact ⟨rfl, hBl.trans (b4.mono hlos)⟩
          · skip
            go_wp2_with fail
            refine wp_region_det (fun y => y = w7.drew) 18 (by kernel_rfl) rfl (by rfl) ?_
            simp only [List.replicate]
            (refine wpD_t 0 _ (by exact gE rfl) (by kernel_rfl) (by rfl) (YS.of_value (by intro _ h; (try dsimp only at h); go_simp; first | done | with_reducible rfl)) ?_; (try simp only [Act.put, zs0, zs1, zs2]))
            (refine wpD_t 1 _ (by exact gE rfl) (by kernel_rfl) (by rfl) (YS.of_value (by intro _ h; (try dsimp only at h); go_simp; first | done | with_reducible rfl)) ?_; (try simp only [Act.put, zs0, zs1, zs2]))
            (refine wpD_t 2 _ (by exact gE rfl) (by kernel_rfl) (by rfl) (YS.of_value (by intro _ h; (try dsimp only at h); go_simp; first | done | with_reducible rfl)) ?_; (try simp only [Act.put, zs0, zs1, zs2]))
            (refine wpD_t 3 _ (by exact gE rfl) (by kernel_rfl) (by rfl) (YS.of_value (by intro _ h; (try dsimp only at h); go_simp; first | done | with_reducible rfl)) ?_; (try simp only [Act.put, zs0, zs1, zs2]))
            (refine wpD_t 4 _ (by exact gE rfl) (by kernel_rfl) (by rfl) (YS.of_value (by intro _ h; (try dsimp only at h); go_simp; first | done | with_reducible rfl)) ?_; (try simp only [Act.put, zs0, zs1, zs2]))
            (refine wpD_t 5 _ (by exact gE rfl) (by kernel_rfl) (by rfl) (YS.of_value (by intro _ h; (try dsimp only at h); go_simp; first | done | with_reducible rfl)) ?_; (try simp only [Act.put, zs0, zs1, zs2]))
            (refine wpD_t 6 _ (by exact gE rfl) (by kernel_rfl) (by rfl) (YS.of_value (by intro _ h; (try dsimp only at h); go_simp; first | done | with_reducible rfl)) ?_; (try simp only [Act.put, zs0, zs1, zs2]))
            (refine wpD_t 7 _ (by exact gE rfl) (by kernel_rfl) (by rfl) (YS.of_value (by intro _ h; (try dsimp only at h); go_simp; first | done | with_reducible rfl)) ?_; (try simp only [Act.put, zs0, zs1, zs2]))
            (refine wpD_t 8 _ (by exact gE rfl) (by kernel_rfl) (by rfl) (YS.of_value (by intro _ h; (try dsimp only at h); go_simp; first | done | with_reducible rfl)) ?_; (try simp only [Act.put, zs0, zs1, zs2]))
            (refine wpD_t 9 _ (by exact gE rfl) (by kernel_rfl) (by rfl) (YS.of_value (by intro _ h; (try dsimp only at h); go_simp; first | done | with_reducible rfl)) ?_; (try simp only [Act.put, zs0, zs1, zs2]))
            (refine wpD_t 10 _ (by exact gE rfl) (by kernel_rfl) (by rfl) (YS.of_value (by intro _ h; (try dsimp only at h); go_simp; first | done | with_reducible rfl)) ?_; (try simp only [Act.put, zs0, zs1, zs2]))
            (refine wpD_t 11 _ (by exact gE rfl) (by kernel_rfl) (by rfl) (YS.of_value (by intro _ h; (try dsimp only at h); go_simp; first | done | with_reducible rfl)) ?_; (try simp only [Act.put, zs0, zs1, zs2]))
            (refine wpD_t 12 _ (by exact gE rfl) (by kernel_rfl) (by rfl) (YS.of_value (by intro _ h; (try dsimp only at h); go_simp; first | done | with_reducible rfl)) ?_; (try simp only [Act.put, zs0, zs1, zs2]))
            (refine wpD_t 13 _ (by exact gE rfl) (by kernel_rfl) (by rfl) (YS.of_value (by intro _ h; (try dsimp only at h); go_simp; first | done | with_reducible rfl)) ?_; (try simp only [Act.put, zs0, zs1, zs2]))
            (refine wpD_t 14 _ (by exact gE rfl) (by kernel_rfl) (by rfl) (YS.of_value (by intro _ h; (try dsimp only at h); go_simp; first | done | with_reducible rfl)) ?_; (try simp only [Act.put, zs0, zs1, zs2]))
            (refine wpD_t 15 _ (by exact gE rfl) (by kernel_rfl) (by rfl) (YS.of_value (by intro _ h; (try dsimp only at h); go_simp; first | done | with_reducible rfl)) ?_; (try simp only [Act.put, zs0, zs1, zs2]))
            (refine wpD_t 16 _ (by exact gE rfl) (by kernel_rfl) (by rfl) (YS.of_value (by intro _ h; (try dsimp only at h); go_simp; first | done | with_reducible rfl)) ?_; (try simp only [Act.put, zs0, zs1, zs2]))
            (refine wpD_t 17 _ (by exact gE rfl) (by kernel_rfl) (by rfl) (YS.of_value (by intro _ h; (try dsimp only at h); go_simp; first | done | with_reducible rfl)) ?_; (try simp only [Act.put, zs0, zs1, zs2]))
            refine wpD_done (by kernel_rfl) ?_ _
            intro w8 hw8
            have hP8 : PX mu w w8 w.heap.size p s k0 k1 k2 k3 (some aC) (some aD) 0 := by rw [hw8]; exact hPX.drew
            clear hw8 hPX P7 hc0 hc1 hc2
            go_wp2_with fail
            go_loopw [74] (fun i wr => ∃ k : Nat, k ≤ n0 ∧ i = .int .i64 k ∧ PX mu w wr w.heap.size p s k0 k1 k2 k3 (some aC) (some aD) k) (fun i _ => n0 - (intOf i).toNat)
            case atStart => exact ⟨0, by omega, rfl, hP8⟩
            case round =>
              obtain ⟨k, hk, rfl, hPX⟩ := hrel
              obtain ⟨hBl, hRr, hlos, _, _⟩ := hPX.facts
              clear hP8
              by_cases hlt : k < n0
              · obtain ⟨b, o, rfl, hbw, hx⟩ := (hO.below hBl (Nat.le_refl _)) (by rw [HN.out]; omega)
                obtain ⟨Ak, ca, Bk, cb, hrg, ⟨hX, q1, q2, q3⟩, hBb, q4, q5, q6⟩ := hx k (by rw [HN.out]; omega)
                obtain ⟨ob, oL, oF⟩ := okO_yes (HOk.out k hlt)
                have oD := fewL_dt oF
                obtain ⟨t1, t2, t3, t4, t5, t6, t7, t8⟩ := HT.out k hlt
                have hi0 : (0 : Int) ≤ k := by omega
                have hi1 : (k : Int) < n0 := by omega
                generalize opAt T0 k = t at hrg hX q1 q3 hBb q4 q6 ob oL oF oD t1 t2 t3 t4 t5 t6 t7 t8
                obtain ⟨kd, nn, l, v, m, st, po, pr, rd, rp, id, ref, org, rec, xmt, nonce, L, bb⟩ := t
                dsimp only [opCt] at hrg hX q1 q3 hBb q4 q6 ob oL oF oD t1 t2 t3 t4 t5 t6 t7 t8
                obtain ⟨nb, hnb⟩ : ∃ nb, bb.length = nb := ⟨_, rfl⟩
                obtain ⟨na, hna⟩ : ∃ na, L.length = na := ⟨_, rfl⟩
                rw [hnb, hna] at hrg
                rw [hna] at q1 q3 oD
                rw [hnb] at q4 ob
                have HNa := Lib.hid hna
                have HNb := Lib.hid hnb
                have HD := Lib.hid oD
                clear hnb hna oL oF hx q6 oD
                go_wp2_with (first
                  | (refine wpl_loadr (by rfl) 45 _ (by rfl) b (o + k * 18) (by rfl) _ hrg _ Tryd.underlying45 rfl _ sizeOp (by rfl) ?_)
                  | (refine wpl_alloc (by rfl) 45 (by rfl) (.agg (opC 0 0 0 0 0 0 0 0 0 0 0 0 0 0 0 0 none 0 0 none 0 0).toArray) (opC 0 0 0 0 0 0 0 0 0 0 0 0 0 0 0 0 none 0 0 none 0 0) zeroOp rfl ?_; intro wa Ja sa ba)
                  | (refine wpl_store (by rfl) 45 _ _ (by rfl) wr.heap.size (by rfl) _ (by rfl) _ rfl 45 _ Ja (by rfl) _ sizeOp (by rfl) (by simp [Value.oneCell']) ?_; intro wb Jb sb gb))
                have bw : Below wr.heap.size wr wb.drew := (ba.trans (gb.below ba.size (Nat.le_refl _))).drew
                have hPb := hPX.below bw
                obtain ⟨_, _, _, hp0, hp1⟩ := hPb.facts
                have hDo := do_any kd l v m st po pr rd rp id ref org rec xmt nonce nn Ak na ca Bk nb cb L bb hPb hs hk0 hk1 hk2 hk3 t1 t2 t3 t4 t5 t6 t7 t8 (by omega) (((hX.below bw hlos).wide (Nat.le_trans hlos bw.size))) HNa.out q1 q2 q3 HD.out (hBb.below bw hlos) HNb.out q4 q5 ob
                have hJd := Jb.drew.range
                clear hrg Ja ba gb sa sb hX hBb hPX hPb Jb
                refine wp_region_heldL (fun y => y.cell? ⟨p, 0, none⟩ = some (.pointer (some aC)) ∧ y.cell? ⟨p, 1, none⟩ = some (.pointer (some aD))) 17 (by kernel_rfl) rfl ⟨hp0, hp1⟩ fun hHeld => ?_
                simp only [List.replicate]
                (refine wpH_t 0 _ (by exact gE rfl) (by kernel_rfl) (by intro _ _ _ h; exact h) (Or.inl ⟨by rfl, (by intro _ h; (try dsimp only at h); go_simp; first | done | with_reducible rfl)⟩) (by assumption) ?_; (try simp only [Act.put, zs0, zs1, zs2]))
                (refine wpH_one (i := 1) (by exact gE rfl) (by kernel_rfl) (by rfl) ?_; (refine wp_load_mid 45 _ (by rfl) wr.heap.size 0 (by rfl) (opC kd nn l v m st po pr rd rp id ref org rec xmt nonce Ak na ca Bk nb cb) _ hJd Tryd.underlying45 rfl sizeOp ?_; refine ⟨hHeld, ?_⟩); (try simp only [Act.put, zs0, zs1, zs2]))
                (refine wpH_one (i := 2) (by exact gE rfl) (by kernel_rfl) (by rfl) ?_; (go_simp; (with_reducible refine hDo.mono ?_); rintro e w5 ⟨rfl, hP5⟩; (obtain ⟨_, _, _, h50, h51⟩ := hP5.facts); (obtain ⟨q, hq1, hq2⟩ := hP5.count); refine ⟨⟨h50, h51⟩, ?_⟩); (try simp only [Act.put, zs0, zs1, zs2]))
                have hH5 : w5.cell? ⟨p, 0, none⟩ = some (.pointer (some aC)) ∧ w5.cell? ⟨p, 1, none⟩ = some (.pointer (some aD)) := ⟨h50, h51⟩
                (refine wpH_t 3 _ (by exact gE rfl) (by kernel_rfl) (by intro _ _ _ h; exact h) (Or.inl ⟨by rfl, (by intro _ h; (try dsimp only at h); go_simp; first | done | with_reducible rfl)⟩) (by assumption) ?_; (try simp only [Act.put, zs0, zs1, zs2]))
                (refine wpH_t 4 _ (by exact gE rfl) (by kernel_rfl) (by intro _ _ _ h; exact h) (Or.inl ⟨by rfl, (by intro _ h; (try dsimp only at h); go_simp; first | done | with_reducible rfl)⟩) (by assumption) ?_; (try simp only [Act.put, zs0, zs1, zs2]))
                (refine wpH_t 5 _ (by exact gE rfl) (by kernel_rfl) (by intro _ _ _ h; exact h) (Or.inl ⟨by rfl, (by intro _ h; (try dsimp only at h); go_simp; first | done | with_reducible rfl)⟩) (by assumption) ?_; (try simp only [Act.put, zs0, zs1, zs2]))
                (refine wpH_t 6 _ (by exact gE rfl) (by kernel_rfl) (by intro _ _ _ h; exact h) (Or.inl ⟨by rfl, (by intro _ h; (try dsimp only at h); go_simp; first | done | with_reducible rfl)⟩) (by assumption) ?_; (try simp only [Act.put, zs0, zs1, zs2]))
                (refine wpH_t 7 _ (by exact gE rfl) (by kernel_rfl) (by intro _ _ _ h; exact h) (Or.inl ⟨by rfl, (by intro _ h; (try dsimp only at h); go_simp; first | done | with_reducible rfl)⟩) (by assumption) ?_; (try simp only [Act.put, zs0, zs1, zs2]))
                (refine wpH_t 8 _ (by exact gE rfl) (by kernel_rfl) (by intro _ _ _ h; exact h) (Or.inl ⟨by rfl, (by intro _ h; (try dsimp only at h); go_simp; first | done | with_reducible rfl)⟩) (by assumption) ?_; (try simp only [Act.put, zs0, zs1, zs2]))
                (refine wpH_t 10 _ (by exact gE rfl) (by kernel_rfl) (by intro _ _ _ h; exact h) (Or.inl ⟨by rfl, (by intro _ h; (try dsimp only at h); go_simp; first | done | with_reducible rfl)⟩) (by assumption) ?_; (try simp only [Act.put, zs0, zs1, zs2]))
                (refine wpH_t 11 _ (by exact gE rfl) (by kernel_rfl) (by intro _ _ _ h; exact h) (Or.inl ⟨by rfl, (by intro _ h; (try dsimp only at h); go_simp; first | done | with_reducible rfl)⟩) (by assumption) ?_; (try simp only [Act.put, zs0, zs1, zs2]))
                (refine wpH_t 12 _ (by exact gE rfl) (by kernel_rfl) (by intro _ _ _ h; exact h) (Or.inl ⟨by rfl, (by intro _ h; (try dsimp only at h); go_simp; first | done | with_reducible rfl)⟩) (by assumption) ?_; (try simp only [Act.put, zs0, zs1, zs2]))
                (refine wpH_t 13 _ (by exact gE rfl) (by kernel_rfl) (by intro _ _ _ h; exact h) (Or.inl ⟨by rfl, (by intro _ h; (try dsimp only at h); go_simp; first | done | with_reducible rfl)⟩) (by assumption) ?_; (try simp only [Act.put, zs0, zs1, zs2]))
                (refine wpH_one (i := 9) (by exact gE rfl) (by kernel_rfl) (by rfl) ?_; (go_simp; (with_reducible refine hq1.mono ?_); rintro e _ ⟨rfl, rfl⟩; refine ⟨⟨h50, h51⟩, ?_⟩); (try simp only [Act.put, zs0, zs1, zs2]))
                (refine wpH_one (i := 14) (by exact gE rfl) (by kernel_rfl) (by rfl) ?_; (go_simp; (with_reducible refine hq2.mono ?_); rintro e _ ⟨rfl, rfl⟩; refine ⟨⟨h50, h51⟩, ?_⟩); (try simp only [Act.put, zs0, zs1, zs2]))
                (refine wpH_t 15 _ (by exact gE rfl) (by kernel_rfl) (by intro _ _ _ h; exact h) (Or.inl ⟨by rfl, (by intro _ h; (try dsimp only at h); go_simp; first | done | with_reducible rfl)⟩) (by assumption) ?_; (try simp only [Act.put, zs0, zs1, zs2]))
                (refine wpH_t 16 _ (by exact gE rfl) (by kernel_rfl) (by intro _ _ _ h; exact h) (Or.inl ⟨by rfl, (by intro _ h; (try dsimp only at h); go_simp; first | done | with_reducible rfl)⟩) (by assumption) ?_; (try simp only [Act.put, zs0, zs1, zs2]))
                refine wpH_done (by kernel_rfl) ?_ _
                clear hHeld hH5 hDo hq1 hq2 hJd
                go_wp2_with fail
                exact ⟨⟨k + 1, by omega, by go_num, hP5⟩, by simp [intOf]; omega⟩
              · obtain rfl : k = n0 := by omega
                go_wp2_with (first
                  | (go_at_call 10; ((with_reducible refine (awake_any _ hRr).mono ?_); rintro e w4 ⟨rfl, b4⟩)))
                go_ret
                exact ⟨rfl, hBl.trans (b4.mono hlos)⟩
  · have d1 : decide ((20 : Int) < ck) = true := decide_eq_true (by omega)
    go_enter Tryd.func9, Tryd.ntmps9
    go_wp2_with (first
      | (refine wpl_box (by rfl) 29 _ (by rfl) _ (keyL k0 k1) (by rfl) rfl ?_; intro w1 U1 s1 b1)
      | ((refine wpl_box (by rfl) 29 _ (by rfl) _ (keyL k2 k3) (by rfl) rfl ?_; intro w2 V2 s2 b2); (have B2 := b1.trans (b2.mono (by omega))))
      | (go_at_call 10; ((with_reducible refine (awake_any _ (hR.below B2 hw0)).mono ?_); rintro e w4 ⟨rfl, b4⟩)))
    go_ret
    exact ⟨rfl, B2.trans (b4.mono B2.size)⟩
end Go.Proofs.YtachhbbofemfdaaDoor
