/- The jar of cookies: CookieTags, the walk. -/
import Derived.Test.YtkgpeddncpdjjaaDoorCkS
namespace Go.Proofs.YtkgpeddncpdjjaaDoor
open Go.RowKit
set_option linter.unusedSimpArgs false
set_option linter.unusedVariables false
set_option maxRecDepth 100000
open Go.RowKit
theorem But.drew' {g : Nat} {w w' : World} (h : But g w w') : But g w w'.drew := ⟨h.os, h.tape, h.output, h.size, h.block⟩
set_option maxHeartbeats 8000000 in
theorem tags_nil (s k a b c d nonce ch : Int) (w : World) (hk : ¬(1 ≤ k ∧ k ≤ 8)) (hR : Rnd w) :
    Calls Tryd.prog 8 #[.int .u64 s, .int .i64 k, keyV a b, keyV c d, .int .u64 nonce, .int .u64 ch] w fun e w' => e = .returned (.bool true) ∧ Below w.heap.size w w' := by
  have hN := fun W => new_none s k W hk
  go_enter Tryd.func8, Tryd.ntmps8
  go_wp2_with (first
    | ((refine wpl_box (by rfl) 24 _ (by rfl) _ (keyL a b) (by rfl) rfl ?_; intro w1 P1 s1 b1))
    | ((refine wpl_box (by rfl) 24 _ (by rfl) _ (keyL c d) (by rfl) rfl ?_; intro w2 Q2 s2 b2))
    | (go_at_call 18; ((with_reducible refine (hN _).mono ?_); rintro e _ ⟨rfl, rfl⟩)))
  have B2 := b1.trans (b2.mono (by omega))
  have R2 := hR.below B2 hR.lt
  with_reducible refine (awake_any _ R2).mono ?_
  rintro e wa ⟨rfl, ba⟩
  have Ba := (B2).trans (ba.mono (B2).size)
  go_wp2
  go_ret
  exact ⟨rfl, Ba⟩
set_option maxHeartbeats 8000000 in
theorem tags_zero (s k a b c d nonce : Int) (w : World) (hk : 1 ≤ k ∧ k ≤ 8) (hR : Rnd w) :
    Calls Tryd.prog 8 #[.int .u64 s, .int .i64 k, keyV a b, keyV c d, .int .u64 nonce, .int .u64 0] w fun e w' => e = .returned (.bool true) ∧ Below w.heap.size w w' := by
  go_enter Tryd.func8, Tryd.ntmps8
  go_wp2_with (first
    | ((refine wpl_box (by rfl) 24 _ (by rfl) _ (keyL a b) (by rfl) rfl ?_; intro w1 P1 s1 b1))
    | ((refine wpl_box (by rfl) 24 _ (by rfl) _ (keyL c d) (by rfl) rfl ?_; intro w2 Q2 s2 b2)))
  have B2 := b1.trans (b2.mono (by omega))
  with_reducible refine (new_some s k w2 hk.1 hk.2).mono ?_
  rintro e w3 ⟨rfl, J3, b3⟩
  have B3 := B2.trans (b3.mono B2.size)
  have R3 := hR.below B3 hR.lt
  go_wp2_with fail
  with_reducible refine (awake_any _ R3).mono ?_
  rintro e wa ⟨rfl, ba⟩
  have Ba := (B3).trans (ba.mono (B3).size)
  go_wp2
  go_ret
  exact ⟨rfl, Ba⟩
set_option maxHeartbeats 16000000 in
theorem tags_main (s k a b c d nonce ch : Int) (w : World) (hs : U64 s) (ha : U64 a) (hb : U64 b) (hc : U64 c) (hd : U64 d) (hn : U64 nonce) (h0 : U64 ch) (hne : ch ≠ 0) (hk : 1 ≤ k ∧ k ≤ 8) (hR : Rnd w) :
    Calls Tryd.prog 8 #[.int .u64 s, .int .i64 k, keyV a b, keyV c d, .int .u64 nonce, .int .u64 ch] w fun e w' => e = .returned (.bool true) ∧ Below w.heap.size w w' := by
  have hg : Gn 1 := ⟨by omega, by omega⟩
  have hS := fun bj W hJ hr => seal_any bj s k 1 a b c d nonce W hs hg hn ha hb hc hd hJ hr
  have hO := fun bj A c' l W hn' hB hc' hcc hJ hr => open_any bj s k 1 A 52 c' l W hn' hB hc' hcc hs hg hk hJ hr
  have hst : staleB k 1 1 = false := by unfold staleB; rw [decide_eq_false (by omega : ¬ (1 : Int) ≤ 1 - k)]; decide
  have hT := Lib.hid (tag_open (s := s) (k := k) (g' := 1) hg hn ha hb hc hd h0 hne hst)
  have hL := Lib.hid (later_open (s := s) (k := k) (g := 1) hn ha hb hc hd (by omega))
  have hcl : Hid ((ckB s 1 nonce a b c d).length = 52) := ckB_len _ _ _ _ _ _ _
  have hcb : Hid (Byt (ckB s 1 nonce a b c d)) := ckB_byt _ _ _ _ _ _ _
  generalize ckB s 1 nonce a b c d = C at hS hT hL hcl hcb
  have hch : (ch == 0) = false := by simpa using hne
  obtain ⟨c0, c1⟩ := h0
  clear hs ha hb hc hd hn hg hst hne
  go_enter Tryd.func8, Tryd.ntmps8
  go_wp2_with (first
    | ((refine wpl_box (by rfl) 24 _ (by rfl) _ (keyL a b) (by rfl) rfl ?_; intro w1 P1 s1 b1))
    | ((refine wpl_box (by rfl) 24 _ (by rfl) _ (keyL c d) (by rfl) rfl ?_; intro w2 Q2 s2 b2); (have P2 := P1.below b2 (by omega))))
  have B2 := b1.trans (b2.mono (by omega))
  with_reducible refine (new_some s k w2 hk.1 hk.2).mono ?_
  rintro e w3 ⟨rfl, J3, b3⟩
  have l3 := J3.lt
  have P3 := P2.below b3 (by omega)
  have Q3 := Q2.below b3 (by omega)
  have B3 := B2.trans (b3.mono B2.size)
  have R3 := hR.below B3 hR.lt
  clear P1 P2 Q2 B2 b1 b2 b3
  go_wp2_with (first | ((with_reducible show wpList _ _ _ (⟨_, .load _ _, _, _, _, _⟩ :: _) _ _); refine wpl_load (by rfl) 24 _ (by rfl) w.heap.size (by rfl) 24 (keyL a b) P3 _ Tryd.underlying24 rfl _ sizeKey (show (2 : Nat) = 2 from rfl) ?_) | ((with_reducible show wpList _ _ _ (⟨_, .load _ _, _, _, _, _⟩ :: _) _ _); refine wpl_load (by rfl) 24 _ (by rfl) w1.heap.size (by rfl) 24 (keyL c d) Q3 _ Tryd.underlying24 rfl _ sizeKey (show (2 : Nat) = 2 from rfl) ?_))
  have hE := hS w2.heap.size w3 J3 R3
  with_reducible refine hE.mono ?_
  rintro e w4 ⟨A4, c4, rfl, O4, b4⟩
  have zB3 := B3.size
  have J4 := J3.below b4 l3
  have B4 := B3.trans (b4.mono B3.size)
  have z4 := b4.size
  have hc4 := O4.cap_le
  have hm4 := O4.cap_max
  rw [hcl.out] at hc4
  rcases O4.form with ⟨_, e2, _⟩ | ⟨gc, rfl, hg1, hg2⟩
  · have := hcl.out; rw [e2] at this; simp at this
  clear hE P3 Q3 J3 R3 B3 b4 hS
  go_wp2_with fail
  have hE := bclone_any (some ⟨gc, 0, none⟩) 52 c4 _ _ C w4 hcl.out O4.bs (Nat.le_refl _) (by omega) (fun h => by cases h)
  with_reducible refine hE.mono ?_
  rintro e w5 ⟨A5, c5, rfl, O5, _, b5⟩
  have J5 := J4.below b5 J4.lt
  have O4' := O4.below b5 (Nat.le_refl _)
  have B5 := B4.trans (b5.mono B4.size)
  have z5 := b5.size
  have hc5 := O5.cap_le
  have hm5 := O5.cap_max
  rw [hcl.out] at hc5
  rcases O5.form with ⟨_, e2, _⟩ | ⟨gl, rfl, hg3, hg4⟩
  · have := hcl.out; rw [e2] at this; simp at this
  clear hE J4 O4 B4 b5
  have q0 := O5.cell (k := 3) (by rw [hcl.out]; omega)
  have hfz : ∀ {wx : World} {lo g c' : Nat} {l : List Int}, Ow wx lo (some ⟨g, 0, none⟩) c' l → ∀ o, wx.frozen? ⟨g, o, none⟩ = false := fun h o => by
    rcases h.2.2 with ⟨h', _⟩ | ⟨g', cap', cur, h', _, hh, _⟩
    · injection h' with h'; cases h'
    · injection h' with h'
      injection h' with h'
      injection h' with h'
      subst h'
      unfold World.frozen?
      rw [hh]
      simp
  have q1 := hfz O5
  go_wp2_with fail
  obtain ⟨w6, hw6⟩ : ∃ w6, w6 = w5.setCell ⟨gl, 3, none⟩ (.int .u8 2) := ⟨_, rfl⟩
  have O6 : Ow w6 w4.heap.size (some ⟨gl, 0, none⟩) c5 (C.set 3 2) := by rw [hw6]; exact O5.set 3 (by omega) (by omega)
  have G6 : But gl w5 w6 := by rw [hw6]; exact but_setCell _ _ _ _
  rw [← hw6]
  have D6 : Ow w6 w3.heap.size (some ⟨gc, 0, none⟩) c4 C := O4'.grown G6 (fun g e => by injection e with e; injection e with e; subst e; intro e; injection e with e; omega)
  have J6 := J5.but G6 (by omega)
  have B6 := B5.trans (G6.below B5.size (by omega))
  have hlw : w.heap.size ≤ gc ∧ w.heap.size ≤ gl ∧ gc ≠ gl ∧ w2.heap.size ≠ gc ∧ w2.heap.size ≠ gl ∧ gc < w4.heap.size := by omega
  clear hw6 O5 O4' J5 B5 q0 q1 G6 hg1 hg2 hg3 hg4
  go_loopw [45] (fun i wr => ∃ m : Nat, m ≤ 8 ∧ i = .int .i64 m ∧ Ow wr w3.heap.size (some ⟨gc, 0, none⟩) c4 (xbL C ch m) ∧ Ow wr w4.heap.size (some ⟨gl, 0, none⟩) c5 (C.set 3 2) ∧ Blk wr w2.heap.size 50 (jarL s k 1) ∧ Below w.heap.size w wr) (fun i _ => 8 - (intOf i).toNat)
  case atStart => exact ⟨0, by omega, rfl, D6, O6, J6, B6⟩
  case round =>
    obtain ⟨m, hm, rfl, hD, hL', hJ, hB⟩ := hrel
    obtain ⟨wo, rfl⟩ : ∃ wo : World, wo = wr := ⟨wr, rfl⟩
    clear D6 O6 J6 B6
    have hlx : Hid ((xbL C ch m).length = 52) := by show _ = _; rw [xbL_len]; exact hcl.out
    by_cases hlt : m < 8
    · have q0 := hD.cell (k := 44 + m) (by rw [hlx.out]; omega)
      have q1 := hfz hD
      have hx := hD.1.at (44 + m)
      have hy := byI_rng ch m
      have hS2 : xbL C ch (m + 1) = (xbL C ch m).set (44 + m) (xb (atB (xbL C ch m) (44 + m)) (byI ch m)) := rfl
      generalize atB (xbL C ch m) (44 + m) = x at q0 hx hS2
      have hm' : m = 0 ∨ m = 1 ∨ m = 2 ∨ m = 3 ∨ m = 4 ∨ m = 5 ∨ m = 6 ∨ m = 7 := by omega
      rcases hm' with rfl | rfl | rfl | rfl | rfl | rfl | rfl | rfl
      · skip
        have hby : byI ch 0 = ch % 256 := by rw [byI_256]; simp
        rw [hby] at hS2 hy
        go_wp2_with fail
        go_region
        obtain ⟨w7, hw7⟩ : ∃ w7, w7 = (wo.setCell ⟨gc, 44, none⟩ (.int .u8 (bits .xor .u8 x (ch % 256)))).drew := ⟨_, rfl⟩
        have D7 : Ow w7 w3.heap.size (some ⟨gc, 0, none⟩) c4 (xbL C ch 1) := by
          rw [hw7]
          have h9 := (hD.set 44 (xb_rng hx hy).1 (xb_rng hx hy).2).drew
          have hS3 : xbL C ch 1 = (xbL C ch 0).set 44 (xb x (ch % 256)) := hS2
          rw [hS3]
          exact h9
        have G7 : But gc wo w7 := by rw [hw7]; exact (but_setCell _ _ _ _).drew'
        rw [← hw7]
        clear hw7 hS2 hD q0 q1 hx hy hby
        go_wp2_with fail
        exact ⟨⟨1, by omega, rfl, D7, hL'.grown G7 (fun g e => by injection e with e; injection e with e; subst e; intro e; injection e with e; omega), hJ.but G7 (by omega), hB.trans (G7.below hB.size (by omega))⟩, by simp [intOf] <;> decide⟩
      · skip
        have hby : byI ch 1 = ch / 256 % 256 := by rw [byI_256, show (256 : Int) ^ 1 = 256 by decide]
        rw [hby] at hS2 hy
        go_wp2_with fail
        go_region
        obtain ⟨w7, hw7⟩ : ∃ w7, w7 = (wo.setCell ⟨gc, 45, none⟩ (.int .u8 (bits .xor .u8 x (ch / 256 % 256)))).drew := ⟨_, rfl⟩
        have D7 : Ow w7 w3.heap.size (some ⟨gc, 0, none⟩) c4 (xbL C ch 2) := by
          rw [hw7]
          have h9 := (hD.set 45 (xb_rng hx hy).1 (xb_rng hx hy).2).drew
          have hS3 : xbL C ch 2 = (xbL C ch 1).set 45 (xb x (ch / 256 % 256)) := hS2
          rw [hS3]
          exact h9
        have G7 : But gc wo w7 := by rw [hw7]; exact (but_setCell _ _ _ _).drew'
        rw [← hw7]
        clear hw7 hS2 hD q0 q1 hx hy hby
        go_wp2_with fail
        exact ⟨⟨2, by omega, rfl, D7, hL'.grown G7 (fun g e => by injection e with e; injection e with e; subst e; intro e; injection e with e; omega), hJ.but G7 (by omega), hB.trans (G7.below hB.size (by omega))⟩, by simp [intOf] <;> decide⟩
      · skip
        have hby : byI ch 2 = ch / 65536 % 256 := by rw [byI_256, show (256 : Int) ^ 2 = 65536 by decide]
        rw [hby] at hS2 hy
        go_wp2_with fail
        go_region
        obtain ⟨w7, hw7⟩ : ∃ w7, w7 = (wo.setCell ⟨gc, 46, none⟩ (.int .u8 (bits .xor .u8 x (ch / 65536 % 256)))).drew := ⟨_, rfl⟩
        have D7 : Ow w7 w3.heap.size (some ⟨gc, 0, none⟩) c4 (xbL C ch 3) := by
          rw [hw7]
          have h9 := (hD.set 46 (xb_rng hx hy).1 (xb_rng hx hy).2).drew
          have hS3 : xbL C ch 3 = (xbL C ch 2).set 46 (xb x (ch / 65536 % 256)) := hS2
          rw [hS3]
          exact h9
        have G7 : But gc wo w7 := by rw [hw7]; exact (but_setCell _ _ _ _).drew'
        rw [← hw7]
        clear hw7 hS2 hD q0 q1 hx hy hby
        go_wp2_with fail
        exact ⟨⟨3, by omega, rfl, D7, hL'.grown G7 (fun g e => by injection e with e; injection e with e; subst e; intro e; injection e with e; omega), hJ.but G7 (by omega), hB.trans (G7.below hB.size (by omega))⟩, by simp [intOf] <;> decide⟩
      · skip
        have hby : byI ch 3 = ch / 16777216 % 256 := by rw [byI_256, show (256 : Int) ^ 3 = 16777216 by decide]
        rw [hby] at hS2 hy
        go_wp2_with fail
        go_region
        obtain ⟨w7, hw7⟩ : ∃ w7, w7 = (wo.setCell ⟨gc, 47, none⟩ (.int .u8 (bits .xor .u8 x (ch / 16777216 % 256)))).drew := ⟨_, rfl⟩
        have D7 : Ow w7 w3.heap.size (some ⟨gc, 0, none⟩) c4 (xbL C ch 4) := by
          rw [hw7]
          have h9 := (hD.set 47 (xb_rng hx hy).1 (xb_rng hx hy).2).drew
          have hS3 : xbL C ch 4 = (xbL C ch 3).set 47 (xb x (ch / 16777216 % 256)) := hS2
          rw [hS3]
          exact h9
        have G7 : But gc wo w7 := by rw [hw7]; exact (but_setCell _ _ _ _).drew'
        rw [← hw7]
        clear hw7 hS2 hD q0 q1 hx hy hby
        go_wp2_with fail
        exact ⟨⟨4, by omega, rfl, D7, hL'.grown G7 (fun g e => by injection e with e; injection e with e; subst e; intro e; injection e with e; omega), hJ.but G7 (by omega), hB.trans (G7.below hB.size (by omega))⟩, by simp [intOf] <;> decide⟩
      · skip
        have hby : byI ch 4 = ch / 4294967296 % 256 := by rw [byI_256, show (256 : Int) ^ 4 = 4294967296 by decide]
        rw [hby] at hS2 hy
        go_wp2_with fail
        go_region
        obtain ⟨w7, hw7⟩ : ∃ w7, w7 = (wo.setCell ⟨gc, 48, none⟩ (.int .u8 (bits .xor .u8 x (ch / 4294967296 % 256)))).drew := ⟨_, rfl⟩
        have D7 : Ow w7 w3.heap.size (some ⟨gc, 0, none⟩) c4 (xbL C ch 5) := by
          rw [hw7]
          have h9 := (hD.set 48 (xb_rng hx hy).1 (xb_rng hx hy).2).drew
          have hS3 : xbL C ch 5 = (xbL C ch 4).set 48 (xb x (ch / 4294967296 % 256)) := hS2
          rw [hS3]
          exact h9
        have G7 : But gc wo w7 := by rw [hw7]; exact (but_setCell _ _ _ _).drew'
        rw [← hw7]
        clear hw7 hS2 hD q0 q1 hx hy hby
        go_wp2_with fail
        exact ⟨⟨5, by omega, rfl, D7, hL'.grown G7 (fun g e => by injection e with e; injection e with e; subst e; intro e; injection e with e; omega), hJ.but G7 (by omega), hB.trans (G7.below hB.size (by omega))⟩, by simp [intOf] <;> decide⟩
      · skip
        have hby : byI ch 5 = ch / 1099511627776 % 256 := by rw [byI_256, show (256 : Int) ^ 5 = 1099511627776 by decide]
        rw [hby] at hS2 hy
        go_wp2_with fail
        go_region
        obtain ⟨w7, hw7⟩ : ∃ w7, w7 = (wo.setCell ⟨gc, 49, none⟩ (.int .u8 (bits .xor .u8 x (ch / 1099511627776 % 256)))).drew := ⟨_, rfl⟩
        have D7 : Ow w7 w3.heap.size (some ⟨gc, 0, none⟩) c4 (xbL C ch 6) := by
          rw [hw7]
          have h9 := (hD.set 49 (xb_rng hx hy).1 (xb_rng hx hy).2).drew
          have hS3 : xbL C ch 6 = (xbL C ch 5).set 49 (xb x (ch / 1099511627776 % 256)) := hS2
          rw [hS3]
          exact h9
        have G7 : But gc wo w7 := by rw [hw7]; exact (but_setCell _ _ _ _).drew'
        rw [← hw7]
        clear hw7 hS2 hD q0 q1 hx hy hby
        go_wp2_with fail
        exact ⟨⟨6, by omega, rfl, D7, hL'.grown G7 (fun g e => by injection e with e; injection e with e; subst e; intro e; injection e with e; omega), hJ.but G7 (by omega), hB.trans (G7.below hB.size (by omega))⟩, by simp [intOf] <;> decide⟩
      · skip
        have hby : byI ch 6 = ch / 281474976710656 % 256 := by rw [byI_256, show (256 : Int) ^ 6 = 281474976710656 by decide]
        rw [hby] at hS2 hy
        go_wp2_with fail
        go_region
        obtain ⟨w7, hw7⟩ : ∃ w7, w7 = (wo.setCell ⟨gc, 50, none⟩ (.int .u8 (bits .xor .u8 x (ch / 281474976710656 % 256)))).drew := ⟨_, rfl⟩
        have D7 : Ow w7 w3.heap.size (some ⟨gc, 0, none⟩) c4 (xbL C ch 7) := by
          rw [hw7]
          have h9 := (hD.set 50 (xb_rng hx hy).1 (xb_rng hx hy).2).drew
          have hS3 : xbL C ch 7 = (xbL C ch 6).set 50 (xb x (ch / 281474976710656 % 256)) := hS2
          rw [hS3]
          exact h9
        have G7 : But gc wo w7 := by rw [hw7]; exact (but_setCell _ _ _ _).drew'
        rw [← hw7]
        clear hw7 hS2 hD q0 q1 hx hy hby
        go_wp2_with fail
        exact ⟨⟨7, by omega, rfl, D7, hL'.grown G7 (fun g e => by injection e with e; injection e with e; subst e; intro e; injection e with e; omega), hJ.but G7 (by omega), hB.trans (G7.below hB.size (by omega))⟩, by simp [intOf] <;> decide⟩
      · skip
        have hby : byI ch 7 = ch / 72057594037927936 := by rw [byI_256, show (256 : Int) ^ 7 = 72057594037927936 by decide]; omega
        rw [hby] at hS2 hy
        go_wp2_with fail
        go_region
        obtain ⟨w7, hw7⟩ : ∃ w7, w7 = (wo.setCell ⟨gc, 51, none⟩ (.int .u8 (bits .xor .u8 x (ch / 72057594037927936)))).drew := ⟨_, rfl⟩
        have D7 : Ow w7 w3.heap.size (some ⟨gc, 0, none⟩) c4 (xbL C ch 8) := by
          rw [hw7]
          have h9 := (hD.set 51 (xb_rng hx hy).1 (xb_rng hx hy).2).drew
          have hS3 : xbL C ch 8 = (xbL C ch 7).set 51 (xb x (ch / 72057594037927936)) := hS2
          rw [hS3]
          exact h9
        have G7 : But gc wo w7 := by rw [hw7]; exact (but_setCell _ _ _ _).drew'
        rw [← hw7]
        clear hw7 hS2 hD q0 q1 hx hy hby
        go_wp2_with fail
        exact ⟨⟨8, by omega, rfl, D7, hL'.grown G7 (fun g e => by injection e with e; injection e with e; subst e; intro e; injection e with e; omega), hJ.but G7 (by omega), hB.trans (G7.below hB.size (by omega))⟩, by simp [intOf] <;> decide⟩
    · obtain rfl : 8 = m := by omega
      have hRr := hR.below hB hR.lt
      have hE := hO w2.heap.size (some ⟨gc, 0, none⟩) c4 (xbL C ch 8) wo hlx.out (hD.bs.wide (Nat.zero_le _) (Nat.le_refl _)) hc4 hm4 hJ hRr
      rw [hT.out] at hE
      go_wp2_with fail
      with_reducible refine hE.mono ?_
      rintro e k1 ⟨rfl, kb⟩
      have Bk := hB.trans (kb.mono hB.size)
      have zk := kb.size
      have zB := Bk.size
      have Lk := hL'.below kb (Nat.le_refl _)
      have Jk := hJ.below kb hJ.lt
      have lJ := Jk.lt
      clear hE hD hL' hJ hRr hB kb
      go_wp2_with (first
        | ((with_reducible show wpList _ _ _ (⟨some 17, _, _, _, _, _⟩ :: _) _ _); refine wpl_alloc (by rfl) 24 (by rfl) (keyV 0 0) (keyL 0 0) zeroKey rfl ?_; intro k2 kXA kt2 kq2)
        | (((with_reducible show wpList _ _ _ (⟨some 18, _, _, _, _, _⟩ :: _) _ _); refine wpl_alloc (by rfl) 24 (by rfl) (keyV 0 0) (keyL 0 0) zeroKey rfl ?_; intro k3 kYA kt3 kq3); (have kXB := kXA.below kq3 (by omega)))
        | (((with_reducible show wpList _ _ _ (⟨_, .store _ _ _, _, _, _, _⟩ :: _) _ _); refine wpl_store (by rfl) 24 _ _ (by rfl) k1.heap.size (by rfl) _ (by rfl) (keyL 0 0) rfl 24 _ kXB (show (2 : Nat) = 2 from rfl) _ sizeKey (by rfl) (by simp [Value.oneCell']) ?_; intro k4 kXC kt4 kr4); (have kYC := kYA.but kr4 (by omega)))
        | (((with_reducible show wpList _ _ _ (⟨_, .store _ _ _, _, _, _, _⟩ :: _) _ _); refine wpl_store (by rfl) 24 _ _ (by rfl) k2.heap.size (by rfl) _ (by rfl) (keyL 0 0) rfl 24 _ kYC (show (2 : Nat) = 2 from rfl) _ sizeKey (by rfl) (by simp [Value.oneCell']) ?_; intro k5 kYD kt5 kr5); (have kXD := kXC.but kr5 (by omega)))
        )
      have B5 : Below w.heap.size w k5 := ((((Bk).trans (kq2.mono (Bk).size)).trans (kq3.mono (by have := (Bk).size; omega))).trans (kr4.below (by have := (Bk).size; omega) (by have := (Bk).size; omega))).trans (kr5.below (by have := (Bk).size; omega) (by have := (Bk).size; omega))
      have z5' := B5.size
      have R5 := hR.below B5 hR.lt
      have J5 := (((Jk.below kq2 (by omega)).below kq3 (by omega)).but kr4 (by omega)).but kr5 (by omega)
      have L5 := (((Lk.bs.below kq2 (Nat.le_refl _)).below kq3 (by omega)).grown kr4 (by omega) (by intro r hr; simp at hr; omega)).grown kr5 (by omega) (by intro r hr; simp at hr; omega)
      have hE := hO w2.heap.size (some ⟨gl, 0, none⟩) c5 (C.set 3 2) k5 (by rw [List.length_set]; exact hcl.out) (L5.wide (Nat.zero_le _) (by omega)) hc5 hm5 J5 R5
      rw [hL.out] at hE
      clear Lk Jk Bk kXA kYA kXB kXC kYC kXD kYD kq2 kq3 kr4 kr5 L5 J5 R5
      go_wp2_with fail
      with_reducible refine hE.mono ?_
      rintro e q1 ⟨rfl, qb⟩
      have Bq := B5.trans (qb.mono B5.size)
      have zq := Bq.size
      clear hE B5 qb
      go_wp2_with (first
        | ((with_reducible show wpList _ _ _ (⟨some 20, _, _, _, _, _⟩ :: _) _ _); refine wpl_alloc (by rfl) 24 (by rfl) (keyV 0 0) (keyL 0 0) zeroKey rfl ?_; intro q2 qXA qt2 qq2)
        | (((with_reducible show wpList _ _ _ (⟨some 21, _, _, _, _, _⟩ :: _) _ _); refine wpl_alloc (by rfl) 24 (by rfl) (keyV 0 0) (keyL 0 0) zeroKey rfl ?_; intro q3 qYA qt3 qq3); (have qXB := qXA.below qq3 (by omega)))
        | (((with_reducible show wpList _ _ _ (⟨_, .store _ _ _, _, _, _, _⟩ :: _) _ _); refine wpl_store (by rfl) 24 _ _ (by rfl) q1.heap.size (by rfl) _ (by rfl) (keyL 0 0) rfl 24 _ qXB (show (2 : Nat) = 2 from rfl) _ sizeKey (by rfl) (by simp [Value.oneCell']) ?_; intro q4 qXC qt4 qr4); (have qYC := qYA.but qr4 (by omega)))
        | (((with_reducible show wpList _ _ _ (⟨_, .store _ _ _, _, _, _, _⟩ :: _) _ _); refine wpl_store (by rfl) 24 _ _ (by rfl) q2.heap.size (by rfl) _ (by rfl) (keyL 0 0) rfl 24 _ qYC (show (2 : Nat) = 2 from rfl) _ sizeKey (by rfl) (by simp [Value.oneCell']) ?_; intro q5 qYD qt5 qr5); (have qXD := qXC.but qr5 (by omega)))
        )
      have B7 : Below w.heap.size w q5 := ((((Bq).trans (qq2.mono (Bq).size)).trans (qq3.mono (by have := (Bq).size; omega))).trans (qr4.below (by have := (Bq).size; omega) (by have := (Bq).size; omega))).trans (qr5.below (by have := (Bq).size; omega) (by have := (Bq).size; omega))
      have R7 := hR.below B7 hR.lt
      with_reducible refine (awake_any _ R7).mono ?_
      rintro e wa ⟨rfl, ba⟩
      have Ba := (B7).trans (ba.mono (B7).size)
      go_wp2
      go_ret
      exact ⟨rfl, Ba⟩
theorem tagsLaw (s k a b c d nonce ch : Int) (w : World) (hs : U64 s) (ha : U64 a) (hb : U64 b) (hc : U64 c) (hd : U64 d) (hn : U64 nonce) (h0 : U64 ch) (hR : Rnd w) :
    Calls Tryd.prog 8 #[.int .u64 s, .int .i64 k, keyV a b, keyV c d, .int .u64 nonce, .int .u64 ch] w fun e w' => e = .returned (.bool true) ∧ Below w.heap.size w w' := by
  by_cases hk : 1 ≤ k ∧ k ≤ 8
  · by_cases hne : ch = 0
    · subst hne; exact tags_zero s k a b c d nonce w hk hR
    · exact tags_main s k a b c d nonce ch w hs ha hb hc hd hn h0 hne hk hR
  · exact tags_nil s k a b c d nonce ch w hk hR
end Go.Proofs.YtkgpeddncpdjjaaDoor
