/- TopGuarded: flip and forged. Open and Accept of any bytes, in one statement; what was proved has its tag at its end. A trip with any header: the stale cookie, the reply accepted once. -/
import Derived.Test.YtkccmmhofhaccaaDoorTGz15
import Derived.Test.YtkccmmhofhaccaaDoorTGz14
namespace Go.Proofs.YtkccmmhofhaccaaDoor
open Go.RowKit
set_option linter.unusedSimpArgs false
set_option linter.unusedVariables false
set_option maxRecDepth 100000
theorem but_drew' {g : Nat} {w w' : World} (h : But g w w') : But g w w'.drew := ⟨h.os, h.tape, h.output, h.size, h.block⟩
theorem xg_rng {x y : Int} (hx : 0 ≤ x ∧ x ≤ 255) (hy : 0 ≤ y ∧ y ≤ 255) : 0 ≤ bits .xor .u8 x y ∧ bits .xor .u8 x y ≤ 255 := by
  rw [Go.u8_xor x y hx.1 (by omega) hy.1 (by omega)]
  have h : x.toNat ^^^ y.toNat < 2 ^ 8 := Nat.xor_lt_two_pow (by omega) (by omega)
  omega
set_option maxHeartbeats 4000000 in
theorem flip_any (A : Option Addr) (n c : Nat) (l : List Int) (bit : Int) (w : World) (hn : l.length = n) (h : Bs w 0 w.heap.size A l) (hm : n ≤ 1000000) (hb1 : -9223372036854775808 ≤ bit) (hb2 : bit ≤ 9223372036854775807) :
    Calls Tryd.prog 11 #[.slice A n c, .int .i64 bit] w fun e w' => ∃ A' c' l' ch, e = .returned (.tuple #[.slice A' n c', .bool ch]) ∧ l'.length = n ∧ (ch = false → l' = l) ∧ Ow w' w.heap.size A' c' l' ∧ Below w.heap.size w w' := by
  obtain ⟨w1, hw1⟩ : ∃ w1, w.alloc (.cells #[] 5) = w1 := ⟨_, rfl⟩
  have hO : Ow w1 w.heap.size (some ⟨w.heap.size, 0, none⟩) 0 [] := by rw [← hw1]; exact ow_empty' (Blk.new w _ _ _ rfl) (Nat.le_refl _)
  have hB1 : Bs w1 0 w.heap.size A l := by rw [← hw1]; exact h.alloc (Nat.le_refl _) _
  have b1 : Below w.heap.size w w1 := by rw [← hw1]; exact (Below.refl _ _).alloc (Nat.le_refl _) _
  have z1 := b1.size
  have w8 : IntKind.i64.wrap (8 * (n : Int)) = 8 * n := IntWalk.i64_in _ (by omega)
  have w8' : wrap64 (8 * (n : Int)) = 8 * n := by unfold wrap64; omega
  have HN := Lib.hid hn
  clear hn
  by_cases h0 : bit < 0
  · have d0 : decide (bit < 0) = true := decide_eq_true h0
    clear h0
    go_enter Tryd.func11, Tryd.ntmps11
    go_wp2_with (first
      | (with_reducible refine wpList_append_bs rfl (.tmp 7) (.tmp 8) rfl 0 0 n c rfl rfl rfl HN.out hO hB1 (by omega) z1 ?_; intro A2 c2 w2 O2 b2 _))
    go_ret2
    exact ⟨A2, c2, l, false, rfl, HN.out, fun _ => rfl, by simpa using O2, b1.trans b2⟩
  · have d0 : decide (bit < 0) = false := decide_eq_false h0
    by_cases h8 : 8 * (n : Int) ≤ bit
    · have d8 : decide (8 * (n : Int) ≤ bit) = true := decide_eq_true h8
      clear h0 h8
      go_enter Tryd.func11, Tryd.ntmps11
      go_wp2_with (first
        | (with_reducible refine wpList_append_bs rfl (.tmp 7) (.tmp 8) rfl 0 0 n c rfl rfl rfl HN.out hO hB1 (by omega) z1 ?_; intro A2 c2 w2 O2 b2 _))
      go_ret2
      exact ⟨A2, c2, l, false, rfl, HN.out, fun _ => rfl, by simpa using O2, b1.trans b2⟩
    · have d8 : decide (8 * (n : Int) ≤ bit) = false := decide_eq_false h8
      obtain ⟨q, r, rfl, hr⟩ : ∃ q r : Nat, bit = 8 * q + r ∧ r < 8 := ⟨(bit / 8).toNat, (bit % 8).toNat, by omega, by omega⟩
      have e1 : (8 * (q : Int) + r).tdiv 8 = q := by rw [Int.tdiv_eq_ediv_of_nonneg (by omega)]; omega
      have e2 : (8 * (q : Int) + r).tmod 8 = r := by rw [Int.tmod_eq_emod_of_nonneg (by omega)]; omega
      have e3 : (8 * (q : Int) + r) / 8 = q := by omega
      have e4 : (8 * (q : Int) + r) % 8 = r := by omega
      have hq : q < n := by omega
      have q0 : (0 : Int) ≤ q := by omega
      have q1 : (q : Int) < n := by omega
      have r0 : (0 : Int) ≤ r := by omega
      have r1 : (r : Int) < 8 := by omega
      go_enter Tryd.func11, Tryd.ntmps11
      go_wp2_with (first
        | (with_reducible refine wpList_append_bs rfl (.tmp 7) (.tmp 8) rfl 0 0 n c rfl rfl rfl HN.out hO hB1 (by omega) z1 ?_; intro A2 c2 w2 O2 b2 _))
      have O2' : Ow w2 w.heap.size A2 c2 l := by simpa using O2
      obtain ⟨g, rfl, hg1, hg2⟩ : ∃ g, A2 = some ⟨g, 0, none⟩ ∧ w.heap.size ≤ g ∧ g < w2.heap.size := by
        rcases O2'.form with ⟨_, e, _⟩ | ⟨g, e1, e2, e3⟩
        · have := HN.out; rw [e] at this; simp at this; omega
        · exact ⟨g, e1, e2, e3⟩
      have p0 := O2'.cell (k := q) (by rw [HN.out]; exact hq)
      have p1 := O2'.frozen
      have hy := O2'.1.at q
      have hS := fun {x : Int} (h0 : 0 ≤ x) (h1 : x ≤ 255) => O2'.set q h0 h1
      generalize hY : atB l q = y at p0 hy
      go_region
      have hpw : (0 : Int) ≤ 2 ^ r % 256 ∧ (2 : Int) ^ r % 256 ≤ 255 := by omega
      have hrg := xg_rng hy hpw
      generalize (2 : Int) ^ r % 256 = pw at *
      obtain ⟨w3, hw3⟩ : ∃ w3, w3 = (w2.setCell ⟨g, q, none⟩ (.int .u8 (bits .xor .u8 y pw))).drew := ⟨_, rfl⟩
      have O3 : Ow w3 w.heap.size (some ⟨g, 0, none⟩) c2 (l.set q (bits .xor .u8 y pw)) := by
        rw [hw3]
        exact (hS hrg.1 hrg.2).drew
      have G3 : But g w2 w3 := by rw [hw3]; exact but_drew' (but_setCell _ _ _ _)
      rw [← hw3]
      clear hw3 hS p0 p1
      go_wp2
      go_ret2
      have b12 := b1.trans b2
      exact ⟨_, c2, _, true, rfl, by rw [List.length_set]; exact HN.out, (fun h => by cases h), O3, b12.trans (G3.below b12.size hg1)⟩
def fgB (k0 k1 : Int) (l : List Int) : Bool := if l.length < 12 then false else (tagF k0 k1 (l.take (l.length - 8)) == numB (l.drop (l.length - 8))) || (tagF k0 k1 (l.take (l.length - 12)) == numB (l.drop (l.length - 8)))
set_option maxRecDepth 100000 in
set_option maxHeartbeats 8000000 in
theorem forged_any (k0 k1 : Int) (A : Option Addr) (n c : Nat) (l : List Int) (w : World) (hk0 : U64 k0) (hk1 : U64 k1) (hn : l.length = n) (h : Bs w 0 w.heap.size A l) (hnc : n ≤ c) (hc : c ≤ 9223372036854775807) (hm : n ≤ 1000000) (hR : Rnd w) :
    Calls Tryd.prog 13 #[keyV k0 k1, .slice A n c] w fun e w' => e = .returned (.bool (fgB k0 k1 l)) ∧ Below w.heap.size w w' := by
  by_cases h12 : n < 12
  · have d1 : decide ((n : Int) < 12) = true := decide_eq_true (by omega)
    have hF : fgB k0 k1 l = false := by unfold fgB; rw [if_pos (by omega)]
    rw [hF]
    clear hF h12
    go_enter Tryd.func13, Tryd.ntmps13
    go_wp2_with (first
      | (refine wpl_box (by rfl) 24 _ (by rfl) _ (keyL k0 k1) (by rfl) rfl ?_; intro w1 P1 s1 b1))
    go_ret
    exact ⟨rfl, b1⟩
  · have d1 : decide ((n : Int) < 12) = false := decide_eq_false (by omega)
    have hF : fgB k0 k1 l = ((tagF k0 k1 (l.take (n - 8)) == numB (l.drop (n - 8))) || (tagF k0 k1 (l.take (n - 12)) == numB (l.drop (n - 8)))) := by unfold fgB; rw [if_neg (by omega), hn]
    have hc1 := fun W hB T hR => macchk_any k0 k1 T A (n - 8) c (l.take (n - 8)) W hk0 hk1 (by rw [List.length_take]; omega) hB (by omega) (by omega) hc hR
    have hc2 := fun W hB T hR => macchk_any k0 k1 T A (n - 12) c (l.take (n - 12)) W hk0 hk1 (by rw [List.length_take]; omega) hB (by omega) (by omega) hc hR
    rw [hF]
    clear hF
    generalize hT1 : tagF k0 k1 (l.take (n - 8)) = T1 at hc1 ⊢
    generalize hT2 : tagF k0 k1 (l.take (n - 12)) = T2 at hc2 ⊢
    have hl8 : (l.drop (n - 8)).length = 8 := by rw [List.length_drop]; omega
    have hd := h.drop (i := n - 8) (c := c) (by omega)
    have ht8 := h.take (n - 8)
    have ht12 := h.take (n - 12)
    obtain ⟨b, o, rfl, _, hbw, _⟩ := h.at (by omega)
    rw [if_neg (by omega)] at hd
    have hd1 : Bs w 0 w.heap.size (some ⟨b, o + (n - 8), none⟩) (l.drop (n - 8)) := by simpa [ofAdd] using hd
    generalize hD : l.drop (n - 8) = D at hd1 hl8 ⊢
    have q0 : (0 : Int) ≤ (n : Int) - 8 := by omega
    have q1 : (n : Int) - 8 ≤ n := by omega
    have q2 : ((n : Int) - 8).toNat = n - 8 := by omega
    have q3 : IntKind.i64.wrap ((n : Int) - 8) = (n : Int) - 8 := IntWalk.i64_in _ (by omega)
    have q4 : (n : Int) - 8 ≤ c := by omega
    have p0 : (0 : Int) ≤ (n : Int) - 12 := by omega
    have p1 : (n : Int) - 12 ≤ c := by omega
    have p2 : ((n : Int) - 12).toNat = n - 12 := by omega
    have p3 : IntKind.i64.wrap ((n : Int) - 12) = (n : Int) - 12 := IntWalk.i64_in _ (by omega)
    have p4 : (n : Int) ≤ c := by omega
    have p5 : n - (n - 8) = 8 := by omega
    have p6 : (8 : Int) ≤ n := by omega
    have p7 : (12 : Int) ≤ n := by omega
    have HL := Lib.hid hl8
    clear hd hT1 hT2 hD hn h12 hl8
    go_enter Tryd.func13, Tryd.ntmps13
    go_wp2_with (first
      | (refine wpl_box (by rfl) 24 _ (by rfl) _ (keyL k0 k1) (by rfl) rfl ?_; intro w1 P1 s1 b1))
    go_loop [5, 17] (fun t i => ∃ k : Nat, k ≤ 8 ∧ i = .int .i64 k ∧ t = .int .u64 (numB (D.take k))) (fun _ i => 8 - (intOf i).toNat)
    case atStart => exact ⟨0, by omega, rfl, by simp [numB]⟩
    case round =>
      obtain ⟨k, hk, rfl, rfl⟩ := hrel
      by_cases hlt : k < 8
      · obtain ⟨b', o', eb, _, _, hcl⟩ := (hd1.below b1 (Nat.le_refl _)).at (by rw [HL.out]; omega)
        cases eb
        have hck := hcl k (by rw [HL.out]; exact hlt)
        have hby := hd1.byt.at k
        have hS := numB_succ D k (by rw [HL.out]; exact hlt)
        have hr := numB_range (D.take k)
        have hO := shl_or (numB (D.take k)) (atB D k) hr.1 hby
        have hw : IntKind.u64.wrap (atB D k) = atB D k := by rw [IntKind.wrap_u64]; omega
        have hk0' : (0 : Int) ≤ k := by omega
        have hk1' : (k : Int) < 8 := by omega
        clear hcl hc1 hc2
        go_wp2
        exact ⟨⟨k + 1, by omega, by go_num, by rw [hS]⟩, by simp [intOf]; omega⟩
      · obtain rfl : k = 8 := by omega
        have hD8 : D.take 8 = D := List.take_of_length_le (by rw [HL.out]; exact Nat.le_refl _)
        rw [hD8]
        obtain ⟨T, hT⟩ : ∃ T, numB D = T := ⟨_, rfl⟩
        rw [hT]
        have HT := Lib.hid hT
        clear hT
        clear hd1
        have hc1' := fun W hB hR => hc1 W hB T hR
        have hc2' := fun W hB hR => hc2 W hB T hR
        clear hc1 hc2
        obtain ⟨Y, hY⟩ : ∃ Y, (T2 == T) = Y := ⟨_, rfl⟩
        obtain ⟨X, hX⟩ : ∃ X, (T1 == T) = X := ⟨_, rfl⟩
        rw [hY] at hc2'
        rw [hX] at hc1'
        have HX := Lib.hid hX
        have HY := Lib.hid hY
        clear hX hY
        cases X with
        | true =>
          clear hc2'
          go_wp2_with fail
          refine wp_region_det (fun y => Blk y w.heap.size 24 (keyL k0 k1) ∧ Below w.heap.size w y) 19 (by kernel_rfl) rfl (by exact ⟨P1.drew, b1.drew⟩) ?_
          simp only [List.replicate]
          refine wpD_take (i := 0) (v := .agg (keyL k0 k1).toArray) (by simp only [List.getElem?_toArray, List.getElem?_cons_succ, List.getElem?_cons_zero]; rfl) (by kernel_rfl) (by kernel_rfl) (by kernel_rfl) (by rfl) (ys_load_mid 24 _ (by rfl) w.heap.size 0 (by rfl) (keyL k0 k1) _ (fun w' h => h.1.range) Tryd.underlying24 rfl sizeKey) ?_
          (try simp only [Act.put, List.setIfInBounds_toArray, List.set_cons_zero, List.set_cons_succ])
          (refine wpD_take (i := 1) (v := _) (by simp only [List.getElem?_toArray, List.getElem?_cons_succ, List.getElem?_cons_zero]; rfl) (by kernel_rfl) (by kernel_rfl) (by kernel_rfl) (by rfl) (YS.of_value (by intro w' hSw; (try dsimp only at hSw); go_simp; first | done | with_reducible rfl)) ?_; (try simp only [Act.put, List.setIfInBounds_toArray, List.set_cons_zero, List.set_cons_succ]))
          (refine wpD_take (i := 2) (v := _) (by simp only [List.getElem?_toArray, List.getElem?_cons_succ, List.getElem?_cons_zero]; rfl) (by kernel_rfl) (by kernel_rfl) (by kernel_rfl) (by rfl) (YS.of_value (by intro w' hSw; (try dsimp only at hSw); go_simp; first | done | with_reducible rfl)) ?_; (try simp only [Act.put, List.setIfInBounds_toArray, List.set_cons_zero, List.set_cons_succ]))
          (refine wpD_take (i := 3) (v := _) (by simp only [List.getElem?_toArray, List.getElem?_cons_succ, List.getElem?_cons_zero]; rfl) (by kernel_rfl) (by kernel_rfl) (by kernel_rfl) (by rfl) (YS.of_value (by intro w' hSw; (try dsimp only at hSw); go_simp; first | done | with_reducible rfl)) ?_; (try simp only [Act.put, List.setIfInBounds_toArray, List.set_cons_zero, List.set_cons_succ]))
          (refine wpD_take (i := 4) (v := _) (by simp only [List.getElem?_toArray, List.getElem?_cons_succ, List.getElem?_cons_zero]; rfl) (by kernel_rfl) (by kernel_rfl) (by kernel_rfl) (by rfl) (YS.of_value (by intro w' hSw; (try dsimp only at hSw); go_simp; first | done | with_reducible rfl)) ?_; (try simp only [Act.put, List.setIfInBounds_toArray, List.set_cons_zero, List.set_cons_succ]))
          (refine wpD_take (i := 5) (v := _) (by simp only [List.getElem?_toArray, List.getElem?_cons_succ, List.getElem?_cons_zero]; rfl) (by kernel_rfl) (by kernel_rfl) (by kernel_rfl) (by rfl) (YS.of_value (by intro w' hSw; (try dsimp only at hSw); go_simp; first | done | with_reducible rfl)) ?_; (try simp only [Act.put, List.setIfInBounds_toArray, List.set_cons_zero, List.set_cons_succ]))
          (refine wpD_take (i := 6) (v := _) (by simp only [List.getElem?_toArray, List.getElem?_cons_succ, List.getElem?_cons_zero]; rfl) (by kernel_rfl) (by kernel_rfl) (by kernel_rfl) (by rfl) (YS.of_value (by intro w' hSw; (try dsimp only at hSw); go_simp; first | done | with_reducible rfl)) ?_; (try simp only [Act.put, List.setIfInBounds_toArray, List.set_cons_zero, List.set_cons_succ]))
          (refine wpD_take (i := 7) (v := _) (by simp only [List.getElem?_toArray, List.getElem?_cons_succ, List.getElem?_cons_zero]; rfl) (by kernel_rfl) (by kernel_rfl) (by kernel_rfl) (by rfl) (by intro w' hSw; (try dsimp only at hSw); go_simp; (go_at_call 27; ((with_reducible refine (hc1' _ ((ht8.below hSw.2 (Nat.le_refl _)).wide (Nat.le_refl _) hSw.2.size) (hR.below hSw.2 hR.lt)).mono ?_); rintro e w3 ⟨rfl, b3⟩; exact ⟨rfl, hSw.1.below b3 hSw.1.lt, hSw.2.trans (b3.mono hSw.2.size)⟩))) ?_; (try simp only [Act.put, List.setIfInBounds_toArray, List.set_cons_zero, List.set_cons_succ]))
          (refine wpD_take (i := 8) (v := _) (by simp only [List.getElem?_toArray, List.getElem?_cons_succ, List.getElem?_cons_zero]; rfl) (by kernel_rfl) (by kernel_rfl) (by kernel_rfl) (by rfl) (YS.of_value (by intro w' hSw; (try dsimp only at hSw); go_simp; first | done | with_reducible rfl)) ?_; (try simp only [Act.put, List.setIfInBounds_toArray, List.set_cons_zero, List.set_cons_succ]))
          (refine wpD_skip (i := 9) (by simp only [List.getElem?_toArray, List.getElem?_cons_succ, List.getElem?_cons_zero]; rfl) (by kernel_rfl) (by kernel_rfl) (by kernel_rfl) (by rfl) ?_; (try simp only [Act.put, List.setIfInBounds_toArray, List.set_cons_zero, List.set_cons_succ]))
          (refine wpD_skip (i := 10) (by simp only [List.getElem?_toArray, List.getElem?_cons_succ, List.getElem?_cons_zero]; rfl) (by kernel_rfl) (by kernel_rfl) (by kernel_rfl) (by rfl) ?_; (try simp only [Act.put, List.setIfInBounds_toArray, List.set_cons_zero, List.set_cons_succ]))
          (refine wpD_skip (i := 11) (by simp only [List.getElem?_toArray, List.getElem?_cons_succ, List.getElem?_cons_zero]; rfl) (by kernel_rfl) (by kernel_rfl) (by kernel_rfl) (by rfl) ?_; (try simp only [Act.put, List.setIfInBounds_toArray, List.set_cons_zero, List.set_cons_succ]))
          (refine wpD_skip (i := 12) (by simp only [List.getElem?_toArray, List.getElem?_cons_succ, List.getElem?_cons_zero]; rfl) (by kernel_rfl) (by kernel_rfl) (by kernel_rfl) (by rfl) ?_; (try simp only [Act.put, List.setIfInBounds_toArray, List.set_cons_zero, List.set_cons_succ]))
          (refine wpD_skip (i := 13) (by simp only [List.getElem?_toArray, List.getElem?_cons_succ, List.getElem?_cons_zero]; rfl) (by kernel_rfl) (by kernel_rfl) (by kernel_rfl) (by rfl) ?_; (try simp only [Act.put, List.setIfInBounds_toArray, List.set_cons_zero, List.set_cons_succ]))
          (refine wpD_skip (i := 14) (by simp only [List.getElem?_toArray, List.getElem?_cons_succ, List.getElem?_cons_zero]; rfl) (by kernel_rfl) (by kernel_rfl) (by kernel_rfl) (by rfl) ?_; (try simp only [Act.put, List.setIfInBounds_toArray, List.set_cons_zero, List.set_cons_succ]))
          (refine wpD_skip (i := 15) (by simp only [List.getElem?_toArray, List.getElem?_cons_succ, List.getElem?_cons_zero]; rfl) (by kernel_rfl) (by kernel_rfl) (by kernel_rfl) (by rfl) ?_; (try simp only [Act.put, List.setIfInBounds_toArray, List.set_cons_zero, List.set_cons_succ]))
          (refine wpD_skip (i := 16) (by simp only [List.getElem?_toArray, List.getElem?_cons_succ, List.getElem?_cons_zero]; rfl) (by kernel_rfl) (by kernel_rfl) (by kernel_rfl) (by rfl) ?_; (try simp only [Act.put, List.setIfInBounds_toArray, List.set_cons_zero, List.set_cons_succ]))
          (refine wpD_take (i := 17) (v := _) (by simp only [List.getElem?_toArray, List.getElem?_cons_succ, List.getElem?_cons_zero]; rfl) (by kernel_rfl) (by kernel_rfl) (by kernel_rfl) (by rfl) (YS.of_value (by intro w' hSw; (try dsimp only at hSw); go_simp; first | done | with_reducible rfl)) ?_; (try simp only [Act.put, List.setIfInBounds_toArray, List.set_cons_zero, List.set_cons_succ]))
          (refine wpD_take (i := 18) (v := _) (by simp only [List.getElem?_toArray, List.getElem?_cons_succ, List.getElem?_cons_zero]; rfl) (by kernel_rfl) (by kernel_rfl) (by kernel_rfl) (by rfl) (YS.of_value (by intro w' hSw; (try dsimp only at hSw); go_simp; first | done | with_reducible rfl)) ?_; (try simp only [Act.put, List.setIfInBounds_toArray, List.set_cons_zero, List.set_cons_succ]))
          refine wpD_done (by kernel_rfl) ?_ _
          intro w5 hS5
          go_wp2
          go_ret
          exact ⟨by rw [HT.out, HX.out, HY.out]; rfl, hS5.2⟩
        | false =>
          go_wp2_with fail
          refine wp_region_det (fun y => Blk y w.heap.size 24 (keyL k0 k1) ∧ Below w.heap.size w y) 19 (by kernel_rfl) rfl (by exact ⟨P1.drew, b1.drew⟩) ?_
          simp only [List.replicate]
          refine wpD_take (i := 0) (v := .agg (keyL k0 k1).toArray) (by simp only [List.getElem?_toArray, List.getElem?_cons_succ, List.getElem?_cons_zero]; rfl) (by kernel_rfl) (by kernel_rfl) (by kernel_rfl) (by rfl) (ys_load_mid 24 _ (by rfl) w.heap.size 0 (by rfl) (keyL k0 k1) _ (fun w' h => h.1.range) Tryd.underlying24 rfl sizeKey) ?_
          (try simp only [Act.put, List.setIfInBounds_toArray, List.set_cons_zero, List.set_cons_succ])
          (refine wpD_take (i := 1) (v := _) (by simp only [List.getElem?_toArray, List.getElem?_cons_succ, List.getElem?_cons_zero]; rfl) (by kernel_rfl) (by kernel_rfl) (by kernel_rfl) (by rfl) (YS.of_value (by intro w' hSw; (try dsimp only at hSw); go_simp; first | done | with_reducible rfl)) ?_; (try simp only [Act.put, List.setIfInBounds_toArray, List.set_cons_zero, List.set_cons_succ]))
          (refine wpD_take (i := 2) (v := _) (by simp only [List.getElem?_toArray, List.getElem?_cons_succ, List.getElem?_cons_zero]; rfl) (by kernel_rfl) (by kernel_rfl) (by kernel_rfl) (by rfl) (YS.of_value (by intro w' hSw; (try dsimp only at hSw); go_simp; first | done | with_reducible rfl)) ?_; (try simp only [Act.put, List.setIfInBounds_toArray, List.set_cons_zero, List.set_cons_succ]))
          (refine wpD_take (i := 3) (v := _) (by simp only [List.getElem?_toArray, List.getElem?_cons_succ, List.getElem?_cons_zero]; rfl) (by kernel_rfl) (by kernel_rfl) (by kernel_rfl) (by rfl) (YS.of_value (by intro w' hSw; (try dsimp only at hSw); go_simp; first | done | with_reducible rfl)) ?_; (try simp only [Act.put, List.setIfInBounds_toArray, List.set_cons_zero, List.set_cons_succ]))
          (refine wpD_take (i := 4) (v := _) (by simp only [List.getElem?_toArray, List.getElem?_cons_succ, List.getElem?_cons_zero]; rfl) (by kernel_rfl) (by kernel_rfl) (by kernel_rfl) (by rfl) (YS.of_value (by intro w' hSw; (try dsimp only at hSw); go_simp; first | done | with_reducible rfl)) ?_; (try simp only [Act.put, List.setIfInBounds_toArray, List.set_cons_zero, List.set_cons_succ]))
          (refine wpD_take (i := 5) (v := _) (by simp only [List.getElem?_toArray, List.getElem?_cons_succ, List.getElem?_cons_zero]; rfl) (by kernel_rfl) (by kernel_rfl) (by kernel_rfl) (by rfl) (YS.of_value (by intro w' hSw; (try dsimp only at hSw); go_simp; first | done | with_reducible rfl)) ?_; (try simp only [Act.put, List.setIfInBounds_toArray, List.set_cons_zero, List.set_cons_succ]))
          (refine wpD_take (i := 6) (v := _) (by simp only [List.getElem?_toArray, List.getElem?_cons_succ, List.getElem?_cons_zero]; rfl) (by kernel_rfl) (by kernel_rfl) (by kernel_rfl) (by rfl) (YS.of_value (by intro w' hSw; (try dsimp only at hSw); go_simp; first | done | with_reducible rfl)) ?_; (try simp only [Act.put, List.setIfInBounds_toArray, List.set_cons_zero, List.set_cons_succ]))
          (refine wpD_take (i := 7) (v := _) (by simp only [List.getElem?_toArray, List.getElem?_cons_succ, List.getElem?_cons_zero]; rfl) (by kernel_rfl) (by kernel_rfl) (by kernel_rfl) (by rfl) (by intro w' hSw; (try dsimp only at hSw); go_simp; (go_at_call 27; ((with_reducible refine (hc1' _ ((ht8.below hSw.2 (Nat.le_refl _)).wide (Nat.le_refl _) hSw.2.size) (hR.below hSw.2 hR.lt)).mono ?_); rintro e w3 ⟨rfl, b3⟩; exact ⟨rfl, hSw.1.below b3 hSw.1.lt, hSw.2.trans (b3.mono hSw.2.size)⟩))) ?_; (try simp only [Act.put, List.setIfInBounds_toArray, List.set_cons_zero, List.set_cons_succ]))
          (refine wpD_take (i := 8) (v := _) (by simp only [List.getElem?_toArray, List.getElem?_cons_succ, List.getElem?_cons_zero]; rfl) (by kernel_rfl) (by kernel_rfl) (by kernel_rfl) (by rfl) (YS.of_value (by intro w' hSw; (try dsimp only at hSw); go_simp; first | done | with_reducible rfl)) ?_; (try simp only [Act.put, List.setIfInBounds_toArray, List.set_cons_zero, List.set_cons_succ]))
          refine wpD_take (i := 9) (v := .agg (keyL k0 k1).toArray) (by simp only [List.getElem?_toArray, List.getElem?_cons_succ, List.getElem?_cons_zero]; rfl) (by kernel_rfl) (by kernel_rfl) (by kernel_rfl) (by rfl) (ys_load_mid 24 _ (by rfl) w.heap.size 0 (by rfl) (keyL k0 k1) _ (fun w' h => h.1.range) Tryd.underlying24 rfl sizeKey) ?_
          (try simp only [Act.put, List.setIfInBounds_toArray, List.set_cons_zero, List.set_cons_succ])
          (refine wpD_take (i := 10) (v := _) (by simp only [List.getElem?_toArray, List.getElem?_cons_succ, List.getElem?_cons_zero]; rfl) (by kernel_rfl) (by kernel_rfl) (by kernel_rfl) (by rfl) (YS.of_value (by intro w' hSw; (try dsimp only at hSw); go_simp; first | done | with_reducible rfl)) ?_; (try simp only [Act.put, List.setIfInBounds_toArray, List.set_cons_zero, List.set_cons_succ]))
          (refine wpD_take (i := 11) (v := _) (by simp only [List.getElem?_toArray, List.getElem?_cons_succ, List.getElem?_cons_zero]; rfl) (by kernel_rfl) (by kernel_rfl) (by kernel_rfl) (by rfl) (YS.of_value (by intro w' hSw; (try dsimp only at hSw); go_simp; first | done | with_reducible rfl)) ?_; (try simp only [Act.put, List.setIfInBounds_toArray, List.set_cons_zero, List.set_cons_succ]))
          (refine wpD_take (i := 12) (v := _) (by simp only [List.getElem?_toArray, List.getElem?_cons_succ, List.getElem?_cons_zero]; rfl) (by kernel_rfl) (by kernel_rfl) (by kernel_rfl) (by rfl) (YS.of_value (by intro w' hSw; (try dsimp only at hSw); go_simp; first | done | with_reducible rfl)) ?_; (try simp only [Act.put, List.setIfInBounds_toArray, List.set_cons_zero, List.set_cons_succ]))
          (refine wpD_take (i := 13) (v := _) (by simp only [List.getElem?_toArray, List.getElem?_cons_succ, List.getElem?_cons_zero]; rfl) (by kernel_rfl) (by kernel_rfl) (by kernel_rfl) (by rfl) (YS.of_value (by intro w' hSw; (try dsimp only at hSw); go_simp; first | done | with_reducible rfl)) ?_; (try simp only [Act.put, List.setIfInBounds_toArray, List.set_cons_zero, List.set_cons_succ]))
          (refine wpD_take (i := 14) (v := _) (by simp only [List.getElem?_toArray, List.getElem?_cons_succ, List.getElem?_cons_zero]; rfl) (by kernel_rfl) (by kernel_rfl) (by kernel_rfl) (by rfl) (YS.of_value (by intro w' hSw; (try dsimp only at hSw); go_simp; first | done | with_reducible rfl)) ?_; (try simp only [Act.put, List.setIfInBounds_toArray, List.set_cons_zero, List.set_cons_succ]))
          (refine wpD_take (i := 15) (v := _) (by simp only [List.getElem?_toArray, List.getElem?_cons_succ, List.getElem?_cons_zero]; rfl) (by kernel_rfl) (by kernel_rfl) (by kernel_rfl) (by rfl) (YS.of_value (by intro w' hSw; (try dsimp only at hSw); go_simp; first | done | with_reducible rfl)) ?_; (try simp only [Act.put, List.setIfInBounds_toArray, List.set_cons_zero, List.set_cons_succ]))
          (refine wpD_take (i := 16) (v := _) (by simp only [List.getElem?_toArray, List.getElem?_cons_succ, List.getElem?_cons_zero]; rfl) (by kernel_rfl) (by kernel_rfl) (by kernel_rfl) (by rfl) (by intro w' hSw; (try dsimp only at hSw); go_simp; (go_at_call 27; ((with_reducible refine (hc2' _ ((ht12.below hSw.2 (Nat.le_refl _)).wide (Nat.le_refl _) hSw.2.size) (hR.below hSw.2 hR.lt)).mono ?_); rintro e w3 ⟨rfl, b3⟩; exact ⟨rfl, hSw.1.below b3 hSw.1.lt, hSw.2.trans (b3.mono hSw.2.size)⟩))) ?_; (try simp only [Act.put, List.setIfInBounds_toArray, List.set_cons_zero, List.set_cons_succ]))
          (refine wpD_take (i := 17) (v := _) (by simp only [List.getElem?_toArray, List.getElem?_cons_succ, List.getElem?_cons_zero]; rfl) (by kernel_rfl) (by kernel_rfl) (by kernel_rfl) (by rfl) (YS.of_value (by intro w' hSw; (try dsimp only at hSw); go_simp; first | done | with_reducible rfl)) ?_; (try simp only [Act.put, List.setIfInBounds_toArray, List.set_cons_zero, List.set_cons_succ]))
          (refine wpD_take (i := 18) (v := _) (by simp only [List.getElem?_toArray, List.getElem?_cons_succ, List.getElem?_cons_zero]; rfl) (by kernel_rfl) (by kernel_rfl) (by kernel_rfl) (by rfl) (YS.of_value (by intro w' hSw; (try dsimp only at hSw); go_simp; first | done | with_reducible rfl)) ?_; (try simp only [Act.put, List.setIfInBounds_toArray, List.set_cons_zero, List.set_cons_succ]))
          refine wpD_done (by kernel_rfl) ?_ _
          intro w5 hS5
          go_wp2
          go_ret
          exact ⟨by rw [HT.out, HX.out, HY.out]; rfl, hS5.2⟩
end Go.Proofs.YtkccmmhofhaccaaDoor
namespace Go.Proofs.YtkccmmhofhaccaaDoor
open Go.RowKit
set_option linter.unusedSimpArgs false
set_option linter.unusedVariables false
set_option maxRecDepth 100000
/-- what Accept answers -/
def accE (k2 k3 : Int) (I : List (List Int)) (b : List Int) : Int :=
  if spE b ≠ 0 then spE b else if prvB k2 k3 (spB b) (spA b) = false then 16 else if fiI I (spI b) = -1 then 11 else if frB (spL b) = false then 7 else 0
def accV (k2 k3 : Int) (I : List (List Int)) (b : List Int) : Value := if accE k2 k3 I b = 0 then dcV b else ntp0
def accL (k2 k3 : Int) (I : List (List Int)) (b : List Int) : Flds := if accE k2 k3 I b = 0 then spL b else []
def accC (k2 k3 : Int) (I : List (List Int)) (b : List Int) (CK : List (List Int)) : List (List Int) := if accE k2 k3 I b = 0 then ckN CK (frs (spL b)) else CK
def accI (k2 k3 : Int) (I : List (List Int)) (b : List Int) : List (List Int) := if accE k2 k3 I b = 0 then I.take (fiI I (spI b)).toNat ++ I.drop ((fiI I (spI b)).toNat + 1) else I
theorem accV_form (k2 k3 : Int) (I : List (List Int)) (b : List Int) : ∃ l v m st po pr rd rp id ref org rec xmt : Int, accV k2 k3 I b = ntp l v m st po pr rd rp id ref org rec xmt := by
  unfold accV
  split
  · obtain ⟨l, v, m, st, po, pr, rd, rp, id, ref, org, rec, xmt, hV, _⟩ := dcV_form b
    exact ⟨_, _, _, _, _, _, _, _, _, _, _, _, _, hV⟩
  · exact ⟨_, _, _, _, _, _, _, _, _, _, _, _, _, rfl⟩
theorem fiI_cases (I : List (List Int)) (x : List Int) : fiI I x = -1 ∨ ∃ k : Nat, k < I.length ∧ fiI I x = k := by
  unfold fiI
  cases h : I.findIdx? (· == x) with
  | none => exact .inl rfl
  | some k =>
    refine .inr ⟨k, ?_, rfl⟩
    have := List.findIdx?_eq_some_iff_getElem.1 h
    exact this.1
theorem accE_cases (k2 k3 : Int) (I : List (List Int)) (b : List Int) :
    (spE b ≠ 0 ∧ accE k2 k3 I b = spE b) ∨ (spE b = 0 ∧ prvB k2 k3 (spB b) (spA b) = false ∧ accE k2 k3 I b = 16) ∨ (spE b = 0 ∧ prvB k2 k3 (spB b) (spA b) = true ∧ fiI I (spI b) = -1 ∧ accE k2 k3 I b = 11) ∨
      (spE b = 0 ∧ prvB k2 k3 (spB b) (spA b) = true ∧ (∃ k : Nat, k < I.length ∧ fiI I (spI b) = k) ∧ frB (spL b) = false ∧ accE k2 k3 I b = 7) ∨ (spE b = 0 ∧ prvB k2 k3 (spB b) (spA b) = true ∧ (∃ k : Nat, k < I.length ∧ fiI I (spI b) = k) ∧ frB (spL b) = true ∧ accE k2 k3 I b = 0) := by
  unfold accE
  by_cases h1 : spE b = 0
  · cases h2 : prvB k2 k3 (spB b) (spA b) with
    | false => exact .inr (.inl ⟨h1, rfl, by rw [if_neg (by omega), if_pos rfl]⟩)
    | true =>
      rcases fiI_cases I (spI b) with h3 | ⟨k, hk, h3⟩
      · exact .inr (.inr (.inl ⟨h1, rfl, h3, by rw [if_neg (by omega), if_neg (by simp), if_pos h3]⟩))
      · cases h4 : frB (spL b) with
        | false => exact .inr (.inr (.inr (.inl ⟨h1, rfl, ⟨k, hk, h3⟩, rfl, by rw [if_neg (by omega), if_neg (by simp), if_neg (by omega), if_pos rfl]⟩)))
        | true => exact .inr (.inr (.inr (.inr ⟨h1, rfl, ⟨k, hk, h3⟩, rfl, by rw [if_neg (by omega), if_neg (by simp), if_neg (by omega), if_neg (by simp)]⟩)))
  · exact .inl ⟨h1, by rw [if_pos h1]⟩
theorem cacc_all {w : World} {lo b : Nat} {G : List Nat} {k0 k1 k2 k3 N : Int} {CK I : List (List Int)} (A : Option Addr) (n c : Nat) (R : List Int) (h : Cli w lo b G k0 k1 k2 k3 CK N I) (hk2 : U64 k2) (hk3 : U64 k3) (hR : Rnd w) (hn8 : CK.length ≤ 8) (hn28 : I.length ≤ 8)
    (hn : R.length = n) (hB : Bs w 0 w.heap.size A R) (hnc : n ≤ c) (hc : c ≤ 9223372036854775807) (hm : n ≤ 1000000) :
    Calls Tryd.prog 15 #[.pointer (some ⟨b, 0, none⟩), .slice A n c] w fun e w' => ∃ P1 p1 q1 G', e = .returned (.tuple #[accV k2 k3 I R, .slice P1 p1 q1, .int .i64 (accE k2 k3 I R)]) ∧ (accL k2 k3 I R).length = p1 ∧ XO w' w.heap.size P1 q1 (accL k2 k3 I R) ∧
      Cli w' lo b G' k0 k1 k2 k3 (accC k2 k3 I R CK) N (accI k2 k3 I R) ∧ Kp w G w' ∧ Nw w G G' := by
  obtain ⟨l, v, m, st, po, pr, rd, rp, id, ref, org, rec, xmt, hV, _⟩ := dcV_form R
  have key : accE k2 k3 I R ≠ 0 → ∀ (e : Ending) (w' : World), e = .returned (.tuple #[ntp0, .slice none 0 0, .int .i64 (accE k2 k3 I R)]) → Below w.heap.size w w' → ∃ P1 p1 q1 G', e = .returned (.tuple #[accV k2 k3 I R, .slice P1 p1 q1, .int .i64 (accE k2 k3 I R)]) ∧ (accL k2 k3 I R).length = p1 ∧ XO w' w.heap.size P1 q1 (accL k2 k3 I R) ∧
      Cli w' lo b G' k0 k1 k2 k3 (accC k2 k3 I R CK) N (accI k2 k3 I R) ∧ Kp w G w' ∧ Nw w G G' := fun hne e w' he hb => by
    unfold accV accL accC accI
    rw [if_neg hne, if_neg hne, if_neg hne, if_neg hne]
    exact ⟨none, 0, 0, G, he, rfl, XO.nil _ _, h.below hb, Kp.of_below hb, fun g hg => .inl hg⟩
  rcases accE_cases k2 k3 I R with ⟨h1, h2⟩ | ⟨h1, h2, h3⟩ | ⟨h1, h2, h3, h4⟩ | ⟨h1, h2, ⟨k, hk, h3⟩, h4, h5⟩ | ⟨h1, h2, ⟨k, hk, h3⟩, h4, h5⟩
  · refine (acc_err b A n c R w hn hB hnc hc hm h1).mono fun e w' ⟨q1, q2⟩ => key (by rw [h2]; exact h1) e w' (by rw [h2]; exact q1) q2
  · exact (cacc_tag A n c R l v m st po pr rd rp id ref org rec xmt h hk2 hk3 hR hn8 hn28 hn hB hnc hc hm h1 hV h2).mono fun e w' ⟨q1, q2⟩ => key (by rw [h3]; decide) e w' (by rw [h3]; exact q1) q2
  · exact (cacc_none A n c R l v m st po pr rd rp id ref org rec xmt h hk2 hk3 hR hn8 hn28 hn hB hnc hc hm h1 hV h2 h3).mono fun e w' ⟨q1, q2⟩ => key (by rw [h4]; decide) e w' (by rw [h4]; exact q1) q2
  · obtain ⟨g1, g2, T, Ac, nc, cc, A2, n2, c2, rfl, rfl, h'⟩ := h
    rw [List.length_map, h'.tn] at hn8
    have hk' := hk
    rw [h'.wn] at hn28 hk'
    refine (acc_some w h' hk2 hk3 hR hn8 hn28 A n c R hn hB hnc hc hm h1 l v m st po pr rd rp id ref org rec xmt hV h2 k hk' h3).mono fun e w' hh => ?_
    rcases hh with ⟨_, q1, q2⟩ | ⟨q1, _⟩
    · exact key (by rw [h5]; decide) e w' (by rw [h5]; exact q1) q2
    · rw [h4] at q1; cases q1
  · refine (cacc A n c R l v m st po pr rd rp id ref org rec xmt h hk2 hk3 hR hn8 hn28 hn hB hnc hc hm h1 hV h2 k hk h3 h4).mono fun e w' ⟨P1, p1, q1, G', z1, z2, z3, z4, z5, z6⟩ => ?_
    unfold accV accL accC accI
    rw [h5]
    rw [if_pos rfl, if_pos rfl, if_pos rfl, if_pos rfl, hV, h3]
    exact ⟨P1, p1, q1, G', z1, z2, z3, z4, z5, z6⟩
theorem creq_arg {w : World} {lo b : Nat} {G : List Nat} {k0 k1 k2 k3 N : Int} {CK I : List (List Int)} (l v m st po pr rd rp id ref org rec xmt nonce : Int) (h : Cli w lo b G k0 k1 k2 k3 CK N I) (hE : nchk l v m st po pr ≠ 0) :
    Calls Tryd.prog 7 #[.pointer (some ⟨b, 0, none⟩), ntp l v m st po pr rd rp id ref org rec xmt, .int .u64 nonce] w fun e w' => e = .returned (.tuple #[.slice none 0 0, .int .i64 2]) ∧ Below w.heap.size w w' :=
  req_arg l v m st po pr rd rp id ref org rec xmt nonce b w hE
/-- a client is left alone by writes to blocks below its own -/
theorem Cli.kpl {w w' : World} {lo b : Nat} {G H : List Nat} {k0 k1 k2 k3 N : Int} {CK I : List (List Int)} (h : Cli w lo b G k0 k1 k2 k3 CK N I) (hk : Kp w H w') (hH : ∀ x ∈ H, x < lo) : Cli w' lo b G k0 k1 k2 k3 CK N I := by
  obtain ⟨g1, g2, T, A, n, c, A2, n2, c2, e1, e2, h⟩ := h
  refine ⟨g1, g2, T, A, n, c, A2, n2, c2, e1, e2, h.kp hk (fun hm => ?_) (fun hm => ?_) (fun hm => ?_) (fun t ht hm => ?_)⟩
  · have := hH _ hm; have := h.lob; omega
  · have := hH _ hm; have := h.lo1; omega
  · have := hH _ hm; have := h.lo2; omega
  · have := hH _ hm
    have := (h.ck t ht).1.lt.1
    omega
/-- what Open of the program returns -/
def OpP (s kk g : Int) (b : List Int) (l v m st po pr rd rp id ref org rec xmt k0 k1 k2 k3 E : Int) (ID : List Int) : Prop :=
  ∀ (bj : Nat) (A : Option Addr) (n c : Nat) (w : World), Blk w bj 56 (jarL s kk g) → Rnd w → b.length = n → Bs w 0 w.heap.size A b → n ≤ c → c ≤ 9223372036854775807 → n ≤ 1000000 →
    Calls Tryd.prog 12 #[.pointer (some ⟨bj, 0, none⟩), .slice A n c] w fun e w' => ∃ A' c', e = .returned (.tuple #[ntp l v m st po pr rd rp id ref org rec xmt, .agg (tktL A' ID.length c' k0 k1 k2 k3).toArray, .int .i64 E]) ∧ Ow w' w.heap.size A' c' ID ∧ Below w.heap.size w w'
theorem spI_16' {b : List Int} (hE : spE b = 0) : (spI b).length = 16 := by
  rcases spE_cases b with ⟨h1, h2⟩ | ⟨h1, h2, h3⟩ | ⟨h1, h2, h3, h4⟩ | ⟨h1, h2, h3, h4, h5⟩
  · exact absurd (h2.symm.trans hE) h1
  · exact absurd (h3.symm.trans hE) h2
  · rw [h4] at hE; cases hE
  · exact h4
theorem open_p (s kk g : Int) (b : List Int) (hs : U64 s) (hg : Gn g) (hkk : 1 ≤ kk ∧ kk ≤ 8) (hb : Byt b) :
    ∃ l v m st po pr rd rp id ref org rec xmt k0 k1 k2 k3 E ID, OpP s kk g b l v m st po pr rd rp id ref org rec xmt k0 k1 k2 k3 E ID ∧ (E = 0 → spE b = 0 ∧ prvB k0 k1 (spB b) (spA b) = true) := by
  by_cases hE : spE b = 0
  · obtain ⟨l, v, m, st, po, pr, rd, rp, id, ref, org, rec, xmt, hV, _, _⟩ := dcV_form b
    by_cases hT : (spC b).length = 52
    · by_cases hO1 : opE s kk g (spC b) = 0
      · cases hPV : prvB (opK s kk g (spC b) 0) (opK s kk g (spC b) 1) (spB b) (spA b) with
        | true =>
          have h16 := spI_16' hE
          refine ⟨l, v, m, st, po, pr, rd, rp, id, ref, org, rec, xmt, opK s kk g (spC b) 0, opK s kk g (spC b) 1, opK s kk g (spC b) 2, opK s kk g (spC b) 3, 0, spI b, fun bj A n c w hJ hR hn h hnc hc hm => ?_, fun _ => ⟨hE, hPV⟩⟩
          rw [h16]
          exact (gopen_ok bj s kk g A n c b w hJ hs hg hkk hR hn h hnc hc hm hE l v m st po pr rd rp id ref org rec xmt hV hT hO1 hPV).mono fun e w' ⟨r, c', h1, h2, h3⟩ => ⟨_, c', h1, h2, h3⟩
        | false =>
          exact ⟨0, 0, 0, 0, 0, 0, 0, 0, 0, 0, 0, 0, 0, 0, 0, 0, 0, 16, [], fun bj A n c w hJ hR hn h hnc hc hm => (gopen_tag bj s kk g A n c b w hJ hs hg hkk hR hn h hnc hc hm hE l v m st po pr rd rp id ref org rec xmt hV hT hO1 hPV).mono fun e w' ⟨h1, h2⟩ => ⟨none, 0, h1, Ow.nil _ _, h2⟩, fun e => absurd e (by decide)⟩
      · exact ⟨0, 0, 0, 0, 0, 0, 0, 0, 0, 0, 0, 0, 0, 0, 0, 0, 0, opE s kk g (spC b), [], fun bj A n c w hJ hR hn h hnc hc hm => (gopen_bad bj s kk g A n c b w hJ hs hg hkk hR hn h hnc hc hm hE l v m st po pr rd rp id ref org rec xmt hV hT hO1).mono fun e w' ⟨h1, h2⟩ => ⟨none, 0, h1, Ow.nil _ _, h2⟩, fun e => absurd e hO1⟩
    · exact ⟨0, 0, 0, 0, 0, 0, 0, 0, 0, 0, 0, 0, 0, 0, 0, 0, 0, 7, [], fun bj A n c w hJ hR hn h hnc hc hm => (gopen_form bj s kk g A n c b w hJ hs hg hkk hR hn h hnc hc hm hE l v m st po pr rd rp id ref org rec xmt hV hT).mono fun e w' ⟨h1, h2⟩ => ⟨none, 0, h1, Ow.nil _ _, h2⟩, fun e => absurd e (by decide)⟩
  · exact ⟨0, 0, 0, 0, 0, 0, 0, 0, 0, 0, 0, 0, 0, 0, 0, 0, 0, spE b, [], fun bj A n c w hJ hR hn h hnc hc hm => (gopen_err bj A n c b w hn h hnc hc hm hE).mono fun e w' ⟨h1, h2⟩ => ⟨none, 0, h1, Ow.nil _ _, h2⟩, fun e => absurd e hE⟩
theorem spA_drop {b : List Int} (hb : Byt b) (hE : spE b = 0) : 12 ≤ b.length ∧ spA b = b.drop (b.length - 12) := by
  rcases spE_cases b with ⟨h1, h2⟩ | ⟨h1, h2, h3⟩ | ⟨h1, h2, h3, h4⟩ | ⟨h1, h2, h3, h4, h5⟩
  · exact absurd (h2.symm.trans hE) h1
  · exact absurd (h3.symm.trans hE) h2
  · rw [h4] at hE; cases hE
  · obtain ⟨n60, hRl⟩ := spA_n hb rfl h1 h2 h3
    have hR : dcR b = b.drop 48 := by unfold dcR; rw [if_pos h1]
    have hbR : Byt (dcR b) := by rw [hR]; exact hb.drop _
    obtain ⟨e1, _⟩ := (prs_back hbR).1 h2
    refine ⟨by omega, ?_⟩
    have e2 : (dcR b).drop ((fldsB (prsL (dcR b))).length) = spA b := by
      conv => lhs; rw [← e1]
      exact List.drop_left' (by rw [e1])
    rw [← e2, hR, List.drop_drop]
    congr 1
    have := congrArg List.length e1
    rw [List.length_append] at this
    unfold spA at h3
    rw [hR] at this h3
    rw [List.length_drop] at this
    omega
end Go.Proofs.YtkccmmhofhaccaaDoor
namespace Go.Proofs.YtkccmmhofhaccaaDoor
open Go.RowKit
set_option linter.unusedSimpArgs false
set_option linter.unusedVariables false
set_option maxRecDepth 100000
theorem rq_len136 (l v m st po pr rd rp id ref org rec xmt n x : Int) {ck : List Int} (k0 k1 : Int) (h : ck.length = 52) : (msgB l v m st po pr rd rp id ref org rec xmt (rqF n x ck) k0 k1).length = 136 := by
  rw [msgB_len]
  have := idB_len n x
  simp [rqF, fldsB, fldB, bytesB_length, this, h]
theorem rp_len136 (l v m st po pr rd rp id ref org rec xmt : Int) {id' ck : List Int} (k2 k3 : Int) (h1 : id'.length = 16) (h2 : ck.length = 52) : (msgB l v m st po pr rd rp id ref org rec xmt (rpF id' ck []) k2 k3).length = 136 := by
  rw [msgB_len]
  simp [rpF, fldsB, fldB, bytesB_length, h1, h2]
theorem rp_all (l v m st po pr rd rp id ref org rec xmt : Int) {id' ck : List Int} (k2 k3 : Int) (hE : nchk l v m st po pr = 0) (h6 : 0 ≤ rd ∧ rd ≤ 4294967295) (h7 : 0 ≤ rp ∧ rp ≤ 4294967295) (h8 : 0 ≤ id ∧ id ≤ 4294967295) (h9 : 0 ≤ ref ∧ ref ≤ 18446744073709551615) (h10 : 0 ≤ org ∧ org ≤ 18446744073709551615) (h11 : 0 ≤ rec ∧ rec ≤ 18446744073709551615) (h12 : 0 ≤ xmt ∧ xmt ≤ 18446744073709551615) (i1 : id'.length = 16) (i2 : ck.length = 52) (b1 : Byt id') (b2 : Byt ck) :
    spE (msgB l v m st po pr rd rp id ref org rec xmt (rpF id' ck []) k2 k3) = 0 ∧ dcV (msgB l v m st po pr rd rp id ref org rec xmt (rpF id' ck []) k2 k3) = ntp l v m st po pr rd rp id ref org rec xmt ∧ spL (msgB l v m st po pr rd rp id ref org rec xmt (rpF id' ck []) k2 k3) = rpF id' ck [] ∧ spI (msgB l v m st po pr rd rp id ref org rec xmt (rpF id' ck []) k2 k3) = id' ∧ prvB k2 k3 (spB (msgB l v m st po pr rd rp id ref org rec xmt (rpF id' ck []) k2 k3)) (spA (msgB l v m st po pr rd rp id ref org rec xmt (rpF id' ck []) k2 k3)) = true := by
  obtain ⟨hv, h16⟩ := rpF_valid i1 i2 b1 b2 (L := []) (fun t ht => by cases ht) (by simp)
  have hid : (fdD (rpF id' ck []) 260).length = 16 := by rw [rpF_fd]; exact i1
  obtain ⟨e1, e2, e3, e4, e5, e6, e7⟩ := msg_all l v m st po pr rd rp id ref org rec xmt (rpF id' ck []) k2 k3 hE h6 h7 h8 h9 h10 h11 h12 hv h16 hid
  have hp := msg_prv l v m st po pr rd rp id ref org rec xmt (rpF id' ck []) k2 k3 hE h6 h7 h8 h9 h10 h11 h12 hv h16 hid
  exact ⟨e1, e2, e3, e4.trans (rpF_fd _ _ _), hp⟩
theorem sopen_stale (l v m st po pr rd rp id ref org rec xmt n x : Int) (ck : List Int) (k0 k1 s kk g : Int) (bj : Nat) (A : Option Addr) (N c : Nat) (w : World) (hJ : Blk w bj 56 (jarL s kk g)) (hs : U64 s) (hg : Gn g) (hkk : 1 ≤ kk ∧ kk ≤ 8) (hR : Rnd w) (hE : nchk l v m st po pr = 0) (h6 : 0 ≤ rd ∧ rd ≤ 4294967295) (h7 : 0 ≤ rp ∧ rp ≤ 4294967295) (h8 : 0 ≤ id ∧ id ≤ 4294967295) (h9 : 0 ≤ ref ∧ ref ≤ 18446744073709551615) (h10 : 0 ≤ org ∧ org ≤ 18446744073709551615) (h11 : 0 ≤ rec ∧ rec ≤ 18446744073709551615) (h12 : 0 ≤ xmt ∧ xmt ≤ 18446744073709551615)
    (h52 : ck.length = 52) (hcb : Byt ck) (hop : opV s kk g ck = .tuple #[keyV 0 0, keyV 0 0, .int .i64 17]) (hn : (msgB l v m st po pr rd rp id ref org rec xmt (rqF n x ck) k0 k1).length = N) (hB : Bs w 0 w.heap.size A (msgB l v m st po pr rd rp id ref org rec xmt (rqF n x ck) k0 k1)) (hnc : N ≤ c) (hc : c ≤ 9223372036854775807) (hm : N ≤ 1000000) :
    Calls Tryd.prog 12 #[.pointer (some ⟨bj, 0, none⟩), .slice A N c] w fun e w' => e = .returned (.tuple #[ntp0, .agg (tktL none 0 0 0 0 0 0).toArray, .int .i64 17]) ∧ Below w.heap.size w w' := by
  obtain ⟨hv, h16⟩ := rqF_valid n x h52 hcb
  have hid : (fdD (rqF n x ck) 260).length = 16 := by rw [(rqF_fd n x ck).1]; exact idB_len n x
  obtain ⟨e1, e2, e3, e4, e5, e6, e7⟩ := msg_all l v m st po pr rd rp id ref org rec xmt (rqF n x ck) k0 k1 hE h6 h7 h8 h9 h10 h11 h12 hv h16 hid
  rw [(rqF_fd n x ck).2] at e7
  have o0 := (opV_parts hop).1
  have h := gopen_bad bj s kk g A N c _ w hJ hs hg hkk hR hn hB hnc hc hm e1 l v m st po pr rd rp id ref org rec xmt e2 (by rw [e7]; exact h52) (by rw [e7, o0]; decide)
  rw [e7, o0] at h
  exact h
theorem g_acc {lo b : Nat} {G : List Nat} {k0 k1 k2 k3 N : Int} {W : World} {A : Option Addr} {c : Nat} {id' ck : List Int} (l v m st po pr rd rp id ref org rec xmt : Int) (hE : nchk l v m st po pr = 0) (h6 : 0 ≤ rd ∧ rd ≤ 4294967295) (h7 : 0 ≤ rp ∧ rp ≤ 4294967295) (h8 : 0 ≤ id ∧ id ≤ 4294967295) (h9 : 0 ≤ ref ∧ ref ≤ 18446744073709551615) (h10 : 0 ≤ org ∧ org ≤ 18446744073709551615) (h11 : 0 ≤ rec ∧ rec ≤ 18446744073709551615) (h12 : 0 ≤ xmt ∧ xmt ≤ 18446744073709551615) (h : Cli W lo b G k0 k1 k2 k3 [] N [id']) (hk2 : U64 k2) (hk3 : U64 k3) (hR : Rnd W) (i1 : id'.length = 16) (i2 : ck.length = 52) (b1 : Byt id') (b2 : Byt ck) (hB : Bs W 0 W.heap.size A (msgB l v m st po pr rd rp id ref org rec xmt (rpF id' ck []) k2 k3)) (hnc : 136 ≤ c) (hc : c ≤ 9223372036854775807) :
    Calls Tryd.prog 15 #[.pointer (some ⟨b, 0, none⟩), .slice A 136 c] W fun e w' => ∃ P1 q1 G', e = .returned (.tuple #[ntp l v m st po pr rd rp id ref org rec xmt, .slice P1 2 q1, .int .i64 0]) ∧ Cli w' lo b G' k0 k1 k2 k3 [ck] N [] ∧ Kp W G w' ∧ Nw W G G' := by
  obtain ⟨e1, e2, e3, e4, e5⟩ := rp_all l v m st po pr rd rp id ref org rec xmt k2 k3 hE h6 h7 h8 h9 h10 h11 h12 i1 i2 b1 b2
  have hfr : frs (spL (msgB l v m st po pr rd rp id ref org rec xmt (rpF id' ck []) k2 k3)) = [ck] := by rw [e3]; rfl
  refine (cacc A 136 c _ l v m st po pr rd rp id ref org rec xmt h hk2 hk3 hR (by simp) (by simp) (rp_len136 l v m st po pr rd rp id ref org rec xmt k2 k3 i1 i2) hB hnc hc (by omega) e1 e2 e5 0 (by simp) (by rw [e4]; exact fiI_some (k := 0) (by simp) rfl (fun j hj => by omega)) (by
    refine frB_yes fun d hd => ?_
    rw [hfr] at hd
    rw [List.mem_singleton.1 hd]
    exact i2)).mono fun e w' ⟨P1, p1, q1, G', z1, z2, z3, z4, z5, z6⟩ => ?_
  have hl : (spL (msgB l v m st po pr rd rp id ref org rec xmt (rpF id' ck []) k2 k3)).length = 2 := by rw [e3]; rfl
  obtain rfl : 2 = p1 := hl.symm.trans z2
  rw [hfr] at z4
  exact ⟨P1, q1, G', z1, z4, z5, z6⟩
theorem g_none {lo b : Nat} {G : List Nat} {k0 k1 k2 k3 N : Int} {CK : List (List Int)} {W : World} {A : Option Addr} {c : Nat} {id' ck : List Int} (l v m st po pr rd rp id ref org rec xmt : Int) (hE : nchk l v m st po pr = 0) (h6 : 0 ≤ rd ∧ rd ≤ 4294967295) (h7 : 0 ≤ rp ∧ rp ≤ 4294967295) (h8 : 0 ≤ id ∧ id ≤ 4294967295) (h9 : 0 ≤ ref ∧ ref ≤ 18446744073709551615) (h10 : 0 ≤ org ∧ org ≤ 18446744073709551615) (h11 : 0 ≤ rec ∧ rec ≤ 18446744073709551615) (h12 : 0 ≤ xmt ∧ xmt ≤ 18446744073709551615) (h : Cli W lo b G k0 k1 k2 k3 CK N []) (h8' : CK.length ≤ 8) (hk2 : U64 k2) (hk3 : U64 k3) (hR : Rnd W) (i1 : id'.length = 16) (i2 : ck.length = 52) (b1 : Byt id') (b2 : Byt ck) (hB : Bs W 0 W.heap.size A (msgB l v m st po pr rd rp id ref org rec xmt (rpF id' ck []) k2 k3)) (hnc : 136 ≤ c) (hc : c ≤ 9223372036854775807) :
    Calls Tryd.prog 15 #[.pointer (some ⟨b, 0, none⟩), .slice A 136 c] W fun e w' => e = .returned (.tuple #[ntp0, .slice none 0 0, .int .i64 11]) ∧ Below W.heap.size W w' := by
  obtain ⟨e1, e2, e3, e4, e5⟩ := rp_all l v m st po pr rd rp id ref org rec xmt k2 k3 hE h6 h7 h8 h9 h10 h11 h12 i1 i2 b1 b2
  exact cacc_none A 136 c _ l v m st po pr rd rp id ref org rec xmt h hk2 hk3 hR h8' (by simp) (rp_len136 l v m st po pr rd rp id ref org rec xmt k2 k3 i1 i2) hB hnc hc (by omega) e1 e2 e5 (fiI_none (fun j hj => by simp at hj))
end Go.Proofs.YtkccmmhofhaccaaDoor
