/- ExtOwns (P20.5): for every input the law returns true, and its arguments read afterwards as before. No condition. -/
import Derived.Test.YtloopnfnbhdlmaaExO1
import Derived.Test.YtloopnfnbhdlmaaExt2
namespace Go.Proofs.Ytloopnfnbhdlmaa
open Go.ChangeShapes Go.WideShapes Go.ChangeAt Go.RowKit Go.Joins
set_option linter.unusedSimpArgs false
set_option linter.unusedVariables false
set_option maxRecDepth 100000
set_option maxHeartbeats 8000000 in
theorem owns_long (A : Option Addr) (n c : Nat) (kd : Int) (w : World) (hl : 6000 < n) :
    Calls Try.prog 7 #[.slice A n c, .int .i64 kd] w fun e w' => e = .returned (.bool true) ∧ Below w.heap.size w w' := by
  have h4 : decide (6000 < (n : Int)) = true := decide_eq_true (by omega)
  clear hl
  go_enter Try.func7, Try.ntmps7
  go_wp2_with (first | (go_at_call 9; ((with_reducible refine (awake_any _).mono ?_); rintro e w9 ⟨rfl, b9⟩)))
  go_ret
  exact ⟨rfl, b9⟩
set_option maxHeartbeats 8000000 in
theorem owns_err (A : Option Addr) (n c : Nat) (l : List Int) (kd : Int) (w : World) (hn : l.length = n) (h : Bs w 0 w.heap.size A l) (hm : n ≤ c) (hc : c ≤ 9223372036854775807) (hA : A = none → n = 0 ∧ c = 0) (hl : n ≤ 6000) (he : prsE l ≠ 0) :
    Calls Try.prog 7 #[.slice A n c, .int .i64 kd] w fun e w' => e = .returned (.bool true) ∧ Below w.heap.size w w' := by
  have h4 : decide (6000 < (n : Int)) = false := decide_eq_false (by omega)
  have HC := bclone_any A n c 0 w.heap.size l w hn h (Nat.le_refl _) (by omega) hA
  have HE1 := fun W (hb : Below w.heap.size w W) => parse_any A n c l W hn (bs_wide0 (h.below hb (Nat.le_refl _)) hb.size) hm hc (by omega)
  have hB := fun W (hb : Below w.heap.size w W) => h.below hb (Nat.le_refl _)
  have hP : prs l.length [] l = ([], [], prsE l) := by
    obtain ⟨h1, h2, h3⟩ := (prs_back h.byt).2 he
    exact Prod.ext h1 (Prod.ext h2 rfl)
  have h0 : (prsE l != 0) = true := by simpa using he
  have Hn := Lib.hid hn
  rw [hP] at HE1
  clear hP he h hn hA
  generalize prsE l = E at HE1 h0
  go_enter Try.func7, Try.ntmps7
  go_wp2_with (first
    | (go_at_call 20; ((with_reducible refine HC.mono ?_); rintro e w1 ⟨A0, c0, rfl, O0, z0, B1⟩))
    | (go_at_call 15; ((with_reducible refine (HE1 _ B1).mono ?_); rintro e w2 ⟨A1, c1, A2, c2, N1, N2, wx, rfl, hN1, hN2, X1, b1, b1', O1⟩; (have b2 := b1.trans (b1'.mono b1.size)); (have B2 := B1.trans (b2.mono B1.size)); clear hN1 hN2; (have hQ := bequal_any A A0 n n c c0 _ _ _ _ l l w2 Hn.out Hn.out (hB _ B2) (O0.below b2 (Nat.le_refl _)).bs); rw [eqB_self] at hQ))
    | (go_at_call 14; ((with_reducible refine hQ.mono ?_); rintro e w' ⟨rfl, rfl⟩))
    | (go_at_call 9; ((with_reducible refine (awake_any _).mono ?_); rintro e w9 ⟨rfl, b9⟩)))
  go_ret
  exact ⟨rfl, B2.trans (b9.mono B2.size)⟩
theorem dt_short {L : Flds} (hv : AllV L) (k : Nat) (hk : k < L.length) : (dtL L k).length ≤ 140737488351232 := by
  have h := (hv _ (kd_mem hk)).1
  have := chk_ok.1 h
  simp only at this
  omega
/-- ext.Find, in one case -/
theorem find_one (A : Option Addr) (c : Nat) (L : List (Int × List Int)) (n : Nat) (kd : Int) (w : World) (hn : L.length = n) (h : Xs w w.heap.size A L) (hnc : n ≤ c) (hc : c ≤ 9223372036854775807) (hsz : ∀ k, k < n → (dtL L k).length ≤ 140737488351232) :
    Calls Try.prog 21 #[.slice A n c, .int .i64 kd] w fun e w' => ∃ A' c' N f X, e = .returned (.tuple #[.slice A' N c', .bool f]) ∧ X.length = N ∧ Ow w' w.heap.size A' c' X ∧ Below w.heap.size w w' :=
  (find_any A c L n kd w hn h hnc hc hsz).mono fun e w' hh => by
    rcases hh with ⟨rfl, _, hb⟩ | ⟨k, A', c', rfl, _, _, _, hO, hb⟩
    · exact ⟨none, 0, 0, false, [], rfl, rfl, Ow.nil _ _, hb⟩
    · exact ⟨A', c', _, true, _, rfl, rfl, hO, hb⟩
set_option maxHeartbeats 32000000 in
theorem owns_ok (A : Option Addr) (n c : Nat) (l : List Int) (kd : Int) (w : World) (hn : l.length = n) (h : Bs w 0 w.heap.size A l) (hm : n ≤ c) (hc : c ≤ 9223372036854775807) (hA : A = none → n = 0 ∧ c = 0) (hl : n ≤ 6000) (he : prsE l = 0) :
    Calls Try.prog 7 #[.slice A n c, .int .i64 kd] w fun e w' => e = .returned (.bool true) ∧ Below w.heap.size w w' := by
  have h4 : decide (6000 < (n : Int)) = false := decide_eq_false (by omega)
  have HC := bclone_any A n c 0 w.heap.size l w hn h (Nat.le_refl _) (by omega) hA
  have HE1 := fun W (hb : Below w.heap.size w W) => parse_any A n c l W hn (bs_wide0 (h.below hb (Nat.le_refl _)) hb.size) hm hc (by omega)
  have hB := fun W (hb : Below w.heap.size w W) => h.below hb (Nat.le_refl _)
  obtain ⟨h1, h2, h3, _⟩ := (prs_back h.byt).1 he
  have hP : prs l.length [] l = (prsL l, prsA l, 0) := by rw [← he]; rfl
  have hap := apx_valid h2 h3
  have HE3 := fun (A1 : Option Addr) (N1 c1 : Nat) W (hb : Below w.heap.size w W) (hN : (prsL l).length = N1) (hX : Xs W W.heap.size A1 (prsL l)) (hNc : N1 ≤ c1) (hc1 : c1 ≤ 9223372036854775807) => xappend_ok A n c 0 w.heap.size l A1 N1 c1 (prsL l) W hn (h.below hb (Nat.le_refl _)) hb.size hA (by omega) hN hX hNc hc1 hap
  have Hn := Lib.hid hn
  have HV := Lib.hid h2
  have H16 := Lib.hid h3
  rw [hP] at HE1
  clear hP he h hn hA h1 h2 h3 hap
  generalize prsL l = L at HE1 HE3 HV H16
  generalize prsA l = au at HE1
  go_enter Try.func7, Try.ntmps7
  go_wp2_with (first
    | (go_at_call 20; ((with_reducible refine HC.mono ?_); rintro e w1 ⟨A0, c0, rfl, O0, z0, B1⟩))
    | (go_at_call 15; ((with_reducible refine (HE1 _ B1).mono ?_); rintro e w2 ⟨A1, c1, A2, c2, N1, N2, wx, rfl, hN1, hN2, X1, b1, b1', O1⟩; (have b2 := b1.trans (b1'.mono b1.size)); (have B2 := B1.trans (b2.mono B1.size)); (have X1 : XO wx w1.heap.size A1 c1 L := X1); (have O1 : Ow w2 wx.heap.size A2 c2 au := O1); (have HN1 : Hid (L.length = N1) := hN1); (have HN2 : Hid (au.length = N2) := hN2); clear hN1 hN2; (have B1' := Lib.hid B1); clear B1))
    | (go_at_call 15; ((with_reducible refine (HE1 _ B2).mono ?_); rintro e w3 ⟨A3, c3, A3', c3', N3, N3', wy, rfl, hN3, hN3', X3, b3, b3', O3⟩; (have b23 := b3.trans (b3'.mono b3.size)); (have B3 := B2.trans (b23.mono B2.size)); (have X3 : XO wy w2.heap.size A3 c3 L := X3); (have HN3 : Hid (L.length = N3) := hN3); (obtain rfl : N1 = N3 := HN1.out.symm.trans HN3.out); clear hN3 hN3' O3; (have X13 := (X1.below b1' (Nat.le_refl _)).below b23 (Nat.le_refl _)); (have hFn := find_one A1 c1 L N1 kd w3 HN1.out X13.xs (HN1.out ▸ X13.cap.1) X13.cap.2.1 (fun k hk => dt_short HV.out k (HN1.out.symm ▸ hk)))))
    | (go_at_call 21; ((with_reducible refine hFn.mono ?_); rintro e w4 ⟨A4, c4, N4, ff, X4, rfl, hN4, O4, b4⟩; (have HN4 := Lib.hid hN4); clear hN4; (have B4 := B3.trans (b4.mono B3.size)); (have X14 := X13.below b4 (Nat.le_refl _)); (have hAp := HE3 A1 N1 c1 w4 B4 HN1.out X14.xs (HN1.out ▸ X14.cap.1) X14.cap.2.1)))
    | (go_at_call 12; ((with_reducible refine hAp.mono ?_); rintro e w5 ⟨A5, c5, N5, rfl, hN5, O5, b5⟩; (have HN5 := Lib.hid hN5); clear hN5; (have B5 := B4.trans (b5.mono B4.size)))))
  have Bxy : Below wy.heap.size wy w5 := (b3'.trans (b4.mono b3'.size)).trans (b5.mono (Nat.le_trans b3'.size b4.size))
  have B25 : Below w2.heap.size w2 w5 := (b23.trans (b4.mono b23.size)).trans (b5.mono (Nat.le_trans b23.size b4.size))
  have Bx5 : Below wx.heap.size wx w5 := b1'.trans (B25.mono b1'.size)
  have s3 := b3'.size
  have s4 := b4.size
  have s5 := b5.size
  have s25 := B25.size
  have s23 := b23.size
  have hI0 : OwI wx wy w2.heap.size w5.heap.size (fun j => if j = 0 then A2 else if j = 1 then A4 else A5) (fun j => if j = 0 then N2 else if j = 1 then N4 else N5) (fun j => if j = 0 then c2 else if j = 1 then c4 else c5) (w5.alloc (.cells #[.slice A2 N2 c2, .slice A4 N4 c4, .slice A5 N5 c5] 22)) := by
    refine ⟨Bx5.alloc (Nat.le_trans b1'.size s25) _, fun b _ hb2 => (Bxy.alloc (Nat.le_trans s3 (Nat.le_trans s4 s5)) _).block b hb2, Blk.new w5 _ _ _ rfl, fun j hj => ?_, fun j hj g hg => ?_⟩
    · have : j = 0 ∨ j = 1 ∨ j = 2 := by omega
      rcases this with rfl | rfl | rfl
      · exact ⟨_, HN2.out, (O1.below B25 (Nat.le_refl _)).alloc _⟩
      · exact ⟨_, HN4.out, (((O4.below b5 (Nat.le_refl _)).alloc _).wide (by have := b1'.size; omega))⟩
      · exact ⟨_, HN5.out, ((O5.alloc _).wide (by have := b1'.size; omega))⟩
    · have : j = 0 ∨ j = 1 ∨ j = 2 := by omega
      rcases this with rfl | rfl | rfl
      · have := O1.blt g hg
        omega
      · have := O4.blt g hg
        omega
      · have := O5.blt g hg
        omega
  generalize hAj : (fun j => if j = 0 then A2 else if j = 1 then A4 else A5) = Aj at hI0
  generalize hNj : (fun j => if j = 0 then N2 else if j = 1 then N4 else N5) = Nj at hI0
  generalize hcj : (fun j => if j = 0 then c2 else if j = 1 then c4 else c5) = cj at hI0
  clear hAj hNj hcj Bxy B25 O1 O4 O5 b4 b5 B2 B3 B4 s3 s4 s5 s25 s23 hFn hAp HE1 HE3 X13 X14
  go_loopw [65] (fun i wr => ∃ j : Nat, j ≤ 3 ∧ i = .int .i64 j ∧ OwI wx wy w2.heap.size w5.heap.size Aj Nj cj wr) (fun i _ => 3 - (intOf i).toNat)
  case atStart => exact ⟨0, by omega, rfl, hI0⟩
  case round =>
    obtain ⟨j, hj3, rfl, hI⟩ := hrel
    clear hI0
    by_cases hlt : j < 3
    · have hcell := hI.cellj hlt
      obtain ⟨AA, hAA⟩ : ∃ AA, AA = Aj j := ⟨_, rfl⟩
      obtain ⟨NN, hNN⟩ : ∃ NN, NN = Nj j := ⟨_, rfl⟩
      obtain ⟨CC, hCC⟩ : ∃ CC, CC = cj j := ⟨_, rfl⟩
      rw [← hAA, ← hNN, ← hCC] at hcell
      have HAA := Lib.hid hAA
      have HNN := Lib.hid hNN
      have HCC := Lib.hid hCC
      have hj0 : (0 : Int) ≤ j := by omega
      have hj1 : (j : Int) < 3 := by omega
      have hNm : NN ≤ 9223372036854775807 := by
        obtain ⟨l', hl', hO'⟩ := hI.own j hlt
        have e1 := hO'.cap_le
        have e2 := hO'.cap_max
        omega
      clear hAA hNN hCC
      go_wp2
      go_loopw [71] (fun i wq => ∃ q : Nat, q ≤ NN ∧ i = .int .i64 q ∧ OwI wx wy w2.heap.size w5.heap.size Aj Nj cj wq) (fun i _ => NN - (intOf i).toNat)
      case atStart => exact ⟨0, by omega, rfl, hI⟩
      case round =>
        rename_i wq
        obtain ⟨q, hq, rfl, hI2⟩ := hrel
        clear hI hcell
        by_cases hq1 : q < NN
        · obtain ⟨l', hl', hO'⟩ := hI2.own j hlt
          rw [← HAA.out, ← HCC.out] at hO'
          rw [← HNN.out] at hl'
          rcases hO'.form with ⟨_, h0, _⟩ | ⟨g, hAg, _, _⟩
          · rw [h0] at hl'; simp at hl'; omega
          · have hSet := fun x h0 h1 => hI2.set (i := q) (x := x) hlt (HAA.out.symm.trans hAg) h0 h1
            subst hAg
            have hck := hO'.cell (k := q) (by omega)
            have hfz := hO'.frozen q
            have hby := hO'.1.at q
            have hx := xor255 (atB l' q) hby.1 hby.2
            have hS := hSet _ hx.1 hx.2
            have hq0 : (0 : Int) ≤ q := by omega
            have hq2 : (q : Int) < NN := by omega
            clear hSet hO' hl'
            go_wp2
            exact ⟨⟨q + 1, by omega, by go_num, hS⟩, by simp [intOf]; omega⟩
        · obtain rfl : NN = q := by omega
          go_wp2
          exact ⟨⟨j + 1, by omega, by go_num, hI2⟩, by simp [intOf]; omega⟩
    · obtain rfl : j = 3 := by omega
      have Xw := X1.below hI.low (Nat.le_refl _)
      have Yw := X3.keep hI.mid
      have b1r : Below w1.heap.size w1 wr := b1.trans (hI.low.mono b1.size)
      have B1o := B1'.out
      have Bw : Below w.heap.size w wr := B1o.trans (b1r.mono B1o.size)
      have O0r := O0.below b1r (Nat.le_refl _)
      have hSm := same_eq A1 A3 N1 c1 c3 L wr HN1.out Xw.xs Yw.xs (HN1.out ▸ Xw.cap.1) Xw.cap.2.1 (HN1.out ▸ Yw.cap.1) Yw.cap.2.1
      obtain ⟨T, hTL, hXT⟩ := Xw
      have hTN : T.length = N1 := by rw [← HN1.out, ← hTL, flds_len]
      subst hTN
      have HO0 := Lib.hid O0
      clear X1 X3 Yw hI b1 b1' O0 HN1 HN2 HN4 HN5 HN3 HV H16 hTL
      go_wp2_with (first
        | (go_at_call 17; ((with_reducible refine hSm.mono ?_); rintro e w6 ⟨rfl, b6⟩; (have B6 := Bw.trans (b6.mono Bw.size)); (have hQ := bequal_any A A0 n n c c0 _ _ _ _ l l w6 Hn.out Hn.out (hB _ B6) (O0r.below b6 (Nat.le_refl _)).bs); rw [eqB_self] at hQ))
        | (go_at_call 14; ((with_reducible refine hQ.mono ?_); rintro e w' ⟨rfl, rfl⟩)))
      have hXT6 := hXT.below b6 (Nat.le_refl _)
      have hF0 : OwF w1 A1 c1 T w6 := ⟨b1r.trans (b6.mono b1r.size), hXT6.1, fun t ht => ⟨_, rfl, hXT6.2 t ht⟩⟩
      clear hQ hSm hXT hXT6 b6 B6 Bw b1r O0r
      go_loopw [94] (fun i wr => ∃ k : Nat, k ≤ T.length ∧ i = .int .i64 k ∧ OwF w1 A1 c1 T wr) (fun i _ => T.length - (intOf i).toNat)
      case atStart => exact ⟨0, by omega, rfl, hF0⟩
      case round =>
        rename_i wr
        obtain ⟨k, hk, rfl, hF⟩ := hrel
        clear hF0
        obtain ⟨wo, rfl⟩ : ∃ wo : World, wo = wr := ⟨wr, rfl⟩
        by_cases hlt : k < T.length
        · obtain ⟨g, cap, e, _, hgs, _, _, hcl⟩ := own_form hF.row (by omega)
          have hA1 : A1 = some ⟨g, 0, none⟩ := by injection e
          clear e
          subst hA1
          obtain ⟨r0, r1⟩ := rowX_at T k hlt
          have htm : T[k] ∈ T := List.getElem_mem hlt
          obtain ⟨t, ht⟩ : ∃ t, t = T[k] := ⟨_, rfl⟩
          rw [← ht] at r0 r1 htm
          obtain ⟨K, hK⟩ : ∃ K, K = t.1.1 := ⟨_, rfl⟩
          obtain ⟨D, hD⟩ : ∃ D, D = t.1.2.length := ⟨_, rfl⟩
          obtain ⟨Ak, hAk⟩ : ∃ Ak, Ak = t.2.1 := ⟨_, rfl⟩
          obtain ⟨ck, hck⟩ : ∃ ck, ck = t.2.2 := ⟨_, rfl⟩
          rw [← hK] at r0
          rw [← hD, ← hAk, ← hck] at r1
          have hrg : wo.rangeAt g (k * 2) (exC K Ak D ck) := fun j v hv => by
            match j with
            | 0 => simp at hv; rw [← hv]; exact (hcl _ (by omega)).trans r0
            | 1 => simp at hv; rw [← hv]; exact (hcl _ (by omega)).trans r1
            | j + 2 => simp at hv
          have hDm : D ≤ 9223372036854775807 := by
            obtain ⟨l', hl', hO'⟩ := hF.own t htm
            have e1 := hO'.cap_le
            have e2 := hO'.cap_max
            omega
          have HK := Lib.hid hK
          have HD := Lib.hid hD
          have HAk := Lib.hid hAk
          have Hck := Lib.hid hck
          have hi0 : (0 : Int) ≤ k := by omega
          have hi1 : (k : Int) < T.length := by omega
          clear hK hD hAk hck r0 r1 hcl ht
          go_wp2_with (first
            | (refine wpl_loadr (by rfl) 27 _ (by rfl) g (k * 2) (by rfl) _ hrg _ Try.underlying27 rfl _ sizeExt (by rfl) ?_)
            | (refine wpl_alloc (by rfl) 27 (by rfl) (.agg (exC 0 none 0 0).toArray) (exC 0 none 0 0) zeroExt rfl ?_; intro wa Ja sa ba)
            | (refine wpl_store (by rfl) 27 _ _ (by rfl) wo.heap.size (by rfl) _ (by rfl) (exC K Ak D ck) rfl 27 _ Ja (by rfl) _ sizeExt (by rfl) (by simp [Value.oneCell']) ?_; intro wb Jb sb gb)
            | (refine wpl_loadf (by rfl) 22 _ (by rfl) wo.heap.size 1 (by rfl) _ _ Jb _ rfl _ Try.underlying22 rfl ?_))
          have hFb : OwF w1 (some ⟨g, 0, none⟩) c1 T wb := hF.keep (ba.trans (gb.below (by omega) (Nat.le_refl _)))
          clear hF hrg Ja sa sb ba gb
          go_loopw [101] (fun i wq => ∃ q : Nat, q ≤ D ∧ i = .int .i64 q ∧ OwF w1 (some ⟨g, 0, none⟩) c1 T wq ∧ Blk wq wo.heap.size 27 (exC K Ak D ck)) (fun i _ => D - (intOf i).toNat)
          case atStart => exact ⟨0, by omega, rfl, hFb, Jb⟩
          case round =>
            rename_i wq
            obtain ⟨q, hq, rfl, hF2, hJ2⟩ := hrel
            clear hFb Jb
            by_cases hq1 : q < D
            · obtain ⟨l', hl', hO'⟩ := hF2.own t htm
              rw [← HAk.out, ← Hck.out] at hO'
              rw [← HD.out] at hl'
              rcases hO'.form with ⟨_, h0, _⟩ | ⟨gb, hAg, _, _⟩
              · rw [h0] at hl'; simp at hl'; omega
              · have hSet := fun x h0 h1 => hF2.set (i := q) (x := x) htm (HAk.out.symm.trans hAg) h0 h1
                subst hAg
                have hne := blk_ne hJ2 hO' (by decide)
                have hck' := hO'.cell (k := q) (by omega)
                have hfz := hO'.frozen q
                have hby := hO'.1.at q
                have hx := xor255 (atB l' q) hby.1 hby.2
                have hS := hSet _ hx.1 hx.2
                have hJ3 := hJ2.far (p := ⟨gb, q, none⟩) (u := .int .u8 (bits .xor .u8 (atB l' q) 255)) hne
                have hq0 : (0 : Int) ≤ q := by omega
                have hq2 : (q : Int) < D := by omega
                clear hSet hO' hl'
                go_wp2_with (first | (refine wpl_loadf (by rfl) 22 _ (by rfl) wo.heap.size 1 (by rfl) _ _ hJ2 _ rfl _ Try.underlying22 rfl ?_))
                exact ⟨⟨q + 1, by omega, by go_num, hS, hJ3⟩, by simp [intOf]; omega⟩
            · obtain rfl : D = q := by omega
              go_wp2
              exact ⟨⟨k + 1, by omega, by go_num, hF2⟩, by simp [intOf]; omega⟩
        · obtain rfl : T.length = k := by omega
          have B1o := B1'.out
          have B7 := B1o.trans (hF.low.mono B1o.size)
          have hQ := bequal_any A A0 n n c c0 _ _ _ _ l l wo Hn.out Hn.out (hB _ B7) (HO0.out.below hF.low (Nat.le_refl _)).bs
          rw [eqB_self] at hQ
          go_wp2_with (first
            | (go_at_call 14; ((with_reducible refine hQ.mono ?_); rintro e w' ⟨rfl, rfl⟩))
            | (go_at_call 9; ((with_reducible refine (awake_any _).mono ?_); rintro e w9 ⟨rfl, b9⟩)))
          go_ret
          exact ⟨rfl, B7.trans (b9.mono B7.size)⟩
theorem ownsLaw (A : Option Addr) (n c : Nat) (l : List Int) (kd : Int) (w : World) (hn : l.length = n) (h : Bs w 0 w.heap.size A l) (hm : n ≤ c) (hc : c ≤ 9223372036854775807) (hA : A = none → n = 0 ∧ c = 0) :
    Calls Try.prog 7 #[.slice A n c, .int .i64 kd] w fun e w' => e = .returned (.bool true) ∧ Below w.heap.size w w' := by
  by_cases hl : 6000 < n
  · exact owns_long A n c kd w hl
  · by_cases he : prsE l = 0
    · exact owns_ok A n c l kd w hn h hm hc hA (by omega) he
    · exact owns_err A n c l kd w hn h hm hc hA (by omega) he
namespace lawOwns
set_option maxRecDepth 100000 in
theorem lifted (os : Os) (started : os.Started) (H : Type) (enc : TypeId × Value → H) :
    ReturnsInHanded {} Try.checked os 7 .any (Rows.extOwnsSpec.pre6 enc Try.prog Try.f7 Rows.extOwnsRow.domain false) (Rows.extOwnsSpec.post enc Try.prog Try.f7 false true false false) := by
  refine returnsInHanded_of_change_sized (C := Try.checked) own started (by kernel_rfl) Try.func7
    (ChangeSpec.witness6 (enc := enc) (C := Try.checked) false ⟨#[], #[.slice none 0 0, .int .i64 0], []⟩ 8 (by kernel_rfl) (by kernel_rfl) (by kernel_rfl) (by kernel_rfl)) ?_
  intro W base args ds gs before hval0 hW hcnd hsz0 _
  have hval : ∀ (j : Nat) t v, Try.f7.params[j]? = some t → args[j]? = some v → Value.okWide Try.prog W .any base t v := hval0
  have hW' := hW
  obtain ⟨p, q, hA0, hV, rfl, hfz, hnd⟩ := hW
  have hA : DataW.TrodAll enc Try.prog W 0 (fun _ => true) true Try.f7.params.toList args.toList ds p := hA0
  have hsz : (DataW.weightsEach Try.prog (Try.f7.params.toList ++ Rows.extOwnsSpec.plain.varTypes Try.prog) (ds ++ gs)).all (· ≤ reachBytes) = true := hsz0
  rw [Try.params7] at hA hval hsz
  obtain ⟨rfl, rfl⟩ := trodVars_none hV
  obtain ⟨v0, v1, d0, d1, p0, p1, rfl, rfl, rfl, h0, h1⟩ := trodAll_two hA
  obtain ⟨A, n, c, l, rfl, hn_l, hB_l, hc_l, hnil_l, hs_l⟩ := open_bs (hval 0 22 v0 rfl rfl) h0
  have hr_l := hs_l hsz (j := 0) rfl rfl
  subst hn_l
  obtain ⟨kd, rfl, rfl, rfl, wf_kd⟩ := open_int Try.underlying3 (hval 1 3 v1 rfl rfl) h1
  refine (ownsLaw A _ c l kd W rfl hB_l hc_l (by have := hr_l; omega) hnil_l).mono fun e W' ⟨he, hb⟩ => ?_
  subst he
  revert hb
  simp only [List.append_nil] at hW'
  intro hb
  exact ⟨_, rfl, law_post (tb := 4) laidOut Try.underlying4 rfl (by rw [Try.params7]; intro t ht; revert ht; revert t; exact of_decide_eq_true (by kernel_rfl)) rfl rfl rfl rfl hW' hb⟩
theorem over : Rows.extOwnsRow.holds Try.pinned (OpenSpec.ofChange Rows.extOwnsSpec) :=
  OpenClaim.holds_of_wide 7 Try.f7 rfl rfl rfl rfl rfl rfl rfl ⟨rfl, rfl, rfl, rfl, rfl⟩ rfl rfl rfl rfl rfl (by kernel_rfl) Try.func7 (by kernel_rfl)
    (of_decide_eq_true (by kernel_rfl)) (by unfold Func.isWrapper; first | (rw [if_pos (by decide +kernel)]; kernel_rfl) | (rw [if_neg (by decide +kernel)]; exact ⟨rfl, rfl⟩))
    (fun os started H enc _ => lifted os started H enc)
theorem proved : Rows.ExtOwnsSaid :=
  over
#print axioms proved
end lawOwns
end Go.Proofs.Ytloopnfnbhdlmaa
