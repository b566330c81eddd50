/- TopExchange (G9; P19 to P21, P29 to P31): for every input the law returns true, and its arguments read afterwards as before. No condition. TopExchange (G9; P19 to P21, P29 to P31): for every input the law returns true, and its arguments read afterwards as before. No condition. -/
import Derived.Test.YtdnmjeapihjabaaTxZ15
namespace Go.Proofs.Ytdnmjeapihjabaa
open Go.ChangeShapes Go.WideShapes Go.ChangeAt Go.RowKit Go.Joins
set_option linter.unusedSimpArgs false
set_option linter.unusedVariables false
set_option maxRecDepth 100000
theorem iv_u64 {a : Int} (h : -9223372036854775808 ≤ a ∧ a ≤ 9223372036854775807) : i64 (numB (bytesB 8 (u64 a))) = a := by
  have hr := u64_rng a
  rw [numB_bytesB' 8 _ (by omega) (by omega) (by omega)]
  unfold i64 wrap64 u64
  omega
theorem ivD_back {a b : Int} (ha : -9223372036854775808 ≤ a ∧ a ≤ 9223372036854775807) (hb : -9223372036854775808 ≤ b ∧ b ≤ 9223372036854775807) (h : ivB a b = true) : irA (ivD a b) = a ∧ irB (ivD a b) = b ∧ irE (ivD a b) = 0 := by
  have e1 : ivLo (ivD a b) = a := by unfold ivLo ivD; rw [List.take_left' (bytesB_length _ _)]; exact iv_u64 ha
  have e2 : ivHi (ivD a b) = b := by unfold ivHi ivD; rw [List.drop_left' (bytesB_length _ _)]; exact iv_u64 hb
  have e3 : irE (ivD a b) = 0 := by unfold irE; rw [if_pos (ivD_len a b), e1, e2, if_pos h]
  exact ⟨by unfold irA; rw [if_pos e3]; exact e1, by unfold irB; rw [if_pos e3]; exact e2, e3⟩
theorem cb0 : CB 0 := by decide
/-- what the accepted reply yields -/
theorem tx_recv (a p q E n X Y : Int) (ha : rdB a = true) (hp : rdB p = true) (hq : rdB q = true) (hE : rdB E = true) (h0 : n ≠ 0) (h1 : ¬ E < a) (h2 : ¬ q < p) (hX : X = ofN (3900000000000000000 + p)) (hY : Y = ofN (3900000000000000000 + q)) (g : Nat) (W : World) (HW : Blk W g 66 (asL 4 a n true 0 0 0 0 0 0 0 0 0)) :
    Calls Try.prog 12 #[.pointer (some ⟨g, 0, none⟩), ntp 0 4 4 1 0 (-20) 0 1 5 0 n X Y, .int .i64 E] W fun e' w' => e' = .returned (.agg (hdL 7 ⟨#[]⟩ a p q E).toArray) ∧ But g W w' := by
  have iX := ins_back hp hE
  have iY := ins_back hq hE
  have hK : ksB 1 5 = false := by unfold ksB; rfl
  have hA : acK 1 0 5 X Y E = 7 := by
    rcases ac_cases 1 0 5 X Y E with ⟨g1, g⟩ | ⟨g1, g2, g⟩ | ⟨g1, g2, g3, g⟩ | ⟨g1, g2, g3, g4, g⟩ | ⟨g1, g2, g3, g4, g5, g⟩ | ⟨g1, g2, g3, g4, g5, g⟩
    · rw [hK] at g1; cases g1
    · rw [show syncB 0 1 = true from rfl] at g2; cases g2
    · rw [hX, iX.1] at g3; cases g3
    · rw [hY, iY.1] at g4; cases g4
    · rw [hX, hY, iX.2, iY.2] at g5; omega
    · exact g
  have hb : badB (nchk 0 4 4 1 0 (-20)) 4 E n a = false := by
    rw [show nchk 0 4 4 1 0 (-20) = 0 by decide]
    unfold badB
    rw [hE, decide_eq_false h1]
    simp
  have hR : rfK (nchk 0 4 4 1 0 (-20)) 4 E n a true n Y 0 = 9 := by
    rcases rf_cases (nchk 0 4 4 1 0 (-20)) 4 E n a true n Y 0 with ⟨g1, g⟩ | ⟨g1, g2, g⟩ | ⟨g1, g2, g3, g⟩ | ⟨g1, g2, g3, g4, g5, g⟩ | ⟨g1, g2, g3, g4, g⟩
    · rw [hb] at g1; cases g1
    · cases g2
    · exact absurd rfl g3
    · omega
    · exact g
  have hr := receive_any g 4 a n true 0 0 0 0 0 0 0 0 0 E 0 4 4 1 0 (-20) 0 1 5 0 n X Y 9 7 W HW (fun h => absurd h h0) (by omega) cb0 cb0 cb0 cb0 cb0 cb0 cb0 cb0 hR hA
  rw [hX, hY, iX.2, iY.2, ksS_no hK, ← hX, ← hY] at hr
  exact hr.mono fun e w' h => ⟨h.1, h.2.2⟩
abbrev rqL (n : Int) : List Value := [.int .i64 0, .int .i64 4, .int .i64 3, .int .i64 0, .int .i64 0, .int .i64 0, .int .u32 0, .int .u32 0, .int .u32 0, .int .u64 0, .int .u64 0, .int .u64 0, .int .u64 n]
abbrev rpL (n X Y : Int) : List Value := [.int .i64 0, .int .i64 4, .int .i64 4, .int .i64 1, .int .i64 0, .int .i64 (-20), .int .u32 0, .int .u32 1, .int .u32 5, .int .u64 0, .int .u64 n, .int .u64 X, .int .u64 Y]
/-- the numbers of one exchange -/
structure TxN (a b d e o n C L E lo hi q2 q3 X Y : Int) : Prop where
  hC : a + b = C
  hL : C + d = L
  hE : L + e = E
  hlo : L - 10 = lo
  hhi : L + 20 = hi
  h2 : C + o = q2
  h3 : L + o = q3
  hX : X = ofN (3900000000000000000 + q2)
  hY : Y = ofN (3900000000000000000 + q3)
abbrev txF (lo hi : Int) : Flds := [(28929, ivD lo hi)]
/-- what the exchange's calls yield, in letters -/
structure TxK (a b d e o n C L E lo hi q2 q3 X Y tC tL uC uL th dl ds blo bhi jd jp dj ds1 ds2 : Int) : Prop where
  wC : IntKind.i64.wrap (a + b) = C
  wL : IntKind.i64.wrap (C + d) = L
  wE : IntKind.i64.wrap (L + e) = E
  wlo : IntKind.i64.wrap (L - 10) = lo
  whi : IntKind.i64.wrap (L + 20) = hi
  w2 : IntKind.i64.wrap (C + o) = q2
  w3 : IntKind.i64.wrap (L + o) = q3
  v1 : IntKind.i64.wrap (3900000000000000000 + C) = tC
  v2 : IntKind.i64.wrap (3900000000000000000 + L) = tL
  v3 : IntKind.i64.wrap (tC + o) = uC
  v4 : IntKind.i64.wrap (tL + o) = uL
  hOX : ∀ W, Calls Try.prog 8 #[.int .i64 uC] W fun e w' => e = .returned (.int .u64 X) ∧ Below W.heap.size W w'
  hOY : ∀ W, Calls Try.prog 8 #[.int .i64 uL] W fun e w' => e = .returned (.int .u64 Y) ∧ Below W.heap.size W w'
  hSd : sendE a n 0 = 0
  hRp : ∀ W, Calls Try.prog 7 #[ntp 0 4 3 0 0 0 0 0 0 0 0 0 n, .int .u64 X, .int .u64 Y, root 1 0 1000 5, .agg (ivL lo hi).toArray] W fun e w' => ∃ A c, e = .returned (.tuple #[.slice A 68 c, .bool true]) ∧ Ow w' W.heap.size A c (encH 0 4 4 1 0 (-20) 0 1 5 0 n X Y ++ fldsB (txF lo hi)) ∧ Below W.heap.size W w'
  hDc : ∀ W A c, Bs W 0 W.heap.size A (encH 0 4 4 1 0 (-20) 0 1 5 0 n X Y ++ fldsB (txF lo hi)) → Calls Try.prog 9 #[.slice A 68 c] W fun e w' => ∃ A' c', e = .returned (.tuple #[ntp 0 4 4 1 0 (-20) 0 1 5 0 n X Y, .slice A' 20 c', .int .i64 0]) ∧ Ow w' W.heap.size A' c' (fldsB (txF lo hi)) ∧ Below W.heap.size W w'
  hPr : ∀ W A c, 20 ≤ c → c ≤ 9223372036854775807 → Bs W 0 W.heap.size A (fldsB (txF lo hi)) → Calls Try.prog 10 #[.slice A 20 c] W fun e w' => ∃ A c A2 c2, e = .returned (.tuple #[.slice A 1 c, .slice A2 0 c2, .int .i64 0]) ∧ 1 ≤ c ∧ c ≤ 9223372036854775807 ∧ Xs w' w'.heap.size A (txF lo hi) ∧ Below W.heap.size W w'
  hIn : ∀ W A c, 1 ≤ c → c ≤ 9223372036854775807 → Xs W W.heap.size A (txF lo hi) → Calls Try.prog 11 #[.slice A 1 c] W fun e w' => e = .returned (.tuple #[.agg (ivL lo hi).toArray, .int .i64 0]) ∧ Below W.heap.size W w'
  hRc : ∀ (g : Nat) (W : World), Blk W g 66 (asL 4 a n true 0 0 0 0 0 0 0 0 0) → Calls Try.prog 12 #[.pointer (some ⟨g, 0, none⟩), ntp 0 4 4 1 0 (-20) 0 1 5 0 n X Y, .int .i64 E] W fun e' w' => e' = .returned (.agg (hdL 7 ⟨#[]⟩ a q2 q3 E).toArray) ∧ But g W w'
  hSo : ∀ W, Calls Try.prog 13 #[.agg (quL a q2 q3 E).toArray, .int .i64 1, .int .i64 0] W fun r w' => r = .returned (.tuple #[.agg (smL th dl 1 E).toArray, .int .i64 0]) ∧ Below W.heap.size W w'
  hBd : ∀ W, Calls Try.prog 14 #[.agg (smL th dl 1 E).toArray] W fun e w' => e = .returned (.agg (ilL blo bhi).toArray) ∧ Below W.heap.size W w'
  hlo' : decide (o < blo) = false
  hhi' : decide (bhi < o) = false
  hJn : ∀ W, Calls Try.prog 15 #[ntp 0 4 4 1 0 (-20) 0 1 5 0 n X Y, samp th dl 1 E, .int .u32 7] W fun e w' => e = .returned (.tuple #[root 2 jd jp 7, .int .i64 0]) ∧ Below W.heap.size W w'
  hD1 : ∀ W, Calls Try.prog 16 #[root 2 jd jp 7] W fun e w' => e = .returned (.int .i64 dj) ∧ Below W.heap.size W w'
  hD2 : ∀ W, Calls Try.prog 16 #[root 1 0 1000 5] W fun e w' => e = .returned (.int .i64 1000) ∧ Below W.heap.size W w'
  hD3 : ∀ W, Calls Try.prog 17 #[.agg (smL th dl 1 E).toArray] W fun e w' => e = .returned (.int .i64 ds) ∧ Below W.heap.size W w'
  x1 : IntKind.i64.wrap (1000 + ds) = ds1
  x2 : IntKind.i64.wrap (ds1 - 1) = ds2
  hle : decide (ds2 ≤ dj) = true
theorem tx_bytes (lo hi : Int) : (fldsB (txF lo hi)).length = 20 := by
  have := ivD_len lo hi
  simp [fldsB, txF, fldB, bytesB_length, this]
theorem tx_valid (lo hi : Int) : AllV (txF lo hi) ∧ (txF lo hi).length ≤ 16 := by
  refine ⟨fun t ht => ?_, by simp⟩
  obtain rfl : t = (28929, ivD lo hi) := by simpa using ht
  exact ⟨by have := ivD_len lo hi; simp [chkE, this], ivD_byt lo hi⟩
theorem tx_nok (lo hi : Int) : NoK (txF lo hi) 28929 0 := fun j hj => by omega
set_option maxHeartbeats 4000000 in
theorem tx_prep (a b d e o n : Int) (G : TxIn a b d e o n) (hn : 0 ≤ n ∧ n ≤ 18446744073709551615) : ∃ C L E lo hi q2 q3 X Y tC tL uC uL th dl ds blo bhi jd jp dj ds1 ds2 : Int, TxK a b d e o n C L E lo hi q2 q3 X Y tC tL uC uL th dl ds blo bhi jd jp dj ds1 ds2 := by
  obtain ⟨G1, G2, G3, G4, G5, G6, G7, G8, G9, G10, G11⟩ := G
  have k1 := of_decide_eq_false G1
  have k2 := of_decide_eq_false G2
  have k3 := of_decide_eq_false G3
  have k4 := of_decide_eq_false G4
  have k5 := of_decide_eq_false G5
  have k6 := of_decide_eq_false G6
  have k7 := of_decide_eq_false G7
  have k8 := of_decide_eq_false G8
  have k9 := of_decide_eq_false G9
  have k10 := of_decide_eq_false G10
  have k11 : n ≠ 0 := by simpa using G11
  clear G1 G2 G3 G4 G5 G6 G7 G8 G9 G10 G11
  obtain ⟨C, hC⟩ : ∃ t, t = a + b := ⟨_, rfl⟩
  obtain ⟨L, hL⟩ : ∃ t, t = C + d := ⟨_, rfl⟩
  obtain ⟨E, hE⟩ : ∃ t, t = L + e := ⟨_, rfl⟩
  obtain ⟨lo, hlo⟩ : ∃ t, t = L - 10 := ⟨_, rfl⟩
  obtain ⟨hi, hhi⟩ : ∃ t, t = L + 20 := ⟨_, rfl⟩
  obtain ⟨q2, h2⟩ : ∃ t, t = C + o := ⟨_, rfl⟩
  obtain ⟨q3, h3⟩ : ∃ t, t = L + o := ⟨_, rfl⟩
  obtain ⟨tC, htC⟩ : ∃ t, t = 3900000000000000000 + C := ⟨_, rfl⟩
  obtain ⟨tL, htL⟩ : ∃ t, t = 3900000000000000000 + L := ⟨_, rfl⟩
  obtain ⟨uC, huC⟩ : ∃ t, t = 3900000000000000000 + q2 := ⟨_, rfl⟩
  obtain ⟨uL, huL⟩ : ∃ t, t = 3900000000000000000 + q3 := ⟨_, rfl⟩
  obtain ⟨X, hX⟩ : ∃ t, t = ofN uC := ⟨_, rfl⟩
  obtain ⟨Y, hY⟩ : ∃ t, t = ofN uL := ⟨_, rfl⟩
  obtain ⟨th, hth⟩ : ∃ t, t = (q2 - a + (q3 - E)) / 2 := ⟨_, rfl⟩
  obtain ⟨dl, hdl⟩ : ∃ t, t = max 1 (E - a - (q3 - q2)) := ⟨_, rfl⟩
  obtain ⟨ds, hds⟩ : ∃ t, t = (dl + 1) / 2 + 1 := ⟨_, rfl⟩
  obtain ⟨jp, hjp⟩ : ∃ t, t = longN 1 + 1 + max th (-th) := ⟨_, rfl⟩
  have rX : 0 ≤ X ∧ X ≤ 18446744073709551615 := by have := ofN_rng uC; omega
  have rY : 0 ≤ Y ∧ Y ≤ 18446744073709551615 := by have := ofN_rng uL; omega
  have hIv : ivB lo hi = true := by unfold ivB; exact decide_eq_true (by omega)
  have hth' : -70368744177664 ≤ th ∧ th ≤ 70368744177664 := by omega
  have hdl' : 1 ≤ dl ∧ dl ≤ 4398046511104 := by omega
  have hl1 : longN 1 = 15259 := by decide
  have hl0 : longN 0 = 0 := by decide
  have hjp' : 15260 ≤ jp ∧ jp ≤ 140737488355328 := by omega
  have hsk : schk th dl 1 E = 0 := if_pos (by omega)
  have hck : chk 2 dl jp = 0 := if_pos (by omega)
  have hck1 : chk 1 0 1000 = 0 := by decide
  have hje : joinErr 0 4 4 1 0 (-20) 0 1 th dl 1 E = 0 := by
    unfold joinErr
    rw [if_pos ⟨by decide, hsk⟩, if_pos (by decide), hl0, hl1, show (1 : Int) + 1 = 2 from rfl, show 0 + dl = dl by omega, show 15259 + 1 + max th (-th) = jp by omega, hck]
  refine ⟨C, L, E, lo, hi, q2, q3, X, Y, tC, tL, uC, uL, th, dl, ds, th - ((dl + 1) / 2 + 1), th + ((dl + 1) / 2 + 1), dl, jp, (dl + 1) / 2 + jp, 1000 + ds, 1000 + ds - 1, ?_⟩
  have hB := tx_bytes lo hi
  obtain ⟨i1, i2, i3⟩ := ivD_back (a := lo) (b := hi) (by omega) (by omega) hIv
  refine { wC := ?_, wL := ?_, wE := ?_, wlo := ?_, whi := ?_, w2 := ?_, w3 := ?_, v1 := ?_, v2 := ?_, v3 := ?_, v4 := ?_, hOX := fun W => ?_, hOY := fun W => ?_, hSd := ?_, hRp := fun W => ?_, hDc := fun W A c h => ?_, hPr := fun W A c h1 h2 h => ?_, hIn := fun W A c h1 h2 h => ?_, hRc := ?_, hSo := fun W => ?_, hBd := fun W => ?_, hlo' := ?_, hhi' := ?_, hJn := fun W => ?_, hD1 := fun W => ?_, hD2 := fun W => ?_, hD3 := fun W => ?_, x1 := ?_, x2 := ?_, hle := ?_ }
  · rw [IntWalk.i64_in _ (by omega)]; exact hC.symm
  · rw [IntWalk.i64_in _ (by omega)]; exact hL.symm
  · rw [IntWalk.i64_in _ (by omega)]; exact hE.symm
  · rw [IntWalk.i64_in _ (by omega)]; exact hlo.symm
  · rw [IntWalk.i64_in _ (by omega)]; exact hhi.symm
  · rw [IntWalk.i64_in _ (by omega)]; exact h2.symm
  · rw [IntWalk.i64_in _ (by omega)]; exact h3.symm
  · rw [IntWalk.i64_in _ (by omega)]; exact htC.symm
  · rw [IntWalk.i64_in _ (by omega)]; exact htL.symm
  · rw [IntWalk.i64_in _ (by omega)]; omega
  · rw [IntWalk.i64_in _ (by omega)]; omega
  · rw [hX]; exact of_any uC W (by omega) (by omega)
  · rw [hY]; exact of_any uL W (by omega) (by omega)
  · rcases sendE_cases a n 0 with ⟨g1, g⟩ | ⟨g1, g2, g⟩ | ⟨g1, g2, g3, g⟩ | ⟨g1, g2, g3, g⟩
    · rw [rdB_iff.2 (by omega)] at g1; cases g1
    · omega
    · omega
    · exact g
  · refine (toprep_ok n X Y lo hi W hIv hn rX rY).mono fun r w' ⟨A, c, N, e1, e2, e3, e4⟩ => ?_
    obtain rfl : N = 68 := by
      rw [← e2, List.length_append, show fldsB [(28929, ivD lo hi)] = fldsB (txF lo hi) from rfl, hB]
      show (encH _ _ _ _ _ _ _ _ _ _ _ _ _).length + 20 = 68
      rw [encH_len]
    exact ⟨A, c, e1, e3, e4⟩
  · exact decode_enc 0 4 4 1 0 (-20) 0 1 5 0 n X Y A 68 c _ W (by decide) (by decide) (by decide) (by decide) (by decide) hn rX rY (by rw [hB]) h (by decide)
  · have hp := parse_any A 20 c _ W hB h h1 h2 (by decide)
    have hq : prs (fldsB (txF lo hi)).length [] (fldsB (txF lo hi)) = (txF lo hi, [], 0) := by
      obtain ⟨p1, p2, p3⟩ := prs_of (L := txF lo hi) (a := []) (tx_valid lo hi).1 (tx_valid lo hi).2 (.inl rfl)
      rw [List.append_nil] at p1 p2 p3
      exact Prod.ext p1 (Prod.ext p2 p3)
    rw [hq] at hp
    refine hp.mono fun r w' ⟨A, c, A2, c2, N, N2, wm, e1, e2, e3, e4, e5, e6, e7⟩ => ?_
    subst e2 e3
    have e8 := e4.below e6 (Nat.le_refl _)
    obtain ⟨T, hT, h8⟩ := id e8
    have hl : T.length = 1 := by rw [← flds_len T, hT]; rfl
    have hc := own_form h8.1 (by omega)
    obtain ⟨g, cap, q, _, _, qc, qm, _⟩ := hc
    injection q with _ q1 q2
    exact ⟨A, c, A2, c2, e1, by omega, by omega, e8.xs, e5.trans (e6.mono e5.size)⟩
  · have hp := interval_some A c (txF lo hi) 1 0 W rfl h h1 h2 (fun k hk => by
      obtain rfl : k = 0 := by omega
      show (ivD lo hi).length ≤ _
      rw [ivD_len]; omega) (by decide) rfl (tx_nok lo hi)
    rw [show dtL (txF lo hi) 0 = ivD lo hi from rfl, i1, i2, i3] at hp
    exact hp
  · exact tx_recv a q2 q3 E n X Y (rdB_iff.2 (by omega)) (rdB_iff.2 (by omega)) (rdB_iff.2 (by omega)) (rdB_iff.2 (by omega)) k11 (by omega) (by omega) (by rw [hX, huC]) (by rw [hY, huL])
  · have hp := sof_ok a q2 q3 E W ⟨by omega, by omega⟩ ⟨by omega, by omega⟩ ⟨by omega, by omega⟩ ⟨by omega, by omega⟩ (by omega) (by omega)
    rwa [← hth, ← hdl] at hp
  · exact sbounds_ok th dl 1 E W hsk
  · exact decide_eq_false (by omega)
  · exact decide_eq_false (by omega)
  · have hp := join_any 0 4 4 1 0 (-20) 0 1 5 0 n X Y th dl 1 E 7 W (by decide) (by decide) (by decide) (by decide)
    rw [hje] at hp
    simp only [rootOr, z0_zero] at hp
    rwa [hl0, ← hjp, show (1 : Int) + 1 = 2 from rfl, show 0 + dl = dl by omega] at hp
  · have hp := distance_any 2 dl jp 7 W
    unfold dist at hp
    rwa [if_pos hck] at hp
  · have hp := distance_any 1 0 1000 5 W
    unfold dist at hp
    rwa [if_pos hck1] at hp
  · rw [hds]; exact sdist_ok th dl 1 E W hsk
  · exact IntWalk.i64_in _ (by omega)
  · exact IntWalk.i64_in _ (by omega)
  · exact decide_eq_true (by omega)
end Go.Proofs.Ytdnmjeapihjabaa
namespace Go.Proofs.Ytdnmjeapihjabaa
open Go.ChangeShapes Go.WideShapes Go.ChangeAt Go.RowKit Go.Joins
set_option linter.unusedSimpArgs false
set_option linter.unusedVariables false
set_option maxRecDepth 100000
theorem ys_load_mid {P : Program} {S : World → Prop} {op : Oper} {a : Act} (ty : TypeId) (x : Operand) (ho : op.op = .load ty x)
    (b o : Nat) (hx : a.eval x = .pointer (some ⟨b, o, none⟩)) (cs : List Value) (d : TypeDesc) (hS : ∀ w, S w → w.rangeAt b o cs)
    (hu : P.underlying ty = some d) (hd : d.isRow = true) (hi : (P.info? ty).map (·.size) = some cs.length) : YS P S op (.agg cs.toArray) a :=
  YS.of_value fun w hw => by
    unfold execOp
    simp only [ho, hx, Instr.loadAt, Instr.sureAddr, Sem.run_bind, Sem.run_pure, Result.andThen_ok, run_loadVar_mid w b o ty cs d (hS w hw) hu hd hi]
def TxS (gQ gR gN : Nat) (jd jp th dl E : Int) (w y : World) : Prop := y.cell? ⟨gQ, 0, none⟩ = some (.int .i64 2) ∧ y.cell? ⟨gQ, 3, none⟩ = some (.int .u32 7) ∧ Blk y gQ 34 (rtL 2 jd jp 7) ∧ Blk y gR 34 (rtL 1 0 1000 5) ∧ Blk y gN 54 (smL th dl 1 E) ∧ Below w.heap.size w y
theorem tx_keep {gQ gR gN : Nat} {jd jp th dl E : Int} {w y : World} (h1 : Blk y gQ 34 (rtL 2 jd jp 7)) (h2 : Blk y gR 34 (rtL 1 0 1000 5)) (h3 : Blk y gN 54 (smL th dl 1 E)) (h4 : Below w.heap.size w y) : TxS gQ gR gN jd jp th dl E w y := ⟨h1.cell (i := 0) rfl, h1.cell (i := 3) rfl, h1, h2, h3, h4⟩
theorem tx_below {gQ gR gN : Nat} {jd jp th dl E : Int} {w y z : World} (h : TxS gQ gR gN jd jp th dl E w y) (hb : Below y.heap.size y z) : TxS gQ gR gN jd jp th dl E w z :=
  tx_keep (h.2.2.1.below hb h.2.2.1.lt) (h.2.2.2.1.below hb h.2.2.2.1.lt) (h.2.2.2.2.1.below hb h.2.2.2.2.1.lt) (h.2.2.2.2.2.trans (hb.mono h.2.2.2.2.2.size))
set_option maxRecDepth 100000 in
set_option maxHeartbeats 16000000 in
theorem tx_main (a b d e o n C L E lo hi q2 q3 X Y tC tL uC uL th dl ds blo bhi jd jp dj ds1 ds2 : Int) (w : World) (G : TxIn a b d e o n) (T : TxK a b d e o n C L E lo hi q2 q3 X Y tC tL uC uL th dl ds blo bhi jd jp dj ds1 ds2) :
    Calls Try.prog 3 #[.agg (qdL a b d e).toArray, .int .i64 o, .int .u64 n] w fun r w' => r = .returned (.bool true) ∧ Below w.heap.size w w' := by
  obtain ⟨G1, G2, G3, G4, G5, G6, G7, G8, G9, G10, G11⟩ := G
  obtain ⟨wC, wL, wE, wlo, whi, w2, w3, v1, v2, v3, v4, hOX, hOY, hSd, hRp, hDc, hPr, hIn, hRc, hSo, hBd, hlo', hhi', hJn, hD1, hD2, hD3, x1, x2, hle⟩ := T
  have hPm : ∀ W, Calls Try.prog 6 #[.int .i64 1000, .int .u32 5] W fun e w' => e = .returned (.tuple #[root 1 0 1000 5, .int .i64 0]) ∧ Below W.heap.size W w' := fun W => by
    have hp := primary_any 1000 5 W
    rw [show chk 1 0 1000 = 0 by decide] at hp
    simpa only [rootOr, z0_zero] using hp
  go_enter Try.func3, Try.ntmps3
  go_wp2_with (first
    | (refine wpl_box (by rfl) 23 _ (by rfl) _ (qdL a b d e) (by rfl) rfl ?_; intro w1 P1 s1 b1)
    | (refine wpl_loadf (by rfl) 3 _ (by rfl) w.heap.size 0 (by rfl) _ _ P1 _ rfl _ Try.underlying3 rfl ?_) | (refine wpl_loadf (by rfl) 3 _ (by rfl) w.heap.size 1 (by rfl) _ _ P1 _ rfl _ Try.underlying3 rfl ?_) | (refine wpl_loadf (by rfl) 3 _ (by rfl) w.heap.size 2 (by rfl) _ _ P1 _ rfl _ Try.underlying3 rfl ?_) | (refine wpl_loadf (by rfl) 3 _ (by rfl) w.heap.size 3 (by rfl) _ _ P1 _ rfl _ Try.underlying3 rfl ?_)
    | (go_at_call 4; ((with_reducible refine (new_ok 4 _ (by omega) (by omega)).mono ?_); rintro e' w2 ⟨rfl, H2, b2⟩; (have P2 := P1.below b2 (by omega)); (have z2 := H2.lt)))
    | (refine wpl_loadf (by rfl) 3 _ (by rfl) w.heap.size 0 (by rfl) _ _ P2 _ rfl _ Try.underlying3 rfl ?_)
    | (go_at_call 5; ((with_reducible refine (send_ok w1.heap.size 4 0 0 false 0 0 0 0 0 0 0 0 0 a n _ H2 hSd).mono ?_); rintro e' w3 ⟨rfl, H3, g3⟩; (have P3 := P2.but g3 (by omega)); (have z3 := g3.size)))
    | ((refine wpl_alloc (by rfl) 29 (by rfl) (.agg (zN).toArray) (zN) zeroNtp rfl ?_; intro w4 J4 s4 b4); (have P4 := P3.below b4 P3.lt); (have H4 := H3.below b4 H3.lt))
    | ((refine wpl_store (by rfl) 29 _ _ (by rfl) w3.heap.size (by rfl) _ (by rfl) _ rfl 29 _ J4 (by rfl) _ sizeNtp (by rfl) (by simp [Value.oneCell']) ?_; intro w5 J5 s5 g5); (have P5 := P4.but g5 (by omega)); (have H5 := H4.but g5 (by omega)))
    | (refine wpl_loadf (by rfl) 3 _ (by rfl) w.heap.size 0 (by rfl) _ _ P5 _ rfl _ Try.underlying3 rfl ?_) | (refine wpl_loadf (by rfl) 3 _ (by rfl) w.heap.size 1 (by rfl) _ _ P5 _ rfl _ Try.underlying3 rfl ?_) | (refine wpl_loadf (by rfl) 3 _ (by rfl) w.heap.size 2 (by rfl) _ _ P5 _ rfl _ Try.underlying3 rfl ?_) | (refine wpl_loadf (by rfl) 3 _ (by rfl) w.heap.size 3 (by rfl) _ _ P5 _ rfl _ Try.underlying3 rfl ?_)
    | (go_at_call 6; ((with_reducible refine (hPm _).mono ?_); rintro e' w6 ⟨rfl, b6⟩; (have P6 := P5.below b6 P5.lt); (have H6 := H5.below b6 H5.lt); (have J6 := J5.below b6 J5.lt); (have z6 := b6.size)))
    | ((refine wpl_alloc (by rfl) 34 (by rfl) (.agg (rtL 0 0 0 0).toArray) (rtL 0 0 0 0) zeroRt rfl ?_; intro w7 R7 s7 b7); (have P7 := P6.below b7 P6.lt); (have H7 := H6.below b7 H6.lt); (have J7 := J6.below b7 J6.lt))
    | ((refine wpl_store (by rfl) 34 _ _ (by rfl) w6.heap.size (by rfl) _ (by rfl) _ rfl 34 _ R7 (by rfl) _ sizeRoot (by rfl) (by simp [Value.oneCell']) ?_; intro w8 R8 s8 g8); (have P8 := P7.but g8 (by omega)); (have H8 := H7.but g8 (by omega)); (have J8 := J7.but g8 (by omega)))
    | ((refine wpl_alloc (by rfl) 38 (by rfl) (.agg (ilL 0 0).toArray) (ilL 0 0) zeroIvl rfl ?_; intro w9 I9 s9 b9); (have P9 := P8.below b9 P8.lt); (have H9 := H8.below b9 H8.lt); (have J9 := J8.below b9 J8.lt); (have R9 := R8.below b9 R8.lt))
    | ((refine wpl_store (by rfl) 38 _ _ (by rfl) w8.heap.size (by rfl) _ (by rfl) _ rfl 38 _ I9 (by rfl) _ sizeIvl (by rfl) (by simp [Value.oneCell']) ?_; intro w10 I10 s10 g10); (have P10 := P9.but g10 (by omega)); (have H10 := H9.but g10 (by omega)); (have J10 := J9.but g10 (by omega)); (have R10 := R9.but g10 (by omega))))
  have B3 : Below w.heap.size w w3 := (b1.trans (b2.mono (by omega))).trans (g3.below (by omega) (by omega))
  have B6 : Below w.heap.size w w6 := ((B3.trans (b4.mono B3.size)).trans (g5.below (by omega) (by omega))).trans (b6.mono (by omega))
  have B8 : Below w.heap.size w w8 := (B6.trans (b7.mono B6.size)).trans (g8.below (by omega) (by omega))
  have B10 : Below w.heap.size w w10 := (B8.trans (b9.mono B8.size)).trans (g10.below (by omega) (by omega))
  have n1 : w.heap.size < w1.heap.size := by omega
  have n2 : w1.heap.size < w3.heap.size := by omega
  have n3 : w3.heap.size < w6.heap.size := by omega
  have n4 : w6.heap.size < w8.heap.size := by omega
  have n5 : w8.heap.size < w10.heap.size := I10.lt
  clear P1 P2 P3 P4 P5 P6 P7 P8 P9 H2 H3 H4 H5 H6 H7 H8 H9 J4 J5 J6 J7 J8 J9 R7 R8 R9 I9 b1 b2 g3 b4 g5 b6 b7 g8 b9 g10 B3 B6 B8 s1 z2 z3 s4 s5 z6 s7 s8 s9 s10
  generalize w1.heap.size = gH at *
  generalize w3.heap.size = gJ at *
  generalize w6.heap.size = gR at *
  generalize w8.heap.size = gI at *
  refine wp_region_heldL (fun y => Blk y gJ 29 (rqL n) ∧ Blk y gR 34 (rtL 1 0 1000 5) ∧ Blk y gI 38 (ilL lo hi)) 19 (by kernel_rfl) rfl ⟨J10.drew, R10.drew, I10.drew⟩ fun hHeld => ?_
  simp only [List.replicate]
  refine wpH_take (i := 0) (v := .agg (rqL n).toArray) (by simp only [List.getElem?_toArray, List.getElem?_cons_succ, List.getElem?_cons_zero]; rfl) (by kernel_rfl) (by kernel_rfl) (by kernel_rfl) (by intro _ _ _ h; exact h) (yieldsIf_load_mid (by rfl) 29 _ (by rfl) gJ 0 (by rfl) (rqL n) _ (fun w' h => Blk.range h.1) Try.underlying29 rfl sizeNtp) (by assumption) ?_
  (try simp only [Act.put, List.setIfInBounds_toArray, List.set_cons_zero, List.set_cons_succ])
  (refine wpH_take (i := 1) (v := _) (by simp only [List.getElem?_toArray, List.getElem?_cons_succ, List.getElem?_cons_zero]; rfl) (by kernel_rfl) (by kernel_rfl) (by kernel_rfl) (by intro _ _ _ h; exact h) (Or.inl ⟨by rfl, (by intro w' hSw; (try dsimp only at hSw); go_simp; first | done | with_reducible rfl)⟩) (by assumption) ?_; (try simp only [Act.put, List.setIfInBounds_toArray, List.set_cons_zero, List.set_cons_succ]))
  (refine wpH_take (i := 2) (v := _) (by simp only [List.getElem?_toArray, List.getElem?_cons_succ, List.getElem?_cons_zero]; rfl) (by kernel_rfl) (by kernel_rfl) (by kernel_rfl) (by intro _ _ _ h; exact h) (Or.inl ⟨by rfl, (by intro w' hSw; (try dsimp only at hSw); go_simp; first | done | with_reducible rfl)⟩) (by assumption) ?_; (try simp only [Act.put, List.setIfInBounds_toArray, List.set_cons_zero, List.set_cons_succ]))
  (refine wpH_take (i := 3) (v := _) (by simp only [List.getElem?_toArray, List.getElem?_cons_succ, List.getElem?_cons_zero]; rfl) (by kernel_rfl) (by kernel_rfl) (by kernel_rfl) (by intro _ _ _ h; exact h) (Or.inl ⟨by rfl, (by intro w' hSw; (try dsimp only at hSw); go_simp; first | done | with_reducible rfl)⟩) (by assumption) ?_; (try simp only [Act.put, List.setIfInBounds_toArray, List.set_cons_zero, List.set_cons_succ]))
  (refine wpH_take (i := 4) (v := _) (by simp only [List.getElem?_toArray, List.getElem?_cons_succ, List.getElem?_cons_zero]; rfl) (by kernel_rfl) (by kernel_rfl) (by kernel_rfl) (by intro _ _ _ h; exact h) (Or.inl ⟨by rfl, (by intro w' hSw; (try dsimp only at hSw); go_simp; first | done | with_reducible rfl)⟩) (by assumption) ?_; (try simp only [Act.put, List.setIfInBounds_toArray, List.set_cons_zero, List.set_cons_succ]))
  (refine wpH_take (i := 6) (v := _) (by simp only [List.getElem?_toArray, List.getElem?_cons_succ, List.getElem?_cons_zero]; rfl) (by kernel_rfl) (by kernel_rfl) (by kernel_rfl) (by intro _ _ _ h; exact h) (Or.inl ⟨by rfl, (by intro w' hSw; (try dsimp only at hSw); go_simp; first | done | with_reducible rfl)⟩) (by assumption) ?_; (try simp only [Act.put, List.setIfInBounds_toArray, List.set_cons_zero, List.set_cons_succ]))
  (refine wpH_take (i := 7) (v := _) (by simp only [List.getElem?_toArray, List.getElem?_cons_succ, List.getElem?_cons_zero]; rfl) (by kernel_rfl) (by kernel_rfl) (by kernel_rfl) (by intro _ _ _ h; exact h) (Or.inl ⟨by rfl, (by intro w' hSw; (try dsimp only at hSw); go_simp; first | done | with_reducible rfl)⟩) (by assumption) ?_; (try simp only [Act.put, List.setIfInBounds_toArray, List.set_cons_zero, List.set_cons_succ]))
  (refine wpH_take (i := 8) (v := _) (by simp only [List.getElem?_toArray, List.getElem?_cons_succ, List.getElem?_cons_zero]; rfl) (by kernel_rfl) (by kernel_rfl) (by kernel_rfl) (by intro _ _ _ h; exact h) (Or.inl ⟨by rfl, (by intro w' hSw; (try dsimp only at hSw); go_simp; first | done | with_reducible rfl)⟩) (by assumption) ?_; (try simp only [Act.put, List.setIfInBounds_toArray, List.set_cons_zero, List.set_cons_succ]))
  (refine wpH_take (i := 9) (v := _) (by simp only [List.getElem?_toArray, List.getElem?_cons_succ, List.getElem?_cons_zero]; rfl) (by kernel_rfl) (by kernel_rfl) (by kernel_rfl) (by intro _ _ _ h; exact h) (Or.inl ⟨by rfl, (by intro w' hSw; (try dsimp only at hSw); go_simp; first | done | with_reducible rfl)⟩) (by assumption) ?_; (try simp only [Act.put, List.setIfInBounds_toArray, List.set_cons_zero, List.set_cons_succ]))
  refine wpH_take (i := 11) (v := .agg (rtL 1 0 1000 5).toArray) (by simp only [List.getElem?_toArray, List.getElem?_cons_succ, List.getElem?_cons_zero]; rfl) (by kernel_rfl) (by kernel_rfl) (by kernel_rfl) (by intro _ _ _ h; exact h) (yieldsIf_load_mid (by rfl) 34 _ (by rfl) gR 0 (by rfl) (rtL 1 0 1000 5) _ (fun w' h => Blk.range h.2.1) Try.underlying34 rfl sizeRoot) (by assumption) ?_
  (try simp only [Act.put, List.setIfInBounds_toArray, List.set_cons_zero, List.set_cons_succ])
  refine wpH_take (i := 12) (v := .agg (ilL lo hi).toArray) (by simp only [List.getElem?_toArray, List.getElem?_cons_succ, List.getElem?_cons_zero]; rfl) (by kernel_rfl) (by kernel_rfl) (by kernel_rfl) (by intro _ _ _ h; exact h) (yieldsIf_load_mid (by rfl) 38 _ (by rfl) gI 0 (by rfl) (ilL lo hi) _ (fun w' h => Blk.range h.2.2) Try.underlying38 rfl sizeIvl) (by assumption) ?_
  (try simp only [Act.put, List.setIfInBounds_toArray, List.set_cons_zero, List.set_cons_succ])
  (refine wpH_one (i := 5) (by simp only [List.getElem?_toArray, List.getElem?_cons_succ, List.getElem?_cons_zero]; rfl) (by kernel_rfl) (by rfl) ?_; (go_simp; (with_reducible refine (hOX _).mono ?_); rintro e' w11 ⟨rfl, b11⟩; refine ⟨⟨J10.drew.below b11 J10.lt, R10.drew.below b11 R10.lt, I10.drew.below b11 I10.lt⟩, ?_⟩); (try simp only [Act.put, List.setIfInBounds_toArray, List.set_cons_zero, List.set_cons_succ]))
  have P11 := P10.drew.below b11 P10.lt
  have H11 := H10.drew.below b11 H10.lt
  have J11 := J10.drew.below b11 J10.lt
  have R11 := R10.drew.below b11 R10.lt
  have I11 := I10.drew.below b11 I10.lt
  have B11 := B10.drew.trans (b11.mono B10.size)
  have hH11 : Blk w11 gJ 29 (rqL n) ∧ Blk w11 gR 34 (rtL 1 0 1000 5) ∧ Blk w11 gI 38 (ilL lo hi) := ⟨J11, R11, I11⟩
  (refine wpH_one (i := 10) (by simp only [List.getElem?_toArray, List.getElem?_cons_succ, List.getElem?_cons_zero]; rfl) (by kernel_rfl) (by rfl) ?_; (go_simp; (with_reducible refine (hOY _).mono ?_); rintro e' w12 ⟨rfl, b12⟩; refine ⟨⟨J11.below b12 J11.lt, R11.below b12 R11.lt, I11.below b12 I11.lt⟩, ?_⟩); (try simp only [Act.put, List.setIfInBounds_toArray, List.set_cons_zero, List.set_cons_succ]))
  have P12 := P11.below b12 P11.lt
  have H12 := H11.below b12 H11.lt
  have J12 := J11.below b12 J11.lt
  have R12 := R11.below b12 R11.lt
  have I12 := I11.below b12 I11.lt
  have B12 := B11.trans (b12.mono B11.size)
  have hH12 : Blk w12 gJ 29 (rqL n) ∧ Blk w12 gR 34 (rtL 1 0 1000 5) ∧ Blk w12 gI 38 (ilL lo hi) := ⟨J12, R12, I12⟩
  (refine wpH_one (i := 13) (by simp only [List.getElem?_toArray, List.getElem?_cons_succ, List.getElem?_cons_zero]; rfl) (by kernel_rfl) (by rfl) ?_; (go_simp; (with_reducible refine (hRp _).mono ?_); rintro e' w13 ⟨A13, c13, rfl, O13, b13⟩; refine ⟨⟨J12.below b13 J12.lt, R12.below b13 R12.lt, I12.below b13 I12.lt⟩, ?_⟩); (try simp only [Act.put, List.setIfInBounds_toArray, List.set_cons_zero, List.set_cons_succ]))
  have P13 := P12.below b13 P12.lt
  have H13 := H12.below b13 H12.lt
  have R13 := R12.below b13 R12.lt
  have I13 := I12.below b13 I12.lt
  have B13 := B12.trans (b13.mono B12.size)
  have hH13 : Blk w13 gJ 29 (rqL n) ∧ Blk w13 gR 34 (rtL 1 0 1000 5) ∧ Blk w13 gI 38 (ilL lo hi) := ⟨J12.below b13 J12.lt, R13, I13⟩
  (refine wpH_take (i := 14) (v := _) (by simp only [List.getElem?_toArray, List.getElem?_cons_succ, List.getElem?_cons_zero]; rfl) (by kernel_rfl) (by kernel_rfl) (by kernel_rfl) (by intro _ _ _ h; exact h) (Or.inl ⟨by rfl, (by intro w' hSw; (try dsimp only at hSw); go_simp; first | done | with_reducible rfl)⟩) (by assumption) ?_; (try simp only [Act.put, List.setIfInBounds_toArray, List.set_cons_zero, List.set_cons_succ]))
  (refine wpH_take (i := 15) (v := _) (by simp only [List.getElem?_toArray, List.getElem?_cons_succ, List.getElem?_cons_zero]; rfl) (by kernel_rfl) (by kernel_rfl) (by kernel_rfl) (by intro _ _ _ h; exact h) (Or.inl ⟨by rfl, (by intro w' hSw; (try dsimp only at hSw); go_simp; first | done | with_reducible rfl)⟩) (by assumption) ?_; (try simp only [Act.put, List.setIfInBounds_toArray, List.set_cons_zero, List.set_cons_succ]))
  (refine wpH_take (i := 16) (v := _) (by simp only [List.getElem?_toArray, List.getElem?_cons_succ, List.getElem?_cons_zero]; rfl) (by kernel_rfl) (by kernel_rfl) (by kernel_rfl) (by intro _ _ _ h; exact h) (Or.inl ⟨by rfl, (by intro w' hSw; (try dsimp only at hSw); go_simp; first | done | with_reducible rfl)⟩) (by assumption) ?_; (try simp only [Act.put, List.setIfInBounds_toArray, List.set_cons_zero, List.set_cons_succ]))
  (refine wpH_take (i := 17) (v := _) (by simp only [List.getElem?_toArray, List.getElem?_cons_succ, List.getElem?_cons_zero]; rfl) (by kernel_rfl) (by kernel_rfl) (by kernel_rfl) (by intro _ _ _ h; exact h) (Or.inl ⟨by rfl, (by intro w' hSw; (try dsimp only at hSw); go_simp; first | done | with_reducible rfl)⟩) (by assumption) ?_; (try simp only [Act.put, List.setIfInBounds_toArray, List.set_cons_zero, List.set_cons_succ]))
  (refine wpH_take (i := 18) (v := _) (by simp only [List.getElem?_toArray, List.getElem?_cons_succ, List.getElem?_cons_zero]; rfl) (by kernel_rfl) (by kernel_rfl) (by kernel_rfl) (by intro _ _ _ h; exact h) (Or.inl ⟨by rfl, (by intro w' hSw; (try dsimp only at hSw); go_simp; first | done | with_reducible rfl)⟩) (by assumption) ?_; (try simp only [Act.put, List.setIfInBounds_toArray, List.set_cons_zero, List.set_cons_succ]))
  refine wpH_done (by kernel_rfl) ?_ _
  clear hHeld hH11 hH12 hH13 J10 J11 J12 R10 R11 R12 I10 I11 I12 P10 P11 P12 H10 H11 H12 b11 b12 b13 B10 B11 B12
  generalize w10.heap.size = N10 at *
  have z13 := I13.lt
  go_wp2_with (first
    | (go_at_call 9; ((with_reducible refine (hDc _ _ _ (O13.bs.wide (Nat.zero_le _) (Nat.le_refl _))).mono ?_); rintro e' w14 ⟨A14, c14, rfl, O14, b14⟩; (have P14 := P13.below b14 P13.lt); (have H14 := H13.below b14 H13.lt); (have R14 := R13.below b14 R13.lt); (have I14 := I13.below b14 I13.lt); (have B14 := B13.trans (b14.mono B13.size)); (have z14 := b14.size)))
    | ((refine wpl_alloc (by rfl) 29 (by rfl) (.agg (zN).toArray) (zN) zeroNtp rfl ?_; intro w15 K15 s15 b15); (have P15 := P14.below b15 P14.lt); (have H15 := H14.below b15 H14.lt); (have R15 := R14.below b15 R14.lt); (have I15 := I14.below b15 I14.lt); (have O15 := O14.below b15 (Nat.le_refl _)))
    | ((refine wpl_store (by rfl) 29 _ _ (by rfl) w14.heap.size (by rfl) _ (by rfl) _ rfl 29 _ K15 (by rfl) _ sizeNtp (by rfl) (by simp [Value.oneCell']) ?_; intro w16 K16 s16 g16); (have P16 := P15.but g16 (by have := P14.lt; omega)); (have H16 := H15.but g16 (by have := H14.lt; omega)); (have R16 := R15.but g16 (by have := R14.lt; omega)); (have I16 := I15.but g16 (by have := I14.lt; omega)); (have O16 := (O14.bs.wide (Nat.zero_le _) (Nat.le_refl _)).below b15 (Nat.le_refl _)); (have O17 := O16.grown g16 (Nat.le_of_lt s15) (fun g e => by cases e; exact .inr (Nat.le_refl _))); (have B16 := (B14.trans (b15.mono B14.size)).trans (g16.below (by have := B14.size; omega) B14.size)); (have hc14 : 20 ≤ c14 := by (have := O14.cap_le; rw [tx_bytes] at this; exact this)))
    | (go_at_call 10; ((with_reducible refine (hPr _ _ _ hc14 O14.cap_max (O17.wide (Nat.le_refl _) (by omega))).mono ?_); rintro e' w17 ⟨A17, c17, A18, c18, rfl, h17, h17', X17, b17⟩; (have P17 := P16.below b17 P16.lt); (have H17 := H16.below b17 H16.lt); (have R17 := R16.below b17 R16.lt); (have I17 := I16.below b17 I16.lt); (have K17 := K16.below b17 K16.lt); (have B17 := B16.trans (b17.mono B16.size))))
    | (go_at_call 11; ((with_reducible refine (hIn _ _ _ h17 h17' X17).mono ?_); rintro e' w18 ⟨rfl, b18⟩; (have P18 := P17.below b18 P17.lt); (have H18 := H17.below b18 H17.lt); (have R18 := R17.below b18 R17.lt); (have I18 := I17.below b18 I17.lt); (have K18 := K17.below b18 K17.lt); (have B18 := B17.trans (b18.mono B17.size))))
    | ((refine wpl_alloc (by rfl) 38 (by rfl) (.agg (ilL 0 0).toArray) (ilL 0 0) zeroIvl rfl ?_; intro w19 L19 s19 b19); (have P19 := P18.below b19 P18.lt); (have H19 := H18.below b19 H18.lt); (have R19 := R18.below b19 R18.lt); (have I19 := I18.below b19 I18.lt); (have K19 := K18.below b19 K18.lt))
    | ((refine wpl_store (by rfl) 38 _ _ (by rfl) w18.heap.size (by rfl) _ (by rfl) _ rfl 38 _ L19 (by rfl) _ sizeIvl (by rfl) (by simp [Value.oneCell']) ?_; intro w20 L20 s20 g20); (have P20 := P19.but g20 (Nat.ne_of_lt P18.lt)); (have H20 := H19.but g20 (Nat.ne_of_lt H18.lt)); (have R20 := R19.but g20 (Nat.ne_of_lt R18.lt)); (have I20 := I19.but g20 (Nat.ne_of_lt I18.lt)); (have K20 := K19.but g20 (Nat.ne_of_lt K18.lt)); (have B20 := (B18.trans (b19.mono B18.size)).trans (g20.below (by have := B18.size; omega) B18.size)))
    | (refine wpl_load (by rfl) 38 _ (by rfl) w18.heap.size (by rfl) 38 _ L20 _ Try.underlying38 rfl _ sizeIvl (by rfl) ?_)
    | (refine wpl_load (by rfl) 38 _ (by rfl) gI (by rfl) 38 _ I20 _ Try.underlying38 rfl _ sizeIvl (by rfl) ?_)
    | (refine wpl_load (by rfl) 29 _ (by rfl) w14.heap.size (by rfl) 29 _ K20 _ Try.underlying29 rfl _ sizeNtp (by rfl) ?_)
    | (go_at_call 12; ((with_reducible refine (hRc _ _ H20).mono ?_); rintro e' w21 ⟨rfl, g21⟩; (have P21 := P20.but g21 (by omega)); (have R21 := R20.but g21 (by omega)); (have I21 := I20.but g21 (by omega)); (have K21 := K20.but g21 (by omega)); (have B21 := B20.trans (g21.below B20.size (by omega)))))
    | ((refine wpl_alloc (by rfl) 51 (by rfl) (.agg (zH).toArray) (zH) zeroHeard rfl ?_; intro w22 M22 s22 b22); (have P22 := P21.below b22 P21.lt); (have R22 := R21.below b22 R21.lt); (have I22 := I21.below b22 I21.lt); (have K22 := K21.below b22 K21.lt))
    | ((refine wpl_store (by rfl) 51 _ _ (by rfl) w21.heap.size (by rfl) _ (by rfl) _ rfl 51 _ M22 (by rfl) _ sizeHeard (by rfl) (by simp [Value.oneCell']) ?_; intro w23 M23 s23 g23); (have P23 := P22.but g23 (Nat.ne_of_lt P21.lt)); (have R23 := R22.but g23 (Nat.ne_of_lt R21.lt)); (have I23 := I22.but g23 (Nat.ne_of_lt I21.lt)); (have K23 := K22.but g23 (Nat.ne_of_lt K21.lt)); (have B23 := (B21.trans (b22.mono B21.size)).trans (g23.below (by have := B21.size; omega) B21.size)))
    | (refine wpl_loadf (by rfl) 3 _ (by rfl) w21.heap.size 0 (by rfl) _ _ M23 _ rfl _ Try.underlying3 rfl ?_)
    | (refine wpl_loadm (by rfl) 23 _ (by rfl) w21.heap.size 2 (by rfl) _ _ M23 _ _ Try.underlying23 rfl _ sizeQuadT (by rfl) (by rfl) ?_)
    | (refine wpl_loadf (by rfl) 3 _ (by rfl) w.heap.size 0 (by rfl) _ _ P23 _ rfl _ Try.underlying3 rfl ?_)
    | (go_at_call 13; ((with_reducible refine (hSo _).mono ?_); rintro e' w24 ⟨rfl, b24⟩; (have R24 := R23.below b24 R23.lt); (have I24 := I23.below b24 I23.lt); (have K24 := K23.below b24 K23.lt); (have B24 := B23.trans (b24.mono B23.size))))
    | ((refine wpl_alloc (by rfl) 54 (by rfl) (.agg (smL 0 0 0 0).toArray) (smL 0 0 0 0) zeroSamp rfl ?_; intro w25 N25 s25 b25); (have R25 := R24.below b25 R24.lt); (have I25 := I24.below b25 I24.lt); (have K25 := K24.below b25 K24.lt))
    | ((refine wpl_store (by rfl) 54 _ _ (by rfl) w24.heap.size (by rfl) _ (by rfl) _ rfl 54 _ N25 (by rfl) _ sizeSamp (by rfl) (by simp [Value.oneCell']) ?_; intro w26 N26 s26 g26); (have R26 := R25.but g26 (Nat.ne_of_lt R24.lt)); (have I26 := I25.but g26 (Nat.ne_of_lt I24.lt)); (have K26 := K25.but g26 (Nat.ne_of_lt K24.lt)); (have B26 := (B24.trans (b25.mono B24.size)).trans (g26.below (by have := B24.size; omega) B24.size)))
    | (refine wpl_load (by rfl) 54 _ (by rfl) w24.heap.size (by rfl) 54 _ N26 _ Try.underlying54 rfl _ sizeSamp (by rfl) ?_)
    | (go_at_call 14; ((with_reducible refine (hBd _).mono ?_); rintro e' w27 ⟨rfl, b27⟩; (have R27 := R26.below b27 R26.lt); (have I27 := I26.below b27 I26.lt); (have K27 := K26.below b27 K26.lt); (have N27 := N26.below b27 N26.lt); (have B27 := B26.trans (b27.mono B26.size))))
    | ((refine wpl_store (by rfl) 38 _ _ (by rfl) gI (by rfl) _ (by rfl) _ rfl 38 _ I27 (by rfl) _ sizeIvl (by rfl) (by simp [Value.oneCell']) ?_; intro w28 I28 s28 g28); (have R28 := R27.but g28 (by have := I24.lt; omega)); (have K28 := K27.but g28 (by have := I24.lt; omega)); (have N28 := N27.but g28 (by have := I24.lt; omega)); (have B28 := B27.trans (g28.below B27.size (by omega))))
    | (refine wpl_loadf (by rfl) 3 _ (by rfl) gI 0 (by rfl) _ _ I28 _ rfl _ Try.underlying3 rfl ?_) | (refine wpl_loadf (by rfl) 3 _ (by rfl) gI 1 (by rfl) _ _ I28 _ rfl _ Try.underlying3 rfl ?_)
    | (refine wpl_load (by rfl) 29 _ (by rfl) w14.heap.size (by rfl) 29 _ K28 _ Try.underlying29 rfl _ sizeNtp (by rfl) ?_)
    | (refine wpl_load (by rfl) 54 _ (by rfl) w24.heap.size (by rfl) 54 _ N28 _ Try.underlying54 rfl _ sizeSamp (by rfl) ?_)
    | (go_at_call 15; ((with_reducible refine (hJn _).mono ?_); rintro e' w29 ⟨rfl, b29⟩; (have R29 := R28.below b29 R28.lt); (have N29 := N28.below b29 N28.lt); (have B29 := B28.trans (b29.mono B28.size))))
    | ((refine wpl_alloc (by rfl) 34 (by rfl) (.agg (rtL 0 0 0 0).toArray) (rtL 0 0 0 0) zeroRt rfl ?_; intro w30 Q30 s30 b30); (have R30 := R29.below b30 R29.lt); (have N30 := N29.below b30 N29.lt))
    | ((refine wpl_store (by rfl) 34 _ _ (by rfl) w29.heap.size (by rfl) _ (by rfl) _ rfl 34 _ Q30 (by rfl) _ sizeRoot (by rfl) (by simp [Value.oneCell']) ?_; intro w31 Q31 s31 g31); (have R31 := R30.but g31 (Nat.ne_of_lt R29.lt)); (have N31 := N30.but g31 (Nat.ne_of_lt N29.lt)); (have B31 := (B29.trans (b30.mono B29.size)).trans (g31.below (by have := B29.size; omega) B29.size))))
  have n24 : w24.heap.size < w31.heap.size := N31.lt
  have nR : gR < w31.heap.size := R31.lt
  have n29 : w29.heap.size < w31.heap.size := Q31.lt
  clear P13 P14 P15 P16 P17 P18 P19 P20 P21 P22 P23 H13 H14 H15 H16 H17 H18 H19 H20 R13 R14 R15 R16 R17 R18 R19 R20 R21 R22 R23 R24 R25 R26 R27 R28 R29 R30 I13 I14 I15 I16 I17 I18 I19 I20 I21 I22 I23 I24 I25 I26 I27 I28
  clear K15 K16 K17 K18 K19 K20 K21 K22 K23 K24 K25 K26 K27 K28 L19 L20 M22 M23 N25 N26 N27 N28 N29 N30 Q30 O13 O14 O15 O16 O17 X17 b14 b15 g16 b17 b18 b19 g20 g21 b22 g23 b24 b25 g26 b27 g28 b29 b30 g31 B13 B14 B16 B17 B18 B20 B21 B23 B24 B26 B27 B28 B29
  clear hOX hOY hRp hDc hPr hIn hRc hSo hBd hJn hPm
  generalize w24.heap.size = gN at *
  generalize w29.heap.size = gQ at *
  refine wp_region_det (fun y => y.cell? ⟨gQ, 0, none⟩ = some (.int .i64 2) ∧ y.cell? ⟨gQ, 3, none⟩ = some (.int .u32 7) ∧ Blk y gQ 34 (rtL 2 jd jp 7) ∧ Blk y gR 34 (rtL 1 0 1000 5) ∧ Blk y gN 54 (smL th dl 1 E) ∧ Below w.heap.size w y) 24 (by kernel_rfl) rfl (by exact tx_keep Q31.drew R31.drew N31.drew B31.drew) ?_
  simp only [List.replicate]
  (refine wpD_take (i := 0) (v := _) (by simp only [List.getElem?_toArray, List.getElem?_cons_succ, List.getElem?_cons_zero]; rfl) (by kernel_rfl) (by kernel_rfl) (by kernel_rfl) (by rfl) (YS.of_value (by intro w' hSw; (try dsimp only at hSw); go_simp; first | done | with_reducible rfl)) ?_; (try simp only [Act.put, List.setIfInBounds_toArray, List.set_cons_zero, List.set_cons_succ]))
  (refine wpD_take (i := 1) (v := _) (by simp only [List.getElem?_toArray, List.getElem?_cons_succ, List.getElem?_cons_zero]; rfl) (by kernel_rfl) (by kernel_rfl) (by kernel_rfl) (by rfl) (YS.of_value (by intro w' hSw; (try dsimp only at hSw); go_simp; first | done | with_reducible rfl)) ?_; (try simp only [Act.put, List.setIfInBounds_toArray, List.set_cons_zero, List.set_cons_succ]))
  (refine wpD_take (i := 2) (v := _) (by simp only [List.getElem?_toArray, List.getElem?_cons_succ, List.getElem?_cons_zero]; rfl) (by kernel_rfl) (by kernel_rfl) (by kernel_rfl) (by rfl) (YS.of_value (by intro w' hSw; (try dsimp only at hSw); go_simp; first | done | with_reducible rfl)) ?_; (try simp only [Act.put, List.setIfInBounds_toArray, List.set_cons_zero, List.set_cons_succ]))
  (refine wpD_take (i := 3) (v := _) (by simp only [List.getElem?_toArray, List.getElem?_cons_succ, List.getElem?_cons_zero]; rfl) (by kernel_rfl) (by kernel_rfl) (by kernel_rfl) (by rfl) (YS.of_value (by intro w' hSw; (try dsimp only at hSw); go_simp; first | done | with_reducible rfl)) ?_; (try simp only [Act.put, List.setIfInBounds_toArray, List.set_cons_zero, List.set_cons_succ]))
  (refine wpD_take (i := 4) (v := _) (by simp only [List.getElem?_toArray, List.getElem?_cons_succ, List.getElem?_cons_zero]; rfl) (by kernel_rfl) (by kernel_rfl) (by kernel_rfl) (by rfl) (YS.of_value (by intro w' hSw; (try dsimp only at hSw); go_simp; first | done | with_reducible rfl)) ?_; (try simp only [Act.put, List.setIfInBounds_toArray, List.set_cons_zero, List.set_cons_succ]))
  (refine wpD_take (i := 5) (v := _) (by simp only [List.getElem?_toArray, List.getElem?_cons_succ, List.getElem?_cons_zero]; rfl) (by kernel_rfl) (by kernel_rfl) (by kernel_rfl) (by rfl) (YS.of_value (by intro w' hSw; (try dsimp only at hSw); go_simp; first | done | with_reducible rfl)) ?_; (try simp only [Act.put, List.setIfInBounds_toArray, List.set_cons_zero, List.set_cons_succ]))
  (refine wpD_take (i := 6) (v := _) (by simp only [List.getElem?_toArray, List.getElem?_cons_succ, List.getElem?_cons_zero]; rfl) (by kernel_rfl) (by kernel_rfl) (by kernel_rfl) (by rfl) (YS.of_value (by intro w' hSw; (try dsimp only at hSw); go_simp; first | done | with_reducible rfl)) ?_; (try simp only [Act.put, List.setIfInBounds_toArray, List.set_cons_zero, List.set_cons_succ]))
  (refine wpD_take (i := 7) (v := _) (by simp only [List.getElem?_toArray, List.getElem?_cons_succ, List.getElem?_cons_zero]; rfl) (by kernel_rfl) (by kernel_rfl) (by kernel_rfl) (by rfl) (YS.of_value (by intro w' hSw; (try dsimp only at hSw); go_simp; first | done | with_reducible rfl)) ?_; (try simp only [Act.put, List.setIfInBounds_toArray, List.set_cons_zero, List.set_cons_succ]))
  (refine wpD_take (i := 8) (v := _) (by simp only [List.getElem?_toArray, List.getElem?_cons_succ, List.getElem?_cons_zero]; rfl) (by kernel_rfl) (by kernel_rfl) (by kernel_rfl) (by rfl) (YS.of_value (by intro w' hSw; (try dsimp only at hSw); go_simp; first | done | with_reducible rfl)) ?_; (try simp only [Act.put, List.setIfInBounds_toArray, List.set_cons_zero, List.set_cons_succ]))
  (refine wpD_take (i := 9) (v := _) (by simp only [List.getElem?_toArray, List.getElem?_cons_succ, List.getElem?_cons_zero]; rfl) (by kernel_rfl) (by kernel_rfl) (by kernel_rfl) (by rfl) (YS.of_value (by intro w' hSw; (try dsimp only at hSw); go_simp; first | done | with_reducible rfl)) ?_; (try simp only [Act.put, List.setIfInBounds_toArray, List.set_cons_zero, List.set_cons_succ]))
  (refine wpD_take (i := 10) (v := _) (by simp only [List.getElem?_toArray, List.getElem?_cons_succ, List.getElem?_cons_zero]; rfl) (by kernel_rfl) (by kernel_rfl) (by kernel_rfl) (by rfl) (YS.of_value (by intro w' hSw; (try dsimp only at hSw); go_simp; first | done | with_reducible rfl)) ?_; (try simp only [Act.put, List.setIfInBounds_toArray, List.set_cons_zero, List.set_cons_succ]))
  (refine wpD_take (i := 11) (v := _) (by simp only [List.getElem?_toArray, List.getElem?_cons_succ, List.getElem?_cons_zero]; rfl) (by kernel_rfl) (by kernel_rfl) (by kernel_rfl) (by rfl) (YS.of_value (by intro w' hSw; (try dsimp only at hSw); go_simp; first | done | with_reducible rfl)) ?_; (try simp only [Act.put, List.setIfInBounds_toArray, List.set_cons_zero, List.set_cons_succ]))
  (refine wpD_take (i := 12) (v := _) (by simp only [List.getElem?_toArray, List.getElem?_cons_succ, List.getElem?_cons_zero]; rfl) (by kernel_rfl) (by kernel_rfl) (by kernel_rfl) (by rfl) (YS.of_value (by intro w' hSw; (try dsimp only at hSw); go_simp; first | done | with_reducible rfl)) ?_; (try simp only [Act.put, List.setIfInBounds_toArray, List.set_cons_zero, List.set_cons_succ]))
  refine wpD_take (i := 13) (v := .agg (rtL 2 jd jp 7).toArray) (by simp only [List.getElem?_toArray, List.getElem?_cons_succ, List.getElem?_cons_zero]; rfl) (by kernel_rfl) (by kernel_rfl) (by kernel_rfl) (by rfl) (ys_load_mid 34 _ (by rfl) gQ 0 (by rfl) (rtL 2 jd jp 7) _ (fun w' h => h.2.2.1.range) Try.underlying34 rfl sizeRoot) ?_
  (try simp only [Act.put, List.setIfInBounds_toArray, List.set_cons_zero, List.set_cons_succ])
  refine wpD_take (i := 15) (v := .agg (rtL 1 0 1000 5).toArray) (by simp only [List.getElem?_toArray, List.getElem?_cons_succ, List.getElem?_cons_zero]; rfl) (by kernel_rfl) (by kernel_rfl) (by kernel_rfl) (by rfl) (ys_load_mid 34 _ (by rfl) gR 0 (by rfl) (rtL 1 0 1000 5) _ (fun w' h => h.2.2.2.1.range) Try.underlying34 rfl sizeRoot) ?_
  (try simp only [Act.put, List.setIfInBounds_toArray, List.set_cons_zero, List.set_cons_succ])
  refine wpD_take (i := 17) (v := .agg (smL th dl 1 E).toArray) (by simp only [List.getElem?_toArray, List.getElem?_cons_succ, List.getElem?_cons_zero]; rfl) (by kernel_rfl) (by kernel_rfl) (by kernel_rfl) (by rfl) (ys_load_mid 54 _ (by rfl) gN 0 (by rfl) (smL th dl 1 E) _ (fun w' h => h.2.2.2.2.1.range) Try.underlying54 rfl sizeSamp) ?_
  (try simp only [Act.put, List.setIfInBounds_toArray, List.set_cons_zero, List.set_cons_succ])
  (refine wpD_take (i := 14) (v := _) (by simp only [List.getElem?_toArray, List.getElem?_cons_succ, List.getElem?_cons_zero]; rfl) (by kernel_rfl) (by kernel_rfl) (by kernel_rfl) (by rfl) (by intro w' hSw; (try dsimp only at hSw); go_simp; (go_at_call 16; ((with_reducible refine (hD1 _).mono ?_); rintro e' y1 ⟨rfl, hb⟩; exact ⟨rfl, tx_below hSw hb⟩))) ?_; (try simp only [Act.put, List.setIfInBounds_toArray, List.set_cons_zero, List.set_cons_succ]))
  (refine wpD_take (i := 16) (v := _) (by simp only [List.getElem?_toArray, List.getElem?_cons_succ, List.getElem?_cons_zero]; rfl) (by kernel_rfl) (by kernel_rfl) (by kernel_rfl) (by rfl) (by intro w' hSw; (try dsimp only at hSw); go_simp; (go_at_call 16; ((with_reducible refine (hD2 _).mono ?_); rintro e' y1 ⟨rfl, hb⟩; exact ⟨rfl, tx_below hSw hb⟩))) ?_; (try simp only [Act.put, List.setIfInBounds_toArray, List.set_cons_zero, List.set_cons_succ]))
  (refine wpD_take (i := 18) (v := _) (by simp only [List.getElem?_toArray, List.getElem?_cons_succ, List.getElem?_cons_zero]; rfl) (by kernel_rfl) (by kernel_rfl) (by kernel_rfl) (by rfl) (by intro w' hSw; (try dsimp only at hSw); go_simp; (go_at_call 17; ((with_reducible refine (hD3 _).mono ?_); rintro e' y1 ⟨rfl, hb⟩; exact ⟨rfl, tx_below hSw hb⟩))) ?_; (try simp only [Act.put, List.setIfInBounds_toArray, List.set_cons_zero, List.set_cons_succ]))
  (refine wpD_take (i := 19) (v := _) (by simp only [List.getElem?_toArray, List.getElem?_cons_succ, List.getElem?_cons_zero]; rfl) (by kernel_rfl) (by kernel_rfl) (by kernel_rfl) (by rfl) (YS.of_value (by intro w' hSw; (try dsimp only at hSw); go_simp; first | done | with_reducible rfl)) ?_; (try simp only [Act.put, List.setIfInBounds_toArray, List.set_cons_zero, List.set_cons_succ]))
  (refine wpD_take (i := 20) (v := _) (by simp only [List.getElem?_toArray, List.getElem?_cons_succ, List.getElem?_cons_zero]; rfl) (by kernel_rfl) (by kernel_rfl) (by kernel_rfl) (by rfl) (YS.of_value (by intro w' hSw; (try dsimp only at hSw); go_simp; first | done | with_reducible rfl)) ?_; (try simp only [Act.put, List.setIfInBounds_toArray, List.set_cons_zero, List.set_cons_succ]))
  (refine wpD_take (i := 21) (v := _) (by simp only [List.getElem?_toArray, List.getElem?_cons_succ, List.getElem?_cons_zero]; rfl) (by kernel_rfl) (by kernel_rfl) (by kernel_rfl) (by rfl) (YS.of_value (by intro w' hSw; (try dsimp only at hSw); go_simp; first | done | with_reducible rfl)) ?_; (try simp only [Act.put, List.setIfInBounds_toArray, List.set_cons_zero, List.set_cons_succ]))
  (refine wpD_take (i := 22) (v := _) (by simp only [List.getElem?_toArray, List.getElem?_cons_succ, List.getElem?_cons_zero]; rfl) (by kernel_rfl) (by kernel_rfl) (by kernel_rfl) (by rfl) (YS.of_value (by intro w' hSw; (try dsimp only at hSw); go_simp; first | done | with_reducible rfl)) ?_; (try simp only [Act.put, List.setIfInBounds_toArray, List.set_cons_zero, List.set_cons_succ]))
  (refine wpD_take (i := 23) (v := _) (by simp only [List.getElem?_toArray, List.getElem?_cons_succ, List.getElem?_cons_zero]; rfl) (by kernel_rfl) (by kernel_rfl) (by kernel_rfl) (by rfl) (YS.of_value (by intro w' hSw; (try dsimp only at hSw); go_simp; first | done | with_reducible rfl)) ?_; (try simp only [Act.put, List.setIfInBounds_toArray, List.set_cons_zero, List.set_cons_succ]))
  refine wpD_done (by kernel_rfl) ?_ _
  intro w32 hS
  have B32 := hS.2.2.2.2.2
  clear hS
  go_wp2
  go_ret
  exact ⟨rfl, B32⟩
end Go.Proofs.Ytdnmjeapihjabaa
