/- ServerRoundTrip: the walk, an interval. -/
import Derived.Test.YtjclifjipphnkaaSvS
import Derived.Test.YtjclifjipphnkaaAppX
namespace Go.Proofs.Ytjclifjipphnkaa
open Go.ChangeShapes Go.WideShapes Go.ChangeAt Go.RowKit Go.Joins
set_option linter.unusedSimpArgs false
set_option linter.unusedVariables false
set_option maxRecDepth 100000
set_option maxHeartbeats 8000000 in
theorem tripLaw_yes (a b : Int) (A1 A2 : Option Addr) (n1 c1 n2 c2 : Nat) (L1 L2 : Flds) (w : World) (ha : -9223372036854775808 ≤ a ∧ a ≤ 9223372036854775807) (hb : -9223372036854775808 ≤ b ∧ b ≤ 9223372036854775807) (h : ivB a b = true)
    (hL1 : L1.length = n1) (hX1 : Xs w w.heap.size A1 L1) (hnc1 : n1 ≤ c1) (hc1 : c1 ≤ 9223372036854775807) (hsz1 : ∀ k, k < n1 → (dtL L1 k).length ≤ 140737488351232)
    (hL2 : L2.length = n2) (hX2 : Xs w w.heap.size A2 L2) (hnc2 : n2 ≤ c2) (hc2 : c2 ≤ 9223372036854775807) (hA2 : A2 = none → n2 = 0 ∧ c2 = 0) (hsz2 : ∀ k, k < n2 → (dtL L2 k).length ≤ 140737488351232) :
    Calls Try.prog 7 #[.agg (ivL a b).toArray, .slice A1 n1 c1, .slice A2 n2 c2] w fun e w' => e = .returned (.bool true) ∧ Below w.heap.size w w' := by
  obtain ⟨m1, hm1⟩ : ∃ m, m = min n1 7 := ⟨_, rfl⟩
  obtain ⟨m2, hm2⟩ : ∃ m, m = min n2 7 := ⟨_, rfl⟩
  have m1n : m1 ≤ n1 := by omega
  have m2n : m2 ≤ n2 := by omega
  have m17 : m1 ≤ 7 := by omega
  have m27 : m2 ≤ 7 := by omega
  have d1 : decide (b < a) = false := decide_eq_false (by unfold ivB at h; simp at h; omega)
  have d2 : decide (a < -8000000000000000000) = false := decide_eq_false (by unfold ivB at h; simp at h; omega)
  have d3 : decide (8000000000000000000 < b) = false := decide_eq_false (by unfold ivB at h; simp at h; omega)
  have hFd := fun W => field_ok a b W h
  obtain ⟨r1, r2, r3⟩ := ivD_back ha hb h
  have m1c : (m1 : Int) ≤ c1 := by omega
  have m2c : (m2 : Int) ≤ c2 := by omega
  have m10 : (0 : Int) ≤ m1 := by omega
  have m20 : (0 : Int) ≤ m2 := by omega
  have hmi1 : (min (n1 : Int) 7).toNat = m1 := by omega
  have hmi2 : (min (n2 : Int) 7).toNat = m2 := by omega
  clear hm1 hm2
  clear h ha hb
  go_enter Try.func7, Try.ntmps7
  go_wp2_with (first
    | (refine wpl_box (by rfl) 46 _ (by rfl) _ (ivL a b) (by rfl) rfl ?_; intro w1 P1 s1 b1)
    | (refine wpl_load (by rfl) 46 _ (by rfl) w.heap.size (by rfl) 46 _ P1 _ Try.underlying46 rfl _ sizeIv (by rfl) ?_))
  with_reducible refine (hFd w1).mono ?_
  rintro e w2 ⟨g, rfl, D2, hg2, b2⟩
  have P2 := P1.below b2 (by omega)
  have B2 := b1.trans (b2.mono b1.size)
  have z2 := b2.size
  have X1 := (hX1.below b1 (Nat.le_refl _)).below b2 (by omega)
  have X2 := (hX2.below b1 (Nat.le_refl _)).below b2 (by omega)
  clear P1 hX1 hX2
  go_wp2_with (first
    | (refine wpl_alloc (by rfl) 50 (by rfl) (.agg (exL 0 none 0 0).toArray) (exL 0 none 0 0) zeroExt rfl ?_; intro w3 J3 s3 b3)
    | (refine wpl_store (by rfl) 50 _ _ (by rfl) w2.heap.size (by rfl) _ (by rfl) (exL 28929 (some ⟨g, 0, none⟩) 16 16) rfl 50 _ J3 (by rfl) _ sizeExt (by rfl) (by simp [Value.oneCell']) ?_; intro w4 J4 s4 g4; (have P4 := (P2.below b3 (by omega)).but g4 (by omega)))
    | (refine wpl_loadf (by rfl) 3 _ (by rfl) w.heap.size 0 (by rfl) _ _ P4 _ rfl _ Try.underlying3 rfl ?_) | (refine wpl_loadf (by rfl) 3 _ (by rfl) w.heap.size 1 (by rfl) _ _ P4 _ rfl _ Try.underlying3 rfl ?_))
  have D4 := (D2.below b3 (by have := D2.lt; omega)).but g4 (by have := D2.lt; omega)
  have X14 := (X1.below b3 (by omega)).grown g4 (by omega) (by omega)
  have X24 := (X2.below b3 (by omega)).grown g4 (by omega) (by omega)
  have B4 := (B2.trans (b3.mono (by omega))).trans (g4.below (by omega) (by omega))
  have z4 := B4.size
  have zg : g < w4.heap.size := by have := D4.lt; omega
  clear P2 B2 D2 X1 X2 J3 b1 b2 b3 g4 s1 s3 s4 hg2 d1 d2 d3
  go_loopw [9, 64] (fun lv i wr => ∃ k : Nat, k ≤ m1 ∧ i = .int .i64 k ∧ ∃ A c T, lv = .slice A T.length c ∧ flds T = keepF (L1.take k) ∧ XB wr w4.heap.size A c T ∧ Below w4.heap.size w4 wr) (fun _ i _ => m1 - (intOf i).toNat)
  case atStart => exact ⟨0, by omega, rfl, none, 0, [], rfl, rfl, XB.nil _ _, Below.refl _ _⟩
  case round =>
    obtain ⟨k, hk, rfl, A, c, T, rfl, hfl, hT, hB⟩ := hrel
    have zr := hB.size
    by_cases hlt : k < m1
    · have hkL : k < L1.length := by omega
      obtain ⟨bx, ox, rfl, hbw, hx⟩ := (X14.below hB (by omega)) (by omega)
      obtain ⟨Ak, ck, hrg, hBk, hlc, hcm, hno⟩ := (hx k hkL).open
      have hi0 : (0 : Int) ≤ k := by omega
      have hi1 : (k : Int) < m1 := by omega
      have hs1 := hsz1 k (by omega)
      have hTl : T.length ≤ 7 := by
        have h1 := flds_len T
        have h2 := keepF_len (L1.take k)
        rw [hfl] at h1
        rw [List.length_take] at h2
        omega
      have hst := keepF_step hkL
      rw [← hfl] at hst
      obtain ⟨K, hK⟩ : ∃ K, K = kdL L1 k := ⟨_, rfl⟩
      obtain ⟨dt, hdt⟩ : ∃ dt, dt = dtL L1 k := ⟨_, rfl⟩
      rw [← hK, ← hdt] at hrg hst
      rw [← hdt] at hBk hlc hno hs1
      clear hx hK hdt hfl
      by_cases he : K = 28929
      · have he' : (K != 28929) = false := by simp [he]
        rw [if_pos he] at hst
        clear he
        go_wp2_with (first
          | (refine wpl_loadr (by rfl) 50 _ (by rfl) bx (ox + k * 2) (by rfl) _ hrg _ Try.underlying50 rfl _ sizeExt (by rfl) ?_)
          | (refine wpl_alloc (by rfl) 50 (by rfl) (.agg (exL 0 none 0 0).toArray) (exL 0 none 0 0) zeroExt rfl ?_; intro wa Ja sa ba)
          | (refine wpl_store (by rfl) 50 _ _ (by rfl) wr.heap.size (by rfl) _ (by rfl) (exL K Ak dt.length ck) rfl 50 _ Ja (by rfl) _ sizeExt (by rfl) (by simp [Value.oneCell']) ?_; intro wb Jb sb gb)
          | (refine wpl_loadf (by rfl) 3 _ (by rfl) wr.heap.size 0 (by rfl) _ _ Jb _ rfl _ Try.underlying3 rfl ?_))
        have bb := ba.trans (gb.below (by omega) (Nat.le_refl _))
        exact ⟨⟨k + 1, by omega, by go_num, A, c, T, rfl, by rw [hst, List.append_nil], hT.below bb (Nat.le_refl _) zr, hB.trans (bb.mono zr)⟩, by simp [intOf]; omega⟩
      · have he' : (K != 28929) = true := by simpa using he
        rw [if_neg he] at hst
        clear he
        go_wp2_with (first
          | (refine wpl_loadr (by rfl) 50 _ (by rfl) bx (ox + k * 2) (by rfl) _ hrg _ Try.underlying50 rfl _ sizeExt (by rfl) ?_)
          | (refine wpl_alloc (by rfl) 50 (by rfl) (.agg (exL 0 none 0 0).toArray) (exL 0 none 0 0) zeroExt rfl ?_; intro wa Ja sa ba)
          | (refine wpl_store (by rfl) 50 _ _ (by rfl) wr.heap.size (by rfl) _ (by rfl) (exL K Ak dt.length ck) rfl 50 _ Ja (by rfl) _ sizeExt (by rfl) (by simp [Value.oneCell']) ?_; intro wb Jb sb gb)
          | (refine wpl_loadf (by rfl) 3 _ (by rfl) wr.heap.size 0 (by rfl) _ _ Jb _ rfl _ Try.underlying3 rfl ?_) | (refine wpl_load (by rfl) 50 _ (by rfl) wr.heap.size (by rfl) 50 _ Jb _ Try.underlying50 rfl _ sizeExt (by rfl) ?_)
          | (at_builtin; have bb := ba.trans (gb.below (by omega) (Nat.le_refl _)); have bc : Below wr.heap.size wr (wb.alloc (.cells #[.int .i64 K, .slice Ak dt.length ck] 50)) := bb.alloc bb.size _; have Tb := hT.below bc (Nat.le_refl _) zr; have Dn : Blk (wb.alloc (.cells #[.int .i64 K, .slice Ak dt.length ck] 50)) wb.heap.size 50 [.int .i64 K, .slice Ak dt.length ck] := Blk.new wb _ _ _ rfl; refine wpl_append (by rfl) _ _ 47 (by rfl) 50 (.agg #[.int .i64 0, .slice none 0 0]) 2 32 Try.underlying47 infoExt rfl (by omega) (.slice A T.length c) T.length (rowX T) w4.heap.size (by rfl) Tb.1 ⟨wb.heap.size, 0, none⟩ 1 1 (by rfl) [.int .i64 K, .slice Ak dt.length ck] rfl (cells2_of Dn) (by simp [Value.oneCell']) (by omega) (by omega) (by have := bc.size; omega) ?_; intro v3 w6 ho3 b3 hg3))
        have hU : ∀ t ∈ [(((K, dt), (Ak, ck)) : XT)], XD (wb.alloc (.cells #[.int .i64 K, .slice Ak dt.length ck] 50)) w4.heap.size t := fun t ht => by
          rw [List.mem_singleton.1 ht]
          exact ⟨(hBk.below bc (by omega)).wide (Nat.le_refl _) (by omega), hlc, hcm, hno⟩
        obtain ⟨A', c', rfl, X'⟩ := xb_push Tb hU ho3 b3
        exact ⟨⟨k + 1, by omega, by go_num, A', c', T ++ [((K, dt), (Ak, ck))], rfl, by rw [hst]; simp [flds], X', (hB.trans (bc.mono zr)).trans b3⟩, by simp [intOf]; omega⟩
    · obtain rfl : m1 = k := by omega
      obtain ⟨wo, rfl⟩ : ∃ wo : World, wo = wr := ⟨wr, rfl⟩
      have JR := J4.below hB (by have := J4.lt; omega)
      have DR := D4.below hB (by omega)
      have PR := P4.below hB P4.lt
      have X2o := (X24.below hB (by omega)).take m2
      have hl2 : (L2.take m2).length = m2 := by rw [List.length_take]; omega
      have hTl : T.length ≤ 7 := by
        have h1 := flds_len T
        have h2 := keepF_len (L1.take m1)
        rw [hfl] at h1
        rw [List.length_take] at h2
        omega
      have zg' : g < w4.heap.size := zg
      have z4o := hB.size
      have zx := J4.lt
      obtain ⟨F, hFe⟩ : ∃ F, F = keepF (L1.take m1) ++ (28929, ivD a b) :: L2.take m2 := ⟨_, rfl⟩
      have hsF : ∀ k, k < F.length → (dtL F k).length ≤ 140737488351232 := by
        rw [dt_all, hFe]
        intro t ht
        rcases List.mem_append.1 ht with ht | ht
        · exact dt_all.1 (fun k hk => hsz1 k (by omega)) t (List.mem_of_mem_take (keepF_mem ht))
        · rcases List.mem_cons.1 ht with rfl | ht
          · show (ivD a b).length ≤ _; rw [ivD_len]; omega
          · exact dt_all.1 (fun k hk => hsz2 k (by omega)) t (List.mem_of_mem_take ht)
      obtain ⟨K, hK⟩ : ∃ K, K = (keepF (L1.take m1)).length := ⟨_, rfl⟩
      obtain ⟨hkd, hdt⟩ := at_mid (keepF (L1.take m1)) (L2.take m2) (28929, ivD a b)
      have hno := keepF_noK (L1.take m1) ((28929, ivD a b) :: L2.take m2)
      have hKl : K < F.length := by rw [hFe, hK, List.length_append, List.length_cons]; omega
      rw [← hFe, ← hK] at hkd hdt
      rw [← hFe, ← hK] at hno
      simp only at hkd hdt
      have hFl : F.length = T.length + 1 + m2 := by rw [hFe, List.length_append, List.length_cons, hl2, ← hfl, flds_len]; omega
      have hIv : ∀ (A : Option Addr) (c n : Nat) (W : World), F.length = n → Xs W W.heap.size A F → n ≤ c → c ≤ 9223372036854775807 → Calls Try.prog 20 #[.slice A n c] W fun e w' => e = .returned (.tuple #[.agg (ivL a b).toArray, .int .i64 0]) ∧ Below W.heap.size W w' := fun A c n W hn hX hc hm => by
        have h := interval_some A c F n K W hn hX hc hm (fun k hk => hsF k (by omega)) (by omega) hkd hno
        rw [hdt, r1, r2, r3] at h
        exact h
      have hW : ∀ t ∈ [(((28929, ivD a b), (some (⟨g, 0, none⟩ : Addr), 16)) : XT)], XD (wo.drew.alloc (.cells #[.int .i64 28929, .slice (some ⟨g, 0, none⟩) 16 16] 50)) w4.heap.size t := fun t ht => by
        rw [List.mem_singleton.1 ht]
        exact ⟨((Blk.bs (l := ivD a b) (DR.drew.old) (ivD_byt a b))).wide (Nat.zero_le _) (by omega), by show (ivD a b).length ≤ 16; rw [ivD_len]; omega, by show (16 : Nat) ≤ 9223372036854775807; omega, fun h => by cases h⟩
      have TB := hT.drew.below ((Below.refl _ wo.drew).alloc (Nat.le_refl _) (.cells #[.int .i64 28929, .slice (some ⟨g, 0, none⟩) 16 16] 50)) (Nat.le_refl _) (by show _ ≤ wo.heap.size; omega)
      have HSF := Lib.hid hsF
      have HW := Lib.hid hW
      have HFE := Lib.hid hFe
      have HFL := Lib.hid hfl
      have HL2 := Lib.hid hl2
      clear hsF hW hfl hkd hdt hno hFe hK hl2
      have hq0 : (0 : Int) ≤ min (n2 : Int) 7 := by omega
      have hq1 : min (n2 : Int) 7 ≤ c2 := by omega
      go_wp2_with fail
      refine wp_region_heldL (fun w' => Blk w' w2.heap.size 50 (exL 28929 (some ⟨g, 0, none⟩) 16 16)) 11 (by kernel_rfl) rfl JR.drew fun hHeld => ?_
      simp only [List.replicate]
      (refine wpH_take (i := 0) (v := _) (by simp only [List.getElem?_toArray, List.getElem?_cons_succ, List.getElem?_cons_zero]; rfl) (by kernel_rfl) (by kernel_rfl) (by kernel_rfl) (by intro _ _ _ h; exact h) (Or.inl ⟨by rfl, (by intro w' hSw; (try dsimp only at hSw); go_simp; first | done | with_reducible rfl)⟩) (by assumption) ?_; (try simp only [Act.put, List.setIfInBounds_toArray, List.set_cons_zero, List.set_cons_succ]))
      refine wpH_take (i := 1) (v := .agg (exL 28929 (some ⟨g, 0, none⟩) 16 16).toArray) (by simp only [List.getElem?_toArray, List.getElem?_cons_succ, List.getElem?_cons_zero]; rfl) (by kernel_rfl) (by kernel_rfl) (by kernel_rfl) (by intro _ _ _ h; exact h) (yieldsIf_load_mid (by rfl) 50 _ (by rfl) w2.heap.size 0 (by rfl) (exL 28929 (some ⟨g, 0, none⟩) 16 16) _ (fun w' h => Blk.range h) Try.underlying50 rfl sizeExt) hHeld ?_
      (try simp only [Act.put, List.setIfInBounds_toArray, List.set_cons_zero, List.set_cons_succ])
      (refine wpH_take (i := 4) (v := _) (by simp only [List.getElem?_toArray, List.getElem?_cons_succ, List.getElem?_cons_zero]; rfl) (by kernel_rfl) (by kernel_rfl) (by kernel_rfl) (by intro _ _ _ h; exact h) (Or.inl ⟨by rfl, (by intro w' hSw; (try dsimp only at hSw); go_simp; first | done | with_reducible rfl)⟩) (by assumption) ?_; (try simp only [Act.put, List.setIfInBounds_toArray, List.set_cons_zero, List.set_cons_succ]))
      (refine wpH_take (i := 5) (v := _) (by simp only [List.getElem?_toArray, List.getElem?_cons_succ, List.getElem?_cons_zero]; rfl) (by kernel_rfl) (by kernel_rfl) (by kernel_rfl) (by intro _ _ _ h; exact h) (Or.inl ⟨by rfl, (by intro w' hSw; (try dsimp only at hSw); go_simp; first | done | with_reducible rfl)⟩) (by assumption) ?_; (try simp only [Act.put, List.setIfInBounds_toArray, List.set_cons_zero, List.set_cons_succ]))
      (refine wpH_take (i := 6) (v := _) (by simp only [List.getElem?_toArray, List.getElem?_cons_succ, List.getElem?_cons_zero]; rfl) (by kernel_rfl) (by kernel_rfl) (by kernel_rfl) (by intro _ _ _ h; exact h) (Or.inl ⟨by rfl, (by intro w' hSw; (try dsimp only at hSw); go_simp; first | done | with_reducible rfl)⟩) (by assumption) ?_; (try simp only [Act.put, List.setIfInBounds_toArray, List.set_cons_zero, List.set_cons_succ]))
      (refine wpH_take (i := 7) (v := _) (by simp only [List.getElem?_toArray, List.getElem?_cons_succ, List.getElem?_cons_zero]; rfl) (by kernel_rfl) (by kernel_rfl) (by kernel_rfl) (by intro _ _ _ h; exact h) (Or.inl ⟨by rfl, (by intro w' hSw; (try dsimp only at hSw); go_simp; first | done | with_reducible rfl)⟩) (by assumption) ?_; (try simp only [Act.put, List.setIfInBounds_toArray, List.set_cons_zero, List.set_cons_succ]))
      (refine wpH_take (i := 8) (v := _) (by simp only [List.getElem?_toArray, List.getElem?_cons_succ, List.getElem?_cons_zero]; rfl) (by kernel_rfl) (by kernel_rfl) (by kernel_rfl) (by intro _ _ _ h; exact h) (Or.inl ⟨by rfl, (by intro w' hSw; (try dsimp only at hSw); go_simp; first | done | with_reducible rfl)⟩) (by assumption) ?_; (try simp only [Act.put, List.setIfInBounds_toArray, List.set_cons_zero, List.set_cons_succ]))
      (refine wpH_one (i := 2) (by simp only [List.getElem?_toArray, List.getElem?_cons_succ, List.getElem?_cons_zero]; rfl) (by kernel_rfl) (by rfl) ?_; (go_simp; refine ⟨JR.drew.old, ?_⟩); (try simp only [Act.put, List.setIfInBounds_toArray, List.set_cons_zero, List.set_cons_succ]))
      (refine wpH_one (i := 3) (by simp only [List.getElem?_toArray, List.getElem?_cons_succ, List.getElem?_cons_zero]; rfl) (by kernel_rfl) (by rfl) ?_; (refine wp_append_xb (.tmp 76) (.tmp 78) (by rfl) T.length c 1 1 (by rfl) (by rfl) rfl rfl TB (fun ad h => by injection h with h; subst h; exact cells2_of (Blk.new wo.drew 50 #[.int .i64 28929, .slice (some ⟨g, 0, none⟩) 16 16] _ rfl)) (fun h => by cases h) HW.out (by omega) (by simp; omega) ?_; intro A5 c5 wA XA bA; refine ⟨JR.drew.old.below bA (by omega), ?_⟩); (try simp only [Act.put, List.setIfInBounds_toArray, List.set_cons_zero, List.set_cons_succ]))
      have JA := (JR.drew.old (o := .cells #[.int .i64 28929, .slice (some ⟨g, 0, none⟩) 16 16] 50)).below bA (by omega)
      have bo : Below wo.heap.size wo (wo.drew.alloc (.cells #[.int .i64 28929, .slice (some ⟨g, 0, none⟩) 16 16] 50)) := (Below.refl _ wo).drew.alloc (Nat.le_refl _) _
      have BA := (hB.trans (bo.mono z4o)).trans bA
      obtain ⟨U2, hU2, hc2', hX2'⟩ := xs_rows_any (lo := w4.heap.size) (n := m2) ((X2o.below bo (by omega)).below bA (by omega)) HL2.out (fun h => by have := (hA2 h).1; omega) (by omega)
      have hUl : U2.length = m2 := by rw [← flds_len, hU2, HL2.out]
      have hF := trip_flds (a := a) (b := b) (g := (some (⟨g, 0, none⟩ : Addr), 16)) HFL.out hU2
      rw [← HFE.out] at hF
      (refine wpH_one (i := 9) (by simp only [List.getElem?_toArray, List.getElem?_cons_succ, List.getElem?_cons_zero]; rfl) (by kernel_rfl) (by rfl) ?_; (refine wp_append_xb (.tmp 79) (.tmp 84) (by rfl) (T.length + 1) c5 m2 c2 (by rfl) (by rfl) (by simp) hUl XA hc2' (fun h => by have := (hA2 h).1; omega) hX2' (by omega) BA.size ?_; intro A6 c6 wC XC bC; refine ⟨JA.below bC (by omega), ?_⟩); (try simp only [Act.put, List.setIfInBounds_toArray, List.set_cons_zero, List.set_cons_succ]))
      have JC := JA.below bC zx
      have BC := BA.trans bC
      (refine wpH_take (i := 10) (v := _) (by simp only [List.getElem?_toArray, List.getElem?_cons_succ, List.getElem?_cons_zero]; rfl) (by kernel_rfl) (by kernel_rfl) (by kernel_rfl) (by intro _ _ _ h; exact h) (Or.inl ⟨by rfl, (by intro w' hSw; (try dsimp only at hSw); go_simp; first | done | with_reducible rfl)⟩) (by assumption) ?_; (try simp only [Act.put, List.setIfInBounds_toArray, List.set_cons_zero, List.set_cons_succ]))
      refine wpH_done (by kernel_rfl) ?_ _
      have XS := XC.xs BC.size
      rw [hF] at XS
      obtain ⟨cp1, cp2, _⟩ := XC.cap
      have cp3 : T.length + 1 + m2 ≤ c6 := by have := congrArg List.length hF; rw [flds_len] at this; omega
      have DC := ((DR.drew.old (o := .cells #[.int .i64 28929, .slice (some ⟨g, 0, none⟩) 16 16] 50)).below bA zg').below bC zg'
      have PC := ((PR.drew.old (o := .cells #[.int .i64 28929, .slice (some ⟨g, 0, none⟩) 16 16] 50)).below bA P4.lt).below bC P4.lt
      have BCw := B4.trans (BC.mono B4.size)
      obtain ⟨N, hNe⟩ : ∃ N, T.length + 1 + m2 = N := ⟨_, rfl⟩
      have hN16 : N ≤ 16 := by omega
      rw [hNe] at hFl cp3 ⊢
      have hIv1 : ∀ W : World, Blk W g 5 ((ivD a b).map (Value.int .u8)) → Calls Try.prog 20 #[.slice (some ⟨W.heap.size, 0, none⟩) 1 1] (W.alloc (.cells #[.int .i64 28929, .slice (some ⟨g, 0, none⟩) 16 16] 50)) fun e w' => e = .returned (.tuple #[.agg (ivL a b).toArray, .int .i64 0]) ∧ Below (W.alloc (.cells #[.int .i64 28929, .slice (some ⟨g, 0, none⟩) 16 16] 50)).heap.size (W.alloc (.cells #[.int .i64 28929, .slice (some ⟨g, 0, none⟩) 16 16] 50)) w' := fun W hD => by
        have hn := Blk.new W 50 #[.int .i64 28929, .slice (some ⟨g, 0, none⟩) 16 16] _ rfl
        have hlt := hD.lt
        have h := interval_some (some ⟨W.heap.size, 0, none⟩) 1 [(28929, ivD a b)] 1 0 (W.alloc (.cells #[.int .i64 28929, .slice (some ⟨g, 0, none⟩) 16 16] 50)) rfl (fun _ => ⟨W.heap.size, 0, rfl, by simp, fun k hk => by
          obtain rfl : k = 0 := by simpa using hk
          refine ⟨some ⟨g, 0, none⟩, 16, hn.cell rfl, ?_, ((Blk.bs (l := ivD a b) hD.old (ivD_byt a b))).wide (Nat.zero_le _) (by simp; omega), ?_, by omega, fun h => by cases h⟩
          · show _ = some (Value.slice _ (ivD a b).length 16)
            rw [ivD_len]
            exact hn.cell rfl
          · show (ivD a b).length ≤ 16
            rw [ivD_len]
            omega⟩) (by omega) (by omega) (fun k hk => by obtain rfl : k = 0 := by omega
                                                          show (ivD a b).length ≤ _; rw [ivD_len]; omega) (by omega) rfl (fun j hj => by omega)
        rw [show dtL [(28929, ivD a b)] 0 = ivD a b from rfl, r1, r2, r3] at h
        exact h
      have HIV := Lib.hid hIv
      clear hF XC JA BA XA bA bC bo TB hX2' hc2' hU2 X2o X14 X24 hT hB DR PR JR B4 D4 P4 J4 hHeld HW cp1 BC
      go_wp2_with fail
      have hE := hIv A6 c6 N wC hFl XS cp3 cp2
      with_reducible refine hE.mono ?_
      rintro e w5 ⟨rfl, b5⟩
      have P5 := PC.below b5 PC.lt
      have J5 := JC.below b5 JC.lt
      have D5 := DC.below b5 DC.lt
      have X5 := (XS.below b5 (Nat.le_refl _)).wide b5.size
      have B5 := BCw.trans (b5.mono BCw.size)
      have z5 := b5.size
      have lp := PC.lt
      have lj := JC.lt
      have ld := DC.lt
      clear hE PC JC DC XS BCw b5
      go_wp2_with (first
        | (refine wpl_alloc (by rfl) 46 (by rfl) (.agg (ivL 0 0).toArray) (ivL 0 0) zeroIv rfl ?_; intro w6 I6 s6 b6)
        | ((refine wpl_store (by rfl) 46 _ _ (by rfl) w5.heap.size (by rfl) _ (by rfl) _ rfl 46 _ I6 (by rfl) _ sizeIv (by rfl) (by simp [Value.oneCell']) ?_; intro w7 I7 s7 g7); (have P7 := (P5.below b6 (by omega)).but g7 (by omega)))
        | (refine wpl_load (by rfl) 46 _ (by rfl) w5.heap.size (by rfl) 46 _ I7 _ Try.underlying46 rfl _ sizeIv (by rfl) ?_) | (refine wpl_load (by rfl) 46 _ (by rfl) w.heap.size (by rfl) 46 _ P7 _ Try.underlying46 rfl _ sizeIv (by rfl) ?_))
      have J7 := (J5.below b6 (by omega)).but g7 (by omega)
      have D7 := (D5.below b6 (by omega)).but g7 (by omega)
      have X7 := ((X5.below b6 (Nat.le_refl _)).grown g7 (by omega) (Nat.le_refl _)).wide (hi' := w7.heap.size) (by omega)
      have B7 := (B5.trans (b6.mono B5.size)).trans (g7.below (by have := B5.size; omega) B5.size)
      have z7 := B7.size
      clear P5 J5 D5 X5 B5 b6 g7 I6 I7
      by_cases hv : apxE F = 0
      · have hall := xs_allV X7 hv
        have hpr := prs_flds0 hall (by omega)
        have hsum := sum_le (apx_parts hv).2 (by omega) F.length
        rw [List.take_length] at hsum
        have hE := xappend_ok none 0 0 0 0 [] A6 N c6 F w7 rfl Bs.nil (Nat.zero_le _) (fun _ => ⟨rfl, rfl⟩) (by omega) hFl X7 cp3 cp2 hv
        clear hall hv
        have HP := Lib.hid hpr
        clear hpr
        with_reducible refine hE.mono ?_
        rintro e w8 ⟨A8, c8, N8, rfl, h8, O8, b8⟩
        rw [List.nil_append] at h8 O8
        have P8 := P7.below b8 P7.lt
        have J8 := J7.below b8 J7.lt
        have D8 := D7.below b8 D7.lt
        have B8 := B7.trans (b8.mono B7.size)
        have hc8 := O8.cap_le
        rw [h8] at hc8
        have hE' := parse_any A8 N8 c8 (fldsB F) w8 h8 (O8.bs.wide (Nat.zero_le _) (Nat.le_refl _)) hc8 O8.cap_max (by omega)
        rw [HP.out] at hE'
        clear hE P7 J7 D7 X7 B7 b8 cp3 cp2 hFl HSF HFE hsum
        go_wp2_with fail
        with_reducible refine hE'.mono ?_
        rintro e w9 ⟨A9, c9, A10, c10, N9, N10, wm, rfl, h9, h10, X9, b9, b9', O10⟩
        simp only at h9 h10 X9
        have Xq := (X9.below b9' (Nat.le_refl _)).xs
        obtain ⟨cq1, cq2, _⟩ := X9.cap
        have b9w := b9.trans (b9'.mono b9.size)
        have P9 := P8.below b9w P8.lt
        have J9 := J8.below b9w J8.lt
        have D9 := D8.below b9w D8.lt
        have B9 := B8.trans (b9w.mono B8.size)
        clear hE' P8 J8 D8 B8 O8 X9 b9 b9' b9w O10 HP hc8
        go_wp2_with fail
        have hE := HIV.out A9 c9 N9 w9 h9 Xq (by omega) cq2
        with_reducible refine hE.mono ?_
        rintro e w10 ⟨rfl, b10⟩
        have P10 := P9.below b10 P9.lt
        have J10 := J9.below b10 J9.lt
        have D10 := D9.below b10 D9.lt
        have B10 := B9.trans (b10.mono B9.size)
        have lp' := P10.lt
        have lj' := J10.lt
        have ld' := D10.lt
        have lp9 := P9.lt
        have lj9 := J9.lt
        have ld9 := D9.lt
        have z10 := b10.size
        clear hE P9 J9 D9 B9 b10 Xq
        go_wp2_with (first
          | (refine wpl_alloc (by rfl) 46 (by rfl) (.agg (ivL 0 0).toArray) (ivL 0 0) zeroIv rfl ?_; intro w11 I11 s11 b11)
          | ((refine wpl_store (by rfl) 46 _ _ (by rfl) w10.heap.size (by rfl) _ (by rfl) _ rfl 46 _ I11 (by rfl) _ sizeIv (by rfl) (by simp [Value.oneCell']) ?_; intro wz Iz sz gz); (have Pz := (P10.below b11 (by omega)).but gz (by omega)))
          | (refine wpl_load (by rfl) 46 _ (by rfl) w10.heap.size (by rfl) 46 _ Iz _ Try.underlying46 rfl _ sizeIv (by rfl) ?_) | (refine wpl_load (by rfl) 46 _ (by rfl) w.heap.size (by rfl) 46 _ Pz _ Try.underlying46 rfl _ sizeIv (by rfl) ?_))
        have Jz := (J10.below b11 (by omega)).but gz (by omega)
        have Dz := (D10.below b11 (by omega)).but gz (by omega)
        have Bz := (B10.trans (b11.mono B10.size)).trans (gz.below (by have := B10.size; omega) B10.size)
        clear P10 J10 D10 B10 b11 gz I11 Iz h10 h9 cq1 cq2 HIV
        go_wp2_with (first | (refine wpl_load (by rfl) 46 _ (by rfl) w.heap.size (by rfl) 46 _ Pz _ Try.underlying46 rfl _ sizeIv (by rfl) ?_))
        with_reducible refine (hFd wz).mono ?_
        rintro e x1 ⟨g2, rfl, E1, hg2, q1⟩
        have P1 := Pz.below q1 Pz.lt
        have J1 := Jz.below q1 Jz.lt
        have D1 := Dz.below q1 Dz.lt
        have u1 := q1.size
        have pz := Pz.lt
        have jz := Jz.lt
        have dz := Dz.lt
        have ez := E1.lt
        have Bx := Bz.trans (q1.mono Bz.size)
        clear Pz Jz Dz
        go_wp2_with (first
          | (refine wpl_alloc (by rfl) 50 (by rfl) (.agg (exL 0 none 0 0).toArray) (exL 0 none 0 0) zeroExt rfl ?_; intro x2 K2 t2 q2)
          | (refine wpl_store (by rfl) 50 _ _ (by rfl) x1.heap.size (by rfl) _ (by rfl) (exL 28929 (some ⟨g2, 0, none⟩) 16 16) rfl 50 _ K2 (by rfl) _ sizeExt (by rfl) (by simp [Value.oneCell']) ?_; intro x3 K3 t3 r3)
          | (refine wpl_loadf (by rfl) 48 _ (by rfl) x1.heap.size 1 (by rfl) _ _ K3 _ rfl _ Try.underlying48 rfl ?_))
        have P3 := (P1.below q2 (by omega)).but r3 (by omega)
        have J3 := (J1.below q2 (by omega)).but r3 (by omega)
        have D3 := (D1.below q2 (by omega)).but r3 (by omega)
        have E3 := (E1.below q2 (by omega)).but r3 (by omega)
        have B3 := (Bx.trans (q2.mono Bx.size)).trans (r3.below (by have := Bx.size; omega) Bx.size)
        have zx3 := B3.size
        clear P1 J1 D1 E1 Bx K2 q2 r3
        go_loopw [135] (fun i wr => ∃ k : Nat, k ≤ 16 ∧ i = .int .i64 k ∧ ∃ cs : List Int, cs.length = 16 ∧ Blk wr g2 5 (cs.map (Value.int .u8)) ∧ But g2 x3 wr) (fun i _ => 16 - (intOf i).toNat)
        case atStart => exact ⟨0, by omega, rfl, ivD a b, ivD_len a b, E3, But.refl _ _⟩
        case round =>
          obtain ⟨k, hk, rfl, cs, hcs, Kb, gb⟩ := hrel
          obtain ⟨wo2, rfl⟩ : ∃ wo2 : World, wo2 = wr := ⟨wr, rfl⟩
          have K4 := K3.but gb (by omega)
          by_cases hlt : k < 16
          · have hv : (cs.map (Value.int .u8))[k]? = some (.int .u8 (atB cs k)) := by rw [List.getElem?_map, List.getElem?_eq_getElem (by omega)]; simp [atB, List.getD_eq_getElem?_getD, List.getElem?_eq_getElem (show k < cs.length by omega)]
            have hk0 : (0 : Int) ≤ k := by omega
            have hk1 : (k : Int) < 16 := by omega
            obtain ⟨cv, hcv⟩ : ∃ cv, atB cs k = cv := ⟨_, rfl⟩
            rw [hcv] at hv
            clear hcv
            go_wp2_with (first
              | (refine wpl_loadf (by rfl) 48 _ (by rfl) x1.heap.size 1 (by rfl) _ _ K4 _ rfl _ Try.underlying48 rfl ?_)
              | (refine wpl_loadf (by rfl) 5 _ (by rfl) g2 k (by rfl) _ _ Kb _ hv _ Try.underlying5 rfl ?_)
              | (refine wpl_storeg (by rfl) 5 _ _ (by rfl) g2 k (by rfl) (.int .u8 (IntKind.u8.wrap (cv + 1))) (by rfl) (by rfl) (by simp [Value.oneCell']) _ _ ((cs.set k (IntKind.u8.wrap (cv + 1))).map (Value.int .u8)) Kb (by rw [List.length_map]; omega) sizeU8' (by rw [List.map_set]) ?_; intro wn Kn sn gn))
            exact ⟨⟨k + 1, by omega, by go_num, cs.set k (IntKind.u8.wrap (cv + 1)), by rw [List.length_set]; exact hcs, Kn, gb.trans gn⟩, by simp [intOf]; omega⟩
          · obtain rfl : 16 = k := by omega
            have J4 := J3.but gb (by omega)
            have D4 := D3.but gb (by omega)
            have P4 := P3.but gb (by omega)
            have B4 := B3.trans (gb.below B3.size (by omega))
            have z4 := B4.size
            clear K3 K4 Kb E3 J3 D3 P3
            go_wp2_with (first | (refine wpl_load (by rfl) 50 _ (by rfl) w2.heap.size (by rfl) 50 _ J4 _ Try.underlying50 rfl _ sizeExt (by rfl) ?_))
            have hy := hIv1 wo2 D4
            with_reducible refine hy.mono ?_
            rintro e x5 ⟨rfl, b5⟩
            have by5 : Below wo2.heap.size wo2 x5 := ((Below.refl _ wo2).alloc (Nat.le_refl _) _).trans (b5.mono (by simp))
            have P5 := P4.below by5 P4.lt
            have B5 := B4.trans (by5.mono B4.size)
            have z5 := by5.size
            have l5 := P4.lt
            clear hy b5 by5 J4 D4 P4 B4
            go_wp2_with (first
              | (refine wpl_alloc (by rfl) 46 (by rfl) (.agg (ivL 0 0).toArray) (ivL 0 0) zeroIv rfl ?_; intro x6 I6 t6 q6)
              | ((refine wpl_store (by rfl) 46 _ _ (by rfl) x5.heap.size (by rfl) _ (by rfl) _ rfl 46 _ I6 (by rfl) _ sizeIv (by rfl) (by simp [Value.oneCell']) ?_; intro x7 I7 t7 r7); (have P7 := (P5.below q6 (by omega)).but r7 (by omega)))
              | (refine wpl_load (by rfl) 46 _ (by rfl) x5.heap.size (by rfl) 46 _ I7 _ Try.underlying46 rfl _ sizeIv (by rfl) ?_) | (refine wpl_load (by rfl) 46 _ (by rfl) w.heap.size (by rfl) 46 _ P7 _ Try.underlying46 rfl _ sizeIv (by rfl) ?_))
            have B7 := (B5.trans (q6.mono B5.size)).trans (r7.below (by have := B5.size; omega) B5.size)
            with_reducible refine (awake_any _).mono ?_
            rintro e wa ⟨rfl, ba⟩
            have Ba := (B7).trans (ba.mono (B7).size)
            go_wp2
            go_ret
            exact ⟨rfl, Ba⟩
      · obtain ⟨E, hEe⟩ : ∃ E, E = apxE F := ⟨_, rfl⟩
        have hE := xappend_err none 0 0 A6 N c6 F w7 hFl X7 cp3 cp2 hv
        rw [← hEe] at hE hv
        have he0 : (E == 0) = false := by simpa using hv
        clear hv hEe
        with_reducible refine hE.mono ?_
        rintro e wz ⟨rfl, b8⟩
        have Pz := P7.below b8 P7.lt
        have Jz := J7.below b8 J7.lt
        have Dz := D7.below b8 D7.lt
        have Bz := B7.trans (b8.mono B7.size)
        clear hE P7 J7 D7 X7 B7 b8 cp3 cp2 hFl HIV HSF HFE hN16
        go_wp2_with (first | (refine wpl_load (by rfl) 46 _ (by rfl) w.heap.size (by rfl) 46 _ Pz _ Try.underlying46 rfl _ sizeIv (by rfl) ?_))
        with_reducible refine (hFd wz).mono ?_
        rintro e x1 ⟨g2, rfl, E1, hg2, q1⟩
        have P1 := Pz.below q1 Pz.lt
        have J1 := Jz.below q1 Jz.lt
        have D1 := Dz.below q1 Dz.lt
        have u1 := q1.size
        have pz := Pz.lt
        have jz := Jz.lt
        have dz := Dz.lt
        have ez := E1.lt
        have Bx := Bz.trans (q1.mono Bz.size)
        clear Pz Jz Dz
        go_wp2_with (first
          | (refine wpl_alloc (by rfl) 50 (by rfl) (.agg (exL 0 none 0 0).toArray) (exL 0 none 0 0) zeroExt rfl ?_; intro x2 K2 t2 q2)
          | (refine wpl_store (by rfl) 50 _ _ (by rfl) x1.heap.size (by rfl) _ (by rfl) (exL 28929 (some ⟨g2, 0, none⟩) 16 16) rfl 50 _ K2 (by rfl) _ sizeExt (by rfl) (by simp [Value.oneCell']) ?_; intro x3 K3 t3 r3)
          | (refine wpl_loadf (by rfl) 48 _ (by rfl) x1.heap.size 1 (by rfl) _ _ K3 _ rfl _ Try.underlying48 rfl ?_))
        have P3 := (P1.below q2 (by omega)).but r3 (by omega)
        have J3 := (J1.below q2 (by omega)).but r3 (by omega)
        have D3 := (D1.below q2 (by omega)).but r3 (by omega)
        have E3 := (E1.below q2 (by omega)).but r3 (by omega)
        have B3 := (Bx.trans (q2.mono Bx.size)).trans (r3.below (by have := Bx.size; omega) Bx.size)
        have zx3 := B3.size
        clear P1 J1 D1 E1 Bx K2 q2 r3
        go_loopw [135] (fun i wr => ∃ k : Nat, k ≤ 16 ∧ i = .int .i64 k ∧ ∃ cs : List Int, cs.length = 16 ∧ Blk wr g2 5 (cs.map (Value.int .u8)) ∧ But g2 x3 wr) (fun i _ => 16 - (intOf i).toNat)
        case atStart => exact ⟨0, by omega, rfl, ivD a b, ivD_len a b, E3, But.refl _ _⟩
        case round =>
          obtain ⟨k, hk, rfl, cs, hcs, Kb, gb⟩ := hrel
          obtain ⟨wo2, rfl⟩ : ∃ wo2 : World, wo2 = wr := ⟨wr, rfl⟩
          have K4 := K3.but gb (by omega)
          by_cases hlt : k < 16
          · have hv : (cs.map (Value.int .u8))[k]? = some (.int .u8 (atB cs k)) := by rw [List.getElem?_map, List.getElem?_eq_getElem (by omega)]; simp [atB, List.getD_eq_getElem?_getD, List.getElem?_eq_getElem (show k < cs.length by omega)]
            have hk0 : (0 : Int) ≤ k := by omega
            have hk1 : (k : Int) < 16 := by omega
            obtain ⟨cv, hcv⟩ : ∃ cv, atB cs k = cv := ⟨_, rfl⟩
            rw [hcv] at hv
            clear hcv
            go_wp2_with (first
              | (refine wpl_loadf (by rfl) 48 _ (by rfl) x1.heap.size 1 (by rfl) _ _ K4 _ rfl _ Try.underlying48 rfl ?_)
              | (refine wpl_loadf (by rfl) 5 _ (by rfl) g2 k (by rfl) _ _ Kb _ hv _ Try.underlying5 rfl ?_)
              | (refine wpl_storeg (by rfl) 5 _ _ (by rfl) g2 k (by rfl) (.int .u8 (IntKind.u8.wrap (cv + 1))) (by rfl) (by rfl) (by simp [Value.oneCell']) _ _ ((cs.set k (IntKind.u8.wrap (cv + 1))).map (Value.int .u8)) Kb (by rw [List.length_map]; omega) sizeU8' (by rw [List.map_set]) ?_; intro wn Kn sn gn))
            exact ⟨⟨k + 1, by omega, by go_num, cs.set k (IntKind.u8.wrap (cv + 1)), by rw [List.length_set]; exact hcs, Kn, gb.trans gn⟩, by simp [intOf]; omega⟩
          · obtain rfl : 16 = k := by omega
            have J4 := J3.but gb (by omega)
            have D4 := D3.but gb (by omega)
            have P4 := P3.but gb (by omega)
            have B4 := B3.trans (gb.below B3.size (by omega))
            have z4 := B4.size
            clear K3 K4 Kb E3 J3 D3 P3
            go_wp2_with (first | (refine wpl_load (by rfl) 50 _ (by rfl) w2.heap.size (by rfl) 50 _ J4 _ Try.underlying50 rfl _ sizeExt (by rfl) ?_))
            have hy := hIv1 wo2 D4
            with_reducible refine hy.mono ?_
            rintro e x5 ⟨rfl, b5⟩
            have by5 : Below wo2.heap.size wo2 x5 := ((Below.refl _ wo2).alloc (Nat.le_refl _) _).trans (b5.mono (by simp))
            have P5 := P4.below by5 P4.lt
            have B5 := B4.trans (by5.mono B4.size)
            have z5 := by5.size
            have l5 := P4.lt
            clear hy b5 by5 J4 D4 P4 B4
            go_wp2_with (first
              | (refine wpl_alloc (by rfl) 46 (by rfl) (.agg (ivL 0 0).toArray) (ivL 0 0) zeroIv rfl ?_; intro x6 I6 t6 q6)
              | ((refine wpl_store (by rfl) 46 _ _ (by rfl) x5.heap.size (by rfl) _ (by rfl) _ rfl 46 _ I6 (by rfl) _ sizeIv (by rfl) (by simp [Value.oneCell']) ?_; intro x7 I7 t7 r7); (have P7 := (P5.below q6 (by omega)).but r7 (by omega)))
              | (refine wpl_load (by rfl) 46 _ (by rfl) x5.heap.size (by rfl) 46 _ I7 _ Try.underlying46 rfl _ sizeIv (by rfl) ?_) | (refine wpl_load (by rfl) 46 _ (by rfl) w.heap.size (by rfl) 46 _ P7 _ Try.underlying46 rfl _ sizeIv (by rfl) ?_))
            have B7 := (B5.trans (q6.mono B5.size)).trans (r7.below (by have := B5.size; omega) B5.size)
            with_reducible refine (awake_any _).mono ?_
            rintro e wa ⟨rfl, ba⟩
            have Ba := (B7).trans (ba.mono (B7).size)
            go_wp2
            go_ret
            exact ⟨rfl, Ba⟩
end Go.Proofs.Ytjclifjipphnkaa
