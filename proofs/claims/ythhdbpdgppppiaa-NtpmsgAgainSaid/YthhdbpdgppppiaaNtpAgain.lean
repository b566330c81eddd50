/- NtpmsgAgain (P19.2, P19.3, P19.6): for every input the law returns true, and its arguments read afterwards as before. No condition. -/
import Derived.Test.YthhdbpdgppppiaaNtp8
import Derived.Test.YthhdbpdgppppiaaNtpP
import Derived.Test.YthhdbpdgppppiaaFields
import Derived.Test.YthhdbpdgppppiaaOpen
namespace Go.Proofs.Ythhdbpdgppppiaa
open Go.ChangeShapes Go.WideShapes Go.ChangeAt Go.RowKit Go.Joins
set_option linter.unusedSimpArgs false
set_option linter.unusedVariables false
set_option maxRecDepth 100000 in
set_option maxHeartbeats 4000000 in
theorem again_long (A : Option Addr) (n c : Nat) (w : World) (hl : 2000 < n) :
    Calls Try.prog 6 #[.slice A n c] w fun e w' => e = .returned (.bool true) ∧ Below w.heap.size w w' := by
  have hl' : (2000 : Int) < n := by omega
  have b1 := Below.refl w.heap.size w
  go_enter Try.func6, Try.ntmps6
  go_wp2_with fail
  with_reducible refine (awake_any _).mono ?_
  rintro e wa ⟨rfl, ba⟩
  have Ba := (b1).trans (ba.mono (b1).size)
  go_wp2
  go_ret
  exact ⟨rfl, Ba⟩
set_option maxRecDepth 100000 in
set_option maxHeartbeats 4000000 in
theorem again_short (A : Option Addr) (n c : Nat) (w : World) (hl : n < 48) :
    Calls Try.prog 6 #[.slice A n c] w fun e w' => e = .returned (.bool true) ∧ Below w.heap.size w w' := by
  have hl' : (n : Int) ≤ 2000 := by omega
  have hl2 : (n : Int) < 48 := by omega
  have hE := decode_short A n c w hl
  go_enter Try.func6, Try.ntmps6
  go_wp2_with fail
  with_reducible refine hE.mono ?_
  rintro e w1 ⟨rfl, b1⟩
  clear hE
  have z1 := b1.size
  go_wp2_with (first | (refine wpl_alloc (by rfl) 25 (by rfl) (.agg (zN).toArray) zN zeroNtp rfl ?_; intro w2 J2 s2 b2) | (refine wpl_store (by rfl) 25 _ _ (by rfl) w1.heap.size (by rfl) _ (by rfl) _ rfl 25 _ J2 (by rfl) _ sizeNtp (by rfl) (by simp [Value.oneCell']) ?_; intro w3 J3 s3 g3) | (refine wpl_load (by rfl) 25 _ (by rfl) w1.heap.size (by rfl) 25 _ J3 _ Try.underlying25 rfl _ sizeNtp (by rfl) ?_))
  have B3 := (b1.trans (b2.mono z1)).trans (g3.below (by omega) (by omega))
  clear J2 J3 b1 b2 g3
  with_reducible refine (awake_any _).mono ?_
  rintro e wa ⟨rfl, ba⟩
  have Ba := (B3).trans (ba.mono (B3).size)
  go_wp2
  go_ret
  exact ⟨rfl, Ba⟩
set_option maxRecDepth 100000 in
set_option maxHeartbeats 4000000 in
theorem again_kind (A : Option Addr) (n c : Nat) (l : List Int) (w : World) (hn : l.length = n) (h : Bs w 0 w.heap.size A l) (hl0 : n ≤ 2000) (hl : 48 ≤ n) (hv : ¬(1 ≤ fB l 0 1 / 8 % 8 ∧ fB l 0 1 / 8 % 8 ≤ 4)) :
    Calls Try.prog 6 #[.slice A n c] w fun e w' => e = .returned (.bool true) ∧ Below w.heap.size w w' := by
  have hl' : (n : Int) ≤ 2000 := by omega
  have hl2 : decide ((n : Int) < 48) = false := decide_eq_false (by omega)
  have hE := decode_kind A n c l w hn h hl (by omega) (fB l 0 1) rfl hv
  clear hv
  go_enter Try.func6, Try.ntmps6
  go_wp2_with fail
  with_reducible refine hE.mono ?_
  rintro e w1 ⟨rfl, b1⟩
  clear hE
  have z1 := b1.size
  go_wp2_with (first | (refine wpl_alloc (by rfl) 25 (by rfl) (.agg (zN).toArray) zN zeroNtp rfl ?_; intro w2 J2 s2 b2) | (refine wpl_store (by rfl) 25 _ _ (by rfl) w1.heap.size (by rfl) _ (by rfl) _ rfl 25 _ J2 (by rfl) _ sizeNtp (by rfl) (by simp [Value.oneCell']) ?_; intro w3 J3 s3 g3) | (refine wpl_load (by rfl) 25 _ (by rfl) w1.heap.size (by rfl) 25 _ J3 _ Try.underlying25 rfl _ sizeNtp (by rfl) ?_))
  have B3 := (b1.trans (b2.mono z1)).trans (g3.below (by omega) (by omega))
  clear J2 J3 b1 b2 g3
  with_reducible refine (awake_any _).mono ?_
  rintro e wa ⟨rfl, ba⟩
  have Ba := (B3).trans (ba.mono (B3).size)
  go_wp2
  go_ret
  exact ⟨rfl, Ba⟩
set_option maxRecDepth 100000 in
set_option maxHeartbeats 4000000 in
theorem again_ok (A : Option Addr) (n c : Nat) (l : List Int) (w : World) (hn : l.length = n) (h : Bs w 0 w.heap.size A l) (hl0 : n ≤ 2000) (hl : 48 ≤ n) (hnc : n ≤ c) (hc : c ≤ 140737488351232) (hv : 1 ≤ fB l 0 1 / 8 % 8 ∧ fB l 0 1 / 8 % 8 ≤ 4) :
    Calls Try.prog 6 #[.slice A n c] w fun e w' => e = .returned (.bool true) ∧ Below w.heap.size w w' := by
  have hl' : (n : Int) ≤ 2000 := by omega
  have hl2 : (48 : Int) ≤ n := by omega
  have hl3 : (n : Int) ≤ c := by omega
  have hE := decode_ok A n c l w hn h hl (by omega) (fB l 0 1) rfl hv
  have hA := encH_again l (fB l 0 1) h.byt (by omega) rfl
  have hV := dec_valid (fB l 0 1) h.byt (by omega) rfl hv
  have r0 := fB_rng h.byt 0 1
  have r1 := fB_rng h.byt 1 1
  have r6 := fB_rng h.byt 4 4
  have r7 := fB_rng h.byt 8 4
  have r8 := fB_rng h.byt 12 4
  have r9 := fB_rng h.byt 16 8
  have r10 := fB_rng h.byt 24 8
  have r11 := fB_rng h.byt 32 8
  have r12 := fB_rng h.byt 40 8
  have hEn := fun W => encode_ok (fB l 0 1 / 64) (fB l 0 1 / 8 % 8) (fB l 0 1 % 8) (fB l 1 1) (iB l 2 1) (iB l 3 1) (fB l 4 4) (fB l 8 4) (fB l 12 4) (fB l 16 8) (fB l 24 8) (fB l 32 8) (fB l 40 8) W hV (by omega) (by omega) (by omega) (by omega) (by omega) (by omega) (by omega)
  have hCk := fun W => nchk_any (fB l 0 1 / 64) (fB l 0 1 / 8 % 8) (fB l 0 1 % 8) (fB l 1 1) (iB l 2 1) (iB l 3 1) (fB l 4 4) (fB l 8 4) (fB l 12 4) (fB l 16 8) (fB l 24 8) (fB l 32 8) (fB l 40 8) W
  rw [hV] at hCk
  rw [hA] at hEn
  clear hA hV hv r0 r1 r6 r7 r8 r9 r10 r11 r12
  generalize fB l 0 1 / 64 = x0 at *
  generalize fB l 0 1 / 8 % 8 = x1 at *
  generalize fB l 0 1 % 8 = x2 at *
  generalize fB l 1 1 = x3 at *
  generalize iB l 2 1 = x4 at *
  generalize iB l 3 1 = x5 at *
  generalize fB l 4 4 = x6 at *
  generalize fB l 8 4 = x7 at *
  generalize fB l 12 4 = x8 at *
  generalize fB l 16 8 = x9 at *
  generalize fB l 24 8 = x10 at *
  generalize fB l 32 8 = x11 at *
  generalize fB l 40 8 = x12 at *
  go_enter Try.func6, Try.ntmps6
  go_wp2_with fail
  with_reducible refine hE.mono ?_
  rintro e w1 ⟨A1, c1, rfl, hO1, b1⟩
  have h1 := h.below b1 (Nat.le_refl _)
  have z1 := b1.size
  clear hE
  go_wp2_with (first | (refine wpl_alloc (by rfl) 25 (by rfl) (.agg (zN).toArray) zN zeroNtp rfl ?_; intro w2 J2 s2 b2) | (refine wpl_store (by rfl) 25 _ _ (by rfl) w1.heap.size (by rfl) _ (by rfl) _ rfl 25 _ J2 (by rfl) _ sizeNtp (by rfl) (by simp [Value.oneCell']) ?_; intro w3 J3 s3 g3) | (refine wpl_load (by rfl) 25 _ (by rfl) w1.heap.size (by rfl) 25 _ J3 _ Try.underlying25 rfl _ sizeNtp (by rfl) ?_))
  have B3 := (b1.trans (b2.mono z1)).trans (g3.below (by omega) (by omega))
  have h3 := (h1.below b2 (by omega)).grown g3 (by omega) (by simp <;> omega)
  have hO3 := (hO1.bs.below b2 (by omega)).grown g3 (by omega) (by simp <;> omega)
  have lJ := J3.lt
  clear J2 b1 b2 g3 h1 hO1
  have hE := hEn w3
  with_reducible refine hE.mono ?_
  rintro e w4 ⟨A4, c4, rfl, hB4, hc48, hcm, b4⟩
  have J4 := J3.below b4 J3.lt
  have h4 := h3.below b4 (by omega)
  have hO4 := hO3.below b4 (by omega)
  have B4 := B3.trans (b4.mono B3.size)
  have z4 := b4.size
  clear hE hEn J3 b4 h3 hO3 B3
  have hE := same_any A4 A 48 48 c4 c _ _ _ _ (l.take 48) (l.take 48) w4 (by rw [List.length_take]; omega) (by rw [List.length_take]; omega) hB4 (h4.take 48) (Nat.le_refl _) (by omega) (by omega) (by omega)
  rw [smB_self] at hE
  go_wp2_with fail
  with_reducible refine hE.mono ?_
  rintro e w5 ⟨rfl, b5⟩
  have J5 := J4.below b5 J4.lt
  have h5 := h4.below b5 (by omega)
  have hO5 := hO4.below b5 (by omega)
  have B5 := B4.trans (b5.mono B4.size)
  have z5 := b5.size
  clear hE J4 b5 h4 hO4 B4 hB4
  have hlen : (l.drop 48).length = n - 48 := by rw [List.length_drop, hn]
  go_wp2_with fail
  · rename_i hcc
    have hn48 : n = 48 := by omega
    have hE := same_any A1 A (n - 48) (n - 48) c1 0 _ _ _ _ (l.drop 48) (l.drop 48) w5 hlen hlen hO5 (show Bs w5 0 w.heap.size A (l.drop 48) by rw [List.drop_eq_nil_of_le (by omega)]; exact Bs.nil) (by omega) (by omega) (by omega) (by omega)
    rw [smB_self] at hE
    with_reducible refine hE.mono ?_
    rintro e w6 ⟨rfl, b6⟩
    have J6 := J5.below b6 J5.lt
    have B6 := B5.trans (b6.mono B5.size)
    clear hE J5 b6 h5 hO5 B5
    go_wp2_with (first | (refine wpl_load (by rfl) 25 _ (by rfl) w1.heap.size (by rfl) 25 _ J6 _ Try.underlying25 rfl _ sizeNtp (by rfl) ?_))
    with_reducible refine (hCk _).mono ?_
    rintro e w7 ⟨rfl, b7⟩
    have B7 := B6.trans (b7.mono B6.size)
    clear hCk J6 b7 B6
    go_wp2_with fail
    with_reducible refine (awake_any _).mono ?_
    rintro e wa ⟨rfl, ba⟩
    have Ba := (B7).trans (ba.mono (B7).size)
    go_wp2
    go_ret
    exact ⟨rfl, Ba⟩
  · have hE := same_any A1 _ (n - 48) (n - 48) c1 (c - 48) _ _ _ _ (l.drop 48) (l.drop 48) w5 hlen hlen hO5 (h5.dropm 48) (by omega) (by omega) (by omega) (by omega)
    rw [smB_self] at hE
    have hadd : ∀ x : Addr, x.add 48 = ⟨x.block, x.off + 48, none⟩ := fun x => rfl
    simp only [hadd] at hE
    with_reducible refine hE.mono ?_
    rintro e w6 ⟨rfl, b6⟩
    have J6 := J5.below b6 J5.lt
    have B6 := B5.trans (b6.mono B5.size)
    clear hE J5 b6 h5 hO5 B5
    go_wp2_with (first | (refine wpl_load (by rfl) 25 _ (by rfl) w1.heap.size (by rfl) 25 _ J6 _ Try.underlying25 rfl _ sizeNtp (by rfl) ?_))
    with_reducible refine (hCk _).mono ?_
    rintro e w7 ⟨rfl, b7⟩
    have B7 := B6.trans (b7.mono B6.size)
    clear hCk J6 b7 B6
    go_wp2_with fail
    with_reducible refine (awake_any _).mono ?_
    rintro e wa ⟨rfl, ba⟩
    have Ba := (B7).trans (ba.mono (B7).size)
    go_wp2
    go_ret
    exact ⟨rfl, Ba⟩
theorem againLaw (A : Option Addr) (n c : Nat) (l : List Int) (w : World) (hn : l.length = n) (h : Bs w 0 w.heap.size A l) (hnc : n ≤ c) (hc : c ≤ 140737488351232) :
    Calls Try.prog 6 #[.slice A n c] w fun e w' => e = .returned (.bool true) ∧ Below w.heap.size w w' := by
  by_cases hl : n ≤ 2000
  · by_cases h48 : 48 ≤ n
    · by_cases hv : 1 ≤ fB l 0 1 / 8 % 8 ∧ fB l 0 1 / 8 % 8 ≤ 4
      · exact again_ok A n c l w hn h hl h48 hnc hc hv
      · exact again_kind A n c l w hn h hl h48 hv
    · exact again_short A n c w (by omega)
  · exact again_long A n c w (by omega)
namespace lawAgain
set_option maxRecDepth 100000 in
theorem lifted (os : Os) (started : os.Started) (H : Type) (enc : TypeId × Value → H) :
    ReturnsInHanded {} Try.checked os 6 .any (Rows.ntpmsgAgainSpec.pre6 enc Try.prog Try.f6 Rows.ntpmsgAgainRow.domain false) (Rows.ntpmsgAgainSpec.post enc Try.prog Try.f6 false true false false) := by
  refine returnsInHanded_of_change_sized (C := Try.checked) own started (by kernel_rfl) Try.func6
    (ChangeSpec.witness6 (enc := enc) (C := Try.checked) false ⟨#[], #[.slice none 0 0], []⟩ 8 (by kernel_rfl) (by kernel_rfl) (by kernel_rfl) (by kernel_rfl)) ?_
  intro W base args ds gs before hval0 hW hcnd hsz0 _
  have hval : ∀ (j : Nat) t v, Try.f6.params[j]? = some t → args[j]? = some v → Value.okWide Try.prog W .any base t v := hval0
  have hW' := hW
  obtain ⟨p, q, hA0, hV, rfl, hfz, hnd⟩ := hW
  have hA : DataW.TrodAll enc Try.prog W 0 (fun _ => true) true Try.f6.params.toList args.toList ds p := hA0
  have hsz : (DataW.weightsEach Try.prog (Try.f6.params.toList ++ Rows.ntpmsgAgainSpec.plain.varTypes Try.prog) (ds ++ gs)).all (· ≤ reachBytes) = true := hsz0
  rw [Try.params6] at hA hval hsz
  obtain ⟨rfl, rfl⟩ := trodVars_none hV
  obtain ⟨v0, d0, rfl, rfl, h0⟩ := trodAll_one hA
  obtain ⟨A, n, c, l, rfl, hn_l, hB_l, hc_l, hnil_l, hs_l⟩ := open_bs (hval 0 26 v0 rfl rfl) h0
  have hr_l := hs_l hsz (j := 0) rfl rfl
  subst hn_l
  refine (againLaw A _ c l W rfl hB_l hc_l hr_l).mono fun e W' ⟨he, hb⟩ => ?_
  subst he
  revert hb
  simp only [List.append_nil] at hW'
  intro hb
  exact ⟨_, rfl, law_post (tb := 4) laidOut Try.underlying4 rfl (by rw [Try.params6]; intro t ht; revert ht; revert t; exact of_decide_eq_true (by kernel_rfl)) rfl rfl rfl rfl hW' hb⟩
theorem over : Rows.ntpmsgAgainRow.holds Try.pinned (OpenSpec.ofChange Rows.ntpmsgAgainSpec) :=
  OpenClaim.holds_of_wide 6 Try.f6 rfl rfl rfl rfl rfl rfl rfl ⟨rfl, rfl, rfl, rfl, rfl⟩ rfl rfl rfl rfl rfl (by kernel_rfl) Try.func6 (by kernel_rfl)
    (of_decide_eq_true (by kernel_rfl)) (by unfold Func.isWrapper; first | (rw [if_pos (by decide +kernel)]; kernel_rfl) | (rw [if_neg (by decide +kernel)]; exact ⟨rfl, rfl⟩))
    (fun os started H enc _ => lifted os started H enc)
theorem proved : Rows.NtpmsgAgainSaid :=
  over
#print axioms proved
end lawAgain
end Go.Proofs.Ythhdbpdgppppiaa
