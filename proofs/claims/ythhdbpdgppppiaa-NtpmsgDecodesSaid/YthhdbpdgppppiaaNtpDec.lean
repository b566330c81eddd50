/- NtpmsgDecodes (P19.1, P19.3): for every input the law returns true, and its arguments read afterwards as before. No condition. -/
import Derived.Test.YthhdbpdgppppiaaNtp8
import Derived.Test.YthhdbpdgppppiaaNtpP
import Derived.Test.YthhdbpdgppppiaaFields
import Derived.Test.YthhdbpdgppppiaaOpen
import Derived.Test.YthhdbpdgppppiaaNtp6
namespace Go.Proofs.Ythhdbpdgppppiaa
open Go.ChangeShapes Go.WideShapes Go.ChangeAt Go.RowKit Go.Joins
set_option linter.unusedSimpArgs false
set_option linter.unusedVariables false
set_option maxRecDepth 100000 in
set_option maxHeartbeats 4000000 in
theorem decL_long (A : Option Addr) (n c : Nat) (w : World) (hl : 2000 < n) :
    Calls Try.prog 4 #[.slice A n c] w fun e w' => e = .returned (.bool true) ∧ Below w.heap.size w w' := by
  have hl' : (2000 : Int) < n := by omega
  have b1 := Below.refl w.heap.size w
  go_enter Try.func4, Try.ntmps4
  go_wp2_with fail
  with_reducible refine (awake_any _).mono ?_
  rintro e wa ⟨rfl, ba⟩
  have Ba := (b1).trans (ba.mono (b1).size)
  go_wp2
  go_ret
  exact ⟨rfl, Ba⟩
set_option maxRecDepth 100000 in
set_option maxHeartbeats 4000000 in
theorem decL_u (A : Option Addr) (n c : Nat) (l : List Int) (w : World) (x0 x1 x2 x3 x4 x5 x6 x7 x8 x9 x10 x11 x12 k : Int) (r : Nat) (L : List Int) (hr : L.length = r) (hr2 : r ≤ 2000) (hn : n ≤ 2000) (h : Bs w 0 w.heap.size A l)
    (h1 : ∀ W, Bs W 0 W.heap.size A l → Calls Try.prog 14 #[.slice A n c] W fun e w' => ∃ A' c', e = .returned (.tuple #[ntp x0 x1 x2 x3 x4 x5 x6 x7 x8 x9 x10 x11 x12, .slice A' r c', .int .i64 k]) ∧ Bs w' W.heap.size w'.heap.size A' L ∧ Below W.heap.size W w')
    (h2 : ∀ W, Bs W 0 W.heap.size A l → Calls Try.prog 15 #[.slice A n c] W fun e w' => ∃ A' c', e = .returned (.tuple #[ntp x0 x1 x2 x3 x4 x5 x6 x7 x8 x9 x10 x11 x12, .slice A' r c', .int .i64 k]) ∧ Bs w' W.heap.size w'.heap.size A' L ∧ Below W.heap.size W w') :
    Calls Try.prog 4 #[.slice A n c] w fun e w' => e = .returned (.bool true) ∧ Below w.heap.size w w' := by
  have hl' : (n : Int) ≤ 2000 := by omega
  go_enter Try.func4, Try.ntmps4
  go_wp2_with fail
  with_reducible refine (h1 w h).mono ?_
  rintro e w1 ⟨A1, c1, rfl, hB1, b1⟩
  have hh1 := h.below b1 (Nat.le_refl _)
  have z1 := b1.size
  clear h1
  go_wp2_with (first | (refine wpl_alloc (by rfl) 25 (by rfl) (.agg (zN).toArray) (zN) zeroNtp rfl ?_; intro w2 J2 s2 b2) | (refine wpl_store (by rfl) 25 _ _ (by rfl) w1.heap.size (by rfl) _ (by rfl) _ rfl 25 _ J2 (by rfl) _ sizeNtp (by rfl) (by simp [Value.oneCell']) ?_; intro w3 J3 s3 g3))
  have B3 := (b1.trans (b2.mono z1)).trans (g3.below (by omega) (by omega))
  have hh3 := (hh1.below b2 (by omega)).grown g3 (by omega) (by simp <;> omega)
  have hB3 := (hB1.below b2 (Nat.le_refl _)).grown g3 (by omega) (by simp <;> omega)
  have lJ := J3.lt
  clear J2 b1 b2 g3 hh1 hB1 h
  have hE := h2 w3 (hh3.wide (Nat.le_refl _) (by omega))
  with_reducible refine hE.mono ?_
  rintro e w4 ⟨A4, c4, rfl, hB4, b4⟩
  have J4 := J3.below b4 J3.lt
  have hB34 := hB3.below b4 (by omega)
  have B4 := B3.trans (b4.mono B3.size)
  have z4 := b4.size
  clear hE h2 J3 b4 hh3 hB3 B3
  go_wp2_with (first | (refine wpl_alloc (by rfl) 25 (by rfl) (.agg (zN).toArray) (zN) zeroNtp rfl ?_; intro w5 J5 s5 b5) | (((refine wpl_store (by rfl) 25 _ _ (by rfl) w4.heap.size (by rfl) _ (by rfl) _ rfl 25 _ J5 (by rfl) _ sizeNtp (by rfl) (by simp [Value.oneCell']) ?_; intro w6 J6 s6 g6)); (have K6 := (J4.below b5 J4.lt).but g6 (by omega))) | (refine wpl_load (by rfl) 25 _ (by rfl) w1.heap.size (by rfl) 25 _ K6 _ Try.underlying25 rfl _ sizeNtp (by rfl) ?_) | (refine wpl_load (by rfl) 25 _ (by rfl) w4.heap.size (by rfl) 25 _ J6 _ Try.underlying25 rfl _ sizeNtp (by rfl) ?_))
  have B6 := (B4.trans (b5.mono (by omega))).trans (g6.below (by omega) (by omega))
  have hX := (hB34.below b5 (by omega)).grown g6 (by omega) (by simp <;> omega)
  have hY := (hB4.below b5 (by omega)).grown g6 (by omega) (by simp <;> omega)
  clear J4 J5 b5 g6 hB34 hB4 B4
  have hE := same_any A1 A4 r r c1 c4 _ _ _ _ L L w6 hr hr hX hY (by omega) (by omega) (by omega) (by omega)
  rw [smB_self] at hE
  with_reducible refine hE.mono ?_
  rintro e w7 ⟨rfl, b7⟩
  have B7 := B6.trans (b7.mono B6.size)
  clear hE b7 B6 hX hY J6 K6
  go_wp2_with fail
  with_reducible refine (awake_any _).mono ?_
  rintro e wa ⟨rfl, ba⟩
  have Ba := (B7).trans (ba.mono (B7).size)
  go_wp2
  go_ret
  exact ⟨rfl, Ba⟩
theorem decL (A : Option Addr) (n c : Nat) (l : List Int) (w : World) (hn : l.length = n) (h : Bs w 0 w.heap.size A l) (hnc : n ≤ c) (hc : c ≤ 140737488351232) :
    Calls Try.prog 4 #[.slice A n c] w fun e w' => e = .returned (.bool true) ∧ Below w.heap.size w w' := by
  by_cases hl : n ≤ 2000
  · by_cases h48 : 48 ≤ n
    · by_cases hv : 1 ≤ fB l 0 1 / 8 % 8 ∧ fB l 0 1 / 8 % 8 ≤ 4
      · refine decL_u A n c l w _ _ _ _ _ _ _ _ _ _ _ _ _ 0 (n - 48) (l.drop 48) (by rw [List.length_drop, hn]) (by omega) hl h
          (fun W H => (decode_ok A n c l W hn H h48 (by omega) (fB l 0 1) rfl hv).mono fun e w' ⟨A', c', h1, h2, h3⟩ => ⟨A', c', h1, h2.bs, h3⟩)
          (fun W H => (rdecode_ok A n c l W hn H hnc h48 (by omega) (fB l 0 1) rfl hv).mono fun e w' ⟨A', c', h1, h2, h3⟩ => ⟨A', c', h1, h2.bs, h3⟩)
      · refine decL_u A n c l w 0 0 0 0 0 0 0 0 0 0 0 0 0 8 0 [] rfl (by omega) hl h
          (fun W H => (decode_kind A n c l W hn H h48 (by omega) (fB l 0 1) rfl hv).mono fun e w' ⟨h1, h3⟩ => ⟨none, 0, h1, Bs.nil, h3⟩)
          (fun W H => (rdecode_kind A n c l W hn H h48 (fB l 0 1) rfl hv).mono fun e w' ⟨h1, h3⟩ => ⟨none, 0, h1, Bs.nil, h3⟩)
    · refine decL_u A n c l w 0 0 0 0 0 0 0 0 0 0 0 0 0 5 0 [] rfl (by omega) hl h
        (fun W H => (decode_short A n c W (by omega)).mono fun e w' ⟨h1, h3⟩ => ⟨none, 0, h1, Bs.nil, h3⟩)
        (fun W H => (rdecode_short A n c W (by omega)).mono fun e w' ⟨h1, h3⟩ => ⟨none, 0, h1, Bs.nil, h3⟩)
  · exact decL_long A n c w (by omega)
namespace lawDecodes
set_option maxRecDepth 100000 in
theorem lifted (os : Os) (started : os.Started) (H : Type) (enc : TypeId × Value → H) :
    ReturnsInHanded {} Try.checked os 4 .any (Rows.ntpmsgDecodesSpec.pre6 enc Try.prog Try.f4 Rows.ntpmsgDecodesRow.domain false) (Rows.ntpmsgDecodesSpec.post enc Try.prog Try.f4 false true false false) := by
  refine returnsInHanded_of_change_sized (C := Try.checked) own started (by kernel_rfl) Try.func4
    (ChangeSpec.witness6 (enc := enc) (C := Try.checked) false ⟨#[], #[.slice none 0 0], []⟩ 8 (by kernel_rfl) (by kernel_rfl) (by kernel_rfl) (by kernel_rfl)) ?_
  intro W base args ds gs before hval0 hW hcnd hsz0 _
  have hval : ∀ (j : Nat) t v, Try.f4.params[j]? = some t → args[j]? = some v → Value.okWide Try.prog W .any base t v := hval0
  have hW' := hW
  obtain ⟨p, q, hA0, hV, rfl, hfz, hnd⟩ := hW
  have hA : DataW.TrodAll enc Try.prog W 0 (fun _ => true) true Try.f4.params.toList args.toList ds p := hA0
  have hsz : (DataW.weightsEach Try.prog (Try.f4.params.toList ++ Rows.ntpmsgDecodesSpec.plain.varTypes Try.prog) (ds ++ gs)).all (· ≤ reachBytes) = true := hsz0
  rw [Try.params4] at hA hval hsz
  obtain ⟨rfl, rfl⟩ := trodVars_none hV
  obtain ⟨v0, d0, rfl, rfl, h0⟩ := trodAll_one hA
  obtain ⟨A, n, c, l, rfl, hn_l, hB_l, hc_l, hnil_l, hs_l⟩ := open_bs (hval 0 26 v0 rfl rfl) h0
  have hr_l := hs_l hsz (j := 0) rfl rfl
  subst hn_l
  refine (decL A _ c l W rfl hB_l hc_l hr_l).mono fun e W' ⟨he, hb⟩ => ?_
  subst he
  revert hb
  simp only [List.append_nil] at hW'
  intro hb
  exact ⟨_, rfl, law_post (tb := 4) laidOut Try.underlying4 rfl (by rw [Try.params4]; intro t ht; revert ht; revert t; exact of_decide_eq_true (by kernel_rfl)) rfl rfl rfl rfl hW' hb⟩
theorem over : Rows.ntpmsgDecodesRow.holds Try.pinned (OpenSpec.ofChange Rows.ntpmsgDecodesSpec) :=
  OpenClaim.holds_of_wide 4 Try.f4 rfl rfl rfl rfl rfl rfl rfl ⟨rfl, rfl, rfl, rfl, rfl⟩ rfl rfl rfl rfl rfl (by kernel_rfl) Try.func4 (by kernel_rfl)
    (of_decide_eq_true (by kernel_rfl)) (by unfold Func.isWrapper; first | (rw [if_pos (by decide +kernel)]; kernel_rfl) | (rw [if_neg (by decide +kernel)]; exact ⟨rfl, rfl⟩))
    (fun os started H enc _ => lifted os started H enc)
theorem proved : Rows.NtpmsgDecodesSaid :=
  over
#print axioms proved
end lawDecodes
end Go.Proofs.Ythhdbpdgppppiaa
