/- ExtParses (P20.2): for every input the law returns true, and its argument reads afterwards as before. No condition. -/
import Derived.Test.YtloopnfnbhdlmaaEx7
import Derived.Test.YtloopnfnbhdlmaaExt2
namespace Go.Proofs.Ytloopnfnbhdlmaa
open Go.ChangeShapes Go.WideShapes Go.ChangeAt Go.RowKit Go.Joins
set_option linter.unusedSimpArgs false
set_option linter.unusedVariables false
set_option maxRecDepth 100000
set_option maxHeartbeats 8000000 in
theorem parses_long (A : Option Addr) (n c : Nat) (w : World) (hl : 6000 < n) :
    Calls Try.prog 4 #[.slice A n c] w fun e w' => e = .returned (.bool true) ∧ Below w.heap.size w w' := by
  have h4 : decide (6000 < (n : Int)) = true := decide_eq_true (by omega)
  clear hl
  go_enter Try.func4, Try.ntmps4
  go_wp2_with (first | (go_at_call 9; ((with_reducible refine (awake_any _).mono ?_); rintro e w9 ⟨rfl, b9⟩)))
  go_ret
  exact ⟨rfl, b9⟩
set_option maxHeartbeats 8000000 in
theorem parses_short (A : Option Addr) (n c : Nat) (l : List Int) (w : World) (hn : l.length = n) (h : Bs w 0 w.heap.size A l) (hm : n ≤ c) (hc : c ≤ 9223372036854775807) (hl : n ≤ 6000) :
    Calls Try.prog 4 #[.slice A n c] w fun e w' => e = .returned (.bool true) ∧ Below w.heap.size w w' := by
  have h4 : decide (6000 < (n : Int)) = false := decide_eq_false (by omega)
  have HE1 := fun W (hb : Below w.heap.size w W) => parse_any A n c l W hn (bs_wide0 (h.below hb (Nat.le_refl _)) hb.size) hm hc (by omega)
  have HE2 := fun W (hb : Below w.heap.size w W) => rparse_any A n c l W hn (bs_wide0 (h.below hb (Nat.le_refl _)) hb.size) hm hc (by omega)
  generalize prs l.length [] l = PR at HE1 HE2
  obtain ⟨P1, P2, P3⟩ := PR
  clear h hn
  go_enter Try.func4, Try.ntmps4
  go_wp2_with (first
    | (go_at_call 15; ((with_reducible refine (HE1 _ (Below.refl _ _)).mono ?_); rintro e w2 ⟨A1, c1, A2, c2, N1, N2, wx, rfl, hN1, hN2, X1, b1, b1', O1⟩; (have B2 := b1.trans (b1'.mono b1.size)); (have X2 := X1.below b1' (Nat.le_refl _)); (have O2 := O1.wide b1.size); (have HN1 := Lib.hid hN1); (have HN2 := Lib.hid hN2); clear hN1 hN2 X1 O1 b1 b1'))
    | (go_at_call 16; ((with_reducible refine (HE2 _ B2).mono ?_); rintro e w4 ⟨A3, c3, A4, c4, N3, N4, wy, rfl, hN3, hN4, X3, b3, b3', O3⟩; (have b4 := b3.trans (b3'.mono b3.size)); (have B4 := B2.trans (b4.mono B2.size)); (have X4 := X3.below b3' (Nat.le_refl _)); (have X2' := X2.below b4 (Nat.le_refl _)); (have O2' := O2.below b4 (Nat.le_refl _)); (have HN3 := Lib.hid hN3); (have HN4 := Lib.hid hN4); (obtain rfl : N1 = N3 := HN1.out.symm.trans HN3.out); (obtain rfl : N2 = N4 := HN2.out.symm.trans HN4.out); clear hN3 hN4; (have hS := same_eq A1 A3 N1 c1 c3 P1 w4 HN1.out X2'.xs X4.xs (HN1.out ▸ X2'.cap.1) X2'.cap.2.1 (HN1.out ▸ X4.cap.1) X4.cap.2.1)))
    | (go_at_call 17; ((with_reducible refine hS.mono ?_); rintro e w5 ⟨rfl, b5⟩; (have B5 := B4.trans (b5.mono B4.size)); (have hQ := bequal_any A2 A4 N2 N2 c2 c4 _ _ _ _ P2 P2 w5 HN2.out HN2.out (O2'.below b5 (Nat.le_refl _)).bs (O3.below b5 (Nat.le_refl _)).bs); rw [eqB_self] at hQ))
    | (go_at_call 14; ((with_reducible refine hQ.mono ?_); rintro e w' ⟨rfl, rfl⟩))
    | (go_at_call 9; ((with_reducible refine (awake_any _).mono ?_); rintro e w9 ⟨rfl, b9⟩)))
  go_ret
  exact ⟨rfl, B5.trans (b9.mono B5.size)⟩
theorem parsesLaw (A : Option Addr) (n c : Nat) (l : List Int) (w : World) (hn : l.length = n) (h : Bs w 0 w.heap.size A l) (hm : n ≤ c) (hc : c ≤ 9223372036854775807) :
    Calls Try.prog 4 #[.slice A n c] w fun e w' => e = .returned (.bool true) ∧ Below w.heap.size w w' := by
  by_cases hl : 6000 < n
  · exact parses_long A n c w hl
  · exact parses_short A n c l w hn h hm hc (by omega)
namespace lawParses
set_option maxRecDepth 100000 in
theorem lifted (os : Os) (started : os.Started) (H : Type) (enc : TypeId × Value → H) :
    ReturnsInHanded {} Try.checked os 4 .any (Rows.extParsesSpec.pre6 enc Try.prog Try.f4 Rows.extParsesRow.domain false) (Rows.extParsesSpec.post enc Try.prog Try.f4 false true false false) := by
  refine returnsInHanded_of_change_sized (C := Try.checked) own started (by kernel_rfl) Try.func4
    (ChangeSpec.witness6 (enc := enc) (C := Try.checked) false ⟨#[], #[.slice none 0 0], []⟩ 8 (by kernel_rfl) (by kernel_rfl) (by kernel_rfl) (by kernel_rfl)) ?_
  intro W base args ds gs before hval0 hW hcnd hsz0 _
  have hval : ∀ (j : Nat) t v, Try.f4.params[j]? = some t → args[j]? = some v → Value.okWide Try.prog W .any base t v := hval0
  have hW' := hW
  obtain ⟨p, q, hA0, hV, rfl, hfz, hnd⟩ := hW
  have hA : DataW.TrodAll enc Try.prog W 0 (fun _ => true) true Try.f4.params.toList args.toList ds p := hA0
  have hsz : (DataW.weightsEach Try.prog (Try.f4.params.toList ++ Rows.extParsesSpec.plain.varTypes Try.prog) (ds ++ gs)).all (· ≤ reachBytes) = true := hsz0
  rw [Try.params4] at hA hval hsz
  obtain ⟨rfl, rfl⟩ := trodVars_none hV
  obtain ⟨v0, d0, rfl, rfl, h0⟩ := trodAll_one hA
  obtain ⟨A, n, c, l, rfl, hn_l, hB_l, hc_l, hnil_l, hs_l⟩ := open_bs (hval 0 22 v0 rfl rfl) h0
  have hr_l := hs_l hsz (j := 0) rfl rfl
  subst hn_l
  refine (parsesLaw A _ c l W rfl hB_l hc_l (by have := hr_l; omega)).mono fun e W' ⟨he, hb⟩ => ?_
  subst he
  revert hb
  simp only [List.append_nil] at hW'
  intro hb
  exact ⟨_, rfl, law_post (tb := 4) laidOut Try.underlying4 rfl (by rw [Try.params4]; intro t ht; revert ht; revert t; exact of_decide_eq_true (by kernel_rfl)) rfl rfl rfl rfl hW' hb⟩
theorem over : Rows.extParsesRow.holds Try.pinned (OpenSpec.ofChange Rows.extParsesSpec) :=
  OpenClaim.holds_of_wide 4 Try.f4 rfl rfl rfl rfl rfl rfl rfl ⟨rfl, rfl, rfl, rfl, rfl⟩ rfl rfl rfl rfl rfl (by kernel_rfl) Try.func4 (by kernel_rfl)
    (of_decide_eq_true (by kernel_rfl)) (by unfold Func.isWrapper; first | (rw [if_pos (by decide +kernel)]; kernel_rfl) | (rw [if_neg (by decide +kernel)]; exact ⟨rfl, rfl⟩))
    (fun os started H enc _ => lifted os started H enc)
theorem proved : Rows.ExtParsesSaid :=
  over
#print axioms proved
end lawParses
end Go.Proofs.Ytloopnfnbhdlmaa
