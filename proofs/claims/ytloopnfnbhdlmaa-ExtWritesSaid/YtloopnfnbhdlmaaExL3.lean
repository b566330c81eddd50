/- ExtWrites (P20.2, P20.5): for every input the law returns true, and its argument reads afterwards as before. No condition. -/
import Derived.Test.YtloopnfnbhdlmaaEx7
import Derived.Test.YtloopnfnbhdlmaaExt2
import Derived.Test.YtloopnfnbhdlmaaAppG
namespace Go.Proofs.Ytloopnfnbhdlmaa
open Go.ChangeShapes Go.WideShapes Go.ChangeAt Go.RowKit Go.Joins
set_option linter.unusedSimpArgs false
set_option linter.unusedVariables false
set_option maxRecDepth 100000
set_option maxHeartbeats 8000000 in
theorem writes_long (A : Option Addr) (n c : Nat) (w : World) (hl : 6000 < n) :
    Calls Try.prog 5 #[.slice A n c] w fun e w' => e = .returned (.bool true) ∧ Below w.heap.size w w' := by
  have h4 : decide (6000 < (n : Int)) = true := decide_eq_true (by omega)
  clear hl
  go_enter Try.func5, Try.ntmps5
  go_wp2_with (first | (go_at_call 9; ((with_reducible refine (awake_any _).mono ?_); rintro e w9 ⟨rfl, b9⟩)))
  go_ret
  exact ⟨rfl, b9⟩
set_option maxHeartbeats 8000000 in
theorem writes_err (A : Option Addr) (n c : Nat) (l : List Int) (w : World) (hn : l.length = n) (h : Bs w 0 w.heap.size A l) (hm : n ≤ c) (hc : c ≤ 9223372036854775807) (hl : n ≤ 6000) (he : prsE l ≠ 0) :
    Calls Try.prog 5 #[.slice A n c] w fun e w' => e = .returned (.bool true) ∧ Below w.heap.size w w' := by
  have h4 : decide (6000 < (n : Int)) = false := decide_eq_false (by omega)
  have HE1 := parse_any A n c l w hn h hm hc (by omega)
  obtain ⟨h1, h2, h3⟩ := (prs_back h.byt).2 he
  have hP : prs l.length [] l = ([], [], prsE l) := by
    exact Prod.ext h1 (Prod.ext h2 rfl)
  rw [hP] at HE1
  have h0 : (prsE l != 0) = true := by simpa using he
  clear h1 h2 h3 hP he h hn
  generalize prsE l = E at HE1 h0
  go_enter Try.func5, Try.ntmps5
  go_wp2_with (first
    | (go_at_call 15; ((with_reducible refine HE1.mono ?_); rintro e w2 ⟨A1, c1, A2, c2, N1, N2, wx, rfl, hN1, hN2, X1, b1, b1', O1⟩; (have B2 := b1.trans (b1'.mono b1.size)); (obtain rfl : N1 = 0 := hN1.symm); (obtain rfl : N2 = 0 := hN2.symm); clear hN1 hN2))
    | (go_at_call 9; ((with_reducible refine (awake_any _).mono ?_); rintro e w9 ⟨rfl, b9⟩)))
  go_ret
  exact ⟨rfl, B2.trans (b9.mono B2.size)⟩
set_option maxHeartbeats 8000000 in
theorem writes_ok (A : Option Addr) (n c : Nat) (l : List Int) (w : World) (hn : l.length = n) (h : Bs w 0 w.heap.size A l) (hm : n ≤ c) (hc : c ≤ 9223372036854775807) (hl : n ≤ 6000) (he : prsE l = 0) :
    Calls Try.prog 5 #[.slice A n c] w fun e w' => e = .returned (.bool true) ∧ Below w.heap.size w w' := by
  have h4 : decide (6000 < (n : Int)) = false := decide_eq_false (by omega)
  have HE1 := parse_any A n c l w hn h hm hc (by omega)
  obtain ⟨h1, h2, h3, h5⟩ := (prs_back h.byt).1 he
  have hP : prs l.length [] l = (prsL l, prsA l, 0) := by rw [← he]; rfl
  rw [hP] at HE1
  have hap := apx_valid h2 h3
  have hla : (fldsB (prsL l)).length + (prsA l).length = n := by rw [← List.length_append, h1, hn]
  have Hn := Lib.hid hn
  have HJ := Lib.hid h1
  have HAP := Lib.hid hap
  have HLA := Lib.hid hla
  have hB3 := fun W (hb : Below w.heap.size w W) => h.below hb (Nat.le_refl _)
  clear h1 h2 h3 h5 hP he h hn hap hla
  generalize prsL l = L at HE1 HJ HAP HLA
  generalize prsA l = a at HE1 HJ HLA
  go_enter Try.func5, Try.ntmps5
  go_wp2_with (first
    | (go_at_call 15; ((with_reducible refine HE1.mono ?_); rintro e w2 ⟨A1, c1, A2, c2, N1, N2, wx, rfl, hN1, hN2, X1, b1, b1', O1⟩; (have B2 := b1.trans (b1'.mono b1.size)); (have X2 := X1.below b1' (Nat.le_refl _)); (have O2 := O1.wide b1.size); (have HN1 : Hid (L.length = N1) := hN1); (have HN2 : Hid (a.length = N2) := hN2); clear hN1 hN2; (have X2 : XO w2 w.heap.size A1 c1 L := X2); (have O2 : Ow w2 w.heap.size A2 c2 a := O2); clear X1 O1 b1 b1'; (have HE2 := xappend_ok none 0 0 0 0 [] A1 N1 c1 L w2 rfl Bs.nil (Nat.zero_le _) (fun _ => ⟨rfl, rfl⟩) (by omega) HN1.out X2.xs (HN1.out ▸ X2.cap.1) X2.cap.2.1 HAP.out)))
    | (go_at_call 12; ((with_reducible refine HE2.mono ?_); rintro e w3 ⟨A3, c3, N3, rfl, hN3, O3, b3⟩; (have O2' := O2.below b3 (Nat.le_refl _)); (have B3 := B2.trans (b3.mono B2.size)); (have z3 := b3.size); (have HN3 : Hid ((fldsB L).length = N3) := hN3); (have O3' : Ow w3 w2.heap.size A3 c3 (fldsB L) := O3); clear hN3 O3; (have hs3 : N3 + N2 ≤ 140737488355328 := by (have e1 := HN3.out; (have e2 : a.length = N2 := HN2.out); have e3 := HLA.out; omega))))
    | (refine wpl_append_bs (by rfl) (.tmp 39) (.tmp 40) (by rfl) N3 c3 N2 c2 (by rfl) (by rfl) HN3.out HN2.out O3' O2'.bs hs3 z3 ?_; intro A4 c4 w4 O4 b4; (have B4 := B3.trans (b4.mono B2.size)); (have hQ := bequal_any A4 A (N3 + N2) n c4 c _ _ _ _ l l w4 (by rw [Hn.out]; have e1 := HN3.out; (have e2 : a.length = N2 := HN2.out); have e3 := HLA.out; omega) Hn.out (HJ.out ▸ O4.bs) (hB3 _ B4)); rw [eqB_self] at hQ)
    | (go_at_call 14; ((with_reducible refine hQ.mono ?_); rintro e w' ⟨rfl, rfl⟩))
    | (go_at_call 9; ((with_reducible refine (awake_any _).mono ?_); rintro e w9 ⟨rfl, b9⟩)))
  go_ret
  exact ⟨rfl, B4.trans (b9.mono B4.size)⟩
theorem writesLaw (A : Option Addr) (n c : Nat) (l : List Int) (w : World) (hn : l.length = n) (h : Bs w 0 w.heap.size A l) (hm : n ≤ c) (hc : c ≤ 9223372036854775807) :
    Calls Try.prog 5 #[.slice A n c] w fun e w' => e = .returned (.bool true) ∧ Below w.heap.size w w' := by
  by_cases hl : 6000 < n
  · exact writes_long A n c w hl
  · by_cases he : prsE l = 0
    · exact writes_ok A n c l w hn h hm hc (by omega) he
    · exact writes_err A n c l w hn h hm hc (by omega) he
namespace lawWrites
set_option maxRecDepth 100000 in
theorem lifted (os : Os) (started : os.Started) (H : Type) (enc : TypeId × Value → H) :
    ReturnsInHanded {} Try.checked os 5 .any (Rows.extWritesSpec.pre6 enc Try.prog Try.f5 Rows.extWritesRow.domain false) (Rows.extWritesSpec.post enc Try.prog Try.f5 false true false false) := by
  refine returnsInHanded_of_change_sized (C := Try.checked) own started (by kernel_rfl) Try.func5
    (ChangeSpec.witness6 (enc := enc) (C := Try.checked) false ⟨#[], #[.slice none 0 0], []⟩ 8 (by kernel_rfl) (by kernel_rfl) (by kernel_rfl) (by kernel_rfl)) ?_
  intro W base args ds gs before hval0 hW hcnd hsz0 _
  have hval : ∀ (j : Nat) t v, Try.f5.params[j]? = some t → args[j]? = some v → Value.okWide Try.prog W .any base t v := hval0
  have hW' := hW
  obtain ⟨p, q, hA0, hV, rfl, hfz, hnd⟩ := hW
  have hA : DataW.TrodAll enc Try.prog W 0 (fun _ => true) true Try.f5.params.toList args.toList ds p := hA0
  have hsz : (DataW.weightsEach Try.prog (Try.f5.params.toList ++ Rows.extWritesSpec.plain.varTypes Try.prog) (ds ++ gs)).all (· ≤ reachBytes) = true := hsz0
  rw [Try.params5] at hA hval hsz
  obtain ⟨rfl, rfl⟩ := trodVars_none hV
  obtain ⟨v0, d0, rfl, rfl, h0⟩ := trodAll_one hA
  obtain ⟨A, n, c, l, rfl, hn_l, hB_l, hc_l, hnil_l, hs_l⟩ := open_bs (hval 0 22 v0 rfl rfl) h0
  have hr_l := hs_l hsz (j := 0) rfl rfl
  subst hn_l
  refine (writesLaw A _ c l W rfl hB_l hc_l (by have := hr_l; omega)).mono fun e W' ⟨he, hb⟩ => ?_
  subst he
  revert hb
  simp only [List.append_nil] at hW'
  intro hb
  exact ⟨_, rfl, law_post (tb := 4) laidOut Try.underlying4 rfl (by rw [Try.params5]; intro t ht; revert ht; revert t; exact of_decide_eq_true (by kernel_rfl)) rfl rfl rfl rfl hW' hb⟩
theorem over : Rows.extWritesRow.holds Try.pinned (OpenSpec.ofChange Rows.extWritesSpec) :=
  OpenClaim.holds_of_wide 5 Try.f5 rfl rfl rfl rfl rfl rfl rfl ⟨rfl, rfl, rfl, rfl, rfl⟩ rfl rfl rfl rfl rfl (by kernel_rfl) Try.func5 (by kernel_rfl)
    (of_decide_eq_true (by kernel_rfl)) (by unfold Func.isWrapper; first | (rw [if_pos (by decide +kernel)]; kernel_rfl) | (rw [if_neg (by decide +kernel)]; exact ⟨rfl, rfl⟩))
    (fun os started H enc _ => lifted os started H enc)
theorem proved : Rows.ExtWritesSaid :=
  over
#print axioms proved
end lawWrites
end Go.Proofs.Ytloopnfnbhdlmaa
