/- StampTexts (P3.6): for every input the law returns true, and its arguments read afterwards as before. No condition. -/
import Derived.Test.YtlhcdmmocmcecaaStampText
import Derived.Test.YtlhcdmmocmcecaaStampAwake
import Derived.Test.YtlhcdmmocmcecaaRow
import Derived.ChangeMaps5
namespace Go.Proofs.Ytlhcdmmocmcecaa
open Go.ChangeShapes Go.WideShapes Go.ChangeAt Go.RowKit Go.Joins Go.ChangeMaps
set_option linter.unusedSimpArgs false
set_option linter.unusedVariables false
set_option maxHeartbeats 1000000 in
theorem textsLaw (n : Int) (s : ByteArray) (w : World) (hn : 0 ≤ n ∧ n ≤ 18446744073709551615) (hs : s.size ≤ 9223372036854775807) :
    Calls Try.prog 10 #[.int .u64 n, .string s] w fun e w' => e = .returned (.bool true) ∧ Below w.heap.size w w' := by
  have B0 : Below w.heap.size w w := Below.refl _ _
  obtain ⟨t, ht⟩ : ∃ t, t = strOf (tx n 16) := ⟨_, rfl⟩
  have c1 := fun W => parse_any s W hs
  have c2 := fun W => rparse_any s W hs
  have c3 := fun W => text_any n W hn.1 (by omega)
  have c4 := fun W => rtext_any n W hn.1 (by omega)
  have hp := psV_some (parse_of hn.1 (show n < 18446744073709551616 by omega))
  have htl : t.size ≤ 9223372036854775807 := by rw [ht, ← bl_len, bl_strOf (tx_byt n 16), tx_len]; decide
  have c5 := fun W => parse_any t W htl
  rw [← ht] at hp
  simp only [hp.1, hp.2] at c5
  simp only [← ht] at c3 c4
  clear ht hp
  cases hA : psAll s with
  | none =>
    have h := psV_none hA
    simp only [h.1, h.2] at c1 c2
    clear h hA
    go_enter Try.func10, Try.ntmps10
    go_wp2_with fail
    refine (c1 _).mono ?_
    rintro e _ ⟨rfl, rfl⟩
    go_wp2_with fail
    refine (c2 _).mono ?_
    rintro e _ ⟨rfl, rfl⟩
    go_wp2_with fail
    refine (c3 _).mono ?_
    rintro e w1 ⟨rfl, hb⟩
    have B1 := (B0).trans (hb.mono (B0).size)
    clear hb
    go_wp2_with fail
    refine (c5 _).mono ?_
    rintro e _ ⟨rfl, rfl⟩
    go_wp2_with fail
    refine (c4 _).mono ?_
    rintro e w2 ⟨rfl, hb⟩
    have B2 := (B1).trans (hb.mono (B1).size)
    clear hb
    go_wp2_with fail
    refine (awake_any _).mono ?_
    rintro e w3 ⟨rfl, hb⟩
    have B3 := (B2).trans (hb.mono (B2).size)
    clear hb
    go_wp2
    go_ret
    exact ⟨rfl, B3⟩
  | some m =>
    have h := psV_some hA
    have hm : 0 ≤ m ∧ m < 18446744073709551616 := by
      unfold psAll at hA
      split at hA
      · exact ps_rng s 17 m hA
      · cases hA
    have c6 := fun W => text_any m W hm.1 hm.2
    simp only [text_of hA] at c6
    simp only [h.1, h.2] at c1 c2
    clear h hA
    go_enter Try.func10, Try.ntmps10
    go_wp2_with fail
    refine (c1 _).mono ?_
    rintro e _ ⟨rfl, rfl⟩
    go_wp2_with fail
    refine (c2 _).mono ?_
    rintro e _ ⟨rfl, rfl⟩
    go_wp2_with fail
    refine (c3 _).mono ?_
    rintro e w1 ⟨rfl, hb⟩
    have B1 := (B0).trans (hb.mono (B0).size)
    clear hb
    go_wp2_with fail
    refine (c5 _).mono ?_
    rintro e _ ⟨rfl, rfl⟩
    go_wp2_with fail
    refine (c4 _).mono ?_
    rintro e w2 ⟨rfl, hb⟩
    have B2 := (B1).trans (hb.mono (B1).size)
    clear hb
    go_wp2_with fail
    refine (c6 _).mono ?_
    rintro e w4 ⟨rfl, hb⟩
    have B4 := (B2).trans (hb.mono (B2).size)
    clear hb
    go_wp2_with fail
    refine (awake_any _).mono ?_
    rintro e w3 ⟨rfl, hb⟩
    have B3 := (B4).trans (hb.mono (B4).size)
    clear hb
    go_wp2
    go_ret
    exact ⟨rfl, B3⟩
namespace lawTexts
set_option maxRecDepth 100000 in
theorem lifted (os : Os) (started : os.Started) (H : Type) (enc : TypeId × Value → H) :
    ReturnsInHanded {} Try.checked os 10 .any (Rows.stampTextsSpec.pre6 enc Try.prog Try.f10 Rows.stampTextsRow.domain false) (Rows.stampTextsSpec.post enc Try.prog Try.f10 false true false false) := by
  refine returnsInHanded_of_change (C := Try.checked) own started (by kernel_rfl) Try.func10
    (ChangeSpec.witness6 (enc := enc) (C := Try.checked) false ⟨#[], #[.int .u64 0, .string ⟨#[]⟩], []⟩ 8 (by kernel_rfl) (by kernel_rfl) (by kernel_rfl) (by kernel_rfl)) ?_
  intro W base args ds gs before hval0 hW hcnd _
  have hval : ∀ (j : Nat) t v, Try.f10.params[j]? = some t → args[j]? = some v → Value.okWide Try.prog W .any base t v := hval0
  have hW' := hW
  obtain ⟨p, q, hA0, hV, rfl, hfz, hnd⟩ := hW
  have hA : DataW.TrodAll enc Try.prog W 0 (fun _ => true) true Try.f10.params.toList args.toList ds p := hA0
  rw [Try.params10] at hA hval
  obtain ⟨rfl, rfl⟩ := trodVars_none hV
  obtain ⟨v0, v1, d0, d1, p0, p1, rfl, rfl, rfl, h0, h1⟩ := trodAll_two hA
  obtain ⟨n, rfl, rfl, rfl, wf_n⟩ := open_int Try.underlying22 (hval 0 22 v0 rfl rfl) h0
  obtain ⟨s, rfl, rfl, rfl, wf_s⟩ := open_string Try.underlying9 (hval 1 9 v1 rfl rfl) h1
  refine (textsLaw n s W (bounds_u64 wf_n) (by unfold maxLen at wf_s; omega)).mono fun e W' ⟨he, hb⟩ => ?_
  subst he
  revert hb
  simp only [List.append_nil] at hW'
  intro hb
  exact ⟨_, rfl, law_post (tb := 4) laidOut Try.underlying4 rfl (by rw [Try.params10]; intro t ht; revert ht; revert t; exact of_decide_eq_true (by kernel_rfl)) rfl rfl rfl rfl hW' hb⟩
theorem over : Rows.stampTextsRow.holds Try.pinned (OpenSpec.ofChange Rows.stampTextsSpec) :=
  OpenClaim.holds_of_wide 10 Try.f10 rfl rfl rfl rfl rfl rfl rfl ⟨rfl, rfl, rfl, rfl, rfl⟩ rfl rfl rfl rfl rfl (by kernel_rfl) Try.func10 (by kernel_rfl)
    (of_decide_eq_true (by kernel_rfl)) (by unfold Func.isWrapper; first | (rw [if_pos (by decide +kernel)]; kernel_rfl) | (rw [if_neg (by decide +kernel)]; exact ⟨rfl, rfl⟩))
    (fun os started H enc _ => lifted os started H enc)
theorem proved : Rows.StampTextsSaid :=
  over
#print axioms proved
end lawTexts
end Go.Proofs.Ytlhcdmmocmcecaa
