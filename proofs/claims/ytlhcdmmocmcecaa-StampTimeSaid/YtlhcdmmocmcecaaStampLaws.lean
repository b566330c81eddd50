/- The laws on stamp without texts: each returns true, for every input. -/
import Derived.Test.YtlhcdmmocmcecaaStampAwake
import Derived.Test.YtlhcdmmocmcecaaRow
namespace Go.Proofs.Ytlhcdmmocmcecaa
open Go.ChangeShapes Go.WideShapes Go.ChangeAt Go.RowKit Go.Joins
set_option linter.unusedSimpArgs false
set_option linter.unusedVariables false
set_option maxHeartbeats 1000000 in
theorem ofLaw (t : Int) (w : World) (ht : (-9223372036854775808 ≤ t ∧ t ≤ 9223372036854775807)) :
    Calls Try.prog 3 #[.int .i64 t] w fun e w' => e = .returned (.bool true) ∧ Below w.heap.size w w' := by
  have B0 : Below w.heap.size w w := Below.refl _ _
  go_enter Try.func3, Try.ntmps3
  go_wp2_with fail
  refine (of_any t _ ht.1 ht.2).mono ?_
  rintro e w1 ⟨rfl, hb⟩
  have B1 := (B0).trans (hb.mono (B0).size)
  clear hb
  go_wp2_with fail
  refine (rof_any t _ ht.1 ht.2).mono ?_
  rintro e w2 ⟨rfl, hb⟩
  have B2 := (B1).trans (hb.mono (B1).size)
  clear hb
  go_wp2_with fail
  refine (era_any t _ ht.1 ht.2).mono ?_
  rintro e w3 ⟨rfl, hb⟩
  have B3 := (B2).trans (hb.mono (B2).size)
  clear hb
  go_wp2_with fail
  refine (rera_any t _ ht.1 ht.2).mono ?_
  rintro e _ ⟨rfl, rfl⟩
  go_wp2_with fail
  refine (awake_any _).mono ?_
  rintro e w4 ⟨rfl, hb⟩
  have B4 := (B3).trans (hb.mono (B3).size)
  clear hb
  go_wp2
  go_ret
  exact ⟨rfl, B4⟩
set_option maxHeartbeats 1000000 in
theorem timeLaw (s p : Int) (w : World) (hp : (-9223372036854775808 ≤ p ∧ p ≤ 9223372036854775807)) :
    Calls Try.prog 4 #[.int .u64 s, .int .i64 p] w fun e w' => e = .returned (.bool true) ∧ Below w.heap.size w w' := by
  have B0 : Below w.heap.size w w := Below.refl _ _
  go_enter Try.func4, Try.ntmps4
  go_wp2_with fail
  refine (time_any s p _ hp.1 hp.2).mono ?_
  rintro e w1 ⟨rfl, hb⟩
  have B1 := (B0).trans (hb.mono (B0).size)
  clear hb
  go_wp2_with fail
  refine (rtime_any s p _ hp.1 hp.2).mono ?_
  rintro e w2 ⟨rfl, hb⟩
  have B2 := (B1).trans (hb.mono (B1).size)
  clear hb
  go_wp2_with fail
  refine (awake_any _).mono ?_
  rintro e w4 ⟨rfl, hb⟩
  have B4 := (B2).trans (hb.mono (B2).size)
  clear hb
  go_wp2
  go_ret
  exact ⟨rfl, B4⟩
namespace lawOf
set_option maxRecDepth 100000 in
theorem lifted (os : Os) (started : os.Started) (H : Type) (enc : TypeId × Value → H) :
    ReturnsInHanded {} Try.checked os 3 .any (Rows.stampOfSpec.pre6 enc Try.prog Try.f3 Rows.stampOfRow.domain false) (Rows.stampOfSpec.post enc Try.prog Try.f3 false true false false) := by
  refine returnsInHanded_of_change (C := Try.checked) own started (by kernel_rfl) Try.func3
    (ChangeSpec.witness6 (enc := enc) (C := Try.checked) false ⟨#[], #[.int .i64 0], []⟩ 8 (by kernel_rfl) (by kernel_rfl) (by kernel_rfl) (by kernel_rfl)) ?_
  intro W base args ds gs before hval0 hW hcnd _
  have hval : ∀ (j : Nat) t v, Try.f3.params[j]? = some t → args[j]? = some v → Value.okWide Try.prog W .any base t v := hval0
  have hW' := hW
  obtain ⟨p, q, hA0, hV, rfl, hfz, hnd⟩ := hW
  have hA : DataW.TrodAll enc Try.prog W 0 (fun _ => true) true Try.f3.params.toList args.toList ds p := hA0
  rw [Try.params3] at hA hval
  obtain ⟨rfl, rfl⟩ := trodVars_none hV
  obtain ⟨v0, d0, rfl, rfl, h0⟩ := trodAll_one hA
  obtain ⟨t, rfl, rfl, rfl, wf_t⟩ := open_int Try.underlying3 (hval 0 3 v0 rfl rfl) h0
  refine (ofLaw t W (bounds_i64 wf_t)).mono fun e W' ⟨he, hb⟩ => ?_
  subst he
  revert hb
  simp only [List.append_nil] at hW'
  intro hb
  exact ⟨_, rfl, law_post (tb := 4) laidOut Try.underlying4 rfl (by rw [Try.params3]; intro t ht; revert ht; revert t; exact of_decide_eq_true (by kernel_rfl)) rfl rfl rfl rfl hW' hb⟩
theorem over : Rows.stampOfRow.holds Try.pinned (OpenSpec.ofChange Rows.stampOfSpec) :=
  OpenClaim.holds_of_wide 3 Try.f3 rfl rfl rfl rfl rfl rfl rfl ⟨rfl, rfl, rfl, rfl, rfl⟩ rfl rfl rfl rfl rfl (by kernel_rfl) Try.func3 (by kernel_rfl)
    (of_decide_eq_true (by kernel_rfl)) (by unfold Func.isWrapper; first | (rw [if_pos (by decide +kernel)]; kernel_rfl) | (rw [if_neg (by decide +kernel)]; exact ⟨rfl, rfl⟩))
    (fun os started H enc _ => lifted os started H enc)
theorem proved : Rows.StampOfSaid :=
  over
#print axioms proved
end lawOf
namespace lawTime
set_option maxRecDepth 100000 in
theorem lifted (os : Os) (started : os.Started) (H : Type) (enc : TypeId × Value → H) :
    ReturnsInHanded {} Try.checked os 4 .any (Rows.stampTimeSpec.pre6 enc Try.prog Try.f4 Rows.stampTimeRow.domain false) (Rows.stampTimeSpec.post enc Try.prog Try.f4 false true false false) := by
  refine returnsInHanded_of_change (C := Try.checked) own started (by kernel_rfl) Try.func4
    (ChangeSpec.witness6 (enc := enc) (C := Try.checked) false ⟨#[], #[.int .u64 0, .int .i64 0], []⟩ 8 (by kernel_rfl) (by kernel_rfl) (by kernel_rfl) (by kernel_rfl)) ?_
  intro W base args ds gs before hval0 hW hcnd _
  have hval : ∀ (j : Nat) t v, Try.f4.params[j]? = some t → args[j]? = some v → Value.okWide Try.prog W .any base t v := hval0
  have hW' := hW
  obtain ⟨p, q, hA0, hV, rfl, hfz, hnd⟩ := hW
  have hA : DataW.TrodAll enc Try.prog W 0 (fun _ => true) true Try.f4.params.toList args.toList ds p := hA0
  rw [Try.params4] at hA hval
  obtain ⟨rfl, rfl⟩ := trodVars_none hV
  obtain ⟨v0, v1, d0, d1, p0, p1, rfl, rfl, rfl, h0, h1⟩ := trodAll_two hA
  obtain ⟨s, rfl, rfl, rfl, wf_s⟩ := open_int Try.underlying22 (hval 0 22 v0 rfl rfl) h0
  obtain ⟨p, rfl, rfl, rfl, wf_p⟩ := open_int Try.underlying3 (hval 1 3 v1 rfl rfl) h1
  refine (timeLaw s p W (bounds_i64 wf_p)).mono fun e W' ⟨he, hb⟩ => ?_
  subst he
  revert hb
  simp only [List.append_nil] at hW'
  intro hb
  exact ⟨_, rfl, law_post (tb := 4) laidOut Try.underlying4 rfl (by rw [Try.params4]; intro t ht; revert ht; revert t; exact of_decide_eq_true (by kernel_rfl)) rfl rfl rfl rfl hW' hb⟩
theorem over : Rows.stampTimeRow.holds Try.pinned (OpenSpec.ofChange Rows.stampTimeSpec) :=
  OpenClaim.holds_of_wide 4 Try.f4 rfl rfl rfl rfl rfl rfl rfl ⟨rfl, rfl, rfl, rfl, rfl⟩ rfl rfl rfl rfl rfl (by kernel_rfl) Try.func4 (by kernel_rfl)
    (of_decide_eq_true (by kernel_rfl)) (by unfold Func.isWrapper; first | (rw [if_pos (by decide +kernel)]; kernel_rfl) | (rw [if_neg (by decide +kernel)]; exact ⟨rfl, rfl⟩))
    (fun os started H enc _ => lifted os started H enc)
theorem proved : Rows.StampTimeSaid :=
  over
#print axioms proved
end lawTime
end Go.Proofs.Ytlhcdmmocmcecaa
