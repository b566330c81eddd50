/- The other laws on stamp without texts: each returns true, for every input. -/
import Derived.Test.YtlhcdmmocmcecaaStampPure
import Derived.Test.YtlhcdmmocmcecaaRow
namespace Go.Proofs.Ytlhcdmmocmcecaa
open Go.ChangeShapes Go.WideShapes Go.ChangeAt Go.RowKit Go.Joins
set_option linter.unusedSimpArgs false
set_option linter.unusedVariables false
def insB (t : Int) : Bool := decide (maxT t)
set_option maxHeartbeats 400000 in
theorem inside_any (t : Int) (w : World) : Calls Try.prog 19 #[.int .i64 t] w fun e w' => e = .returned (.bool (insB t)) ∧ w = w' := by
  by_cases h1 : -8000000000000000000 ≤ t <;> by_cases h2 : t ≤ 8000000000000000000
  all_goals
    have hI : insB t = decide (-8000000000000000000 ≤ t ∧ t ≤ 8000000000000000000) := by unfold insB; congr 1
    have HI := Lib.hid hI
    clear hI
    go_enter Try.func19, Try.ntmps19
    go_wp2
    go_ret
    exact ⟨ret_bool (by rw [HI.out]; simp [h1, h2]), rfl⟩
def apN (a b : Int) : Int := if a < b then b - a else a - b
set_option maxHeartbeats 400000 in
theorem apart_any (a b : Int) (w : World) (ha : maxT a) (hb : maxT b) : Calls Try.prog 20 #[.int .i64 a, .int .i64 b] w fun e w' => e = .returned (.int .u64 (apN a b)) ∧ w = w' := by
  have HD : Hid (apN a b = if a < b then b - a else a - b) := rfl
  have HA := Lib.hid ha
  have HB := Lib.hid hb
  clear ha hb
  go_enter Try.func20, Try.ntmps20
  go_wp2
  all_goals
    go_ret
    refine ⟨ret_int ?_, rfl⟩
    have ha := HA.out
    have hb := HB.out
    unfold maxT at ha hb
    rw [HD.out, IntKind.wrap_u64, IntKind.wrap_u64, IntKind.wrap_u64]
    split <;> omega
theorem insB_t {t : Int} (h : maxT t) : insB t = true := decide_eq_true h
theorem insB_f {t : Int} (h : ¬ maxT t) : insB t = false := decide_eq_false h
theorem maxT_i64 {t : Int} (h : maxT t) : -9223372036854775808 ≤ t ∧ t ≤ 9223372036854775807 := by unfold maxT at h; omega
theorem back_self (t : Int) (h : maxT t) : z0 (tmE (ofN t) t) (tmV (ofN t) t) = t ∧ tmE (ofN t) t = 0 := by
  have hv : tmV (ofN t) t = t := back_V (by omega) (by omega)
  have he : tmE (ofN t) t = 0 := by unfold tmE; rw [if_pos h, hv, if_pos h]
  rw [he, z0_zero]; exact ⟨hv, rfl⟩
theorem back_near (t p : Int) (h : maxT t) (hp : maxT p) (ha : apN t p < 2147483648000000000) : z0 (tmE (ofN t) p) (tmV (ofN t) p) = t ∧ tmE (ofN t) p = 0 := by
  have hv : tmV (ofN t) p = t := by unfold apN at ha; apply back_V <;> (split at ha <;> omega)
  have he : tmE (ofN t) p = 0 := by unfold tmE; rw [if_pos hp, hv, if_pos h]
  rw [he, z0_zero]; exact ⟨hv, rfl⟩
set_option maxHeartbeats 2000000 in
theorem backLaw (t p : Int) (w : World) (ht : (-9223372036854775808 ≤ t ∧ t ≤ 9223372036854775807)) (hp : (-9223372036854775808 ≤ p ∧ p ≤ 9223372036854775807)) :
    Calls Try.prog 5 #[.int .i64 t, .int .i64 p] w fun e w' => e = .returned (.bool true) ∧ Below w.heap.size w w' := by
  have B0 : Below w.heap.size w w := Below.refl _ _
  by_cases hi : maxT t
  · have i1 := insB_t hi
    have c1 := fun W => time_any (ofN t) t W ht.1 ht.2
    rw [(back_self t hi).1, (back_self t hi).2] at c1
    by_cases hj : maxT p
    · have i2 := insB_t hj
      have c3 := fun W => apart_any t p W hi hj
      by_cases ha : apN t p < 2147483648000000000
      · have c2 := fun W => time_any (ofN t) p W hp.1 hp.2
        rw [(back_near t p hi hj ha).1, (back_near t p hi hj ha).2] at c2
        have HI := Lib.hid hi
        have HJ := Lib.hid hj
        clear hi hj
        go_enter Try.func5, Try.ntmps5
        go_wp2_with fail
        refine (inside_any t _).mono ?_
        rintro e _ ⟨rfl, rfl⟩
        go_wp2_with fail
        refine (of_any t _ ht.1 ht.2).mono ?_
        rintro e w1 ⟨rfl, hb⟩
        have B1 := (B0).trans (hb.mono (B0).size)
        clear hb
        go_wp2_with fail
        refine (c1 _).mono ?_
        rintro e w2 ⟨rfl, hb⟩
        have B2 := (B1).trans (hb.mono (B1).size)
        clear hb
        go_wp2_with fail
        refine (inside_any p _).mono ?_
        rintro e _ ⟨rfl, rfl⟩
        go_wp2_with fail
        refine (c3 _).mono ?_
        rintro e _ ⟨rfl, rfl⟩
        go_wp2_with fail
        refine (of_any t _ ht.1 ht.2).mono ?_
        rintro e w3 ⟨rfl, hb⟩
        have B3 := (B2).trans (hb.mono (B2).size)
        clear hb
        go_wp2_with fail
        refine (c2 _).mono ?_
        rintro e w4 ⟨rfl, hb⟩
        have B4 := (B3).trans (hb.mono (B3).size)
        clear hb
        go_wp2_with fail
        refine (awake_any _).mono ?_
        rintro e w5 ⟨rfl, hb⟩
        have B5 := (B4).trans (hb.mono (B4).size)
        clear hb
        go_wp2
        go_ret
        exact ⟨rfl, B5⟩
      · have ha' : 2147483648000000000 ≤ apN t p := by omega
        have HI := Lib.hid hi
        have HJ := Lib.hid hj
        clear hi hj ha
        go_enter Try.func5, Try.ntmps5
        go_wp2_with fail
        refine (inside_any t _).mono ?_
        rintro e _ ⟨rfl, rfl⟩
        go_wp2_with fail
        refine (of_any t _ ht.1 ht.2).mono ?_
        rintro e w1 ⟨rfl, hb⟩
        have B1 := (B0).trans (hb.mono (B0).size)
        clear hb
        go_wp2_with fail
        refine (c1 _).mono ?_
        rintro e w2 ⟨rfl, hb⟩
        have B2 := (B1).trans (hb.mono (B1).size)
        clear hb
        go_wp2_with fail
        refine (inside_any p _).mono ?_
        rintro e _ ⟨rfl, rfl⟩
        go_wp2_with fail
        refine (c3 _).mono ?_
        rintro e _ ⟨rfl, rfl⟩
        go_wp2_with fail
        refine (awake_any _).mono ?_
        rintro e w5 ⟨rfl, hb⟩
        have B5 := (B2).trans (hb.mono (B2).size)
        clear hb
        go_wp2
        go_ret
        exact ⟨rfl, B5⟩
    · have i2 := insB_f hj
      have HI := Lib.hid hi
      clear hi hj
      go_enter Try.func5, Try.ntmps5
      go_wp2_with fail
      refine (inside_any t _).mono ?_
      rintro e _ ⟨rfl, rfl⟩
      go_wp2_with fail
      refine (of_any t _ ht.1 ht.2).mono ?_
      rintro e w1 ⟨rfl, hb⟩
      have B1 := (B0).trans (hb.mono (B0).size)
      clear hb
      go_wp2_with fail
      refine (c1 _).mono ?_
      rintro e w2 ⟨rfl, hb⟩
      have B2 := (B1).trans (hb.mono (B1).size)
      clear hb
      go_wp2_with fail
      refine (inside_any p _).mono ?_
      rintro e _ ⟨rfl, rfl⟩
      go_wp2_with fail
      refine (awake_any _).mono ?_
      rintro e w5 ⟨rfl, hb⟩
      have B5 := (B2).trans (hb.mono (B2).size)
      clear hb
      go_wp2
      go_ret
      exact ⟨rfl, B5⟩
  · have i1 := insB_f hi
    clear hi
    go_enter Try.func5, Try.ntmps5
    go_wp2_with fail
    refine (inside_any t _).mono ?_
    rintro e _ ⟨rfl, rfl⟩
    go_wp2_with fail
    refine (awake_any _).mono ?_
    rintro e w5 ⟨rfl, hb⟩
    have B5 := (B0).trans (hb.mono (B0).size)
    clear hb
    go_wp2
    go_ret
    exact ⟨rfl, B5⟩
theorem far_pivot {s p : Int} (hp : maxT p) (he : tmE s p ≠ 0) : tmE s p = 3 ∧ (5852516351999999998 < p ∨ p < -5852516351999999998) := by
  unfold tmE at he ⊢
  rw [if_pos hp] at he ⊢
  by_cases hv : maxT (tmV s p)
  · rw [if_pos hv] at he; omega
  · rw [if_neg hv]
    refine ⟨rfl, ?_⟩
    have h := near_apart s p
    unfold maxT at hv hp
    omega
theorem near_ok {s p : Int} (hp : maxT p) (he : tmE s p = 0) : maxT (tmV s p) := by
  unfold tmE at he
  rw [if_pos hp] at he
  by_cases hv : maxT (tmV s p)
  · exact hv
  · rw [if_neg hv] at he; omega
set_option maxHeartbeats 2000000 in
theorem nearestLaw (s p : Int) (w : World) (hs : (0 ≤ s ∧ s ≤ 18446744073709551615)) (hp : (-9223372036854775808 ≤ p ∧ p ≤ 9223372036854775807)) :
    Calls Try.prog 6 #[.int .u64 s, .int .i64 p] w fun e w' => e = .returned (.bool true) ∧ Below w.heap.size w w' := by
  have B0 : Below w.heap.size w w := Below.refl _ _
  have c1 := fun W => time_any s p W hp.1 hp.2
  by_cases hj : maxT p
  · have i2 := insB_t hj
    by_cases he : tmE s p = 0
    · have hv := near_ok hj he
      have i3 := insB_t hv
      have c3 := fun W => apart_any (tmV s p) p W hv hj
      have c4 := fun W => of_any (tmV s p) W (maxT_i64 hv).1 (maxT_i64 hv).2
      have hd := near_diff (s := s) (p := p) hs.1 hs.2
      have hn := near_apart s p
      have ha : apN (tmV s p) p ≤ 2147483648000000001 := by unfold apN; split <;> omega
      have hd0 : 0 ≤ diffN (ofN (tmV s p)) s := by omega
      have hd4 : diffN (ofN (tmV s p)) s ≤ 4 := by omega
      simp only [he, z0_zero] at c1
      clear hd hn hv hj he
      go_enter Try.func6, Try.ntmps6
      go_wp2_with fail
      refine (c1 _).mono ?_
      rintro e w1 ⟨rfl, hb⟩
      have B1 := (B0).trans (hb.mono (B0).size)
      clear hb
      go_wp2_with fail
      refine (inside_any p _).mono ?_
      rintro e _ ⟨rfl, rfl⟩
      go_wp2_with fail
      refine (c4 _).mono ?_
      rintro e w2 ⟨rfl, hb⟩
      have B2 := (B1).trans (hb.mono (B1).size)
      clear hb
      go_wp2_with fail
      refine (diff_any _ s _).mono ?_
      rintro e _ ⟨rfl, rfl⟩
      go_wp2_with fail
      refine (inside_any (tmV s p) _).mono ?_
      rintro e _ ⟨rfl, rfl⟩
      go_wp2_with fail
      refine (c3 _).mono ?_
      rintro e _ ⟨rfl, rfl⟩
      go_wp2_with fail
      refine (awake_any _).mono ?_
      rintro e w5 ⟨rfl, hb⟩
      have B5 := (B2).trans (hb.mono (B2).size)
      clear hb
      go_wp2
      go_ret
      exact ⟨rfl, B5⟩
    · have hf := far_pivot hj he
      have h3 := hf.1
      simp only [h3, z0_three] at c1
      clear he h3
      rcases hf.2 with h5 | h5
      all_goals
        clear hf hj
        go_enter Try.func6, Try.ntmps6
        go_wp2_with fail
        refine (c1 _).mono ?_
        rintro e w1 ⟨rfl, hb⟩
        have B1 := (B0).trans (hb.mono (B0).size)
        clear hb
        go_wp2_with fail
        refine (inside_any p _).mono ?_
        rintro e _ ⟨rfl, rfl⟩
        go_wp2_with fail
        refine (awake_any _).mono ?_
        rintro e w5 ⟨rfl, hb⟩
        have B5 := (B1).trans (hb.mono (B1).size)
        clear hb
        go_wp2
        go_ret
        exact ⟨rfl, B5⟩
  · have i2 := insB_f hj
    have he : tmE s p = 2 := by unfold tmE; rw [if_neg hj]
    have hz : z0 2 (tmV s p) = 0 := rfl
    simp only [he, hz] at c1
    clear hj he
    go_enter Try.func6, Try.ntmps6
    go_wp2_with fail
    refine (c1 _).mono ?_
    rintro e w1 ⟨rfl, hb⟩
    have B1 := (B0).trans (hb.mono (B0).size)
    clear hb
    go_wp2_with fail
    refine (inside_any p _).mono ?_
    rintro e _ ⟨rfl, rfl⟩
    go_wp2_with fail
    refine (awake_any _).mono ?_
    rintro e w5 ⟨rfl, hb⟩
    have B5 := (B1).trans (hb.mono (B1).size)
    clear hb
    go_wp2
    go_ret
    exact ⟨rfl, B5⟩
namespace lawBack
set_option maxRecDepth 100000 in
theorem lifted (os : Os) (started : os.Started) (H : Type) (enc : TypeId × Value → H) :
    ReturnsInHanded {} Try.checked os 5 .any (Rows.stampBackSpec.pre6 enc Try.prog Try.f5 Rows.stampBackRow.domain false) (Rows.stampBackSpec.post enc Try.prog Try.f5 false true false false) := by
  refine returnsInHanded_of_change (C := Try.checked) own started (by kernel_rfl) Try.func5
    (ChangeSpec.witness6 (enc := enc) (C := Try.checked) false ⟨#[], #[.int .i64 0, .int .i64 0], []⟩ 8 (by kernel_rfl) (by kernel_rfl) (by kernel_rfl) (by kernel_rfl)) ?_
  intro W base args ds gs before hval0 hW hcnd _
  have hval : ∀ (j : Nat) t v, Try.f5.params[j]? = some t → args[j]? = some v → Value.okWide Try.prog W .any base t v := hval0
  have hW' := hW
  obtain ⟨p, q, hA0, hV, rfl, hfz, hnd⟩ := hW
  have hA : DataW.TrodAll enc Try.prog W 0 (fun _ => true) true Try.f5.params.toList args.toList ds p := hA0
  rw [Try.params5] at hA hval
  obtain ⟨rfl, rfl⟩ := trodVars_none hV
  obtain ⟨v0, v1, d0, d1, p0, p1, rfl, rfl, rfl, h0, h1⟩ := trodAll_two hA
  obtain ⟨t, rfl, rfl, rfl, wf_t⟩ := open_int Try.underlying3 (hval 0 3 v0 rfl rfl) h0
  obtain ⟨p, rfl, rfl, rfl, wf_p⟩ := open_int Try.underlying3 (hval 1 3 v1 rfl rfl) h1
  refine (backLaw t p W (bounds_i64 wf_t) (bounds_i64 wf_p)).mono fun e W' ⟨he, hb⟩ => ?_
  subst he
  revert hb
  simp only [List.append_nil] at hW'
  intro hb
  exact ⟨_, rfl, law_post (tb := 4) laidOut Try.underlying4 rfl (by rw [Try.params5]; intro t ht; revert ht; revert t; exact of_decide_eq_true (by kernel_rfl)) rfl rfl rfl rfl hW' hb⟩
theorem over : Rows.stampBackRow.holds Try.pinned (OpenSpec.ofChange Rows.stampBackSpec) :=
  OpenClaim.holds_of_wide 5 Try.f5 rfl rfl rfl rfl rfl rfl rfl ⟨rfl, rfl, rfl, rfl, rfl⟩ rfl rfl rfl rfl rfl (by kernel_rfl) Try.func5 (by kernel_rfl)
    (of_decide_eq_true (by kernel_rfl)) (by unfold Func.isWrapper; first | (rw [if_pos (by decide +kernel)]; kernel_rfl) | (rw [if_neg (by decide +kernel)]; exact ⟨rfl, rfl⟩))
    (fun os started H enc _ => lifted os started H enc)
theorem proved : Rows.StampBackSaid :=
  over
#print axioms proved
end lawBack
namespace lawNearest
set_option maxRecDepth 100000 in
theorem lifted (os : Os) (started : os.Started) (H : Type) (enc : TypeId × Value → H) :
    ReturnsInHanded {} Try.checked os 6 .any (Rows.stampNearestSpec.pre6 enc Try.prog Try.f6 Rows.stampNearestRow.domain false) (Rows.stampNearestSpec.post enc Try.prog Try.f6 false true false false) := by
  refine returnsInHanded_of_change (C := Try.checked) own started (by kernel_rfl) Try.func6
    (ChangeSpec.witness6 (enc := enc) (C := Try.checked) false ⟨#[], #[.int .u64 0, .int .i64 0], []⟩ 8 (by kernel_rfl) (by kernel_rfl) (by kernel_rfl) (by kernel_rfl)) ?_
  intro W base args ds gs before hval0 hW hcnd _
  have hval : ∀ (j : Nat) t v, Try.f6.params[j]? = some t → args[j]? = some v → Value.okWide Try.prog W .any base t v := hval0
  have hW' := hW
  obtain ⟨p, q, hA0, hV, rfl, hfz, hnd⟩ := hW
  have hA : DataW.TrodAll enc Try.prog W 0 (fun _ => true) true Try.f6.params.toList args.toList ds p := hA0
  rw [Try.params6] at hA hval
  obtain ⟨rfl, rfl⟩ := trodVars_none hV
  obtain ⟨v0, v1, d0, d1, p0, p1, rfl, rfl, rfl, h0, h1⟩ := trodAll_two hA
  obtain ⟨s, rfl, rfl, rfl, wf_s⟩ := open_int Try.underlying22 (hval 0 22 v0 rfl rfl) h0
  obtain ⟨p, rfl, rfl, rfl, wf_p⟩ := open_int Try.underlying3 (hval 1 3 v1 rfl rfl) h1
  refine (nearestLaw s p W (bounds_u64 wf_s) (bounds_i64 wf_p)).mono fun e W' ⟨he, hb⟩ => ?_
  subst he
  revert hb
  simp only [List.append_nil] at hW'
  intro hb
  exact ⟨_, rfl, law_post (tb := 4) laidOut Try.underlying4 rfl (by rw [Try.params6]; intro t ht; revert ht; revert t; exact of_decide_eq_true (by kernel_rfl)) rfl rfl rfl rfl hW' hb⟩
theorem over : Rows.stampNearestRow.holds Try.pinned (OpenSpec.ofChange Rows.stampNearestSpec) :=
  OpenClaim.holds_of_wide 6 Try.f6 rfl rfl rfl rfl rfl rfl rfl ⟨rfl, rfl, rfl, rfl, rfl⟩ rfl rfl rfl rfl rfl (by kernel_rfl) Try.func6 (by kernel_rfl)
    (of_decide_eq_true (by kernel_rfl)) (by unfold Func.isWrapper; first | (rw [if_pos (by decide +kernel)]; kernel_rfl) | (rw [if_neg (by decide +kernel)]; exact ⟨rfl, rfl⟩))
    (fun os started H enc _ => lifted os started H enc)
theorem proved : Rows.StampNearestSaid :=
  over
#print axioms proved
end lawNearest
end Go.Proofs.Ytlhcdmmocmcecaa
