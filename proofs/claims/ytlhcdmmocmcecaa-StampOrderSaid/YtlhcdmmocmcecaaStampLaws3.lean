/- The laws on differences, units, short forms and order: each returns true, for every input. -/
import Derived.Test.YtlhcdmmocmcecaaStampLaws2
namespace Go.Proofs.Ytlhcdmmocmcecaa
open Go.ChangeShapes Go.WideShapes Go.ChangeAt Go.RowKit Go.Joins
set_option linter.unusedSimpArgs false
set_option linter.unusedVariables false
set_option maxHeartbeats 2000000 in
theorem differsLaw (a b c : Int) (w : World) :
    Calls Try.prog 7 #[.int .u64 a, .int .u64 b, .int .u64 c] w fun e w' => e = .returned (.bool true) ∧ Below w.heap.size w w' := by
  have B0 : Below w.heap.size w w := Below.refl _ _
  have c1 := fun W => diff_any a b W
  have c2 := fun W => diff_any b c W
  have c3 := fun W => diff_any a c W
  have c4 := fun W => rdiff_any a b W
  have c5 := fun W => diff_any a a W
  have c6 := fun W => diff_any b a W
  have hr := diffN_rng a b
  have hr1 := hr.1
  have hr2 := hr.2
  have hs := diffN_rng b c
  have hself := diff_self a
  have hneg : diffN a b ≠ -9223372036854775808 → diffN b a = -diffN a b := diff_neg
  have hadd : -2305843009213693952 < diffN a b → diffN a b < 2305843009213693952 → -2305843009213693952 < diffN b c → diffN b c < 2305843009213693952 → diffN a c = diffN a b + diffN b c := diff_add
  generalize diffN a b = x at *
  generalize diffN b c = y at *
  generalize diffN a c = z at *
  generalize diffN b a = v at *
  generalize diffN a a = u at *
  subst hself
  by_cases hx : x = -9223372036854775808
  · subst hx
    clear hneg hadd
    go_enter Try.func7, Try.ntmps7
    go_wp2_with fail
    refine (c1 _).mono ?_
    rintro e _ ⟨rfl, rfl⟩
    go_wp2_with fail
    refine (c2 _).mono ?_
    rintro e _ ⟨rfl, rfl⟩
    go_wp2_with fail
    refine (c3 _).mono ?_
    rintro e _ ⟨rfl, rfl⟩
    go_wp2_with fail
    refine (c4 _).mono ?_
    rintro e _ ⟨rfl, rfl⟩
    go_wp2_with fail
    refine (c5 _).mono ?_
    rintro e _ ⟨rfl, rfl⟩
    go_wp2_with fail
    refine (awake_any _).mono ?_
    rintro e w1 ⟨rfl, hb⟩
    have B1 := (B0).trans (hb.mono (B0).size)
    clear hb
    go_wp2
    go_ret
    exact ⟨rfl, B1⟩
  · have hx' : (x != -9223372036854775808) = true := by simpa using hx
    obtain rfl := hneg hx
    have hng : wrap64 (-x) = -x := by unfold wrap64; omega
    by_cases hq : (-2305843009213693952 < x ∧ x < 2305843009213693952) ∧ (-2305843009213693952 < y ∧ y < 2305843009213693952)
    · obtain rfl := hadd hq.1.1 hq.1.2 hq.2.1 hq.2.2
      have q1 := hq.1.1
      have q2 := hq.1.2
      have q3 := hq.2.1
      have q4 := hq.2.2
      clear hadd hneg hx hq
      go_enter Try.func7, Try.ntmps7
      go_wp2_with fail
      refine (c1 _).mono ?_
      rintro e _ ⟨rfl, rfl⟩
      go_wp2_with fail
      refine (c2 _).mono ?_
      rintro e _ ⟨rfl, rfl⟩
      go_wp2_with fail
      refine (c3 _).mono ?_
      rintro e _ ⟨rfl, rfl⟩
      go_wp2_with fail
      refine (c4 _).mono ?_
      rintro e _ ⟨rfl, rfl⟩
      go_wp2_with fail
      refine (c5 _).mono ?_
      rintro e _ ⟨rfl, rfl⟩
      go_wp2_with fail
      refine (c6 _).mono ?_
      rintro e _ ⟨rfl, rfl⟩
      go_wp2_with fail
      refine (awake_any _).mono ?_
      rintro e w1 ⟨rfl, hb⟩
      have B1 := (B0).trans (hb.mono (B0).size)
      clear hb
      go_wp2
      go_ret
      exact ⟨rfl, B1⟩
    · clear hadd hneg hx
      rcases (show x ≤ -2305843009213693952 ∨ (-2305843009213693952 < x ∧ 2305843009213693952 ≤ x) ∨ (-2305843009213693952 < x ∧ x < 2305843009213693952 ∧ y ≤ -2305843009213693952) ∨ (-2305843009213693952 < x ∧ x < 2305843009213693952 ∧ -2305843009213693952 < y ∧ 2305843009213693952 ≤ y) by omega) with q1 | ⟨q1, q2⟩ | ⟨q1, q2, q3⟩ | ⟨q1, q2, q3, q4⟩
      all_goals
        clear hq
        go_enter Try.func7, Try.ntmps7
        go_wp2_with fail
        refine (c1 _).mono ?_
        rintro e _ ⟨rfl, rfl⟩
        go_wp2_with fail
        refine (c2 _).mono ?_
        rintro e _ ⟨rfl, rfl⟩
        go_wp2_with fail
        refine (c3 _).mono ?_
        rintro e _ ⟨rfl, rfl⟩
        go_wp2_with fail
        refine (c4 _).mono ?_
        rintro e _ ⟨rfl, rfl⟩
        go_wp2_with fail
        refine (c5 _).mono ?_
        rintro e _ ⟨rfl, rfl⟩
        go_wp2_with fail
        refine (c6 _).mono ?_
        rintro e _ ⟨rfl, rfl⟩
        go_wp2_with fail
        refine (awake_any _).mono ?_
        rintro e w1 ⟨rfl, hb⟩
        have B1 := (B0).trans (hb.mono (B0).size)
        clear hb
        go_wp2
        go_ret
        exact ⟨rfl, B1⟩
set_option maxHeartbeats 2000000 in
theorem unitsLaw (ns u : Int) (w : World) (hn : (-9223372036854775808 ≤ ns ∧ ns ≤ 9223372036854775807)) (hu : (-9223372036854775808 ≤ u ∧ u ≤ 9223372036854775807)) :
    Calls Try.prog 8 #[.int .i64 ns, .int .i64 u] w fun e w' => e = .returned (.bool true) ∧ Below w.heap.size w w' := by
  have B0 : Below w.heap.size w w := Below.refl _ _
  cases ho : unOk ns
  · have c1 := fun W => units_any ns W hn.1 hn.2
    have c2 := fun W => runits_any ns W hn.1 hn.2
    simp only [ho] at c1 c2
    go_enter Try.func8, Try.ntmps8
    go_wp2_with fail
    refine (c1 _).mono ?_
    rintro e w1 ⟨rfl, hb⟩
    have B1 := (B0).trans (hb.mono (B0).size)
    clear hb
    go_wp2_with fail
    refine (c2 _).mono ?_
    rintro e _ ⟨rfl, rfl⟩
    go_wp2_with fail
    refine (nanos_any u _ hu.1 hu.2).mono ?_
    rintro e _ ⟨rfl, rfl⟩
    go_wp2_with fail
    refine (rnanos_any u _ hu.1 hu.2).mono ?_
    rintro e _ ⟨rfl, rfl⟩
    go_wp2_with fail
    refine (awake_any _).mono ?_
    rintro e w5 ⟨rfl, hb⟩
    have B5 := (B1).trans (hb.mono (B1).size)
    clear hb
    go_wp2
    go_ret
    exact ⟨rfl, B5⟩
  · have c1 := fun W => units_any ns W hn.1 hn.2
    have c2 := fun W => runits_any ns W hn.1 hn.2
    have hz := unZ_rng ns
    have c3 := fun W => nanos_any (unZ ns) W hz.1 hz.2
    simp only [ho] at c1 c2
    simp only [units_back ho] at c3
    go_enter Try.func8, Try.ntmps8
    go_wp2_with fail
    refine (c1 _).mono ?_
    rintro e w1 ⟨rfl, hb⟩
    have B1 := (B0).trans (hb.mono (B0).size)
    clear hb
    go_wp2_with fail
    refine (c2 _).mono ?_
    rintro e _ ⟨rfl, rfl⟩
    go_wp2_with fail
    refine (nanos_any u _ hu.1 hu.2).mono ?_
    rintro e _ ⟨rfl, rfl⟩
    go_wp2_with fail
    refine (rnanos_any u _ hu.1 hu.2).mono ?_
    rintro e _ ⟨rfl, rfl⟩
    go_wp2_with fail
    refine (c3 _).mono ?_
    rintro e _ ⟨rfl, rfl⟩
    go_wp2_with fail
    refine (awake_any _).mono ?_
    rintro e w5 ⟨rfl, hb⟩
    have B5 := (B1).trans (hb.mono (B1).size)
    clear hb
    go_wp2
    go_ret
    exact ⟨rfl, B5⟩
set_option maxHeartbeats 2000000 in
theorem shortLaw (ns s : Int) (w : World) (hn : (-9223372036854775808 ≤ ns ∧ ns ≤ 9223372036854775807)) (hs : 0 ≤ s ∧ s ≤ 4294967295) :
    Calls Try.prog 9 #[.int .i64 ns, .int .u32 s] w fun e w' => e = .returned (.bool true) ∧ Below w.heap.size w w' := by
  have B0 : Below w.heap.size w w := Below.refl _ _
  have c1 := fun W => short_any ns W hn.1 hn.2
  have c2 := fun W => rshort_any ns W hn.1 hn.2
  by_cases he : shortErr ns = 0
  · have hl := short_long he
    have hns0 : 0 ≤ ns := by unfold shortErr at he; split at he <;> omega
    have c3 := fun W => long_any (shortN ns) W hl.1 hl.2.1
    simp only [he, z0_zero] at c1 c2
    have g1 := hl.2.2.1
    have g2 := hl.2.2.2.1
    have g3 := hl.2.2.2.2
    clear hl he
    go_enter Try.func9, Try.ntmps9
    go_wp2_with fail
    refine (c1 _).mono ?_
    rintro e _ ⟨rfl, rfl⟩
    go_wp2_with fail
    refine (c2 _).mono ?_
    rintro e _ ⟨rfl, rfl⟩
    go_wp2_with fail
    refine (long_any s _ hs.1 hs.2).mono ?_
    rintro e _ ⟨rfl, rfl⟩
    go_wp2_with fail
    refine (rlong_any s _ hs.1 hs.2).mono ?_
    rintro e _ ⟨rfl, rfl⟩
    go_wp2_with fail
    refine (c3 _).mono ?_
    rintro e _ ⟨rfl, rfl⟩
    go_wp2_with fail
    refine (awake_any _).mono ?_
    rintro e w5 ⟨rfl, hb⟩
    have B5 := (B0).trans (hb.mono (B0).size)
    clear hb
    go_wp2
    go_ret
    exact ⟨rfl, B5⟩
  · have h3 : shortErr ns = 3 := by unfold shortErr at *; split <;> simp_all
    simp only [h3, z0_three] at c1 c2
    clear he h3
    go_enter Try.func9, Try.ntmps9
    go_wp2_with fail
    refine (c1 _).mono ?_
    rintro e _ ⟨rfl, rfl⟩
    go_wp2_with fail
    refine (c2 _).mono ?_
    rintro e _ ⟨rfl, rfl⟩
    go_wp2_with fail
    refine (long_any s _ hs.1 hs.2).mono ?_
    rintro e _ ⟨rfl, rfl⟩
    go_wp2_with fail
    refine (rlong_any s _ hs.1 hs.2).mono ?_
    rintro e _ ⟨rfl, rfl⟩
    go_wp2_with fail
    refine (awake_any _).mono ?_
    rintro e w5 ⟨rfl, hb⟩
    have B5 := (B0).trans (hb.mono (B0).size)
    clear hb
    go_wp2
    go_ret
    exact ⟨rfl, B5⟩
theorem order_diff {a b : Int} (h : a ≤ b) (h2 : b - a < 2147483648000000000) : 0 ≤ diffN (ofN b) (ofN a) := by
  have h1 := unU_near (a := b) (b := a) h2 (by omega)
  rw [diff_U (by omega)]
  have := unU_le h
  omega
set_option maxHeartbeats 4000000 in
theorem orderLaw (a b : Int) (w : World) (ha : (-9223372036854775808 ≤ a ∧ a ≤ 9223372036854775807)) (hb : (-9223372036854775808 ≤ b ∧ b ≤ 9223372036854775807)) :
    Calls Try.prog 11 #[.int .i64 a, .int .i64 b] w fun e w' => e = .returned (.bool true) ∧ Below w.heap.size w w' := by
  have B0 : Below w.heap.size w w := Below.refl _ _
  by_cases hi : maxT a
  · have i1 := insB_t hi
    by_cases hj : maxT b
    · have i2 := insB_t hj
      have c3 := fun W => apart_any a b W hi hj
      by_cases hn : apN a b < 2147483648000000000
      · by_cases hab : b < a
        · have hd : a - b < 2147483648000000000 := by unfold apN at hn; split at hn <;> omega
          have o1 := order_diff (a := b) (b := a) (by omega) hd
          have o2 := era_le (a := b) (b := a) (by omega) hd
          have o3 := o2.1
          have o4 := o2.2
          have o5 : -2147483649 ≤ eraN b ∧ eraN a ≤ 2147483648 := by unfold eraN; omega
          clear hi hj hd o2
          go_enter Try.func11, Try.ntmps11
          go_wp2_with fail
          refine (inside_any a _).mono ?_
          rintro e _ ⟨rfl, rfl⟩
          go_wp2_with fail
          refine (inside_any b _).mono ?_
          rintro e _ ⟨rfl, rfl⟩
          go_wp2_with fail
          refine (c3 _).mono ?_
          rintro e _ ⟨rfl, rfl⟩
          go_wp2_with fail
          refine (of_any a _ ha.1 ha.2).mono ?_
          rintro e w1 ⟨rfl, hb⟩
          have B1 := (B0).trans (hb.mono (B0).size)
          clear hb
          go_wp2_with fail
          refine (of_any b _ hb.1 hb.2).mono ?_
          rintro e w2 ⟨rfl, hb⟩
          have B2 := (B1).trans (hb.mono (B1).size)
          clear hb
          go_wp2_with fail
          refine (diff_any _ _ _).mono ?_
          rintro e _ ⟨rfl, rfl⟩
          go_wp2_with fail
          refine (era_any a _ ha.1 ha.2).mono ?_
          rintro e w3 ⟨rfl, hb⟩
          have B3 := (B2).trans (hb.mono (B2).size)
          clear hb
          go_wp2_with fail
          refine (era_any b _ hb.1 hb.2).mono ?_
          rintro e w4 ⟨rfl, hb⟩
          have B4 := (B3).trans (hb.mono (B3).size)
          clear hb
          go_wp2_with fail
          refine (era_any a _ ha.1 ha.2).mono ?_
          rintro e w5 ⟨rfl, hb⟩
          have B5 := (B4).trans (hb.mono (B4).size)
          clear hb
          go_wp2_with fail
          refine (era_any b _ hb.1 hb.2).mono ?_
          rintro e w6 ⟨rfl, hb⟩
          have B6 := (B5).trans (hb.mono (B5).size)
          clear hb
          go_wp2_with fail
          refine (awake_any _).mono ?_
          rintro e w7 ⟨rfl, hb⟩
          have B7 := (B6).trans (hb.mono (B6).size)
          clear hb
          go_wp2
          go_ret
          exact ⟨rfl, B7⟩
        · have hd : b - a < 2147483648000000000 := by unfold apN at hn; split at hn <;> omega
          have o1 := order_diff (a := a) (b := b) (by omega) hd
          have o2 := era_le (a := a) (b := b) (by omega) hd
          have o3 := o2.1
          have o4 := o2.2
          have o5 : -2147483649 ≤ eraN a ∧ eraN b ≤ 2147483648 := by unfold eraN; omega
          clear hi hj hd o2
          go_enter Try.func11, Try.ntmps11
          go_wp2_with fail
          refine (inside_any a _).mono ?_
          rintro e _ ⟨rfl, rfl⟩
          go_wp2_with fail
          refine (inside_any b _).mono ?_
          rintro e _ ⟨rfl, rfl⟩
          go_wp2_with fail
          refine (c3 _).mono ?_
          rintro e _ ⟨rfl, rfl⟩
          go_wp2_with fail
          refine (of_any b _ hb.1 hb.2).mono ?_
          rintro e w1 ⟨rfl, hb⟩
          have B1 := (B0).trans (hb.mono (B0).size)
          clear hb
          go_wp2_with fail
          refine (of_any a _ ha.1 ha.2).mono ?_
          rintro e w2 ⟨rfl, hb⟩
          have B2 := (B1).trans (hb.mono (B1).size)
          clear hb
          go_wp2_with fail
          refine (diff_any _ _ _).mono ?_
          rintro e _ ⟨rfl, rfl⟩
          go_wp2_with fail
          refine (era_any b _ hb.1 hb.2).mono ?_
          rintro e w3 ⟨rfl, hb⟩
          have B3 := (B2).trans (hb.mono (B2).size)
          clear hb
          go_wp2_with fail
          refine (era_any a _ ha.1 ha.2).mono ?_
          rintro e w4 ⟨rfl, hb⟩
          have B4 := (B3).trans (hb.mono (B3).size)
          clear hb
          go_wp2_with fail
          refine (era_any b _ hb.1 hb.2).mono ?_
          rintro e w5 ⟨rfl, hb⟩
          have B5 := (B4).trans (hb.mono (B4).size)
          clear hb
          go_wp2_with fail
          refine (era_any a _ ha.1 ha.2).mono ?_
          rintro e w6 ⟨rfl, hb⟩
          have B6 := (B5).trans (hb.mono (B5).size)
          clear hb
          go_wp2_with fail
          refine (awake_any _).mono ?_
          rintro e w7 ⟨rfl, hb⟩
          have B7 := (B6).trans (hb.mono (B6).size)
          clear hb
          go_wp2
          go_ret
          exact ⟨rfl, B7⟩
      · have hn' : 2147483648000000000 ≤ apN a b := by omega
        clear hi hj hn
        go_enter Try.func11, Try.ntmps11
        go_wp2_with fail
        refine (inside_any a _).mono ?_
        rintro e _ ⟨rfl, rfl⟩
        go_wp2_with fail
        refine (inside_any b _).mono ?_
        rintro e _ ⟨rfl, rfl⟩
        go_wp2_with fail
        refine (c3 _).mono ?_
        rintro e _ ⟨rfl, rfl⟩
        go_wp2_with fail
        refine (awake_any _).mono ?_
        rintro e w7 ⟨rfl, hb⟩
        have B7 := (B0).trans (hb.mono (B0).size)
        clear hb
        go_wp2
        go_ret
        exact ⟨rfl, B7⟩
    · have i2 := insB_f hj
      clear hi hj
      go_enter Try.func11, Try.ntmps11
      go_wp2_with fail
      refine (inside_any a _).mono ?_
      rintro e _ ⟨rfl, rfl⟩
      go_wp2_with fail
      refine (inside_any b _).mono ?_
      rintro e _ ⟨rfl, rfl⟩
      go_wp2_with fail
      refine (awake_any _).mono ?_
      rintro e w7 ⟨rfl, hb⟩
      have B7 := (B0).trans (hb.mono (B0).size)
      clear hb
      go_wp2
      go_ret
      exact ⟨rfl, B7⟩
  · have i1 := insB_f hi
    clear hi
    go_enter Try.func11, Try.ntmps11
    go_wp2_with fail
    refine (inside_any a _).mono ?_
    rintro e _ ⟨rfl, rfl⟩
    go_wp2_with fail
    refine (awake_any _).mono ?_
    rintro e w7 ⟨rfl, hb⟩
    have B7 := (B0).trans (hb.mono (B0).size)
    clear hb
    go_wp2
    go_ret
    exact ⟨rfl, B7⟩
namespace lawDiffers
set_option maxRecDepth 100000 in
theorem lifted (os : Os) (started : os.Started) (H : Type) (enc : TypeId × Value → H) :
    ReturnsInHanded {} Try.checked os 7 .any (Rows.stampDiffersSpec.pre6 enc Try.prog Try.f7 Rows.stampDiffersRow.domain false) (Rows.stampDiffersSpec.post enc Try.prog Try.f7 false true false false) := by
  refine returnsInHanded_of_change (C := Try.checked) own started (by kernel_rfl) Try.func7
    (ChangeSpec.witness6 (enc := enc) (C := Try.checked) false ⟨#[], #[.int .u64 0, .int .u64 0, .int .u64 0], []⟩ 8 (by kernel_rfl) (by kernel_rfl) (by kernel_rfl) (by kernel_rfl)) ?_
  intro W base args ds gs before hval0 hW hcnd _
  have hval : ∀ (j : Nat) t v, Try.f7.params[j]? = some t → args[j]? = some v → Value.okWide Try.prog W .any base t v := hval0
  have hW' := hW
  obtain ⟨p, q, hA0, hV, rfl, hfz, hnd⟩ := hW
  have hA : DataW.TrodAll enc Try.prog W 0 (fun _ => true) true Try.f7.params.toList args.toList ds p := hA0
  rw [Try.params7] at hA hval
  obtain ⟨rfl, rfl⟩ := trodVars_none hV
  obtain ⟨v0, v1, v2, d0, d1, d2, p0, p1, p2, rfl, rfl, rfl, h0, h1, h2⟩ := trodAll_three hA
  obtain ⟨a, rfl, rfl, rfl, wf_a⟩ := open_int Try.underlying22 (hval 0 22 v0 rfl rfl) h0
  obtain ⟨b, rfl, rfl, rfl, wf_b⟩ := open_int Try.underlying22 (hval 1 22 v1 rfl rfl) h1
  obtain ⟨c, rfl, rfl, rfl, wf_c⟩ := open_int Try.underlying22 (hval 2 22 v2 rfl rfl) h2
  refine (differsLaw a b c W).mono fun e W' ⟨he, hb⟩ => ?_
  subst he
  revert hb
  simp only [List.append_nil] at hW'
  intro hb
  exact ⟨_, rfl, law_post (tb := 4) laidOut Try.underlying4 rfl (by rw [Try.params7]; intro t ht; revert ht; revert t; exact of_decide_eq_true (by kernel_rfl)) rfl rfl rfl rfl hW' hb⟩
theorem over : Rows.stampDiffersRow.holds Try.pinned (OpenSpec.ofChange Rows.stampDiffersSpec) :=
  OpenClaim.holds_of_wide 7 Try.f7 rfl rfl rfl rfl rfl rfl rfl ⟨rfl, rfl, rfl, rfl, rfl⟩ rfl rfl rfl rfl rfl (by kernel_rfl) Try.func7 (by kernel_rfl)
    (of_decide_eq_true (by kernel_rfl)) (by unfold Func.isWrapper; first | (rw [if_pos (by decide +kernel)]; kernel_rfl) | (rw [if_neg (by decide +kernel)]; exact ⟨rfl, rfl⟩))
    (fun os started H enc _ => lifted os started H enc)
theorem proved : Rows.StampDiffersSaid :=
  over
#print axioms proved
end lawDiffers
namespace lawUnits
set_option maxRecDepth 100000 in
theorem lifted (os : Os) (started : os.Started) (H : Type) (enc : TypeId × Value → H) :
    ReturnsInHanded {} Try.checked os 8 .any (Rows.stampUnitsSpec.pre6 enc Try.prog Try.f8 Rows.stampUnitsRow.domain false) (Rows.stampUnitsSpec.post enc Try.prog Try.f8 false true false false) := by
  refine returnsInHanded_of_change (C := Try.checked) own started (by kernel_rfl) Try.func8
    (ChangeSpec.witness6 (enc := enc) (C := Try.checked) false ⟨#[], #[.int .i64 0, .int .i64 0], []⟩ 8 (by kernel_rfl) (by kernel_rfl) (by kernel_rfl) (by kernel_rfl)) ?_
  intro W base args ds gs before hval0 hW hcnd _
  have hval : ∀ (j : Nat) t v, Try.f8.params[j]? = some t → args[j]? = some v → Value.okWide Try.prog W .any base t v := hval0
  have hW' := hW
  obtain ⟨p, q, hA0, hV, rfl, hfz, hnd⟩ := hW
  have hA : DataW.TrodAll enc Try.prog W 0 (fun _ => true) true Try.f8.params.toList args.toList ds p := hA0
  rw [Try.params8] at hA hval
  obtain ⟨rfl, rfl⟩ := trodVars_none hV
  obtain ⟨v0, v1, d0, d1, p0, p1, rfl, rfl, rfl, h0, h1⟩ := trodAll_two hA
  obtain ⟨a, rfl, rfl, rfl, wf_a⟩ := open_int Try.underlying3 (hval 0 3 v0 rfl rfl) h0
  obtain ⟨b, rfl, rfl, rfl, wf_b⟩ := open_int Try.underlying3 (hval 1 3 v1 rfl rfl) h1
  refine (unitsLaw a b W (bounds_i64 wf_a) (bounds_i64 wf_b)).mono fun e W' ⟨he, hb⟩ => ?_
  subst he
  revert hb
  simp only [List.append_nil] at hW'
  intro hb
  exact ⟨_, rfl, law_post (tb := 4) laidOut Try.underlying4 rfl (by rw [Try.params8]; intro t ht; revert ht; revert t; exact of_decide_eq_true (by kernel_rfl)) rfl rfl rfl rfl hW' hb⟩
theorem over : Rows.stampUnitsRow.holds Try.pinned (OpenSpec.ofChange Rows.stampUnitsSpec) :=
  OpenClaim.holds_of_wide 8 Try.f8 rfl rfl rfl rfl rfl rfl rfl ⟨rfl, rfl, rfl, rfl, rfl⟩ rfl rfl rfl rfl rfl (by kernel_rfl) Try.func8 (by kernel_rfl)
    (of_decide_eq_true (by kernel_rfl)) (by unfold Func.isWrapper; first | (rw [if_pos (by decide +kernel)]; kernel_rfl) | (rw [if_neg (by decide +kernel)]; exact ⟨rfl, rfl⟩))
    (fun os started H enc _ => lifted os started H enc)
theorem proved : Rows.StampUnitsSaid :=
  over
#print axioms proved
end lawUnits
namespace lawShort
set_option maxRecDepth 100000 in
theorem lifted (os : Os) (started : os.Started) (H : Type) (enc : TypeId × Value → H) :
    ReturnsInHanded {} Try.checked os 9 .any (Rows.stampShortSpec.pre6 enc Try.prog Try.f9 Rows.stampShortRow.domain false) (Rows.stampShortSpec.post enc Try.prog Try.f9 false true false false) := by
  refine returnsInHanded_of_change (C := Try.checked) own started (by kernel_rfl) Try.func9
    (ChangeSpec.witness6 (enc := enc) (C := Try.checked) false ⟨#[], #[.int .i64 0, .int .u32 0], []⟩ 8 (by kernel_rfl) (by kernel_rfl) (by kernel_rfl) (by kernel_rfl)) ?_
  intro W base args ds gs before hval0 hW hcnd _
  have hval : ∀ (j : Nat) t v, Try.f9.params[j]? = some t → args[j]? = some v → Value.okWide Try.prog W .any base t v := hval0
  have hW' := hW
  obtain ⟨p, q, hA0, hV, rfl, hfz, hnd⟩ := hW
  have hA : DataW.TrodAll enc Try.prog W 0 (fun _ => true) true Try.f9.params.toList args.toList ds p := hA0
  rw [Try.params9] at hA hval
  obtain ⟨rfl, rfl⟩ := trodVars_none hV
  obtain ⟨v0, v1, d0, d1, p0, p1, rfl, rfl, rfl, h0, h1⟩ := trodAll_two hA
  obtain ⟨a, rfl, rfl, rfl, wf_a⟩ := open_int Try.underlying3 (hval 0 3 v0 rfl rfl) h0
  obtain ⟨b, rfl, rfl, rfl, wf_b⟩ := open_int Try.underlying37 (hval 1 37 v1 rfl rfl) h1
  refine (shortLaw a b W (bounds_i64 wf_a) (bounds_u32 wf_b)).mono fun e W' ⟨he, hb⟩ => ?_
  subst he
  revert hb
  simp only [List.append_nil] at hW'
  intro hb
  exact ⟨_, rfl, law_post (tb := 4) laidOut Try.underlying4 rfl (by rw [Try.params9]; intro t ht; revert ht; revert t; exact of_decide_eq_true (by kernel_rfl)) rfl rfl rfl rfl hW' hb⟩
theorem over : Rows.stampShortRow.holds Try.pinned (OpenSpec.ofChange Rows.stampShortSpec) :=
  OpenClaim.holds_of_wide 9 Try.f9 rfl rfl rfl rfl rfl rfl rfl ⟨rfl, rfl, rfl, rfl, rfl⟩ rfl rfl rfl rfl rfl (by kernel_rfl) Try.func9 (by kernel_rfl)
    (of_decide_eq_true (by kernel_rfl)) (by unfold Func.isWrapper; first | (rw [if_pos (by decide +kernel)]; kernel_rfl) | (rw [if_neg (by decide +kernel)]; exact ⟨rfl, rfl⟩))
    (fun os started H enc _ => lifted os started H enc)
theorem proved : Rows.StampShortSaid :=
  over
#print axioms proved
end lawShort
namespace lawOrder
set_option maxRecDepth 100000 in
theorem lifted (os : Os) (started : os.Started) (H : Type) (enc : TypeId × Value → H) :
    ReturnsInHanded {} Try.checked os 11 .any (Rows.stampOrderSpec.pre6 enc Try.prog Try.f11 Rows.stampOrderRow.domain false) (Rows.stampOrderSpec.post enc Try.prog Try.f11 false true false false) := by
  refine returnsInHanded_of_change (C := Try.checked) own started (by kernel_rfl) Try.func11
    (ChangeSpec.witness6 (enc := enc) (C := Try.checked) false ⟨#[], #[.int .i64 0, .int .i64 0], []⟩ 8 (by kernel_rfl) (by kernel_rfl) (by kernel_rfl) (by kernel_rfl)) ?_
  intro W base args ds gs before hval0 hW hcnd _
  have hval : ∀ (j : Nat) t v, Try.f11.params[j]? = some t → args[j]? = some v → Value.okWide Try.prog W .any base t v := hval0
  have hW' := hW
  obtain ⟨p, q, hA0, hV, rfl, hfz, hnd⟩ := hW
  have hA : DataW.TrodAll enc Try.prog W 0 (fun _ => true) true Try.f11.params.toList args.toList ds p := hA0
  rw [Try.params11] at hA hval
  obtain ⟨rfl, rfl⟩ := trodVars_none hV
  obtain ⟨v0, v1, d0, d1, p0, p1, rfl, rfl, rfl, h0, h1⟩ := trodAll_two hA
  obtain ⟨a, rfl, rfl, rfl, wf_a⟩ := open_int Try.underlying3 (hval 0 3 v0 rfl rfl) h0
  obtain ⟨b, rfl, rfl, rfl, wf_b⟩ := open_int Try.underlying3 (hval 1 3 v1 rfl rfl) h1
  refine (orderLaw a b W (bounds_i64 wf_a) (bounds_i64 wf_b)).mono fun e W' ⟨he, hb⟩ => ?_
  subst he
  revert hb
  simp only [List.append_nil] at hW'
  intro hb
  exact ⟨_, rfl, law_post (tb := 4) laidOut Try.underlying4 rfl (by rw [Try.params11]; intro t ht; revert ht; revert t; exact of_decide_eq_true (by kernel_rfl)) rfl rfl rfl rfl hW' hb⟩
theorem over : Rows.stampOrderRow.holds Try.pinned (OpenSpec.ofChange Rows.stampOrderSpec) :=
  OpenClaim.holds_of_wide 11 Try.f11 rfl rfl rfl rfl rfl rfl rfl ⟨rfl, rfl, rfl, rfl, rfl⟩ rfl rfl rfl rfl rfl (by kernel_rfl) Try.func11 (by kernel_rfl)
    (of_decide_eq_true (by kernel_rfl)) (by unfold Func.isWrapper; first | (rw [if_pos (by decide +kernel)]; kernel_rfl) | (rw [if_neg (by decide +kernel)]; exact ⟨rfl, rfl⟩))
    (fun os started H enc _ => lifted os started H enc)
theorem proved : Rows.StampOrderSaid :=
  over
#print axioms proved
end lawOrder
end Go.Proofs.Ytlhcdmmocmcecaa
