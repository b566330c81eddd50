/- WireSigned (P2.6): for every input the law returns true, and its arguments read afterwards as before. No condition. -/
import Derived.Test.YtaioikmgimffjaaWireAwake
import Derived.Test.YtaioikmgimffjaaOpen
namespace Go.Proofs.Ytaioikmgimffjaa
open Go.ChangeShapes Go.WideShapes Go.ChangeAt Go.RowKit Go.Joins
set_option linter.unusedSimpArgs false
set_option linter.unusedVariables false
theorem numB_bytesB (k : Nat) : ∀ n : Int, 0 ≤ n → n < 256 ^ k → n < 18446744073709551616 → numB (bytesB k n) = n := by
  induction k with
  | zero => intro n h0 h1 _; simp at h1; simp [bytesB, numB]; omega
  | succ k ih =>
    intro n h0 h1 h2
    rw [Int.pow_succ] at h1
    rw [bytesB, numB_app, ih (n / 256) (by omega) (by omega) (by omega)]
    unfold stepB; omega
theorem signed_arith (n m u : Int) (k : Nat) (h1 : 1 ≤ k) (h8 : k ≤ 8) (hm : wrap64 (n * 2 ^ (64 - 8 * k)) / 2 ^ (64 - 8 * k) = m) (hu : IntKind.u64.wrap (IntKind.u64.wrap m * 2 ^ (64 - 8 * k)) / 2 ^ (64 - 8 * k) = u) :
    0 ≤ u ∧ u < 256 ^ k ∧ u < 18446744073709551616 ∧ (if 2 * u < 256 ^ k then u else u - 256 ^ k) = m := by
  rw [IntKind.wrap_u64, IntKind.wrap_u64] at hu
  unfold wrap64 at hm
  have : k = 1 ∨ k = 2 ∨ k = 3 ∨ k = 4 ∨ k = 5 ∨ k = 6 ∨ k = 7 ∨ k = 8 := by omega
  rcases this with rfl | rfl | rfl | rfl | rfl | rfl | rfl | rfl <;> simp only [Nat.reduceMul, Nat.reduceSub, Int.reducePow] at hm hu ⊢ <;> (refine ⟨by omega, by omega, by omega, ?_⟩; split <;> omega)
theorem tk_all (l : List Int) (k : Nat) (h1 : 1 ≤ k) (h8 : k ≤ 8) (hl : l.length = k) : tkL l 0 k (szB k) = l ∧ tkR l 0 k (szB k) = [] ∧ tkE l 0 k (szB k) = 0 := by
  have hz : szB (k : Int) = true := decide_eq_true (by omega)
  have hk : tkOk l 0 k (szB k) = true := by rw [hz]; simp [tkOk]; omega
  refine ⟨?_, ?_, ?_⟩
  · rw [(tk_yes hk).1, List.take_of_length_le (by omega)]
  · rw [(tk_yes hk).2, List.drop_eq_nil_of_le (by omega)]
  · rw [hz]; simp [tkE]; omega
set_option maxHeartbeats 2000000 in
theorem signedLaw (n s : Int) (w : World) (hn : -9223372036854775808 ≤ n ∧ n ≤ 9223372036854775807) (hs : -9223372036854775808 ≤ s ∧ s ≤ 9223372036854775807) :
    Calls Try.prog 4 #[.int .i64 n, .int .i64 s] w fun e w' => e = .returned (.bool true) ∧ Below w.heap.size w w' := by
  obtain ⟨k, hk, k1, k8⟩ : ∃ k : Nat, s % 8 = (k : Int) - 1 ∧ 1 ≤ k ∧ k ≤ 8 := ⟨(s % 8).toNat + 1, by omega, by omega, by omega⟩
  have e1 : wrap64 ((IntKind.u64.wrap s).tmod 8) = (k : Int) - 1 := by
    rw [IntKind.wrap_u64, Int.tmod_eq_emod_of_nonneg (by omega)]; unfold wrap64; omega
  have k1' : (1 : Int) ≤ k := by omega
  have k8' : (k : Int) ≤ 8 := by omega
  obtain ⟨m, hm⟩ : ∃ m, wrap64 (n * 2 ^ (64 - 8 * k)) / 2 ^ (64 - 8 * k) = m := ⟨_, rfl⟩
  obtain ⟨u, hu⟩ : ∃ u, IntKind.u64.wrap (IntKind.u64.wrap m * 2 ^ (64 - 8 * k)) / 2 ^ (64 - 8 * k) = u := ⟨_, rfl⟩
  obtain ⟨u0, u1, u2, um⟩ := signed_arith n m u k k1 k8 hm hu
  have hlen := bytesB_length k u
  have hnum := numB_bytesB k u u0 u1 u2
  obtain ⟨tL, tR, tE⟩ := tk_all (bytesB k u) k k1 k8 hlen
  have hint : intB (bytesB k u) = m := by unfold intB; rw [hlen, if_neg (by omega), hnum]; exact um
  clear hk
  go_enter Try.func4, Try.ntmps4
  go_wp2_with fail
  refine (append_ok none 0 0 0 0 [] u k w rfl Bs.nil (by omega) (by simp) ⟨u0, u2⟩ k1 k8 u1).mono ?_
  rintro e w1 ⟨rfl, hO1, hz1, hb1⟩
  rw [List.nil_append] at hO1
  clear hz1
  have hB := hO1.bs.wide (Nat.zero_le _) (Nat.le_refl _)
  go_wp2_with fail
  refine (newReader_any (some ⟨w.heap.size, 0, none⟩) k k 0 w1.heap.size (bytesB k u) w1 hlen hB (Nat.le_refl _) (by omega)).mono ?_
  rintro e w2 ⟨g, rfl, hR, hgz, hb2⟩
  have hB2 := hB.below hb2 (Nat.le_refl _)
  have s2 := hb2.size
  have B2 := hb1.trans (hb2.mono (by have := hb1.size; omega))
  have hlo := hb1.size
  clear hB
  have hg2 := hR.lt
  go_wp2_with fail
  refine (newReader_any (some ⟨w.heap.size, 0, none⟩) k k 0 w1.heap.size (bytesB k u) w2 hlen hB2 (by omega) (by omega)).mono ?_
  rintro e w3 ⟨g', rfl, hR', hgz', hb3⟩
  have hR3 := hR.below hb3 hg2
  have B3 := B2.trans (hb3.mono (by have := B2.size; omega))
  have hg3 := hR'.lt
  have hlo' : w2.heap.size ≤ g' := by obtain ⟨_, _, _, _, _, _, _, _, h, _⟩ := hR'; omega
  have hlo1 : w1.heap.size ≤ g := by obtain ⟨_, _, _, _, _, _, _, _, h, _⟩ := hR; omega
  clear hR hB2 hgz hgz'
  go_wp2_with fail
  refine (int_any _ g (bytesB k u) 0 k _ hR3).mono ?_
  rintro e w4 ⟨rfl, hR4, hg4, s4⟩
  rw [tR, tE] at hR4
  rw [tL, hint]
  have hR4' := hR'.grown hg4 (by intro r hr; injection hr with hr; omega)
  have B4 := B3.trans (but_below hg4 (by omega) (by omega))
  clear hR3 hR' hg4
  go_wp2_with fail
  refine (uint_any _ g' (bytesB k u) 0 k _ hR4').mono ?_
  rintro e w5 ⟨rfl, hR5', hg5, s5⟩
  rw [tL, hnum]
  have hR5 := hR4.grown hg5 (by intro r hr; injection hr with hr; omega)
  have B5 := B4.trans (but_below hg5 (by omega) (by omega))
  clear hR4' hR4 hg5
  go_wp2_with fail
  refine (left_any _ g [] 0 _ hR5).mono ?_
  rintro e w6 ⟨rfl, rfl⟩
  go_wp2_with fail
  refine (err_any _ g [] 0 _ hR5).mono ?_
  rintro e w7 ⟨rfl, rfl⟩
  go_wp2_with fail
  refine (awake_any _).mono ?_
  rintro e w8 ⟨rfl, hb8⟩
  have B8 := B5.trans (hb8.mono (by have := B5.size; omega))
  go_wp2
  go_ret
  exact ⟨rfl, B8⟩
namespace lawSigned
set_option maxRecDepth 100000 in
theorem lifted (os : Os) (started : os.Started) (H : Type) (enc : TypeId × Value → H) :
    ReturnsInHanded {} Try.checked os 4 .any (Rows.wireSignedSpec.pre6 enc Try.prog Try.f4 Rows.wireSignedRow.domain false) (Rows.wireSignedSpec.post enc Try.prog Try.f4 false true false false) := by
  refine returnsInHanded_of_change_sized (C := Try.checked) own started (by kernel_rfl) Try.func4
    (ChangeSpec.witness6 (enc := enc) (C := Try.checked) false ⟨#[], #[.int .i64 0, .int .i64 0], []⟩ 8 (by kernel_rfl) (by kernel_rfl) (by kernel_rfl) (by kernel_rfl)) ?_
  intro W base args ds gs before hval0 hW hcnd hsz0 _
  have hval : ∀ (j : Nat) t v, Try.f4.params[j]? = some t → args[j]? = some v → Value.okWide Try.prog W .any base t v := hval0
  have hW' := hW
  obtain ⟨p, q, hA0, hV, rfl, hfz, hnd⟩ := hW
  have hA : DataW.TrodAll enc Try.prog W 0 (fun _ => true) true Try.f4.params.toList args.toList ds p := hA0
  have hsz : (DataW.weightsEach Try.prog (Try.f4.params.toList ++ Rows.wireSignedSpec.plain.varTypes Try.prog) (ds ++ gs)).all (· ≤ reachBytes) = true := hsz0
  rw [Try.params4] at hA hval hsz
  obtain ⟨rfl, rfl⟩ := trodVars_none hV
  obtain ⟨v0, v1, d0, d1, p0, p1, rfl, rfl, rfl, h0, h1⟩ := trodAll_two hA
  obtain ⟨n, rfl, rfl, rfl, wf_n⟩ := open_int Try.underlying3 (hval 0 3 v0 rfl rfl) h0
  obtain ⟨s, rfl, rfl, rfl, wf_s⟩ := open_int Try.underlying3 (hval 1 3 v1 rfl rfl) h1
  refine (signedLaw n s W (bounds_i64 wf_n) (bounds_i64 wf_s)).mono fun e W' ⟨he, hb⟩ => ?_
  subst he
  revert hb
  simp only [List.append_nil] at hW'
  intro hb
  exact ⟨_, rfl, law_post (tb := 4) laidOut Try.underlying4 rfl (by rw [Try.params4]; intro t ht; revert ht; revert t; exact of_decide_eq_true (by kernel_rfl)) rfl rfl rfl rfl hW' hb⟩
theorem over : Rows.wireSignedRow.holds Try.pinned (OpenSpec.ofChange Rows.wireSignedSpec) :=
  OpenClaim.holds_of_wide 4 Try.f4 rfl rfl rfl rfl rfl rfl rfl ⟨rfl, rfl, rfl, rfl, rfl⟩ rfl rfl rfl rfl rfl (by kernel_rfl) Try.func4 (by kernel_rfl)
    (of_decide_eq_true (by kernel_rfl)) (by unfold Func.isWrapper; first | (rw [if_pos (by decide +kernel)]; kernel_rfl) | (rw [if_neg (by decide +kernel)]; exact ⟨rfl, rfl⟩))
    (fun os started H enc _ => lifted os started H enc)
theorem proved : Rows.WireSignedSaid :=
  over
#print axioms proved
end lawSigned
end Go.Proofs.Ytaioikmgimffjaa
