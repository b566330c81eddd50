/- ServerRoundTrip (P30.3, P30.4, the layer's theorem): for every input the law returns true, and its arguments read afterwards as before. No condition. -/
import Derived.Test.YtjclifjipphnkaaSvT
namespace Go.Proofs.Ytjclifjipphnkaa
open Go.ChangeShapes Go.WideShapes Go.ChangeAt Go.RowKit Go.Joins
set_option linter.unusedSimpArgs false
set_option linter.unusedVariables false
set_option maxRecDepth 100000
theorem tripLaw (a b : Int) (A1 A2 : Option Addr) (n1 c1 n2 c2 : Nat) (L1 L2 : Flds) (w : World) (ha : -9223372036854775808 ≤ a ∧ a ≤ 9223372036854775807) (hb : -9223372036854775808 ≤ b ∧ b ≤ 9223372036854775807)
    (hL1 : L1.length = n1) (hX1 : Xs w w.heap.size A1 L1) (hnc1 : n1 ≤ c1) (hc1 : c1 ≤ 9223372036854775807) (hsz1 : ∀ k, k < n1 → (dtL L1 k).length ≤ 140737488351232)
    (hL2 : L2.length = n2) (hX2 : Xs w w.heap.size A2 L2) (hnc2 : n2 ≤ c2) (hc2 : c2 ≤ 9223372036854775807) (hA2 : A2 = none → n2 = 0 ∧ c2 = 0) (hsz2 : ∀ k, k < n2 → (dtL L2 k).length ≤ 140737488351232) :
    Calls Try.prog 7 #[.agg (ivL a b).toArray, .slice A1 n1 c1, .slice A2 n2 c2] w fun e w' => e = .returned (.bool true) ∧ Below w.heap.size w w' := by
  cases h : ivB a b with
  | true => exact tripLaw_yes a b A1 A2 n1 c1 n2 c2 L1 L2 w ha hb h hL1 hX1 hnc1 hc1 hsz1 hL2 hX2 hnc2 hc2 hA2 hsz2
  | false => exact tripLaw_no a b A1 A2 n1 c1 n2 c2 w h
namespace lawTrip
set_option maxRecDepth 100000 in
theorem lifted (os : Os) (started : os.Started) (H : Type) (enc : TypeId × Value → H) :
    ReturnsInHanded {} Try.checked os 7 .any (Rows.serverRoundTripSpec.pre6 enc Try.prog Try.f7 Rows.serverRoundTripRow.domain false) (Rows.serverRoundTripSpec.post enc Try.prog Try.f7 false true false false) := by
  refine returnsInHanded_of_change_sized (C := Try.checked) own started (by kernel_rfl) Try.func7
    (ChangeSpec.witness6 (enc := enc) (C := Try.checked) false ⟨#[], #[.agg #[.int .i64 0, .int .i64 0], .slice none 0 0, .slice none 0 0], []⟩ 8 (by kernel_rfl) (by kernel_rfl) (by kernel_rfl) (by kernel_rfl)) ?_
  intro W base args ds gs before hval0 hW hcnd hsz0 _
  have hval : ∀ (j : Nat) t v, Try.f7.params[j]? = some t → args[j]? = some v → Value.okWide Try.prog W .any base t v := hval0
  have hW' := hW
  obtain ⟨p, q, hA0, hV, rfl, hfz, hnd⟩ := hW
  have hA : DataW.TrodAll enc Try.prog W 0 (fun _ => true) true Try.f7.params.toList args.toList ds p := hA0
  have hsz : (DataW.weightsEach Try.prog (Try.f7.params.toList ++ Rows.serverRoundTripSpec.plain.varTypes Try.prog) (ds ++ gs)).all (· ≤ reachBytes) = true := hsz0
  rw [Try.params7] at hA hval hsz
  obtain ⟨rfl, rfl⟩ := trodVars_none hV
  obtain ⟨v0, v1, v2, d0, d1, d2, p0, p1, p2, rfl, rfl, rfl, h0, h1, h2⟩ := trodAll_three hA
  obtain ⟨cs, fuel, x, rfl, hx⟩ := open_struct Try.underlying46 (hval 0 46 v0 rfl rfl) h0
  obtain ⟨a, b, rfl, ha, hb⟩ := iv_cells hx
  obtain ⟨A1, n1, c1, L1, rfl, hL1, hX1, hnc1, hc1, _, hz1⟩ := open_exts (hval 1 47 v1 rfl rfl) h1
  obtain ⟨A2, n2, c2, L2, rfl, hL2, hX2, hnc2, hc2, hA2, hz2⟩ := open_exts (hval 2 47 v2 rfl rfl) h2
  have hsz1 := hz1 hsz (j := 1) rfl rfl
  have hsz2 := hz2 hsz (j := 2) rfl rfl
  refine (tripLaw a b A1 A2 n1 c1 n2 c2 L1 L2 W ha hb hL1 hX1 hnc1 hc1 hsz1 hL2 hX2 hnc2 hc2 hA2 hsz2).mono fun e W' ⟨he, hb⟩ => ?_
  subst he
  revert hb
  simp only [List.append_nil] at hW'
  intro hb
  exact ⟨_, rfl, law_post (tb := 4) laidOut Try.underlying4 rfl (by rw [Try.params7]; intro t ht; revert ht; revert t; exact of_decide_eq_true (by kernel_rfl)) rfl rfl rfl rfl hW' hb⟩
theorem over : Rows.serverRoundTripRow.holds Try.pinned (OpenSpec.ofChange Rows.serverRoundTripSpec) :=
  OpenClaim.holds_of_wide 7 Try.f7 rfl rfl rfl rfl rfl rfl rfl ⟨rfl, rfl, rfl, rfl, rfl⟩ rfl rfl rfl rfl rfl (by kernel_rfl) Try.func7 (by kernel_rfl)
    (of_decide_eq_true (by kernel_rfl)) (by unfold Func.isWrapper; first | (rw [if_pos (by decide +kernel)]; kernel_rfl) | (rw [if_neg (by decide +kernel)]; exact ⟨rfl, rfl⟩))
    (fun os started H enc _ => lifted os started H enc)
theorem proved : Rows.ServerRoundTripSaid :=
  over
#print axioms proved
end lawTrip
end Go.Proofs.Ytjclifjipphnkaa
