/- WireGets (P2.2): for every input the law returns true, and its arguments read afterwards as before. No condition. -/
import Derived.Test.YtaioikmgimffjaaWireAwake
import Derived.Test.YtaioikmgimffjaaOpen
namespace Go.Proofs.Ytaioikmgimffjaa
open Go.ChangeShapes Go.WideShapes Go.ChangeAt Go.RowKit Go.Joins
set_option linter.unusedSimpArgs false
set_option linter.unusedVariables false
set_option maxHeartbeats 1000000 in
theorem getsLaw (A : Option Addr) (c : Nat) (l : List Int) (at_ s : Int) (w : World) (h : Bs w 0 w.heap.size A l) (hm : l.length ≤ c) (hc : c ≤ 140737488351232) (hat : at_ ≤ 9223372036854775807) :
    Calls Try.prog 3 #[.slice A l.length c, .int .i64 at_, .int .i64 s] w fun e w' => e = .returned (.bool true) ∧ Below w.heap.size w w' := by
  go_enter Try.func3, Try.ntmps3
  go_wp2_with (first | (go_at_call 11; ((with_reducible refine (get_any A l.length c 0 w.heap.size l at_ s w rfl h hm (by omega) hat).mono ?_); rintro e w1 ⟨rfl, rfl⟩)) | (go_at_call 12; ((with_reducible refine (rget_any A l.length c 0 w.heap.size l at_ s w rfl h hm (by omega) hat).mono ?_); rintro e w2 ⟨rfl, rfl⟩)) | (go_at_call 13; ((with_reducible refine (awake_any _).mono ?_); rintro e w3 ⟨rfl, hb⟩)))
  go_ret
  exact ⟨rfl, hb⟩
namespace lawGets
set_option maxRecDepth 100000 in
theorem lifted (os : Os) (started : os.Started) (H : Type) (enc : TypeId × Value → H) :
    ReturnsInHanded {} Try.checked os 3 .any (Rows.wireGetsSpec.pre6 enc Try.prog Try.f3 Rows.wireGetsRow.domain false) (Rows.wireGetsSpec.post enc Try.prog Try.f3 false true false false) := by
  refine returnsInHanded_of_change_sized (C := Try.checked) own started (by kernel_rfl) Try.func3
    (ChangeSpec.witness6 (enc := enc) (C := Try.checked) false ⟨#[], #[.slice none 0 0, .int .i64 0, .int .i64 0], []⟩ 8 (by kernel_rfl) (by kernel_rfl) (by kernel_rfl) (by kernel_rfl)) ?_
  intro W base args ds gs before hval0 hW hcnd hsz0 _
  have hval : ∀ (j : Nat) t v, Try.f3.params[j]? = some t → args[j]? = some v → Value.okWide Try.prog W .any base t v := hval0
  have hW' := hW
  obtain ⟨p, q, hA0, hV, rfl, hfz, hnd⟩ := hW
  have hA : DataW.TrodAll enc Try.prog W 0 (fun _ => true) true Try.f3.params.toList args.toList ds p := hA0
  have hsz : (DataW.weightsEach Try.prog (Try.f3.params.toList ++ Rows.wireGetsSpec.plain.varTypes Try.prog) (ds ++ gs)).all (· ≤ reachBytes) = true := hsz0
  rw [Try.params3] at hA hval hsz
  obtain ⟨rfl, rfl⟩ := trodVars_none hV
  obtain ⟨v0, v1, v2, d0, d1, d2, p0, p1, p2, rfl, rfl, rfl, h0, h1, h2⟩ := trodAll_three hA
  obtain ⟨A, n, c, l, rfl, hn_l, hB_l, hc_l, hnil_l, hs_l⟩ := open_bs (hval 0 22 v0 rfl rfl) h0
  have hr_l := hs_l hsz (j := 0) rfl rfl
  subst hn_l
  obtain ⟨at_, rfl, rfl, rfl, wf_at_⟩ := open_int Try.underlying3 (hval 1 3 v1 rfl rfl) h1
  obtain ⟨s, rfl, rfl, rfl, wf_s⟩ := open_int Try.underlying3 (hval 2 3 v2 rfl rfl) h2
  have bat := bounds_i64 wf_at_
  refine (getsLaw A c l at_ s W hB_l hc_l hr_l bat.2).mono fun e W' ⟨he, hb⟩ => ?_
  subst he
  revert hb
  simp only [List.append_nil] at hW'
  intro hb
  exact ⟨_, rfl, law_post (tb := 4) laidOut Try.underlying4 rfl (by rw [Try.params3]; intro t ht; revert ht; revert t; exact of_decide_eq_true (by kernel_rfl)) rfl rfl rfl rfl hW' hb⟩
theorem over : Rows.wireGetsRow.holds Try.pinned (OpenSpec.ofChange Rows.wireGetsSpec) :=
  OpenClaim.holds_of_wide 3 Try.f3 rfl rfl rfl rfl rfl rfl rfl ⟨rfl, rfl, rfl, rfl, rfl⟩ rfl rfl rfl rfl rfl (by kernel_rfl) Try.func3 (by kernel_rfl)
    (of_decide_eq_true (by kernel_rfl)) (by unfold Func.isWrapper; first | (rw [if_pos (by decide +kernel)]; kernel_rfl) | (rw [if_neg (by decide +kernel)]; exact ⟨rfl, rfl⟩))
    (fun os started H enc _ => lifted os started H enc)
theorem proved : Rows.WireGetsSaid :=
  over
#print axioms proved
end lawGets
end Go.Proofs.Ytaioikmgimffjaa
