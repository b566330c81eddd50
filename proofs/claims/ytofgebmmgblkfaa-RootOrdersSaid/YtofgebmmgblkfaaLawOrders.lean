/- RootOrders (P29.3): for every input the law returns true, and its arguments read afterwards as before. No condition. -/
import Derived.Test.YtofgebmmgblkfaaRootLaws
import Derived.Test.YtofgebmmgblkfaaRow
namespace Go.Proofs.Ytofgebmmgblkfaa
open Go.ChangeShapes Go.WideShapes Go.ChangeAt Go.RowKit Go.Joins
set_option linter.unusedSimpArgs false
set_option linter.unusedVariables false
set_option maxHeartbeats 1000000 in
theorem ordersLaw (s d p r s' d' p' r' : Int) (w : World) :
    Calls Try.prog 4 #[root s d p r, root s' d' p' r'] w fun e w' => e = .returned (.bool true) ∧ Below w.heap.size w w' := by
  go_enter Try.func4, Try.ntmps4
  go_wp2_with fail
  go_region_held3 (fun w' => (((w').cell? ⟨w.heap.size, 0, none⟩ = some (.int .i64 s) ∧ (w').cell? ⟨w.heap.size, 1, none⟩ = some (.int .i64 d) ∧ (w').cell? ⟨w.heap.size, 2, none⟩ = some (.int .i64 p) ∧ (w').cell? ⟨w.heap.size, 3, none⟩ = some (.int .u32 r) ∧ (∀ o, (w').frozen? ⟨w.heap.size, o, none⟩ = false)) ∧ ((w').cell? ⟨w.heap.size + 1, 0, none⟩ = some (.int .i64 s') ∧ (w').cell? ⟨w.heap.size + 1, 1, none⟩ = some (.int .i64 d') ∧ (w').cell? ⟨w.heap.size + 1, 2, none⟩ = some (.int .i64 p') ∧ (w').cell? ⟨w.heap.size + 1, 3, none⟩ = some (.int .u32 r') ∧ (∀ o, (w').frozen? ⟨w.heap.size + 1, o, none⟩ = false)) ∧ w.heap.size + 1 < (w').heap.size ∧ Below w.heap.size w (w'))) ((go_split_ands; (repeat' apply And.intro) <;> first | assumption | (refine kept_cell hb ?_ ?_ <;> first | assumption | omega | (dsimp only; omega) | (simp <;> omega) | (simp [go_sem, *]; done)) | (refine kept_frozen hb ?_ ?_ <;> first | assumption | omega | (intro o; simp [go_sem, *]; done) | (dsimp only; omega) | (simp <;> omega)) | (intro o; simp [go_sem, *]; done) | (simp [go_sem, *]; done) | (simp <;> omega) | (have hq := hb.size; omega) | (have hq := hb.size; simp at hq; omega) | ((repeat (first | assumption | exact Below.refl _ _ | refine Below.drew ?_ | refine below_drewN ?_ _ | refine Below.setCell ?_ (by first | omega | (simp; done) | (simp <;> omega)) _ | refine Below.alloc ?_ (by first | omega | (simp; done) | (simp <;> omega)) _ | refine Below.trans ?_ (Below.mono (by assumption) (by first | omega | (simp; done) | (simp <;> omega))))); done))) (first | (go_at_call 11; ((with_reducible refine (better_any _ _ _ _ _ _ _ _ _).mono ?_); rintro e w1 ⟨rfl, hb⟩)) | (go_at_call 12; ((with_reducible refine (rbetter_any _ _ _ _ _ _ _ _ _).mono ?_); rintro e w1 ⟨rfl, hb⟩)) | (go_at_call 10; ((with_reducible refine (awake_any _).mono ?_); rintro e w1 ⟨rfl, hb⟩)))
  go_split_ands
  go_wp2
  go_ret
  exact ⟨rfl, by (repeat (first | assumption | exact Below.refl _ _ | refine Below.drew ?_ | refine below_drewN ?_ _ | refine Below.setCell ?_ (by first | omega | (simp; done) | (simp <;> omega)) _ | refine Below.alloc ?_ (by first | omega | (simp; done) | (simp <;> omega)) _ | refine Below.trans ?_ (Below.mono (by assumption) (by first | omega | (simp; done) | (simp <;> omega)))))⟩
theorem cellsRoot : Try.prog.cellsOf 24 = 4 := by kernel_rfl
namespace lawOrders
set_option maxRecDepth 100000 in
theorem lifted (os : Os) (started : os.Started) (H : Type) (enc : TypeId × Value → H) :
    ReturnsInHanded {} Try.checked os 4 .any (Rows.rootOrdersSpec.pre6 enc Try.prog Try.f4 Rows.rootOrdersRow.domain false) (Rows.rootOrdersSpec.post enc Try.prog Try.f4 false true false false) := by
  refine returnsInHanded_of_change (C := Try.checked) own started (by kernel_rfl) Try.func4
    (ChangeSpec.witness6 (enc := enc) (C := Try.checked) false ⟨#[], #[root 0 0 0 0, root 0 0 0 0], []⟩ 8 (by kernel_rfl) (by kernel_rfl) (by kernel_rfl) (by kernel_rfl)) ?_
  intro W base args ds gs before hval0 hW hcnd _
  have hval : ∀ (j : Nat) t v, Try.f4.params[j]? = some t → args[j]? = some v → Value.okWide Try.prog W .any base t v := hval0
  have hW' := hW
  obtain ⟨p, q, hA0, hV, rfl, hfz, hnd⟩ := hW
  have hA : DataW.TrodAll enc Try.prog W 0 (fun _ => true) true Try.f4.params.toList args.toList ds p := hA0
  rw [Try.params4] at hA hval
  obtain ⟨rfl, rfl⟩ := trodVars_none hV
  obtain ⟨v0, v1, d0, d1, p0, p1, rfl, rfl, rfl, h0, h1⟩ := trodAll_two hA
  obtain ⟨c0, c1, c2, c3, y0, y1, y2, y3, m, rfl, rfl, rfl, hy0, hy1, hy2, hy3⟩ := open_agg4 Try.underlying24 (by kernel_rfl) cellsRoot (hval 0 24 v0 rfl rfl) h0
  obtain ⟨s, e0, e0', wf_s⟩ := DataW.trod_int Try.underlying3 hy0
  obtain ⟨d, e1, e1', wf_d⟩ := DataW.trod_int Try.underlying3 hy1
  obtain ⟨p, e2, e2', wf_p⟩ := DataW.trod_int Try.underlying3 hy2
  obtain ⟨r, e3, e3', wf_r⟩ := DataW.trod_int Try.underlying22 hy3
  simp at e0 e1 e2 e3
  subst e0 e1 e2 e3
  obtain ⟨c0, c1, c2, c3, y0, y1, y2, y3, m, rfl, rfl, rfl, hy0, hy1, hy2, hy3⟩ := open_agg4 Try.underlying24 (by kernel_rfl) cellsRoot (hval 1 24 v1 rfl rfl) h1
  obtain ⟨s', e0, e0', wf_s'⟩ := DataW.trod_int Try.underlying3 hy0
  obtain ⟨d', e1, e1', wf_d'⟩ := DataW.trod_int Try.underlying3 hy1
  obtain ⟨p', e2, e2', wf_p'⟩ := DataW.trod_int Try.underlying3 hy2
  obtain ⟨r', e3, e3', wf_r'⟩ := DataW.trod_int Try.underlying22 hy3
  simp at e0 e1 e2 e3
  subst e0 e1 e2 e3
  refine (ordersLaw s d p r s' d' p' r' W).mono fun e W' ⟨he, hb⟩ => ?_
  subst he
  revert hb
  simp only [List.append_nil] at hW'
  intro hb
  exact ⟨_, rfl, law_post (tb := 4) laidOut Try.underlying4 rfl (by rw [Try.params4]; intro t ht; revert ht; revert t; exact of_decide_eq_true (by kernel_rfl)) rfl rfl rfl rfl hW' hb⟩
theorem over : Rows.rootOrdersRow.holds Try.pinned (OpenSpec.ofChange Rows.rootOrdersSpec) :=
  OpenClaim.holds_of_wide 4 Try.f4 rfl rfl rfl rfl rfl rfl rfl ⟨rfl, rfl, rfl, rfl, rfl⟩ rfl rfl rfl rfl rfl (by kernel_rfl) Try.func4 (by kernel_rfl)
    (of_decide_eq_true (by kernel_rfl)) (by unfold Func.isWrapper; first | (rw [if_pos (by decide +kernel)]; kernel_rfl) | (rw [if_neg (by decide +kernel)]; exact ⟨rfl, rfl⟩))
    (fun os started H enc _ => lifted os started H enc)
theorem proved : Rows.RootOrdersSaid :=
  over
#print axioms proved
end lawOrders
end Go.Proofs.Ytofgebmmgblkfaa
