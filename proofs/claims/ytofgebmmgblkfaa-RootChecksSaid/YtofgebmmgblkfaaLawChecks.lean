/- RootChecks (P29.1, P29.3, P29.5): for every input the law returns true, and its arguments read afterwards as before. No condition. -/
import Derived.Test.YtofgebmmgblkfaaRootLaws
import Derived.Test.YtofgebmmgblkfaaRow
namespace Go.Proofs.Ytofgebmmgblkfaa
open Go.ChangeShapes Go.WideShapes Go.ChangeAt Go.RowKit Go.Joins
set_option linter.unusedSimpArgs false
set_option linter.unusedVariables false
set_option maxHeartbeats 2000000 in
theorem checksLaw (s d p r n : Int) (w : World) :
    Calls Try.prog 6 #[root s d p r, .int .i64 n] w fun e w' => e = .returned (.bool true) ∧ Below w.heap.size w w' := by
  go_enter Try.func6, Try.ntmps6
  go_wp2_with fail
  refine (primary_any _ _ _).mono ?_
  rintro e w1 ⟨rfl, hb⟩
  (have hS : (((w1).cell? ⟨w.heap.size, 0, none⟩ = some (.int .i64 s) ∧ (w1).cell? ⟨w.heap.size, 1, none⟩ = some (.int .i64 d) ∧ (w1).cell? ⟨w.heap.size, 2, none⟩ = some (.int .i64 p) ∧ (w1).cell? ⟨w.heap.size, 3, none⟩ = some (.int .u32 r) ∧ (∀ o, (w1).frozen? ⟨w.heap.size, o, none⟩ = false)) ∧ w.heap.size < (w1).heap.size ∧ Below w.heap.size w (w1)) := by ((go_split_ands; (repeat' apply And.intro) <;> first | assumption | (refine kept_cell hb ?_ ?_ <;> first | assumption | omega | (dsimp only; omega) | (simp <;> omega) | (simp [go_sem, *]; done)) | (refine kept_frozen hb ?_ ?_ <;> first | assumption | omega | (intro o; simp [go_sem, *]; done) | (dsimp only; omega) | (simp <;> omega)) | (intro o; simp [go_sem, *]; done) | (simp [go_sem, *]; done) | (simp <;> omega) | (have hq := hb.size; omega) | (have hq := hb.size; simp at hq; omega) | ((repeat (first | assumption | exact Below.refl _ _ | refine Below.drew ?_ | refine below_drewN ?_ _ | refine Below.setCell ?_ (by first | omega | (simp; done) | (simp <;> omega)) _ | refine Below.alloc ?_ (by first | omega | (simp; done) | (simp <;> omega)) _ | refine Below.trans ?_ (Below.mono (by assumption) (by first | omega | (simp; done) | (simp <;> omega))))); done))))
  clear hb; go_split_ands
  go_wp2_with fail
  refine (rprimary_any _ _ _).mono ?_
  rintro e w2 ⟨rfl, hb⟩
  (have hS : (((w2).cell? ⟨w.heap.size, 0, none⟩ = some (.int .i64 s) ∧ (w2).cell? ⟨w.heap.size, 1, none⟩ = some (.int .i64 d) ∧ (w2).cell? ⟨w.heap.size, 2, none⟩ = some (.int .i64 p) ∧ (w2).cell? ⟨w.heap.size, 3, none⟩ = some (.int .u32 r) ∧ (∀ o, (w2).frozen? ⟨w.heap.size, o, none⟩ = false)) ∧ ((w2).cell? ⟨w1.heap.size, 0, none⟩ = some (.int .i64 (z0 (chk 1 0 n) 1)) ∧ (w2).cell? ⟨w1.heap.size, 1, none⟩ = some (.int .i64 (z0 (chk 1 0 n) 0)) ∧ (w2).cell? ⟨w1.heap.size, 2, none⟩ = some (.int .i64 (z0 (chk 1 0 n) n)) ∧ (w2).cell? ⟨w1.heap.size, 3, none⟩ = some (.int .u32 (z0 (chk 1 0 n) r)) ∧ (∀ o, (w2).frozen? ⟨w1.heap.size, o, none⟩ = false)) ∧ w.heap.size < (w2).heap.size ∧ w1.heap.size < (w2).heap.size ∧ Below w.heap.size w (w2)) := by ((go_split_ands; (repeat' apply And.intro) <;> first | assumption | (refine kept_cell hb ?_ ?_ <;> first | assumption | omega | (dsimp only; omega) | (simp <;> omega) | (simp [go_sem, *]; done)) | (refine kept_frozen hb ?_ ?_ <;> first | assumption | omega | (intro o; simp [go_sem, *]; done) | (dsimp only; omega) | (simp <;> omega)) | (intro o; simp [go_sem, *]; done) | (simp [go_sem, *]; done) | (simp <;> omega) | (have hq := hb.size; omega) | (have hq := hb.size; simp at hq; omega) | ((repeat (first | assumption | exact Below.refl _ _ | refine Below.drew ?_ | refine below_drewN ?_ _ | refine Below.setCell ?_ (by first | omega | (simp; done) | (simp <;> omega)) _ | refine Below.alloc ?_ (by first | omega | (simp; done) | (simp <;> omega)) _ | refine Below.trans ?_ (Below.mono (by assumption) (by first | omega | (simp; done) | (simp <;> omega))))); done))))
  clear hb; go_split_ands
  go_wp2_with fail
  refine (fields_any _ _ _ _ _).mono ?_
  rintro e w3 ⟨rfl, hb⟩
  (have hS : (((w3).cell? ⟨w.heap.size, 0, none⟩ = some (.int .i64 s) ∧ (w3).cell? ⟨w.heap.size, 1, none⟩ = some (.int .i64 d) ∧ (w3).cell? ⟨w.heap.size, 2, none⟩ = some (.int .i64 p) ∧ (w3).cell? ⟨w.heap.size, 3, none⟩ = some (.int .u32 r) ∧ (∀ o, (w3).frozen? ⟨w.heap.size, o, none⟩ = false)) ∧ ((w3).cell? ⟨w1.heap.size, 0, none⟩ = some (.int .i64 (z0 (chk 1 0 n) 1)) ∧ (w3).cell? ⟨w1.heap.size, 1, none⟩ = some (.int .i64 (z0 (chk 1 0 n) 0)) ∧ (w3).cell? ⟨w1.heap.size, 2, none⟩ = some (.int .i64 (z0 (chk 1 0 n) n)) ∧ (w3).cell? ⟨w1.heap.size, 3, none⟩ = some (.int .u32 (z0 (chk 1 0 n) r)) ∧ (∀ o, (w3).frozen? ⟨w1.heap.size, o, none⟩ = false)) ∧ ((w3).cell? ⟨w2.heap.size, 0, none⟩ = some (.int .i64 (z0 (chk 1 0 n) 1)) ∧ (w3).cell? ⟨w2.heap.size, 1, none⟩ = some (.int .i64 (z0 (chk 1 0 n) 0)) ∧ (w3).cell? ⟨w2.heap.size, 2, none⟩ = some (.int .i64 (z0 (chk 1 0 n) n)) ∧ (w3).cell? ⟨w2.heap.size, 3, none⟩ = some (.int .u32 (z0 (chk 1 0 n) r)) ∧ (∀ o, (w3).frozen? ⟨w2.heap.size, o, none⟩ = false)) ∧ w.heap.size < (w3).heap.size ∧ w1.heap.size < (w3).heap.size ∧ w2.heap.size < (w3).heap.size ∧ Below w.heap.size w (w3)) := by ((go_split_ands; (repeat' apply And.intro) <;> first | assumption | (refine kept_cell hb ?_ ?_ <;> first | assumption | omega | (dsimp only; omega) | (simp <;> omega) | (simp [go_sem, *]; done)) | (refine kept_frozen hb ?_ ?_ <;> first | assumption | omega | (intro o; simp [go_sem, *]; done) | (dsimp only; omega) | (simp <;> omega)) | (intro o; simp [go_sem, *]; done) | (simp [go_sem, *]; done) | (simp <;> omega) | (have hq := hb.size; omega) | (have hq := hb.size; simp at hq; omega) | ((repeat (first | assumption | exact Below.refl _ _ | refine Below.drew ?_ | refine below_drewN ?_ _ | refine Below.setCell ?_ (by first | omega | (simp; done) | (simp <;> omega)) _ | refine Below.alloc ?_ (by first | omega | (simp; done) | (simp <;> omega)) _ | refine Below.trans ?_ (Below.mono (by assumption) (by first | omega | (simp; done) | (simp <;> omega))))); done))))
  clear hb; go_split_ands
  go_wp2_with fail
  refine (rfields_any _ _ _ _ _).mono ?_
  rintro e w4 ⟨rfl, hb⟩
  (have hS : (((w4).cell? ⟨w.heap.size, 0, none⟩ = some (.int .i64 s) ∧ (w4).cell? ⟨w.heap.size, 1, none⟩ = some (.int .i64 d) ∧ (w4).cell? ⟨w.heap.size, 2, none⟩ = some (.int .i64 p) ∧ (w4).cell? ⟨w.heap.size, 3, none⟩ = some (.int .u32 r) ∧ (∀ o, (w4).frozen? ⟨w.heap.size, o, none⟩ = false)) ∧ ((w4).cell? ⟨w1.heap.size, 0, none⟩ = some (.int .i64 (z0 (chk 1 0 n) 1)) ∧ (w4).cell? ⟨w1.heap.size, 1, none⟩ = some (.int .i64 (z0 (chk 1 0 n) 0)) ∧ (w4).cell? ⟨w1.heap.size, 2, none⟩ = some (.int .i64 (z0 (chk 1 0 n) n)) ∧ (w4).cell? ⟨w1.heap.size, 3, none⟩ = some (.int .u32 (z0 (chk 1 0 n) r)) ∧ (∀ o, (w4).frozen? ⟨w1.heap.size, o, none⟩ = false)) ∧ ((w4).cell? ⟨w2.heap.size, 0, none⟩ = some (.int .i64 (z0 (chk 1 0 n) 1)) ∧ (w4).cell? ⟨w2.heap.size, 1, none⟩ = some (.int .i64 (z0 (chk 1 0 n) 0)) ∧ (w4).cell? ⟨w2.heap.size, 2, none⟩ = some (.int .i64 (z0 (chk 1 0 n) n)) ∧ (w4).cell? ⟨w2.heap.size, 3, none⟩ = some (.int .u32 (z0 (chk 1 0 n) r)) ∧ (∀ o, (w4).frozen? ⟨w2.heap.size, o, none⟩ = false)) ∧ w.heap.size < (w4).heap.size ∧ w1.heap.size < (w4).heap.size ∧ w2.heap.size < (w4).heap.size ∧ Below w.heap.size w (w4)) := by ((go_split_ands; (repeat' apply And.intro) <;> first | assumption | (refine kept_cell hb ?_ ?_ <;> first | assumption | omega | (dsimp only; omega) | (simp <;> omega) | (simp [go_sem, *]; done)) | (refine kept_frozen hb ?_ ?_ <;> first | assumption | omega | (intro o; simp [go_sem, *]; done) | (dsimp only; omega) | (simp <;> omega)) | (intro o; simp [go_sem, *]; done) | (simp [go_sem, *]; done) | (simp <;> omega) | (have hq := hb.size; omega) | (have hq := hb.size; simp at hq; omega) | ((repeat (first | assumption | exact Below.refl _ _ | refine Below.drew ?_ | refine below_drewN ?_ _ | refine Below.setCell ?_ (by first | omega | (simp; done) | (simp <;> omega)) _ | refine Below.alloc ?_ (by first | omega | (simp; done) | (simp <;> omega)) _ | refine Below.trans ?_ (Below.mono (by assumption) (by first | omega | (simp; done) | (simp <;> omega))))); done))))
  clear hb; go_split_ands
  go_wp2_with fail
  go_region_held3 (fun w' => (((w').cell? ⟨w.heap.size, 0, none⟩ = some (.int .i64 s) ∧ (w').cell? ⟨w.heap.size, 1, none⟩ = some (.int .i64 d) ∧ (w').cell? ⟨w.heap.size, 2, none⟩ = some (.int .i64 p) ∧ (w').cell? ⟨w.heap.size, 3, none⟩ = some (.int .u32 r) ∧ (∀ o, (w').frozen? ⟨w.heap.size, o, none⟩ = false)) ∧ ((w').cell? ⟨w1.heap.size, 0, none⟩ = some (.int .i64 (z0 (chk 1 0 n) 1)) ∧ (w').cell? ⟨w1.heap.size, 1, none⟩ = some (.int .i64 (z0 (chk 1 0 n) 0)) ∧ (w').cell? ⟨w1.heap.size, 2, none⟩ = some (.int .i64 (z0 (chk 1 0 n) n)) ∧ (w').cell? ⟨w1.heap.size, 3, none⟩ = some (.int .u32 (z0 (chk 1 0 n) r)) ∧ (∀ o, (w').frozen? ⟨w1.heap.size, o, none⟩ = false)) ∧ ((w').cell? ⟨w2.heap.size, 0, none⟩ = some (.int .i64 (z0 (chk 1 0 n) 1)) ∧ (w').cell? ⟨w2.heap.size, 1, none⟩ = some (.int .i64 (z0 (chk 1 0 n) 0)) ∧ (w').cell? ⟨w2.heap.size, 2, none⟩ = some (.int .i64 (z0 (chk 1 0 n) n)) ∧ (w').cell? ⟨w2.heap.size, 3, none⟩ = some (.int .u32 (z0 (chk 1 0 n) r)) ∧ (∀ o, (w').frozen? ⟨w2.heap.size, o, none⟩ = false)) ∧ w.heap.size < (w').heap.size ∧ w1.heap.size < (w').heap.size ∧ w2.heap.size < (w').heap.size ∧ Below w.heap.size w (w'))) ((go_split_ands; (repeat' apply And.intro) <;> first | assumption | (refine kept_cell hb ?_ ?_ <;> first | assumption | omega | (dsimp only; omega) | (simp <;> omega) | (simp [go_sem, *]; done)) | (refine kept_frozen hb ?_ ?_ <;> first | assumption | omega | (intro o; simp [go_sem, *]; done) | (dsimp only; omega) | (simp <;> omega)) | (intro o; simp [go_sem, *]; done) | (simp [go_sem, *]; done) | (simp <;> omega) | (have hq := hb.size; omega) | (have hq := hb.size; simp at hq; omega) | ((repeat (first | assumption | exact Below.refl _ _ | refine Below.drew ?_ | refine below_drewN ?_ _ | refine Below.setCell ?_ (by first | omega | (simp; done) | (simp <;> omega)) _ | refine Below.alloc ?_ (by first | omega | (simp; done) | (simp <;> omega)) _ | refine Below.trans ?_ (Below.mono (by assumption) (by first | omega | (simp; done) | (simp <;> omega))))); done))) (first | (go_at_call 13; ((with_reducible refine (check_any _ _ _ _ _).mono ?_); rintro e w1 ⟨rfl, hb⟩)) | (go_at_call 19; ((with_reducible refine (rcheck_any _ _ _ _ _).mono ?_); rintro e w1 ⟨rfl, hb⟩)) | (go_at_call 14; ((with_reducible refine (distance_any _ _ _ _ _).mono ?_); rintro e w1 ⟨rfl, hb⟩)) | (go_at_call 20; ((with_reducible refine (rdistance_any _ _ _ _ _).mono ?_); rintro e w1 ⟨rfl, hb⟩)) | (go_at_call 10; ((with_reducible refine (awake_any _).mono ?_); rintro e w1 ⟨rfl, hb⟩)))
  go_split_ands
  go_wp2
  go_ret
  exact ⟨rfl, by (repeat (first | assumption | exact Below.refl _ _ | refine Below.drew ?_ | refine below_drewN ?_ _ | refine Below.setCell ?_ (by first | omega | (simp; done) | (simp <;> omega)) _ | refine Below.alloc ?_ (by first | omega | (simp; done) | (simp <;> omega)) _ | refine Below.trans ?_ (Below.mono (by assumption) (by first | omega | (simp; done) | (simp <;> omega)))))⟩
theorem cellsRoot : Try.prog.cellsOf 24 = 4 := by kernel_rfl
namespace lawChecks
set_option maxRecDepth 100000 in
theorem lifted (os : Os) (started : os.Started) (H : Type) (enc : TypeId × Value → H) :
    ReturnsInHanded {} Try.checked os 6 .any (Rows.rootChecksSpec.pre6 enc Try.prog Try.f6 Rows.rootChecksRow.domain false) (Rows.rootChecksSpec.post enc Try.prog Try.f6 false true false false) := by
  refine returnsInHanded_of_change (C := Try.checked) own started (by kernel_rfl) Try.func6
    (ChangeSpec.witness6 (enc := enc) (C := Try.checked) false ⟨#[], #[root 0 0 0 0, .int .i64 0], []⟩ 8 (by kernel_rfl) (by kernel_rfl) (by kernel_rfl) (by kernel_rfl)) ?_
  intro W base args ds gs before hval0 hW hcnd _
  have hval : ∀ (j : Nat) t v, Try.f6.params[j]? = some t → args[j]? = some v → Value.okWide Try.prog W .any base t v := hval0
  have hW' := hW
  obtain ⟨p, q, hA0, hV, rfl, hfz, hnd⟩ := hW
  have hA : DataW.TrodAll enc Try.prog W 0 (fun _ => true) true Try.f6.params.toList args.toList ds p := hA0
  rw [Try.params6] at hA hval
  obtain ⟨rfl, rfl⟩ := trodVars_none hV
  obtain ⟨v0, v1, d0, d1, p0, p1, rfl, rfl, rfl, h0, h1⟩ := trodAll_two hA
  obtain ⟨c0, c1, c2, c3, y0, y1, y2, y3, m, rfl, rfl, rfl, hy0, hy1, hy2, hy3⟩ := open_agg4 Try.underlying24 (by kernel_rfl) cellsRoot (hval 0 24 v0 rfl rfl) h0
  obtain ⟨s, e0, e0', wf_s⟩ := DataW.trod_int Try.underlying3 hy0
  obtain ⟨d, e1, e1', wf_d⟩ := DataW.trod_int Try.underlying3 hy1
  obtain ⟨p, e2, e2', wf_p⟩ := DataW.trod_int Try.underlying3 hy2
  obtain ⟨r, e3, e3', wf_r⟩ := DataW.trod_int Try.underlying22 hy3
  simp at e0 e1 e2 e3
  subst e0 e1 e2 e3
  obtain ⟨n, rfl, rfl, rfl, wf_n⟩ := open_int Try.underlying3 (hval 1 3 v1 rfl rfl) h1
  refine (checksLaw s d p r n W).mono fun e W' ⟨he, hb⟩ => ?_
  subst he
  revert hb
  simp only [List.append_nil] at hW'
  intro hb
  exact ⟨_, rfl, law_post (tb := 4) laidOut Try.underlying4 rfl (by rw [Try.params6]; intro t ht; revert ht; revert t; exact of_decide_eq_true (by kernel_rfl)) rfl rfl rfl rfl hW' hb⟩
theorem over : Rows.rootChecksRow.holds Try.pinned (OpenSpec.ofChange Rows.rootChecksSpec) :=
  OpenClaim.holds_of_wide 6 Try.f6 rfl rfl rfl rfl rfl rfl rfl ⟨rfl, rfl, rfl, rfl, rfl⟩ rfl rfl rfl rfl rfl (by kernel_rfl) Try.func6 (by kernel_rfl)
    (of_decide_eq_true (by kernel_rfl)) (by unfold Func.isWrapper; first | (rw [if_pos (by decide +kernel)]; kernel_rfl) | (rw [if_neg (by decide +kernel)]; exact ⟨rfl, rfl⟩))
    (fun os started H enc _ => lifted os started H enc)
theorem proved : Rows.RootChecksSaid :=
  over
#print axioms proved
end lawChecks
end Go.Proofs.Ytofgebmmgblkfaa
