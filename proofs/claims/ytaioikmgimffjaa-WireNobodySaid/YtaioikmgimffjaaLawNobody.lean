/- WireNobody (P2.4): for every input the law returns true, and its arguments read afterwards as before. No condition. -/
import Derived.Test.YtaioikmgimffjaaWireAwake
import Derived.Test.YtaioikmgimffjaaOpen
namespace Go.Proofs.Ytaioikmgimffjaa
open Go.ChangeShapes Go.WideShapes Go.ChangeAt Go.RowKit Go.Joins
set_option linter.unusedSimpArgs false
set_option linter.unusedVariables false
set_option maxHeartbeats 400000 in
theorem take_nil (n : Int) (v : Bool) (w : World) : Calls Try.prog 36 #[.pointer none, .int .i64 n, .bool v] w fun r w' => r = .returned (.slice none 0 0) ∧ w = w' := by
  go_enter Try.func36, Try.ntmps36
  go_wp2
  go_ret
  exact ⟨rfl, rfl⟩
set_option maxHeartbeats 400000 in
theorem skip_nil (n : Int) (w : World) : Calls Try.prog 29 #[.pointer none, .int .i64 n] w fun r w' => r = .returned (.tuple #[]) ∧ w = w' := by
  go_enter Try.func29, Try.ntmps29
  go_wp2_with (first | (go_at_call 36; ((with_reducible refine (take_nil _ _ _).mono ?_); rintro e w1 ⟨rfl, rfl⟩)))
  go_end0
  exact ⟨rfl, rfl⟩
set_option maxHeartbeats 400000 in
theorem uint_nil (n : Int) (w : World) : Calls Try.prog 17 #[.pointer none, .int .i64 n] w fun r w' => r = .returned (.int .u64 0) ∧ w = w' := by
  have hE := fun W => number_any none 0 0 0 0 [] W rfl Bs.nil (by simp)
  have e0 : numB [] = 0 := rfl
  rw [e0] at hE
  go_enter Try.func17, Try.ntmps17
  go_wp2_with (first | (go_at_call 34; ((with_reducible refine (sized_b _ _).mono ?_); rintro e w1 ⟨rfl, rfl⟩)) | (go_at_call 36; ((with_reducible refine (take_nil _ _ _).mono ?_); rintro e w1 ⟨rfl, rfl⟩)) | (go_at_call 35; ((with_reducible refine (hE _).mono ?_); rintro e w1 ⟨rfl, rfl⟩)))
  go_ret
  exact ⟨rfl, rfl⟩
set_option maxHeartbeats 400000 in
theorem int_nil (n : Int) (w : World) : Calls Try.prog 16 #[.pointer none, .int .i64 n] w fun r w' => r = .returned (.int .i64 0) ∧ w = w' := by
  go_enter Try.func16, Try.ntmps16
  go_wp2_with (first | (go_at_call 34; ((with_reducible refine (sized_b _ _).mono ?_); rintro e w1 ⟨rfl, rfl⟩)) | (go_at_call 36; ((with_reducible refine (take_nil _ _ _).mono ?_); rintro e w1 ⟨rfl, rfl⟩)))
  go_ret
  exact ⟨rfl, rfl⟩
set_option maxHeartbeats 400000 in
theorem bytes_nil (n : Int) (w : World) : Calls Try.prog 27 #[.pointer none, .int .i64 n] w fun r w' => ∃ A c, r = .returned (.slice A 0 c) ∧ Below w.heap.size w w' := by
  have hmk : ∀ W : World, (Instr.makeSlice 22 (.int .i64 0) (.int .i64 0)).run Try.prog W = .ok (.slice (some ⟨W.heap.size, 0, none⟩) 0 0) (W.alloc (.cells (madeCells #[.int .u8 0] 0) 5)) := fun W => makeU8 .i64 .i64 0 (by omega) W
  have hO1 := Ow.made w 0 (by omega)
  go_enter Try.func27, Try.ntmps27
  go_wp2_with (first | (go_at_call 36; ((with_reducible refine (take_nil _ _ _).mono ?_); rintro e w1 ⟨rfl, rfl⟩)) | (with_reducible refine wpList_copy_bs rfl (.tmp 15) (.tmp 16) rfl w.heap.size 0 0 0 0 _ rfl rfl (by simp) rfl (by omega) hO1 (Bs.nil (lo := 0) (hi := 0)) ?_; intro w2 hO hg2 hz2))
  have B : Below w.heap.size w w2 := ((Below.refl _ w).alloc (Nat.le_refl _) _).trans (below_of_grown hg2 (by simp) (by simp))
  go_ret
  exact ⟨_, _, rfl, B⟩
set_option maxHeartbeats 400000 in
theorem left_nil (w : World) : Calls Try.prog 18 #[.pointer none] w fun r w' => r = .returned (.int .i64 0) ∧ w = w' := by
  go_enter Try.func18, Try.ntmps18
  go_wp2
  go_ret
  exact ⟨rfl, rfl⟩
set_option maxHeartbeats 400000 in
theorem err_nil (w : World) : Calls Try.prog 19 #[.pointer none] w fun r w' => r = .returned (.int .i64 1) ∧ w = w' := by
  go_enter Try.func19, Try.ntmps19
  go_wp2
  go_ret
  exact ⟨rfl, rfl⟩
theorem tkL_nil (e n : Int) (v : Bool) : tkL [] e n v = [] := by unfold tkL; split <;> simp
theorem tkR_nil (e n : Int) (v : Bool) : tkR [] e n v = [] := by unfold tkR; split <;> simp
set_option maxHeartbeats 2000000 in
theorem nobodyLaw (n : Int) (w : World) : Calls Try.prog 9 #[.int .i64 n] w fun e w' => e = .returned (.bool true) ∧ Below w.heap.size w w' := by
  have hRn := Rd.new w (A := none) (c := 0) (l := []) 58 (lo := w.heap.size) Bs.nil (by simp) (by simp) (Nat.le_refl _)
  have hR : Rd (w.alloc (.cells #[.slice none 0 0, .int .i64 0] 58)) w.heap.size w.heap.size [] 0 := hRn
  have B1 : Below w.heap.size w (w.alloc (.cells #[.slice none 0 0, .int .i64 0] 58)) := (Below.refl _ w).alloc (Nat.le_refl _) _
  have hlt := hR.lt
  obtain ⟨w1, hw1⟩ : ∃ w1, w1 = w.alloc (.cells #[.slice none 0 0, .int .i64 0] 58) := ⟨_, rfl⟩
  rw [← hw1] at hR B1 hlt
  have hw1' := hw1.symm
  clear hRn hw1
  rcases sz_cases n with ⟨h1, h2, hz, hd1, hd2⟩ | ⟨h1, h2, hz, hd1, hd2⟩ | ⟨h1, h2, hz, hd1, hd2⟩
  all_goals
    go_enter Try.func9, Try.ntmps9
    go_wp2_with (first | (go_at_call 29; ((with_reducible refine (skip_nil _ _).mono ?_); rintro e w1 ⟨rfl, rfl⟩)) | (go_at_call 17; ((with_reducible refine (uint_nil _ _).mono ?_); rintro e w1 ⟨rfl, rfl⟩)) | (go_at_call 16; ((with_reducible refine (int_nil _ _).mono ?_); rintro e w1 ⟨rfl, rfl⟩)))
    refine (bytes_nil n w1).mono ?_
    rintro e w2 ⟨A, c, rfl, hb2⟩
    have hR2 := hR.below hb2 hlt
    have B2 := B1.trans (hb2.mono (by omega))
    have hlt2 := hR2.lt
    have hE := bytes_any _ _ [] 0 0 w2 hR2 (by simp)
    rw [tkL_nil, tkR_nil, show tkE [] 0 0 (nnB 0) = 0 by decide] at hE
    have hEl := left_any _ _ [] 0 w2 hR2
    have hEe := err_any _ _ [] 0 w2 hR2
    clear hR B1 hlt hw1'
    go_wp2_with (first | (go_at_call 18; ((with_reducible refine (left_nil _).mono ?_); rintro e w1 ⟨rfl, rfl⟩)) | (go_at_call 19; ((with_reducible refine (err_nil _).mono ?_); rintro e w1 ⟨rfl, rfl⟩)) | (go_at_call 18; ((with_reducible refine (hEl).mono ?_); rintro e w1 ⟨rfl, rfl⟩)) | (go_at_call 19; ((with_reducible refine (hEe).mono ?_); rintro e w1 ⟨rfl, rfl⟩)))
    refine hE.mono ?_
    rintro e w3 ⟨A3, c3, rfl, hO3, hR3, hg3, s3⟩
    have hEe3 := err_any _ _ [] 0 w3 hR3
    have hEu := uint_any _ _ [] 0 n w3 hR3
    rw [tkL_nil, tkR_nil, show numB [] = 0 from rfl, hz] at hEu
    have B3 := B2.trans (but_below hg3 (by omega) (Nat.le_refl _))
    clear hE hEl hEe hR2 hO3 hg3
    go_wp2_with (first | (go_at_call 19; ((with_reducible refine (hEe3).mono ?_); rintro e w1 ⟨rfl, rfl⟩)))
    refine hEu.mono ?_
    rintro e w4 ⟨rfl, hR4, hg4, s4⟩
    first
      | rw [show tkE [] 0 n true = 5 by simp [tkE]; omega] at hR4
      | rw [show tkE [] 0 n false = 2 by simp [tkE]] at hR4
    have B4 := B3.trans (but_below hg4 (by omega) (Nat.le_refl _))
    have hEe4 := err_any _ _ [] _ w4 hR4
    have hEl4 := left_any _ _ [] _ w4 hR4
    have hE5 := awake_any w4
    clear hEu hEe3 hR3 hg4
    go_wp2_with (first | (go_at_call 19; ((with_reducible refine (hEe4).mono ?_); rintro e w1 ⟨rfl, rfl⟩)) | (go_at_call 18; ((with_reducible refine (hEl4).mono ?_); rintro e w1 ⟨rfl, rfl⟩)))
    refine hE5.mono ?_
    rintro e w5 ⟨rfl, hb5⟩
    have B5 := B4.trans (hb5.mono (by omega))
    go_wp2
    go_ret
    exact ⟨rfl, B5⟩
namespace lawNobody
set_option maxRecDepth 100000 in
theorem lifted (os : Os) (started : os.Started) (H : Type) (enc : TypeId × Value → H) :
    ReturnsInHanded {} Try.checked os 9 .any (Rows.wireNobodySpec.pre6 enc Try.prog Try.f9 Rows.wireNobodyRow.domain false) (Rows.wireNobodySpec.post enc Try.prog Try.f9 false true false false) := by
  refine returnsInHanded_of_change_sized (C := Try.checked) own started (by kernel_rfl) Try.func9
    (ChangeSpec.witness6 (enc := enc) (C := Try.checked) false ⟨#[], #[.int .i64 0], []⟩ 8 (by kernel_rfl) (by kernel_rfl) (by kernel_rfl) (by kernel_rfl)) ?_
  intro W base args ds gs before hval0 hW hcnd hsz0 _
  have hval : ∀ (j : Nat) t v, Try.f9.params[j]? = some t → args[j]? = some v → Value.okWide Try.prog W .any base t v := hval0
  have hW' := hW
  obtain ⟨p, q, hA0, hV, rfl, hfz, hnd⟩ := hW
  have hA : DataW.TrodAll enc Try.prog W 0 (fun _ => true) true Try.f9.params.toList args.toList ds p := hA0
  have hsz : (DataW.weightsEach Try.prog (Try.f9.params.toList ++ Rows.wireNobodySpec.plain.varTypes Try.prog) (ds ++ gs)).all (· ≤ reachBytes) = true := hsz0
  rw [Try.params9] at hA hval hsz
  obtain ⟨rfl, rfl⟩ := trodVars_none hV
  obtain ⟨v0, d0, rfl, rfl, h0⟩ := trodAll_one hA
  obtain ⟨n, rfl, rfl, rfl, wf_n⟩ := open_int Try.underlying3 (hval 0 3 v0 rfl rfl) h0
  refine (nobodyLaw n W).mono fun e W' ⟨he, hb⟩ => ?_
  subst he
  revert hb
  simp only [List.append_nil] at hW'
  intro hb
  exact ⟨_, rfl, law_post (tb := 4) laidOut Try.underlying4 rfl (by rw [Try.params9]; intro t ht; revert ht; revert t; exact of_decide_eq_true (by kernel_rfl)) rfl rfl rfl rfl hW' hb⟩
theorem over : Rows.wireNobodyRow.holds Try.pinned (OpenSpec.ofChange Rows.wireNobodySpec) :=
  OpenClaim.holds_of_wide 9 Try.f9 rfl rfl rfl rfl rfl rfl rfl ⟨rfl, rfl, rfl, rfl, rfl⟩ rfl rfl rfl rfl rfl (by kernel_rfl) Try.func9 (by kernel_rfl)
    (of_decide_eq_true (by kernel_rfl)) (by unfold Func.isWrapper; first | (rw [if_pos (by decide +kernel)]; kernel_rfl) | (rw [if_neg (by decide +kernel)]; exact ⟨rfl, rfl⟩))
    (fun os started H enc _ => lifted os started H enc)
theorem proved : Rows.WireNobodySaid :=
  over
#print axioms proved
end lawNobody
end Go.Proofs.Ytaioikmgimffjaa
