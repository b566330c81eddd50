/- AssocOnce (P31.2, P31.3, P31.4, P31.5, P31.7): for every input the law returns true, and its arguments read afterwards as before. No condition. -/
import Derived.Test.YtickoncgnjgciaaAsQ
namespace Go.Proofs.Ytickoncgnjgciaa
open Go.ChangeShapes Go.WideShapes Go.ChangeAt Go.RowKit Go.Joins
set_option linter.unusedSimpArgs false
set_option linter.unusedVariables false
set_option maxRecDepth 100000
set_option maxHeartbeats 1000000 in
theorem once_long (ver : Int) (A : Option Addr) (m c : Nat) (w : World) (h1 : 1 ≤ ver) (h4 : ver ≤ 4) (hm : 60 < m) :
    Calls Try.prog 4 #[.int .i64 ver, .slice A m c] w fun e w' => e = .returned (.bool true) ∧ Below w.heap.size w w' := by
  have hm' : (60 : Int) < m := by omega
  have h1' : decide (1 ≤ ver) = true := decide_eq_true h1
  have h4' : decide (ver ≤ 4) = true := decide_eq_true h4
  go_enter Try.func4, Try.ntmps4
  go_wp2_with (go_at_call 9; ((with_reducible refine (new_ok ver _ h1 h4).mono ?_); rintro e w1 ⟨rfl, H1, b1⟩))
  with_reducible refine (awake_any _).mono ?_
  rintro e wa ⟨rfl, ba⟩
  have Ba := (b1).trans (ba.mono (b1).size)
  go_wp2
  go_ret
  exact ⟨rfl, Ba⟩
set_option maxHeartbeats 1000000 in
theorem once_no (ver : Int) (A : Option Addr) (m c : Nat) (w : World) (h : ¬(1 ≤ ver ∧ ver ≤ 4)) :
    Calls Try.prog 4 #[.int .i64 ver, .slice A m c] w fun e w' => e = .returned (.bool true) ∧ Below w.heap.size w w' := by
  have hN := new_no ver w h
  have b1 := Below.refl w.heap.size w
  by_cases h1 : 1 ≤ ver
  · have h1' : decide (1 ≤ ver) = true := decide_eq_true h1
    have h4' : decide (ver ≤ 4) = false := decide_eq_false (by omega)
    clear h
    go_enter Try.func4, Try.ntmps4
    go_wp2_with (go_at_call 9; ((with_reducible refine hN.mono ?_); rintro e w1 ⟨rfl, rfl⟩))
    with_reducible refine (awake_any _).mono ?_
    rintro e wa ⟨rfl, ba⟩
    have Ba := (b1).trans (ba.mono (b1).size)
    go_wp2
    go_ret
    exact ⟨rfl, Ba⟩
  · have h1' : decide (1 ≤ ver) = false := decide_eq_false h1
    clear h
    go_enter Try.func4, Try.ntmps4
    go_wp2_with (go_at_call 9; ((with_reducible refine hN.mono ?_); rintro e w1 ⟨rfl, rfl⟩))
    with_reducible refine (awake_any _).mono ?_
    rintro e wa ⟨rfl, ba⟩
    have Ba := (b1).trans (ba.mono (b1).size)
    go_wp2
    go_ret
    exact ⟨rfl, Ba⟩
theorem opP {H : Type} {enc : TypeId × Value → H} {W : World} (fuel : Nat) (cs : List Value) (x : DataW H × List MemPlace) (h : DataW.trod enc Try.prog W 0 (fun _ => true) true fuel 33 cs = some x) : OpP cs := by
  obtain ⟨q, now, n, l, v, m, st, po, pr, rd, rp, id, ref, org, rec, xmt, rfl, _, _, _, hid, _⟩ := op_cells h
  exact ⟨q, now, n, l, v, m, st, po, pr, rd, rp, id, ref, org, rec, xmt, rfl, hid⟩
theorem onceLaw (ver : Int) (A : Option Addr) (m c : Nat) (F : Nat → List Value) (w : World) (hS : Sl w w.heap.size A m 16 F) (hmc : m ≤ c) (hF : ∀ k, k < m → OpP (F k)) :
    Calls Try.prog 4 #[.int .i64 ver, .slice A m c] w fun e w' => e = .returned (.bool true) ∧ Below w.heap.size w w' := by
  by_cases h : 1 ≤ ver ∧ ver ≤ 4
  · by_cases hm : m ≤ 60
    · exact once_main ver A m c F w h.1 h.2 hm hS hmc hF
    · exact once_long ver A m c w h.1 h.2 (by omega)
  · exact once_no ver A m c w h
namespace lawOnce
set_option maxRecDepth 100000 in
theorem lifted (os : Os) (started : os.Started) (H : Type) (enc : TypeId × Value → H) :
    ReturnsInHanded {} Try.checked os 4 .any (Rows.assocOnceSpec.pre6 enc Try.prog Try.f4 Rows.assocOnceRow.domain false) (Rows.assocOnceSpec.post enc Try.prog Try.f4 false true false false) := by
  refine returnsInHanded_of_change (C := Try.checked) own started (by kernel_rfl) Try.func4
    (ChangeSpec.witness6 (enc := enc) (C := Try.checked) false ⟨#[], #[.int .i64 0, .slice none 0 0], []⟩ 8 (by kernel_rfl) (by kernel_rfl) (by kernel_rfl) (by kernel_rfl)) ?_
  intro W base args ds gs before hval0 hW hcnd _
  have hval : ∀ (j : Nat) t v, Try.f4.params[j]? = some t → args[j]? = some v → Value.okWide Try.prog W .any base t v := hval0
  have hW' := hW
  obtain ⟨p, q, hA0, hV, rfl, hfz, hnd⟩ := hW
  have hA : DataW.TrodAll enc Try.prog W 0 (fun _ => true) true Try.f4.params.toList args.toList ds p := hA0
  rw [Try.params4] at hA hval
  obtain ⟨rfl, rfl⟩ := trodVars_none hV
  obtain ⟨v0, v1, d0, d1, p0, p1, rfl, rfl, rfl, h0, h1⟩ := trodAll_two hA
  obtain ⟨ver, rfl, rfl, rfl, wf_ver⟩ := open_int Try.underlying3 (hval 0 3 v0 rfl rfl) h0
  obtain ⟨A, m, c, F, rfl, hS, hmc, _, _, hF⟩ := open_rows OpP Try.underlying22 cellsOp (by omega) opP (hval 1 22 v1 rfl rfl) h1
  refine (onceLaw ver A m c F W hS hmc hF).mono fun e W' ⟨he, hb⟩ => ?_
  subst he
  revert hb
  simp only [List.append_nil] at hW'
  intro hb
  exact ⟨_, rfl, law_post (tb := 4) laidOut Try.underlying4 rfl (by rw [Try.params4]; intro t ht; revert ht; revert t; exact of_decide_eq_true (by kernel_rfl)) rfl rfl rfl rfl hW' hb⟩
theorem over : Rows.assocOnceRow.holds Try.pinned (OpenSpec.ofChange Rows.assocOnceSpec) :=
  OpenClaim.holds_of_wide 4 Try.f4 rfl rfl rfl rfl rfl rfl rfl ⟨rfl, rfl, rfl, rfl, rfl⟩ rfl rfl rfl rfl rfl (by kernel_rfl) Try.func4 (by kernel_rfl)
    (of_decide_eq_true (by kernel_rfl)) (by unfold Func.isWrapper; first | (rw [if_pos (by decide +kernel)]; kernel_rfl) | (rw [if_neg (by decide +kernel)]; exact ⟨rfl, rfl⟩))
    (fun os started H enc _ => lifted os started H enc)
theorem proved : Rows.AssocOnceSaid :=
  over
#print axioms proved
end lawOnce
end Go.Proofs.Ytickoncgnjgciaa
