/- TopExchange (G9; P19 to P21, P29 to P31): for every input the law returns true, and its arguments read afterwards as before. No condition. -/
import Derived.Test.YtdnmjeapihjabaaTxZ16
namespace Go.Proofs.Ytdnmjeapihjabaa
open Go.ChangeShapes Go.WideShapes Go.ChangeAt Go.RowKit Go.Joins
set_option linter.unusedSimpArgs false
set_option linter.unusedVariables false
set_option maxRecDepth 100000
theorem cellsQuad : Try.prog.cellsOf 23 = 4 := by kernel_rfl
theorem quad_cells {H : Type} {enc : TypeId × Value → H} {w : World} {base : Nat} {spare : Nat → Bool} {held : Bool} {fuel : Nat} {cs : List Value} {x : DataW H × List MemPlace} (h : DataW.trod enc Try.prog w base spare held fuel 23 cs = some x) :
    ∃ a b d e : Int, cs = qdL a b d e := by
  obtain ⟨hl, hf⟩ := trod_fields Try.underlying23 h
  rw [cellsQuad] at hl
  have k1 : Try.prog.cellsOf 3 = 1 := by kernel_rfl
  match cs, hl with
  | [c0, c1, c2, c3], _ =>
    obtain ⟨y0, n0, h0⟩ := hf 0 _ rfl
    obtain ⟨a, e0, _, wf0⟩ := DataW.trod_int Try.underlying3 h0
    obtain ⟨y1, n1, h1⟩ := hf 1 _ rfl
    obtain ⟨b, e1, _, wf1⟩ := DataW.trod_int Try.underlying3 h1
    obtain ⟨y2, n2, h2⟩ := hf 2 _ rfl
    obtain ⟨d, e2, _, wf2⟩ := DataW.trod_int Try.underlying3 h2
    obtain ⟨y3, n3, h3⟩ := hf 3 _ rfl
    obtain ⟨e, e3, _, wf3⟩ := DataW.trod_int Try.underlying3 h3
    simp [k1] at e0 e1 e2 e3
    subst e0 e1 e2 e3
    exact ⟨a, b, d, e, rfl⟩
theorem txLaw (a b d e o n : Int) (w : World) (hn : 0 ≤ n ∧ n ≤ 18446744073709551615) :
    Calls Try.prog 3 #[.agg (qdL a b d e).toArray, .int .i64 o, .int .u64 n] w fun r w' => r = .returned (.bool true) ∧ Below w.heap.size w w' := by
  by_cases G : TxIn a b d e o n
  · obtain ⟨C, L, E, lo, hi, q2, q3, X, Y, tC, tL, uC, uL, th, dl, ds, blo, bhi, jd, jp, dj, ds1, ds2, T⟩ := tx_prep a b d e o n G hn
    exact tx_main a b d e o n C L E lo hi q2 q3 X Y tC tL uC uL th dl ds blo bhi jd jp dj ds1 ds2 w G T
  · exact tx_skip a b d e o n w G
namespace lawExchange
set_option maxRecDepth 100000 in
theorem lifted (os : Os) (started : os.Started) (H : Type) (enc : TypeId × Value → H) :
    ReturnsInHanded {} Try.checked os 3 .any (Rows.topExchangeSpec.pre6 enc Try.prog Try.f3 Rows.topExchangeRow.domain false) (Rows.topExchangeSpec.post enc Try.prog Try.f3 false true false false) := by
  refine returnsInHanded_of_change (C := Try.checked) own started (by kernel_rfl) Try.func3
    (ChangeSpec.witness6 (enc := enc) (C := Try.checked) false ⟨#[], #[.agg #[.int .i64 0, .int .i64 0, .int .i64 0, .int .i64 0], .int .i64 0, .int .u64 0], []⟩ 8 (by kernel_rfl) (by kernel_rfl) (by kernel_rfl) (by kernel_rfl)) ?_
  intro W base args ds gs before hval0 hW hcnd _
  have hval : ∀ (j : Nat) t v, Try.f3.params[j]? = some t → args[j]? = some v → Value.okWide Try.prog W .any base t v := hval0
  have hW' := hW
  obtain ⟨p, q, hA0, hV, rfl, hfz, hnd⟩ := hW
  have hA : DataW.TrodAll enc Try.prog W 0 (fun _ => true) true Try.f3.params.toList args.toList ds p := hA0
  rw [Try.params3] at hA hval
  obtain ⟨rfl, rfl⟩ := trodVars_none hV
  obtain ⟨v0, v1, v2, d0, d1, d2, p0, p1, p2, rfl, rfl, rfl, h0, h1, h2⟩ := trodAll_three hA
  obtain ⟨cs, fuel, x, rfl, hx⟩ := open_struct Try.underlying23 (hval 0 23 v0 rfl rfl) h0
  obtain ⟨a, b, d, e, rfl⟩ := quad_cells hx
  obtain ⟨o, rfl, rfl, rfl, wf_o⟩ := open_int Try.underlying3 (hval 1 3 v1 rfl rfl) h1
  obtain ⟨n, rfl, rfl, rfl, wf_n⟩ := open_int Try.underlying24 (hval 2 24 v2 rfl rfl) h2
  refine (txLaw a b d e o n W (bounds_u64 wf_n)).mono fun e W' ⟨he, hb⟩ => ?_
  subst he
  revert hb
  simp only [List.append_nil] at hW'
  intro hb
  exact ⟨_, rfl, law_post (tb := 4) laidOut Try.underlying4 rfl (by rw [Try.params3]; intro t ht; revert ht; revert t; exact of_decide_eq_true (by kernel_rfl)) rfl rfl rfl rfl hW' hb⟩
theorem over : Rows.topExchangeRow.holds Try.pinned (OpenSpec.ofChange Rows.topExchangeSpec) :=
  OpenClaim.holds_of_wide 3 Try.f3 rfl rfl rfl rfl rfl rfl rfl ⟨rfl, rfl, rfl, rfl, rfl⟩ rfl rfl rfl rfl rfl (by kernel_rfl) Try.func3 (by kernel_rfl)
    (of_decide_eq_true (by kernel_rfl)) (by unfold Func.isWrapper; first | (rw [if_pos (by decide +kernel)]; kernel_rfl) | (rw [if_neg (by decide +kernel)]; exact ⟨rfl, rfl⟩))
    (fun os started H enc _ => lifted os started H enc)
theorem proved : Rows.TopExchangeSaid :=
  over
#print axioms proved
end lawExchange
end Go.Proofs.Ytdnmjeapihjabaa
