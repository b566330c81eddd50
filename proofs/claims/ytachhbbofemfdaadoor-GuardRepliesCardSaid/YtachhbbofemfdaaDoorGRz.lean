/- GuardReplies (P47.5): Reply returns the specified bytes or the error: for every input it returns true, and its arguments read afterwards as before; the table of rounds lies as the program's text lays it. No condition. -/
import Derived.Test.YtachhbbofemfdaaDoorGZ18
import Derived.Test.YtachhbbofemfdaaDoorGRz3
import Derived.Test.YtachhbbofemfdaaDoorTie
import Derived.Test.YtachhbbofemfdaaDoorCards
import Derived.SevenTiedAt
namespace Go.Proofs.YtachhbbofemfdaaDoor
open Go.ChangeShapes Go.WideShapes Go.ChangeAt Go.RowKit Go.Joins
set_option linter.unusedSimpArgs false
set_option linter.unusedVariables false
set_option maxRecDepth 100000
/-- a ticket by value: its cells -/
theorem open_tkt' {H : Type} {enc : TypeId × Value → H} {W : World} {b0 : Nat} {r : Reach} {v : Value} {d : DataW H} {p : List MemPlace} (hv : Value.okWide Tryd.prog W r b0 31 v) (h : DataW.Trod enc Tryd.prog W 0 (fun _ => true) true 31 v d p) :
    ∃ (A : Option Addr) (c : Nat) (l : List Int) (x0 x1 x2 x3 : Int), v = .agg (tktL A l.length c x0 x1 x2 x3).toArray ∧ Bs W 0 W.heap.size A l ∧ l.length ≤ c ∧ c ≤ 9223372036854775807 ∧ (A = none → l.length = 0 ∧ c = 0) ∧ (U64 x0 ∧ U64 x1 ∧ U64 x2 ∧ U64 x3) := by
  obtain ⟨cs, fuel, x, rfl, hx⟩ := open_struct Tryd.underlying31 hv h
  obtain ⟨hl, hf⟩ := trod_fields Tryd.underlying31 hx
  rw [cellsTk] at hl
  match cs, hl with
  | [c0, c1, c2, c3, c4], _ =>
    obtain ⟨y0, n0, h0⟩ := hf 0 _ rfl
    obtain ⟨y1, n1, h1⟩ := hf 1 _ rfl
    obtain ⟨y2, n2, h2⟩ := hf 2 _ rfl
    simp [cellsSl8, cellsKey] at h0 h1 h2
    obtain ⟨A, n', c, l, e1, hn, hB, q1, q2, q3, q4⟩ := cell_bs (fun _ => rfl) h0
    obtain ⟨x0, x1, e2, u0, u1⟩ := key_cells h1
    obtain ⟨x2, x3, e3, u2, u3⟩ := key_cells h2
    simp at e2 e3
    obtain ⟨rfl, rfl⟩ := e2
    obtain ⟨rfl, rfl⟩ := e3
    subst hn e1
    exact ⟨A, c, l, x0, x1, x2, x3, rfl, hB, q1, q2, q3, u0, u1, u2, u3⟩
namespace lawReplies
set_option maxRecDepth 100000 in
theorem lifted (os : Os) (started : os.Started) (H : Type) (enc : TypeId × Value → H) :
    ReturnsInHanded {} Tryd.checked os 4 .any (fun w args => (Rows.guardRepliesSpec.pre enc Tryd.prog Tryd.f4 [] false w args ∧ laidMet Tryd.prog laidR w) ∧ sizedMet enc Tryd.prog Tryd.f4 (OpenSpec.ofChange Rows.guardRepliesSpec) false w args)
      (Rows.guardRepliesSpec.post enc Tryd.prog Tryd.f4 false true false false) := by
  refine returnsInHanded_of_change_and (C := Tryd.checked) (X := fun w _ => laidMet Tryd.prog laidR w) (fun _ _ _ hh h => h.of_heap hh) own started (by kernel_rfl) Tryd.func4
    (ChangeSpec.witness_at (enc := enc) (C := Tryd.checked) (os := os) (X := fun w _ => laidMet Tryd.prog laidR w) false (laidWorld os) #[.int .u64 0, .agg #[.slice none 0 0, .int .u64 0, .int .u64 0, .int .u64 0, .int .u64 0], .agg #[.int .i64 0, .int .i64 0, .int .i64 0, .int .i64 0, .int .i64 0, .int .i64 0, .int .u32 0, .int .u32 0, .int .u32 0, .int .u64 0, .int .u64 0, .int .u64 0, .int .u64 0], .slice none 0 0, .int .u64 0] 8 rfl (by kernel_rfl) (by kernel_rfl) (by kernel_rfl) (by kernel_rfl) (by kernel_rfl) (laidWorld_met os _)) ?_
  intro W base args ds gs before hval0 hW hcnd hsz0 hLd _
  have hval : ∀ (j : Nat) t v, Tryd.f4.params[j]? = some t → args[j]? = some v → Value.okWide Tryd.prog W .any base t v := hval0
  have hW' := hW
  have hRnd := rnd_of_laid hLd
  obtain ⟨p, q, hA0, hV, rfl, hfz, hnd⟩ := hW
  have hA : DataW.TrodAll enc Tryd.prog W 0 (fun _ => true) true Tryd.f4.params.toList args.toList ds p := hA0
  have hsz : (DataW.weightsEach Tryd.prog (Tryd.f4.params.toList ++ Rows.guardRepliesSpec.plain.varTypes Tryd.prog) (ds ++ gs)).all (· ≤ reachBytes) = true := hsz0
  rw [Tryd.params4] at hA hval hsz
  obtain ⟨rfl, rfl⟩ := trodVars_none hV
  obtain ⟨v0, v1, v2, v3, v4, d0, d1, d2, d3, d4, p0, p1, p2, p3, p4, rfl, rfl, rfl, h0, h1, h2, h3, h4⟩ := trodAll_five hA
  obtain ⟨s, rfl, rfl, rfl, wf_s⟩ := open_int Tryd.underlying22 (hval 0 22 v0 rfl rfl) h0
  obtain ⟨A, c, I, x0, x1, x2, x3, rfl, hI, hc1, hc2, hc3, u0, u1, u2, u3⟩ := open_tkt' (hval 1 31 v1 rfl rfl) h1
  obtain ⟨l, vv, m, st, po, pr, rd, rp, id, ref, org, rec, xmt, rfl, _, _, _, _, _, _, b6, b7, b8, b9, b10, b11, b12⟩ := open_ntp (hval 2 27 v2 rfl rfl) h2
  obtain ⟨B, q, dd, L, rfl, hL, hX, hqd, hd, hB, _⟩ := open_exts (hval 3 42 v3 rfl rfl) h3
  obtain ⟨nonce, rfl, rfl, rfl, wf_nonce⟩ := open_int Tryd.underlying22 (hval 4 22 v4 rfl rfl) h4
  refine (replies47 s A I.length c x0 x1 x2 x3 l vv m st po pr rd rp id ref org rec xmt nonce B q dd L I W (bounds_u64 wf_s) (bounds_u64 wf_nonce) u0 u1 u2 u3 b6 b7 b8 b9 b10 b11 b12 hL hX hqd hd (fun e => (hB e).1) hI rfl hc1 hc2 hc3 hRnd).mono fun e W' ⟨he, hb⟩ => ?_
  subst he
  revert hb
  simp only [List.append_nil] at hW'
  intro hb
  exact ⟨_, rfl, law_post (tb := 4) laidOut Tryd.underlying4 rfl (by rw [Tryd.params4]; intro t ht; revert ht; revert t; exact of_decide_eq_true (by kernel_rfl)) rfl rfl rfl rfl hW' hb⟩
theorem over : Rows.guardRepliesRow.holds Tryd.pinned (OpenSpec.ofChange Rows.guardRepliesSpec) :=
  OpenClaim.holds_of_wide 4 Tryd.f4 rfl rfl rfl rfl rfl rfl rfl ⟨rfl, rfl, rfl, rfl, rfl⟩ rfl rfl rfl rfl rfl (by kernel_rfl) Tryd.func4 (by kernel_rfl)
    (of_decide_eq_true (by kernel_rfl)) (by unfold Func.isWrapper; first | (rw [if_pos (by decide +kernel)]; kernel_rfl) | (rw [if_neg (by decide +kernel)]; exact ⟨rfl, rfl⟩))
    (fun os started H enc _ => lifted os started H enc)
theorem proved : Rows.GuardRepliesCardSaid :=
  Claim7.holds_tied_plain_at .later [] [.data] true Rows.guardRepliesCard.stood.harness false
    over (fun _ h => by cases h) (by kernel_rfl) (fun _ h => by cases h) guardReplies_row_tie rfl ⟨rfl, rfl⟩ (by kernel_rfl) rfl
    (fun f fn hf hfn => by
      obtain rfl : f = 4 := Option.some.inj (hf.symm.trans (show Tryd.pinned.checked.prog.funcNamed Rows.guardRepliesRow.func = some 4 by kernel_rfl))
      obtain rfl : fn = Tryd.f4 := (Option.some.inj (Tryd.func4.symm.trans hfn)).symm
      refine ⟨by kernel_rfl, fun j t ht => ?_⟩
      have hall : (Tryd.f4.params.toList.all fun t => !Tryd.pinned.checked.prog.wantsStandIn t) = true := by kernel_rfl
      have h1 := List.all_eq_true.1 hall t (Array.mem_toList_iff.2 (Array.mem_of_getElem? ht))
      simpa using h1)
    (by kernel_rfl)
#print axioms proved
end lawReplies
end Go.Proofs.YtachhbbofemfdaaDoor
