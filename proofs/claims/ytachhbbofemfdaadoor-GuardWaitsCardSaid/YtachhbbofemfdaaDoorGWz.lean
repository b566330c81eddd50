/- GuardWaits (P47.2, P47.3): of many requests only the last eight are answered: for every input it returns true, and its arguments read afterwards as before; the table of rounds lies as the program's text lays it. No condition. -/
import Derived.Test.YtachhbbofemfdaaDoorGZ18
import Derived.Test.YtachhbbofemfdaaDoorGWz4
import Derived.Test.YtachhbbofemfdaaDoorTie
import Derived.Test.YtachhbbofemfdaaDoorCards
import Derived.SevenTiedAt
namespace Go.Proofs.YtachhbbofemfdaaDoor
open Go.ChangeShapes Go.WideShapes Go.ChangeAt Go.RowKit Go.Joins
set_option linter.unusedSimpArgs false
set_option linter.unusedVariables false
set_option maxRecDepth 100000
namespace lawWaits
set_option maxRecDepth 100000 in
theorem lifted (os : Os) (started : os.Started) (H : Type) (enc : TypeId × Value → H) :
    ReturnsInHanded {} Tryd.checked os 6 .any (fun w args => (Rows.guardWaitsSpec.pre enc Tryd.prog Tryd.f6 [] false w args ∧ laidMet Tryd.prog laidR w) ∧ sizedMet enc Tryd.prog Tryd.f6 (OpenSpec.ofChange Rows.guardWaitsSpec) false w args)
      (Rows.guardWaitsSpec.post enc Tryd.prog Tryd.f6 false true false false) := by
  refine returnsInHanded_of_change_and (C := Tryd.checked) (X := fun w _ => laidMet Tryd.prog laidR w) (fun _ _ _ hh h => h.of_heap hh) own started (by kernel_rfl) Tryd.func6
    (ChangeSpec.witness_at (enc := enc) (C := Tryd.checked) (os := os) (X := fun w _ => laidMet Tryd.prog laidR w) false (laidWorld os) #[.agg #[.int .u64 0, .int .u64 0], .agg #[.int .u64 0, .int .u64 0], .int .u64 0, .int .u8 0] 8 rfl (by kernel_rfl) (by kernel_rfl) (by kernel_rfl) (by kernel_rfl) (by kernel_rfl) (laidWorld_met os _)) ?_
  intro W base args ds gs before hval0 hW hcnd hsz0 hLd _
  have hval : ∀ (j : Nat) t v, Tryd.f6.params[j]? = some t → args[j]? = some v → Value.okWide Tryd.prog W .any base t v := hval0
  have hW' := hW
  have hRnd := rnd_of_laid hLd
  obtain ⟨p, q, hA0, hV, rfl, hfz, hnd⟩ := hW
  have hA : DataW.TrodAll enc Tryd.prog W 0 (fun _ => true) true Tryd.f6.params.toList args.toList ds p := hA0
  have hsz : (DataW.weightsEach Tryd.prog (Tryd.f6.params.toList ++ Rows.guardWaitsSpec.plain.varTypes Tryd.prog) (ds ++ gs)).all (· ≤ reachBytes) = true := hsz0
  rw [Tryd.params6] at hA hval hsz
  obtain ⟨rfl, rfl⟩ := trodVars_none hV
  obtain ⟨v0, v1, v2, v3, d0, d1, d2, d3, p0, p1, p2, p3, rfl, rfl, rfl, h0, h1, h2, h3⟩ := trodAll_four hA
  obtain ⟨a, b, rfl, Ua, Ub⟩ := open_key (hval 0 29 v0 rfl rfl) h0
  obtain ⟨c, d, rfl, Uc, Ud⟩ := open_key (hval 1 29 v1 rfl rfl) h1
  obtain ⟨s, rfl, rfl, rfl, wf_s⟩ := open_int Tryd.underlying22 (hval 2 22 v2 rfl rfl) h2
  obtain ⟨f, rfl, rfl, rfl, wf_f⟩ := open_int Tryd.underlying5 (hval 3 5 v3 rfl rfl) h3
  refine (waits_main a b c d s f W Ua Ub Uc Ud (bounds_u64 wf_s) (bounds_u8 wf_f) hRnd).mono fun e W' ⟨he, hb⟩ => ?_
  subst he
  revert hb
  simp only [List.append_nil] at hW'
  intro hb
  exact ⟨_, rfl, law_post (tb := 4) laidOut Tryd.underlying4 rfl (by rw [Tryd.params6]; intro t ht; revert ht; revert t; exact of_decide_eq_true (by kernel_rfl)) rfl rfl rfl rfl hW' hb⟩
theorem over : Rows.guardWaitsRow.holds Tryd.pinned (OpenSpec.ofChange Rows.guardWaitsSpec) :=
  OpenClaim.holds_of_wide 6 Tryd.f6 rfl rfl rfl rfl rfl rfl rfl ⟨rfl, rfl, rfl, rfl, rfl⟩ rfl rfl rfl rfl rfl (by kernel_rfl) Tryd.func6 (by kernel_rfl)
    (of_decide_eq_true (by kernel_rfl)) (by unfold Func.isWrapper; first | (rw [if_pos (by decide +kernel)]; kernel_rfl) | (rw [if_neg (by decide +kernel)]; exact ⟨rfl, rfl⟩))
    (fun os started H enc _ => lifted os started H enc)
theorem proved : Rows.GuardWaitsCardSaid :=
  Claim7.holds_tied_plain_at .later [] [.data] true Rows.guardWaitsCard.stood.harness false
    over (fun _ h => by cases h) (by kernel_rfl) (fun _ h => by cases h) guardWaits_row_tie rfl ⟨rfl, rfl⟩ (by kernel_rfl) rfl
    (fun f fn hf hfn => by
      obtain rfl : f = 6 := Option.some.inj (hf.symm.trans (show Tryd.pinned.checked.prog.funcNamed Rows.guardWaitsRow.func = some 6 by kernel_rfl))
      obtain rfl : fn = Tryd.f6 := (Option.some.inj (Tryd.func6.symm.trans hfn)).symm
      refine ⟨by kernel_rfl, fun j t ht => ?_⟩
      have hall : (Tryd.f6.params.toList.all fun t => !Tryd.pinned.checked.prog.wantsStandIn t) = true := by kernel_rfl
      have h1 := List.all_eq_true.1 hall t (Array.mem_toList_iff.2 (Array.mem_of_getElem? ht))
      simpa using h1)
    (by kernel_rfl)
#print axioms proved
end lawWaits
end Go.Proofs.YtachhbbofemfdaaDoor
