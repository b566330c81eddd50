/- How a law's statement follows from its walk: the reading of the arguments stands behind the call as before, where the call has made new blocks only. -/
import Derived.Test.YtkgpeddncpdjjaaDoorBase
import Derived.ShutString
import Derived.Lib.SmallJoins
import Derived.Carry
namespace Go.Proofs.YtkgpeddncpdjjaaDoor
open Go.ChangeShapes Go.WideShapes Go.ChangeAt Go.RowKit Go.Joins
set_option linter.unusedSimpArgs false
set_option linter.unusedVariables false
set_option maxRecDepth 100000
theorem own : ownKnob Tryd.prog.godebug = none := by kernel_rfl
theorem laidOut : laidOutB Tryd.prog = true := by kernel_rfl
section
variable {H : Type} {enc : TypeId × Value → H} {P : Program}
theorem below_trodAll (hl : laidOutB P = true) {W W' : World} (hb : Below W.heap.size W W') (sp : Nat → Bool) : ∀ (ts : List TypeId) (vs : List Value) (ds : List (DataW H)) (ps : List MemPlace),
    (∀ t ∈ ts, P.readableRec t = true ∧ t < P.types.size) → DataW.TrodAll enc P W 0 (fun _ => true) true ts vs ds ps → (∀ x ∈ ps, x.block < W.heap.size) → (∀ x ∈ ps, sp x.block = true) → DataW.TrodAll enc P W' 0 sp true ts vs ds ps
  | [], vs, ds, ps, _, h, _, _ => by
      obtain ⟨rfl, rfl, rfl⟩ := trodAll_nil h
      exact trodAll_mk0
  | t :: ts, vs, ds, ps, hr, h, hlt, hsp => by
      obtain ⟨v, vs', d, ds', p, q, rfl, rfl, rfl, h0, r0⟩ := trodAll_cons h
      obtain ⟨hr1, hr2⟩ := hr t (by simp)
      exact trodAll_cons_mk (WideElems.Trod_stays hl hr1 hr2 h0 (fun x hx => hb.same (hlt x (by simp [hx]))) (fun x hx => hsp x (by simp [hx])))
        (below_trodAll hl hb sp ts vs' ds' q (fun t ht => hr t (by simp [ht])) r0 (fun x hx => hlt x (by simp [hx])) (fun x hx => hsp x (by simp [hx])))
/-- The post of a law: it returned true; of what was there nothing has turned. -/
theorem law_post {f : Func} {s : ChangeSpec} {apart fresh handsOn again : Bool} {W W' : World} {args : Array Value} {ds : List (DataW H)} {before : List MemPlace} {tb : TypeId} (hl : laidOutB P = true) (hbool : P.underlying tb = some .bool)
    (hrt : f.resultTypes = #[tb]) (hpar : ∀ t ∈ f.params.toList, P.readableRec t = true ∧ t < P.types.size) (hvars : s.vars = [])
    (h1 : (s.fn H ds).results = [.lit (.bool true)]) (h2 : (s.fn H ds).args = ds) (h3 : (s.fn H ds).vars = [])
    (hW : DataW.Whole enc P f.params.toList s.vars apart W args.toList ds [] before) (hb : Below W.heap.size W W') : s.post enc P f apart fresh handsOn again W args (.bool true) W' := by
  have hlt : ∀ x ∈ before, x.block < W.heap.size := fun x hx => hW.lt x hx
  have hW' := hW
  obtain ⟨p, q, hA, hV, hp, hz, hn⟩ := hW'
  rw [hvars] at hV
  obtain ⟨_, hq⟩ := trodVars_none hV
  rw [hq, List.append_nil] at hp
  have args' : ∀ sp : Nat → Bool, (∀ x ∈ before, sp x.block = true) → DataW.TrodAll enc P W' 0 sp true f.params.toList args.toList ds before := fun sp hsp => by
    rw [hp] at hlt hsp ⊢
    exact below_trodAll hl hb sp _ _ _ _ hpar hA hlt hsp
  have res' : ∀ (b : Nat) (sp : Nat → Bool) (hd : Bool), DataW.TrodAll enc P W' b sp hd f.resultTypes.toList ((Value.bool true).resultList f.resultTypes.size) [.lit (.bool true)] [] := fun b sp hd => by
    rw [hrt]
    exact trodAll_mk1 (shut_bool hbool true)
  have vars' : ∀ sp : Nat → Bool, DataW.TrodVars enc P W' sp s.vars [] [] := fun sp => by rw [hvars]; rfl
  have e0 : ds ++ [] = ds := List.append_nil ds
  refine ⟨ds, [], before, [], before, [], hW, ?_, ?_, ?_, ?_, ?_⟩
  · rw [e0, h1]; exact res' _ _ _
  · rw [e0, h2]; exact args' _ (fun x hx => by simpa using hlt x hx)
  · rw [e0, h3]; exact vars' _
  · exact World.keptBut_mono (fun x hx => ⟨hx, Or.inr (Or.inl hx)⟩) (hb.frame (· ∈ before))
  · intro _
    refine ⟨?_, [.lit (.bool true)] ++ ds, [], before, ⟨before, [], ?_, vars' _, by simp, ?_, fun ha => hn ha⟩, fun x hx _ => hx⟩
    · exact ok_one hrt rfl (okWide_bool_mk hbool true)
    · exact trodAll_append (args' (fun _ => true) (fun _ _ => rfl)) (res' _ _ _)
    · intro b off hx
      rw [hb.frozen (hlt _ hx)]
      exact hz b off hx
end
end Go.Proofs.YtkgpeddncpdjjaaDoor
