/- A region that draws its order, each of whose operations yields one value in every world that meets S, and leaves a world that meets S: then one order stands for all. No function of the program occurs here. -/
import Derived.Test.YtkgpeddncpdjjaaDoorBase
import Derived.Deep.RegionHeld3
namespace Go.Proofs.YtkgpeddncpdjjaaDoor
open Go.RowKit
set_option linter.unusedSimpArgs false
set_option linter.unusedVariables false
set_option maxRecDepth 100000
section
variable {P : Program} {ops : Array Oper} {Q : Exit → Act → World → Prop} {md : Region.Mode} {S : World → Prop}
/-- in every world that meets S the operation yields v, and the world behind it meets S -/
def YS (P : Program) (S : World → Prop) (o : Oper) (v : Value) (a : Act) : Prop :=
  ∀ w, S w → Oper.wp P o a w (fun a' w' => a' = a.put o.dst v ∧ S w') (fun _ _ _ => False)
def YG (P : Program) (ops : Array Oper) (S : World → Prop) (o : Oper) (v : Value) (a : Act) : Prop :=
  (Region.wanted o (yielded ops a.tmps) = true ∧ YS P S o v a) ∨ (Region.wanted o (yielded ops a.tmps) = false ∧ v = undef)
theorem put_far {a : Act} {d : Option Tmp} {u v x : Value} {e : Option Tmp} (h : ∀ t, e = some t → d ≠ some t) (hu : a.put d u = a.put d v) : (a.put e x).put d u = (a.put e x).put d v := by
  have h1 : ∀ z : Value, (a.put e x).put d z = (a.put d z).put e x := fun z => Act.put_comm a x z h
  rw [h1, h1, hu]
theorem put_near {a : Act} {d : Option Tmp} {u v x : Value} {e : Option Tmp} (h : ∀ t, e = some t → d ≠ some t) (hu : (a.put e x).put d u = (a.put e x).put d v) : a.put d u = a.put d v := by
  cases d with
  | none => rfl
  | some d =>
    cases e with
    | none => exact hu
    | some e =>
      have hne : e ≠ d := fun he => h e rfl (by rw [he])
      have hu' := hu
      simp only [Act.put, Act.mk.injEq] at hu ⊢
      refine ⟨?_, hu.2⟩
      have h1 := hu.1
      apply Array.ext (by simp)
      intro i hi1 hi2
      have hi3 : i < a.tmps.size := by simpa using hi1
      have h2 := congrArg (fun t => t[i]?) h1
      by_cases hid : i = d
      · subst hid
        simp [hi3] at h2
        simp [h2]
      · rw [Array.getElem_setIfInBounds_ne hi3 (Ne.symm hid), Array.getElem_setIfInBounds_ne hi3 (Ne.symm hid)]
theorem YS.move {o : Oper} {v x : Value} {a : Act} {e : Option Tmp} (hs : ∀ cs b, o.op ≠ .select cs b) (hl : ∀ d, e = some d → d ∉ o.looksAt ops) (hd : ∀ d, e = some d → o.dst ≠ some d) : YS P S o v (a.put e x) ↔ YS P S o v a := by
  have he := execOp_put (ops := ops) o hs a e x hl
  unfold YS Oper.wp
  refine forall_congr' fun w => imp_congr_right fun _ => ?_
  rw [he]
  cases (execOp a.eval o).run P w with
  | ok n w' =>
    cases n <;> simp only [Oper.upon]
    case value u => exact and_congr_left fun _ => ⟨put_near hd, put_far hd⟩
    case skip => exact and_congr_left fun _ => ⟨put_near hd, put_far hd⟩
    case defer d =>
      refine and_congr_left fun _ => ⟨fun h => ?_, fun h => ?_⟩
      · exfalso
        have h2 := congrArg Act.defers h
        cases hq : o.dst <;> cases e <;> simp [Act.put, hq] at h2
      · exfalso
        have h2 := congrArg Act.defers h
        cases hq : o.dst <;> simp [Act.put, hq] at h2
    case enter f args =>
      have key : ∀ (b : Act) (r : Ending) (w'' : World), (match r with | .returned u => (b.put o.dst u = b.put o.dst v ∧ S w'') | .panicked c => False | .outgrown => False) ↔ (match r with | .returned u => (b.put o.dst u = b.put o.dst v ∧ S w'') | .panicked c => False | .outgrown => False) := fun _ _ _ => Iff.rfl
      constructor
      · intro h
        refine Calls.mono h fun r w'' hr => ?_
        cases r with
        | returned u => exact ⟨put_near hd hr.1, hr.2⟩
        | panicked c => exact hr
        | outgrown => exact hr
      · intro h
        refine Calls.mono h fun r w'' hr => ?_
        cases r with
        | returned u => exact ⟨put_far hd hr.1, hr.2⟩
        | panicked c => exact hr
        | outgrown => exact hr
    case row row args =>
      constructor
      · intro h; exact Rows.mono h fun u w'' hr => ⟨put_near hd hr.1, hr.2⟩
      · intro h; exact Rows.mono h fun u w'' hr => ⟨put_far hd hr.1, hr.2⟩
    all_goals exact Iff.rfl
  | halt x w' => cases x <;> simp only [Oper.upon]
theorem YG.move {o : Oper} {v x : Value} {a : Act} {e : Option Tmp} (hs : ∀ cs b, o.op ≠ .select cs b) (hl : ∀ d, e = some d → d ∉ o.looksAt ops) (hd : ∀ d, e = some d → o.dst ≠ some d) : YG P ops S o v (a.put e x) ↔ YG P ops S o v a := by
  unfold YG
  rw [wanted_put o a e x hl, YS.move (ops := ops) hs hl hd]
/-- whatever order is picked: every operation yields its one value -/
def wpD (P : Program) (md : Region.Mode) (ops : Array Oper) (Q : Exit → Act → World → Prop) (S : World → Prop) : Nat → Array Bool → Act → Prop
  | 0, listed, a => Region.ready md ops listed = [] ∧ ∀ w, S w → Q .normal a w
  | fuel + 1, listed, a => (Region.ready md ops listed = [] → ∀ w, S w → Q .normal a w) ∧
    ∀ i ∈ Region.ready md ops listed, ∃ o v, ops[i]? = some o ∧ YG P ops S o v a ∧ wpD P md ops Q S fuel (listed.setIfInBounds i true) (a.put o.dst v)
theorem wpD_sound : ∀ (fuel : Nat) (listed : Array Bool) (a : Act), wpD P md ops Q S fuel listed a → ∀ w, S w → wpAny P md ops Q fuel listed a w
  | 0, _, _, h => fun w hw => ⟨h.1, h.2 w hw⟩
  | fuel + 1, listed, a, h => fun w hw => ⟨fun hr => h.1 hr w hw, fun i hi => by
    obtain ⟨o, v, ho, hy, hd⟩ := h.2 i hi
    have ih := wpD_sound fuel _ _ hd
    unfold wpOp
    rw [ho]
    show if Region.wanted o (yielded ops a.tmps) = true then _ else _
    rcases hy with ⟨h1, h2⟩ | ⟨h1, rfl⟩
    · rw [if_pos h1]
      refine .inl ?_
      have h3 := h2 w hw
      unfold Oper.wp at h3 ⊢
      generalize (execOp a.eval o).run P w = r at h3 ⊢
      cases r with
      | ok n w' =>
        cases n <;> simp only [Oper.upon] at h3 ⊢
        case value u => rw [h3.1]; exact ih w' h3.2
        case skip => rw [h3.1]; exact ih w' h3.2
        case defer d => rw [h3.1]; exact ih w' h3.2
        case enter f args =>
          refine Calls.mono h3 fun r w'' hr => ?_
          cases r with
          | returned u => have hr : a.put o.dst u = a.put o.dst v ∧ S w'' := hr; show wpAny P md ops Q fuel _ (a.put o.dst u) w''; rw [hr.1]; exact ih w'' hr.2
          | panicked c => exact hr.elim
          | outgrown => have hr : LetsOut (fun (_ : Exit) (_ : Act) (_ : World) => False) := hr; obtain ⟨_, _, h⟩ := hr; exact h.elim
        case row row args => exact Rows.mono h3 fun u w'' hr => by rw [hr.1]; exact ih w'' hr.2
      | halt x w' => cases x <;> simp only [Oper.upon] at h3 ⊢
    · rw [if_neg (by rw [h1]; simp)]
      exact ih w hw⟩
theorem wpD_first {i : Nat} {oi : Oper} {v : Value} (hi : ops[i]? = some oi) (hsel : ∀ (j : Nat) (o : Oper) cs b, ops[j]? = some o → o.op ≠ .select cs b) :
    ∀ (fuel : Nat) (listed : Array Bool) (a : Act),
      (∀ j oj, ops[j]? = some oj → j ≠ i → listed.getD j true = false → (∀ e ∈ oj.after, Region.binds md e = true → e.on ≠ i) → oi.apart ops oj = true) →
      i ∈ Region.ready md ops listed → YG P ops S oi v a →
      wpD P md ops Q S fuel (listed.setIfInBounds i true) (a.put oi.dst v) → wpD P md ops Q S (fuel + 1) listed a := by
  intro fuel
  induction fuel with
  | zero =>
    intro listed a _ hr hy H
    refine ⟨fun h => (by rw [h] at hr; cases hr), fun j hj => ?_⟩
    by_cases hji : j = i
    · subst hji; exact ⟨oi, v, hi, hy, H⟩
    · have := ready_mono hj hji
      rw [H.1] at this
      cases this
  | succ fuel ih =>
    intro listed a hfree hr hy H
    refine ⟨fun h => (by rw [h] at hr; cases hr), fun j hj => ?_⟩
    by_cases hji : j = i
    · subst hji; exact ⟨oi, v, hi, hy, H⟩
    · obtain ⟨oj, u, hoj, hyj, hD⟩ := H.2 j (ready_mono hj hji)
      obtain ⟨hjun, oj', hoj', hall⟩ := mem_ready.1 hj
      obtain rfl : oj = oj' := Option.some.inj (hoj.symm.trans hoj')
      have hnot : ∀ e ∈ oj.after, Region.binds md e = true → e.on ≠ i := fun e he hb heq => by
        have h1 := hall e he hb
        have h0 := (mem_ready.1 hr).1
        rw [heq] at h1
        rcases Nat.lt_or_ge i listed.size with h' | h'
        · simp [h'] at h0 h1; rw [h0] at h1; cases h1
        · simp [Array.getElem?_eq_none h'] at h1
      obtain ⟨a1, a2, a3⟩ := Oper.apart_spec (hfree j oj hoj hji hjun hnot)
      have b2 : ∀ d, oj.dst = some d → oi.dst ≠ some d := fun d hd he => a2 d he hd
      refine ⟨oj, u, hoj, (YG.move (fun cs b => hsel j oj cs b hoj) a1 a2).1 hyj, ?_⟩
      have hfree' : ∀ k ok, ops[k]? = some ok → k ≠ i → (listed.setIfInBounds j true).getD k true = false →
          (∀ e ∈ ok.after, Region.binds md e = true → e.on ≠ i) → oi.apart ops ok = true := fun k ok hk hki hun hno => by
        refine hfree k ok hk hki ?_ hno
        by_cases hjk : j = k
        · subst hjk; exact hjun
        · rw [getD_set_ne true hjk] at hun; exact hun
      refine ih (listed.setIfInBounds j true) (a.put oj.dst u) hfree' (ready_mono hr (Ne.symm hji)) ((YG.move (fun cs b => hsel i oi cs b hi) a3 b2).2 hy) ?_
      rw [Array.setIfInBounds_comm _ _ hji, ← Act.put_comm a v u a2]
      exact hD
/-- number i is taken: it may come up, and those that do not wait for it are apart from it -/
theorem wpD_take {i : Nat} {oi : Oper} {v : Value} {fuel : Nat} {l : List Bool} {a : Act} (hi : ops[i]? = some oi)
    (hs : Region.noSelect ops = true) (hf : Region.free md ops l.toArray i = true) (hr : (Region.ready md ops l.toArray).contains i = true)
    (hw : Region.wanted oi (yielded ops a.tmps) = true) (hy : YS P S oi v a)
    (h : wpD P md ops Q S fuel (l.set i true).toArray (a.put oi.dst v)) : wpD P md ops Q S (fuel + 1) l.toArray a :=
  wpD_first hi (Region.noSelect_spec hs) fuel l.toArray a (Region.free_spec hi hf) (by simpa using hr) (.inl ⟨hw, hy⟩) (by rw [List.setIfInBounds_toArray]; exact h)
/-- number i is not wanted -/
theorem wpD_skip {i : Nat} {oi : Oper} {fuel : Nat} {l : List Bool} {a : Act} (hi : ops[i]? = some oi)
    (hs : Region.noSelect ops = true) (hf : Region.free md ops l.toArray i = true) (hr : (Region.ready md ops l.toArray).contains i = true)
    (hw : Region.wanted oi (yielded ops a.tmps) = false)
    (h : wpD P md ops Q S fuel (l.set i true).toArray (a.put oi.dst undef)) : wpD P md ops Q S (fuel + 1) l.toArray a :=
  wpD_first hi (Region.noSelect_spec hs) fuel l.toArray a (Region.free_spec hi hf) (by simpa using hr) (.inr ⟨hw, rfl⟩) (by rw [List.setIfInBounds_toArray]; exact h)
theorem wpD_done {listed : Array Bool} {a : Act} (hr : Region.ready md ops listed = []) (h : ∀ w, S w → Q .normal a w) :
    ∀ fuel, wpD P md ops Q S fuel listed a
  | 0 => ⟨hr, h⟩
  | _ + 1 => ⟨fun _ => h, by rw [hr]; simp⟩
/-- the beginning -/
theorem wp_region_det {id : Nat} {a : Act} {w : World} (S : World → Prop) (n : Nat) (hm : P.follows .mixedOrders = true) (hn : ops.size = n) (hS : S w.drew)
    (h : wpD P .any ops Q S n (List.replicate n false).toArray a) : (Code.region id ops true).wp P Q a w := by
  refine wp_region_any hm (wpD_sound _ _ _ ?_ _ hS)
  rw [hn, show Array.replicate n false = (List.replicate n false).toArray by simp]
  exact h
/-- an operation that leaves the world as it is -/
theorem YS.of_value {o : Oper} {v : Value} {a : Act} (h : ∀ w, S w → (execOp a.eval o).run P w = .ok (.value v) w) : YS P S o v a := fun w hw => by
  unfold Oper.wp
  rw [h w hw]
  exact ⟨rfl, hw⟩
/-- the same region under a condition that is held, step by step (for a region of few operations that stores or appends) -/
theorem wp_region_heldL {id : Nat} {a : Act} {w : World} (S : World → Prop) (n : Nat) (hm : P.follows .mixedOrders = true) (hn : ops.size = n) (hS : S w.drew)
    (h : S w.drew → wpAnyH P .any ops Q S n (List.replicate n false).toArray a w.drew) : (Code.region id ops true).wp P Q a w := by
  refine wp_region_held_drew hm hS fun h0 => ?_
  rw [hn, show Array.replicate n false = (List.replicate n false).toArray by simp]
  exact h h0
theorem wpH_take {i : Nat} {oi : Oper} {v : Value} {fuel : Nat} {l : List Bool} {a : Act} {w : World} (hi : ops[i]? = some oi)
    (hs : Region.noSelect ops = true) (hf : Region.free md ops l.toArray i = true) (hr : (Region.ready md ops l.toArray).contains i = true)
    (hQ : ∀ c a w, Q (.panic c) (a.put oi.dst v) w → Q (.panic c) a w) (hy : YieldsIf P ops S oi v a) (hS : S w)
    (h : wpAnyH P md ops Q S fuel (l.set i true).toArray (a.put oi.dst v) w) : wpAnyH P md ops Q S (fuel + 1) l.toArray a w :=
  wpAnyH_take hi hs hf hr hQ hy hS (by rw [List.setIfInBounds_toArray]; exact h)
theorem wpH_one {i : Nat} {oi : Oper} {fuel : Nat} {l : List Bool} {a : Act} {w : World} (hi : ops[i]? = some oi) (hr : Region.ready md ops l.toArray = [i]) (hw : Region.wanted oi (yielded ops a.tmps) = true)
    (h : Oper.wp P oi a w (fun a' w' => S w' ∧ wpAnyH P md ops Q S fuel (l.set i true).toArray a' w') Q) : wpAnyH P md ops Q S (fuel + 1) l.toArray a w := by
  refine wpAnyH_all hr (by simp) fun j hj => ?_
  obtain rfl : j = i := by simpa using hj
  unfold wpOp
  rw [hi]
  show if Region.wanted oi (yielded ops a.tmps) = true then _ else _
  rw [if_pos hw, List.setIfInBounds_toArray]
  exact .inl h
theorem wpH_done {listed : Array Bool} {a : Act} {w : World} (hr : Region.ready md ops listed = []) (h : Q .normal a w) : ∀ fuel, wpAnyH P md ops Q S fuel listed a w := wpAnyH_done hr h
end
end Go.Proofs.YtkgpeddncpdjjaaDoor
