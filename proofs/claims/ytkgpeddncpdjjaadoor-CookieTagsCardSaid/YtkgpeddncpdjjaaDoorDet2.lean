/- A region that draws its order, where two operations may come up: both ways; one cell written at an operation by itself. No function of the program occurs here. -/
import Derived.Test.YtkgpeddncpdjjaaDoorDet
import Derived.Test.YtkgpeddncpdjjaaDoorKp
namespace Go.Proofs.YtkgpeddncpdjjaaDoor
open Go.RowKit
set_option linter.unusedSimpArgs false
set_option linter.unusedVariables false
set_option maxRecDepth 100000
section
variable {P : Program} {ops : Array Oper} {Q : Exit → Act → World → Prop} {md : Region.Mode} {S : World → Prop}
theorem wpH_two {i j : Nat} {oi oj : Oper} {fuel : Nat} {l : List Bool} {a : Act} {w : World} (hi : ops[i]? = some oi) (hj : ops[j]? = some oj) (hr : Region.ready md ops l.toArray = [i, j])
    (hwi : Region.wanted oi (yielded ops a.tmps) = true) (hwj : Region.wanted oj (yielded ops a.tmps) = true)
    (h1 : Oper.wp P oi a w (fun a' w' => S w' ∧ wpAnyH P md ops Q S fuel (l.set i true).toArray a' w') Q)
    (h2 : Oper.wp P oj a w (fun a' w' => S w' ∧ wpAnyH P md ops Q S fuel (l.set j true).toArray a' w') Q) : wpAnyH P md ops Q S (fuel + 1) l.toArray a w := by
  refine wpAnyH_all hr (by simp) fun k hk => ?_
  have hk' : k = i ∨ k = j := by simpa using hk
  unfold wpOp
  rcases hk' with rfl | rfl
  · rw [hi]
    show if Region.wanted oi (yielded ops a.tmps) = true then _ else _
    rw [if_pos hwi, List.setIfInBounds_toArray]
    exact .inl h1
  · rw [hj]
    show if Region.wanted oj (yielded ops a.tmps) = true then _ else _
    rw [if_pos hwj, List.setIfInBounds_toArray]
    exact .inl h2
end
section
variable {P : Program} {o : Oper} {a : Act} {w : World} {K : Act → World → Prop} {Q : Exit → Act → World → Prop}
/-- one cell is written, at an operation by itself -/
theorem wp_storef1 (T : TypeId) (x y : Operand) (ho : o.op = .store T x y) (b i : Nat) (hx : a.eval x = .pointer (some ⟨b, i, none⟩)) (v : Value) (hy : a.eval y = v) (hc : v.cells = #[v]) (h1 : v.oneCell' = true) (t : TypeId) (cs : List Value) (hB : Blk w b t cs) (hlt : i < cs.length)
    (hi : (P.info? T).map (·.size) = some 1) (h : K (a.put o.dst undef) (w.setCell ⟨b, i, none⟩ v)) : o.wp P a w K Q := by
  have ht : w.there b i 1 := fun j hj => by
    obtain rfl : j = 0 := by omega
    have := hB.there i hlt
    rwa [Nat.zero_add] at this
  have hr : (Instr.storeAt T (.pointer (some ⟨b, i, none⟩)) v).run P w = .ok () (w.setCell ⟨b, i, none⟩ v) := by
    have h2 := run_storeVar_mid (P := P) w b i T #[v] (by simpa using ht) (by simpa using hi) (by simpa using h1)
    have e : storeVar T ⟨b, i, none⟩ v = storeVar T ⟨b, i, none⟩ (.agg #[v]) := by unfold storeVar; rw [hc]; rfl
    simp only [Instr.storeAt, Instr.sureAddr, Sem.run_bind, Sem.run_pure, Result.andThen_ok, e, h2]
    rfl
  unfold Oper.wp execOp
  simp only [ho, hx, hy, Sem.run_bind, hr, Result.andThen_ok, Sem.run_pure]
  exact h
/-- one cell is read, at an operation by itself -/
theorem wp_loadf1 (T : TypeId) (x : Operand) (ho : o.op = .load T x) (b i : Nat) (hx : a.eval x = .pointer (some ⟨b, i, none⟩)) (v : Value) (hcell : w.cell? ⟨b, i, none⟩ = some v) (d : TypeDesc)
    (hu : P.underlying T = some d) (hd : d.isRow = false) (h : K (a.put o.dst v) w) : o.wp P a w K Q := by
  have hagg : (isAgg T).run P w = .ok false w := by
    unfold isAgg
    rw [Sem.run_bind, run_underlying hu w]
    cases d <;> simp_all
  have hr : (Instr.loadAt T (.pointer (some ⟨b, i, none⟩))).run P w = .ok v w := by
    simp [Instr.loadAt, Instr.sureAddr, loadVar, Sem.run_bind, hagg, hcell, go_sem]
  unfold Oper.wp execOp
  simp only [ho, hx, Sem.run_bind, hr, Result.andThen_ok, Sem.run_pure]
  exact h
end
end Go.Proofs.YtkgpeddncpdjjaaDoor
