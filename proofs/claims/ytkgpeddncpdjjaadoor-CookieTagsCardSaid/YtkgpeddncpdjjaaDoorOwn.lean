/- append of cells of whatever type to a row of the call's own. No function of the program occurs here. -/
import Derived.Test.YtkgpeddncpdjjaaDoorBlk2
namespace Go.Proofs.YtkgpeddncpdjjaaDoor
open Go.RowKit
set_option linter.unusedSimpArgs false
set_option linter.unusedVariables false
set_option maxRecDepth 100000
theorem own_form {w : World} {lo size n : Nat} {E : TypeId} {v : Value} {xs : List Value} (h : w.ownsRow lo E size v n xs) (hn : 0 < n) : ∃ g cap, v = .slice (some ⟨g, 0, none⟩) n cap ∧ lo ≤ g ∧ g < w.heap.size ∧ n ≤ cap ∧ cap ≤ 9223372036854775807 ∧ ∀ k, k < n * size → w.cell? ⟨g, k, none⟩ = xs[k]? := by
  rcases h.2 with ⟨_, h0⟩ | ⟨g, cap, cur, rfl, hlo, hg, hnc, hcm, _⟩
  · omega
  · exact ⟨g, cap, rfl, hlo, (Array.getElem?_eq_some_iff.1 hg).1, hnc, by unfold maxLen at hcm; exact hcm, fun k hk => h.cellAt k hk⟩
section
variable {ops : Array Oper} {rest : List Oper} {o : Oper} {a : Act} {w : World} {Q : Exit → Act → World → Prop}
theorem wpl_append (hw : Region.wanted o (yielded ops a.tmps) = true) (d s : Operand) (T : TypeId) (ho : o.op = .call { callee := .builtin .append, args := #[d, s], argTypes := #[T, T] }) (E : TypeId) (z : Value) (size bytes : Nat)
    (hT : Tryd.prog.underlying T = some (.slice E)) (hI : (Tryd.prog.info? E).map (fun i => (i.zero, i.size, i.bytes)) = some (some z, size, bytes)) (hz : z.cells.size = size) (h0 : 0 < size) (v : Value) (n : Nat) (xs : List Value) (lo : Nat) (hd : a.eval d = v) (hown : w.ownsRow lo E size v n xs)
    (ad : Addr) (m c' : Nat) (hs : a.eval s = .slice (some ad) m c') (news : List Value) (hn : news.length = m * size) (hc : ∀ j u, news[j]? = some u → w.cell? (ad.add j) = some u) (h1 : ∀ u ∈ news, u.oneCell' = true)
    (hsz : n + m ≤ 1000000000) (hby : (n + m) * bytes ≤ 140737488355328) (hlo : lo ≤ w.heap.size)
    (h : ∀ v' w', w'.ownsRow lo E size v' (n + m) (xs ++ news) → Below lo w w' → w.grownBy w' v.ownBlock → wpList Tryd.prog ops Q rest (a.put o.dst v') w') : wpList Tryd.prog ops Q (o :: rest) a w := by
  obtain ⟨i, hi, hz', h1', h2'⟩ := info_parts hI
  obtain ⟨v', w', hrun, r1, r2, _, _⟩ := run_append_own_at (P := Tryd.prog) w lo T o.type E i z size bytes hT hi hz' h1' h2' hz h0 v n xs hown ad m c' news hn hc h1 (by unfold maxLen; omega) hby hlo
  refine wpl_want hw fun K hK => ?_
  unfold Oper.wp execOp
  simp only [ho, resolve, invoke, builtin, Sem.run_bind, Sem.run_pure, Result.andThen_ok, List.map_toArray, List.map_cons, List.map_nil, hd, hs, hrun]
  exact hK _ _ (h v' w' r1 (below_of_grown r2 hlo fun k hk => (hown.lt k hk).1) r2)
end
end Go.Proofs.YtkgpeddncpdjjaaDoor
