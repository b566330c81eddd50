/- append of bytes to a row of the call's own: the run itself, and the law at a guarded operation and at a step of a region that draws. No function of the program occurs here. -/
import Derived.Test.YthhdbpdgppppiaaMem
import Derived.Test.YthhdbpdgppppiaaBlk
namespace Go.Proofs.Ythhdbpdgppppiaa
open Go.RowKit
set_option linter.unusedSimpArgs false
set_option linter.unusedVariables false
section
variable {w : World} {lo lo' hi' : Nat} {A B : Option Addr} {l m : List Int}
theorem run_append_bs (ty : TypeId) (n c m' c' : Nat) (hn : l.length = n) (hm : m.length = m') (hown : Ow w lo A c l) (hsrc : Bs w lo' hi' B m) (hsz : n + m' ≤ 140737488355328) (hlo : lo ≤ w.heap.size) :
    ∃ A' c'' w', (Builtin.append_ #[26, 26] ty #[.slice A n c, .slice B m' c']).run Try.prog w = .ok (.slice A' (n + m') c'') w' ∧ Ow w' lo A' c'' (l ++ m) ∧ Below lo w w' ∧ w.grownBy w' (Value.slice A n c).ownBlock := by
  obtain ⟨i, hi, hz, h1, h2⟩ := info_parts infoU8
  subst hn hm
  have done : ∀ v' w', (Builtin.append_ #[26, 26] ty #[.slice A l.length c, .slice B m.length c']).run Try.prog w = .ok v' w' → w'.ownsRow lo 5 1 v' (l.length + m.length) (l.map (Value.int .u8) ++ m.map (Value.int .u8)) → w.grownBy w' (Value.slice A l.length c).ownBlock →
      ∃ A' c'' w', (Builtin.append_ #[26, 26] ty #[.slice A l.length c, .slice B m.length c']).run Try.prog w = .ok (.slice A' (l.length + m.length) c'') w' ∧ Ow w' lo A' c'' (l ++ m) ∧ Below lo w w' ∧ w.grownBy w' (Value.slice A l.length c).ownBlock := by
    intro v' w' hrun r1 r2
    obtain ⟨A', c'', rfl, hO, _⟩ := Ow.mk r1 (l := l ++ m) (by rw [List.map_append]) (hown.1.app hsrc.byt)
    rw [List.length_append] at hrun
    exact ⟨A', c'', w', hrun, hO, below_of_grown r2 hlo fun k hk => (hown.2.lt k hk).1, r2⟩
  by_cases h0 : m.length = 0
  · obtain rfl : m = [] := List.eq_nil_of_length_eq_zero h0
    rcases B with _ | ad
    · refine done (.slice A l.length c) w ?_ (by simpa using hown.2) (World.grownBy.refl w _)
      rcases hown.2.2 with ⟨he, hl0⟩ | ⟨g, cap, cur, he, _, _, hnc, _⟩
      · rw [he]; simp [Builtin.append_, run_underlying Try.underlying26, sizeOf, typeInfo, hi, Builtin.lenOf, Builtin.firstCells]
      · rw [he]; simp [Builtin.append_, run_underlying Try.underlying26, sizeOf, typeInfo, hi, Builtin.lenOf, Builtin.firstCells, hnc, storeCells]
    · obtain ⟨v', w', hrun, r1, r2, _, r3⟩ := run_append_own_at (P := Try.prog) w lo 26 ty 5 i (.int .u8 0) 1 1 Try.underlying26 hi hz h1 h2 rfl (by omega) (.slice A l.length c) l.length _ hown.2
        ad 0 c' [] (by simp) (by simp) (by simp) (by unfold maxLen; simp at hsz; omega) (by simp at hsz; omega) hlo
      exact done v' w' hrun (by simpa using r1) r2
  · obtain ⟨b, off, rfl, _, _, hcell⟩ := hsrc.at (by omega)
    obtain ⟨v', w', hrun, r1, r2, _, r3⟩ := run_append_own_at (P := Try.prog) w lo 26 ty 5 i (.int .u8 0) 1 1 Try.underlying26 hi hz h1 h2 rfl (by omega) (.slice A l.length c) l.length _ hown.2
      ⟨b, off, none⟩ m.length c' (m.map (Value.int .u8)) (by simp) (cells_u8 hcell (Nat.le_refl _)) (oneCellU8 m) (by unfold maxLen; omega) (by omega) hlo
    exact done v' w' hrun r1 r2
theorem wp_append_bs {o : Oper} {a : Act} {K : Act → World → Prop} {Q : Exit → Act → World → Prop} (d s : Operand) (ho : o.op = .call { callee := .builtin .append, args := #[d, s], argTypes := #[26, 26] })
    (n c m' c' : Nat) (hd : a.eval d = .slice A n c) (hs : a.eval s = .slice B m' c') (hn : l.length = n) (hm : m.length = m') (hown : Ow w lo A c l) (hsrc : Bs w lo' hi' B m) (hsz : n + m' ≤ 140737488355328) (hlo : lo ≤ w.heap.size)
    (h : ∀ A' c' w', Ow w' lo A' c' (l ++ m) → Below lo w w' → K (a.put o.dst (.slice A' (n + m') c')) w') : o.wp Try.prog a w K Q := by
  obtain ⟨A', c'', w', hrun, h1, h2, _⟩ := run_append_bs (c' := c') o.type n c m' hn hm hown hsrc hsz hlo
  unfold Oper.wp execOp
  simp only [ho, resolve, invoke, builtin, Sem.run_bind, Sem.run_pure, Result.andThen_ok, List.map_toArray, List.map_cons, List.map_nil, hd, hs, hrun]
  exact h A' c'' w' h1 h2
theorem wpl_append_bs {ops : Array Oper} {rest : List Oper} {o : Oper} {a : Act} {Q : Exit → Act → World → Prop} (hw : Region.wanted o (yielded ops a.tmps) = true) (d s : Operand) (ho : o.op = .call { callee := .builtin .append, args := #[d, s], argTypes := #[26, 26] })
    (n c m' c' : Nat) (hd : a.eval d = .slice A n c) (hs : a.eval s = .slice B m' c') (hn : l.length = n) (hm : m.length = m') (hown : Ow w lo A c l) (hsrc : Bs w lo' hi' B m) (hsz : n + m' ≤ 140737488355328) (hlo : lo ≤ w.heap.size)
    (h : ∀ A' c' w', Ow w' lo A' c' (l ++ m) → Below lo w w' → wpList Try.prog ops Q rest (a.put o.dst (.slice A' (n + m') c')) w') : wpList Try.prog ops Q (o :: rest) a w :=
  wpl_want hw fun K hK => wp_append_bs d s ho n c m' c' hd hs hn hm hown hsrc hsz hlo fun A' c' w' h1 h2 => hK _ _ (h A' c' w' h1 h2)
end
end Go.Proofs.Ythhdbpdgppppiaa
