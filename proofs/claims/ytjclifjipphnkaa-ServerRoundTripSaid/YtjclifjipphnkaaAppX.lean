/- append of fields to a list of fields of the call's own: the run, and the law at a step of a region that draws. No function of the program occurs here. -/
import Derived.Test.YtjclifjipphnkaaSvQ
namespace Go.Proofs.Ytjclifjipphnkaa
open Go.RowKit
set_option linter.unusedSimpArgs false
set_option linter.unusedVariables false
set_option maxRecDepth 100000
section
variable {w : World} {lo : Nat} {A B : Option Addr} {T U : List XT}
theorem run_append_xb (ty : TypeId) (n c m' c' : Nat) (hn : T.length = n) (hm : U.length = m') (hown : XB w lo A c T) (hcell : ∀ ad, B = some ad → ∀ j u, (rowX U)[j]? = some u → w.cell? (ad.add j) = some u) (hnil : B = none → m' = 0) (hU : ∀ t ∈ U, XD w lo t) (hsz : n + m' ≤ 1000000) (hlo : lo ≤ w.heap.size) :
    ∃ A' c'' w', (Builtin.append_ #[47, 47] ty #[.slice A n c, .slice B m' c']).run Try.prog w = .ok (.slice A' (n + m') c'') w' ∧ XB w' lo A' c'' (T ++ U) ∧ Below lo w w' := by
  obtain ⟨i, hi, hz, h1, h2⟩ := info_parts infoExt
  subst hn hm
  rcases B with _ | ad
  · have h0 := hnil rfl
    obtain rfl : U = [] := List.eq_nil_of_length_eq_zero h0
    refine ⟨A, c, w, ?_, by rw [List.append_nil]; exact hown, Below.refl _ _⟩
    rcases hown.1.2 with ⟨he, hl0⟩ | ⟨g, cap, cur, he, _, _, hnc, _⟩
    · injection he with e1 e2 e3
      subst e1 e3
      rw [hl0]
      simp [Builtin.append_, run_underlying Try.underlying47, sizeOf, typeInfo, hi, Builtin.lenOf, Builtin.firstCells]
    · injection he with e1 e2 e3
      subst e1 e3
      simp [Builtin.append_, run_underlying Try.underlying47, sizeOf, typeInfo, hi, Builtin.lenOf, Builtin.firstCells, hnc, storeCells]
  · obtain ⟨v', w', hrun, r1, r2, _, r3⟩ := run_append_own_at (P := Try.prog) w lo 47 ty 50 i (.agg #[.int .i64 0, .slice none 0 0]) 2 32 Try.underlying47 hi hz h1 h2 rfl (by omega) (.slice A T.length c) T.length _ hown.1
      ad U.length c' (rowX U) (rowX_len U) (hcell ad rfl) (rowX_one U) (by unfold maxLen; omega) (by omega) hlo
    have hb := below_of_grown r2 hlo fun k hk => (hown.1.lt k hk).1
    obtain ⟨A', c'', rfl, hX⟩ := xb_push hown hU r1 hb
    rw [List.length_append] at hrun
    exact ⟨A', c'', w', hrun, hX, hb⟩
theorem wp_append_xb {o : Oper} {a : Act} {K : Act → World → Prop} {Q : Exit → Act → World → Prop} (d s : Operand) (ho : o.op = .call { callee := .builtin .append, args := #[d, s], argTypes := #[47, 47] })
    (n c m' c' : Nat) (hd : a.eval d = .slice A n c) (hs : a.eval s = .slice B m' c') (hn : T.length = n) (hm : U.length = m') (hown : XB w lo A c T) (hcell : ∀ ad, B = some ad → ∀ j u, (rowX U)[j]? = some u → w.cell? (ad.add j) = some u) (hnil : B = none → m' = 0) (hU : ∀ t ∈ U, XD w lo t) (hsz : n + m' ≤ 1000000) (hlo : lo ≤ w.heap.size)
    (h : ∀ A' c' w', XB w' lo A' c' (T ++ U) → Below lo w w' → K (a.put o.dst (.slice A' (n + m') c')) w') : o.wp Try.prog a w K Q := by
  obtain ⟨A', c'', w', hrun, h1, h2⟩ := run_append_xb (c' := c') o.type n c m' hn hm hown hcell hnil hU hsz hlo
  unfold Oper.wp execOp
  simp only [ho, resolve, invoke, builtin, Sem.run_bind, Sem.run_pure, Result.andThen_ok, List.map_toArray, List.map_cons, List.map_nil, hd, hs, hrun]
  exact h A' c'' w' h1 h2
theorem XB.drew {c : Nat} (h : XB w lo A c T) : XB w.drew lo A c T := h
theorem XD.wide {lo' : Nat} {t : XT} (h : XD w lo t) (hl : lo ≤ lo') : XD w lo' t := ⟨h.1.wide (Nat.le_refl _) hl, h.2⟩
theorem XD.drew {t : XT} (h : XD w lo t) : XD w.drew lo t := h
end
theorem sizeU8' : (Try.prog.info? 5).map (·.size) = some 1 := by kernel_rfl
/-- fields that are written are valid -/
theorem xs_allV {w : World} {hi : Nat} {A : Option Addr} {L : Flds} (h : Xs w hi A L) (he : apxE L = 0) : AllV L := by
  obtain ⟨_, h2⟩ := apx_parts he
  intro t ht
  obtain ⟨k, hk, rfl⟩ := List.mem_iff_getElem.1 ht
  obtain ⟨b, o, _, _, hx⟩ := h (by omega)
  obtain ⟨_, _, _, _, hB, _⟩ := hx k hk
  have h3 := h2 k hk
  have e1 : L.getD k (0, []) = L[k] := by rw [List.getD_eq_getElem?_getD, List.getElem?_eq_getElem hk]; rfl
  unfold kdL dtL at h3
  unfold dtL at hB
  rw [e1] at h3 hB
  exact ⟨h3, hB.byt⟩
theorem prs_flds0 {L : Flds} (hv : AllV L) (hc : L.length ≤ 16) : prs (fldsB L).length [] (fldsB L) = (L, [], 0) := by
  have h := prs_flds L (fldsB L).length [] [] hv (by simpa using hc) (.inl rfl) (by simp)
  simpa using h
/-- a list that came in, as a row, whatever its address -/
theorem xs_rows_any {w : World} {hi lo : Nat} {A : Option Addr} {L : Flds} {n : Nat} (h : Xs w hi A L) (hn : L.length = n) (hA : A = none → n = 0) (hl : hi ≤ lo) : ∃ U : List XT, flds U = L ∧ (∀ ad, A = some ad → ∀ j u, (rowX U)[j]? = some u → w.cell? (ad.add j) = some u) ∧ ∀ t ∈ U, XD w lo t := by
  rcases A with _ | ad
  · have := hA rfl
    obtain rfl : L = [] := List.eq_nil_of_length_eq_zero (by omega)
    exact ⟨[], rfl, fun ad h => (by cases h), fun t ht => by cases ht⟩
  · obtain ⟨U, h1, h2, h3⟩ := xs_rows h
    exact ⟨U, h1, fun ad' e => (by injection e with e; subst e; exact h2), fun t ht => (h3 t ht).wide hl⟩
end Go.Proofs.Ytjclifjipphnkaa
