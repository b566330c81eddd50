/- make, copy and append on byte slices, in the words of Bytes. No function of the program occurs here. -/
import Derived.Test.YtkgpeddncpdjjaaDoorBytes
import Derived.Deep.OwnRows
namespace Go.Proofs.YtkgpeddncpdjjaaDoor
open Go.RowKit
set_option linter.unusedSimpArgs false
set_option linter.unusedVariables false
set_option maxRecDepth 100000
theorem infoU8 : (Tryd.prog.info? 5).map (fun i => (i.zero, i.size, i.bytes)) = some (some (.int .u8 0), 1, 1) := by kernel_rfl
theorem sizeU8 : (Tryd.prog.info? 5).map (·.size) = some 1 := by kernel_rfl
theorem makeU8 (kl kc : IntKind) (n : Nat) (hn : n ≤ 281474976710656) (w : World) :
    (Instr.makeSlice 30 (.int kl (n : Int)) (.int kc (n : Int))).run Tryd.prog w = .ok (.slice (some ⟨w.heap.size, 0, none⟩) n n) (w.alloc (.cells (madeCells #[.int .u8 0] n) 5)) :=
  run_make_row' 30 5 (.int .u8 0) 1 Tryd.underlying30 infoU8 rfl kl kc n (by omega) (by omega) w
section
variable {w : World} {lo lo' hi' : Nat} {A B : Option Addr} {l m : List Int}
theorem Ow.made (w : World) (n : Nat) (hn : n ≤ 281474976710656) : Ow (w.alloc (.cells (madeCells #[.int .u8 0] n) 5)) w.heap.size (some ⟨w.heap.size, 0, none⟩) n (List.replicate n 0) := by
  refine ⟨Byt.zeros n, ?_⟩
  have h := World.ownsRow_lit (base := w.heap.size) (e := 5) (size := 1) w (madeCells #[.int .u8 0] n) n (Nat.le_refl _) (by unfold maxLen; omega) (by simp [madeCells])
  rw [toList_madeCells_one] at h
  rw [List.length_replicate, List.map_replicate]; exact h
theorem Ow.lit (w : World) (l : List Int) (cs : Array Value) (hc : cs.toList = l.map (Value.int .u8)) (hb : Byt l) (hl : l.length ≤ 281474976710656) :
    Ow (w.alloc (.cells cs 5)) w.heap.size (some ⟨w.heap.size, 0, none⟩) l.length l := by
  refine ⟨hb, ?_⟩
  have hs : cs.size = l.length := by rw [← Array.length_toList, hc, List.length_map]
  have h := World.ownsRow_lit (base := w.heap.size) (e := 5) (size := 1) w cs l.length (Nat.le_refl _) (by unfold maxLen; omega) (by omega)
  rw [hc] at h
  exact h
theorem Ow.blt {c : Nat} (h : Ow w lo A c l) : ∀ g, A = some ⟨g, 0, none⟩ → lo ≤ g ∧ g < w.heap.size := by
  intro g e
  rcases h.form with ⟨h', _, _⟩ | ⟨g', h', h1, h2⟩
  · rw [h'] at e; cases e
  · rw [h'] at e; injection e with e; injection e with e; subst e; exact ⟨h1, h2⟩
theorem Ow.alloc {c : Nat} (h : Ow w lo A c l) (o : Obj) : Ow (w.alloc o) lo A c l := ⟨h.1, h.2.alloc o⟩
theorem Ow.wide {c : Nat} (h : Ow w lo A c l) (hl : lo' ≤ lo) : Ow w lo' A c l := by
  refine ⟨h.1, h.2.1, ?_⟩
  rcases h.2.2 with h' | ⟨g, cap, cur, h1, h2, h3⟩
  · exact .inl h'
  · exact .inr ⟨g, cap, cur, h1, by omega, h3⟩
theorem below_of_grown {w w' : World} {row : Option Nat} {B : Nat} (hg : w.grownBy w' row) (hB : B ≤ w.heap.size) (hr : ∀ k, row = some k → B ≤ k) : Below B w w' := (Below.refl B w).grown hg hB hr
theorem cells_u8 {b o : Nat} {n : Nat} (hc : ∀ k, k < n → w.cell? ⟨b, o + k, none⟩ = some (.int .u8 (atB l k))) (hn : l.length ≤ n) :
    ∀ j v, (l.map (Value.int .u8))[j]? = some v → w.cell? ((⟨b, o, none⟩ : Addr).add j) = some v := by
  intro j v hj
  rw [ofAdd]
  rw [List.getElem?_map] at hj
  rcases Nat.lt_or_ge j l.length with h | h
  · rw [List.getElem?_eq_getElem h] at hj
    rw [hc j (by omega)]
    simp [atB, List.getD_eq_getElem?_getD, List.getElem?_eq_getElem h]
    simpa using hj
  · rw [List.getElem?_eq_none h] at hj; simp at hj
theorem only_setCell {a w : World} {g : Nat} (h : a.grownBy w (some g)) {p : Addr} (hp : p.block = g ∨ a.heap.size ≤ p.block) (u : Value) : a.grownBy (w.setCell p u) (some g) :=
  ⟨h.os, h.tape, h.output, by simpa [World.setCell] using h.size, fun i hi hne => (Below.heap_setCell w p u i (by
    rintro rfl
    rcases hp with hp | hp
    · exact hne (by rw [hp])
    · omega)).trans (h.block i hi hne)⟩
/-- copy of bytes to the front of a row of the call's own -/
theorem wpList_copy_bs {ops : Array Oper} {rest : List Oper} {o : Oper} {a : Act} {Q : Exit → Act → World → Prop} (hgd : o.guard = none) (d s : Operand)
    (ho : o.op = .call { callee := .builtin .copy, args := #[d, s], argTypes := #[30, 30] })
    (g n c m c' : Nat) (z : List Int) (hd : a.eval d = .slice (some ⟨g, 0, none⟩) n c) (hs : a.eval s = .slice A m c') (hz : z.length = n) (hm : l.length = m) (hmn : m ≤ n)
    (hown : Ow w lo (some ⟨g, 0, none⟩) c z) (hsrc : Bs w lo' hi' A l)
    (h : ∀ w', Ow w' lo (some ⟨g, 0, none⟩) c (l ++ z.drop m) → w.grownBy w' (some g) → w'.heap.size = w.heap.size → wpList Tryd.prog ops Q rest (a.put o.dst (goInt m)) w') : wpList Tryd.prog ops Q (o :: rest) a w := by
  subst hz hm
  obtain ⟨hbz, hlen, hrow⟩ := hown
  rcases hrow with ⟨he, _⟩ | ⟨g', cap, cur, he, hlo, hg, hnc, hcm, hcs, htake⟩
  · simp at he
  · simp only [Value.slice.injEq, Option.some.injEq, Addr.mk.injEq, and_true, true_and] at he
    obtain ⟨rfl, rfl⟩ := he
    by_cases h0 : l.length = 0
    · obtain rfl : l = [] := List.eq_nil_of_length_eq_zero h0
      refine wpList_copy_nothing hgd d s _ _ ho 5 Tryd.underlying30 sizeU8 _ _ _ _ _ _ hd hs (by simp) ?_
      exact h w (by simpa using ⟨hbz, hlen, .inr ⟨g, c, cur, rfl, hlo, hg, hnc, hcm, hcs, htake⟩⟩) (World.grownBy.refl w _) rfl
    · obtain ⟨b, off, rfl, _, _, hcell⟩ := hsrc.at (by omega)
      have hcur : z.length ≤ cur.size := by omega
      refine wpList_copy_own hgd d s _ _ ho 5 Tryd.underlying30 sizeU8 g 0 _ _ ⟨b, off, none⟩ _ _ hd hs cur _ hg (l.map (Value.int .u8)) (by rw [List.length_map]; exact (Nat.min_eq_left hmn).symm) (cells_u8 hcell (Nat.le_refl _)) (by simp <;> omega) (oneCellU8 l) ?_
      rw [List.length_map]
      refine h _ ⟨hsrc.byt.app (hbz.drop _), by simp, .inr ⟨g, c, _, by simp <;> omega, hlo, setRow_heap _ _ _ _ _ _ hg, by simp <;> omega, hcm, ?_, ?_⟩⟩ ?_ ?_
      · simp <;> omega
      · simp only [List.length_append, List.length_drop, List.map_append, List.map_drop, ← htake, Nat.mul_one, List.take_zero, List.nil_append, Nat.zero_add]
        rw [show l.length + (z.length - l.length) = z.length by omega]
        rw [List.take_append, List.length_map, List.take_of_length_le (by simp <;> omega), List.drop_take]
      · exact ⟨rfl, rfl, rfl, by simp, fun k _ hk => setRow_other _ _ _ _ (fun e => hk (by rw [e]))⟩
      · simp
/-- append of bytes to a row of the call's own -/
theorem wpList_append_bs {ops : Array Oper} {rest : List Oper} {o : Oper} {a : Act} {Q : Exit → Act → World → Prop} (hgd : o.guard = none) (d s : Operand)
    (ho : o.op = .call { callee := .builtin .append, args := #[d, s], argTypes := #[30, 30] })
    (n c m' c' : Nat) (hd : a.eval d = .slice A n c) (hs : a.eval s = .slice B m' c') (hn : l.length = n) (hm : m.length = m')
    (hown : Ow w lo A c l) (hsrc : Bs w lo' hi' B m) (hsz : n + m' ≤ 140737488355328) (hlo : lo ≤ w.heap.size)
    (h : ∀ A' c' w', Ow w' lo A' c' (l ++ m) → Below lo w w' → (∀ row, (∀ g, A = some ⟨g, 0, none⟩ → row ≠ g) → row < w.heap.size → w'.heap[row]? = w.heap[row]?) → wpList Tryd.prog ops Q rest (a.put o.dst (.slice A' (n + m') c')) w') : wpList Tryd.prog ops Q (o :: rest) a w := by
  obtain ⟨i, hi, hz, h1, h2⟩ := info_parts infoU8
  subst hn hm
  have done : ∀ v' w', (Builtin.append_ #[30, 30] o.type #[.slice A l.length c, .slice B m.length c']).run Tryd.prog w = .ok v' w' → w'.ownsRow lo 5 1 v' (l.length + m.length) (l.map (Value.int .u8) ++ m.map (Value.int .u8)) → w.grownBy w' (Value.slice A l.length c).ownBlock →
      wpList Tryd.prog ops Q (o :: rest) a w := by
    intro v' w' hrun r1 r2
    refine wpList_plain hgd fun K hK => ?_
    unfold Oper.wp execOp
    simp only [ho, resolve, invoke, builtin, Sem.run_bind, Sem.run_pure, Result.andThen_ok, List.map_toArray, List.map_cons, List.map_nil, hd, hs, hrun]
    obtain ⟨A', c'', rfl, hO, _⟩ := Ow.mk r1 (l := l ++ m) (by rw [List.map_append]) (hown.1.app hsrc.byt)
    rw [List.length_append] at *
    refine hK _ _ (h A' c'' w' hO (below_of_grown r2 hlo fun k hk => ?_) fun row hr1 hr2 => ?_)
    · exact (hown.2.lt k hk).1
    · refine r2.block row hr2 (fun e => ?_)
      rcases hown.form with ⟨rfl, _, _⟩ | ⟨g, rfl, _, _⟩
      · simp [Value.ownBlock] at e
      · simp [Value.ownBlock] at e; exact hr1 g rfl e
  by_cases h0 : m.length = 0
  · obtain rfl : m = [] := List.eq_nil_of_length_eq_zero h0
    rcases B with _ | ad
    · refine done (.slice A l.length c) w ?_ (by simpa using hown.2) (World.grownBy.refl w _)
      rcases hown.2.2 with ⟨he, hl0⟩ | ⟨g, cap, cur, he, _, _, hnc, _⟩
      · rw [he]; simp [Builtin.append_, run_underlying Tryd.underlying30, sizeOf, typeInfo, hi, Builtin.lenOf, Builtin.firstCells]
      · rw [he]; simp [Builtin.append_, run_underlying Tryd.underlying30, sizeOf, typeInfo, hi, Builtin.lenOf, Builtin.firstCells, hnc, storeCells]
    · obtain ⟨v', w', hrun, r1, r2, _, r3⟩ := run_append_own_at (P := Tryd.prog) w lo 30 o.type 5 i (.int .u8 0) 1 1 Tryd.underlying30 hi hz h1 h2 rfl (by omega) (.slice A l.length c) l.length _ hown.2
        ad 0 c' [] (by simp) (by simp) (by simp) (by unfold maxLen; simp at hsz; omega) (by simp at hsz; omega) hlo
      exact done v' w' hrun (by simpa using r1) r2
  · obtain ⟨b, off, rfl, _, _, hcell⟩ := hsrc.at (by omega)
    obtain ⟨v', w', hrun, r1, r2, _, r3⟩ := run_append_own_at (P := Tryd.prog) w lo 30 o.type 5 i (.int .u8 0) 1 1 Tryd.underlying30 hi hz h1 h2 rfl (by omega) (.slice A l.length c) l.length _ hown.2
      ⟨b, off, none⟩ m.length c' (m.map (Value.int .u8)) (by simp) (cells_u8 hcell (Nat.le_refl _)) (oneCellU8 m) (by unfold maxLen; omega) (by omega) hlo
    exact done v' w' hrun r1 r2
end
end Go.Proofs.YtkgpeddncpdjjaaDoor
