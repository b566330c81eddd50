/- Rows that are read at an offset and have room behind them: what is known of them, how they are kept, cut, appended to, and how one element is taken out. No function of the program occurs here. A region that draws its order, whose one store ends what is held: S is held until operation st has come up. An operation that yields one value in every world that meets S, and for which st waits, may be taken first. No function of the program occurs here. The client: what is known of it in memory; cloned cookies; NewClient and Cookies. -/
import Derived.Test.YtachhbbofemfdaaDoorGXz1
import Derived.Test.YtachhbbofemfdaaDoorGXz3
import Derived.ArgAppend
import Derived.Test.YtachhbbofemfdaaDoorGXz7
import Derived.Test.YtachhbbofemfdaaDoorGXz8
namespace Go.Proofs.YtachhbbofemfdaaDoor
open Go.RowKit
set_option linter.unusedSimpArgs false
set_option linter.unusedVariables false
set_option maxRecDepth 100000
/-- the slice (A, n, c) reads as the cells xs; its block is g, which is none of av; all of its room may be written -/
def Rw (w : World) (size g : Nat) (av : List Nat) (A : Option Addr) (n c : Nat) (xs : List Value) : Prop :=
  xs.length = n * size ∧ n ≤ c ∧ c ≤ 9223372036854775807 ∧ (c = 0 ∨ (g ∉ av ∧ ∃ o, A = some ⟨g, o, none⟩ ∧ (∀ j, j < n * size → w.cell? ⟨g, o + j, none⟩ = xs[j]?) ∧ ∀ j, j < c * size → (w.cell? ⟨g, o + j, none⟩).isSome = true ∧ w.frozen? ⟨g, o + j, none⟩ = false))
/-- the blocks that an append may write -/
def fp (c g : Nat) : List Nat := if c = 0 then [] else [g]
theorem fp_mem {c g k : Nat} (h : k ∈ fp c g) : c ≠ 0 ∧ k = g := by
  unfold fp at h
  split at h
  · cases h
  · exact ⟨by assumption, by simpa using h⟩
section
variable {w w' x y : World} {size g n c : Nat} {av : List Nat} {A : Option Addr} {xs : List Value}
theorem Rw.nil (w : World) (size g : Nat) (av : List Nat) : Rw w size g av none 0 0 [] := ⟨by simp, Nat.le_refl _, by omega, .inl rfl⟩
theorem Rw.keep (h : Rw w size g av A n c xs) (hc : c ≠ 0 → g ∉ av → ∀ o, w'.cell? ⟨g, o, none⟩ = w.cell? ⟨g, o, none⟩) (hf : c ≠ 0 → g ∉ av → ∀ o, w'.frozen? ⟨g, o, none⟩ = w.frozen? ⟨g, o, none⟩) : Rw w' size g av A n c xs := by
  obtain ⟨h1, h2, h3, h4⟩ := h
  refine ⟨h1, h2, h3, ?_⟩
  rcases h4 with h4 | ⟨h0, o, e, h5, h6⟩
  · exact .inl h4
  · by_cases hc0 : c = 0
    · exact .inl hc0
    · exact .inr ⟨h0, o, e, fun j hj => (hc hc0 h0 _).trans (h5 j hj), fun j hj => by rw [hc hc0 h0, hf hc0 h0]; exact h6 j hj⟩
theorem Rw.lt (h : Rw w size g av A n c xs) (hc : c ≠ 0) (hs : 0 < size) : g < w.heap.size ∧ g ∉ av := by
  obtain ⟨h1, h2, h3, h4⟩ := h
  rcases h4 with h4 | ⟨h0, o, e, h5, h6⟩
  · exact absurd h4 hc
  · have h7 := (h6 0 (by have := Nat.mul_pos (Nat.pos_of_ne_zero hc) hs; omega)).1
    cases hcell : w.cell? ⟨g, o + 0, none⟩ with
    | none => rw [hcell] at h7; cases h7
    | some v => exact ⟨World.block_lt_of_cell? w _ hcell, h0⟩
theorem Rw.kp {G : List Nat} (h : Rw x size g av A n c xs) (hk : Kp x G y) (hs : 0 < size) (hg : c ≠ 0 → g ∉ av → g ∉ G) : Rw y size g av A n c xs :=
  h.keep (fun hc h0 o => World.cell?_of_block (hk.block g (h.lt hc hs).1 (hg hc h0))) (fun hc h0 o => World.frozen?_of_block (hk.block g (h.lt hc hs).1 (hg hc h0)))
theorem Rw.av' {av' : List Nat} (h : Rw w size g av A n c xs) (hg : c ≠ 0 → g ∉ av → g ∉ av') : Rw w size g av' A n c xs := by
  obtain ⟨h1, h2, h3, h4⟩ := h
  refine ⟨h1, h2, h3, ?_⟩
  rcases h4 with h4 | ⟨h0, h5⟩
  · exact .inl h4
  · by_cases hc0 : c = 0
    · exact .inl hc0
    · exact .inr ⟨hg hc0 h0, h5⟩
theorem Rw.alloc (h : Rw w size g av A n c xs) (hs : 0 < size) (o : Obj) : Rw (w.alloc o) size g av A n c xs :=
  h.kp (G := []) (Kp.alloc o (Kp.refl _ _)) hs (fun _ _ => by simp)
theorem Rw.below {B : Nat} (h : Rw w size g av A n c xs) (hs : 0 < size) (hb : Below B w w') (hB : w.heap.size ≤ B) : Rw w' size g av A n c xs :=
  h.kp (G := []) ((Kp.refl w []).below hb hB) hs (fun _ _ => by simp)
theorem Rw.but {r : Nat} (h : Rw w size g av A n c xs) (hs : 0 < size) (hb : But r w w') (hr : c ≠ 0 → g ∉ av → g ≠ r) : Rw w' size g av A n c xs :=
  h.kp (G := [r]) (Kp.of_but hb (.inr (by simp))) hs (fun q1 q2 => by simpa using hr q1 q2)
theorem Rw.drew (h : Rw w size g av A n c xs) : Rw w.drew size g av A n c xs := h
/-- the cells of element k -/
theorem Rw.at (h : Rw w size g av A n c xs) {k : Nat} (hk : k < n) (hs : 0 < size) : ∃ o, A = some ⟨g, o, none⟩ ∧ ∀ j, j < size → w.cell? ⟨g, o + k * size + j, none⟩ = xs[k * size + j]? := by
  obtain ⟨h1, h2, h3, h4⟩ := h
  rcases h4 with h4 | ⟨h0, o, e, h5, h6⟩
  · omega
  · refine ⟨o, e, fun j hj => ?_⟩
    have hlt : k * size + j < n * size := by
      have : (k + 1) * size ≤ n * size := Nat.mul_le_mul_right _ hk
      rw [Nat.succ_mul] at this
      omega
    rw [Nat.add_assoc]
    exact h5 _ hlt
/-- x[1:] -/
theorem Rw.tail (h : Rw w size g av A n c xs) (hn : 1 ≤ n) : Rw w size g av (if c = 1 then A else A.map (·.add size)) (n - 1) (c - 1) (xs.drop size) := by
  obtain ⟨h1, h2, h3, h4⟩ := h
  have e1 : (n - 1) * size + size = n * size := by rw [← Nat.succ_mul]; congr 1; omega
  refine ⟨by rw [List.length_drop, h1]; omega, by omega, by omega, ?_⟩
  rcases h4 with h4 | ⟨h0, o, e, h5, h6⟩
  · omega
  · by_cases hc : c = 1
    · exact .inl (by omega)
    · rw [if_neg hc]
      have e2 : (c - 1) * size + size = c * size := by rw [← Nat.succ_mul]; congr 1; omega
      refine .inr ⟨h0, o + size, by rw [e]; simp [Addr.add], fun j hj => ?_, fun j hj => ?_⟩
      · rw [List.getElem?_drop, Nat.add_assoc]
        exact h5 _ (by omega)
      · rw [Nat.add_assoc]
        exact h6 _ (by omega)
/-- a row of the call's own, as such a row -/
theorem rw_of_own {lo : Nat} {E : TypeId} {v : Value} (h : w.ownsRow lo E size v n xs) (hn : 0 < n) (hav : ∀ k, lo ≤ k → k ∉ av) : ∃ g c, v = .slice (some ⟨g, 0, none⟩) n c ∧ lo ≤ g ∧ g < w.heap.size ∧ Rw w size g av (some ⟨g, 0, none⟩) n c xs := by
  have hh := h
  rcases h.2 with ⟨_, h0⟩ | ⟨g, cap, cur, rfl, hlo, hg, hnc, hcm, hcs, _⟩
  · omega
  · refine ⟨g, cap, rfl, hlo, (Array.getElem?_eq_some_iff.1 hg).1, h.1, hnc, by simpa [maxLen] using hcm, .inr ⟨hav g hlo, 0, rfl, fun j hj => ?_, fun j hj => ?_⟩⟩
    · rw [Nat.zero_add]; exact hh.cellAt j hj
    · rw [Nat.zero_add]
      refine ⟨?_, hh.frozenAt j⟩
      rw [cell_of_row w g j cur E (0, 0) hg]
      rw [Array.getElem?_eq_getElem (by omega)]
      rfl
theorem Rw.none_c (h : Rw w size g av A n c xs) (hA : A = none) : c = 0 := by
  obtain ⟨_, _, _, h4⟩ := h
  rcases h4 with h4 | ⟨_, o, e, _⟩
  · exact h4
  · rw [hA] at e; cases e
variable {P : Program}
/-- append(x[:k], x[k+1:]...) -/
theorem run_delete_rw (t ty E : TypeId) (i : TypeInfo) (ht : P.underlying t = some (.slice E)) (hi : P.info? E = some i) (hsize : i.size = size) (hsz : 0 < size)
    (h : Rw w size g av A n c xs) (k : Nat) (hk : k < n) (h1 : ∀ u ∈ xs, u.oneCell' = true) (B : Option Addr) (hB : B = if c = k + 1 then A else A.map (·.add ((k + 1) * size))) (m c' : Nat) (hm : n - (k + 1) = m) :
    ∃ w', (Builtin.append_ #[t, t] ty #[.slice A k c, .slice B m c']).run P w = .ok (.slice A (n - 1) c) w' ∧ Rw w' size g av A (n - 1) c (xs.take (k * size) ++ xs.drop ((k + 1) * size)) ∧ But g w w' ∧ w.heap.size = w'.heap.size := by
  obtain ⟨q1, q2, q3, q4⟩ := h
  subst hm
  rcases q4 with q4 | ⟨q0, o, rfl, q5, q6⟩
  · omega
  · have e0 : (k + 1) * size = k * size + size := Nat.succ_mul _ _
    have e1 : (n - (k + 1)) * size + (k + 1) * size = n * size := by rw [← Nat.add_mul]; congr 1; omega
    have e2 : n * size ≤ c * size := Nat.mul_le_mul_right _ q2
    have e3 : (n - 1) * size + size = n * size := by rw [← Nat.succ_mul]; congr 1; omega
    have hl : (xs.drop ((k + 1) * size)).length = (n - (k + 1)) * i.size := by rw [List.length_drop, q1, hsize]; omega
    have hin : ∀ j, j < (xs.drop ((k + 1) * size)).length → (w.cell? ⟨g, o + k * size + j, none⟩).isSome = true := fun j hj => by
      rw [List.length_drop, q1] at hj
      rw [Nat.add_assoc]; exact (q6 _ (by omega)).1
    obtain ⟨ad, hB', hnews⟩ : ∃ ad, B = some ad ∧ ∀ j u, (xs.drop ((k + 1) * size))[j]? = some u → w.cell? (ad.add j) = some u := by
      by_cases hc : c = k + 1
      · refine ⟨⟨g, o, none⟩, by rw [hB, if_pos hc], fun j u hu => ?_⟩
        have hj := (List.getElem?_eq_some_iff.1 hu).1
        have hnk : n = k + 1 := by omega
        rw [List.length_drop, q1, hnk] at hj
        omega
      · refine ⟨⟨g, o + (k + 1) * size, none⟩, by rw [hB, if_neg hc, Option.map_some, Addr.add_lit], fun j u hu => ?_⟩
        have hj := (List.getElem?_eq_some_iff.1 hu).1
        rw [List.length_drop, q1] at hj
        rw [List.getElem?_drop] at hu
        rw [Addr.add_lit, Nat.add_assoc, q5 _ (by omega)]
        exact hu
    have hr := run_append_room_cells (P := P) w t ty E i ht hi g o k c ad (n - (k + 1)) c' (xs.drop ((k + 1) * size)) hl hnews (fun u hu => h1 u (List.mem_of_mem_drop hu)) (by omega) (by rw [hsize]; exact hin) (fun j hj => by
      rw [List.length_drop, q1] at hj
      rw [hsize, Nat.add_assoc]; exact (q6 _ (by omega)).2)
    rw [hsize, show k + (n - (k + 1)) = n - 1 by omega, ← hB'] at hr
    refine ⟨_, hr, ⟨by rw [List.length_append, List.length_take, List.length_drop, q1]; omega, by omega, q3, .inr ⟨q0, o, rfl, fun j hj => ?_, fun j hj => ?_⟩⟩, but_setCells _ _ _ (World.grownBy.refl w _), (size_setCells _ _ _ _).symm⟩
    · by_cases hjn : j < k * size
      · rw [World.cell?_setCells_out g _ (o + k * size) w ⟨g, o + j, none⟩ (fun _ _ => .inl (by show o + j < o + k * size; omega)), q5 j (by omega), List.getElem?_append_left (by rw [List.length_take]; omega), List.getElem?_take, if_pos hjn]
      · have hx := World.cell?_setCells_in g (xs.drop ((k + 1) * size)) (o + k * size) w hin (j - k * size) (by rw [List.length_drop, q1]; omega)
        rw [show o + k * size + (j - k * size) = o + j by omega] at hx
        have hml : (xs.take (k * size)).length = k * size := by rw [List.length_take, q1]; omega
        rw [hx, List.getElem?_append_right (by omega), hml, List.getElem?_eq_getElem]
    · refine ⟨World.isSome_setCells g _ _ w _ (q6 j hj).1, ?_⟩
      rw [World.frozen?_setCells]; exact (q6 j hj).2
theorem run_append_rw (t ty E : TypeId) (i : TypeInfo) (z : Value) (bytes : Nat) (ht : P.underlying t = some (.slice E)) (hi : P.info? E = some i) (hz : i.zero = some z) (hsize : i.size = size) (hby : i.bytes = bytes) (hzs : z.cells.size = size) (hsz : 0 < size)
    (h : Rw w size g av A n c xs) (ad : Addr) (m c' : Nat) (news : List Value) (hl : news.length = m * size) (hm : 0 < m) (hnews : ∀ j u, news[j]? = some u → w.cell? (ad.add j) = some u) (h1 : ∀ u ∈ news, u.oneCell' = true)
    (h63 : n + m ≤ 9223372036854775807) (hbytes : (n + m) * bytes ≤ 140737488355328) (hav : ∀ k, k ∈ av → k < w.heap.size) :
    ∃ g' A' c'' w', (Builtin.append_ #[t, t] ty #[.slice A n c, .slice (some ad) m c']).run P w = .ok (.slice A' (n + m) c'') w' ∧ Rw w' size g' av A' (n + m) c'' (xs ++ news) ∧ Kp w (fp c g) w' ∧ (g' = g ∨ w.heap.size ≤ g') ∧ g' < w'.heap.size := by
  have hout : ∀ k, w.heap.size ≤ k → k ∉ av := fun k hk hm => by have := hav k hm; omega
  have hnil := h.none_c
  obtain ⟨q1, q2, q3, q4⟩ := h
  by_cases hroom : n + m ≤ c
  · rcases q4 with q4 | ⟨q0, o, rfl, q5, q6⟩
    · omega
    · have hle : (n + m) * size ≤ c * size := Nat.mul_le_mul_right _ hroom
      have he : (n + m) * size = n * size + m * size := Nat.add_mul _ _ _
      have hin : ∀ j, j < news.length → (w.cell? ⟨g, o + n * size + j, none⟩).isSome = true := fun j hj => by
        rw [Nat.add_assoc]; exact (q6 _ (by omega)).1
      have hr := run_append_room_cells (P := P) w t ty E i ht hi g o n c ad m c' news (by rw [hl, hsize]) hnews h1 hroom (by rw [hsize]; exact hin) (fun j hj => by rw [hsize, Nat.add_assoc]; exact (q6 _ (by omega)).2)
      rw [hsize] at hr
      refine ⟨g, _, c, _, hr, ⟨by rw [List.length_append, q1, hl, he], hroom, q3, .inr ⟨q0, o, rfl, fun j hj => ?_, fun j hj => ?_⟩⟩, Kp.of_but (g := g) (but_setCells _ _ _ (World.grownBy.refl w _)) (.inr (by unfold fp; rw [if_neg (by omega)]; exact List.mem_cons_self ..)), .inl rfl, ?_⟩
      · by_cases hjn : j < n * size
        · rw [World.cell?_setCells_out g news (o + n * size) w ⟨g, o + j, none⟩ (fun _ _ => .inl (by show o + j < o + n * size; omega)), q5 j hjn, List.getElem?_append_left (by omega)]
        · have hx := World.cell?_setCells_in g news (o + n * size) w hin (j - n * size) (by omega)
          rw [show o + n * size + (j - n * size) = o + j by omega] at hx
          rw [hx, List.getElem?_append_right (by omega), q1, List.getElem?_eq_getElem]
      · refine ⟨World.isSome_setCells g news _ w _ (q6 j hj).1, ?_⟩
        rw [World.frozen?_setCells]; exact (q6 j hj).2
      · have h7 := (q6 0 (by have : 0 < c * size := Nat.mul_pos (by omega) hsz; omega)).1
        cases hcell : w.cell? ⟨g, o + 0, none⟩ with
        | none => rw [hcell] at h7; cases h7
        | some v =>
          have := World.block_lt_of_cell? w _ hcell
          rw [size_setCells]; exact this
  · have fin : ∀ v' w', (Builtin.append_ #[t, t] ty #[.slice A n c, .slice (some ad) m c']).run P w = .ok v' w' → w'.ownsRow w.heap.size E size v' (n + m) (xs ++ news) → w.grownBy w' none →
        ∃ g' A' c'' w', (Builtin.append_ #[t, t] ty #[.slice A n c, .slice (some ad) m c']).run P w = .ok (.slice A' (n + m) c'') w' ∧ Rw w' size g' av A' (n + m) c'' (xs ++ news) ∧ Kp w (fp c g) w' ∧ (g' = g ∨ w.heap.size ≤ g') ∧ g' < w'.heap.size := by
      intro v' w' hr ho hg
      obtain ⟨g', c'', rfl, e1, e2, hR⟩ := rw_of_own ho (by omega) hout
      exact ⟨g', _, c'', w', hr, hR, ⟨hg.os, hg.tape, hg.output, hg.size, fun b hb _ => hg.block b hb (by simp)⟩, .inr e1, e2⟩
    rcases A with _ | a0
    · obtain rfl := hnil rfl
      obtain rfl : n = 0 := by omega
      obtain rfl : xs = [] := List.eq_nil_of_length_eq_zero (by simpa using q1)
      obtain ⟨v', w', r1, r2, r3, _, _⟩ := run_append_own_at (P := P) w w.heap.size t ty E i z size bytes ht hi hz hsize hby hzs hsz (.slice none 0 0) 0 [] (World.ownsRow_nil _ _ _ _) ad m c' news hl hnews h1 (by simpa [maxLen] using h63) hbytes (Nat.le_refl _)
      exact fin v' w' r1 r2 r3
    · have holds : ∀ j u, xs[j]? = some u → w.cell? (a0.add j) = some u := by
        intro j u hu
        rcases q4 with q4 | ⟨_, o, e, q5, _⟩
        · obtain rfl : n = 0 := by omega
          obtain rfl : xs = [] := List.eq_nil_of_length_eq_zero (by simpa using q1)
          cases hu
        · injection e with e
          subst e
          rw [Addr.add_lit]
          have hj := (List.getElem?_eq_some_iff.1 hu).1
          rw [q5 j (by omega)]; exact hu
      obtain ⟨v', w', r1, r2, r3⟩ := run_append_arg_grows (P := P) w t ty E i z size bytes ht hi hz hsize hby hzs hsz a0 n c xs q1 holds ad m c' news hl hnews (by omega) (by simpa [maxLen] using h63) hbytes
      exact fin v' w' r1 r2 r3
variable {o : Oper} {a : Act} {K : Act → World → Prop} {Q : Exit → Act → World → Prop}
theorem wp_append_rw (T E : TypeId) (z : Value) (bytes : Nat) (d s : Operand) (ho : o.op = .call { callee := .builtin .append, args := #[d, s], argTypes := #[T, T] }) (ht : P.underlying T = some (.slice E)) (hI : (P.info? E).map (fun i => (i.zero, i.size, i.bytes)) = some (some z, size, bytes)) (hzs : z.cells.size = size) (hsz : 0 < size)
    (hd : a.eval d = .slice A n c) (h : Rw w size g av A n c xs) (ad : Addr) (m c' : Nat) (news : List Value) (hs : a.eval s = .slice (some ad) m c') (hl : news.length = m * size) (hm : 0 < m) (hnews : ∀ j u, news[j]? = some u → w.cell? (ad.add j) = some u) (h1 : ∀ u ∈ news, u.oneCell' = true)
    (h63 : n + m ≤ 9223372036854775807) (hbytes : (n + m) * bytes ≤ 140737488355328) (hav : ∀ k, k ∈ av → k < w.heap.size)
    (hK : ∀ g' A' c'' w', Rw w' size g' av A' (n + m) c'' (xs ++ news) → Kp w (fp c g) w' → (g' = g ∨ w.heap.size ≤ g') → g' < w'.heap.size → K (a.put o.dst (.slice A' (n + m) c'')) w') : o.wp P a w K Q := by
  obtain ⟨i, hi, hz, h1', h2'⟩ := info_parts hI
  obtain ⟨g', A', c'', w', hrun, e1, e2, e3, e4⟩ := run_append_rw (c' := c') T o.type E i z bytes ht hi hz h1' h2' hzs hsz h ad m news hl hm hnews h1 h63 hbytes hav
  unfold Oper.wp execOp
  simp only [ho, resolve, invoke, builtin, Sem.run_bind, Sem.run_pure, Result.andThen_ok, List.map_toArray, List.map_cons, List.map_nil, hd, hs, hrun]
  exact hK g' A' c'' w' e1 e2 e3 e4
theorem wpl_append_rw {ops : Array Oper} {rest : List Oper} (hw : Region.wanted o (yielded ops a.tmps) = true) (T E : TypeId) (z : Value) (bytes : Nat) (d s : Operand) (ho : o.op = .call { callee := .builtin .append, args := #[d, s], argTypes := #[T, T] }) (ht : P.underlying T = some (.slice E)) (hI : (P.info? E).map (fun i => (i.zero, i.size, i.bytes)) = some (some z, size, bytes)) (hzs : z.cells.size = size) (hsz : 0 < size)
    (hd : a.eval d = .slice A n c) (h : Rw w size g av A n c xs) (ad : Addr) (m c' : Nat) (news : List Value) (hs : a.eval s = .slice (some ad) m c') (hl : news.length = m * size) (hm : 0 < m) (hnews : ∀ j u, news[j]? = some u → w.cell? (ad.add j) = some u) (h1 : ∀ u ∈ news, u.oneCell' = true)
    (h63 : n + m ≤ 9223372036854775807) (hbytes : (n + m) * bytes ≤ 140737488355328) (hav : ∀ k, k ∈ av → k < w.heap.size)
    (hK : ∀ g' A' c'' w', Rw w' size g' av A' (n + m) c'' (xs ++ news) → Kp w (fp c g) w' → (g' = g ∨ w.heap.size ≤ g') → g' < w'.heap.size → wpList P ops Q rest (a.put o.dst (.slice A' (n + m) c'')) w') : wpList P ops Q (o :: rest) a w :=
  wpl_want hw fun K hQ => wp_append_rw T E z bytes d s ho ht hI hzs hsz hd h ad m c' news hs hl hm hnews h1 h63 hbytes hav fun g' A' c'' w' e1 e2 e3 e4 => hQ _ _ (hK g' A' c'' w' e1 e2 e3 e4)
theorem wp_delete_rw (T E : TypeId) (z : Value) (bytes : Nat) (d s : Operand) (ho : o.op = .call { callee := .builtin .append, args := #[d, s], argTypes := #[T, T] }) (ht : P.underlying T = some (.slice E)) (hI : (P.info? E).map (fun i => (i.zero, i.size, i.bytes)) = some (some z, size, bytes)) (hsz : 0 < size)
    (h : Rw w size g av A n c xs) (k : Nat) (hk : k < n) (h1 : ∀ u ∈ xs, u.oneCell' = true) (B : Option Addr) (m c' : Nat) (hd : a.eval d = .slice A k c) (hs : a.eval s = .slice B m c') (hB : B = if c = k + 1 then A else A.map (·.add ((k + 1) * size))) (hm : n - (k + 1) = m)
    (hK : ∀ w', Rw w' size g av A (n - 1) c (xs.take (k * size) ++ xs.drop ((k + 1) * size)) → But g w w' → w.heap.size = w'.heap.size → K (a.put o.dst (.slice A (n - 1) c)) w') : o.wp P a w K Q := by
  obtain ⟨i, hi, hz, h1', h2'⟩ := info_parts hI
  obtain ⟨w', hrun, e1, e2, e3⟩ := run_delete_rw T o.type E i ht hi h1' hsz h k hk h1 B hB m c' hm
  unfold Oper.wp execOp
  simp only [ho, resolve, invoke, builtin, Sem.run_bind, Sem.run_pure, Result.andThen_ok, List.map_toArray, List.map_cons, List.map_nil, hd, hs, hrun]
  exact hK w' e1 e2 e3
end
end Go.Proofs.YtachhbbofemfdaaDoor
namespace Go.Proofs.YtachhbbofemfdaaDoor
open Go.RowKit
set_option linter.unusedSimpArgs false
set_option linter.unusedVariables false
set_option maxRecDepth 100000
section
variable {P : Program} {ops : Array Oper} {Q : Exit → Act → World → Prop} {md : Region.Mode} {S : World → Prop} {st : Nat}
def wpS (P : Program) (md : Region.Mode) (ops : Array Oper) (Q : Exit → Act → World → Prop) (S : World → Prop) (st : Nat) : Nat → Array Bool → Act → World → Prop
  | 0, l, a, w => Region.ready md ops l = [] ∧ Q .normal a w
  | f + 1, l, a, w => (Region.ready md ops l = [] → Q .normal a w) ∧
    ∀ i ∈ Region.ready md ops l, wpOp P ops Q i (fun a' w' => ((l.setIfInBounds i true).getD st true = false → S w') ∧ wpS P md ops Q S st f (l.setIfInBounds i true) a' w') a w
theorem wpS_sound : ∀ (f : Nat) (l : Array Bool) (a : Act) (w : World), wpS P md ops Q S st f l a w → wpAny P md ops Q f l a w
  | 0, _, _, _, h => h
  | f + 1, _, _, _, h => ⟨h.1, fun i hi => wpOp_mono (fun a' w' h' => wpS_sound f _ a' w' h'.2) (h.2 i hi)⟩
/-- number st waits for number i -/
def waitsB (md : Region.Mode) (ops : Array Oper) (st i : Nat) : Bool :=
  match ops[st]? with
  | some o => o.after.any fun e => Region.binds md e && e.on == i
  | none => true
theorem waits_spec {i : Nat} (h : waitsB md ops st i = true) {o : Oper} (ho : ops[st]? = some o) : ∃ e ∈ o.after, Region.binds md e = true ∧ e.on = i := by
  unfold waitsB at h
  rw [ho] at h
  obtain ⟨j, hj, h1⟩ := Array.any_eq_true.1 h
  refine ⟨_, Array.getElem_mem hj, ?_⟩
  simpa using h1
theorem wpS_first {i : Nat} {oi : Oper} {v : Value} (hi : ops[i]? = some oi) (hsel : ∀ (j : Nat) (o : Oper) cs b, ops[j]? = some o → o.op ≠ .select cs b)
    (hQ : ∀ c a w, Q (.panic c) (a.put oi.dst v) w → Q (.panic c) a w) (hw : waitsB md ops st i = true) (hne : i ≠ st) :
    ∀ (f : Nat) (l : Array Bool) (a : Act) (w : World),
      (∀ j oj, ops[j]? = some oj → j ≠ i → l.getD j true = false → (∀ e ∈ oj.after, Region.binds md e = true → e.on ≠ i) → oi.apart ops oj = true) →
      i ∈ Region.ready md ops l → YieldsIf P ops S oi v a → S w → l.getD st true = false →
      wpS P md ops Q S st f (l.setIfInBounds i true) (a.put oi.dst v) w → wpS P md ops Q S st (f + 1) l a w := by
  intro f
  induction f with
  | zero =>
    intro l a w _ hr hy hS _ H
    refine ⟨fun h => (by rw [h] at hr; cases hr), fun j hj => ?_⟩
    by_cases hji : j = i
    · subst hji; exact hy.wpOp hi hS ⟨fun _ => hS, H⟩
    · have := ready_mono hj hji
      rw [H.1] at this
      cases this
  | succ f ih =>
    intro l a w hfree hr hy hS hst H
    refine ⟨fun h => (by rw [h] at hr; cases hr), fun j hj => ?_⟩
    by_cases hji : j = i
    · subst hji; exact hy.wpOp hi hS ⟨fun _ => hS, H⟩
    · have k1 := H.2 j (ready_mono hj hji)
      obtain ⟨hjun, oj, hoj, hall⟩ := mem_ready.1 hj
      have hnot : ∀ e ∈ oj.after, Region.binds md e = true → e.on ≠ i := fun e he hb heq => by
        have q1 := hall e he hb
        have q0 := (mem_ready.1 hr).1
        rw [heq] at q1
        rcases Nat.lt_or_ge i l.size with h' | h'
        · simp [h'] at q0 q1; rw [q0] at q1; cases q1
        · simp [Array.getElem?_eq_none h'] at q1
      have hjst : j ≠ st := fun e => by
        subst e
        obtain ⟨e, he, hb, ho⟩ := waits_spec hw hoj
        exact hnot e he hb ho
      have k2 := wpOp_putIf hoj (hfree j oj hoj hji hjun hnot) (fun cs b => hsel i oi cs b hi) (fun cs b => hsel j oj cs b hoj) hQ hy k1
      have hfree' : ∀ k ok, ops[k]? = some ok → k ≠ i → (l.setIfInBounds j true).getD k true = false →
          (∀ e ∈ ok.after, Region.binds md e = true → e.on ≠ i) → oi.apart ops ok = true := fun k ok hk hki hun hno => by
        refine hfree k ok hk hki ?_ hno
        by_cases hjk : j = k
        · subst hjk; exact hjun
        · rw [getD_set_ne true hjk] at hun; exact hun
      have e1 : ((l.setIfInBounds i true).setIfInBounds j true).getD st true = false := by rw [getD_set_ne true hjst, getD_set_ne true hne]; exact hst
      have e2 : (l.setIfInBounds j true).getD st true = false := by rw [getD_set_ne true hjst]; exact hst
      refine wpOp_mono (fun a' w' k3 => ⟨fun _ => k3.2.1 e1, ih (l.setIfInBounds j true) a' w' hfree' (ready_mono hr (Ne.symm hji)) k3.1 (k3.2.1 e1) e2 ?_⟩) k2
      rw [Array.setIfInBounds_comm _ _ hji]
      exact k3.2.2
theorem wp_region_S {id : Nat} {a : Act} {w : World} (S : World → Prop) (st : Nat) (n : Nat) (hm : P.follows .mixedOrders = true) (hn : ops.size = n)
    (h : wpS P .any ops Q S st n (List.replicate n false).toArray a w.drew) : (Code.region id ops true).wp P Q a w := by
  refine wp_region_any hm (wpS_sound (S := S) (st := st) _ _ _ _ ?_)
  rw [hn, show Array.replicate n false = (List.replicate n false).toArray by simp]
  exact h
theorem wpS_take {i : Nat} {oi : Oper} {v : Value} {f : Nat} {l : List Bool} {a : Act} {w : World} (hi : ops[i]? = some oi)
    (hs : Region.noSelect ops = true) (hf : Region.free md ops l.toArray i = true) (hr : (Region.ready md ops l.toArray).contains i = true) (hw : waitsB md ops st i = true) (hne : i ≠ st) (hst : l.toArray.getD st true = false)
    (hQ : ∀ c a w, Q (.panic c) (a.put oi.dst v) w → Q (.panic c) a w) (hy : YieldsIf P ops S oi v a) (hS : S w)
    (h : wpS P md ops Q S st f (l.set i true).toArray (a.put oi.dst v) w) : wpS P md ops Q S st (f + 1) l.toArray a w :=
  wpS_first hi (Region.noSelect_spec hs) hQ hw hne f l.toArray a w (Region.free_spec hi hf) (by simpa using hr) hy hS hst (by rw [List.setIfInBounds_toArray]; exact h)
theorem wpS_t (i : Nat) (v : Value) {oi : Oper} {f : Nat} {l : List Bool} {a : Act} {w : World} (hi : ops[i]? = some oi)
    (hb : (Region.noSelect ops && Region.free md ops l.toArray i && (Region.ready md ops l.toArray).contains i && waitsB md ops st i && (i != st) && !l.toArray.getD st true) = true)
    (hQ : ∀ c a w, Q (.panic c) (a.put oi.dst v) w → Q (.panic c) a w) (hy : YieldsIf P ops S oi v a) (hS : S w)
    (h : wpS P md ops Q S st f (l.set i true).toArray (a.put oi.dst v) w) : wpS P md ops Q S st (f + 1) l.toArray a w := by
  simp only [Bool.and_eq_true, Bool.not_eq_true', bne_iff_ne] at hb
  exact wpS_take hi hb.1.1.1.1.1 hb.1.1.1.1.2 hb.1.1.1.2 hb.1.1.2 hb.1.2 hb.2 hQ hy hS h
theorem wpS_one {i : Nat} {oi : Oper} {f : Nat} {l : List Bool} {a : Act} {w : World} (hi : ops[i]? = some oi) (hr : Region.ready md ops l.toArray = [i]) (hw : Region.wanted oi (yielded ops a.tmps) = true)
    (h : Oper.wp P oi a w (fun a' w' => S w' ∧ wpS P md ops Q S st f (l.set i true).toArray a' w') Q) : wpS P md ops Q S st (f + 1) l.toArray a w := by
  refine ⟨fun h0 => (by rw [hr] at h0; cases h0), fun j hj => ?_⟩
  rw [hr] at hj
  obtain rfl : j = i := by simpa using hj
  unfold wpOp
  rw [hi]
  show if Region.wanted oi (yielded ops a.tmps) = true then _ else _
  rw [if_pos hw, List.setIfInBounds_toArray]
  exact .inl (Oper.wp_mono (fun _ _ q => ⟨fun _ => q.1, q.2⟩) h)
/-- the store itself, and what comes up behind it -/
theorem wpS_st {i : Nat} {oi : Oper} {f : Nat} {l : List Bool} {a : Act} {w : World} (hi : ops[i]? = some oi) (hr : Region.ready md ops l.toArray = [i]) (hw : Region.wanted oi (yielded ops a.tmps) = true) (hst : (l.set i true).toArray.getD st true = true)
    (h : Oper.wp P oi a w (fun a' w' => wpS P md ops Q S st f (l.set i true).toArray a' w') Q) : wpS P md ops Q S st (f + 1) l.toArray a w := by
  refine ⟨fun h0 => (by rw [hr] at h0; cases h0), fun j hj => ?_⟩
  rw [hr] at hj
  obtain rfl : j = i := by simpa using hj
  unfold wpOp
  rw [hi]
  show if Region.wanted oi (yielded ops a.tmps) = true then _ else _
  rw [if_pos hw, List.setIfInBounds_toArray]
  exact .inl (Oper.wp_mono (fun _ _ q => ⟨fun e => by (rw [hst] at e; cases e), q⟩) h)
theorem wpS_done {l : Array Bool} {a : Act} {w : World} (hr : Region.ready md ops l = []) (h : Q .normal a w) : ∀ f, wpS P md ops Q S st f l a w
  | 0 => ⟨hr, h⟩
  | _ + 1 => ⟨fun _ => h, by rw [hr]; simp⟩
theorem ys_load_mid {S : World → Prop} {op : Oper} {a : Act} (ty : TypeId) (x : Operand) (ho : op.op = .load ty x)
    (b o : Nat) (hx : a.eval x = .pointer (some ⟨b, o, none⟩)) (cs : List Value) (d : TypeDesc) (hS : ∀ w, S w → w.rangeAt b o cs)
    (hu : P.underlying ty = some d) (hd : d.isRow = true) (hi : (P.info? ty).map (·.size) = some cs.length) : YS P S op (.agg cs.toArray) a :=
  YS.of_value fun w hw => by
    unfold execOp
    simp only [ho, hx, Instr.loadAt, Instr.sureAddr, Sem.run_bind, Sem.run_pure, Result.andThen_ok, run_loadVar_mid w b o ty cs d (hS w hw) hu hd hi]
/-- an operation that only yields a value, by itself -/
theorem wp_val1 {o : Oper} {a : Act} {w : World} {K : Act → World → Prop} (v : Value) (h : (execOp a.eval o).run P w = .ok (.value v) w) (hK : K (a.put o.dst v) w) : o.wp P a w K Q := by
  unfold Oper.wp
  rw [h]
  exact hK
end
end Go.Proofs.YtachhbbofemfdaaDoor
namespace Go.Proofs.YtachhbbofemfdaaDoor
open Go.RowKit
set_option linter.unusedSimpArgs false
set_option linter.unusedVariables false
set_option maxRecDepth 100000
/-- bytes in a block of their own: its number, its capacity, the bytes -/
abbrev CkT := Nat × Nat × List Int
abbrev ckV (t : CkT) : Value := .slice (some ⟨t.1, 0, none⟩) t.2.2.length t.2.1
def Ck (w : World) (lo : Nat) (G : List Nat) (t : CkT) : Prop := Ow w lo (some ⟨t.1, 0, none⟩) t.2.1 t.2.2 ∧ t.1 ∉ G
theorem Ck.lt {w : World} {lo : Nat} {G : List Nat} {t : CkT} (h : Ck w lo G t) : lo ≤ t.1 ∧ t.1 < w.heap.size := h.1.blt t.1 rfl
theorem Ck.kp {w w' : World} {lo : Nat} {G G' H : List Nat} {t : CkT} (h : Ck w lo G t) (hk : Kp w H w') (h1 : t.1 ∉ H) (h2 : t.1 ∉ G') : Ck w' lo G' t :=
  ⟨⟨h.1.1, own_kept h.1.2 fun k hk' => hk.block k (h.1.2.lt k hk').2 (by
    have : t.1 = k := by simpa [Value.ownBlock] using hk'
    rw [← this]; exact h1)⟩, h2⟩
theorem ck_one (T : List CkT) : ∀ u ∈ T.map ckV, u.oneCell' = true := fun u hu => by
  obtain ⟨t, _, rfl⟩ := List.mem_map.1 hu
  rfl
/-- a list of byte slices that is read -/
def Ls (w : World) (hi : Nat) (A : Option Addr) (M : List (List Int)) : Prop :=
  0 < M.length → ∃ b o, A = some ⟨b, o, none⟩ ∧ b < hi ∧ ∀ k (h : k < M.length), ∃ Ak ck, w.cell? ⟨b, o + k, none⟩ = some (.slice Ak (M[k]).length ck) ∧ Bs w 0 hi Ak M[k]
theorem Ls.below {w w' : World} {hi B : Nat} {A : Option Addr} {M : List (List Int)} (h : Ls w hi A M) (hb : Below B w w') (h1 : hi ≤ B) : Ls w' hi A M := fun hp => by
  obtain ⟨b, o, e, hlt, hx⟩ := h hp
  refine ⟨b, o, e, hlt, fun k hk => ?_⟩
  obtain ⟨Ak, ck, c0, c1⟩ := hx k hk
  exact ⟨Ak, ck, kept_cell hb c0 (show b < B by omega), c1.below hb h1⟩
theorem Ls.wide {w : World} {hi hi' : Nat} {A : Option Addr} {M : List (List Int)} (h : Ls w hi A M) (h1 : hi ≤ hi') : Ls w hi' A M := fun hp => by
  obtain ⟨b, o, e, hlt, hx⟩ := h hp
  refine ⟨b, o, e, by omega, fun k hk => ?_⟩
  obtain ⟨Ak, ck, c0, c1⟩ := hx k hk
  exact ⟨Ak, ck, c0, c1.wide (Nat.le_refl _) h1⟩
abbrev clL (k0 k1 k2 k3 : Int) (A : Option Addr) (n c : Nat) (N : Int) (A2 : Option Addr) (n2 c2 : Nat) : List Value := [.int .u64 k0, .int .u64 k1, .int .u64 k2, .int .u64 k3, .slice A n c, .int .u64 N, .slice A2 n2 c2]
theorem infoSl : (Tryd.prog.info? 23).map (fun i => (i.zero, i.size, i.bytes)) = some (some (.slice none 0 0), 1, 24) := by kernel_rfl
theorem infoId : (Tryd.prog.info? 101).map (fun i => (i.zero, i.size, i.bytes)) = some (some (.agg (byC (List.replicate 16 0)).toArray), 16, 16) := by kernel_rfl
theorem sizeSls : (Tryd.prog.info? 51).map (·.size) = some 1 := by kernel_rfl
theorem sizeIds : (Tryd.prog.info? 98).map (·.size) = some 1 := by kernel_rfl
/-- the client lies in block b; its cookies T in row g1, the waiting identifiers I in row g2 -/
structure ClX (w : World) (lo b g1 g2 : Nat) (k0 k1 k2 k3 : Int) (T : List CkT) (N : Int) (I : List (List Int)) (A : Option Addr) (n c : Nat) (A2 : Option Addr) (n2 c2 : Nat) : Prop where
  blk : Blk w b 100 (clL k0 k1 k2 k3 A n c N A2 n2 c2)
  tn : T.length = n
  wn : I.length = n2
  cs : Rw w 1 g1 [b, g2] A n c (T.map ckV)
  ws : Rw w 16 g2 [b, g1] A2 n2 c2 (I.flatMap byC)
  ck : ∀ t ∈ T, Ck w lo [b, g1, g2] t ∧ t.2.2.length = 52
  wt : ∀ l ∈ I, l.length = 16 ∧ Byt l
  lob : lo ≤ b
  lo1 : lo ≤ g1
  lo2 : lo ≤ g2
  lt1 : g1 < w.heap.size
  lt2 : g2 < w.heap.size
section
variable {w w' : World} {lo b g1 g2 : Nat} {k0 k1 k2 k3 N : Int} {T : List CkT} {I : List (List Int)} {A A2 : Option Addr} {n c n2 c2 : Nat}
theorem ClX.kp {H : List Nat} (h : ClX w lo b g1 g2 k0 k1 k2 k3 T N I A n c A2 n2 c2) (hk : Kp w H w') (hb : b ∉ H) (h1 : g1 ∉ H) (h2 : g2 ∉ H) (ht : ∀ t ∈ T, t.1 ∉ H) : ClX w' lo b g1 g2 k0 k1 k2 k3 T N I A n c A2 n2 c2 :=
  ⟨hk.blk h.blk hb, h.tn, h.wn, h.cs.kp hk (by omega) (fun _ _ => h1), h.ws.kp hk (by omega) (fun _ _ => h2), fun t hm => ⟨(h.ck t hm).1.kp hk (ht t hm) (h.ck t hm).1.2, (h.ck t hm).2⟩, h.wt, h.lob, h.lo1, h.lo2, Nat.lt_of_lt_of_le h.lt1 hk.size, Nat.lt_of_lt_of_le h.lt2 hk.size⟩
theorem ClX.below {B : Nat} (h : ClX w lo b g1 g2 k0 k1 k2 k3 T N I A n c A2 n2 c2) (hb : Below B w w') (hB : w.heap.size ≤ B) : ClX w' lo b g1 g2 k0 k1 k2 k3 T N I A n c A2 n2 c2 :=
  h.kp (H := []) ((Kp.refl w []).below hb hB) (by simp) (by simp) (by simp) (fun _ _ => by simp)
theorem ClX.drew (h : ClX w lo b g1 g2 k0 k1 k2 k3 T N I A n c A2 n2 c2) : ClX w.drew lo b g1 g2 k0 k1 k2 k3 T N I A n c A2 n2 c2 := h.kp (H := []) ((Kp.refl w []).drew) (by simp) (by simp) (by simp) (fun _ _ => by simp)
/-- one cookie more: the row has grown, then the field is written -/
theorem ClX.push {x : World} {t : CkT} {g' c' : Nat} {A' : Option Addr} (h : ClX w lo b g1 g2 k0 k1 k2 k3 T N I A n c A2 n2 c2) (ht : Ow w lo (some ⟨t.1, 0, none⟩) t.2.1 t.2.2) (ht2 : t.2.2.length = 52) (hn : t.1 ∉ [b, g1, g2])
    (hr : Rw w' 1 g' [b, g2] A' (n + 1) c' (T.map ckV ++ [ckV t])) (hk : Kp w (fp c g1) w') (hg : g' = g1 ∨ w.heap.size ≤ g') (hl : g' < w'.heap.size) (hx : x = w'.setCell ⟨b, 4, none⟩ (.slice A' (n + 1) c')) :
    ClX x lo b g' g2 k0 k1 k2 k3 (T ++ [t]) N I A' (n + 1) c' A2 n2 c2 ∧ Kp w [b, g1] x ∧ w.heap.size ≤ x.heap.size := by
  have hb1 : b ∉ fp c g1 := fun hm => by
    obtain ⟨hc, rfl⟩ := fp_mem hm
    exact (h.cs.lt hc (by omega)).2 (by simp)
  have h21 : c2 ≠ 0 → g2 ∉ [b, g1] → g2 ∉ fp c g1 := fun _ hx hm => by
    obtain ⟨_, rfl⟩ := fp_mem hm
    exact hx (by simp)
  have hB := hk.blk h.blk hb1
  have hsz : x.heap.size = w'.heap.size := by rw [hx]; simp [World.setCell]
  have hgx : But b w' x := by rw [hx]; exact but_setCell _ _ _ _
  have hk2 : Kp w' [b] x := Kp.of_but hgx (.inr (by simp))
  have hBx : Blk x b 100 (clL k0 k1 k2 k3 A' (n + 1) c' N A2 n2 c2) := by rw [hx]; exact hB.set 4 _
  have hgb : g' ∉ [b, g2] := (hr.lt (by have := hr.2.1; omega) (by omega)).2
  have hgb' : g' ≠ b ∧ g' ≠ g2 := by simpa using hgb
  have tl := ht.blt t.1 rfl
  have hn' : t.1 ≠ b ∧ t.1 ≠ g1 ∧ t.1 ≠ g2 := by simpa using hn
  refine ⟨⟨hBx, by rw [List.length_append, h.tn]; rfl, h.wn, ?_, ?_, fun u hu => ?_, h.wt, h.lob, ?_, h.lo2, by rw [hsz]; exact hl, by rw [hsz]; exact Nat.lt_of_lt_of_le h.lt2 hk.size⟩, ?_, by rw [hsz]; exact hk.size⟩
  · rw [List.map_append]
    exact hr.kp hk2 (by omega) (fun _ _ => by simpa using hgb'.1)
  · refine ((h.ws.kp hk (by omega) h21).av' fun _ hx => ?_).kp hk2 (by omega) fun _ hx => ?_
    · have h3 : g2 ≠ b ∧ g2 ≠ g1 := by simpa using hx
      simp
      exact ⟨h3.1, fun e => hgb'.2 e.symm⟩
    · have h3 : g2 ≠ b ∧ g2 ≠ g' := by simpa using hx
      simpa using h3.1
  · rw [List.mem_append] at hu
    have key : Ck w lo [b, g1, g2] u ∧ u.2.2.length = 52 := by
      rcases hu with hu | hu
      · exact h.ck u hu
      · obtain rfl : u = t := by simpa using hu
        exact ⟨⟨ht, hn⟩, ht2⟩
    have hu3 : u.1 ≠ b ∧ u.1 ≠ g1 ∧ u.1 ≠ g2 := by simpa using key.1.2
    have hul := key.1.lt
    refine ⟨(key.1.kp hk (fun hm => hu3.2.1 (fp_mem hm).2) key.1.2).kp hk2 (by simpa using hu3.1) ?_, key.2⟩
    simp
    refine ⟨hu3.1, fun e => ?_, hu3.2.2⟩
    rcases hg with hg | hg
    · exact hu3.2.1 (e.trans hg)
    · omega
  · rcases hg with hg | hg
    · rw [hg]; exact h.lo1
    · have := h.lt1; have := h.lo1; omega
  · exact (hk.less fun g hm => .inr (by rw [(fp_mem hm).2]; simp)).but hgx (.inr (by simp))
end
theorem ClX.new {w : World} {lo b : Nat} {k0 k1 k2 k3 : Int} (h : Blk w b 100 (clL k0 k1 k2 k3 none 0 0 0 none 0 0)) (hlo : lo ≤ b) : ClX w lo b b b k0 k1 k2 k3 [] 0 [] none 0 0 none 0 0 :=
  ⟨h, rfl, rfl, Rw.nil _ _ _ _, Rw.nil _ _ _ _, fun t ht => by (cases ht), fun l hl => by (cases hl), hlo, hlo, hlo, h.lt, h.lt⟩
set_option maxRecDepth 100000 in
set_option maxHeartbeats 4000000 in
theorem newcl_many (k0 k1 k2 k3 : Int) (B : Option Addr) (m d : Nat) (w : World) (hm : 8 < m) (hm2 : m ≤ 9223372036854775807) :
    Calls Tryd.prog 20 #[keyV k0 k1, keyV k2 k3, .slice B m d] w fun e w' => e = .returned (.pointer none) ∧ Below w.heap.size w w' := by
  have h8 : decide ((8 : Int) < m) = true := decide_eq_true (by omega)
  go_enter Tryd.func20, Tryd.ntmps20
  go_wp2_with (first
    | (refine wpl_box (by rfl) 29 _ (by rfl) _ (keyL k0 k1) (by rfl) rfl ?_; intro w1 P1 s1 b1)
    | ((refine wpl_box (by rfl) 29 _ (by rfl) _ (keyL k2 k3) (by rfl) rfl ?_; intro w2 Q2 s2 b2); (have P2 := P1.below b2 (by omega)))
    | (refine wpl_load (by rfl) 29 _ (by rfl) w.heap.size (by rfl) 29 _ P2 _ Tryd.underlying29 rfl _ sizeKey (by rfl) ?_)
    | (refine wpl_load (by rfl) 29 _ (by rfl) w1.heap.size (by rfl) 29 _ Q2 _ Tryd.underlying29 rfl _ sizeKey (by rfl) ?_)
    )
  go_ret
  exact ⟨rfl, b1.trans (b2.mono (by omega))⟩
set_option maxRecDepth 100000 in
set_option maxHeartbeats 8000000 in
theorem newcl_any (k0 k1 k2 k3 : Int) (B : Option Addr) (m d : Nat) (M : List (List Int)) (w : World) (hm : m ≤ 8) (hM : M.length = m) (hL : Ls w w.heap.size B M) (hmd : m ≤ d) :
    Calls Tryd.prog 20 #[keyV k0 k1, keyV k2 k3, .slice B m d] w fun e w' => (e = .returned (.pointer none) ∧ (∃ l ∈ M, l.length ≠ 52) ∧ Below w.heap.size w w') ∨
      (∃ b g1 T A n c, e = .returned (.pointer (some ⟨b, 0, none⟩)) ∧ ClX w' w.heap.size b g1 b k0 k1 k2 k3 T 0 [] A n c none 0 0 ∧ T.map (·.2.2) = M ∧ Below w.heap.size w w') := by
  have h8 : decide ((8 : Int) < m) = false := decide_eq_false (by omega)
  go_enter Tryd.func20, Tryd.ntmps20
  go_wp2_with (first
    | (refine wpl_box (by rfl) 29 _ (by rfl) _ (keyL k0 k1) (by rfl) rfl ?_; intro w1 P1 s1 b1)
    | ((refine wpl_box (by rfl) 29 _ (by rfl) _ (keyL k2 k3) (by rfl) rfl ?_; intro w2 Q2 s2 b2); (have P2 := P1.below b2 (by omega)))
    | (refine wpl_load (by rfl) 29 _ (by rfl) w.heap.size (by rfl) 29 _ P2 _ Tryd.underlying29 rfl _ sizeKey (by rfl) ?_)
    | (refine wpl_load (by rfl) 29 _ (by rfl) w1.heap.size (by rfl) 29 _ Q2 _ Tryd.underlying29 rfl _ sizeKey (by rfl) ?_)
    | (refine wpl_box (by rfl) 100 _ (by rfl) _ (clL k0 k1 k2 k3 none 0 0 0 none 0 0) (by rfl) rfl ?_; intro w3 C3 s3 b3))
  have B3 : Below w.heap.size w w3 := (b1.trans (b2.mono (by omega))).trans (b3.mono (by omega))
  obtain ⟨b, hb⟩ : ∃ b, b = w2.heap.size := ⟨_, rfl⟩
  rw [← hb] at C3 ⊢
  have lob : w.heap.size ≤ b := by omega
  clear P1 P2 Q2 b1 b2 b3 s1 s2 s3 hb h8
  obtain ⟨lo, hlo⟩ : ∃ lo, lo = w.heap.size := ⟨_, rfl⟩
  rw [← hlo] at lob
  go_loopw [19] (fun i wr => ∃ k : Nat, k ≤ m ∧ i = .int .i64 k ∧ ∃ g1 T A n c, ClX wr lo b g1 b k0 k1 k2 k3 T 0 [] A n c none 0 0 ∧ Hid (T.map (·.2.2) = M.take k) ∧ Below w.heap.size w wr) (fun i _ => m - (intOf i).toNat)
  case atStart => exact ⟨0, by omega, rfl, b, [], none, 0, 0, ClX.new C3 lob, rfl, B3⟩
  case round =>
    obtain ⟨k, hk, rfl, g1, T, A, n, c, hC, hT, hB⟩ := hrel
    obtain ⟨wo, rfl⟩ : ∃ wo : World, wo = wr := ⟨wr, rfl⟩
    obtain ⟨g2, hg2⟩ : ∃ g2, g2 = b := ⟨_, rfl⟩
    have hC : ClX wo lo b g1 g2 k0 k1 k2 k3 T 0 [] A n c none 0 0 := by rw [hg2]; exact hC
    by_cases hlt : k < m
    · obtain ⟨bb, o, rfl, hbw, hx⟩ := (hL.below hB (Nat.le_refl _)) (by omega)
      obtain ⟨Ak, ck, e0, hBk0⟩ := hx k (by omega)
      have hBk := hBk0.wide (Nat.le_refl _) hB.size
      have hi0 : (0 : Int) ≤ k := by omega
      have hi1 : (k : Int) < m := by omega
      have hmem : M[k] ∈ M := List.getElem_mem (by omega)
      have htk : M.take (k + 1) = M.take k ++ [M[k]] := by rw [List.take_succ_eq_append_getElem (by omega)]
      generalize M[k] = l at e0 hBk hmem htk
      clear hBk0 hx C3 B3
      by_cases hl : l.length = 52
      · rw [hl] at e0
        have hcl := fun W hB => gclone_any Ak 52 ck l W hl hB (by omega)
        have hn8 : n ≤ 8 := by have := hC.tn; have h2 := congrArg List.length hT.out; rw [List.length_map, List.length_take] at h2; omega
        have HT : Hid (T.map (·.2.2) ++ [l] = M.take (k + 1)) := by show _ = _; rw [htk, ← hT.out]
        clear hT htk
        go_wp2_with fail
        have hBd : Bs wo.drew 0 wo.drew.heap.size Ak l := hBk.drew
        refine wp_region_S (fun y => y.cell? ⟨b, 4, none⟩ = some (.slice A n c)) 11 12 (by kernel_rfl) rfl ?_
        have hHeld : wo.drew.cell? ⟨b, 4, none⟩ = some (.slice A n c) := hC.drew.blk.cell rfl
        simp only [List.replicate]
        (refine wpS_t 0 _ (by exact gE rfl) (by kernel_rfl) (by intro _ _ _ h; exact h) (Or.inl ⟨by rfl, (by intro _ h; (try dsimp only at h); go_simp; first | done | with_reducible rfl)⟩) (by assumption) ?_; (try simp only [Act.put, zs0, zs1, zs2]))
        (refine wpS_t 1 _ (by exact gE rfl) (by kernel_rfl) (by intro _ _ _ h; exact h) (Or.inl ⟨by rfl, (by intro _ h; (try dsimp only at h); go_simp; first | done | with_reducible rfl)⟩) (by assumption) ?_; (try simp only [Act.put, zs0, zs1, zs2]))
        (refine wpS_t 2 _ (by exact gE rfl) (by kernel_rfl) (by intro _ _ _ h; exact h) (Or.inl ⟨by rfl, (by intro _ h; (try dsimp only at h); go_simp; first | done | with_reducible rfl)⟩) (by assumption) ?_; (try simp only [Act.put, zs0, zs1, zs2]))
        (refine wpS_t 3 _ (by exact gE rfl) (by kernel_rfl) (by intro _ _ _ h; exact h) (Or.inl ⟨by rfl, (by intro _ h; (try dsimp only at h); go_simp; first | done | with_reducible rfl)⟩) (by assumption) ?_; (try simp only [Act.put, zs0, zs1, zs2]))
        (refine wpS_t 4 _ (by exact gE rfl) (by kernel_rfl) (by intro _ _ _ h; exact h) (Or.inl ⟨by rfl, (by intro _ h; (try dsimp only at h); go_simp; first | done | with_reducible rfl)⟩) (by assumption) ?_; (try simp only [Act.put, zs0, zs1, zs2]))
        (refine wpS_t 5 _ (by exact gE rfl) (by kernel_rfl) (by intro _ _ _ h; exact h) (Or.inl ⟨by rfl, (by intro _ h; (try dsimp only at h); go_simp; first | done | with_reducible rfl)⟩) (by assumption) ?_; (try simp only [Act.put, zs0, zs1, zs2]))
        (refine wpS_one (i := 6) (by exact gE rfl) (by kernel_rfl) (by rfl) ?_; (go_simp; (with_reducible refine (hcl wo.drew hBd).mono ?_); rintro e w2 ⟨rfl, O2, b2, s2⟩; (have hC2 := hC.drew.below b2 (Nat.le_refl _)); refine ⟨hC2.blk.cell rfl, ?_⟩); (try simp only [Act.put, zs0, zs1, zs2]))
        (refine wpS_one (i := 7) (by exact gE rfl) (by kernel_rfl) (by rfl) ?_; (go_simp; refine ⟨hC2.blk.old.cell rfl, ?_⟩); (try simp only [Act.put, zs0, zs1, zs2]))
        obtain ⟨w3, hw3⟩ : ∃ w3, w3 = w2.alloc (.cells #[.slice (some ⟨wo.heap.size, 0, none⟩) 52 52] 23) := ⟨_, rfl⟩
        rw [← hw3]
        have O2 : Ow w2 wo.heap.size (some ⟨wo.heap.size, 0, none⟩) 52 l := O2
        have s2 : wo.heap.size < w2.heap.size := s2
        have b3 : Below w2.heap.size w2 w3 := by rw [hw3]; exact (Below.refl _ _).alloc (Nat.le_refl _) _
        have N3 : Blk w3 w2.heap.size 23 [.slice (some ⟨wo.heap.size, 0, none⟩) 52 52] := by rw [hw3]; exact Blk.new w2 _ _ _ rfl
        have hC3 := hC2.below b3 (Nat.le_refl _)
        have O3 := O2.below b3 (Nat.le_refl _)
        have z3 := N3.lt
        have hb3 : b ∉ fp c g1 := fun hm => by
          obtain ⟨hc, e⟩ := fp_mem hm
          exact (hC3.cs.lt hc (by omega)).2 (by rw [← e]; simp)
        (refine wpS_one (i := 8) (by exact gE rfl) (by kernel_rfl) (by rfl) ?_; (refine wp_append_rw 51 23 (.slice none 0 0) 24 (.tmp 30) (.tmp 33) (by rfl) Tryd.underlying51 infoSl (by rfl) (by omega) (by rfl) hC3.cs ⟨w2.heap.size, 0, none⟩ 1 1 [.slice (some ⟨wo.heap.size, 0, none⟩) 52 52] (by rfl) rfl (by omega) (cells2_of N3) (by simp [Value.oneCell']) (by omega) (by omega) (by have := hC3.blk.lt; have := hC3.lt2; simp; omega) ?_; intro g4 A4 c4 w4 R4 K4 G4 L4; refine ⟨(K4.blk hC3.blk hb3).cell rfl, ?_⟩); (try simp only [Act.put, zs0, zs1, zs2]))
        have J4 := K4.blk hC3.blk hb3
        have hHeld4 : w4.cell? ⟨b, 4, none⟩ = some (.slice A n c) := J4.cell rfl
        obtain ⟨w5, hw5⟩ : ∃ w5, w5 = w4.setCell ⟨b, 4, none⟩ (.slice A4 (n + 1) c4) := ⟨_, rfl⟩
        (refine wpS_one (i := 9) (by exact gE rfl) (by kernel_rfl) (by rfl) ?_; (go_simp); (try simp only [Act.put, zs0, zs1, zs2]))
        (refine wpS_one (i := 10) (by exact gE rfl) (by kernel_rfl) (by rfl) ?_; (go_simp); (try simp only [Act.put, zs0, zs1, zs2]))
        (refine wpS_st (i := 11) (by exact gE rfl) (by kernel_rfl) (by rfl) (by kernel_rfl) ?_; (refine wp_storef1 51 (.tmp 36) (.tmp 34) (by rfl) b 4 (by rfl) (.slice A4 (n + 1) c4) (by rfl) (by rfl) (by simp [Value.oneCell']) 100 _ J4 (show 4 < 7 by omega) sizeSls ?_; rw [← hw5]); (try simp only [Act.put, zs0, zs1, zs2]))
        refine wpS_done (by kernel_rfl) ?_ _
        obtain ⟨hC5, hK5, z5⟩ := hC3.push (t := (wo.heap.size, 52, l)) (O3.wide (by have := hC.lob; have := hC.blk.lt; show lo ≤ wo.heap.size; omega)) hl (by have := hC.blk.lt; have := hC.lt1; have := hC.lt2; show wo.heap.size ∉ _; simp; omega) (by show Rw w4 1 g4 [b, g2] A4 (n + 1) c4 (T.map ckV ++ [ckV (wo.heap.size, 52, l)]); unfold ckV; rw [hl]; exact R4) K4 G4 L4 hw5
        have B3 : Below w.heap.size w w3 := ((hB.drew).trans (b2.mono hB.size)).trans (b3.mono (Nat.le_trans hB.size (Nat.le_of_lt s2)))
        have B5 : Below w.heap.size w w5 := hK5.toBelow B3 B3.size (fun g hg => by
          have q1 := hC3.lob
          have q2 := hC3.lo1
          have q3 : g = b ∨ g = g1 := by simpa using hg
          omega)
        have HT' : Hid ((T ++ [(wo.heap.size, 52, l)]).map (fun t : CkT => t.2.2) = M.take (k + 1)) := by show _ = _; rw [List.map_append]; exact HT.out
        rw [hg2] at hC5
        clear hC hC2 hC3 hK5 B3 O2 O3 b2 b3 J4 K4 R4 N3 hBk hBd hHeld hHeld4 hB hcl HT hw3 hw5
        go_wp2_with fail
        exact ⟨⟨k + 1, by omega, by go_num, g4, _, A4, n + 1, c4, hC5, HT', B5⟩, by simp [intOf]; omega⟩
      · have dl : ((l.length : Int) != 52) = true := by simp; omega
        have HX := Lib.hid (show ∃ l ∈ M, l.length ≠ 52 from ⟨l, hmem, hl⟩)
        clear hl htk hT
        go_wp2
        go_ret
        exact .inl ⟨rfl, HX.out, hB⟩
    · obtain rfl : k = m := by omega
      have hT' := hT.out
      rw [List.take_of_length_le (by omega)] at hT'
      go_wp2
      go_ret
      have hC : ClX wo lo b g1 b k0 k1 k2 k3 T 0 [] A n c none 0 0 := by rw [hg2] at hC; exact hC
      exact .inr ⟨_, g1, T, A, n, c, rfl, hlo ▸ hC, hT', hB⟩
end Go.Proofs.YtachhbbofemfdaaDoor
