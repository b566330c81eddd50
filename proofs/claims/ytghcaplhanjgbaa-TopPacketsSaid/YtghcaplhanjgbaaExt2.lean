/- A list of extension fields that came in, opened. -/
import Derived.Test.YtghcaplhanjgbaaExt
namespace Go.Proofs.Ytghcaplhanjgbaa
open Go.ChangeShapes Go.WideShapes Go.ChangeAt Go.RowKit Go.Joins
set_option linter.unusedSimpArgs false
set_option linter.unusedVariables false
set_option maxRecDepth 100000
section
variable {H : Type} {enc : TypeId × Value → H}
/-- one field, from its cells -/
theorem ext_cells {W : World} {fuel : Nat} {cs : List Value} {x : DataW H × List MemPlace} (h : DataW.trod enc Try.prog W 0 (fun _ => true) true fuel 36 cs = some x) :
    ∃ (kd : Int) (A : Option Addr) (c : Nat) (dt : List Int), cs = [.int .i64 kd, .slice A dt.length c] ∧ Bs W 0 W.heap.size A dt ∧ dt.length ≤ c ∧ c ≤ 9223372036854775807 ∧ (A = none → dt.length = 0 ∧ c = 0) ∧ (0 < c → c ∈ x.1.weights Try.prog 36) := by
  obtain ⟨xs, n, _, hx, hl, hxl, hg⟩ := DataW.trod_struct Try.underlying36 h
  rw [cellsExt] at hl
  match cs, hl with
  | [c0, c1], _ =>
    match xs, hxl with
    | [y0, y1], _ =>
      have g0 := hg 0 _ rfl
      have g1 := hg 1 _ rfl
      simp [cellsI64, cellsSl8] at g0 g1
      obtain ⟨kd, e0, _, _⟩ := DataW.trod_int Try.underlying3 g0
      obtain ⟨A, n', c, l, e1, hn, hB, h1, h2, h3, h4⟩ := cell_bs (fun _ => rfl) g1
      subst hn e1
      simp at e0
      subst e0
      refine ⟨kd, A, c, l, rfl, hB, h1, h2, h3, fun hc => ?_⟩
      rw [hx]
      rw [DataW.weights, Try.underlying36]
      exact DataW.weights_mem_each (j := 1) (t := 27) (d := y1.1) rfl rfl c (h4 hc)
theorem open_exts {W : World} {base : Nat} {v : Value} {d : DataW H} {ps : List MemPlace} (hval : Value.okWide Try.prog W .any base 26 v) (h1 : DataW.Trod enc Try.prog W 0 (fun _ => true) true 26 v d ps) :
    ∃ (A : Option Addr) (n c : Nat) (L : List (Int × List Int)), v = .slice A n c ∧ L.length = n ∧ Xs W W.heap.size A L ∧ n ≤ c ∧ c ≤ 9223372036854775807 ∧ (A = none → n = 0 ∧ c = 0) ∧
      (∀ {ts : List TypeId} {ds : List (DataW H)}, (DataW.weightsEach Try.prog ts ds).all (· ≤ reachBytes) = true → ∀ {j : Nat}, ts[j]? = some 26 → ds[j]? = some d → ∀ k, k < n → (dtL L k).length ≤ 140737488351232) := by
  obtain ⟨a1, len, cap, rfl⟩ := okWide_slice Try.underlying26 hval
  obtain ⟨fuel, hf⟩ := h1
  rcases Go.Deep.open_slice Try.underlying26 hf with ⟨hcs, hx⟩ | ⟨a, len', cap', m, n, D, Pl, hcs, _, hl, hm, hmm, hx, hcell⟩
  · simp [Value.cells] at hcs
    obtain ⟨rfl, rfl, rfl⟩ := hcs
    exact ⟨none, 0, 0, [], rfl, rfl, Xs.nil, Nat.le_refl _, by omega, fun _ => ⟨rfl, rfl⟩, fun _ _ _ _ k hk => absurd hk (by omega)⟩
  · simp [Value.cells] at hcs
    obtain ⟨rfl, rfl, rfl⟩ := hcs
    simp only [if_true] at hmm
    subst hmm
    rw [cellsExt] at hcell
    simp only [Prod.mk.injEq] at hx
    obtain ⟨rfl, _⟩ := hx
    have each : ∀ i, i < m → ∃ q : (Int × List Int) × (Option Addr × Nat), W.cells? 0 (a.add (i * 2)) 2 = some [.int .i64 q.1.1, .slice q.2.1 q.1.2.length q.2.2] ∧ Bs W 0 W.heap.size q.2.1 q.1.2 ∧ q.1.2.length ≤ q.2.2 ∧ q.2.2 ≤ 9223372036854775807 ∧ (q.2.1 = none → q.1.2.length = 0 ∧ q.2.2 = 0) ∧ (0 < q.2.2 → q.2.2 ∈ (D i).weights Try.prog 36) := fun i hi => by
      obtain ⟨cs', h1, h2⟩ := hcell i hi
      obtain ⟨kd, A, c, dt, rfl, b1, b2, b3, b4, b5⟩ := ext_cells h2
      exact ⟨((kd, dt), (A, c)), h1, b1, b2, b3, b4, b5⟩
    obtain ⟨q, hq⟩ := Go.Deep.choose_lt each
    obtain ⟨L, hL⟩ : ∃ L, L = (List.range len).map fun i => (q i).1 := ⟨_, rfl⟩
    have hLl : L.length = len := by rw [hL]; simp
    have hat : ∀ k, k < len → L.getD k (0, []) = (q k).1 := fun k hk => by
      rw [hL, List.getD_eq_getElem?_getD, List.getElem?_map, List.getElem?_range hk]; rfl
    refine ⟨some a, len, m, L, rfl, hLl, fun hp => ?_, hl, by unfold maxLen at hm; exact hm, (fun h => by cases h), fun {ts ds} hsz {j} ht hd k hk => ?_⟩
    · rw [hLl] at hp
      obtain ⟨ab, ao, spot⟩ := a
      obtain ⟨_, _, hcl⟩ := World.cells?_some (hq 0 (by omega)).1
      have h0 := hcl 0 (by omega)
      have hspot : spot = none := by simpa [Addr.add] using World.cell?_spot h0
      subst hspot
      refine ⟨ab, ao, rfl, ?_, fun k hk => ?_⟩
      · have := World.block_lt_of_cell? W _ h0
        simpa [ofAdd] using this
      · rw [hLl] at hk
        obtain ⟨e1, b1, b2, b3, b4, _⟩ := hq k (by omega)
        obtain ⟨_, _, hcl⟩ := World.cells?_some e1
        have c0 := hcl 0 (by omega)
        have c1 := hcl 1 (by omega)
        rw [ofAdd, ofAdd] at c0 c1
        unfold kdL dtL
        rw [hat k hk]
        exact ⟨(q k).2.1, (q k).2.2, by simpa using c0, by simpa using c1, b1, b2, b3, b4⟩
    · unfold dtL
      rw [hat k hk]
      obtain ⟨_, _, b2, _, _, b5⟩ := hq k (by omega)
      by_cases hz : 0 < (q k).2.2
      · have hw := weights_elem (t := 26) (spare := (List.range (m - len)).map fun j => D (len + j)) Try.underlying26 (d := D k) (elems := (List.range len).map D) (List.mem_map.2 ⟨k, List.mem_range.2 hk, rfl⟩) (b5 hz)
        have h9 : (q k).2.2 ≤ reachBytes := by simpa using List.all_eq_true.1 hsz _ (DataW.weights_mem_each ht hd _ hw)
        unfold reachBytes at h9
        omega
      · omega
end
end Go.Proofs.Ytghcaplhanjgbaa
