/- A byte slice that came in, opened: what its cells hold, its bounds. -/
import Derived.Test.YtkgpeddncpdjjaaDoorBytes
import Derived.Test.YtkgpeddncpdjjaaDoorRow
import Derived.SizedLaws
import Derived.OpenShut
namespace Go.Proofs.YtkgpeddncpdjjaaDoor
open Go.ChangeShapes Go.WideShapes Go.ChangeAt Go.RowKit Go.Joins
set_option linter.unusedSimpArgs false
set_option linter.unusedVariables false
set_option maxRecDepth 100000
theorem cellsU8 : Tryd.prog.cellsOf 5 = 1 := by kernel_rfl
theorem bytesU8 : Tryd.prog.bytesOf 5 = 1 := by kernel_rfl
section
variable {H : Type} {enc : TypeId × Value → H}
theorem open_bs {W : World} {base : Nat} {v : Value} {d : DataW H} {ps : List MemPlace} (hval : Value.okWide Tryd.prog W .any base 30 v) (h1 : DataW.Trod enc Tryd.prog W 0 (fun _ => true) true 30 v d ps) :
    ∃ (A : Option Addr) (n c : Nat) (l : List Int), v = .slice A n c ∧ l.length = n ∧ Bs W 0 W.heap.size A l ∧ n ≤ c ∧ (A = none → n = 0 ∧ c = 0) ∧
      (∀ {ts : List TypeId} {ds : List (DataW H)}, (DataW.weightsEach Tryd.prog ts ds).all (· ≤ reachBytes) = true → ∀ {j : Nat}, ts[j]? = some 30 → ds[j]? = some d → c ≤ 140737488351232) := by
  obtain ⟨a1, len, cap, rfl⟩ := okWide_slice Tryd.underlying30 hval
  obtain ⟨fuel, hf⟩ := h1
  rcases open_ints Tryd.underlying30 Tryd.underlying5 cellsU8 hf with ⟨hcs, hx⟩ | ⟨a, len', cap', zs, hcs, _, hl, hm, hz, hx, hcell, hwz⟩
  · simp [Value.cells] at hcs
    obtain ⟨rfl, rfl, rfl⟩ := hcs
    exact ⟨none, 0, 0, [], rfl, rfl, Bs.nil, Nat.le_refl _, fun _ => ⟨rfl, rfl⟩, fun _ _ _ _ => by omega⟩
  · simp [Value.cells] at hcs
    obtain ⟨rfl, rfl, rfl⟩ := hcs
    simp only [Prod.mk.injEq] at hx
    obtain ⟨rfl, rfl⟩ := hx
    simp only [if_true] at hz
    refine ⟨some a, len, cap, zs.take len, rfl, by rw [List.length_take]; omega, ?_, hl, (by intro h; cases h), fun {ts ds} hsz {j} ht hd => ?_⟩
    · refine ⟨fun x hx => ?_, fun hp => ?_⟩
      · exact bounds_u8 (hwz x (List.mem_of_mem_take hx))
      · rw [List.length_take] at hp
        obtain ⟨ab, ao, spot⟩ := a
        have h0 := hcell 0 (by omega)
        have hspot : spot = none := by simpa [Addr.add] using World.cell?_spot h0
        subst hspot
        refine ⟨ab, ao, rfl, Nat.zero_le _, ?_, fun k hk => ?_⟩
        · have := World.block_lt_of_cell? W _ h0
          simpa [ofAdd] using this
        · rw [List.length_take] at hk
          have hck := hcell k (by omega)
          rw [ofAdd] at hck
          rw [hck]
          have hkl : k < len := by omega
          simp [atB, List.getD_eq_getElem?_getD, List.getElem?_take, hkl]
    · have h := sized_slice hsz ht hd Tryd.underlying30
      rw [bytesU8] at h
      simp [lits, reachBytes] at h
      omega
end
end Go.Proofs.YtkgpeddncpdjjaaDoor
