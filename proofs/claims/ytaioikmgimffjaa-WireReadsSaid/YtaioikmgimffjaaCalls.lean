/- A slice of pairs of ints that came in (the calls of the laws on readers), opened; its first 200. -/
import Derived.Test.YtaioikmgimffjaaBytes
import Derived.Test.YtaioikmgimffjaaRow
import Derived.SizedLaws
import Derived.OpenShut
import Derived.Deep.SlicePairs
namespace Go.Proofs.Ytaioikmgimffjaa
open Go.ChangeShapes Go.WideShapes Go.ChangeAt Go.RowKit Go.Joins
set_option linter.unusedSimpArgs false
set_option linter.unusedVariables false
def I64p (x : Int) : Prop := -9223372036854775808 ≤ x ∧ x ≤ 9223372036854775807
/-- a slice address of n pairs of ints, in a block from lo on and below hi -/
def Pr (w : World) (lo hi : Nat) (A : Option Addr) (n : Nat) (X Y : Nat → Int) : Prop :=
  0 < n → ∃ b o, A = some ⟨b, o, none⟩ ∧ lo ≤ b ∧ b < hi ∧ ∀ k, k < n → w.cell? ⟨b, o + k * 2, none⟩ = some (.int .i64 (X k)) ∧ w.cell? ⟨b, o + k * 2 + 1, none⟩ = some (.int .i64 (Y k)) ∧ I64p (X k) ∧ I64p (Y k)
section
variable {w w' : World} {lo hi n : Nat} {A : Option Addr} {X Y : Nat → Int}
theorem Pr.below {B : Nat} (h : Pr w lo hi A n X Y) (hb : Below B w w') (h1 : hi ≤ B) : Pr w' lo hi A n X Y := fun hn => by
  obtain ⟨b, o, e, h2, h3, hc⟩ := h hn
  exact ⟨b, o, e, h2, h3, fun k hk => ⟨(hb.cell (p := ⟨b, o + k * 2, none⟩) (by show b < B; omega)).trans (hc k hk).1, (hb.cell (p := ⟨b, o + k * 2 + 1, none⟩) (by show b < B; omega)).trans (hc k hk).2.1, (hc k hk).2.2⟩⟩
theorem Pr.less {m : Nat} (h : Pr w lo hi A n X Y) (hm : m ≤ n) : Pr w lo hi A m X Y := fun hn => by
  obtain ⟨b, o, e, h2, h3, hc⟩ := h (by omega)
  exact ⟨b, o, e, h2, h3, fun k hk => hc k (by omega)⟩
end
theorem cellsCall : Try.prog.cellsOf 47 = 2 := by kernel_rfl
theorem cellsInt : Try.prog.cellsOf 3 = 1 := by kernel_rfl
section
variable {H : Type} {enc : TypeId × Value → H}
theorem open_calls {W : World} {base : Nat} {v : Value} {d : DataW H} {ps : List MemPlace} (hval : Value.okWide Try.prog W .any base 42 v) (h1 : DataW.Trod enc Try.prog W 0 (fun _ => true) true 42 v d ps) :
    ∃ (A : Option Addr) (n c : Nat) (X Y : Nat → Int), v = .slice A n c ∧ Pr W 0 W.heap.size A n X Y ∧ n ≤ c ∧ c ≤ 9223372036854775807 := by
  obtain ⟨a1, len, cap, rfl⟩ := okWide_slice Try.underlying42 hval
  obtain ⟨fuel, hf⟩ := h1
  rcases Go.Deep.open_slice_pairs Try.underlying42 Try.underlying47 cellsCall rfl rfl cellsInt cellsInt hf with ⟨hcs, hx⟩ | ⟨a, len', cap', m, n, V0, V1, D0, D1, P0, P1, hcs, _, hl, hm, hmm, hx, hcell⟩
  · simp [Value.cells] at hcs
    obtain ⟨rfl, rfl, rfl⟩ := hcs
    exact ⟨none, 0, 0, fun _ => 0, fun _ => 0, rfl, fun h => absurd h (by omega), Nat.le_refl _, by omega⟩
  · simp [Value.cells] at hcs
    obtain ⟨rfl, rfl, rfl⟩ := hcs
    simp only [if_true] at hmm
    subst hmm
    refine ⟨some a, _, _, fun k => intOf (V0 k), fun k => intOf (V1 k), rfl, fun hp => ?_, hl, by unfold maxLen at hm; omega⟩
    obtain ⟨ab, ao, spot⟩ := a
    have h0 := (hcell 0 (by omega)).1
    have hspot : spot = none := by simpa [Addr.add] using World.cell?_spot h0
    subst hspot
    refine ⟨ab, ao, rfl, Nat.zero_le _, ?_, fun k hk => ?_⟩
    · have := World.block_lt_of_cell? W _ h0
      simpa [ofAdd] using this
    · obtain ⟨hc0, hc1, ht0, ht1⟩ := hcell k (by omega)
      obtain ⟨x, e0, _, w0⟩ := DataW.trod_int Try.underlying3 ht0
      obtain ⟨y, e1, _, w1⟩ := DataW.trod_int Try.underlying3 ht1
      simp only [List.cons.injEq, and_true] at e0 e1
      rw [ofAdd] at hc0 hc1
      rw [← Nat.add_assoc] at hc1
      rw [hc0, hc1]
      simp only [e0, e1, intOf]
      exact ⟨trivial, trivial, bounds_i64 w0, bounds_i64 w1⟩
end
set_option maxHeartbeats 400000 in
theorem first_any (A : Option Addr) (n c : Nat) (w : World) (hnc : n ≤ c) (hc : c ≤ 9223372036854775807) :
    Calls Try.prog 24 #[.slice A n c] w fun e w' => e = .returned (.slice A (min n 200) c) ∧ w = w' := by
  by_cases h : n ≤ 200
  · have hm : min n 200 = n := by omega
    have h' : (n : Int) ≤ 200 := by omega
    rw [hm]
    go_enter Try.func24, Try.ntmps24
    go_wp2
    all_goals
      go_ret
      exact ⟨ret_val (by first | rfl | (congr 1; omega)), rfl⟩
  · have hm : min n 200 = 200 := by omega
    have h' : (200 : Int) < n := by omega
    rw [hm]
    go_enter Try.func24, Try.ntmps24
    go_wp2
    all_goals
      go_ret
      exact ⟨ret_val (by first | rfl | (congr 1; omega)), rfl⟩
end Go.Proofs.Ytaioikmgimffjaa
