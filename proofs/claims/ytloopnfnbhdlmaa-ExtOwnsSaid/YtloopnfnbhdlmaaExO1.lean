/- ExtOwns: what stays as it is while bytes are written on. -/
import Derived.Test.YtloopnfnbhdlmaaEx7
import Derived.Test.YtloopnfnbhdlmaaFnd
import Derived.Test.YtloopnfnbhdlmaaHeld
namespace Go.Proofs.Ytloopnfnbhdlmaa
open Go.RowKit
set_option linter.unusedSimpArgs false
set_option linter.unusedVariables false
set_option maxRecDepth 100000
theorem xor255 (x : Int) (h0 : 0 ≤ x) (h1 : x ≤ 255) : 0 ≤ bits .xor .u8 x 255 ∧ bits .xor .u8 x 255 ≤ 255 := by
  rw [Go.u8_xor x 255 h0 (by omega) (by omega) (by omega)]
  have h : x.toNat ^^^ (255 : Int).toNat < 2 ^ 8 := Nat.xor_lt_two_pow (by omega) (by decide)
  omega
/-- a byte written in whatever block leaves an own row of bytes an own row of as many bytes -/
theorem ow_any {w : World} {lo c : Nat} {A : Option Addr} {l : List Int} (h : Ow w lo A c l) (g i : Nat) {x : Int} (h0 : 0 ≤ x) (h1 : x ≤ 255) : ∃ l', l'.length = l.length ∧ Ow (w.setCell ⟨g, i, none⟩ (.int .u8 x)) lo A c l' := by
  rcases h.form with ⟨rfl, rfl, rfl⟩ | ⟨g', rfl, _, _⟩
  · exact ⟨[], rfl, Ow.nil _ _⟩
  · by_cases hg : g' = g
    · subst hg
      exact ⟨l.set i x, by simp, h.set i h0 h1⟩
    · exact ⟨l, rfl, h.1, own_kept h.2 fun b hb => by
        simp [Value.ownBlock] at hb
        subst hb
        exact Below.heap_setCell w ⟨g, i, none⟩ _ _ hg⟩
/-- the state of the first loops: the slices that are written on, and what stays -/
structure OwI (wx wy : World) (b2 G : Nat) (Aj : Nat → Option Addr) (Nj cj : Nat → Nat) (wr : World) : Prop where
  low : Below wx.heap.size wx wr
  mid : ∀ b, b2 ≤ b → b < wy.heap.size → wr.heap[b]? = wy.heap[b]?
  blk : Blk wr G 22 [.slice (Aj 0) (Nj 0) (cj 0), .slice (Aj 1) (Nj 1) (cj 1), .slice (Aj 2) (Nj 2) (cj 2)]
  own : ∀ j, j < 3 → ∃ l, l.length = Nj j ∧ Ow wr wx.heap.size (Aj j) (cj j) l
  okg : ∀ j, j < 3 → ∀ g, Aj j = some ⟨g, 0, none⟩ → g < G ∧ (g < b2 ∨ wy.heap.size ≤ g)
section
variable {wx wy wr : World} {b2 G : Nat} {Aj : Nat → Option Addr} {Nj cj : Nat → Nat}
theorem OwI.set (h : OwI wx wy b2 G Aj Nj cj wr) {j g i : Nat} (hj : j < 3) (hA : Aj j = some ⟨g, 0, none⟩) {x : Int} (h0 : 0 ≤ x) (h1 : x ≤ 255) : OwI wx wy b2 G Aj Nj cj (wr.setCell ⟨g, i, none⟩ (.int .u8 x)) := by
  obtain ⟨l, hl, hO⟩ := h.own j hj
  have hg := (hO.blt g hA).1
  have ho := h.okg j hj g hA
  refine ⟨h.low.setCell hg _, fun b hb1 hb2 => ?_, h.blk.far (by show G ≠ g; omega), fun k hk => ?_, h.okg⟩
  · rw [Below.heap_setCell wr ⟨g, i, none⟩ _ b (by show b ≠ g; omega)]
    exact h.mid b hb1 hb2
  · obtain ⟨l', hl', hO'⟩ := h.own k hk
    obtain ⟨l'', hl'', hO''⟩ := ow_any hO' g i h0 h1
    exact ⟨l'', by omega, hO''⟩
theorem OwI.cellj (h : OwI wx wy b2 G Aj Nj cj wr) {j : Nat} (hj : j < 3) : wr.cell? ⟨G, j, none⟩ = some (.slice (Aj j) (Nj j) (cj j)) := by
  have : j = 0 ∨ j = 1 ∨ j = 2 := by omega
  rcases this with rfl | rfl | rfl
  · exact h.blk.cell rfl
  · exact h.blk.cell rfl
  · exact h.blk.cell rfl
end
/-- the state of the last loops: the list's row as it was, its bytes whatever they are -/
structure OwF (w1 : World) (A : Option Addr) (c : Nat) (T : List XT) (wr : World) : Prop where
  low : Below w1.heap.size w1 wr
  row : wr.ownsRow w1.heap.size 27 2 (.slice A T.length c) T.length (rowX T)
  own : ∀ t ∈ T, ∃ l, l.length = t.1.2.length ∧ Ow wr w1.heap.size t.2.1 t.2.2 l
section
variable {w1 wr wr' : World} {A : Option Addr} {c : Nat} {T : List XT}
theorem OwF.keep (h : OwF w1 A c T wr) (hb : Below wr.heap.size wr wr') : OwF w1 A c T wr' :=
  ⟨h.low.trans (hb.mono h.low.size), own_kept h.row fun g hg => hb.block g (h.row.lt g hg).2, fun t ht => by
    obtain ⟨l, hl, hO⟩ := h.own t ht
    exact ⟨l, hl, hO.below hb (Nat.le_refl _)⟩⟩
theorem OwF.set (h : OwF w1 A c T wr) {t : XT} (ht : t ∈ T) {g i : Nat} (hA : t.2.1 = some ⟨g, 0, none⟩) {x : Int} (h0 : 0 ≤ x) (h1 : x ≤ 255) : OwF w1 A c T (wr.setCell ⟨g, i, none⟩ (.int .u8 x)) := by
  obtain ⟨l, hl, hO⟩ := h.own t ht
  have hg := (hO.blt g hA).1
  refine ⟨h.low.setCell hg _, own_kept h.row fun b hb => ?_, fun u hu => ?_⟩
  · refine Below.heap_setCell wr ⟨g, i, none⟩ _ b (fun e => ?_)
    subst e
    exact own_types h.row hO.2 (by decide) b hb (by rw [hA]; rfl)
  · obtain ⟨l', hl', hO'⟩ := h.own u hu
    obtain ⟨l'', hl'', hO''⟩ := ow_any hO' g i h0 h1
    exact ⟨l'', by omega, hO''⟩
/-- a block of another type is not the block of an own row of bytes -/
theorem blk_ne {J g lo c' : Nat} {t : TypeId} {cs : List Value} {l : List Int} (hb : Blk wr J t cs) (hO : Ow wr lo (some ⟨g, 0, none⟩) c' l) (hne : t ≠ 5) : J ≠ g := by
  rintro rfl
  rcases hO.2.2 with ⟨h, _⟩ | ⟨g', cap, cur, e, _, hg, _⟩
  · cases h
  · simp at e
    obtain ⟨rfl, _⟩ := e
    unfold Blk at hb
    rw [hb] at hg
    injection hg with hg
    injection hg with _ ht
    exact hne ht
end
end Go.Proofs.Ytloopnfnbhdlmaa
