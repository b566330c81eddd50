/- Small lemmas about worlds that the other texts of this claim use: how a world that has only new blocks reads; results of several values. No function of the program occurs here. -/
import Derived.Test.YtkgpeddncpdjjaaDoorRows
import Derived.WalkKit
import Derived.WalkSpells
import Derived.WalkLawsBesides
import Derived.ProofKit
import Derived.OpenShut
import Derived.Lib.Hide
import Derived.Deep.RegionHeld3
import Derived.Deep.DrawnRows
import Derived.BigQuiet
import Derived.Deep.QuietTactic
import Derived.Deep.DeepFit
import Derived.Deep.DeepMust
namespace Go.Proofs.YtkgpeddncpdjjaaDoor
open Go.RowKit
theorem bcell {W w1 : World} (hb : Below W.heap.size W w1) : (∀ b o, b < W.heap.size → w1.cell? ⟨b, o, none⟩ = W.cell? ⟨b, o, none⟩) ∧ (∀ b o, b < W.heap.size → w1.frozen? ⟨b, o, none⟩ = W.frozen? ⟨b, o, none⟩) :=
  ⟨fun b o h => hb.cell (p := ⟨b, o, none⟩) h, fun b o h => hb.frozen (p := ⟨b, o, none⟩) h⟩
theorem kept_cell {B : Nat} {w w' : World} {p : Addr} {v : Value} (h : Below B w w') (hv : w.cell? p = some v) (hp : p.block < B) : w'.cell? p = some v := (h.cell hp).trans hv
theorem kept_frozen {B b : Nat} {w w' : World} (h : Below B w w') (hv : ∀ o, w.frozen? ⟨b, o, none⟩ = false) (hp : b < B) : ∀ o, w'.frozen? ⟨b, o, none⟩ = false := fun o => (h.frozen (p := ⟨b, o, none⟩) hp).trans (hv o)
/-- What stands in a cell that is there: for a cell that is written, whose value nobody reads. -/
@[irreducible] def cellv (w : World) (b i : Nat) : Value := (w.cell? ⟨b, i, none⟩).getD undef
theorem some_of {w : World} {b i : Nat} {v : Value} (h : w.cell? ⟨b, i, none⟩ = some v) : w.cell? ⟨b, i, none⟩ = some (cellv w b i) := by unfold cellv; simp [h]
theorem some_kept {B b i : Nat} {w w' : World} {v : Value} (h : Below B w w') (hv : w.cell? ⟨b, i, none⟩ = some v) (hp : b < B) : w'.cell? ⟨b, i, none⟩ = some (cellv w' b i) := some_of (kept_cell h hv hp)
theorem some_set {w : World} {b i : Nat} {v u : Value} {a : Addr} (h : w.cell? ⟨b, i, none⟩ = some v) : (w.setCell a u).cell? ⟨b, i, none⟩ = some (cellv (w.setCell a u) b i) := by
  by_cases e : a = ⟨b, i, none⟩
  · subst e; exact some_of (World.cell?_setCell_same w _ _ h)
  · exact some_of ((World.cell?_setCell_other w _ _ _ e).trans h)
theorem set_far {w : World} {p a : Addr} {v u : Value} (h : w.cell? p = some v) (hne : p.block ≠ a.block) : (w.setCell a u).cell? p = some v := by
  rw [World.cell?_setCell_other w _ _ _ (fun e => hne (by rw [e]))]; exact h
theorem set_frozen {w : World} {b : Nat} {a : Addr} {u : Value} (h : ∀ o, w.frozen? ⟨b, o, none⟩ = false) : ∀ o, (w.setCell a u).frozen? ⟨b, o, none⟩ = false := fun o => by rw [World.frozen?_setCell]; exact h o
theorem drew_cell {w : World} {p : Addr} {v : Value} (h : w.cell? p = some v) : w.drew.cell? p = some v := h
theorem drew_frozen {w : World} {b : Nat} (h : ∀ o, w.frozen? ⟨b, o, none⟩ = false) : ∀ o, w.drew.frozen? ⟨b, o, none⟩ = false := h
theorem ret_int {k : IntKind} {a b : Int} (h : a = b) : Ending.returned (.int k a) = .returned (.int k b) := by rw [h]
theorem ret_bool {a b : Bool} (h : a = b) : Ending.returned (.bool a) = .returned (.bool b) := by rw [h]
theorem ret_val {a b : Value} (h : a = b) : Ending.returned a = .returned b := by rw [h]
theorem tup2 {a b c d : Value} (h : a = b) (h' : c = d) : Ending.returned (.tuple #[a, c]) = .returned (.tuple #[b, d]) := by rw [h, h']
theorem tup3 {a b c d e f : Value} (h : a = b) (h' : c = d) (h'' : e = f) : Ending.returned (.tuple #[a, c, e]) = .returned (.tuple #[b, d, f]) := by rw [h, h', h'']
theorem vint {k : IntKind} {a b : Int} (h : a = b) : Value.int k a = .int k b := by rw [h]
theorem vbool {a b : Bool} (h : a = b) : Value.bool a = .bool b := by rw [h]
theorem there_set {w : World} {a p : Addr} {u x : Value} (h : (w.setCell a u).cell? p = some x) : ∃ y, w.cell? p = some y := by
  by_cases e : a = p
  · subst e
    simp only [World.setCell, World.cell?, Array.getElem?_modify, ↓reduceIte] at h ⊢
    cases hb : w.heap[a.block]? with
    | none => simp [hb] at h
    | some o =>
      cases o <;> simp [hb] at h ⊢
      obtain ⟨h1, h2⟩ := h
      simp [h1] at h2
      have hs := (Array.getElem?_eq_some_iff.1 h2).1
      rw [Array.size_setIfInBounds] at hs
      exact ⟨h1, _, Array.getElem?_eq_getElem hs⟩
  · rw [World.cell?_setCell_other w _ _ _ e] at h; exact ⟨x, h⟩
theorem set_same {w : World} {a : Addr} {u x : Value} (h : (w.setCell a u).cell? a = some x) : (w.setCell a u).cell? a = some u := by
  obtain ⟨y, hy⟩ := there_set h
  exact World.cell?_setCell_same w _ _ hy
section
variable {w : World} {b : Nat} {v0 v1 v2 v3 : Value}
/-- the four cells of a result, read behind the store of it, where before it they were there -/
theorem cellv4_0 (h : ((((w.setCell ⟨b, 0, none⟩ v0).setCell ⟨b, 1, none⟩ v1).setCell ⟨b, 2, none⟩ v2).setCell ⟨b, 3, none⟩ v3).cell? ⟨b, 0, none⟩ = some (cellv ((((w.setCell ⟨b, 0, none⟩ v0).setCell ⟨b, 1, none⟩ v1).setCell ⟨b, 2, none⟩ v2).setCell ⟨b, 3, none⟩ v3) b 0)) :
    cellv ((((w.setCell ⟨b, 0, none⟩ v0).setCell ⟨b, 1, none⟩ v1).setCell ⟨b, 2, none⟩ v2).setCell ⟨b, 3, none⟩ v3) b 0 = v0 := by
  rw [World.cell?_setCell_other _ _ _ _ (by simp), World.cell?_setCell_other _ _ _ _ (by simp), World.cell?_setCell_other _ _ _ _ (by simp)] at h
  exact (Option.some.inj ((set_same h).symm.trans h)).symm
theorem cellv4_1 (h : ((((w.setCell ⟨b, 0, none⟩ v0).setCell ⟨b, 1, none⟩ v1).setCell ⟨b, 2, none⟩ v2).setCell ⟨b, 3, none⟩ v3).cell? ⟨b, 1, none⟩ = some (cellv ((((w.setCell ⟨b, 0, none⟩ v0).setCell ⟨b, 1, none⟩ v1).setCell ⟨b, 2, none⟩ v2).setCell ⟨b, 3, none⟩ v3) b 1)) :
    cellv ((((w.setCell ⟨b, 0, none⟩ v0).setCell ⟨b, 1, none⟩ v1).setCell ⟨b, 2, none⟩ v2).setCell ⟨b, 3, none⟩ v3) b 1 = v1 := by
  rw [World.cell?_setCell_other _ _ _ _ (by simp), World.cell?_setCell_other _ _ _ _ (by simp)] at h
  exact (Option.some.inj ((set_same h).symm.trans h)).symm
theorem cellv4_2 (h : ((((w.setCell ⟨b, 0, none⟩ v0).setCell ⟨b, 1, none⟩ v1).setCell ⟨b, 2, none⟩ v2).setCell ⟨b, 3, none⟩ v3).cell? ⟨b, 2, none⟩ = some (cellv ((((w.setCell ⟨b, 0, none⟩ v0).setCell ⟨b, 1, none⟩ v1).setCell ⟨b, 2, none⟩ v2).setCell ⟨b, 3, none⟩ v3) b 2)) :
    cellv ((((w.setCell ⟨b, 0, none⟩ v0).setCell ⟨b, 1, none⟩ v1).setCell ⟨b, 2, none⟩ v2).setCell ⟨b, 3, none⟩ v3) b 2 = v2 := by
  rw [World.cell?_setCell_other _ _ _ _ (by simp)] at h
  exact (Option.some.inj ((set_same h).symm.trans h)).symm
theorem cellv4_3 (h : ((((w.setCell ⟨b, 0, none⟩ v0).setCell ⟨b, 1, none⟩ v1).setCell ⟨b, 2, none⟩ v2).setCell ⟨b, 3, none⟩ v3).cell? ⟨b, 3, none⟩ = some (cellv ((((w.setCell ⟨b, 0, none⟩ v0).setCell ⟨b, 1, none⟩ v1).setCell ⟨b, 2, none⟩ v2).setCell ⟨b, 3, none⟩ v3) b 3)) :
    cellv ((((w.setCell ⟨b, 0, none⟩ v0).setCell ⟨b, 1, none⟩ v1).setCell ⟨b, 2, none⟩ v2).setCell ⟨b, 3, none⟩ v3) b 3 = v3 :=
  (Option.some.inj ((set_same h).symm.trans h)).symm
end
/-- a field of a result that is zero beside an error -/
def z0 (c x : Int) : Int := if c = 0 then x else 0
theorem z0_zero (x : Int) : z0 0 x = x := by simp [z0]
theorem z0_three (x : Int) : z0 3 x = 0 := by simp [z0]
theorem z0_ok {c x : Int} (h : c = 0) : z0 c x = x := by simp [z0, h]
theorem z0_no {c x : Int} (h : c ≠ 0) : z0 c x = 0 := by simp [z0, h]
end Go.Proofs.YtkgpeddncpdjjaaDoor
