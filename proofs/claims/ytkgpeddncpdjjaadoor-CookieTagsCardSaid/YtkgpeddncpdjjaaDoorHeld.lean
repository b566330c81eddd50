/- Small lemmas about worlds for regions that draw their order. No function of the program occurs here. -/
import Derived.Test.YtkgpeddncpdjjaaDoorBlk2
import Derived.Test.YtkgpeddncpdjjaaDoorFields
namespace Go.Proofs.YtkgpeddncpdjjaaDoor
open Go.RowKit
set_option linter.unusedSimpArgs false
set_option linter.unusedVariables false
set_option maxRecDepth 100000
theorem alloc_cell {w : World} {b i : Nat} {v : Value} {o : Obj} (h : w.cell? ⟨b, i, none⟩ = some v) : (w.alloc o).cell? ⟨b, i, none⟩ = some v := (World.cell?_alloc_lt w o _ (World.block_lt_of_cell? w _ h)).trans h
theorem alloc_size {w : World} {N : Nat} {o : Obj} (h : N ≤ w.heap.size) : N ≤ (w.alloc o).heap.size := by simp; omega
theorem but_cell {g b i : Nat} {w w' : World} {v : Value} (hg : But g w w') (h : w.cell? ⟨b, i, none⟩ = some v) (hne : b ≠ g) : w'.cell? ⟨b, i, none⟩ = some v := (World.cell?_of_block (hg.block b (World.block_lt_of_cell? w _ h) (by simpa using hne))).trans h
theorem far_cell {w : World} {b i : Nat} {v u : Value} {p : Addr} (h : w.cell? ⟨b, i, none⟩ = some v) (hne : b ≠ p.block) : (w.setCell p u).cell? ⟨b, i, none⟩ = some v := by
  rw [World.cell?_setCell_other w p _ u (fun e => hne (by rw [e]))]; exact h
theorem far_size {w : World} {N : Nat} {p : Addr} {u : Value} (h : N ≤ w.heap.size) : N ≤ (w.setCell p u).heap.size := by simpa [World.setCell] using h
theorem Blk.far {w : World} {b : Nat} {t : TypeId} {cs : List Value} {p : Addr} {u : Value} (h : Blk w b t cs) (hne : b ≠ p.block) : Blk (w.setCell p u) b t cs := (Below.heap_setCell w p u b hne).trans h
theorem bcell' {g : Nat} {W w1 : World} (hb : But g W w1) : (∀ b o, b < W.heap.size → b ≠ g → w1.cell? ⟨b, o, none⟩ = W.cell? ⟨b, o, none⟩) ∧ (∀ b o, b < W.heap.size → b ≠ g → w1.frozen? ⟨b, o, none⟩ = W.frozen? ⟨b, o, none⟩) :=
  ⟨fun b o h hn => World.cell?_of_block (hb.block b h (by simpa using hn)), fun b o h hn => World.frozen?_of_block (hb.block b h (by simpa using hn))⟩
theorem realloc_cell {w : World} {o o' : Obj} {b i : Nat} {v : Value} (h : (w.alloc o).cell? ⟨b, i, none⟩ = some v) (hb : b < w.heap.size) : (w.alloc o').cell? ⟨b, i, none⟩ = some v := (World.cell?_alloc_lt w o' _ hb).trans ((World.cell?_alloc_lt w o _ hb).symm.trans h)
theorem realloc_size {w : World} {o o' : Obj} {N : Nat} (h : N ≤ (w.alloc o).heap.size) : N ≤ (w.alloc o').heap.size := by simpa using h
theorem realloc_below {w0 w : World} {o o' : Obj} {B : Nat} (h : Below B w0 (w.alloc o)) (hB : B ≤ w.heap.size) : Below B w0 (w.alloc o') :=
  ⟨h.os, h.tape, h.output, by have := h.size; simp at this ⊢; omega, fun k hk => (heap_alloc_old w o' (by omega)).trans ((heap_alloc_old w o (by omega)).symm.trans (h.block k hk))⟩
theorem blk_step {w w' : World} {b : Nat} {t : TypeId} {cs : List Value} (h : Blk w b t cs) (hb : Below w.heap.size w w') : Blk w' b t cs := h.below hb h.lt
theorem blk_first {w w' : World} {t : TypeId} {cs : List Value} (hb : Below (w.alloc (.cells cs.toArray t)).heap.size (w.alloc (.cells cs.toArray t)) w') : Blk w' w.heap.size t cs := (Blk.new w t cs.toArray cs rfl).below hb (by simp)
theorem blk_stepB {w w' : World} {b g : Nat} {t : TypeId} {cs : List Value} (h : Blk w b t cs) (hb : But g w w') (hne : b ≠ g) : Blk w' b t cs := h.but hb hne
theorem blk_firstB {w w' : World} {g : Nat} {t : TypeId} {cs : List Value} (hb : But g (w.alloc (.cells cs.toArray t)) w') (hne : w.heap.size ≠ g) : Blk w' w.heap.size t cs := (Blk.new w t cs.toArray cs rfl).but hb hne
theorem far_below {B : Nat} {w0 w : World} {p : Addr} {u : Value} (h : Below B w0 w) (hp : B ≤ p.block) : Below B w0 (w.setCell p u) := h.setCell hp u
theorem realloc_blk {w : World} {o o' : Obj} {b : Nat} {t : TypeId} {cs : List Value} (h : Blk (w.alloc o) b t cs) (hb : b < w.heap.size) : Blk (w.alloc o') b t cs := (heap_alloc_old w o' hb).trans ((heap_alloc_old w o hb).symm.trans h)
end Go.Proofs.YtkgpeddncpdjjaaDoor
