/- What a stretch of a walk leaves alone: all blocks that stood before, but those of a list. For regions that draw their order. No function of the program occurs here. What slices.Equal and slices.Clone compute on byte slices. Extension fields: contracts of Check, Append, Auth and Split of the program, and of Check and Append of the reference. The contract of ext.Find. -/
import Derived.Test.YtachhbbofemfdaaDoorGZ2
import Derived.Test.YtachhbbofemfdaaDoorGZ1
import Derived.Lib.SliceRun
namespace Go.Proofs.YtachhbbofemfdaaDoor
open Go.RowKit
set_option linter.unusedSimpArgs false
set_option linter.unusedVariables false
set_option maxRecDepth 100000
/-- y is x with new blocks, and writes to the blocks G alone -/
structure Kp (x : World) (G : List Nat) (y : World) : Prop where
  os : y.os = x.os
  tape : y.tape = x.tape
  output : y.output = x.output
  size : x.heap.size ≤ y.heap.size
  block : ∀ b, b < x.heap.size → b ∉ G → y.heap[b]? = x.heap[b]?
theorem own_kept {w w' : World} {base size n : Nat} {e : TypeId} {v : Value} {xs : List Value} (h : w.ownsRow base e size v n xs) (hk : ∀ g, v.ownBlock = some g → w'.heap[g]? = w.heap[g]?) : w'.ownsRow base e size v n xs := by
  refine ⟨h.1, ?_⟩
  rcases h.2 with hn | ⟨g, cap, cur, rfl, hb, hgg, rest⟩
  · exact .inl hn
  · exact .inr ⟨g, cap, cur, rfl, hb, (hk g (by simp [Value.ownBlock])).trans hgg, rest⟩
section
variable {x y z : World} {G : List Nat}
theorem Kp.refl (x : World) (G : List Nat) : Kp x G x := ⟨rfl, rfl, rfl, Nat.le_refl _, fun _ _ _ => rfl⟩
theorem Kp.drew (h : Kp x G y) : Kp x G y.drew := ⟨h.os, h.tape, h.output, h.size, h.block⟩
theorem Kp.of_drew (h : Kp x.drew G y) : Kp x G y := ⟨h.os, h.tape, h.output, h.size, h.block⟩
theorem Kp.drewN (h : Kp x G y) (n : Nat) : Kp x G (y.drewN n) := ⟨h.os, h.tape, h.output, h.size, h.block⟩
theorem Kp.alloc (o : Obj) (h : Kp x G y) : Kp x G (y.alloc o) := ⟨h.os, h.tape, h.output, by have := h.size; simp; omega, fun b hb hg => (heap_alloc_old y o (by have := h.size; omega)).trans (h.block b hb hg)⟩
theorem Kp.below {C : Nat} (hb : Below C y z) (h : Kp x G y) (hC : x.heap.size ≤ C) : Kp x G z := ⟨hb.os.trans h.os, hb.tape.trans h.tape, hb.output.trans h.output, Nat.le_trans h.size hb.size, fun b hx hg => (hb.block b (by omega)).trans (h.block b hx hg)⟩
theorem Kp.belowS (hb : Below y.heap.size y z) (h : Kp x G y) : Kp x G z := h.below hb h.size
theorem Kp.but {g : Nat} (hb : But g y z) (h : Kp x G y) (hg : x.heap.size ≤ g ∨ g ∈ G) : Kp x G z := ⟨hb.os.trans h.os, hb.tape.trans h.tape, hb.output.trans h.output, Nat.le_trans h.size hb.size, fun b hx hn => (hb.block b (by have := h.size; omega) (by
  simp only [ne_eq, Option.some.injEq]
  rintro rfl
  rcases hg with hg | hg
  · omega
  · exact hn hg)).trans (h.block b hx hn)⟩
theorem Kp.set {b i : Nat} {s : Option Nat} {v : Value} (h : Kp x G y) (hb : x.heap.size ≤ b ∨ b ∈ G) : Kp x G (y.setCell ⟨b, i, s⟩ v) := ⟨h.os, h.tape, h.output, by have := h.size; simpa [World.setCell] using this, fun c hc hn => (Below.heap_setCell y ⟨b, i, s⟩ v c (by
  show c ≠ b
  rintro rfl
  rcases hb with hb | hb
  · omega
  · exact hn hb)).trans (h.block c hc hn)⟩
theorem Kp.trans (h : Kp x G y) (k : Kp y G z) : Kp x G z := ⟨k.os.trans h.os, k.tape.trans h.tape, k.output.trans h.output, Nat.le_trans h.size k.size, fun b hb hg => (k.block b (by have := h.size; omega) hg).trans (h.block b hb hg)⟩
theorem Kp.toBelow {B : Nat} {w : World} (h : Kp x G y) (hb : Below B w x) (hB : B ≤ x.heap.size) (hG : ∀ g ∈ G, B ≤ g) : Below B w y := ⟨h.os.trans hb.os, h.tape.trans hb.tape, h.output.trans hb.output, Nat.le_trans hb.size h.size, fun b hx => (h.block b (by omega) (fun hg => by have := hG b hg; omega)).trans (hb.block b hx)⟩
theorem Kp.below1 (h : Kp x [] y) : Below x.heap.size x y := ⟨h.os, h.tape, h.output, h.size, fun b hb => h.block b hb (by simp)⟩
theorem Kp.but1 {g : Nat} (h : Kp x [g] y) : But g x y := ⟨h.os, h.tape, h.output, h.size, fun b hb hg => h.block b hb (by simp at hg ⊢; omega)⟩
theorem Kp.of_below (hb : Below x.heap.size x y) : Kp x G y := (Kp.refl x G).belowS hb
theorem Kp.of_but {g : Nat} (hb : But g x y) (hg : x.heap.size ≤ g ∨ g ∈ G) : Kp x G y := (Kp.refl x G).but hb hg
theorem Kp.less {G' : List Nat} (h : Kp x G y) (hG : ∀ g ∈ G, x.heap.size ≤ g ∨ g ∈ G') : Kp x G' y := ⟨h.os, h.tape, h.output, h.size, fun b hb hn => h.block b hb (fun hg => (hG b hg).elim (fun h1 => by omega) hn)⟩
/-- a cell, in a block that is not written -/
def Kc (x : World) (G : List Nat) (b i : Nat) (v : Value) : Prop := x.cell? ⟨b, i, none⟩ = some v ∧ b ∉ G
/-- a cell that is kept -/
theorem kp_cell {b i : Nat} {v : Value} (h : Kp x G y) (hc : Kc x G b i v) : y.cell? ⟨b, i, none⟩ = some v :=
  (World.cell?_of_block (h.block b (World.block_lt_of_cell? x _ hc.1) hc.2)).trans hc.1
theorem kp1 {b1 i1 : Nat} {v1 : Value} (h : Kp x G y) (q1 : Kc x G b1 i1 v1) : y.cell? ⟨b1, i1, none⟩ = some v1 ∧ Kp x G y := ⟨kp_cell h q1, h⟩
theorem kp2 {b1 i1 : Nat} {v1 : Value} {b2 i2 : Nat} {v2 : Value} (h : Kp x G y) (q1 : Kc x G b1 i1 v1) (q2 : Kc x G b2 i2 v2) : y.cell? ⟨b1, i1, none⟩ = some v1 ∧ y.cell? ⟨b2, i2, none⟩ = some v2 ∧ Kp x G y := ⟨kp_cell h q1, kp_cell h q2, h⟩
theorem kp3 {b1 i1 : Nat} {v1 : Value} {b2 i2 : Nat} {v2 : Value} {b3 i3 : Nat} {v3 : Value} (h : Kp x G y) (q1 : Kc x G b1 i1 v1) (q2 : Kc x G b2 i2 v2) (q3 : Kc x G b3 i3 v3) : y.cell? ⟨b1, i1, none⟩ = some v1 ∧ y.cell? ⟨b2, i2, none⟩ = some v2 ∧ y.cell? ⟨b3, i3, none⟩ = some v3 ∧ Kp x G y := ⟨kp_cell h q1, kp_cell h q2, kp_cell h q3, h⟩
theorem kp4 {b1 i1 : Nat} {v1 : Value} {b2 i2 : Nat} {v2 : Value} {b3 i3 : Nat} {v3 : Value} {b4 i4 : Nat} {v4 : Value} (h : Kp x G y) (q1 : Kc x G b1 i1 v1) (q2 : Kc x G b2 i2 v2) (q3 : Kc x G b3 i3 v3) (q4 : Kc x G b4 i4 v4) : y.cell? ⟨b1, i1, none⟩ = some v1 ∧ y.cell? ⟨b2, i2, none⟩ = some v2 ∧ y.cell? ⟨b3, i3, none⟩ = some v3 ∧ y.cell? ⟨b4, i4, none⟩ = some v4 ∧ Kp x G y := ⟨kp_cell h q1, kp_cell h q2, kp_cell h q3, kp_cell h q4, h⟩
theorem kp5 {b1 i1 : Nat} {v1 : Value} {b2 i2 : Nat} {v2 : Value} {b3 i3 : Nat} {v3 : Value} {b4 i4 : Nat} {v4 : Value} {b5 i5 : Nat} {v5 : Value} (h : Kp x G y) (q1 : Kc x G b1 i1 v1) (q2 : Kc x G b2 i2 v2) (q3 : Kc x G b3 i3 v3) (q4 : Kc x G b4 i4 v4) (q5 : Kc x G b5 i5 v5) : y.cell? ⟨b1, i1, none⟩ = some v1 ∧ y.cell? ⟨b2, i2, none⟩ = some v2 ∧ y.cell? ⟨b3, i3, none⟩ = some v3 ∧ y.cell? ⟨b4, i4, none⟩ = some v4 ∧ y.cell? ⟨b5, i5, none⟩ = some v5 ∧ Kp x G y := ⟨kp_cell h q1, kp_cell h q2, kp_cell h q3, kp_cell h q4, kp_cell h q5, h⟩
theorem kp6 {b1 i1 : Nat} {v1 : Value} {b2 i2 : Nat} {v2 : Value} {b3 i3 : Nat} {v3 : Value} {b4 i4 : Nat} {v4 : Value} {b5 i5 : Nat} {v5 : Value} {b6 i6 : Nat} {v6 : Value} (h : Kp x G y) (q1 : Kc x G b1 i1 v1) (q2 : Kc x G b2 i2 v2) (q3 : Kc x G b3 i3 v3) (q4 : Kc x G b4 i4 v4) (q5 : Kc x G b5 i5 v5) (q6 : Kc x G b6 i6 v6) : y.cell? ⟨b1, i1, none⟩ = some v1 ∧ y.cell? ⟨b2, i2, none⟩ = some v2 ∧ y.cell? ⟨b3, i3, none⟩ = some v3 ∧ y.cell? ⟨b4, i4, none⟩ = some v4 ∧ y.cell? ⟨b5, i5, none⟩ = some v5 ∧ y.cell? ⟨b6, i6, none⟩ = some v6 ∧ Kp x G y := ⟨kp_cell h q1, kp_cell h q2, kp_cell h q3, kp_cell h q4, kp_cell h q5, kp_cell h q6, h⟩
theorem kp7 {b1 i1 : Nat} {v1 : Value} {b2 i2 : Nat} {v2 : Value} {b3 i3 : Nat} {v3 : Value} {b4 i4 : Nat} {v4 : Value} {b5 i5 : Nat} {v5 : Value} {b6 i6 : Nat} {v6 : Value} {b7 i7 : Nat} {v7 : Value} (h : Kp x G y) (q1 : Kc x G b1 i1 v1) (q2 : Kc x G b2 i2 v2) (q3 : Kc x G b3 i3 v3) (q4 : Kc x G b4 i4 v4) (q5 : Kc x G b5 i5 v5) (q6 : Kc x G b6 i6 v6) (q7 : Kc x G b7 i7 v7) : y.cell? ⟨b1, i1, none⟩ = some v1 ∧ y.cell? ⟨b2, i2, none⟩ = some v2 ∧ y.cell? ⟨b3, i3, none⟩ = some v3 ∧ y.cell? ⟨b4, i4, none⟩ = some v4 ∧ y.cell? ⟨b5, i5, none⟩ = some v5 ∧ y.cell? ⟨b6, i6, none⟩ = some v6 ∧ y.cell? ⟨b7, i7, none⟩ = some v7 ∧ Kp x G y := ⟨kp_cell h q1, kp_cell h q2, kp_cell h q3, kp_cell h q4, kp_cell h q5, kp_cell h q6, kp_cell h q7, h⟩
theorem kp8 {b1 i1 : Nat} {v1 : Value} {b2 i2 : Nat} {v2 : Value} {b3 i3 : Nat} {v3 : Value} {b4 i4 : Nat} {v4 : Value} {b5 i5 : Nat} {v5 : Value} {b6 i6 : Nat} {v6 : Value} {b7 i7 : Nat} {v7 : Value} {b8 i8 : Nat} {v8 : Value} (h : Kp x G y) (q1 : Kc x G b1 i1 v1) (q2 : Kc x G b2 i2 v2) (q3 : Kc x G b3 i3 v3) (q4 : Kc x G b4 i4 v4) (q5 : Kc x G b5 i5 v5) (q6 : Kc x G b6 i6 v6) (q7 : Kc x G b7 i7 v7) (q8 : Kc x G b8 i8 v8) : y.cell? ⟨b1, i1, none⟩ = some v1 ∧ y.cell? ⟨b2, i2, none⟩ = some v2 ∧ y.cell? ⟨b3, i3, none⟩ = some v3 ∧ y.cell? ⟨b4, i4, none⟩ = some v4 ∧ y.cell? ⟨b5, i5, none⟩ = some v5 ∧ y.cell? ⟨b6, i6, none⟩ = some v6 ∧ y.cell? ⟨b7, i7, none⟩ = some v7 ∧ y.cell? ⟨b8, i8, none⟩ = some v8 ∧ Kp x G y := ⟨kp_cell h q1, kp_cell h q2, kp_cell h q3, kp_cell h q4, kp_cell h q5, kp_cell h q6, kp_cell h q7, kp_cell h q8, h⟩
theorem kp9 {b1 i1 : Nat} {v1 : Value} {b2 i2 : Nat} {v2 : Value} {b3 i3 : Nat} {v3 : Value} {b4 i4 : Nat} {v4 : Value} {b5 i5 : Nat} {v5 : Value} {b6 i6 : Nat} {v6 : Value} {b7 i7 : Nat} {v7 : Value} {b8 i8 : Nat} {v8 : Value} {b9 i9 : Nat} {v9 : Value} (h : Kp x G y) (q1 : Kc x G b1 i1 v1) (q2 : Kc x G b2 i2 v2) (q3 : Kc x G b3 i3 v3) (q4 : Kc x G b4 i4 v4) (q5 : Kc x G b5 i5 v5) (q6 : Kc x G b6 i6 v6) (q7 : Kc x G b7 i7 v7) (q8 : Kc x G b8 i8 v8) (q9 : Kc x G b9 i9 v9) : y.cell? ⟨b1, i1, none⟩ = some v1 ∧ y.cell? ⟨b2, i2, none⟩ = some v2 ∧ y.cell? ⟨b3, i3, none⟩ = some v3 ∧ y.cell? ⟨b4, i4, none⟩ = some v4 ∧ y.cell? ⟨b5, i5, none⟩ = some v5 ∧ y.cell? ⟨b6, i6, none⟩ = some v6 ∧ y.cell? ⟨b7, i7, none⟩ = some v7 ∧ y.cell? ⟨b8, i8, none⟩ = some v8 ∧ y.cell? ⟨b9, i9, none⟩ = some v9 ∧ Kp x G y := ⟨kp_cell h q1, kp_cell h q2, kp_cell h q3, kp_cell h q4, kp_cell h q5, kp_cell h q6, kp_cell h q7, kp_cell h q8, kp_cell h q9, h⟩
theorem kp10 {b1 i1 : Nat} {v1 : Value} {b2 i2 : Nat} {v2 : Value} {b3 i3 : Nat} {v3 : Value} {b4 i4 : Nat} {v4 : Value} {b5 i5 : Nat} {v5 : Value} {b6 i6 : Nat} {v6 : Value} {b7 i7 : Nat} {v7 : Value} {b8 i8 : Nat} {v8 : Value} {b9 i9 : Nat} {v9 : Value} {b10 i10 : Nat} {v10 : Value} (h : Kp x G y) (q1 : Kc x G b1 i1 v1) (q2 : Kc x G b2 i2 v2) (q3 : Kc x G b3 i3 v3) (q4 : Kc x G b4 i4 v4) (q5 : Kc x G b5 i5 v5) (q6 : Kc x G b6 i6 v6) (q7 : Kc x G b7 i7 v7) (q8 : Kc x G b8 i8 v8) (q9 : Kc x G b9 i9 v9) (q10 : Kc x G b10 i10 v10) : y.cell? ⟨b1, i1, none⟩ = some v1 ∧ y.cell? ⟨b2, i2, none⟩ = some v2 ∧ y.cell? ⟨b3, i3, none⟩ = some v3 ∧ y.cell? ⟨b4, i4, none⟩ = some v4 ∧ y.cell? ⟨b5, i5, none⟩ = some v5 ∧ y.cell? ⟨b6, i6, none⟩ = some v6 ∧ y.cell? ⟨b7, i7, none⟩ = some v7 ∧ y.cell? ⟨b8, i8, none⟩ = some v8 ∧ y.cell? ⟨b9, i9, none⟩ = some v9 ∧ y.cell? ⟨b10, i10, none⟩ = some v10 ∧ Kp x G y := ⟨kp_cell h q1, kp_cell h q2, kp_cell h q3, kp_cell h q4, kp_cell h q5, kp_cell h q6, kp_cell h q7, kp_cell h q8, kp_cell h q9, kp_cell h q10, h⟩
theorem kp11 {b1 i1 : Nat} {v1 : Value} {b2 i2 : Nat} {v2 : Value} {b3 i3 : Nat} {v3 : Value} {b4 i4 : Nat} {v4 : Value} {b5 i5 : Nat} {v5 : Value} {b6 i6 : Nat} {v6 : Value} {b7 i7 : Nat} {v7 : Value} {b8 i8 : Nat} {v8 : Value} {b9 i9 : Nat} {v9 : Value} {b10 i10 : Nat} {v10 : Value} {b11 i11 : Nat} {v11 : Value} (h : Kp x G y) (q1 : Kc x G b1 i1 v1) (q2 : Kc x G b2 i2 v2) (q3 : Kc x G b3 i3 v3) (q4 : Kc x G b4 i4 v4) (q5 : Kc x G b5 i5 v5) (q6 : Kc x G b6 i6 v6) (q7 : Kc x G b7 i7 v7) (q8 : Kc x G b8 i8 v8) (q9 : Kc x G b9 i9 v9) (q10 : Kc x G b10 i10 v10) (q11 : Kc x G b11 i11 v11) : y.cell? ⟨b1, i1, none⟩ = some v1 ∧ y.cell? ⟨b2, i2, none⟩ = some v2 ∧ y.cell? ⟨b3, i3, none⟩ = some v3 ∧ y.cell? ⟨b4, i4, none⟩ = some v4 ∧ y.cell? ⟨b5, i5, none⟩ = some v5 ∧ y.cell? ⟨b6, i6, none⟩ = some v6 ∧ y.cell? ⟨b7, i7, none⟩ = some v7 ∧ y.cell? ⟨b8, i8, none⟩ = some v8 ∧ y.cell? ⟨b9, i9, none⟩ = some v9 ∧ y.cell? ⟨b10, i10, none⟩ = some v10 ∧ y.cell? ⟨b11, i11, none⟩ = some v11 ∧ Kp x G y := ⟨kp_cell h q1, kp_cell h q2, kp_cell h q3, kp_cell h q4, kp_cell h q5, kp_cell h q6, kp_cell h q7, kp_cell h q8, kp_cell h q9, kp_cell h q10, kp_cell h q11, h⟩
theorem kp12 {b1 i1 : Nat} {v1 : Value} {b2 i2 : Nat} {v2 : Value} {b3 i3 : Nat} {v3 : Value} {b4 i4 : Nat} {v4 : Value} {b5 i5 : Nat} {v5 : Value} {b6 i6 : Nat} {v6 : Value} {b7 i7 : Nat} {v7 : Value} {b8 i8 : Nat} {v8 : Value} {b9 i9 : Nat} {v9 : Value} {b10 i10 : Nat} {v10 : Value} {b11 i11 : Nat} {v11 : Value} {b12 i12 : Nat} {v12 : Value} (h : Kp x G y) (q1 : Kc x G b1 i1 v1) (q2 : Kc x G b2 i2 v2) (q3 : Kc x G b3 i3 v3) (q4 : Kc x G b4 i4 v4) (q5 : Kc x G b5 i5 v5) (q6 : Kc x G b6 i6 v6) (q7 : Kc x G b7 i7 v7) (q8 : Kc x G b8 i8 v8) (q9 : Kc x G b9 i9 v9) (q10 : Kc x G b10 i10 v10) (q11 : Kc x G b11 i11 v11) (q12 : Kc x G b12 i12 v12) : y.cell? ⟨b1, i1, none⟩ = some v1 ∧ y.cell? ⟨b2, i2, none⟩ = some v2 ∧ y.cell? ⟨b3, i3, none⟩ = some v3 ∧ y.cell? ⟨b4, i4, none⟩ = some v4 ∧ y.cell? ⟨b5, i5, none⟩ = some v5 ∧ y.cell? ⟨b6, i6, none⟩ = some v6 ∧ y.cell? ⟨b7, i7, none⟩ = some v7 ∧ y.cell? ⟨b8, i8, none⟩ = some v8 ∧ y.cell? ⟨b9, i9, none⟩ = some v9 ∧ y.cell? ⟨b10, i10, none⟩ = some v10 ∧ y.cell? ⟨b11, i11, none⟩ = some v11 ∧ y.cell? ⟨b12, i12, none⟩ = some v12 ∧ Kp x G y := ⟨kp_cell h q1, kp_cell h q2, kp_cell h q3, kp_cell h q4, kp_cell h q5, kp_cell h q6, kp_cell h q7, kp_cell h q8, kp_cell h q9, kp_cell h q10, kp_cell h q11, kp_cell h q12, h⟩
theorem kp13 {b1 i1 : Nat} {v1 : Value} {b2 i2 : Nat} {v2 : Value} {b3 i3 : Nat} {v3 : Value} {b4 i4 : Nat} {v4 : Value} {b5 i5 : Nat} {v5 : Value} {b6 i6 : Nat} {v6 : Value} {b7 i7 : Nat} {v7 : Value} {b8 i8 : Nat} {v8 : Value} {b9 i9 : Nat} {v9 : Value} {b10 i10 : Nat} {v10 : Value} {b11 i11 : Nat} {v11 : Value} {b12 i12 : Nat} {v12 : Value} {b13 i13 : Nat} {v13 : Value} (h : Kp x G y) (q1 : Kc x G b1 i1 v1) (q2 : Kc x G b2 i2 v2) (q3 : Kc x G b3 i3 v3) (q4 : Kc x G b4 i4 v4) (q5 : Kc x G b5 i5 v5) (q6 : Kc x G b6 i6 v6) (q7 : Kc x G b7 i7 v7) (q8 : Kc x G b8 i8 v8) (q9 : Kc x G b9 i9 v9) (q10 : Kc x G b10 i10 v10) (q11 : Kc x G b11 i11 v11) (q12 : Kc x G b12 i12 v12) (q13 : Kc x G b13 i13 v13) : y.cell? ⟨b1, i1, none⟩ = some v1 ∧ y.cell? ⟨b2, i2, none⟩ = some v2 ∧ y.cell? ⟨b3, i3, none⟩ = some v3 ∧ y.cell? ⟨b4, i4, none⟩ = some v4 ∧ y.cell? ⟨b5, i5, none⟩ = some v5 ∧ y.cell? ⟨b6, i6, none⟩ = some v6 ∧ y.cell? ⟨b7, i7, none⟩ = some v7 ∧ y.cell? ⟨b8, i8, none⟩ = some v8 ∧ y.cell? ⟨b9, i9, none⟩ = some v9 ∧ y.cell? ⟨b10, i10, none⟩ = some v10 ∧ y.cell? ⟨b11, i11, none⟩ = some v11 ∧ y.cell? ⟨b12, i12, none⟩ = some v12 ∧ y.cell? ⟨b13, i13, none⟩ = some v13 ∧ Kp x G y := ⟨kp_cell h q1, kp_cell h q2, kp_cell h q3, kp_cell h q4, kp_cell h q5, kp_cell h q6, kp_cell h q7, kp_cell h q8, kp_cell h q9, kp_cell h q10, kp_cell h q11, kp_cell h q12, kp_cell h q13, h⟩
theorem kp14 {b1 i1 : Nat} {v1 : Value} {b2 i2 : Nat} {v2 : Value} {b3 i3 : Nat} {v3 : Value} {b4 i4 : Nat} {v4 : Value} {b5 i5 : Nat} {v5 : Value} {b6 i6 : Nat} {v6 : Value} {b7 i7 : Nat} {v7 : Value} {b8 i8 : Nat} {v8 : Value} {b9 i9 : Nat} {v9 : Value} {b10 i10 : Nat} {v10 : Value} {b11 i11 : Nat} {v11 : Value} {b12 i12 : Nat} {v12 : Value} {b13 i13 : Nat} {v13 : Value} {b14 i14 : Nat} {v14 : Value} (h : Kp x G y) (q1 : Kc x G b1 i1 v1) (q2 : Kc x G b2 i2 v2) (q3 : Kc x G b3 i3 v3) (q4 : Kc x G b4 i4 v4) (q5 : Kc x G b5 i5 v5) (q6 : Kc x G b6 i6 v6) (q7 : Kc x G b7 i7 v7) (q8 : Kc x G b8 i8 v8) (q9 : Kc x G b9 i9 v9) (q10 : Kc x G b10 i10 v10) (q11 : Kc x G b11 i11 v11) (q12 : Kc x G b12 i12 v12) (q13 : Kc x G b13 i13 v13) (q14 : Kc x G b14 i14 v14) : y.cell? ⟨b1, i1, none⟩ = some v1 ∧ y.cell? ⟨b2, i2, none⟩ = some v2 ∧ y.cell? ⟨b3, i3, none⟩ = some v3 ∧ y.cell? ⟨b4, i4, none⟩ = some v4 ∧ y.cell? ⟨b5, i5, none⟩ = some v5 ∧ y.cell? ⟨b6, i6, none⟩ = some v6 ∧ y.cell? ⟨b7, i7, none⟩ = some v7 ∧ y.cell? ⟨b8, i8, none⟩ = some v8 ∧ y.cell? ⟨b9, i9, none⟩ = some v9 ∧ y.cell? ⟨b10, i10, none⟩ = some v10 ∧ y.cell? ⟨b11, i11, none⟩ = some v11 ∧ y.cell? ⟨b12, i12, none⟩ = some v12 ∧ y.cell? ⟨b13, i13, none⟩ = some v13 ∧ y.cell? ⟨b14, i14, none⟩ = some v14 ∧ Kp x G y := ⟨kp_cell h q1, kp_cell h q2, kp_cell h q3, kp_cell h q4, kp_cell h q5, kp_cell h q6, kp_cell h q7, kp_cell h q8, kp_cell h q9, kp_cell h q10, kp_cell h q11, kp_cell h q12, kp_cell h q13, kp_cell h q14, h⟩
theorem kp15 {b1 i1 : Nat} {v1 : Value} {b2 i2 : Nat} {v2 : Value} {b3 i3 : Nat} {v3 : Value} {b4 i4 : Nat} {v4 : Value} {b5 i5 : Nat} {v5 : Value} {b6 i6 : Nat} {v6 : Value} {b7 i7 : Nat} {v7 : Value} {b8 i8 : Nat} {v8 : Value} {b9 i9 : Nat} {v9 : Value} {b10 i10 : Nat} {v10 : Value} {b11 i11 : Nat} {v11 : Value} {b12 i12 : Nat} {v12 : Value} {b13 i13 : Nat} {v13 : Value} {b14 i14 : Nat} {v14 : Value} {b15 i15 : Nat} {v15 : Value} (h : Kp x G y) (q1 : Kc x G b1 i1 v1) (q2 : Kc x G b2 i2 v2) (q3 : Kc x G b3 i3 v3) (q4 : Kc x G b4 i4 v4) (q5 : Kc x G b5 i5 v5) (q6 : Kc x G b6 i6 v6) (q7 : Kc x G b7 i7 v7) (q8 : Kc x G b8 i8 v8) (q9 : Kc x G b9 i9 v9) (q10 : Kc x G b10 i10 v10) (q11 : Kc x G b11 i11 v11) (q12 : Kc x G b12 i12 v12) (q13 : Kc x G b13 i13 v13) (q14 : Kc x G b14 i14 v14) (q15 : Kc x G b15 i15 v15) : y.cell? ⟨b1, i1, none⟩ = some v1 ∧ y.cell? ⟨b2, i2, none⟩ = some v2 ∧ y.cell? ⟨b3, i3, none⟩ = some v3 ∧ y.cell? ⟨b4, i4, none⟩ = some v4 ∧ y.cell? ⟨b5, i5, none⟩ = some v5 ∧ y.cell? ⟨b6, i6, none⟩ = some v6 ∧ y.cell? ⟨b7, i7, none⟩ = some v7 ∧ y.cell? ⟨b8, i8, none⟩ = some v8 ∧ y.cell? ⟨b9, i9, none⟩ = some v9 ∧ y.cell? ⟨b10, i10, none⟩ = some v10 ∧ y.cell? ⟨b11, i11, none⟩ = some v11 ∧ y.cell? ⟨b12, i12, none⟩ = some v12 ∧ y.cell? ⟨b13, i13, none⟩ = some v13 ∧ y.cell? ⟨b14, i14, none⟩ = some v14 ∧ y.cell? ⟨b15, i15, none⟩ = some v15 ∧ Kp x G y := ⟨kp_cell h q1, kp_cell h q2, kp_cell h q3, kp_cell h q4, kp_cell h q5, kp_cell h q6, kp_cell h q7, kp_cell h q8, kp_cell h q9, kp_cell h q10, kp_cell h q11, kp_cell h q12, kp_cell h q13, kp_cell h q14, kp_cell h q15, h⟩
theorem kp16 {b1 i1 : Nat} {v1 : Value} {b2 i2 : Nat} {v2 : Value} {b3 i3 : Nat} {v3 : Value} {b4 i4 : Nat} {v4 : Value} {b5 i5 : Nat} {v5 : Value} {b6 i6 : Nat} {v6 : Value} {b7 i7 : Nat} {v7 : Value} {b8 i8 : Nat} {v8 : Value} {b9 i9 : Nat} {v9 : Value} {b10 i10 : Nat} {v10 : Value} {b11 i11 : Nat} {v11 : Value} {b12 i12 : Nat} {v12 : Value} {b13 i13 : Nat} {v13 : Value} {b14 i14 : Nat} {v14 : Value} {b15 i15 : Nat} {v15 : Value} {b16 i16 : Nat} {v16 : Value} (h : Kp x G y) (q1 : Kc x G b1 i1 v1) (q2 : Kc x G b2 i2 v2) (q3 : Kc x G b3 i3 v3) (q4 : Kc x G b4 i4 v4) (q5 : Kc x G b5 i5 v5) (q6 : Kc x G b6 i6 v6) (q7 : Kc x G b7 i7 v7) (q8 : Kc x G b8 i8 v8) (q9 : Kc x G b9 i9 v9) (q10 : Kc x G b10 i10 v10) (q11 : Kc x G b11 i11 v11) (q12 : Kc x G b12 i12 v12) (q13 : Kc x G b13 i13 v13) (q14 : Kc x G b14 i14 v14) (q15 : Kc x G b15 i15 v15) (q16 : Kc x G b16 i16 v16) : y.cell? ⟨b1, i1, none⟩ = some v1 ∧ y.cell? ⟨b2, i2, none⟩ = some v2 ∧ y.cell? ⟨b3, i3, none⟩ = some v3 ∧ y.cell? ⟨b4, i4, none⟩ = some v4 ∧ y.cell? ⟨b5, i5, none⟩ = some v5 ∧ y.cell? ⟨b6, i6, none⟩ = some v6 ∧ y.cell? ⟨b7, i7, none⟩ = some v7 ∧ y.cell? ⟨b8, i8, none⟩ = some v8 ∧ y.cell? ⟨b9, i9, none⟩ = some v9 ∧ y.cell? ⟨b10, i10, none⟩ = some v10 ∧ y.cell? ⟨b11, i11, none⟩ = some v11 ∧ y.cell? ⟨b12, i12, none⟩ = some v12 ∧ y.cell? ⟨b13, i13, none⟩ = some v13 ∧ y.cell? ⟨b14, i14, none⟩ = some v14 ∧ y.cell? ⟨b15, i15, none⟩ = some v15 ∧ y.cell? ⟨b16, i16, none⟩ = some v16 ∧ Kp x G y := ⟨kp_cell h q1, kp_cell h q2, kp_cell h q3, kp_cell h q4, kp_cell h q5, kp_cell h q6, kp_cell h q7, kp_cell h q8, kp_cell h q9, kp_cell h q10, kp_cell h q11, kp_cell h q12, kp_cell h q13, kp_cell h q14, kp_cell h q15, kp_cell h q16, h⟩
theorem Kp.blk {b : Nat} {t : TypeId} {cs : List Value} (h : Kp x G y) (hB : Blk x b t cs) (hg : b ∉ G) : Blk y b t cs := (h.block b hB.lt hg).trans hB
theorem Kp.bs {lo hi : Nat} {A : Option Addr} {l : List Int} (h : Kp x G y) (hB : Bs x lo hi A l) (hh : hi ≤ x.heap.size) (hg : ∀ g ∈ G, g < lo ∨ hi ≤ g) : Bs y lo hi A l := hB.keep fun b o h1 h2 => World.cell?_of_block (h.block b (by omega) (fun hm => by have := hg b hm; omega))
theorem Kp.ow {lo c : Nat} {A : Option Addr} {l : List Int} (h : Kp x G y) (hO : Ow x lo A c l) (hg : ∀ g ∈ G, g < lo) : Ow y lo A c l := ⟨hO.1, own_kept hO.2 fun k hk => h.block k (hO.2.lt k hk).2 (fun hm => by have := hg k hm; have := (hO.2.lt k hk).1; omega)⟩
theorem Kp.range {b o : Nat} {cs : List Value} (h : Kp x G y) (hr : x.rangeAt b o cs) (hg : b ∉ G) : y.rangeAt b o cs := fun j v hv => kp_cell h ⟨hr j v hv, hg⟩
end
section
variable {x y : World} {G : List Nat} {b g : Nat} {t t' : TypeId} {c0 c1 c2 c3 c4 c5 v0 v1 v2 v3 v4 v5 : Value} {cs : List Value}
theorem set6_blk (h : Blk x b t [c0, c1, c2, c3, c4, c5]) : Blk ((((((x.setCell ⟨b, 0, none⟩ v0).setCell ⟨b, 1, none⟩ v1).setCell ⟨b, 2, none⟩ v2).setCell ⟨b, 3, none⟩ v3).setCell ⟨b, 4, none⟩ v4).setCell ⟨b, 5, none⟩ v5) b t [v0, v1, v2, v3, v4, v5] := (((((h.set 0 v0).set 1 v1).set 2 v2).set 3 v3).set 4 v4).set 5 v5
theorem set6_kp (h : Kp x G y) (hb : x.heap.size ≤ b) : Kp x G ((((((y.setCell ⟨b, 0, none⟩ v0).setCell ⟨b, 1, none⟩ v1).setCell ⟨b, 2, none⟩ v2).setCell ⟨b, 3, none⟩ v3).setCell ⟨b, 4, none⟩ v4).setCell ⟨b, 5, none⟩ v5) := (((((h.set (.inl hb)).set (.inl hb)).set (.inl hb)).set (.inl hb)).set (.inl hb)).set (.inl hb)
theorem set6_all (h : Blk y b t [c0, c1, c2, c3, c4, c5]) (hR : Blk y g t' cs) (hK : Kp x G y) (hb : x.heap.size ≤ b) (hne : g ≠ b) : ∃ W, (((((y.setCell ⟨b, 0, none⟩ v0).setCell ⟨b, 1, none⟩ v1).setCell ⟨b, 2, none⟩ v2).setCell ⟨b, 3, none⟩ v3).setCell ⟨b, 4, none⟩ v4).setCell ⟨b, 5, none⟩ v5 = W ∧ Blk W b t [v0, v1, v2, v3, v4, v5] ∧ Blk W g t' cs ∧ Kp x G W :=
  ⟨_, rfl, set6_blk h, ((((((hR.but (but_setCell _ b 0 v0) hne).but (but_setCell _ b 1 v1) hne).but (but_setCell _ b 2 v2) hne).but (but_setCell _ b 3 v3) hne).but (but_setCell _ b 4 v4) hne).but (but_setCell _ b 5 v5) hne), set6_kp hK hb⟩
theorem set6_but (x : World) (b : Nat) (v0 v1 v2 v3 v4 v5 : Value) : But b x ((((((x.setCell ⟨b, 0, none⟩ v0).setCell ⟨b, 1, none⟩ v1).setCell ⟨b, 2, none⟩ v2).setCell ⟨b, 3, none⟩ v3).setCell ⟨b, 4, none⟩ v4).setCell ⟨b, 5, none⟩ v5) := (((((but_setCell x b 0 v0).trans (but_setCell _ b 1 v1)).trans (but_setCell _ b 2 v2)).trans (but_setCell _ b 3 v3)).trans (but_setCell _ b 4 v4)).trans (but_setCell _ b 5 v5)
end
theorem set13_all {x y : World} {G : List Nat} {b g : Nat} {t t' : TypeId} {c0 c1 c2 c3 c4 c5 c6 c7 c8 c9 c10 c11 c12 v0 v1 v2 v3 v4 v5 v6 v7 v8 v9 v10 v11 v12 : Value} {cs : List Value} (h : Blk y b t [c0, c1, c2, c3, c4, c5, c6, c7, c8, c9, c10, c11, c12]) (hR : Blk y g t' cs) (hK : Kp x G y) (hb : x.heap.size ≤ b) (hne : g ≠ b) : ∃ W, (((((((((((((y.setCell ⟨b, 0, none⟩ v0).setCell ⟨b, 1, none⟩ v1).setCell ⟨b, 2, none⟩ v2).setCell ⟨b, 3, none⟩ v3).setCell ⟨b, 4, none⟩ v4).setCell ⟨b, 5, none⟩ v5).setCell ⟨b, 6, none⟩ v6).setCell ⟨b, 7, none⟩ v7).setCell ⟨b, 8, none⟩ v8).setCell ⟨b, 9, none⟩ v9).setCell ⟨b, 10, none⟩ v10).setCell ⟨b, 11, none⟩ v11).setCell ⟨b, 12, none⟩ v12) = W ∧ Blk W b t [v0, v1, v2, v3, v4, v5, v6, v7, v8, v9, v10, v11, v12] ∧ Blk W g t' cs ∧ Kp x G W :=
  ⟨_, rfl, (((((((((((((h.set 0 v0).set 1 v1).set 2 v2).set 3 v3).set 4 v4).set 5 v5).set 6 v6).set 7 v7).set 8 v8).set 9 v9).set 10 v10).set 11 v11).set 12 v12), (((((((((((((hR.but (but_setCell _ b 0 v0) hne).but (but_setCell _ b 1 v1) hne).but (but_setCell _ b 2 v2) hne).but (but_setCell _ b 3 v3) hne).but (but_setCell _ b 4 v4) hne).but (but_setCell _ b 5 v5) hne).but (but_setCell _ b 6 v6) hne).but (but_setCell _ b 7 v7) hne).but (but_setCell _ b 8 v8) hne).but (but_setCell _ b 9 v9) hne).but (but_setCell _ b 10 v10) hne).but (but_setCell _ b 11 v11) hne).but (but_setCell _ b 12 v12) hne), (((((((((((((hK.set (.inl hb)).set (.inl hb)).set (.inl hb)).set (.inl hb)).set (.inl hb)).set (.inl hb)).set (.inl hb)).set (.inl hb)).set (.inl hb)).set (.inl hb)).set (.inl hb)).set (.inl hb)).set (.inl hb))⟩
theorem alloc_all {x y : World} {G : List Nat} {g : Nat} {t t' : TypeId} {cs : List Value} {C : Array Value} {L : List Value} (hC : C = L.toArray) (hR : Blk y g t' cs) (hK : Kp x G y) : ∃ W, y.alloc (.cells C t) = W ∧ Blk W y.heap.size t L ∧ Blk W g t' cs ∧ Kp x G W :=
  ⟨_, rfl, Blk.new y t C L hC, hR.old, hK.alloc _⟩
theorem blk_firstD {w w' : World} {t : TypeId} {cs : List Value} (hb : Below (w.alloc (.cells cs.toArray t)).drew.heap.size (w.alloc (.cells cs.toArray t)).drew w') : Blk w' w.heap.size t cs := Blk.below (w := (w.alloc (.cells cs.toArray t)).drew) (Blk.new w t cs.toArray cs rfl) hb (by show w.heap.size < (w.alloc _).heap.size; simp)
theorem blk_firstBD {w w' : World} {g : Nat} {t : TypeId} {cs : List Value} (hb : But g (w.alloc (.cells cs.toArray t)).drew w') (hne : w.heap.size ≠ g) : Blk w' w.heap.size t cs := Blk.but (w := (w.alloc (.cells cs.toArray t)).drew) (Blk.new w t cs.toArray cs rfl) hb hne
end Go.Proofs.YtachhbbofemfdaaDoor
namespace Go.Proofs.YtachhbbofemfdaaDoor
open Go.RowKit
set_option linter.unusedSimpArgs false
set_option linter.unusedVariables false
set_option maxRecDepth 100000
theorem ext_take {l m : List Int} (k : Nat) (h : l.take k = m.take k) (hl : l.length ≤ k) (hm : m.length ≤ k) : l = m := by
  rw [List.take_of_length_le hl, List.take_of_length_le hm] at h; exact h
theorem take_eq_succ {l m : List Int} {k : Nat} (h : l.take k = m.take k) (hl : k < l.length) (hm : k < m.length) (he : atB l k = atB m k) : l.take (k + 1) = m.take (k + 1) := by
  rw [List.take_add_one, List.take_add_one, h]
  congr 2
  rw [List.getElem?_eq_getElem hl, List.getElem?_eq_getElem hm]
  unfold atB at he
  rw [List.getD_eq_getElem?_getD, List.getD_eq_getElem?_getD, List.getElem?_eq_getElem hl, List.getElem?_eq_getElem hm] at he
  simpa using he
theorem ne_of_at {l m : List Int} {k : Nat} (h : atB l k ≠ atB m k) : l ≠ m := fun e => h (by rw [e])
def eqB (l m : List Int) : Bool := decide (l = m)
theorem eqB_self (l : List Int) : eqB l l = true := by simp [eqB]
set_option maxHeartbeats 2000000 in
theorem clone_any (A : Option Addr) (n c lo hi : Nat) (l : List Int) (w : World) (hn : l.length = n) (h : Bs w lo hi A l) (hh : hi ≤ w.heap.size) (hm : n ≤ 140737488355328) (hA : A = none → n = 0 ∧ c = 0) :
    Calls Tryd.prog 60 #[.slice A n c] w fun e w' => ∃ A' c', e = .returned (.slice A' n c') ∧ Ow w' w.heap.size A' c' l ∧ w.heap.size ≤ w'.heap.size ∧ Below w.heap.size w w' := by
  subst hn
  rcases A with _ | a
  · obtain ⟨h0, rfl⟩ := hA rfl
    obtain rfl : l = [] := List.eq_nil_of_length_eq_zero h0
    have hnil := fun (W : World) => Go.Lib.run_eql_slice_nil (P := Tryd.prog) W 23 5 none 0 0 0 0 Tryd.underlying23
    go_enter Tryd.func60, Tryd.ntmps60
    go_wp2
    go_ret
    exact ⟨none, 0, rfl, ⟨Byt.nil, World.ownsRow_nil _ _ _ _⟩, Nat.le_refl _, Below.refl _ _⟩
  · have hO1 := Ow.lit w [] #[] rfl Byt.nil (by simp)
    have hB1 := h.alloc hh (.cells #[] 5)
    have hnil := fun (W : World) => Go.Lib.run_eql_slice_nil (P := Tryd.prog) W 23 5 (some a) l.length c 0 0 Tryd.underlying23
    go_enter Tryd.func60, Tryd.ntmps60
    go_wp2_with (at_builtin; refine wpList_append_bs rfl (.tmp 5) (.tmp 6) rfl 0 0 l.length c (by rfl) (by rfl) rfl rfl hO1 hB1 (by omega) (by simp) ?_; intro A1 c1 w1 hO hb1 _)
    have hb2 : Below w.heap.size w w1 := Below.trans ((Below.refl _ w).alloc (Nat.le_refl _) _) hb1
    go_ret
    exact ⟨A1, c1, by simp, by simpa using hO, hb2.size, hb2⟩
end Go.Proofs.YtachhbbofemfdaaDoor
namespace Go.Proofs.YtachhbbofemfdaaDoor
open Go.RowKit
set_option linter.unusedSimpArgs false
set_option linter.unusedVariables false
set_option maxRecDepth 100000
theorem ow_empty' {y : World} {lo g : Nat} (h : Blk y g 5 []) (hlo : lo ≤ g) : Ow y lo (some ⟨g, 0, none⟩) 0 [] :=
  ⟨Byt.nil, by simp, .inr ⟨g, 0, #[], rfl, hlo, h, Nat.zero_le _, by unfold maxLen; omega, by simp, by simp⟩⟩
abbrev exC (k : Int) (A : Option Addr) (n c : Nat) : List Value := [.int .i64 k, .slice A n c]
abbrev fxV (k : Int) (A : Option Addr) (n c : Nat) : Value := .agg #[.int .i64 k, .slice A n c]
theorem Xf.open' {w : World} {hi b o : Nat} {kd : Int} {dt : List Int} (h : Xf w hi b o kd dt) : ∃ A c, w.rangeAt b o [.int .i64 kd, .slice A dt.length c] ∧ Bs w 0 hi A dt ∧ dt.length ≤ c ∧ c ≤ 9223372036854775807 ∧ (A = none → dt.length = 0 ∧ c = 0) := by
  obtain ⟨A, c, c0, c1, hB, h3, h4, h5⟩ := h
  refine ⟨A, c, fun j v hv => ?_, hB, h3, h4, h5⟩
  match j with
  | 0 => simp at hv; rw [← hv]; exact c0
  | 1 => simp at hv; rw [← hv]; exact c1
  | j + 2 => simp at hv
open Go.RowKit
set_option maxHeartbeats 4000000 in
theorem chk_any (kd : Int) (A : Option Addr) (n c : Nat) (w : World) (hn : n ≤ 9223372036854775807) :
    Calls Tryd.prog 40 #[fxV kd A n c] w fun e w' => e = .returned (.int .i64 (chkE kd n)) ∧ Below w.heap.size w w' := by
  have n0 : (0 : Int) ≤ n := by omega
  by_cases h1 : kd < 0
  · have HE : Hid (chkE kd n = 3) := chk_range (by omega)
    have d1 : decide (kd < 0) = true := decide_eq_true h1
    clear h1
    go_enter Tryd.func40, Tryd.ntmps40
    go_wp2_with (first | ((refine wpl_box (by rfl) 62 _ (by rfl) _ (exC kd A n c) (by rfl) rfl ?_; intro w1 J1 s1 b1)) | (refine wpl_loadf (by rfl) 3 _ (by rfl) w.heap.size 0 (by rfl) _ _ J1 _ rfl _ Tryd.underlying3 rfl ?_) | (refine wpl_loadf (by rfl) 23 _ (by rfl) w.heap.size 1 (by rfl) _ _ J1 _ rfl _ Tryd.underlying23 rfl ?_))
    go_ret
    exact ⟨HE.out ▸ rfl, b1⟩
  · by_cases h2 : 65535 < kd
    · have HE : Hid (chkE kd n = 3) := chk_range (by omega)
      have d1 : decide (kd < 0) = false := decide_eq_false h1
      have d2 : decide (65535 < kd) = true := decide_eq_true h2
      clear h1 h2
      go_enter Tryd.func40, Tryd.ntmps40
      go_wp2_with (first | ((refine wpl_box (by rfl) 62 _ (by rfl) _ (exC kd A n c) (by rfl) rfl ?_; intro w1 J1 s1 b1)) | (refine wpl_loadf (by rfl) 3 _ (by rfl) w.heap.size 0 (by rfl) _ _ J1 _ rfl _ Tryd.underlying3 rfl ?_) | (refine wpl_loadf (by rfl) 23 _ (by rfl) w.heap.size 1 (by rfl) _ _ J1 _ rfl _ Tryd.underlying23 rfl ?_))
      go_ret
      exact ⟨HE.out ▸ rfl, b1⟩
    · have d1 : decide (kd < 0) = false := decide_eq_false h1
      have d2 : decide (65535 < kd) = false := decide_eq_false h2
      by_cases h3 : (n : Int) < 12
      · have HE : Hid (chkE kd n = 7) := chk_form (by omega) (by omega)
        have d3 : decide ((n : Int) < 12) = true := decide_eq_true h3
        clear h1 h2 h3
        go_enter Tryd.func40, Tryd.ntmps40
        go_wp2_with (first | ((refine wpl_box (by rfl) 62 _ (by rfl) _ (exC kd A n c) (by rfl) rfl ?_; intro w1 J1 s1 b1)) | (refine wpl_loadf (by rfl) 3 _ (by rfl) w.heap.size 0 (by rfl) _ _ J1 _ rfl _ Tryd.underlying3 rfl ?_) | (refine wpl_loadf (by rfl) 23 _ (by rfl) w.heap.size 1 (by rfl) _ _ J1 _ rfl _ Tryd.underlying23 rfl ?_))
        go_ret
        exact ⟨HE.out ▸ rfl, b1⟩
      · have d3 : decide ((n : Int) < 12) = false := decide_eq_false h3
        by_cases h4 : (256 : Int) < n
        · have HE : Hid (chkE kd n = 7) := chk_form (by omega) (by omega)
          have d4 : decide ((256 : Int) < n) = true := decide_eq_true h4
          clear h1 h2 h3 h4
          go_enter Tryd.func40, Tryd.ntmps40
          go_wp2_with (first | ((refine wpl_box (by rfl) 62 _ (by rfl) _ (exC kd A n c) (by rfl) rfl ?_; intro w1 J1 s1 b1)) | (refine wpl_loadf (by rfl) 3 _ (by rfl) w.heap.size 0 (by rfl) _ _ J1 _ rfl _ Tryd.underlying3 rfl ?_) | (refine wpl_loadf (by rfl) 23 _ (by rfl) w.heap.size 1 (by rfl) _ _ J1 _ rfl _ Tryd.underlying23 rfl ?_))
          go_ret
          exact ⟨HE.out ▸ rfl, b1⟩
        · have d4 : decide ((256 : Int) < n) = false := decide_eq_false h4
          by_cases h5 : (n : Int) % 4 = 0
          · have HE : Hid (chkE kd n = 0) := xchk_ok.2 (by omega)
            have d5 : ((n : Int) % 4 != 0) = false := by simpa using h5
            clear h1 h2 h3 h4 h5
            go_enter Tryd.func40, Tryd.ntmps40
            go_wp2_with (first | ((refine wpl_box (by rfl) 62 _ (by rfl) _ (exC kd A n c) (by rfl) rfl ?_; intro w1 J1 s1 b1)) | (refine wpl_loadf (by rfl) 3 _ (by rfl) w.heap.size 0 (by rfl) _ _ J1 _ rfl _ Tryd.underlying3 rfl ?_) | (refine wpl_loadf (by rfl) 23 _ (by rfl) w.heap.size 1 (by rfl) _ _ J1 _ rfl _ Tryd.underlying23 rfl ?_))
            go_ret
            exact ⟨HE.out ▸ rfl, b1⟩
          · have HE : Hid (chkE kd n = 7) := chk_form (by omega) (by omega)
            have d5 : ((n : Int) % 4 != 0) = true := by simpa using h5
            clear h1 h2 h3 h4 h5
            go_enter Tryd.func40, Tryd.ntmps40
            go_wp2_with (first | ((refine wpl_box (by rfl) 62 _ (by rfl) _ (exC kd A n c) (by rfl) rfl ?_; intro w1 J1 s1 b1)) | (refine wpl_loadf (by rfl) 3 _ (by rfl) w.heap.size 0 (by rfl) _ _ J1 _ rfl _ Tryd.underlying3 rfl ?_) | (refine wpl_loadf (by rfl) 23 _ (by rfl) w.heap.size 1 (by rfl) _ _ J1 _ rfl _ Tryd.underlying23 rfl ?_))
            go_ret
            exact ⟨HE.out ▸ rfl, b1⟩
open Go.RowKit
set_option maxHeartbeats 4000000 in
theorem rchk_any (kd : Int) (A : Option Addr) (n c : Nat) (w : World) (hn : n ≤ 9223372036854775807) :
    Calls Tryd.prog 43 #[fxV kd A n c] w fun e w' => e = .returned (.int .i64 (chkE kd n)) ∧ Below w.heap.size w w' := by
  have n0 : (0 : Int) ≤ n := by omega
  by_cases h1 : kd < 0
  · have HE : Hid (chkE kd n = 3) := chk_range (by omega)
    have d1 : decide (kd < 0) = true := decide_eq_true h1
    clear h1
    go_enter Tryd.func43, Tryd.ntmps43
    go_wp2_with (first | ((refine wpl_box (by rfl) 62 _ (by rfl) _ (exC kd A n c) (by rfl) rfl ?_; intro w1 J1 s1 b1)) | (refine wpl_loadf (by rfl) 3 _ (by rfl) w.heap.size 0 (by rfl) _ _ J1 _ rfl _ Tryd.underlying3 rfl ?_) | (refine wpl_loadf (by rfl) 23 _ (by rfl) w.heap.size 1 (by rfl) _ _ J1 _ rfl _ Tryd.underlying23 rfl ?_))
    go_ret
    exact ⟨HE.out ▸ rfl, b1⟩
  · by_cases h2 : 65535 < kd
    · have HE : Hid (chkE kd n = 3) := chk_range (by omega)
      have d1 : decide (kd < 0) = false := decide_eq_false h1
      have d2 : decide (65535 < kd) = true := decide_eq_true h2
      clear h1 h2
      go_enter Tryd.func43, Tryd.ntmps43
      go_wp2_with (first | ((refine wpl_box (by rfl) 62 _ (by rfl) _ (exC kd A n c) (by rfl) rfl ?_; intro w1 J1 s1 b1)) | (refine wpl_loadf (by rfl) 3 _ (by rfl) w.heap.size 0 (by rfl) _ _ J1 _ rfl _ Tryd.underlying3 rfl ?_) | (refine wpl_loadf (by rfl) 23 _ (by rfl) w.heap.size 1 (by rfl) _ _ J1 _ rfl _ Tryd.underlying23 rfl ?_))
      go_ret
      exact ⟨HE.out ▸ rfl, b1⟩
    · have d1 : decide (kd < 0) = false := decide_eq_false h1
      have d2 : decide (65535 < kd) = false := decide_eq_false h2
      by_cases h3 : (n : Int) < 12
      · have HE : Hid (chkE kd n = 7) := chk_form (by omega) (by omega)
        have d3 : decide ((n : Int) < 12) = true := decide_eq_true h3
        clear h1 h2 h3
        go_enter Tryd.func43, Tryd.ntmps43
        go_wp2_with (first | ((refine wpl_box (by rfl) 62 _ (by rfl) _ (exC kd A n c) (by rfl) rfl ?_; intro w1 J1 s1 b1)) | (refine wpl_loadf (by rfl) 3 _ (by rfl) w.heap.size 0 (by rfl) _ _ J1 _ rfl _ Tryd.underlying3 rfl ?_) | (refine wpl_loadf (by rfl) 23 _ (by rfl) w.heap.size 1 (by rfl) _ _ J1 _ rfl _ Tryd.underlying23 rfl ?_))
        go_ret
        exact ⟨HE.out ▸ rfl, b1⟩
      · have d3 : decide ((n : Int) < 12) = false := decide_eq_false h3
        by_cases h4 : (256 : Int) < n
        · have HE : Hid (chkE kd n = 7) := chk_form (by omega) (by omega)
          have d4 : decide ((256 : Int) < n) = true := decide_eq_true h4
          clear h1 h2 h3 h4
          go_enter Tryd.func43, Tryd.ntmps43
          go_wp2_with (first | ((refine wpl_box (by rfl) 62 _ (by rfl) _ (exC kd A n c) (by rfl) rfl ?_; intro w1 J1 s1 b1)) | (refine wpl_loadf (by rfl) 3 _ (by rfl) w.heap.size 0 (by rfl) _ _ J1 _ rfl _ Tryd.underlying3 rfl ?_) | (refine wpl_loadf (by rfl) 23 _ (by rfl) w.heap.size 1 (by rfl) _ _ J1 _ rfl _ Tryd.underlying23 rfl ?_))
          go_ret
          exact ⟨HE.out ▸ rfl, b1⟩
        · have d4 : decide ((256 : Int) < n) = false := decide_eq_false h4
          by_cases h5 : (n : Int) % 4 = 0
          · have HE : Hid (chkE kd n = 0) := xchk_ok.2 (by omega)
            have d5 : ((n : Int) % 4 != 0) = false := by simpa using h5
            clear h1 h2 h3 h4 h5
            go_enter Tryd.func43, Tryd.ntmps43
            go_wp2_with (first | ((refine wpl_box (by rfl) 62 _ (by rfl) _ (exC kd A n c) (by rfl) rfl ?_; intro w1 J1 s1 b1)) | (refine wpl_loadf (by rfl) 3 _ (by rfl) w.heap.size 0 (by rfl) _ _ J1 _ rfl _ Tryd.underlying3 rfl ?_) | (refine wpl_loadf (by rfl) 23 _ (by rfl) w.heap.size 1 (by rfl) _ _ J1 _ rfl _ Tryd.underlying23 rfl ?_))
            go_ret
            exact ⟨HE.out ▸ rfl, b1⟩
          · have HE : Hid (chkE kd n = 7) := chk_form (by omega) (by omega)
            have d5 : ((n : Int) % 4 != 0) = true := by simpa using h5
            clear h1 h2 h3 h4 h5
            go_enter Tryd.func43, Tryd.ntmps43
            go_wp2_with (first | ((refine wpl_box (by rfl) 62 _ (by rfl) _ (exC kd A n c) (by rfl) rfl ?_; intro w1 J1 s1 b1)) | (refine wpl_loadf (by rfl) 3 _ (by rfl) w.heap.size 0 (by rfl) _ _ J1 _ rfl _ Tryd.underlying3 rfl ?_) | (refine wpl_loadf (by rfl) 23 _ (by rfl) w.heap.size 1 (by rfl) _ _ J1 _ rfl _ Tryd.underlying23 rfl ?_))
            go_ret
            exact ⟨HE.out ▸ rfl, b1⟩
open Go.RowKit
theorem append_2 (A : Option Addr) (nl c lo hi : Nat) (l : List Int) (n : Int) (w : World) (hnl : l.length = nl) (h : Bs w lo hi A l) (hh : hi ≤ w.heap.size) (hm : nl ≤ 140737488351232) (h0 : 0 ≤ n) (hf : n < 65536) :
    Calls Tryd.prog 45 #[.slice A nl c, .int .u64 n, .int .i64 2] w fun e w' => ∃ A' c', e = .returned (.tuple #[.slice A' (nl + 2) c', .int .i64 0]) ∧ Ow w' w.heap.size A' c' (l ++ bytesB 2 n) ∧ w.heap.size ≤ w'.heap.size ∧ Below w.heap.size w w' :=
  (append_ok A nl c lo hi l n 2 w hnl h hh hm (by omega) (by omega) (by omega) (by simpa using hf)).mono fun e w' ⟨h1, h2, h3, h4⟩ => ⟨_, _, h1, h2, by omega, h4⟩
theorem rappend_2 (A : Option Addr) (nl c lo hi : Nat) (l : List Int) (n : Int) (w : World) (hnl : l.length = nl) (h : Bs w lo hi A l) (hh : hi ≤ w.heap.size) (hm : nl ≤ 140737488351232) (h0 : 0 ≤ n) (hf : n < 65536) :
    Calls Tryd.prog 50 #[.slice A nl c, .int .u64 n, .int .i64 2] w fun e w' => ∃ A' c', e = .returned (.tuple #[.slice A' (nl + 2) c', .int .i64 0]) ∧ Ow w' w.heap.size A' c' (l ++ bytesB 2 n) ∧ w.heap.size ≤ w'.heap.size ∧ Below w.heap.size w w' :=
  rappend_ok A nl c lo hi l n 2 w hnl h hh hm (by omega) (by omega) (by omega) (by simpa using hf)
/-- what has been written so far -/
def OutR (w0 wr : World) (lk : List Int) (v : Value) : Prop := ∃ A' c' N, v = .slice A' N c' ∧ lk.length = N ∧ Ow wr w0.heap.size A' c' lk
theorem apx_parts {L : Flds} (h : apxE L = 0) : L.length ≤ 16 ∧ ∀ k, k < L.length → chkE (kdL L k) (dtL L k).length = 0 := by
  unfold apxE at h
  split at h
  · omega
  · exact ⟨by omega, fun k hk => firE_all h _ (kd_mem hk)⟩
theorem apx_err {L : Flds} (h : apxE L ≠ 0) (hl : L.length ≤ 16) : apxE L = firE L ∧ ∃ k, k < L.length ∧ chkE (kdL L k) (dtL L k).length ≠ 0 := by
  have e : apxE L = firE L := by unfold apxE; rw [if_neg (by omega)]
  refine ⟨e, ?_⟩
  apply Classical.byContradiction
  intro hn
  refine h (e.trans (firE_ok L fun j hj => ?_))
  apply Classical.byContradiction
  intro h2
  exact hn ⟨j, hj, h2⟩
theorem sum_le {L : Flds} (h : ∀ k, k < L.length → chkE (kdL L k) (dtL L k).length = 0) (hl : L.length ≤ 16) (j : Nat) : (fldsB (L.take j)).length ≤ 4160 := by
  have h1 : ∀ t ∈ L.take j, t.2.length ≤ 256 := fun t ht => by
    have ht := List.mem_of_mem_take ht
    obtain ⟨i, hi, rfl⟩ := List.mem_iff_getElem.1 ht
    have h2 := h i hi
    unfold kdL dtL at h2
    rw [List.getD_eq_getElem?_getD, List.getElem?_eq_getElem hi] at h2
    have := xchk_ok.1 h2
    simp only [Option.getD_some] at this
    omega
  have h2 := fldsB_le h1
  have h3 : (L.take j).length ≤ 16 := by rw [List.length_take]; omega
  have h4 : (L.take j).length * (4 + 256) ≤ 16 * 260 := Nat.mul_le_mul_right 260 h3
  omega
set_option maxHeartbeats 8000000 in
theorem xappend_ok (A : Option Addr) (n c lo hi : Nat) (l : List Int) (B : Option Addr) (m d : Nat) (L : Flds) (w : World) (hn : l.length = n) (h : Bs w lo hi A l) (hh : hi ≤ w.heap.size) (hA : A = none → n = 0 ∧ c = 0) (hn2 : n ≤ 1000000) (hm : L.length = m) (hX : Xs w w.heap.size B L) (hmd : m ≤ d) (hd : d ≤ 9223372036854775807) (he : apxE L = 0) :
    Calls Tryd.prog 72 #[.slice A n c, .slice B m d] w fun e w' => ∃ A' c' N, e = .returned (.tuple #[.slice A' N c', .int .i64 0]) ∧ (l ++ fldsB L).length = N ∧ Ow w' w.heap.size A' c' (l ++ fldsB L) ∧ Below w.heap.size w w' := by
  obtain ⟨h16, hall⟩ := apx_parts he
  have hsum := fun j => sum_le hall h16 j
  rw [hm] at h16 hall
  have Hall := Lib.hid hall
  have Hsum := Lib.hid hsum
  clear he hall hsum
  have h16' : (m : Int) ≤ 16 := by omega
  go_enter Tryd.func72, Tryd.ntmps72
  go_wp2
  go_loopw [17] (fun i wr => ∃ k : Nat, k ≤ m ∧ i = .int .i64 k ∧ Below w.heap.size w wr) (fun i _ => m - (intOf i).toNat)
  case atStart => exact ⟨0, by omega, rfl, Below.refl _ _⟩
  case round =>
    obtain ⟨k, hk, rfl, hB⟩ := hrel
    by_cases hlt : k < m
    · skip
      obtain ⟨b, o, rfl, hbw, hx⟩ := (hX.below hB (Nat.le_refl _)) (by omega)
      obtain ⟨Ak, ck, hrg, hBk, hlc, hcm, hno⟩ := (hx k (by omega)).open'
      have hi0 : (0 : Int) ≤ k := by omega
      have hi1 : (k : Int) < m := by omega
      obtain ⟨K, hK⟩ : ∃ K, K = kdL L k := ⟨_, rfl⟩
      obtain ⟨D, hD⟩ : ∃ D, D = (dtL L k).length := ⟨_, rfl⟩
      rw [← hK, ← hD] at hrg
      rw [← hD] at hlc hno
      have HK := Lib.hid hK
      have HD := Lib.hid hD
      clear hx hK hD
      have hc0 : (chkE K D != 0) = false := by
        have := Hall.out k hlt
        rw [HK.out, HD.out]; simpa using this
      clear Hall Hsum
      go_wp2_with (first
        | (refine wpl_loadr (by rfl) 62 _ (by rfl) b (o + k * 2) (by rfl) _ hrg _ Tryd.underlying62 rfl _ sizeExt (by rfl) ?_)
        | (refine wpl_alloc (by rfl) 62 (by rfl) (.agg (exC 0 none 0 0).toArray) (exC 0 none 0 0) zeroExt rfl ?_; intro wa Ja sa ba)
        | (refine wpl_store (by rfl) 62 _ _ (by rfl) wr.heap.size (by rfl) _ (by rfl) (exC K Ak D ck) rfl 62 _ Ja (by rfl) _ sizeExt (by rfl) (by simp [Value.oneCell']) ?_; intro wb Jb sb gb)
        | (refine wpl_load (by rfl) 62 _ (by rfl) wr.heap.size (by rfl) 62 _ Jb _ Tryd.underlying62 rfl _ sizeExt (by rfl) ?_) | (go_at_call 40; ((with_reducible refine (chk_any _ _ _ _ _ (by omega)).mono ?_); rintro e wc ⟨rfl, bc⟩)))
      exact ⟨⟨k + 1, by omega, by go_num, ((hB.trans (ba.mono hB.size)).trans (gb.below (by have := hB.size; omega) hB.size)).trans (bc.mono (by have := hB.size; omega))⟩, by simp [intOf]; omega⟩
    · obtain rfl : m = k := by omega
      have hE := clone_any A n c lo hi l wr hn (h.below (hB.mono (by omega)) (Nat.le_refl _)) (by have := hB.size; omega) (by omega) hA
      go_wp2_with fail
      with_reducible refine hE.mono ?_
      rintro e w1 ⟨A1, c1, rfl, O1, z1, b1⟩
      have B1 := hB.trans (b1.mono hB.size)
      have O1' := O1.wide hB.size
      clear hE O1 b1
      go_wp2
      go_loopw [9, 31] (fun v i wr => ∃ k : Nat, k ≤ m ∧ i = .int .i64 k ∧ OutR w wr (l ++ fldsB (L.take k)) v ∧ Below w.heap.size w wr) (fun _ i _ => m - (intOf i).toNat)
      case atStart => exact ⟨0, by omega, rfl, ⟨A1, c1, n, rfl, by simpa [fldsB] using hn, by simpa [fldsB] using O1'⟩, B1⟩
      case round =>
        rename_i wq
        obtain ⟨k, hk, rfl, ⟨A3, c3, N, rfl, hN, O3⟩, hB⟩ := hrel
        clear B1 O1' z1
        by_cases hlt : k < m
        · have hnext := fldsB_take (L := L) (k := k) (by omega)
          have hsz := Hsum.out (k + 1)
          have hsz0 := Hsum.out k
          have hck := Hall.out k hlt
          have hN2 : N ≤ 1004160 := by rw [← hN, List.length_append]; omega
          generalize hlk : l ++ fldsB (L.take k) = lk at hN O3
          have hnx : l ++ fldsB (L.take (k + 1)) = lk ++ bytesB 2 (kdL L k) ++ bytesB 2 (4 + (dtL L k).length) ++ dtL L k := by rw [hnext, ← hlk]; simp
          obtain ⟨b, o, rfl, hbw, hx⟩ := (hX.below hB (Nat.le_refl _)) (by omega)
          obtain ⟨Ak, ck, hrg, hBk, hlc, hcm, hno⟩ := (hx k (by omega)).open'
          have hi0 : (0 : Int) ≤ k := by omega
          have hi1 : (k : Int) < m := by omega
          obtain ⟨K, hK⟩ : ∃ K, K = kdL L k := ⟨_, rfl⟩
          obtain ⟨D, hD⟩ : ∃ D, D = (dtL L k).length := ⟨_, rfl⟩
          rw [← hK, ← hD] at hrg
          rw [← hD] at hlc hno
          have HK := Lib.hid hK
          have HD := Lib.hid hD
          clear hx hK hD
          rw [← HK.out, ← HD.out] at hnx hck
          obtain ⟨⟨hK0, hK1⟩, hD12, hD256, _⟩ := xchk_ok.1 hck
          have HN := Lib.hid hnx
          clear hnx hnext hsz hsz0 hck hlk Hall Hsum
          go_wp2_with (first
            | (refine wpl_loadr (by rfl) 62 _ (by rfl) b (o + k * 2) (by rfl) _ hrg _ Tryd.underlying62 rfl _ sizeExt (by rfl) ?_)
            | (refine wpl_alloc (by rfl) 62 (by rfl) (.agg (exC 0 none 0 0).toArray) (exC 0 none 0 0) zeroExt rfl ?_; intro wa Ja sa ba)
            | (refine wpl_store (by rfl) 62 _ _ (by rfl) wr.heap.size (by rfl) _ (by rfl) (exC K Ak D ck) rfl 62 _ Ja (by rfl) _ sizeExt (by rfl) (by simp [Value.oneCell']) ?_; intro wb Jb sb gb)
            | (refine wpl_loadf (by rfl) 3 _ (by rfl) wr.heap.size 0 (by rfl) _ _ Jb _ rfl _ Tryd.underlying3 rfl ?_))
          have Ob := (O3.below ba (Nat.le_refl _)).grown gb (by intro g hg; have := (O3.blt g hg).2; simp; omega)
          have zb := hB.size
          have Db := (hBk.below ba zb).grown gb (by omega) (by intro g hg; simp at hg; omega)
          have Bb := (hB.trans (ba.mono zb)).trans (gb.below (by omega) zb)
          have hE := append_2 A3 N c3 _ _ lk K wb hN Ob.bs (Nat.le_refl _) (by omega) hK0 (by omega)
          clear Ja O3 ba gb hBk hrg hX hB
          with_reducible refine hE.mono ?_
          rintro e w2 ⟨A4, c4, rfl, O4, z4, b4⟩
          have J2 := Jb.below b4 Jb.lt
          have D2 := Db.below b4 (by omega)
          have B2 := Bb.trans (b4.mono Bb.size)
          have h4 : (lk ++ bytesB 2 K).length = N + 2 := by rw [List.length_append, bytesB_length, hN]
          clear hE Jb Db Ob Bb b4
          go_wp2_with (first | (refine wpl_loadf (by rfl) 23 _ (by rfl) wr.heap.size 1 (by rfl) _ _ J2 _ rfl _ Tryd.underlying23 rfl ?_))
          have hE := append_2 A4 (N + 2) c4 _ _ _ (4 + D) w2 h4 O4.bs (Nat.le_refl _) (by omega) (by omega) (by omega)
          with_reducible refine hE.mono ?_
          rintro e w3 ⟨A5, c5, rfl, O5, z5, b5⟩
          have J3 := J2.below b5 J2.lt
          have D3 := D2.below b5 (by omega)
          have B3 := B2.trans (b5.mono B2.size)
          have h5 : (lk ++ bytesB 2 K ++ bytesB 2 (4 + D)).length = N + 2 + 2 := by rw [List.length_append, bytesB_length, h4]
          clear hE J2 D2 O4 B2 b5
          go_wp2_with (first | (refine wpl_loadf (by rfl) 23 _ (by rfl) wr.heap.size 1 (by rfl) _ _ J3 _ rfl _ Tryd.underlying23 rfl ?_) | (at_builtin; refine wpList_append_bs rfl (.tmp 53) (.tmp 55) rfl (N + 2 + 2) c5 D ck (by rfl) (by rfl) h5 HD.out.symm O5 D3 (by omega) (by omega) ?_; intro A6 c6 w6 O6 b6 _))
          exact ⟨⟨k + 1, by omega, by go_num, ⟨A6, c6, _, rfl, by rw [HN.out, List.length_append, h5, HD.out], by rw [HN.out]; exact O6.wide (by omega)⟩, B3.trans (b6.mono (by omega))⟩, by simp [intOf]; omega⟩
        · obtain rfl : m = k := by omega
          rw [List.take_of_length_le (by omega)] at hN O3
          go_wp2
          go_ret2
          exact ⟨_, _, _, rfl, hN, O3, hB⟩
set_option maxHeartbeats 8000000 in
theorem xappend_err (A : Option Addr) (n c : Nat) (B : Option Addr) (m d : Nat) (L : Flds) (w : World) (hm : L.length = m) (hX : Xs w w.heap.size B L) (hmd : m ≤ d) (hd : d ≤ 9223372036854775807) (he : apxE L ≠ 0) :
    Calls Tryd.prog 72 #[.slice A n c, .slice B m d] w fun e w' => e = .returned (.tuple #[.slice none 0 0, .int .i64 (apxE L)]) ∧ Below w.heap.size w w' := by
  by_cases h16 : 16 < m
  · have hE : Hid (apxE L = 6) := by show apxE L = 6; unfold apxE; rw [if_pos (by omega)]
    have h16' : decide (16 < (m : Int)) = true := decide_eq_true (by omega)
    clear he
    go_enter Tryd.func72, Tryd.ntmps72
    go_wp2
    go_ret2
    exact ⟨by rw [hE.out]; rfl, Below.refl _ _⟩
  · obtain ⟨hfe, k0, hk0, hk1⟩ := apx_err he (by omega)
    have HF := Lib.hid hfe
    have HK1 := Lib.hid hk1
    clear he hfe hk1
    rw [hm] at hk0
    have h16' : (m : Int) ≤ 16 := by omega
    go_enter Tryd.func72, Tryd.ntmps72
    go_wp2
    go_loopw [17] (fun i wr => ∃ k : Nat, k ≤ m ∧ i = .int .i64 k ∧ Hid (∀ j, j < k → chkE (kdL L j) (dtL L j).length = 0) ∧ Below w.heap.size w wr) (fun i _ => m - (intOf i).toNat)
    case atStart => exact ⟨0, by omega, rfl, fun j hj => absurd hj (by omega), Below.refl _ _⟩
    case round =>
      obtain ⟨k, hk, rfl, hV, hB⟩ := hrel
      by_cases hlt : k < m
      · skip
        obtain ⟨b, o, rfl, hbw, hx⟩ := (hX.below hB (Nat.le_refl _)) (by omega)
        obtain ⟨Ak, ck, hrg, hBk, hlc, hcm, hno⟩ := (hx k (by omega)).open'
        have hi0 : (0 : Int) ≤ k := by omega
        have hi1 : (k : Int) < m := by omega
        obtain ⟨K, hK⟩ : ∃ K, K = kdL L k := ⟨_, rfl⟩
        obtain ⟨D, hD⟩ : ∃ D, D = (dtL L k).length := ⟨_, rfl⟩
        rw [← hK, ← hD] at hrg
        rw [← hD] at hlc hno
        have HK := Lib.hid hK
        have HD := Lib.hid hD
        clear hx hK hD
        obtain ⟨E, hEE⟩ : ∃ E, E = chkE K D := ⟨_, rfl⟩
        have hck := fun W => chk_any K Ak D ck W (by omega)
        simp only [← hEE] at hck
        by_cases hE0 : E = 0
        · have hc0 : (E != 0) = false := by simpa using hE0
          have hV' : Hid (∀ j, j < k + 1 → chkE (kdL L j) (dtL L j).length = 0) := fun j hj => by
            rcases Nat.lt_or_ge j k with h1 | h1
            · exact hV.out j h1
            · obtain rfl : j = k := by omega
              rw [← HK.out, ← HD.out, ← hEE, hE0]
          clear hEE hE0
          go_wp2_with (first
            | (refine wpl_loadr (by rfl) 62 _ (by rfl) b (o + k * 2) (by rfl) _ hrg _ Tryd.underlying62 rfl _ sizeExt (by rfl) ?_)
            | (refine wpl_alloc (by rfl) 62 (by rfl) (.agg (exC 0 none 0 0).toArray) (exC 0 none 0 0) zeroExt rfl ?_; intro wa Ja sa ba)
            | (refine wpl_store (by rfl) 62 _ _ (by rfl) wr.heap.size (by rfl) _ (by rfl) (exC K Ak D ck) rfl 62 _ Ja (by rfl) _ sizeExt (by rfl) (by simp [Value.oneCell']) ?_; intro wb Jb sb gb)
            | (refine wpl_load (by rfl) 62 _ (by rfl) wr.heap.size (by rfl) 62 _ Jb _ Tryd.underlying62 rfl _ sizeExt (by rfl) ?_) | (go_at_call 40; ((with_reducible refine (hck _).mono ?_); rintro e wc ⟨rfl, bc⟩)))
          exact ⟨⟨k + 1, by omega, by go_num, hV', ((hB.trans (ba.mono hB.size)).trans (gb.below (by have := hB.size; omega) hB.size)).trans (bc.mono (by have := hB.size; omega))⟩, by simp [intOf]; omega⟩
        · have hc0 : (E != 0) = true := by simpa using hE0
          have HR : Hid (apxE L = E) := by
            have h1 := firE_at L k hV.out (by omega) (by rw [← HK.out, ← HD.out, ← hEE]; exact hE0)
            rw [← HK.out, ← HD.out, ← hEE] at h1
            exact HF.out.trans h1
          clear hEE hE0
          go_wp2_with (first
            | (refine wpl_loadr (by rfl) 62 _ (by rfl) b (o + k * 2) (by rfl) _ hrg _ Tryd.underlying62 rfl _ sizeExt (by rfl) ?_)
            | (refine wpl_alloc (by rfl) 62 (by rfl) (.agg (exC 0 none 0 0).toArray) (exC 0 none 0 0) zeroExt rfl ?_; intro wa Ja sa ba)
            | (refine wpl_store (by rfl) 62 _ _ (by rfl) wr.heap.size (by rfl) _ (by rfl) (exC K Ak D ck) rfl 62 _ Ja (by rfl) _ sizeExt (by rfl) (by simp [Value.oneCell']) ?_; intro wb Jb sb gb)
            | (refine wpl_load (by rfl) 62 _ (by rfl) wr.heap.size (by rfl) 62 _ Jb _ Tryd.underlying62 rfl _ sizeExt (by rfl) ?_) | (go_at_call 40; ((with_reducible refine (hck _).mono ?_); rintro e wc ⟨rfl, bc⟩)))
          go_ret2
          exact ⟨by rw [HR.out]; rfl, ((hB.trans (ba.mono hB.size)).trans (gb.below (by have := hB.size; omega) hB.size)).trans (bc.mono (by have := hB.size; omega))⟩
      · exact absurd (hV.out k0 (by omega)) HK1.out
set_option maxHeartbeats 8000000 in
theorem rxappend_ok (A : Option Addr) (n c lo hi : Nat) (l : List Int) (B : Option Addr) (m d : Nat) (L : Flds) (w : World) (hn : l.length = n) (h : Bs w lo hi A l) (hh : hi ≤ w.heap.size) (hn2 : n ≤ 1000000) (hm : L.length = m) (hX : Xs w w.heap.size B L) (hmd : m ≤ d) (hd : d ≤ 9223372036854775807) (he : apxE L = 0) :
    Calls Tryd.prog 76 #[.slice A n c, .slice B m d] w fun e w' => ∃ A' c' N, e = .returned (.tuple #[.slice A' N c', .int .i64 0]) ∧ (l ++ fldsB L).length = N ∧ Ow w' w.heap.size A' c' (l ++ fldsB L) ∧ Below w.heap.size w w' := by
  obtain ⟨h16, hall⟩ := apx_parts he
  have hsum := fun j => sum_le hall h16 j
  rw [hm] at h16 hall
  have Hall := Lib.hid hall
  have Hsum := Lib.hid hsum
  clear he hall hsum
  have h16' : (m : Int) ≤ 16 := by omega
  go_enter Tryd.func76, Tryd.ntmps76
  go_wp2
  go_loopw [6] (fun i wr => ∃ k : Nat, k ≤ m ∧ i = .int .i64 k ∧ Below w.heap.size w wr) (fun i _ => m - (intOf i).toNat)
  case atStart => exact ⟨0, by omega, rfl, Below.refl _ _⟩
  case round =>
    obtain ⟨k, hk, rfl, hB⟩ := hrel
    by_cases hlt : k < m
    · skip
      obtain ⟨b, o, rfl, hbw, hx⟩ := (hX.below hB (Nat.le_refl _)) (by omega)
      obtain ⟨Ak, ck, hrg, hBk, hlc, hcm, hno⟩ := (hx k (by omega)).open'
      have hi0 : (0 : Int) ≤ k := by omega
      have hi1 : (k : Int) < m := by omega
      obtain ⟨K, hK⟩ : ∃ K, K = kdL L k := ⟨_, rfl⟩
      obtain ⟨D, hD⟩ : ∃ D, D = (dtL L k).length := ⟨_, rfl⟩
      rw [← hK, ← hD] at hrg
      rw [← hD] at hlc hno
      have HK := Lib.hid hK
      have HD := Lib.hid hD
      clear hx hK hD
      have hc0 : (chkE K D != 0) = false := by
        have := Hall.out k hlt
        rw [HK.out, HD.out]; simpa using this
      clear Hall Hsum
      go_wp2_with (first
        | (refine wpl_loadr (by rfl) 62 _ (by rfl) b (o + k * 2) (by rfl) _ hrg _ Tryd.underlying62 rfl _ sizeExt (by rfl) ?_)
        | (go_at_call 43; ((with_reducible refine (rchk_any _ _ _ _ _ (by omega)).mono ?_); rintro e wc ⟨rfl, bc⟩)))
      exact ⟨⟨k + 1, by omega, by go_num, hB.trans (bc.mono hB.size)⟩, by simp [intOf]; omega⟩
    · obtain rfl : m = k := by omega
      have O0 := ow_empty' (lo := w.heap.size) (Blk.new wr 5 #[] [] rfl) hB.size
      have h0 := (h.below hB hh).alloc (by have := hB.size; omega) (.cells #[] 5)
      go_wp2_with (at_builtin; refine wpList_append_bs rfl (.tmp 27) (.tmp 28) rfl 0 0 n c (by rfl) (by rfl) rfl hn O0 h0 (by omega) (by have := hB.size; simp; omega) ?_; intro A1 c1 w1 O1 b1 _)
      have B1 : Below w.heap.size w w1 := (hB.alloc hB.size _).trans b1
      clear O0 h0 b1
      go_loopw [8, 9] (fun v i wr => ∃ k : Nat, k ≤ m ∧ i = .int .i64 k ∧ OutR w wr (l ++ fldsB (L.take k)) v ∧ Below w.heap.size w wr) (fun _ i _ => m - (intOf i).toNat)
      case atStart => exact ⟨0, by omega, rfl, ⟨A1, c1, n, rfl, by simpa [fldsB] using hn, by simpa [fldsB] using O1⟩, B1⟩
      case round =>
        rename_i wq
        obtain ⟨k, hk, rfl, ⟨A3, c3, N, rfl, hN, O3⟩, hB⟩ := hrel
        clear B1 O1
        by_cases hlt : k < m
        · have hnext := fldsB_take (L := L) (k := k) (by omega)
          have hsz := Hsum.out (k + 1)
          have hsz0 := Hsum.out k
          have hck := Hall.out k hlt
          have hN2 : N ≤ 1004160 := by rw [← hN, List.length_append]; omega
          generalize hlk : l ++ fldsB (L.take k) = lk at hN O3
          have hnx : l ++ fldsB (L.take (k + 1)) = lk ++ bytesB 2 (kdL L k) ++ bytesB 2 (4 + (dtL L k).length) ++ dtL L k := by rw [hnext, ← hlk]; simp
          obtain ⟨b, o, rfl, hbw, hx⟩ := (hX.below hB (Nat.le_refl _)) (by omega)
          obtain ⟨Ak, ck, hrg, hBk, hlc, hcm, hno⟩ := (hx k (by omega)).open'
          have hi0 : (0 : Int) ≤ k := by omega
          have hi1 : (k : Int) < m := by omega
          obtain ⟨K, hK⟩ : ∃ K, K = kdL L k := ⟨_, rfl⟩
          obtain ⟨D, hD⟩ : ∃ D, D = (dtL L k).length := ⟨_, rfl⟩
          rw [← hK, ← hD] at hrg
          rw [← hD] at hlc hno
          have HK := Lib.hid hK
          have HD := Lib.hid hD
          clear hx hK hD
          rw [← HK.out, ← HD.out] at hnx hck
          obtain ⟨⟨hK0, hK1⟩, hD12, hD256, _⟩ := xchk_ok.1 hck
          have HN := Lib.hid hnx
          have zb := hB.size
          clear hnx hnext hsz hsz0 hck hlk Hall Hsum hX
          have k0 : wr.cell? ⟨b, o + k * 2, none⟩ = some (.int .i64 K) := by simpa using range_cell hrg 0 rfl
          have k1 : wr.cell? ⟨b, o + k * 2 + 1, none⟩ = some (.slice Ak D ck) := range_cell hrg 1 rfl
          clear hrg
          have hE := rappend_2 A3 N c3 _ _ lk K wr hN O3.bs (Nat.le_refl _) (by omega) hK0 (by omega)
          go_wp2_with fail
          with_reducible refine hE.mono ?_
          rintro e w2 ⟨A4, c4, rfl, O4, z4, b4⟩
          have k2 := kept_cell b4 k1 (by show b < _; omega)
          have D2 := hBk.below b4 (by omega)
          have B2 := hB.trans (b4.mono hB.size)
          have h4 : (lk ++ bytesB 2 K).length = N + 2 := by rw [List.length_append, bytesB_length, hN]
          clear hE k0 k1 hBk hB b4 O3
          have hE := rappend_2 A4 (N + 2) c4 _ _ _ (4 + D) w2 h4 O4.bs (Nat.le_refl _) (by omega) (by omega) (by omega)
          go_wp2_with fail
          with_reducible refine hE.mono ?_
          rintro e w3 ⟨A5, c5, rfl, O5, z5, b5⟩
          have k3 := kept_cell b5 k2 (by show b < _; omega)
          have D3 := D2.below b5 (by omega)
          have B3 := B2.trans (b5.mono B2.size)
          have h5 : (lk ++ bytesB 2 K ++ bytesB 2 (4 + D)).length = N + 2 + 2 := by rw [List.length_append, bytesB_length, h4]
          clear hE k2 D2 O4 B2 b5
          go_wp2_with (at_builtin; refine wpList_append_bs rfl (.tmp 60) (.tmp 65) rfl (N + 2 + 2) c5 D ck (by rfl) (by rfl) h5 HD.out.symm O5 D3 (by omega) (by omega) ?_; intro A6 c6 w6 O6 b6 _)
          exact ⟨⟨k + 1, by omega, by go_num, ⟨A6, c6, _, rfl, by rw [HN.out, List.length_append, h5, HD.out], by rw [HN.out]; exact O6.wide (by omega)⟩, B3.trans (b6.mono (by omega))⟩, by simp [intOf]; omega⟩
        · obtain rfl : m = k := by omega
          rw [List.take_of_length_le (by omega)] at hN O3
          go_wp2
          go_ret2
          exact ⟨_, _, _, rfl, hN, O3, hB⟩
set_option maxHeartbeats 8000000 in
theorem rxappend_err (A : Option Addr) (n c : Nat) (B : Option Addr) (m d : Nat) (L : Flds) (w : World) (hm : L.length = m) (hX : Xs w w.heap.size B L) (hmd : m ≤ d) (hd : d ≤ 9223372036854775807) (he : apxE L ≠ 0) :
    Calls Tryd.prog 76 #[.slice A n c, .slice B m d] w fun e w' => e = .returned (.tuple #[.slice none 0 0, .int .i64 (apxE L)]) ∧ Below w.heap.size w w' := by
  by_cases h16 : 16 < m
  · have hE : Hid (apxE L = 6) := by show apxE L = 6; unfold apxE; rw [if_pos (by omega)]
    have h16' : decide (16 < (m : Int)) = true := decide_eq_true (by omega)
    clear he
    go_enter Tryd.func76, Tryd.ntmps76
    go_wp2
    go_ret2
    exact ⟨by rw [hE.out]; rfl, Below.refl _ _⟩
  · obtain ⟨hfe, k0, hk0, hk1⟩ := apx_err he (by omega)
    have HF := Lib.hid hfe
    have HK1 := Lib.hid hk1
    clear he hfe hk1
    rw [hm] at hk0
    have h16' : (m : Int) ≤ 16 := by omega
    go_enter Tryd.func76, Tryd.ntmps76
    go_wp2
    go_loopw [6] (fun i wr => ∃ k : Nat, k ≤ m ∧ i = .int .i64 k ∧ Hid (∀ j, j < k → chkE (kdL L j) (dtL L j).length = 0) ∧ Below w.heap.size w wr) (fun i _ => m - (intOf i).toNat)
    case atStart => exact ⟨0, by omega, rfl, fun j hj => absurd hj (by omega), Below.refl _ _⟩
    case round =>
      obtain ⟨k, hk, rfl, hV, hB⟩ := hrel
      by_cases hlt : k < m
      · skip
        obtain ⟨b, o, rfl, hbw, hx⟩ := (hX.below hB (Nat.le_refl _)) (by omega)
        obtain ⟨Ak, ck, hrg, hBk, hlc, hcm, hno⟩ := (hx k (by omega)).open'
        have hi0 : (0 : Int) ≤ k := by omega
        have hi1 : (k : Int) < m := by omega
        obtain ⟨K, hK⟩ : ∃ K, K = kdL L k := ⟨_, rfl⟩
        obtain ⟨D, hD⟩ : ∃ D, D = (dtL L k).length := ⟨_, rfl⟩
        rw [← hK, ← hD] at hrg
        rw [← hD] at hlc hno
        have HK := Lib.hid hK
        have HD := Lib.hid hD
        clear hx hK hD
        obtain ⟨E, hEE⟩ : ∃ E, E = chkE K D := ⟨_, rfl⟩
        have hck := fun W => rchk_any K Ak D ck W (by omega)
        simp only [← hEE] at hck
        by_cases hE0 : E = 0
        · have hc0 : (E != 0) = false := by simpa using hE0
          have hV' : Hid (∀ j, j < k + 1 → chkE (kdL L j) (dtL L j).length = 0) := fun j hj => by
            rcases Nat.lt_or_ge j k with h1 | h1
            · exact hV.out j h1
            · obtain rfl : j = k := by omega
              rw [← HK.out, ← HD.out, ← hEE, hE0]
          clear hEE hE0
          go_wp2_with (first
            | (refine wpl_loadr (by rfl) 62 _ (by rfl) b (o + k * 2) (by rfl) _ hrg _ Tryd.underlying62 rfl _ sizeExt (by rfl) ?_)
            | (go_at_call 43; ((with_reducible refine (hck _).mono ?_); rintro e wc ⟨rfl, bc⟩)))
          exact ⟨⟨k + 1, by omega, by go_num, hV', hB.trans (bc.mono hB.size)⟩, by simp [intOf]; omega⟩
        · have hc0 : (E != 0) = true := by simpa using hE0
          have HR : Hid (apxE L = E) := by
            have h1 := firE_at L k hV.out (by omega) (by rw [← HK.out, ← HD.out, ← hEE]; exact hE0)
            rw [← HK.out, ← HD.out, ← hEE] at h1
            exact HF.out.trans h1
          clear hEE hE0
          go_wp2_with (first
            | (refine wpl_loadr (by rfl) 62 _ (by rfl) b (o + k * 2) (by rfl) _ hrg _ Tryd.underlying62 rfl _ sizeExt (by rfl) ?_)
            | (go_at_call 43; ((with_reducible refine (hck _).mono ?_); rintro e wc ⟨rfl, bc⟩)))
          go_ret2
          exact ⟨by rw [HR.out]; rfl, hB.trans (bc.mono hB.size)⟩
      · exact absurd (hV.out k0 (by omega)) HK1.out
end Go.Proofs.YtachhbbofemfdaaDoor
namespace Go.Proofs.YtachhbbofemfdaaDoor
open Go.RowKit
set_option linter.unusedSimpArgs false
set_option linter.unusedVariables false
set_option maxRecDepth 100000
def NoK (L : List (Int × List Int)) (kd : Int) (k : Nat) : Prop := ∀ j, j < k → kdL L j ≠ kd
set_option maxHeartbeats 4000000 in
theorem find_any (A : Option Addr) (c : Nat) (L : List (Int × List Int)) (n : Nat) (kd : Int) (w : World) (hn : L.length = n) (h : Xs w w.heap.size A L) (hnc : n ≤ c) (hc : c ≤ 9223372036854775807) (hsz : ∀ k, k < n → (dtL L k).length ≤ 140737488351232) :
    Calls Tryd.prog 31 #[.slice A n c, .int .i64 kd] w fun e w' => (e = .returned (.tuple #[.slice none 0 0, .bool false]) ∧ Hid (NoK L kd n) ∧ Below w.heap.size w w') ∨
      (∃ k A' c', e = .returned (.tuple #[.slice A' (dtL L k).length c', .bool true]) ∧ k < n ∧ kdL L k = kd ∧ Hid (NoK L kd k) ∧ Ow w' w.heap.size A' c' (dtL L k) ∧ Below w.heap.size w w') := by
  go_enter Tryd.func31, Tryd.ntmps31
  go_wp2
  go_loopw [10] (fun i wr => ∃ k : Nat, k ≤ n ∧ i = .int .i64 k ∧ Hid (NoK L kd k) ∧ Below w.heap.size w wr) (fun i _ => n - (intOf i).toNat)
  case atStart => exact ⟨0, by omega, rfl, fun j hj => by omega, Below.refl _ _⟩
  case round =>
    obtain ⟨k, hk, rfl, hN, hB⟩ := hrel
    by_cases hlt : k < n
    · obtain ⟨b, o, rfl, hbw, hx⟩ := (h.below hB (Nat.le_refl _)) (by omega)
      obtain ⟨Ak, ck, hrg, hBk, hlc, hcm, hno⟩ := (hx k (by omega)).open'
      have hi0 : (0 : Int) ≤ k := by omega
      have hi1 : (k : Int) < n := by omega
      have hs1 := hsz k hlt
      obtain ⟨K, hK⟩ : ∃ K, K = kdL L k := ⟨_, rfl⟩
      rw [← hK] at hrg
      have HK := Lib.hid hK
      clear hx hK
      by_cases he : K = kd
      · have he' : (K == kd) = true := by simpa using he
        have HE := Lib.hid he
        clear he
        go_wp2_with (first
          | (refine wpl_loadr (by rfl) 62 _ (by rfl) b (o + k * 2) (by rfl) _ hrg _ Tryd.underlying62 rfl _ sizeExt (by rfl) ?_)
          | (refine wpl_alloc (by rfl) 62 (by rfl) (.agg (exC 0 none 0 0).toArray) (exC 0 none 0 0) zeroExt rfl ?_; intro wa Ja sa ba)
          | (refine wpl_store (by rfl) 62 _ _ (by rfl) wr.heap.size (by rfl) _ (by rfl) (exC K Ak (dtL L k).length ck) rfl 62 _ Ja (by rfl) _ sizeExt (by rfl) (by simp [Value.oneCell']) ?_; intro wb Jb sb gb)
          | (refine wpl_loadf (by rfl) 3 _ (by rfl) wr.heap.size 0 (by rfl) _ _ Jb _ rfl _ Tryd.underlying3 rfl ?_)
          | (refine wpl_loadf (by rfl) 23 _ (by rfl) wr.heap.size 1 (by rfl) _ _ Jb _ rfl _ Tryd.underlying23 rfl ?_))
        have hBb := ((hBk.below ba (by have := hB.size; omega)).grown gb (by have := hB.size; omega) (by intro g hg; simp at hg; have := hB.size; omega))
        have hE := clone_any Ak (dtL L k).length ck 0 w.heap.size (dtL L k) wb rfl hBb (by have := hB.size; omega) (by omega) hno
        with_reducible refine hE.mono ?_
        rintro e wc ⟨A', c', rfl, hO, hz, bc⟩
        have Bc := ((hB.trans (ba.mono hB.size)).trans (gb.below (by have := hB.size; omega) hB.size)).trans (bc.mono (by have := hB.size; omega))
        go_wp2
        go_ret2
        exact .inr ⟨k, A', c', rfl, hlt, HK.out ▸ HE.out, hN, ⟨hO.1, by
          obtain ⟨h1, h2⟩ := hO.2
          refine ⟨h1, ?_⟩
          rcases h2 with h2 | ⟨g, cap, cur, e1, e2, e3⟩
          · exact .inl h2
          · exact .inr ⟨g, cap, cur, e1, by have := hB.size; omega, e3⟩⟩, Bc⟩
      · have he' : (K == kd) = false := by simpa using he
        have hN' : Hid (NoK L kd (k + 1)) := fun j hj => by
          rcases Nat.lt_or_ge j k with h1 | h1
          · exact hN.out j h1
          · obtain rfl : j = k := by omega
            exact HK.out ▸ he
        clear he
        go_wp2_with (first
          | (refine wpl_loadr (by rfl) 62 _ (by rfl) b (o + k * 2) (by rfl) _ hrg _ Tryd.underlying62 rfl _ sizeExt (by rfl) ?_)
          | (refine wpl_alloc (by rfl) 62 (by rfl) (.agg (exC 0 none 0 0).toArray) (exC 0 none 0 0) zeroExt rfl ?_; intro wa Ja sa ba)
          | (refine wpl_store (by rfl) 62 _ _ (by rfl) wr.heap.size (by rfl) _ (by rfl) (exC K Ak (dtL L k).length ck) rfl 62 _ Ja (by rfl) _ sizeExt (by rfl) (by simp [Value.oneCell']) ?_; intro wb Jb sb gb)
          | (refine wpl_loadf (by rfl) 3 _ (by rfl) wr.heap.size 0 (by rfl) _ _ Jb _ rfl _ Tryd.underlying3 rfl ?_)
          )
        exact ⟨⟨k + 1, by omega, by go_num, hN', (hB.trans (ba.mono hB.size)).trans (gb.below (by have := hB.size; omega) hB.size)⟩, by simp [intOf]; omega⟩
    · obtain rfl : k = n := by omega
      go_wp2
      go_ret2
      exact .inl ⟨rfl, hN, hB⟩
end Go.Proofs.YtachhbbofemfdaaDoor
