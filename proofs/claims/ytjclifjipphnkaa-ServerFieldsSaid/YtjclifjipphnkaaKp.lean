/- What a stretch of a walk leaves alone: all blocks that stood before, but those of a list. For regions that draw their order. No function of the program occurs here. -/
import Derived.Test.YtjclifjipphnkaaBlk2
namespace Go.Proofs.Ytjclifjipphnkaa
open Go.RowKit
set_option linter.unusedSimpArgs false
set_option linter.unusedVariables false
set_option maxRecDepth 100000
/-- y is x with new blocks, and writes to the blocks G alone -/
structure Kp (x : World) (G : List Nat) (y : World) : Prop where
  os : y.os = x.os
  tape : y.tape = x.tape
  output : y.output = x.output
  size : x.heap.size ≤ y.heap.size
  block : ∀ b, b < x.heap.size → b ∉ G → y.heap[b]? = x.heap[b]?
theorem own_kept {w w' : World} {base size n : Nat} {e : TypeId} {v : Value} {xs : List Value} (h : w.ownsRow base e size v n xs) (hk : ∀ g, v.ownBlock = some g → w'.heap[g]? = w.heap[g]?) : w'.ownsRow base e size v n xs := by
  refine ⟨h.1, ?_⟩
  rcases h.2 with hn | ⟨g, cap, cur, rfl, hb, hgg, rest⟩
  · exact .inl hn
  · exact .inr ⟨g, cap, cur, rfl, hb, (hk g (by simp [Value.ownBlock])).trans hgg, rest⟩
section
variable {x y z : World} {G : List Nat}
theorem Kp.refl (x : World) (G : List Nat) : Kp x G x := ⟨rfl, rfl, rfl, Nat.le_refl _, fun _ _ _ => rfl⟩
theorem Kp.drew (h : Kp x G y) : Kp x G y.drew := ⟨h.os, h.tape, h.output, h.size, h.block⟩
theorem Kp.of_drew (h : Kp x.drew G y) : Kp x G y := ⟨h.os, h.tape, h.output, h.size, h.block⟩
theorem Kp.drewN (h : Kp x G y) (n : Nat) : Kp x G (y.drewN n) := ⟨h.os, h.tape, h.output, h.size, h.block⟩
theorem Kp.alloc (o : Obj) (h : Kp x G y) : Kp x G (y.alloc o) := ⟨h.os, h.tape, h.output, by have := h.size; simp; omega, fun b hb hg => (heap_alloc_old y o (by have := h.size; omega)).trans (h.block b hb hg)⟩
theorem Kp.below {C : Nat} (hb : Below C y z) (h : Kp x G y) (hC : x.heap.size ≤ C) : Kp x G z := ⟨hb.os.trans h.os, hb.tape.trans h.tape, hb.output.trans h.output, Nat.le_trans h.size hb.size, fun b hx hg => (hb.block b (by omega)).trans (h.block b hx hg)⟩
theorem Kp.belowS (hb : Below y.heap.size y z) (h : Kp x G y) : Kp x G z := h.below hb h.size
theorem Kp.but {g : Nat} (hb : But g y z) (h : Kp x G y) (hg : x.heap.size ≤ g ∨ g ∈ G) : Kp x G z := ⟨hb.os.trans h.os, hb.tape.trans h.tape, hb.output.trans h.output, Nat.le_trans h.size hb.size, fun b hx hn => (hb.block b (by have := h.size; omega) (by
  simp only [ne_eq, Option.some.injEq]
  rintro rfl
  rcases hg with hg | hg
  · omega
  · exact hn hg)).trans (h.block b hx hn)⟩
theorem Kp.set {b i : Nat} {s : Option Nat} {v : Value} (h : Kp x G y) (hb : x.heap.size ≤ b ∨ b ∈ G) : Kp x G (y.setCell ⟨b, i, s⟩ v) := ⟨h.os, h.tape, h.output, by have := h.size; simpa [World.setCell] using this, fun c hc hn => (Below.heap_setCell y ⟨b, i, s⟩ v c (by
  show c ≠ b
  rintro rfl
  rcases hb with hb | hb
  · omega
  · exact hn hb)).trans (h.block c hc hn)⟩
theorem Kp.trans (h : Kp x G y) (k : Kp y G z) : Kp x G z := ⟨k.os.trans h.os, k.tape.trans h.tape, k.output.trans h.output, Nat.le_trans h.size k.size, fun b hb hg => (k.block b (by have := h.size; omega) hg).trans (h.block b hb hg)⟩
theorem Kp.toBelow {B : Nat} {w : World} (h : Kp x G y) (hb : Below B w x) (hB : B ≤ x.heap.size) (hG : ∀ g ∈ G, B ≤ g) : Below B w y := ⟨h.os.trans hb.os, h.tape.trans hb.tape, h.output.trans hb.output, Nat.le_trans hb.size h.size, fun b hx => (h.block b (by omega) (fun hg => by have := hG b hg; omega)).trans (hb.block b hx)⟩
theorem Kp.below1 (h : Kp x [] y) : Below x.heap.size x y := ⟨h.os, h.tape, h.output, h.size, fun b hb => h.block b hb (by simp)⟩
theorem Kp.but1 {g : Nat} (h : Kp x [g] y) : But g x y := ⟨h.os, h.tape, h.output, h.size, fun b hb hg => h.block b hb (by simp at hg ⊢; omega)⟩
theorem Kp.of_below (hb : Below x.heap.size x y) : Kp x G y := (Kp.refl x G).belowS hb
theorem Kp.of_but {g : Nat} (hb : But g x y) (hg : x.heap.size ≤ g ∨ g ∈ G) : Kp x G y := (Kp.refl x G).but hb hg
theorem Kp.less {G' : List Nat} (h : Kp x G y) (hG : ∀ g ∈ G, x.heap.size ≤ g ∨ g ∈ G') : Kp x G' y := ⟨h.os, h.tape, h.output, h.size, fun b hb hn => h.block b hb (fun hg => (hG b hg).elim (fun h1 => by omega) hn)⟩
/-- a cell, in a block that is not written -/
def Kc (x : World) (G : List Nat) (b i : Nat) (v : Value) : Prop := x.cell? ⟨b, i, none⟩ = some v ∧ b ∉ G
/-- a cell that is kept -/
theorem kp_cell {b i : Nat} {v : Value} (h : Kp x G y) (hc : Kc x G b i v) : y.cell? ⟨b, i, none⟩ = some v :=
  (World.cell?_of_block (h.block b (World.block_lt_of_cell? x _ hc.1) hc.2)).trans hc.1
theorem kp1 {b1 i1 : Nat} {v1 : Value} (h : Kp x G y) (q1 : Kc x G b1 i1 v1) : y.cell? ⟨b1, i1, none⟩ = some v1 ∧ Kp x G y := ⟨kp_cell h q1, h⟩
theorem kp2 {b1 i1 : Nat} {v1 : Value} {b2 i2 : Nat} {v2 : Value} (h : Kp x G y) (q1 : Kc x G b1 i1 v1) (q2 : Kc x G b2 i2 v2) : y.cell? ⟨b1, i1, none⟩ = some v1 ∧ y.cell? ⟨b2, i2, none⟩ = some v2 ∧ Kp x G y := ⟨kp_cell h q1, kp_cell h q2, h⟩
theorem kp3 {b1 i1 : Nat} {v1 : Value} {b2 i2 : Nat} {v2 : Value} {b3 i3 : Nat} {v3 : Value} (h : Kp x G y) (q1 : Kc x G b1 i1 v1) (q2 : Kc x G b2 i2 v2) (q3 : Kc x G b3 i3 v3) : y.cell? ⟨b1, i1, none⟩ = some v1 ∧ y.cell? ⟨b2, i2, none⟩ = some v2 ∧ y.cell? ⟨b3, i3, none⟩ = some v3 ∧ Kp x G y := ⟨kp_cell h q1, kp_cell h q2, kp_cell h q3, h⟩
theorem kp4 {b1 i1 : Nat} {v1 : Value} {b2 i2 : Nat} {v2 : Value} {b3 i3 : Nat} {v3 : Value} {b4 i4 : Nat} {v4 : Value} (h : Kp x G y) (q1 : Kc x G b1 i1 v1) (q2 : Kc x G b2 i2 v2) (q3 : Kc x G b3 i3 v3) (q4 : Kc x G b4 i4 v4) : y.cell? ⟨b1, i1, none⟩ = some v1 ∧ y.cell? ⟨b2, i2, none⟩ = some v2 ∧ y.cell? ⟨b3, i3, none⟩ = some v3 ∧ y.cell? ⟨b4, i4, none⟩ = some v4 ∧ Kp x G y := ⟨kp_cell h q1, kp_cell h q2, kp_cell h q3, kp_cell h q4, h⟩
theorem kp5 {b1 i1 : Nat} {v1 : Value} {b2 i2 : Nat} {v2 : Value} {b3 i3 : Nat} {v3 : Value} {b4 i4 : Nat} {v4 : Value} {b5 i5 : Nat} {v5 : Value} (h : Kp x G y) (q1 : Kc x G b1 i1 v1) (q2 : Kc x G b2 i2 v2) (q3 : Kc x G b3 i3 v3) (q4 : Kc x G b4 i4 v4) (q5 : Kc x G b5 i5 v5) : y.cell? ⟨b1, i1, none⟩ = some v1 ∧ y.cell? ⟨b2, i2, none⟩ = some v2 ∧ y.cell? ⟨b3, i3, none⟩ = some v3 ∧ y.cell? ⟨b4, i4, none⟩ = some v4 ∧ y.cell? ⟨b5, i5, none⟩ = some v5 ∧ Kp x G y := ⟨kp_cell h q1, kp_cell h q2, kp_cell h q3, kp_cell h q4, kp_cell h q5, h⟩
theorem kp6 {b1 i1 : Nat} {v1 : Value} {b2 i2 : Nat} {v2 : Value} {b3 i3 : Nat} {v3 : Value} {b4 i4 : Nat} {v4 : Value} {b5 i5 : Nat} {v5 : Value} {b6 i6 : Nat} {v6 : Value} (h : Kp x G y) (q1 : Kc x G b1 i1 v1) (q2 : Kc x G b2 i2 v2) (q3 : Kc x G b3 i3 v3) (q4 : Kc x G b4 i4 v4) (q5 : Kc x G b5 i5 v5) (q6 : Kc x G b6 i6 v6) : y.cell? ⟨b1, i1, none⟩ = some v1 ∧ y.cell? ⟨b2, i2, none⟩ = some v2 ∧ y.cell? ⟨b3, i3, none⟩ = some v3 ∧ y.cell? ⟨b4, i4, none⟩ = some v4 ∧ y.cell? ⟨b5, i5, none⟩ = some v5 ∧ y.cell? ⟨b6, i6, none⟩ = some v6 ∧ Kp x G y := ⟨kp_cell h q1, kp_cell h q2, kp_cell h q3, kp_cell h q4, kp_cell h q5, kp_cell h q6, h⟩
theorem kp7 {b1 i1 : Nat} {v1 : Value} {b2 i2 : Nat} {v2 : Value} {b3 i3 : Nat} {v3 : Value} {b4 i4 : Nat} {v4 : Value} {b5 i5 : Nat} {v5 : Value} {b6 i6 : Nat} {v6 : Value} {b7 i7 : Nat} {v7 : Value} (h : Kp x G y) (q1 : Kc x G b1 i1 v1) (q2 : Kc x G b2 i2 v2) (q3 : Kc x G b3 i3 v3) (q4 : Kc x G b4 i4 v4) (q5 : Kc x G b5 i5 v5) (q6 : Kc x G b6 i6 v6) (q7 : Kc x G b7 i7 v7) : y.cell? ⟨b1, i1, none⟩ = some v1 ∧ y.cell? ⟨b2, i2, none⟩ = some v2 ∧ y.cell? ⟨b3, i3, none⟩ = some v3 ∧ y.cell? ⟨b4, i4, none⟩ = some v4 ∧ y.cell? ⟨b5, i5, none⟩ = some v5 ∧ y.cell? ⟨b6, i6, none⟩ = some v6 ∧ y.cell? ⟨b7, i7, none⟩ = some v7 ∧ Kp x G y := ⟨kp_cell h q1, kp_cell h q2, kp_cell h q3, kp_cell h q4, kp_cell h q5, kp_cell h q6, kp_cell h q7, h⟩
theorem Kp.blk {b : Nat} {t : TypeId} {cs : List Value} (h : Kp x G y) (hB : Blk x b t cs) (hg : b ∉ G) : Blk y b t cs := (h.block b hB.lt hg).trans hB
theorem Kp.bs {lo hi : Nat} {A : Option Addr} {l : List Int} (h : Kp x G y) (hB : Bs x lo hi A l) (hh : hi ≤ x.heap.size) (hg : ∀ g ∈ G, g < lo ∨ hi ≤ g) : Bs y lo hi A l := hB.keep fun b o h1 h2 => World.cell?_of_block (h.block b (by omega) (fun hm => by have := hg b hm; omega))
theorem Kp.ow {lo c : Nat} {A : Option Addr} {l : List Int} (h : Kp x G y) (hO : Ow x lo A c l) (hg : ∀ g ∈ G, g < lo) : Ow y lo A c l := ⟨hO.1, own_kept hO.2 fun k hk => h.block k (hO.2.lt k hk).2 (fun hm => by have := hg k hm; have := (hO.2.lt k hk).1; omega)⟩
theorem Kp.range {b o : Nat} {cs : List Value} (h : Kp x G y) (hr : x.rangeAt b o cs) (hg : b ∉ G) : y.rangeAt b o cs := fun j v hv => kp_cell h ⟨hr j v hv, hg⟩
end
section
variable {x y : World} {G : List Nat} {b g : Nat} {t t' : TypeId} {c0 c1 c2 c3 c4 c5 v0 v1 v2 v3 v4 v5 : Value} {cs : List Value}
theorem set6_blk (h : Blk x b t [c0, c1, c2, c3, c4, c5]) : Blk ((((((x.setCell ⟨b, 0, none⟩ v0).setCell ⟨b, 1, none⟩ v1).setCell ⟨b, 2, none⟩ v2).setCell ⟨b, 3, none⟩ v3).setCell ⟨b, 4, none⟩ v4).setCell ⟨b, 5, none⟩ v5) b t [v0, v1, v2, v3, v4, v5] := (((((h.set 0 v0).set 1 v1).set 2 v2).set 3 v3).set 4 v4).set 5 v5
theorem set6_kp (h : Kp x G y) (hb : x.heap.size ≤ b) : Kp x G ((((((y.setCell ⟨b, 0, none⟩ v0).setCell ⟨b, 1, none⟩ v1).setCell ⟨b, 2, none⟩ v2).setCell ⟨b, 3, none⟩ v3).setCell ⟨b, 4, none⟩ v4).setCell ⟨b, 5, none⟩ v5) := (((((h.set (.inl hb)).set (.inl hb)).set (.inl hb)).set (.inl hb)).set (.inl hb)).set (.inl hb)
theorem set6_all (h : Blk y b t [c0, c1, c2, c3, c4, c5]) (hR : Blk y g t' cs) (hK : Kp x G y) (hb : x.heap.size ≤ b) (hne : g ≠ b) : ∃ W, (((((y.setCell ⟨b, 0, none⟩ v0).setCell ⟨b, 1, none⟩ v1).setCell ⟨b, 2, none⟩ v2).setCell ⟨b, 3, none⟩ v3).setCell ⟨b, 4, none⟩ v4).setCell ⟨b, 5, none⟩ v5 = W ∧ Blk W b t [v0, v1, v2, v3, v4, v5] ∧ Blk W g t' cs ∧ Kp x G W :=
  ⟨_, rfl, set6_blk h, ((((((hR.but (but_setCell _ b 0 v0) hne).but (but_setCell _ b 1 v1) hne).but (but_setCell _ b 2 v2) hne).but (but_setCell _ b 3 v3) hne).but (but_setCell _ b 4 v4) hne).but (but_setCell _ b 5 v5) hne), set6_kp hK hb⟩
theorem set6_but (x : World) (b : Nat) (v0 v1 v2 v3 v4 v5 : Value) : But b x ((((((x.setCell ⟨b, 0, none⟩ v0).setCell ⟨b, 1, none⟩ v1).setCell ⟨b, 2, none⟩ v2).setCell ⟨b, 3, none⟩ v3).setCell ⟨b, 4, none⟩ v4).setCell ⟨b, 5, none⟩ v5) := (((((but_setCell x b 0 v0).trans (but_setCell _ b 1 v1)).trans (but_setCell _ b 2 v2)).trans (but_setCell _ b 3 v3)).trans (but_setCell _ b 4 v4)).trans (but_setCell _ b 5 v5)
end
theorem blk_firstD {w w' : World} {t : TypeId} {cs : List Value} (hb : Below (w.alloc (.cells cs.toArray t)).drew.heap.size (w.alloc (.cells cs.toArray t)).drew w') : Blk w' w.heap.size t cs := Blk.below (w := (w.alloc (.cells cs.toArray t)).drew) (Blk.new w t cs.toArray cs rfl) hb (by show w.heap.size < (w.alloc _).heap.size; simp)
theorem blk_firstBD {w w' : World} {g : Nat} {t : TypeId} {cs : List Value} (hb : But g (w.alloc (.cells cs.toArray t)).drew w') (hne : w.heap.size ≠ g) : Blk w' w.heap.size t cs := Blk.but (w := (w.alloc (.cells cs.toArray t)).drew) (Blk.new w t cs.toArray cs rfl) hb hne
end Go.Proofs.Ytjclifjipphnkaa
