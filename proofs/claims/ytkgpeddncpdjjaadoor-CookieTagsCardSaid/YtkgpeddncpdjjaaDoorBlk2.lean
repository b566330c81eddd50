/- Structs inside structs: the laws of load and store in the midst of a block that is known whole. No function of the program occurs here. -/
import Derived.Test.YtkgpeddncpdjjaaDoorBlk
namespace Go.Proofs.YtkgpeddncpdjjaaDoor
open Go.RowKit
set_option linter.unusedSimpArgs false
set_option linter.unusedVariables false
set_option maxRecDepth 100000
theorem But.new {g b : Nat} {a c d : World} (h : But g a c) (k : But b c d) (hb : a.heap.size ≤ b) : But g a d :=
  ⟨k.os.trans h.os, k.tape.trans h.tape, k.output.trans h.output, Nat.le_trans h.size k.size, fun i hi hn => (k.block i (by have := h.size; omega) (by simp; omega)).trans (h.block i hi hn)⟩
theorem But.then {g B : Nat} {a c d : World} (h : But g a c) (k : Below B c d) (hb : a.heap.size ≤ B) : But g a d :=
  ⟨k.os.trans h.os, k.tape.trans h.tape, k.output.trans h.output, Nat.le_trans h.size k.size, fun i hi hn => (k.block i (by omega)).trans (h.block i hi hn)⟩
theorem But.refl (g : Nat) (w : World) : But g w w := World.grownBy.refl w _
theorem Blk.mid {w : World} {b : Nat} {t : TypeId} {cs : List Value} (h : Blk w b t cs) (o : Nat) (sub : List Value) (hs : (cs.drop o).take sub.length = sub) : w.rangeAt b o sub := fun j v hv => by
  have hj : j < sub.length := (List.getElem?_eq_some_iff.1 hv).1
  rw [← hs, List.getElem?_take, if_pos hj, List.getElem?_drop] at hv
  exact h.cell hv
theorem Blk.thereMid {w : World} {b : Nat} {t : TypeId} {cs : List Value} (h : Blk w b t cs) (o n : Nat) (hn : o + n ≤ cs.length) : w.there b o n := fun j hj => by
  have := h.there (o + j) (by omega)
  rwa [Nat.zero_add] at this
theorem Blk.storedMid {w : World} {b : Nat} {t : TypeId} {cs cs' : List Value} (h : Blk w b t cs) (o : Nat) (vs : List Value) (hn : o + vs.length ≤ cs.length) (hc : cs.take o ++ vs ++ cs.drop (o + vs.length) = cs') : Blk (w.setCells b o vs) b t cs' := by
  have hl : (cs.take o).length = o := by rw [List.length_take]; omega
  have h0 : cs = cs.take o ++ (cs.drop o).take vs.length ++ cs.drop (o + vs.length) := by
    rw [← List.drop_drop, List.append_assoc, List.take_append_drop, List.take_append_drop]
  subst hc
  unfold Blk at *
  rw [h0] at h
  have h2 := heap_setCells (suf := cs.drop (o + vs.length)) vs (cs.take o) ((cs.drop o).take vs.length) w (by rw [List.length_take, List.length_drop]; omega) h
  rwa [hl] at h2
section
variable {P : Program} {ops : Array Oper} {rest : List Oper} {o : Oper} {a : Act} {w : World} {Q : Exit → Act → World → Prop}
/-- a struct in the midst of a block is read -/
theorem wpl_loadm (hw : Region.wanted o (yielded ops a.tmps) = true) (T : TypeId) (x : Operand) (ho : o.op = .load T x) (b i : Nat) (hx : a.eval x = .pointer (some ⟨b, i, none⟩)) (t : TypeId) (cs : List Value) (hB : Blk w b t cs) (sub : List Value) (d : TypeDesc)
    (hu : P.underlying T = some d) (hd : d.isRow = true) (n : Nat) (hi : (P.info? T).map (·.size) = some n) (hs : (cs.drop i).take n = sub) (hn : sub.length = n)
    (h : wpList P ops Q rest (a.put o.dst (.agg sub.toArray)) w) : wpList P ops Q (o :: rest) a w := by
  subst hn
  exact wpl_want hw fun K hK => wp_load_mid T x ho b i hx sub d (hB.mid i sub hs) hu hd hi (hK _ _ h)
/-- a struct in the midst of a block is written -/
theorem wpl_storem (hw : Region.wanted o (yielded ops a.tmps) = true) (T : TypeId) (x y : Operand) (ho : o.op = .store T x y) (b i : Nat) (hx : a.eval x = .pointer (some ⟨b, i, none⟩)) (cells : Array Value) (hy : a.eval y = .agg cells) (vs : List Value) (hc : cells = vs.toArray) (t : TypeId) (cs cs' : List Value) (hB : Blk w b t cs)
    (n : Nat) (hi : (P.info? T).map (·.size) = some n) (hn : vs.length = n) (hl : i + n ≤ cs.length) (hcs : cs.take i ++ vs ++ cs.drop (i + n) = cs') (h1 : ∀ v ∈ vs, v.oneCell' = true)
    (h : ∀ w', Blk w' b t cs' → w.heap.size ≤ w'.heap.size → But b w w' → wpList P ops Q rest (a.put o.dst undef) w') : wpList P ops Q (o :: rest) a w := by
  subst hc hn
  refine wpl_want hw fun K hK => wp_store_mid T x y ho b i vs.toArray hx hy (by have := hB.thereMid i vs.length hl; simpa using this) (by simpa using hi) (all_oneCell_toArray h1) (hK _ _ (h _ (hB.storedMid i vs hl hcs) (Nat.le_of_eq (size_setCells _ _ _ _).symm) (but_setCells _ _ _ (World.grownBy.refl w _))))
/-- one cell is written: what then stands there is named -/
theorem wpl_storeg (hw : Region.wanted o (yielded ops a.tmps) = true) (T : TypeId) (x y : Operand) (ho : o.op = .store T x y) (b i : Nat) (hx : a.eval x = .pointer (some ⟨b, i, none⟩)) (v : Value) (hy : a.eval y = v) (hc : v.cells = #[v]) (h1 : v.oneCell' = true) (t : TypeId) (cs cs' : List Value) (hB : Blk w b t cs) (hlt : i < cs.length)
    (hi : (P.info? T).map (·.size) = some 1) (hcs : cs.set i v = cs')
    (h : ∀ w', Blk w' b t cs' → w.heap.size ≤ w'.heap.size → But b w w' → wpList P ops Q rest (a.put o.dst undef) w') : wpList P ops Q (o :: rest) a w := by
  subst hcs
  exact wpl_storef hw T x y ho b i hx v hy hc h1 t cs hB hlt hi h
end
end Go.Proofs.YtkgpeddncpdjjaaDoor
