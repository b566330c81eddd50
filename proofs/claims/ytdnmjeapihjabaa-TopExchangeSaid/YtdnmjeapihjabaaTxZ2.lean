/- Blocks of memory known whole (structs, arrays), and the laws of alloc, box, load and store in these words: behind each the world is a letter. No function of the program occurs here. Structs inside structs: the laws of load and store in the midst of a block that is known whole. No function of the program occurs here. What root.Check and root.Fields, and their reference, compute; for texts that stand on the header's. What the functions of package wire that read numbers compute, and those of its reference. What the functions of package wire that make memory compute, and those of its reference. What ntpmsg.Check, put, Encode and their references compute. What ntpmsg.Encode and its reference compute. -/
import Derived.Test.YtdnmjeapihjabaaTxZ1
import Derived.Deep.MidRow
import Derived.Deep.RegionHeld3
namespace Go.Proofs.Ytdnmjeapihjabaa
open Go.RowKit
set_option linter.unusedSimpArgs false
set_option linter.unusedVariables false
set_option maxRecDepth 100000
/-- block b of w holds the cells cs -/
def Blk (w : World) (b : Nat) (t : TypeId) (cs : List Value) : Prop := w.heap[b]? = some (.cells cs.toArray t (0, 0))
/-- only block g has turned, and new blocks -/
abbrev But (g : Nat) (w w' : World) : Prop := w.grownBy w' (some g)
theorem But.below {g B : Nat} {w w' : World} (h : But g w w') (h1 : B ≤ w.heap.size) (h2 : B ≤ g) : Below B w w' := below_of_grown h h1 (by simp; omega)
theorem But.trans {g : Nat} {a b c : World} (h : But g a b) (k : But g b c) : But g a c :=
  ⟨k.os.trans h.os, k.tape.trans h.tape, k.output.trans h.output, Nat.le_trans h.size k.size, fun i hi hn => (k.block i (by have := h.size; omega) hn).trans (h.block i hi hn)⟩
theorem But.of_below {g B : Nat} {a b : World} (h : Below B a b) (hB : a.heap.size ≤ B) : But g a b := ⟨h.os, h.tape, h.output, h.size, fun i hi _ => h.block i (by omega)⟩
theorem vstr {a b : ByteArray} (h : a = b) : Value.string a = .string b := by rw [h]
theorem blk_set1 {w : World} {g i : Nat} {cs ds : Array Value} {t : TypeId} {fz : Nat × Nat} {u : Value} (h : w.heap[g]? = some (.cells cs t fz)) (hd : cs.setIfInBounds i u = ds) : (w.setCell ⟨g, i, none⟩ u).heap[g]? = some (.cells ds t fz) := by
  subst hd
  simp [World.setCell, Array.getElem?_modify, h]
theorem size_setCells (b : Nat) : ∀ (vs : List Value) (o : Nat) (w : World), (w.setCells b o vs).heap.size = w.heap.size
  | [], _, _ => rfl
  | v :: r, o, w => by rw [World.setCells, size_setCells b r]; simp [World.setCell]
theorem but_setCells (b : Nat) : ∀ (vs : List Value) (o : Nat) {a w : World}, But b a w → But b a (w.setCells b o vs)
  | [], _, _, _, h => h
  | v :: r, o, a, w, h => by rw [World.setCells]; exact but_setCells b r _ (only_setCell h (.inl rfl) v)
theorem heap_setCells {b : Nat} {t : TypeId} {fz : Nat × Nat} {suf : List Value} : ∀ (vs pre old : List Value) (w : World), old.length = vs.length → w.heap[b]? = some (.cells (pre ++ old ++ suf).toArray t fz) →
    (w.setCells b pre.length vs).heap[b]? = some (.cells (pre ++ vs ++ suf).toArray t fz)
  | [], pre, old, w, hl, h => by
      obtain rfl : old = [] := List.eq_nil_of_length_eq_zero hl
      exact h
  | v :: r, pre, old, w, hl, h => by
      match old, hl with
      | o :: old', hl =>
        rw [World.setCells]
        have h2 := heap_setCells (t := t) (fz := fz) (suf := suf) r (pre ++ [v]) old' (w.setCell ⟨b, pre.length, none⟩ v) (by simpa using hl) (blk_set1 h (by simp))
        rw [List.length_append, List.length_singleton] at h2
        rw [h2]; simp
section
variable {w w' : World} {b : Nat} {t : TypeId} {cs : List Value}
theorem Blk.lt (h : Blk w b t cs) : b < w.heap.size := (Array.getElem?_eq_some_iff.1 h).1
theorem Blk.below {B : Nat} (h : Blk w b t cs) (hb : Below B w w') (h1 : b < B) : Blk w' b t cs := (hb.block b h1).trans h
theorem Blk.but {g : Nat} (h : Blk w b t cs) (hb : But g w w') (h1 : b ≠ g) : Blk w' b t cs := (hb.block b h.lt (by simpa using h1)).trans h
theorem Blk.grown {row : Option Nat} (h : Blk w b t cs) (hb : w.grownBy w' row) (h1 : row ≠ some b) : Blk w' b t cs := (hb.block b h.lt (fun e => h1 e.symm)).trans h
theorem Blk.cell (h : Blk w b t cs) {i : Nat} {v : Value} (hv : cs[i]? = some v) : w.cell? ⟨b, i, none⟩ = some v := by
  unfold Blk at h
  simp [World.cell?, h, hv]
theorem Blk.range (h : Blk w b t cs) : w.rangeAt b 0 cs := fun j v hv => by rw [Nat.zero_add]; exact h.cell hv
theorem Blk.frozen (h : Blk w b t cs) : ∀ o, w.frozen? ⟨b, o, none⟩ = false := fun o => by unfold Blk at h; simp [World.frozen?, h]
theorem Blk.there (h : Blk w b t cs) : w.there b 0 cs.length := fun j hj => by
  rw [Nat.zero_add]
  refine ⟨?_, h.frozen j⟩
  rw [h.cell (List.getElem?_eq_getElem hj)]; rfl
theorem Blk.set (h : Blk w b t cs) (i : Nat) (v : Value) : Blk (w.setCell ⟨b, i, none⟩ v) b t (cs.set i v) := blk_set1 h (by simp)
theorem Blk.stored (h : Blk w b t cs) (vs : List Value) (hl : cs.length = vs.length) : Blk (w.setCells b 0 vs) b t vs := by
  unfold Blk at *
  have := heap_setCells (suf := []) vs [] cs w hl (by simpa using h)
  simpa using this
theorem Blk.new (w : World) (t : TypeId) (cs : Array Value) (l : List Value) (hl : cs = l.toArray) : Blk (w.alloc (.cells cs t)) w.heap.size t l := by subst hl; exact heap_alloc_new w _
theorem Blk.old {o : Obj} (h : Blk w b t cs) : Blk (w.alloc o) b t cs := (heap_alloc_old w o h.lt).trans h
theorem Blk.drew (h : Blk w b t cs) : Blk w.drew b t cs := h
theorem Blk.drewN (h : Blk w b t cs) (n : Nat) : Blk (w.drewN n) b t cs := h
end
theorem but_setCell (w : World) (b i : Nat) (v : Value) : But b w (w.setCell ⟨b, i, none⟩ v) := only_setCell (World.grownBy.refl w _) (.inl rfl) v
section
variable {P : Program} {ops : Array Oper} {rest : List Oper} {o : Oper} {a : Act} {w : World} {Q : Exit → Act → World → Prop}
theorem wpl_want (hw : Region.wanted o (yielded ops a.tmps) = true)
    (h : ∀ K : Act → World → Prop, (∀ a w, wpList P ops Q rest a w → K a w) → o.wp P a w K Q) : wpList P ops Q (o :: rest) a w :=
  wpList_step fun K hK => by rw [if_pos hw]; exact h K hK
/-- a new variable -/
theorem wpl_alloc (hw : Region.wanted o (yielded ops a.tmps) = true) (T : TypeId) (ho : o.op = .alloc T) (z : Value) (zs : List Value) (hi : (P.info? T).map (·.zero) = some (some z)) (hc : z.cells = zs.toArray)
    (h : ∀ w', Blk w' w.heap.size T zs → w.heap.size < w'.heap.size → Below w.heap.size w w' → wpList P ops Q rest (a.put o.dst (.pointer (some ⟨w.heap.size, 0, none⟩))) w') : wpList P ops Q (o :: rest) a w := by
  refine wpl_want hw fun K hK => ?_
  cases hq : P.info? T with
  | none => simp [hq] at hi
  | some i =>
    have hz : i.zero = z := by simpa [hq] using hi
    have hr : (Instr.alloc T true (.tuple #[])).run P w = .ok (.pointer (some ⟨w.heap.size, 0, none⟩)) (w.alloc (.cells zs.toArray T)) := by
      simp [Instr.alloc, zeroValue, typeInfo, Sem.run_bind, hq, hz, newVar, newRow, hc]
    unfold Oper.wp execOp
    simp only [ho, Sem.run_bind, hr, Result.andThen_ok, Sem.run_pure]
    exact hK _ _ (h _ (Blk.new w T _ zs rfl) (by simp) ((Below.refl _ w).alloc (Nat.le_refl _) _))
/-- a parameter that lies in memory -/
theorem wpl_box (hw : Region.wanted o (yielded ops a.tmps) = true) (T : TypeId) (x : Operand) (ho : o.op = .box T x) (v : Value) (zs : List Value) (hx : a.eval x = v) (hc : v.cells = zs.toArray)
    (h : ∀ w', Blk w' w.heap.size T zs → w.heap.size < w'.heap.size → Below w.heap.size w w' → wpList P ops Q rest (a.put o.dst (.pointer (some ⟨w.heap.size, 0, none⟩))) w') : wpList P ops Q (o :: rest) a w := by
  refine wpl_want hw fun K hK => ?_
  have hr : (Instr.box T v).run P w = .ok (.pointer (some ⟨w.heap.size, 0, none⟩)) (w.alloc (.cells zs.toArray T)) := by
    simp [Instr.box, Sem.run_bind, newVar, newRow, hc]
  unfold Oper.wp execOp
  simp only [ho, hx, Sem.run_bind, hr, Result.andThen_ok, Sem.run_pure]
  exact hK _ _ (h _ (Blk.new w T _ zs rfl) (by simp) ((Below.refl _ w).alloc (Nat.le_refl _) _))
/-- a whole block is read -/
theorem wpl_load (hw : Region.wanted o (yielded ops a.tmps) = true) (T : TypeId) (x : Operand) (ho : o.op = .load T x) (b : Nat) (hx : a.eval x = .pointer (some ⟨b, 0, none⟩)) (t : TypeId) (cs : List Value) (hB : Blk w b t cs) (d : TypeDesc)
    (hu : P.underlying T = some d) (hd : d.isRow = true) (n : Nat) (hi : (P.info? T).map (·.size) = some n) (hn : cs.length = n)
    (h : wpList P ops Q rest (a.put o.dst (.agg cs.toArray)) w) : wpList P ops Q (o :: rest) a w := by
  subst hn
  exact wpl_want hw fun K hK => wp_load_mid T x ho b 0 hx cs d hB.range hu hd hi (hK _ _ h)
/-- a whole block is written -/
theorem wpl_store (hw : Region.wanted o (yielded ops a.tmps) = true) (T : TypeId) (x y : Operand) (ho : o.op = .store T x y) (b : Nat) (hx : a.eval x = .pointer (some ⟨b, 0, none⟩)) (cells : Array Value) (hy : a.eval y = .agg cells) (cs : List Value) (hc : cells = cs.toArray) (t : TypeId) (ds : List Value) (hB : Blk w b t ds)
    (hl : ds.length = cs.length) (n : Nat) (hi : (P.info? T).map (·.size) = some n) (hn : cs.length = n) (h1 : ∀ v ∈ cs, v.oneCell' = true)
    (h : ∀ w', Blk w' b t cs → w.heap.size ≤ w'.heap.size → But b w w' → wpList P ops Q rest (a.put o.dst undef) w') : wpList P ops Q (o :: rest) a w := by
  subst hc hn
  refine wpl_want hw fun K hK => wp_store_mid T x y ho b 0 cs.toArray hx hy (by have := hB.there; rw [hl] at this; simpa using this) (by simpa using hi) (all_oneCell_toArray h1) (hK _ _ (h _ (hB.stored cs hl) (Nat.le_of_eq (size_setCells _ _ _ _).symm) (but_setCells _ _ _ (World.grownBy.refl w _))))
/-- one cell is read -/
theorem wpl_loadf (hw : Region.wanted o (yielded ops a.tmps) = true) (T : TypeId) (x : Operand) (ho : o.op = .load T x) (b i : Nat) (hx : a.eval x = .pointer (some ⟨b, i, none⟩)) (t : TypeId) (cs : List Value) (hB : Blk w b t cs) (v : Value) (hv : cs[i]? = some v) (d : TypeDesc)
    (hu : P.underlying T = some d) (hd : d.isRow = false)
    (h : wpList P ops Q rest (a.put o.dst v) w) : wpList P ops Q (o :: rest) a w := by
  refine wpl_want hw fun K hK => ?_
  have hagg : (isAgg T).run P w = .ok false w := by
    unfold isAgg
    rw [Sem.run_bind, run_underlying hu w]
    cases d <;> simp_all
  have hcell := hB.cell hv
  have hr : (Instr.loadAt T (.pointer (some ⟨b, i, none⟩))).run P w = .ok v w := by
    simp [Instr.loadAt, Instr.sureAddr, loadVar, Sem.run_bind, hagg, hcell, go_sem]
  unfold Oper.wp execOp
  simp only [ho, hx, Sem.run_bind, hr, Result.andThen_ok, Sem.run_pure]
  exact hK _ _ h
/-- one cell is written -/
theorem wpl_storef (hw : Region.wanted o (yielded ops a.tmps) = true) (T : TypeId) (x y : Operand) (ho : o.op = .store T x y) (b i : Nat) (hx : a.eval x = .pointer (some ⟨b, i, none⟩)) (v : Value) (hy : a.eval y = v) (hc : v.cells = #[v]) (h1 : v.oneCell' = true) (t : TypeId) (cs : List Value) (hB : Blk w b t cs) (hlt : i < cs.length)
    (hi : (P.info? T).map (·.size) = some 1) 
    (h : ∀ w', Blk w' b t (cs.set i v) → w.heap.size ≤ w'.heap.size → But b w w' → wpList P ops Q rest (a.put o.dst undef) w') : wpList P ops Q (o :: rest) a w := by
  refine wpl_want hw fun K hK => ?_
  have ht : w.there b i 1 := fun j hj => by
    obtain rfl : j = 0 := by omega
    have := hB.there i hlt
    rwa [Nat.zero_add] at this
  have hr : (Instr.storeAt T (.pointer (some ⟨b, i, none⟩)) v).run P w = .ok () (w.setCell ⟨b, i, none⟩ v) := by
    have h2 := run_storeVar_mid (P := P) w b i T #[v] (by simpa using ht) (by simpa using hi) (by simpa using h1)
    have e : storeVar T ⟨b, i, none⟩ v = storeVar T ⟨b, i, none⟩ (.agg #[v]) := by unfold storeVar; rw [hc]; rfl
    simp only [Instr.storeAt, Instr.sureAddr, Sem.run_bind, Sem.run_pure, Result.andThen_ok, e, h2]
    rfl
  unfold Oper.wp execOp
  simp only [ho, hx, hy, Sem.run_bind, hr, Result.andThen_ok, Sem.run_pure]
  exact hK _ _ (h _ (hB.set i v) (by simp [World.setCell]) (but_setCell w b i v))
end
end Go.Proofs.Ytdnmjeapihjabaa
namespace Go.Proofs.Ytdnmjeapihjabaa
open Go.RowKit
set_option linter.unusedSimpArgs false
set_option linter.unusedVariables false
set_option maxRecDepth 100000
theorem But.new {g b : Nat} {a c d : World} (h : But g a c) (k : But b c d) (hb : a.heap.size ≤ b) : But g a d :=
  ⟨k.os.trans h.os, k.tape.trans h.tape, k.output.trans h.output, Nat.le_trans h.size k.size, fun i hi hn => (k.block i (by have := h.size; omega) (by simp; omega)).trans (h.block i hi hn)⟩
theorem But.then {g B : Nat} {a c d : World} (h : But g a c) (k : Below B c d) (hb : a.heap.size ≤ B) : But g a d :=
  ⟨k.os.trans h.os, k.tape.trans h.tape, k.output.trans h.output, Nat.le_trans h.size k.size, fun i hi hn => (k.block i (by omega)).trans (h.block i hi hn)⟩
theorem But.refl (g : Nat) (w : World) : But g w w := World.grownBy.refl w _
theorem Blk.mid {w : World} {b : Nat} {t : TypeId} {cs : List Value} (h : Blk w b t cs) (o : Nat) (sub : List Value) (hs : (cs.drop o).take sub.length = sub) : w.rangeAt b o sub := fun j v hv => by
  have hj : j < sub.length := (List.getElem?_eq_some_iff.1 hv).1
  rw [← hs, List.getElem?_take, if_pos hj, List.getElem?_drop] at hv
  exact h.cell hv
theorem Blk.thereMid {w : World} {b : Nat} {t : TypeId} {cs : List Value} (h : Blk w b t cs) (o n : Nat) (hn : o + n ≤ cs.length) : w.there b o n := fun j hj => by
  have := h.there (o + j) (by omega)
  rwa [Nat.zero_add] at this
theorem Blk.storedMid {w : World} {b : Nat} {t : TypeId} {cs cs' : List Value} (h : Blk w b t cs) (o : Nat) (vs : List Value) (hn : o + vs.length ≤ cs.length) (hc : cs.take o ++ vs ++ cs.drop (o + vs.length) = cs') : Blk (w.setCells b o vs) b t cs' := by
  have hl : (cs.take o).length = o := by rw [List.length_take]; omega
  have h0 : cs = cs.take o ++ (cs.drop o).take vs.length ++ cs.drop (o + vs.length) := by
    rw [← List.drop_drop, List.append_assoc, List.take_append_drop, List.take_append_drop]
  subst hc
  unfold Blk at *
  rw [h0] at h
  have h2 := heap_setCells (suf := cs.drop (o + vs.length)) vs (cs.take o) ((cs.drop o).take vs.length) w (by rw [List.length_take, List.length_drop]; omega) h
  rwa [hl] at h2
section
variable {P : Program} {ops : Array Oper} {rest : List Oper} {o : Oper} {a : Act} {w : World} {Q : Exit → Act → World → Prop}
/-- a struct in the midst of a block is read -/
theorem wpl_loadm (hw : Region.wanted o (yielded ops a.tmps) = true) (T : TypeId) (x : Operand) (ho : o.op = .load T x) (b i : Nat) (hx : a.eval x = .pointer (some ⟨b, i, none⟩)) (t : TypeId) (cs : List Value) (hB : Blk w b t cs) (sub : List Value) (d : TypeDesc)
    (hu : P.underlying T = some d) (hd : d.isRow = true) (n : Nat) (hi : (P.info? T).map (·.size) = some n) (hs : (cs.drop i).take n = sub) (hn : sub.length = n)
    (h : wpList P ops Q rest (a.put o.dst (.agg sub.toArray)) w) : wpList P ops Q (o :: rest) a w := by
  subst hn
  exact wpl_want hw fun K hK => wp_load_mid T x ho b i hx sub d (hB.mid i sub hs) hu hd hi (hK _ _ h)
/-- a struct in the midst of a block is written -/
theorem wpl_storem (hw : Region.wanted o (yielded ops a.tmps) = true) (T : TypeId) (x y : Operand) (ho : o.op = .store T x y) (b i : Nat) (hx : a.eval x = .pointer (some ⟨b, i, none⟩)) (cells : Array Value) (hy : a.eval y = .agg cells) (vs : List Value) (hc : cells = vs.toArray) (t : TypeId) (cs cs' : List Value) (hB : Blk w b t cs)
    (n : Nat) (hi : (P.info? T).map (·.size) = some n) (hn : vs.length = n) (hl : i + n ≤ cs.length) (hcs : cs.take i ++ vs ++ cs.drop (i + n) = cs') (h1 : ∀ v ∈ vs, v.oneCell' = true)
    (h : ∀ w', Blk w' b t cs' → w.heap.size ≤ w'.heap.size → But b w w' → wpList P ops Q rest (a.put o.dst undef) w') : wpList P ops Q (o :: rest) a w := by
  subst hc hn
  refine wpl_want hw fun K hK => wp_store_mid T x y ho b i vs.toArray hx hy (by have := hB.thereMid i vs.length hl; simpa using this) (by simpa using hi) (all_oneCell_toArray h1) (hK _ _ (h _ (hB.storedMid i vs hl hcs) (Nat.le_of_eq (size_setCells _ _ _ _).symm) (but_setCells _ _ _ (World.grownBy.refl w _))))
/-- one cell is written: what then stands there is named -/
theorem wpl_storeg (hw : Region.wanted o (yielded ops a.tmps) = true) (T : TypeId) (x y : Operand) (ho : o.op = .store T x y) (b i : Nat) (hx : a.eval x = .pointer (some ⟨b, i, none⟩)) (v : Value) (hy : a.eval y = v) (hc : v.cells = #[v]) (h1 : v.oneCell' = true) (t : TypeId) (cs cs' : List Value) (hB : Blk w b t cs) (hlt : i < cs.length)
    (hi : (P.info? T).map (·.size) = some 1) (hcs : cs.set i v = cs')
    (h : ∀ w', Blk w' b t cs' → w.heap.size ≤ w'.heap.size → But b w w' → wpList P ops Q rest (a.put o.dst undef) w') : wpList P ops Q (o :: rest) a w := by
  subst hcs
  exact wpl_storef hw T x y ho b i hx v hy hc h1 t cs hB hlt hi h
end
end Go.Proofs.Ytdnmjeapihjabaa
namespace Go.Proofs.Ytdnmjeapihjabaa
open Go.RowKit
set_option linter.unusedSimpArgs false
set_option linter.unusedVariables false
set_option maxRecDepth 100000
def spanB (n : Int) : Bool := decide (0 ≤ n) && decide (n ≤ 9007199254740992)
def chk (s d p : Int) : Int := if 1 ≤ s ∧ s ≤ 16 ∧ 0 ≤ d ∧ d ≤ 9007199254740992 ∧ 0 ≤ p ∧ p ≤ 9007199254740992 then 0 else 3
abbrev root (s d p r : Int) : Value := .agg #[.int .i64 s, .int .i64 d, .int .i64 p, .int .u32 r]
abbrev rootOr (c s d p r : Int) : Value := root (z0 c s) (z0 c d) (z0 c p) (z0 c r)
set_option maxHeartbeats 400000 in
theorem isSpan_any (n : Int) (w : World) :
    Calls Try.prog 62 #[.int .i64 n] w fun e w' => e = .returned (.bool (decide (0 ≤ n ∧ n ≤ 9007199254740992))) ∧ w = w' := by
  by_cases h1 : 0 ≤ n <;> by_cases h2 : n ≤ 9007199254740992
  all_goals
    go_enter Try.func62, Try.ntmps62
    go_wp2
    go_ret
    exact ⟨by simp [*], rfl⟩
set_option maxHeartbeats 400000 in
theorem check_any (s d p r : Int) (w : World) :
    Calls Try.prog 46 #[root s d p r] w fun e w' => e = .returned (.int .i64 (chk s d p)) ∧ Below w.heap.size w w' := by
  go_enter Try.func46, Try.ntmps46
  go_wp2
  all_goals
    go_ret
    refine ⟨ret_int ?_, by (repeat (first | assumption | exact Below.refl _ _ | refine Below.drew ?_ | refine below_drewN ?_ _ | refine Below.setCell ?_ (by first | omega | (simp; done) | (simp <;> omega)) _ | refine Below.alloc ?_ (by first | omega | (simp; done) | (simp <;> omega)) _ | refine Below.trans ?_ (Below.mono (by assumption) (by first | omega | (simp; done) | (simp <;> omega)))))⟩
    unfold chk; simp at *; omega
theorem chk_ok {s d p : Int} (h : chk s d p = 0) : 1 ≤ s ∧ s ≤ 16 ∧ 0 ≤ d ∧ d ≤ 9007199254740992 ∧ 0 ≤ p ∧ p ≤ 9007199254740992 := by unfold chk at h; split at h <;> omega
theorem chk_03 (s d p : Int) : chk s d p = 0 ∨ chk s d p = 3 := by unfold chk; split <;> simp
def fieldsErr (s d p : Int) : Int := if chk s d p = 0 ∧ shortErr d = 0 then shortErr p else 3
theorem shortErr_03 (n : Int) : shortErr n = 0 ∨ shortErr n = 3 := by unfold shortErr; split <;> simp
set_option maxHeartbeats 400000 in
theorem fields_any (s d p r : Int) (w : World) :
    Calls Try.prog 49 #[root s d p r] w fun e w' => e = .returned (.tuple #[.int .u32 (z0 (fieldsErr s d p) (shortN d)), .int .u32 (z0 (fieldsErr s d p) (shortN p)), .int .i64 (fieldsErr s d p)]) ∧ Below w.heap.size w w' := by
  by_cases h : chk s d p = 0
  · obtain ⟨k1, k2, k3, k4, k5, k6⟩ := chk_ok h
    have h' : (chk s d p != 0) = false := by simpa using h
    rcases shortErr_03 d with hd | hd
    · have HE : Hid (fieldsErr s d p = shortErr p) := by show fieldsErr s d p = _; simp [fieldsErr, h, hd]
      have hd' : Hid (z0 (shortErr d) (shortN d) = shortN d) := z0_ok hd
      rcases shortErr_03 p with hp | hp
      · rw [HE.out, hp, z0_zero, z0_zero]
        have hp' : Hid (z0 (shortErr p) (shortN p) = shortN p) := z0_ok hp
        have hdd : (shortErr d != 0) = false := by simp [hd]
        have hpp : (shortErr p != 0) = false := by simp [hp]
        clear h hd hp
        go_enter Try.func49, Try.ntmps49
        go_wp2_with (first | (go_at_call 46; ((with_reducible refine (check_any _ _ _ _ _).mono ?_); rintro e w1 ⟨rfl, hb⟩; (have hS : (((w1).cell? ⟨w.heap.size, 0, none⟩ = some (.int .i64 s) ∧ (w1).cell? ⟨w.heap.size, 1, none⟩ = some (.int .i64 d) ∧ (w1).cell? ⟨w.heap.size, 2, none⟩ = some (.int .i64 p) ∧ (w1).cell? ⟨w.heap.size, 3, none⟩ = some (.int .u32 r) ∧ (∀ o, (w1).frozen? ⟨w.heap.size, o, none⟩ = false)) ∧ w.heap.size < (w1).heap.size ∧ Below w.heap.size w (w1)) := by ((go_split_ands; (repeat' apply And.intro) <;> first | assumption | (refine kept_cell hb ?_ ?_ <;> first | assumption | omega | (dsimp only; omega) | (simp <;> omega) | (simp [go_sem, *]; done)) | (refine kept_frozen hb ?_ ?_ <;> first | assumption | omega | (intro o; simp [go_sem, *]; done) | (dsimp only; omega) | (simp <;> omega)) | (intro o; simp [go_sem, *]; done) | (simp [go_sem, *]; done) | (simp <;> omega) | (have hq := hb.size; omega) | (have hq := hb.size; simp at hq; omega) | ((repeat (first | assumption | exact Below.refl _ _ | refine Below.drew ?_ | refine below_drewN ?_ _ | refine Below.setCell ?_ (by first | omega | (simp; done) | (simp <;> omega)) _ | refine Below.alloc ?_ (by first | omega | (simp; done) | (simp <;> omega)) _ | refine Below.trans ?_ (Below.mono (by assumption) (by first | omega | (simp; done) | (simp <;> omega))))); done)))); clear hb; go_split_ands)) | (go_at_call 64; ((with_reducible refine (short_any _ _ (by omega) (by omega)).mono ?_); rintro e w1 ⟨rfl, rfl⟩)))
        go_ret3
        exact ⟨tup3 (vint hd'.out) (vint hp'.out) rfl, by (repeat (first | assumption | exact Below.refl _ _ | refine Below.drew ?_ | refine below_drewN ?_ _ | refine Below.setCell ?_ (by first | omega | (simp; done) | (simp <;> omega)) _ | refine Below.alloc ?_ (by first | omega | (simp; done) | (simp <;> omega)) _ | refine Below.trans ?_ (Below.mono (by assumption) (by first | omega | (simp; done) | (simp <;> omega)))))⟩
      · rw [HE.out, hp, z0_three, z0_three]
        have hdd : (shortErr d != 0) = false := by simp [hd]
        have hpp : (shortErr p != 0) = true := by simp [hp]
        have HP := Lib.hid hp
        clear h hd hp
        go_enter Try.func49, Try.ntmps49
        go_wp2_with (first | (go_at_call 46; ((with_reducible refine (check_any _ _ _ _ _).mono ?_); rintro e w1 ⟨rfl, hb⟩; (have hS : (((w1).cell? ⟨w.heap.size, 0, none⟩ = some (.int .i64 s) ∧ (w1).cell? ⟨w.heap.size, 1, none⟩ = some (.int .i64 d) ∧ (w1).cell? ⟨w.heap.size, 2, none⟩ = some (.int .i64 p) ∧ (w1).cell? ⟨w.heap.size, 3, none⟩ = some (.int .u32 r) ∧ (∀ o, (w1).frozen? ⟨w.heap.size, o, none⟩ = false)) ∧ w.heap.size < (w1).heap.size ∧ Below w.heap.size w (w1)) := by ((go_split_ands; (repeat' apply And.intro) <;> first | assumption | (refine kept_cell hb ?_ ?_ <;> first | assumption | omega | (dsimp only; omega) | (simp <;> omega) | (simp [go_sem, *]; done)) | (refine kept_frozen hb ?_ ?_ <;> first | assumption | omega | (intro o; simp [go_sem, *]; done) | (dsimp only; omega) | (simp <;> omega)) | (intro o; simp [go_sem, *]; done) | (simp [go_sem, *]; done) | (simp <;> omega) | (have hq := hb.size; omega) | (have hq := hb.size; simp at hq; omega) | ((repeat (first | assumption | exact Below.refl _ _ | refine Below.drew ?_ | refine below_drewN ?_ _ | refine Below.setCell ?_ (by first | omega | (simp; done) | (simp <;> omega)) _ | refine Below.alloc ?_ (by first | omega | (simp; done) | (simp <;> omega)) _ | refine Below.trans ?_ (Below.mono (by assumption) (by first | omega | (simp; done) | (simp <;> omega))))); done)))); clear hb; go_split_ands)) | (go_at_call 64; ((with_reducible refine (short_any _ _ (by omega) (by omega)).mono ?_); rintro e w1 ⟨rfl, rfl⟩)))
        go_ret3
        exact ⟨tup3 rfl rfl (vint HP.out), by (repeat (first | assumption | exact Below.refl _ _ | refine Below.drew ?_ | refine below_drewN ?_ _ | refine Below.setCell ?_ (by first | omega | (simp; done) | (simp <;> omega)) _ | refine Below.alloc ?_ (by first | omega | (simp; done) | (simp <;> omega)) _ | refine Below.trans ?_ (Below.mono (by assumption) (by first | omega | (simp; done) | (simp <;> omega)))))⟩
    · have HE : Hid (fieldsErr s d p = 3) := by show fieldsErr s d p = _; simp [fieldsErr, hd]
      rw [HE.out, z0_three, z0_three]
      have hdd : (shortErr d != 0) = true := by simp [hd]
      have HP := Lib.hid hd
      clear h hd
      go_enter Try.func49, Try.ntmps49
      go_wp2_with (first | (go_at_call 46; ((with_reducible refine (check_any _ _ _ _ _).mono ?_); rintro e w1 ⟨rfl, hb⟩; (have hS : (((w1).cell? ⟨w.heap.size, 0, none⟩ = some (.int .i64 s) ∧ (w1).cell? ⟨w.heap.size, 1, none⟩ = some (.int .i64 d) ∧ (w1).cell? ⟨w.heap.size, 2, none⟩ = some (.int .i64 p) ∧ (w1).cell? ⟨w.heap.size, 3, none⟩ = some (.int .u32 r) ∧ (∀ o, (w1).frozen? ⟨w.heap.size, o, none⟩ = false)) ∧ w.heap.size < (w1).heap.size ∧ Below w.heap.size w (w1)) := by ((go_split_ands; (repeat' apply And.intro) <;> first | assumption | (refine kept_cell hb ?_ ?_ <;> first | assumption | omega | (dsimp only; omega) | (simp <;> omega) | (simp [go_sem, *]; done)) | (refine kept_frozen hb ?_ ?_ <;> first | assumption | omega | (intro o; simp [go_sem, *]; done) | (dsimp only; omega) | (simp <;> omega)) | (intro o; simp [go_sem, *]; done) | (simp [go_sem, *]; done) | (simp <;> omega) | (have hq := hb.size; omega) | (have hq := hb.size; simp at hq; omega) | ((repeat (first | assumption | exact Below.refl _ _ | refine Below.drew ?_ | refine below_drewN ?_ _ | refine Below.setCell ?_ (by first | omega | (simp; done) | (simp <;> omega)) _ | refine Below.alloc ?_ (by first | omega | (simp; done) | (simp <;> omega)) _ | refine Below.trans ?_ (Below.mono (by assumption) (by first | omega | (simp; done) | (simp <;> omega))))); done)))); clear hb; go_split_ands)) | (go_at_call 64; ((with_reducible refine (short_any _ _ (by omega) (by omega)).mono ?_); rintro e w1 ⟨rfl, rfl⟩)))
      go_ret3
      exact ⟨tup3 rfl rfl (vint HP.out), by (repeat (first | assumption | exact Below.refl _ _ | refine Below.drew ?_ | refine below_drewN ?_ _ | refine Below.setCell ?_ (by first | omega | (simp; done) | (simp <;> omega)) _ | refine Below.alloc ?_ (by first | omega | (simp; done) | (simp <;> omega)) _ | refine Below.trans ?_ (Below.mono (by assumption) (by first | omega | (simp; done) | (simp <;> omega)))))⟩
  · have HE : Hid (fieldsErr s d p = 3) := by show fieldsErr s d p = _; simp [fieldsErr, h]
    have h' : (chk s d p != 0) = true := by simpa using h
    have HC : Hid (chk s d p = 3) := (chk_03 s d p).resolve_left h
    rw [HE.out, z0_three, z0_three]
    clear h
    go_enter Try.func49, Try.ntmps49
    go_wp2_with (first | (go_at_call 46; ((with_reducible refine (check_any _ _ _ _ _).mono ?_); rintro e w1 ⟨rfl, hb⟩; (have hS : (((w1).cell? ⟨w.heap.size, 0, none⟩ = some (.int .i64 s) ∧ (w1).cell? ⟨w.heap.size, 1, none⟩ = some (.int .i64 d) ∧ (w1).cell? ⟨w.heap.size, 2, none⟩ = some (.int .i64 p) ∧ (w1).cell? ⟨w.heap.size, 3, none⟩ = some (.int .u32 r) ∧ (∀ o, (w1).frozen? ⟨w.heap.size, o, none⟩ = false)) ∧ w.heap.size < (w1).heap.size ∧ Below w.heap.size w (w1)) := by ((go_split_ands; (repeat' apply And.intro) <;> first | assumption | (refine kept_cell hb ?_ ?_ <;> first | assumption | omega | (dsimp only; omega) | (simp <;> omega) | (simp [go_sem, *]; done)) | (refine kept_frozen hb ?_ ?_ <;> first | assumption | omega | (intro o; simp [go_sem, *]; done) | (dsimp only; omega) | (simp <;> omega)) | (intro o; simp [go_sem, *]; done) | (simp [go_sem, *]; done) | (simp <;> omega) | (have hq := hb.size; omega) | (have hq := hb.size; simp at hq; omega) | ((repeat (first | assumption | exact Below.refl _ _ | refine Below.drew ?_ | refine below_drewN ?_ _ | refine Below.setCell ?_ (by first | omega | (simp; done) | (simp <;> omega)) _ | refine Below.alloc ?_ (by first | omega | (simp; done) | (simp <;> omega)) _ | refine Below.trans ?_ (Below.mono (by assumption) (by first | omega | (simp; done) | (simp <;> omega))))); done)))); clear hb; go_split_ands)) | (go_at_call 64; ((with_reducible refine (short_any _ _ (by omega) (by omega)).mono ?_); rintro e w1 ⟨rfl, rfl⟩)))
    go_ret3
    exact ⟨tup3 rfl rfl (vint HC.out), by (repeat (first | assumption | exact Below.refl _ _ | refine Below.drew ?_ | refine below_drewN ?_ _ | refine Below.setCell ?_ (by first | omega | (simp; done) | (simp <;> omega)) _ | refine Below.alloc ?_ (by first | omega | (simp; done) | (simp <;> omega)) _ | refine Below.trans ?_ (Below.mono (by assumption) (by first | omega | (simp; done) | (simp <;> omega)))))⟩
end Go.Proofs.Ytdnmjeapihjabaa
namespace Go.Proofs.Ytdnmjeapihjabaa
open Go.RowKit
set_option linter.unusedSimpArgs false
set_option linter.unusedVariables false
set_option maxRecDepth 100000
/-- the number whose bytes are l, most significant first -/
def stepB (n x : Int) : Int := (n * 256 + x) % 18446744073709551616
def numB (l : List Int) : Int := l.foldl stepB 0
theorem take_succ' (l : List Int) (k : Nat) (h : k < l.length) : l.take (k + 1) = l.take k ++ [atB l k] := by
  rw [List.take_add_one, List.getElem?_eq_getElem h]
  unfold atB; rw [List.getD_eq_getElem?_getD, List.getElem?_eq_getElem h]; rfl
theorem numB_succ (l : List Int) (k : Nat) (h : k < l.length) : numB (l.take (k + 1)) = stepB (numB (l.take k)) (atB l k) := by
  rw [take_succ' l k h]
  unfold numB
  rw [List.foldl_append]; rfl
theorem stepB_range (n x : Int) : 0 ≤ stepB n x ∧ stepB n x < 18446744073709551616 := by unfold stepB; omega
theorem foldB_range (l : List Int) : ∀ n : Int, 0 ≤ n ∧ n < 18446744073709551616 → 0 ≤ l.foldl stepB n ∧ l.foldl stepB n < 18446744073709551616 := by
  induction l with
  | nil => intro n h; exact h
  | cons x l ih => intro n h; exact ih _ (stepB_range n x)
theorem numB_range (l : List Int) : 0 ≤ numB l ∧ numB l < 18446744073709551616 := foldB_range l 0 (by omega)
theorem shl_or (n x : Int) (h0 : 0 ≤ n) (hx : 0 ≤ x ∧ x ≤ 255) : bits .or .u64 (IntKind.u64.wrap (n * 256)) x = stepB n x := by
  unfold stepB; rw [IntKind.wrap_u64, or_u64_8 _ _ (by omega) (by omega) (by omega) hx.1 (by omega) ]
  omega
set_option maxHeartbeats 400000 in
theorem sized_any (s : Int) (w : World) :
    Calls Try.prog 56 #[.int .i64 s] w fun e w' => e = .returned (.bool (decide (1 ≤ s ∧ s ≤ 8))) ∧ w = w' := by
  by_cases h1 : 1 ≤ s <;> by_cases h2 : s ≤ 8
  all_goals
    go_enter Try.func56, Try.ntmps56
    go_wp2
    go_ret
    exact ⟨by simp [*], rfl⟩
set_option maxHeartbeats 1000000 in
theorem number_any (A : Option Addr) (n c lo hi : Nat) (l : List Int) (w : World) (hn : l.length = n) (h : Bs w lo hi A l) (hm : l.length ≤ 9223372036854775807) :
    Calls Try.prog 54 #[.slice A n c] w fun e w' => e = .returned (.int .u64 (numB l)) ∧ w = w' := by
  subst hn
  go_enter Try.func54, Try.ntmps54
  go_wp2
  go_loop [3, 7] (fun n i => ∃ k : Nat, k ≤ l.length ∧ i = .int .i64 k ∧ n = .int .u64 (numB (l.take k))) (fun _ i => l.length - (intOf i).toNat)
  case atStart => exact ⟨0, by omega, rfl, by simp [numB]⟩
  case round =>
    obtain ⟨k, hk, rfl, rfl⟩ := hrel
    by_cases hlt : k < l.length
    · obtain ⟨b, o, rfl, _, _, hc⟩ := h.at (by omega)
      have hck := hc k hlt
      have hby := h.byt.at k
      have hS := numB_succ l k hlt
      have hr := numB_range (l.take k)
      have hO := shl_or (numB (l.take k)) (atB l k) hr.1 hby
      have hw : IntKind.u64.wrap (atB l k) = atB l k := by rw [IntKind.wrap_u64]; omega
      go_wp2
      exact ⟨⟨k + 1, by omega, by go_num, by rw [hS]⟩, by simp [intOf]; omega⟩
    · obtain rfl : k = l.length := by omega
      go_wp2
      go_ret
      exact ⟨by simp, rfl⟩
/-- what Get returns -/
def getE (n at_ s : Int) : Int := if 1 ≤ s ∧ s ≤ 8 then (if 0 ≤ at_ ∧ s ≤ n - at_ then 0 else 5) else 2
def getV (l : List Int) (at_ s : Int) : Int := numB ((l.drop at_.toNat).take s.toNat)
abbrev getR (l : List Int) (at_ s : Int) : Value := .tuple #[.int .u64 (z0 (getE l.length at_ s) (getV l at_ s)), .int .i64 (getE l.length at_ s)]
theorem getE_2 {n at_ s : Int} (h : ¬(1 ≤ s ∧ s ≤ 8)) : getE n at_ s = 2 := by simp [getE, h]
theorem getE_5 {n at_ s : Int} (h : 1 ≤ s ∧ s ≤ 8) (h' : ¬(0 ≤ at_ ∧ s ≤ n - at_)) : getE n at_ s = 5 := by simp only [getE, if_pos h, if_neg h']
theorem getE_0 {n at_ s : Int} (h : 1 ≤ s ∧ s ≤ 8) (h' : 0 ≤ at_ ∧ s ≤ n - at_) : getE n at_ s = 0 := by simp only [getE, if_pos h, if_pos h']
set_option maxHeartbeats 1000000 in
theorem get_any (A : Option Addr) (n c lo hi : Nat) (l : List Int) (at_ s : Int) (w : World) (hn : l.length = n) (h : Bs w lo hi A l) (hm : n ≤ c) (hc : c ≤ 9223372036854775807) (hat : at_ ≤ 9223372036854775807) :
    Calls Try.prog 32 #[.slice A n c, .int .i64 at_, .int .i64 s] w fun e w' => e = .returned (getR l at_ s) ∧ w = w' := by
  subst hn
  by_cases hs : 1 ≤ s ∧ s ≤ 8
  · by_cases ha : 0 ≤ at_ ∧ s ≤ l.length - at_
    · have HR : Hid (getR l at_ s = .tuple #[.int .u64 (getV l at_ s), .int .i64 0]) := by show getR l at_ s = _; rw [getR, getE_0 hs ha, z0_zero]
      obtain ⟨a, rfl⟩ : ∃ a : Nat, at_ = a := ⟨at_.toNat, by omega⟩
      obtain ⟨m, rfl⟩ : ∃ m : Nat, s = m := ⟨s.toNat, by omega⟩
      have hq := h.cutm a m
      have hlen : ((l.drop a).take m).length = m := by simp; omega
      have hs1 := hs.1
      have hs2 := hs.2
      have ha2 := ha.2
      go_enter Try.func32, Try.ntmps32
      go_wp2_with (first | (go_at_call 56; ((with_reducible refine (sized_any _ _).mono ?_); rintro e w1 ⟨rfl, rfl⟩)) | (go_at_call 54; ((with_reducible refine (number_any _ _ _ lo hi _ _ hlen hq (by omega)).mono ?_); rintro e w1 ⟨rfl, rfl⟩)))
      go_ret2
      exact ⟨ret_val HR.out.symm, rfl⟩
    · have HR : Hid (getR l at_ s = .tuple #[.int .u64 0, .int .i64 5]) := by show getR l at_ s = _; rw [getR, getE_5 hs ha]; rfl
      have hs1 := hs.1
      have hs2 := hs.2
      by_cases h0 : 0 ≤ at_
      · have h1 : l.length - at_ < s := by omega
        clear ha
        go_enter Try.func32, Try.ntmps32
        go_wp2_with (first | (go_at_call 56; ((with_reducible refine (sized_any _ _).mono ?_); rintro e w1 ⟨rfl, rfl⟩)))
        go_ret2
        exact ⟨ret_val HR.out.symm, rfl⟩
      · clear ha
        go_enter Try.func32, Try.ntmps32
        go_wp2_with (first | (go_at_call 56; ((with_reducible refine (sized_any _ _).mono ?_); rintro e w1 ⟨rfl, rfl⟩)))
        go_ret2
        exact ⟨ret_val HR.out.symm, rfl⟩
  · have HR : Hid (getR l at_ s = .tuple #[.int .u64 0, .int .i64 2]) := by show getR l at_ s = _; rw [getR, getE_2 hs]; rfl
    go_enter Try.func32, Try.ntmps32
    go_wp2_with (first | (go_at_call 56; ((with_reducible refine (sized_any _ _).mono ?_); rintro e w1 ⟨rfl, rfl⟩)))
    go_ret2
    exact ⟨ret_val HR.out.symm, rfl⟩
end Go.Proofs.Ytdnmjeapihjabaa
namespace Go.Proofs.Ytdnmjeapihjabaa
open Go.RowKit
set_option linter.unusedSimpArgs false
set_option linter.unusedVariables false
set_option maxRecDepth 100000
/-- the k lowest bytes of n, most significant first -/
def bytesB : Nat → Int → List Int
  | 0, _ => []
  | k + 1, n => bytesB k (n / 256) ++ [n % 256]
theorem bytesB_length (k : Nat) : ∀ n, (bytesB k n).length = k := by
  induction k with
  | zero => intro n; rfl
  | succ k ih => intro n; simp [bytesB, ih]
theorem bytesB_byt (k : Nat) : ∀ n, Byt (bytesB k n) := by
  induction k with
  | zero => intro n; exact Byt.nil
  | succ k ih => intro n; exact (ih _).app (Byt.nil.cons (by omega) (by omega))
theorem bytesB_at (k : Nat) : ∀ (n : Int) (i : Nat), i < k → atB (bytesB k n) i = n / 256 ^ (k - 1 - i) % 256 := by
  induction k with
  | zero => intro n i h; omega
  | succ k ih =>
    intro n i h
    unfold atB
    rw [bytesB, List.getD_eq_getElem?_getD]
    by_cases hi : i < k
    · rw [List.getElem?_append_left (by rw [bytesB_length]; exact hi), ← List.getD_eq_getElem?_getD]
      have := ih (n / 256) i hi
      unfold atB at this
      rw [this, Int.ediv_ediv_of_nonneg (by omega)]
      congr 2
      rw [show k + 1 - 1 - i = (k - 1 - i) + 1 by omega, Int.pow_succ, Int.mul_comm]
    · obtain rfl : i = k := by omega
      rw [List.getElem?_append_right (by rw [bytesB_length]; omega), bytesB_length]
      simp
theorem pow256 (k : Nat) : (2 : Int) ^ (8 * k) = 256 ^ k := by rw [Int.pow_mul]; rfl
def apE (n s : Int) : Int := if 1 ≤ s ∧ s ≤ 8 then (if n < 256 ^ s.toNat then 0 else 3) else 2
/-- the row during the loop of Append -/
def apRow (l bs : List Int) (k : Nat) : List Int := l ++ (bs.take k ++ List.replicate (bs.length - k) 0)
theorem apRow_length (l bs : List Int) (k : Nat) (hk : k ≤ bs.length) : (apRow l bs k).length = l.length + bs.length := by simp [apRow]; omega
theorem apRow_zero (l bs : List Int) : apRow l bs 0 = l ++ List.replicate bs.length 0 := by simp [apRow]
theorem apRow_all (l bs : List Int) : apRow l bs bs.length = l ++ bs := by simp [apRow]
theorem apRow_set (l bs : List Int) (k : Nat) (hk : k < bs.length) : (apRow l bs k).set (l.length + k) (atB bs k) = apRow l bs (k + 1) := by
  unfold apRow
  rw [List.set_append, if_neg (by omega), List.set_append, if_neg (by simp; omega), take_succ' bs k hk, List.append_assoc]
  congr 2
  rw [show bs.length - k = (bs.length - (k + 1)) + 1 by omega, List.replicate_succ]
  simp [show min k bs.length = k by omega]
set_option maxHeartbeats 1000000 in
theorem append_ok (A : Option Addr) (nl c lo hi : Nat) (l : List Int) (n : Int) (s : Nat) (w : World) (hnl : l.length = nl) (h : Bs w lo hi A l) (hh : hi ≤ w.heap.size) (hm : nl ≤ 140737488351232) (hn : 0 ≤ n ∧ n < 18446744073709551616) (hs1 : 1 ≤ s) (hs2 : s ≤ 8) (hf : n < 256 ^ s) :
    Calls Try.prog 53 #[.slice A nl c, .int .u64 n, .int .i64 s] w fun e w' => e = .returned (.tuple #[.slice (some ⟨w.heap.size, 0, none⟩) (nl + s) (nl + s), .int .i64 0]) ∧ Ow w' w.heap.size (some ⟨w.heap.size, 0, none⟩) (nl + s) (l ++ bytesB s n) ∧ w'.heap.size = w.heap.size + 1 ∧ Below w.heap.size w w' := by
  subst hnl
  have hn1 := hn.1
  have hn2 := hn.2
  have hi1 : (1 : Int) ≤ s := by omega
  have hi2 : (s : Int) ≤ 8 := by omega
  have hmk := fun W => makeU8 .i64 .i64 (l.length + s) (by omega) W
  rw [Int.natCast_add] at hmk
  have hq : (n / 2 ^ (8 * s) != 0) = false := by
    rw [pow256, Int.ediv_eq_zero_of_lt hn1 hf]; rfl
  have hO1 := Ow.made w (l.length + s) (by omega)
  have hB1 : Bs (w.alloc (.cells (madeCells #[.int .u8 0] (l.length + s)) 5)) lo hi A l := h.alloc hh _
  go_enter Try.func53, Try.ntmps53
  go_wp2_with (first | (go_at_call 56; ((with_reducible refine (sized_any _ _).mono ?_); rintro e w1 ⟨rfl, rfl⟩)) | (with_reducible refine wpList_copy_bs rfl (.tmp 27) (.tmp 28) rfl w.heap.size (l.length + s) (l.length + s) l.length c _ rfl rfl (by simp) rfl (by omega) hO1 hB1 ?_; intro w1 hO hg hz))
  all_goals
    have hO2 : Ow w1 w.heap.size (some ⟨w.heap.size, 0, none⟩) (l.length + s) (apRow l (bytesB s n) 0) := by
      rw [apRow_zero, bytesB_length]; simpa using hO
    have hb1 : Below w.heap.size w w1 := Below.trans ((Below.refl _ w).alloc (Nat.le_refl _) _) (below_of_grown hg (by simp) (by simp))
    have hz1 : w1.heap.size = w.heap.size + 1 := by simpa using hz
    clear hO hg hz hO1 hB1 hmk
    go_loopw [31] (fun i wr => ∃ k : Nat, k ≤ s ∧ i = .int .i64 k ∧ Ow wr w.heap.size (some ⟨w.heap.size, 0, none⟩) (l.length + s) (apRow l (bytesB s n) k) ∧ wr.heap.size = w.heap.size + 1 ∧ Below w.heap.size w wr) (fun i _ => s - (intOf i).toNat)
    case atStart => exact ⟨0, by omega, rfl, hO2, hz1, hb1⟩
    case round =>
      obtain ⟨k, hk, rfl, hR, hzr, hbr⟩ := hrel
      by_cases hlt : k < s
      · have hlen := apRow_length l (bytesB s n) k (by rw [bytesB_length]; omega)
        rw [bytesB_length] at hlen
        have hcell := hR.cell (k := l.length + k) (by omega)
        have hfz := hR.frozen (l.length + k)
        have hS := hR.set (l.length + k) (x := n / 2 ^ (8 * (s - 1 - k)) % 256) (by omega) (by omega)
        rw [show n / 2 ^ (8 * (s - 1 - k)) % 256 = atB (bytesB s n) k by rw [bytesB_at s n k hlt, pow256], apRow_set l (bytesB s n) k (by rw [bytesB_length]; omega)] at hS
        have hv := bytesB_at s n k hlt
        rw [← pow256] at hv
        rw [hv] at hS
        go_wp2
        exact ⟨⟨k + 1, by omega, by go_num, hS, by simpa [World.setCell] using hzr, hbr.setCell (by simp) _⟩, by simp [intOf]; omega⟩
      · obtain rfl : k = s := by omega
        go_wp2
        go_ret2
        refine ⟨rfl, ?_, hzr, hbr⟩
        have := apRow_all l (bytesB k n)
        rw [bytesB_length] at this
        rw [← this]; exact hR
theorem apE_2 {n s : Int} (h : ¬(1 ≤ s ∧ s ≤ 8)) : apE n s = 2 := by simp [apE, h]
theorem apE_3 {n : Int} {s : Nat} (h : 1 ≤ s ∧ s ≤ 8) (h' : ¬ n < 256 ^ s) : apE n s = 3 := by simp only [apE]; rw [if_pos (by omega), if_neg (by simpa using h')]
theorem apE_0 {n : Int} {s : Nat} (h : 1 ≤ s ∧ s ≤ 8) (h' : n < 256 ^ s) : apE n s = 0 := by simp only [apE]; rw [if_pos (by omega), if_pos (by simpa using h')]
theorem shr_ne (n : Int) (s : Nat) (hn : 0 ≤ n) (h : ¬ n < 256 ^ s) : (n / 2 ^ (8 * s) != 0) = true := by
  rw [pow256]
  have hp : (0 : Int) < 256 ^ s := Int.pow_pos (by omega)
  have h1 : 1 ≤ n / 256 ^ s := by rw [Int.le_ediv_iff_mul_le hp]; omega
  simp; omega
theorem pow8 (s : Nat) (h : 8 ≤ s) : (18446744073709551616 : Int) ≤ 256 ^ s := by
  rw [show s = 8 + (s - 8) by omega, Int.pow_add]
  have : (0 : Int) < 256 ^ (s - 8) := Int.pow_pos (by omega)
  have h2 : (256 : Int) ^ 8 = 18446744073709551616 := by decide
  rw [h2]; omega
set_option maxHeartbeats 1000000 in
theorem append_err (A : Option Addr) (c m : Nat) (n s : Int) (w : World) (hm : m ≤ 140737488351232) (hn : 0 ≤ n ∧ n < 18446744073709551616) (he : apE n s ≠ 0) :
    Calls Try.prog 53 #[.slice A m c, .int .u64 n, .int .i64 s] w fun e w' => e = .returned (.tuple #[.slice none 0 0, .int .i64 (apE n s)]) ∧ w = w' := by
  by_cases hs : 1 ≤ s ∧ s ≤ 8
  · obtain ⟨m, rfl⟩ : ∃ m : Nat, s = m := ⟨s.toNat, by omega⟩
    have hs1 := hs.1
    have hs2 := hs.2
    have hf : ¬ n < 256 ^ m := fun h => he (apE_0 (by omega) h)
    have hm8 : (m : Int) < 8 := by
      rcases Nat.lt_or_ge m 8 with h | h
      · omega
      · have := pow8 m h; omega
    have hq := shr_ne n m hn.1 hf
    have HR : Hid (apE n m = 3) := apE_3 (by omega) hf
    clear he hf
    go_enter Try.func53, Try.ntmps53
    go_wp2_with (first | (go_at_call 56; ((with_reducible refine (sized_any _ _).mono ?_); rintro e w1 ⟨rfl, rfl⟩)))
    go_ret2
    exact ⟨by rw [HR.out]; rfl, rfl⟩
  · have HR : Hid (apE n s = 2) := apE_2 hs
    clear he
    go_enter Try.func53, Try.ntmps53
    go_wp2_with (first | (go_at_call 56; ((with_reducible refine (sized_any _ _).mono ?_); rintro e w1 ⟨rfl, rfl⟩)))
    go_ret2
    exact ⟨by rw [HR.out]; rfl, rfl⟩
end Go.Proofs.Ytdnmjeapihjabaa
namespace Go.Proofs.Ytdnmjeapihjabaa
open Go.RowKit
set_option linter.unusedSimpArgs false
set_option linter.unusedVariables false
set_option maxRecDepth 100000
abbrev ntp (l v m st po pr rd rp id ref org rec xmt : Int) : Value := .agg #[.int .i64 l, .int .i64 v, .int .i64 m, .int .i64 st, .int .i64 po, .int .i64 pr, .int .u32 rd, .int .u32 rp, .int .u32 id, .int .u64 ref, .int .u64 org, .int .u64 rec, .int .u64 xmt]
def nchk (l v m st po pr : Int) : Int := if 0 ≤ l ∧ l ≤ 3 ∧ 1 ≤ v ∧ v ≤ 4 ∧ 0 ≤ m ∧ m ≤ 7 ∧ 0 ≤ st ∧ st ≤ 255 ∧ -128 ≤ po ∧ po ≤ 127 ∧ -128 ≤ pr ∧ pr ≤ 127 then 0 else 3
set_option maxHeartbeats 400000 in
theorem within_any (n lo hi : Int) (w : World) :
    Calls Try.prog 27 #[.int .i64 n, .int .i64 lo, .int .i64 hi] w fun e w' => e = .returned (.bool (decide (lo ≤ n ∧ n ≤ hi))) ∧ w = w' := by
  by_cases h1 : lo ≤ n <;> by_cases h2 : n ≤ hi
  all_goals
    go_enter Try.func27, Try.ntmps27
    go_wp2
    go_ret
    exact ⟨by simp [*], rfl⟩
set_option maxHeartbeats 1000000 in
theorem nchk_any (l v m st po pr rd rp id ref org rec xmt : Int) (w : World) :
    Calls Try.prog 43 #[ntp l v m st po pr rd rp id ref org rec xmt] w fun e w' => e = .returned (.int .i64 (nchk l v m st po pr)) ∧ Below w.heap.size w w' := by
  go_enter Try.func43, Try.ntmps43
  go_wp2_with (first | (go_at_call 27; ((with_reducible refine (within_any _ _ _ _).mono ?_); rintro e w1 ⟨rfl, rfl⟩)))
  all_goals
    go_ret
    refine ⟨ret_int ?_, by (repeat (first | assumption | exact Below.refl _ _ | refine Below.drew ?_ | refine below_drewN ?_ _ | refine Below.setCell ?_ (by first | omega | (simp; done) | (simp <;> omega)) _ | refine Below.alloc ?_ (by first | omega | (simp; done) | (simp <;> omega)) _ | refine Below.trans ?_ (Below.mono (by assumption) (by first | omega | (simp; done) | (simp <;> omega)))))⟩
    unfold nchk
    simp_all <;> omega
/-- numbers and their sizes, as put takes them -/
def flatC : List (Int × Nat) → List Value
  | [] => []
  | p :: ps => .int .u64 p.1 :: .int .u64 p.2 :: flatC ps
theorem flatC_len (ps : List (Int × Nat)) : (flatC ps).length = 2 * ps.length := by induction ps with
  | nil => rfl
  | cons p ps ih => simp [flatC, ih]; omega
theorem flatC_at (ps : List (Int × Nat)) : ∀ k (h : k < ps.length), (flatC ps)[2 * k]? = some (.int .u64 (ps[k]'h).1) ∧ (flatC ps)[2 * k + 1]? = some (.int .u64 (ps[k]'h).2) := by
  induction ps with
  | nil => intro k h; simp at h
  | cons p ps ih =>
    intro k h
    cases k with
    | zero => exact ⟨rfl, rfl⟩
    | succ k =>
      have := ih k (by simpa using h)
      rw [show 2 * (k + 1) = 2 * k + 1 + 1 by omega]
      simpa [flatC] using this
/-- the bytes of numbers -/
def encB (ps : List (Int × Nat)) : List Int := ps.flatMap fun p => bytesB p.2 p.1
/-- each number fits its size -/
def Fits (ps : List (Int × Nat)) : Prop := ∀ p ∈ ps, 0 ≤ p.1 ∧ p.1 < 18446744073709551616 ∧ 1 ≤ p.2 ∧ p.2 ≤ 8 ∧ p.1 < 256 ^ p.2
theorem encB_len (ps : List (Int × Nat)) (h : Fits ps) : (encB ps).length ≤ 8 * ps.length := by
  induction ps with
  | nil => simp [encB]
  | cons p ps ih =>
    have h1 := h p (by simp)
    have h2 := ih (fun q hq => h q (by simp [hq]))
    simp only [encB, List.flatMap_cons, List.length_append, bytesB_length, List.length_cons] at *
    omega
theorem encB_succ (ps : List (Int × Nat)) (k : Nat) (h : k < ps.length) : encB (ps.take (k + 1)) = encB (ps.take k) ++ bytesB (ps[k]'h).2 (ps[k]'h).1 := by
  have e : ps.take (k + 1) = ps.take k ++ [ps[k]'h] := by rw [List.take_add_one, List.getElem?_eq_getElem h]; rfl
  rw [e]
  unfold encB
  rw [List.flatMap_append]; simp
theorem Fits.take {ps : List (Int × Nat)} (h : Fits ps) (k : Nat) : Fits (ps.take k) := fun p hp => h p (List.mem_of_mem_take hp)
set_option maxHeartbeats 2000000 in
theorem put_any (g : Nat) (ps : List (Int × Nat)) (n c : Nat) (t : TypeId) (w : World) (hg : w.heap[g]? = some (.cells (flatC ps).toArray t (0, 0))) (hn : n = 2 * ps.length) (hf : Fits ps) (hm : ps.length ≤ 1000) :
    Calls Try.prog 51 #[.slice (some ⟨g, 0, none⟩) n c] w fun e w' => ∃ A c', e = .returned (.slice A (encB ps).length c') ∧ Bs w' w.heap.size w'.heap.size A (encB ps) ∧ (encB ps).length ≤ c' ∧ c' ≤ 9223372036854775807 ∧ Below w.heap.size w w' := by
  subst hn
  have hgl : g < w.heap.size := by
    rcases Nat.lt_or_ge g w.heap.size with h | h
    · exact h
    · rw [Array.getElem?_eq_none h] at hg; cases hg
  have hlen := flatC_len ps
  have hm2 : (2 * ps.length : Nat) ≤ 2000 := by omega
  obtain ⟨n2, hn2⟩ : ∃ n2, n2 = 2 * ps.length := ⟨_, rfl⟩
  rw [← hn2]
  have HN := Lib.hid hn2
  have hn3 : n2 ≤ 2000 := by omega
  clear hn2 hm2
  go_enter Try.func51, Try.ntmps51
  go_wp2
  go_loopw [3, 4] (fun v i wr => ∃ k j : Nat, k ≤ ps.length ∧ Hid (j = 2 * k) ∧ i = .int .i64 j ∧ ∃ A c' L, v = .slice A (List.length L) c' ∧ Hid (L = encB (ps.take k)) ∧ L.length ≤ c' ∧ c' ≤ 9223372036854775807 ∧ Bs wr w.heap.size wr.heap.size A L ∧ Below w.heap.size w wr) (fun _ i _ => 2 * ps.length - (intOf i).toNat)
  case atStart => exact ⟨0, 0, by omega, rfl, rfl, none, 0, [], rfl, rfl, by simp, by omega, Bs.nil, Below.refl _ _⟩
  case round =>
    obtain ⟨k, j, hk, HJ, rfl, A, c', L, rfl, HL, hLc, hcm, hB, hb⟩ := hrel
    have hsz := hb.size
    by_cases hlt : k < ps.length
    · have hL8 : L.length ≤ 8 * k := by
        rw [HL.out]
        have := encB_len (ps.take k) (hf.take k)
        rw [List.length_take] at this; omega
      have hgr := (hb.block g hgl).trans hg
      have hat := flatC_at ps k hlt
      have hfit := hf _ (List.getElem_mem hlt)
      have hT : encB (ps.take (k + 1)) = L ++ bytesB (ps[k]'hlt).2 (ps[k]'hlt).1 := by rw [encB_succ ps k hlt, HL.out]
      generalize (ps[k]'hlt).1 = N at hat hfit hT
      generalize (ps[k]'hlt).2 = S at hat hfit hT
      have hj0 := HJ.out
      have hc0 : wr.cell? ⟨g, j, none⟩ = some (.int .u64 N) := by rw [cell_of_row _ _ _ _ _ _ hgr, hj0]; simpa using hat.1
      have hc1 : wr.cell? ⟨g, j + 1, none⟩ = some (.int .u64 S) := by rw [cell_of_row _ _ _ _ _ _ hgr, hj0]; simpa using hat.2
      have hjn : j + 1 < n2 := by have := HN.out; omega
      have hjI : ((j : Nat) : Int) + 1 < n2 := by omega
      have hi0 : (0 : Int) ≤ j := by omega
      have hi1 : (j : Int) < n2 := by omega
      have hi2 : (0 : Int) ≤ (j : Int) + 1 := by omega
      have hwj : IntKind.i64.wrap ((j : Int) + 1) = (j : Int) + 1 := by rw [IntKind.wrap_i64]; omega
      have hwS : IntKind.i64.wrap (S : Int) = (S : Int) := by rw [IntKind.wrap_i64]; omega
      have HT := Lib.hid hT
      have hE := append_ok A L.length c' w.heap.size wr.heap.size L N S wr.drew rfl (hB.drew) (Nat.le_refl _) (by omega) ⟨hfit.1, hfit.2.1⟩ hfit.2.2.1 hfit.2.2.2.1 hfit.2.2.2.2
      clear hT hat hgr hj0 hg
      go_wp2_with fail
      go_region_held3 (fun w' => w'.cell? ⟨g, j, none⟩ = some (.int .u64 N) ∧ w'.cell? ⟨g, j + 1, none⟩ = some (.int .u64 S) ∧ Below w.heap.size w w') (refine ⟨?_, ?_, ?_⟩ <;> first | assumption | exact Below.drew (by assumption) | exact drew_cell (by assumption)) (first
        | (go_at_call 53; ((with_reducible refine hE.mono ?_); rintro e w5 ⟨rfl, hO5, z5, hb5⟩; (have b5 : Below w.heap.size w w5 := (Below.drew hb).trans (hb5.mono hsz)); (have q0 := kept_cell hb5 (drew_cell hc0) (by show g < _; exact Nat.lt_of_lt_of_le hgl hsz)); (have q1 := kept_cell hb5 (drew_cell hc1) (by show g < _; exact Nat.lt_of_lt_of_le hgl hsz)))))
      have hO5' : Ow w5 wr.heap.size (some ⟨wr.heap.size, 0, none⟩) (L.length + S) (L ++ bytesB S N) := hO5
      have hlenT : (encB (ps.take (k + 1))).length = L.length + S := by rw [HT.out, List.length_append, bytesB_length]
      rw [← HT.out] at hO5'
      have z5' : wr.heap.size < w5.heap.size := by have : w5.heap.size = wr.heap.size + 1 := z5; omega
      clear hO5 hE hc0 hc1 q0 q1
      go_wp2
      exact ⟨⟨k + 1, j + 2, by omega, (show j + 2 = 2 * (k + 1) by have := HJ.out; omega), by go_num, _, _, encB (ps.take (k + 1)), by rw [hlenT], rfl, by rw [hlenT]; exact Nat.le_refl _, by omega, hO5'.bs.wide (by omega) (Nat.le_refl _), b5⟩, by have := HJ.out; simp [intOf]; omega⟩
    · obtain rfl : k = ps.length := by omega
      rw [List.take_length] at HL
      obtain rfl : j = n2 := by have := HJ.out; have := HN.out; omega
      have hjn : ¬ ((j : Int) + 1 < j) := by omega
      have hjb : (j : Int) ≤ 2000 := by omega
      have hL' : L = encB ps := HL.out
      subst hL'
      clear hg
      go_wp2
      go_ret
      exact ⟨A, c', rfl, hB, hLc, hcm, hb⟩
theorem i64_or2 (l v m : Int) (hl : 0 ≤ l ∧ l ≤ 3) (hv : 1 ≤ v ∧ v ≤ 4) (hm : 0 ≤ m ∧ m ≤ 7) : bits .or .i64 (bits .or .i64 (l * 64) (v * 8)) m = l * 64 + v * 8 + m := by
  have hl' : l = 0 ∨ l = 1 ∨ l = 2 ∨ l = 3 := by omega
  have hv' : v = 1 ∨ v = 2 ∨ v = 3 ∨ v = 4 := by omega
  have hm' : m = 0 ∨ m = 1 ∨ m = 2 ∨ m = 3 ∨ m = 4 ∨ m = 5 ∨ m = 6 ∨ m = 7 := by omega
  rcases hl' with rfl | rfl | rfl | rfl <;> rcases hv' with rfl | rfl | rfl | rfl <;> rcases hm' with rfl | rfl | rfl | rfl | rfl | rfl | rfl | rfl <;> decide
/-- the fields of a header as numbers and sizes -/
def ntpPairs (l v m st po pr rd rp id ref org rec xmt : Int) : List (Int × Nat) :=
  [(l * 64 + v * 8 + m, 1), (st, 1), (po % 256, 1), (pr % 256, 1), (rd, 4), (rp, 4), (id, 4), (ref, 8), (org, 8), (rec, 8), (xmt, 8)]
def encH (l v m st po pr rd rp id ref org rec xmt : Int) : List Int := encB (ntpPairs l v m st po pr rd rp id ref org rec xmt)
theorem encH_len (l v m st po pr rd rp id ref org rec xmt : Int) : (encH l v m st po pr rd rp id ref org rec xmt).length = 48 := by simp [encH, ntpPairs, encB, bytesB_length]
theorem nchk_ok {l v m st po pr : Int} (h : nchk l v m st po pr = 0) : (0 ≤ l ∧ l ≤ 3) ∧ (1 ≤ v ∧ v ≤ 4) ∧ (0 ≤ m ∧ m ≤ 7) ∧ (0 ≤ st ∧ st ≤ 255) ∧ (-128 ≤ po ∧ po ≤ 127) ∧ (-128 ≤ pr ∧ pr ≤ 127) := by
  unfold nchk at h; split at h <;> omega
theorem kept13 {w w1 : World} {t : TypeId} {cs : Array Value} (hb : Below (w.alloc (.cells cs t)).heap.size (w.alloc (.cells cs t)) w1) : w1.heap[w.heap.size]? = some (.cells cs t (0, 0)) :=
  (hb.block _ (by simp)).trans (heap_alloc_new w _)
theorem cells13 {w : World} {g : Nat} {t : TypeId} {a0 a1 a2 a3 a4 a5 a6 a7 a8 a9 a10 a11 a12 : Value} (h : w.heap[g]? = some (.cells #[a0, a1, a2, a3, a4, a5, a6, a7, a8, a9, a10, a11, a12] t (0, 0))) :
    w.cell? ⟨g, 0, none⟩ = some a0 ∧ w.cell? ⟨g, 1, none⟩ = some a1 ∧ w.cell? ⟨g, 2, none⟩ = some a2 ∧ w.cell? ⟨g, 3, none⟩ = some a3 ∧ w.cell? ⟨g, 4, none⟩ = some a4 ∧ w.cell? ⟨g, 5, none⟩ = some a5 ∧ w.cell? ⟨g, 6, none⟩ = some a6 ∧ w.cell? ⟨g, 7, none⟩ = some a7 ∧ w.cell? ⟨g, 8, none⟩ = some a8 ∧ w.cell? ⟨g, 9, none⟩ = some a9 ∧ w.cell? ⟨g, 10, none⟩ = some a10 ∧ w.cell? ⟨g, 11, none⟩ = some a11 ∧ w.cell? ⟨g, 12, none⟩ = some a12 :=
  ⟨cell_of_row _ _ 0 _ _ _ h, cell_of_row _ _ 1 _ _ _ h, cell_of_row _ _ 2 _ _ _ h, cell_of_row _ _ 3 _ _ _ h, cell_of_row _ _ 4 _ _ _ h, cell_of_row _ _ 5 _ _ _ h, cell_of_row _ _ 6 _ _ _ h, cell_of_row _ _ 7 _ _ _ h, cell_of_row _ _ 8 _ _ _ h, cell_of_row _ _ 9 _ _ _ h, cell_of_row _ _ 10 _ _ _ h, cell_of_row _ _ 11 _ _ _ h, cell_of_row _ _ 12 _ _ _ h⟩
end Go.Proofs.Ytdnmjeapihjabaa
namespace Go.Proofs.Ytdnmjeapihjabaa
open Go.RowKit
set_option linter.unusedSimpArgs false
set_option linter.unusedVariables false
set_option maxRecDepth 100000
set_option maxHeartbeats 2000000 in
theorem encode_ok (l v m st po pr rd rp id ref org rec xmt : Int) (w : World) (hk : nchk l v m st po pr = 0) (h6 : 0 ≤ rd ∧ rd ≤ 4294967295) (h7 : 0 ≤ rp ∧ rp ≤ 4294967295) (h8 : 0 ≤ id ∧ id ≤ 4294967295)
    (h9 : 0 ≤ ref ∧ ref ≤ 18446744073709551615) (h10 : 0 ≤ org ∧ org ≤ 18446744073709551615) (h11 : 0 ≤ rec ∧ rec ≤ 18446744073709551615) (h12 : 0 ≤ xmt ∧ xmt ≤ 18446744073709551615) :
    Calls Try.prog 22 #[ntp l v m st po pr rd rp id ref org rec xmt] w fun e w' => ∃ A c, e = .returned (.tuple #[.slice A 48 c, .int .i64 0]) ∧ Bs w' w.heap.size w'.heap.size A (encH l v m st po pr rd rp id ref org rec xmt) ∧ 48 ≤ c ∧ c ≤ 9223372036854775807 ∧ Below w.heap.size w w' := by
  obtain ⟨kl, kv, km, kst, kpo, kpr⟩ := nchk_ok hk
  have ho := i64_or2 l v m kl kv km
  have hw1 : IntKind.u64.wrap (l * 64 + v * 8 + m) = l * 64 + v * 8 + m := by rw [IntKind.wrap_u64]; omega
  have hw2 : IntKind.u64.wrap st = st := by rw [IntKind.wrap_u64]; omega
  have hw3 : IntKind.u64.wrap (po % 256) = po % 256 := by rw [IntKind.wrap_u64]; omega
  have hw4 : IntKind.u64.wrap (pr % 256) = pr % 256 := by rw [IntKind.wrap_u64]; omega
  have hw5 : IntKind.u64.wrap rd = rd := by rw [IntKind.wrap_u64]; omega
  have hw6 : IntKind.u64.wrap rp = rp := by rw [IntKind.wrap_u64]; omega
  have hw7 : IntKind.u64.wrap id = id := by rw [IntKind.wrap_u64]; omega
  have hw8 : IntKind.u8.wrap po = po % 256 := IntKind.wrap_u8 _
  have hw9 : IntKind.u8.wrap pr = pr % 256 := IntKind.wrap_u8 _
  have hf : Fits (ntpPairs l v m st po pr rd rp id ref org rec xmt) := by
    intro p hp
    simp only [ntpPairs, List.mem_cons, List.not_mem_nil, or_false] at hp
    rcases hp with rfl | rfl | rfl | rfl | rfl | rfl | rfl | rfl | rfl | rfl | rfl <;> simp <;> omega
  have hc := nchk_any l v m st po pr rd rp id ref org rec xmt
  simp only [hk] at hc
  go_enter Try.func22, Try.ntmps22
  go_wp2_with (first | (go_at_call 43; ((with_reducible refine (hc _).mono ?_); rintro e w1 ⟨rfl, hb1⟩; (have q := cells13 (kept13 hb1)); (obtain ⟨q0, q1, q2, q3, q4, q5, q6, q7, q8, q9, q10, q11, q12⟩ := q))))
  have hP := put_any w1.heap.size (ntpPairs l v m st po pr rd rp id ref org rec xmt) 22 22 24 (w1.alloc (.cells #[.int .u64 (l * 64 + v * 8 + m), .int .u64 1, .int .u64 st, .int .u64 1, .int .u64 (po % 256), .int .u64 1, .int .u64 (pr % 256), .int .u64 1, .int .u64 rd, .int .u64 4, .int .u64 rp, .int .u64 4, .int .u64 id, .int .u64 4, .int .u64 ref, .int .u64 8, .int .u64 org, .int .u64 8, .int .u64 rec, .int .u64 8, .int .u64 xmt, .int .u64 8] 24)) (heap_alloc_new w1 _) rfl hf (by simp [ntpPairs])
  have hl48 : (encB (ntpPairs l v m st po pr rd rp id ref org rec xmt)).length = 48 := encH_len l v m st po pr rd rp id ref org rec xmt
  rw [hl48] at hP
  with_reducible refine hP.mono ?_
  rintro e w2 ⟨A, c, rfl, hB, hc48, hcm, hb2⟩
  have b1 : Below w.heap.size w w1 := ((Below.refl w.heap.size w).alloc (Nat.le_refl _) _).trans (hb1.mono (by simp))
  have b2 : Below w.heap.size w w2 := (b1.alloc b1.size _).trans (hb2.mono (by have := b1.size; simp; omega))
  clear q0 q1 q2 q3 q4 q5 q6 q7 q8 q9 q10 q11 q12 hP hb1
  go_wp2
  go_ret2
  exact ⟨A, c, rfl, hB.wide (by have := b1.size; simp; omega) (Nat.le_refl _), hc48, hcm, b2⟩
theorem nchk_3 {l v m st po pr : Int} (h : nchk l v m st po pr ≠ 0) : nchk l v m st po pr = 3 := by unfold nchk at *; split <;> simp_all
set_option maxHeartbeats 1000000 in
theorem encode_err (l v m st po pr rd rp id ref org rec xmt : Int) (w : World) (hk : nchk l v m st po pr = 3) :
    Calls Try.prog 22 #[ntp l v m st po pr rd rp id ref org rec xmt] w fun e w' => e = .returned (.tuple #[.slice none 0 0, .int .i64 3]) ∧ Below w.heap.size w w' := by
  have hc := nchk_any l v m st po pr rd rp id ref org rec xmt
  simp only [hk] at hc
  go_enter Try.func22, Try.ntmps22
  go_wp2_with (first | (go_at_call 43; ((with_reducible refine (hc _).mono ?_); rintro e w1 ⟨rfl, hb1⟩)))
  have b1 : Below w.heap.size w w1 := ((Below.refl w.heap.size w).alloc (Nat.le_refl _) _).trans (hb1.mono (by simp))
  go_ret2
  exact ⟨rfl, b1⟩
end Go.Proofs.Ytdnmjeapihjabaa
