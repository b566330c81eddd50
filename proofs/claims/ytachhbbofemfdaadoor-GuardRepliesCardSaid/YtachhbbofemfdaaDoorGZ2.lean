/- Structs inside structs: the laws of load and store in the midst of a block that is known whole. No function of the program occurs here. Slices of structs that came in: each element's cells; the laws of load where a range of cells is known. No function of the program occurs here. A byte slice that came in, opened: what its cells hold, its bounds. Lists of extension fields in memory; a list that came in, opened. What the functions of package wire that read numbers compute, and those of its reference. What the functions of package wire that make memory compute, and those of its reference. Extension fields: what Check, Append and Parse compute, and the plain laws between them. No function of the program occurs here. append of cells of whatever type to a row of the call's own. No function of the program occurs here. -/
import Derived.Test.YtachhbbofemfdaaDoorGZ1
import Derived.Deep.Slices
import Derived.SizedLaws
import Derived.OpenShut
namespace Go.Proofs.YtachhbbofemfdaaDoor
open Go.RowKit
set_option linter.unusedSimpArgs false
set_option linter.unusedVariables false
set_option maxRecDepth 100000
theorem But.new {g b : Nat} {a c d : World} (h : But g a c) (k : But b c d) (hb : a.heap.size ≤ b) : But g a d :=
  ⟨k.os.trans h.os, k.tape.trans h.tape, k.output.trans h.output, Nat.le_trans h.size k.size, fun i hi hn => (k.block i (by have := h.size; omega) (by simp; omega)).trans (h.block i hi hn)⟩
theorem But.then {g B : Nat} {a c d : World} (h : But g a c) (k : Below B c d) (hb : a.heap.size ≤ B) : But g a d :=
  ⟨k.os.trans h.os, k.tape.trans h.tape, k.output.trans h.output, Nat.le_trans h.size k.size, fun i hi hn => (k.block i (by omega)).trans (h.block i hi hn)⟩
theorem But.refl (g : Nat) (w : World) : But g w w := World.grownBy.refl w _
theorem Blk.mid {w : World} {b : Nat} {t : TypeId} {cs : List Value} (h : Blk w b t cs) (o : Nat) (sub : List Value) (hs : (cs.drop o).take sub.length = sub) : w.rangeAt b o sub := fun j v hv => by
  have hj : j < sub.length := (List.getElem?_eq_some_iff.1 hv).1
  rw [← hs, List.getElem?_take, if_pos hj, List.getElem?_drop] at hv
  exact h.cell hv
theorem Blk.thereMid {w : World} {b : Nat} {t : TypeId} {cs : List Value} (h : Blk w b t cs) (o n : Nat) (hn : o + n ≤ cs.length) : w.there b o n := fun j hj => by
  have := h.there (o + j) (by omega)
  rwa [Nat.zero_add] at this
theorem Blk.storedMid {w : World} {b : Nat} {t : TypeId} {cs cs' : List Value} (h : Blk w b t cs) (o : Nat) (vs : List Value) (hn : o + vs.length ≤ cs.length) (hc : cs.take o ++ vs ++ cs.drop (o + vs.length) = cs') : Blk (w.setCells b o vs) b t cs' := by
  have hl : (cs.take o).length = o := by rw [List.length_take]; omega
  have h0 : cs = cs.take o ++ (cs.drop o).take vs.length ++ cs.drop (o + vs.length) := by
    rw [← List.drop_drop, List.append_assoc, List.take_append_drop, List.take_append_drop]
  subst hc
  unfold Blk at *
  rw [h0] at h
  have h2 := heap_setCells (suf := cs.drop (o + vs.length)) vs (cs.take o) ((cs.drop o).take vs.length) w (by rw [List.length_take, List.length_drop]; omega) h
  rwa [hl] at h2
section
variable {P : Program} {ops : Array Oper} {rest : List Oper} {o : Oper} {a : Act} {w : World} {Q : Exit → Act → World → Prop}
/-- a struct in the midst of a block is read -/
theorem wpl_loadm (hw : Region.wanted o (yielded ops a.tmps) = true) (T : TypeId) (x : Operand) (ho : o.op = .load T x) (b i : Nat) (hx : a.eval x = .pointer (some ⟨b, i, none⟩)) (t : TypeId) (cs : List Value) (hB : Blk w b t cs) (sub : List Value) (d : TypeDesc)
    (hu : P.underlying T = some d) (hd : d.isRow = true) (n : Nat) (hi : (P.info? T).map (·.size) = some n) (hs : (cs.drop i).take n = sub) (hn : sub.length = n)
    (h : wpList P ops Q rest (a.put o.dst (.agg sub.toArray)) w) : wpList P ops Q (o :: rest) a w := by
  subst hn
  exact wpl_want hw fun K hK => wp_load_mid T x ho b i hx sub d (hB.mid i sub hs) hu hd hi (hK _ _ h)
/-- a struct in the midst of a block is written -/
theorem wpl_storem (hw : Region.wanted o (yielded ops a.tmps) = true) (T : TypeId) (x y : Operand) (ho : o.op = .store T x y) (b i : Nat) (hx : a.eval x = .pointer (some ⟨b, i, none⟩)) (cells : Array Value) (hy : a.eval y = .agg cells) (vs : List Value) (hc : cells = vs.toArray) (t : TypeId) (cs cs' : List Value) (hB : Blk w b t cs)
    (n : Nat) (hi : (P.info? T).map (·.size) = some n) (hn : vs.length = n) (hl : i + n ≤ cs.length) (hcs : cs.take i ++ vs ++ cs.drop (i + n) = cs') (h1 : ∀ v ∈ vs, v.oneCell' = true)
    (h : ∀ w', Blk w' b t cs' → w.heap.size ≤ w'.heap.size → But b w w' → wpList P ops Q rest (a.put o.dst undef) w') : wpList P ops Q (o :: rest) a w := by
  subst hc hn
  refine wpl_want hw fun K hK => wp_store_mid T x y ho b i vs.toArray hx hy (by have := hB.thereMid i vs.length hl; simpa using this) (by simpa using hi) (all_oneCell_toArray h1) (hK _ _ (h _ (hB.storedMid i vs hl hcs) (Nat.le_of_eq (size_setCells _ _ _ _).symm) (but_setCells _ _ _ (World.grownBy.refl w _))))
/-- one cell is written: what then stands there is named -/
theorem wpl_storeg (hw : Region.wanted o (yielded ops a.tmps) = true) (T : TypeId) (x y : Operand) (ho : o.op = .store T x y) (b i : Nat) (hx : a.eval x = .pointer (some ⟨b, i, none⟩)) (v : Value) (hy : a.eval y = v) (hc : v.cells = #[v]) (h1 : v.oneCell' = true) (t : TypeId) (cs cs' : List Value) (hB : Blk w b t cs) (hlt : i < cs.length)
    (hi : (P.info? T).map (·.size) = some 1) (hcs : cs.set i v = cs')
    (h : ∀ w', Blk w' b t cs' → w.heap.size ≤ w'.heap.size → But b w w' → wpList P ops Q rest (a.put o.dst undef) w') : wpList P ops Q (o :: rest) a w := by
  subst hcs
  exact wpl_storef hw T x y ho b i hx v hy hc h1 t cs hB hlt hi h
end
end Go.Proofs.YtachhbbofemfdaaDoor
namespace Go.Proofs.YtachhbbofemfdaaDoor
open Go.ChangeShapes Go.WideShapes Go.ChangeAt Go.RowKit Go.Joins
set_option linter.unusedSimpArgs false
set_option linter.unusedVariables false
set_option maxRecDepth 100000
/-- n rows of s cells each in a block below hi -/
def Sl (w : World) (hi : Nat) (A : Option Addr) (n s : Nat) (F : Nat → List Value) : Prop :=
  0 < n → ∃ b o, A = some ⟨b, o, none⟩ ∧ b < hi ∧ ∀ k, k < n → (F k).length = s ∧ w.rangeAt b (o + k * s) (F k)
theorem range_below {w w' : World} {b o B : Nat} {cs : List Value} (h : w.rangeAt b o cs) (hb : Below B w w') (h1 : b < B) : w'.rangeAt b o cs := fun j v hv => (hb.cell (p := ⟨b, o + j, none⟩) h1).trans (h j v hv)
theorem range_but {w w' : World} {b o g : Nat} {cs : List Value} (h : w.rangeAt b o cs) (hb : But g w w') (h1 : b ≠ g) : w'.rangeAt b o cs := fun j v hv => (World.cell?_of_block (hb.block b (World.block_lt_of_cell? w _ (h j v hv)) (by simpa using h1))).trans (h j v hv)
theorem range_cell {w : World} {b o : Nat} {cs : List Value} (h : w.rangeAt b o cs) (i : Nat) {v : Value} (hv : cs[i]? = some v) : w.cell? ⟨b, o + i, none⟩ = some v := h i v hv
theorem range_mid {w : World} {b o : Nat} {cs : List Value} (h : w.rangeAt b o cs) (i : Nat) (sub : List Value) (hs : (cs.drop i).take sub.length = sub) : w.rangeAt b (o + i) sub := fun j v hv => by
  have hj : j < sub.length := (List.getElem?_eq_some_iff.1 hv).1
  rw [← hs, List.getElem?_take, if_pos hj, List.getElem?_drop] at hv
  rw [Nat.add_assoc]
  exact h (i + j) v hv
section
variable {w w' : World} {hi n s : Nat} {A : Option Addr} {F : Nat → List Value}
theorem Sl.below {B : Nat} (h : Sl w hi A n s F) (hb : Below B w w') (h1 : hi ≤ B) : Sl w' hi A n s F := fun hn => by
  obtain ⟨b, o, e, h2, hc⟩ := h hn
  exact ⟨b, o, e, h2, fun k hk => ⟨(hc k hk).1, range_below (hc k hk).2 hb (by omega)⟩⟩
theorem Sl.less {m : Nat} (h : Sl w hi A n s F) (hm : m ≤ n) : Sl w hi A m s F := fun hn => by
  obtain ⟨b, o, e, h2, hc⟩ := h (by omega)
  exact ⟨b, o, e, h2, fun k hk => hc k (by omega)⟩
end
section
variable {H : Type} {enc : TypeId × Value → H} {P : Program}
theorem open_rows {W : World} {base : Nat} {v : Value} {d : DataW H} {ps : List MemPlace} {T E : TypeId} {s : Nat} (Pf : List Value → Prop) (ht : P.underlying T = some (.slice E)) (hc : P.cellsOf E = s) (hs : 0 < s)
    (hP : ∀ fuel cs x, DataW.trod enc P W 0 (fun _ => true) true fuel E cs = some x → Pf cs)
    (hval : Value.okWide P W .any base T v) (h1 : DataW.Trod enc P W 0 (fun _ => true) true T v d ps) :
    ∃ (A : Option Addr) (n c : Nat) (F : Nat → List Value), v = .slice A n c ∧ Sl W W.heap.size A n s F ∧ n ≤ c ∧ c ≤ 9223372036854775807 ∧ (A = none → n = 0 ∧ c = 0) ∧ (∀ k, k < n → Pf (F k)) := by
  obtain ⟨a1, len, cap, rfl⟩ := okWide_slice ht hval
  obtain ⟨fuel, hf⟩ := h1
  rcases Go.Deep.open_slice ht hf with ⟨hcs, hx⟩ | ⟨a, len', cap', m, n, D, Pl, hcs, _, hl, hm, hmm, hx, hcell⟩
  · simp [Value.cells] at hcs
    obtain ⟨rfl, rfl, rfl⟩ := hcs
    exact ⟨none, 0, 0, fun _ => [], rfl, fun h => absurd h (by omega), Nat.le_refl _, by omega, fun _ => ⟨rfl, rfl⟩, fun k hk => by omega⟩
  · simp [Value.cells] at hcs
    obtain ⟨rfl, rfl, rfl⟩ := hcs
    simp only [if_true] at hmm
    subst hmm
    rw [hc] at hcell
    obtain ⟨F, hF⟩ := Go.Deep.choose_lt (fun i hi => hcell i hi)
    refine ⟨some a, len, m, F, rfl, fun hp => ?_, hl, (by unfold maxLen at hm; exact hm), (fun h => by cases h), fun k hk => hP _ _ _ (hF k (by omega)).2⟩
    obtain ⟨ab, ao, spot⟩ := a
    obtain ⟨_, hlen, hcl⟩ := World.cells?_some (hF 0 (by omega)).1
    have h0 := hcl 0 hs
    rw [List.getElem?_eq_getElem (by omega)] at h0
    have hspot : spot = none := by simpa [Addr.add] using World.cell?_spot h0
    subst hspot
    refine ⟨ab, ao, rfl, ?_, fun k hk => ?_⟩
    · have := World.block_lt_of_cell? W _ h0
      simpa [ofAdd] using this
    · obtain ⟨_, hlen, hcl⟩ := World.cells?_some (hF k (by omega)).1
      refine ⟨hlen, fun j u hu => ?_⟩
      have hj : j < s := by rw [← hlen]; exact (List.getElem?_eq_some_iff.1 hu).1
      have := hcl j hj
      rw [ofAdd, ofAdd, hu] at this
      exact this
end
section
variable {P : Program} {ops : Array Oper} {rest : List Oper} {o : Oper} {a : Act} {w : World} {Q : Exit → Act → World → Prop}
/-- a struct is read where a range of cells is known -/
theorem wpl_loadr (hw : Region.wanted o (yielded ops a.tmps) = true) (T : TypeId) (x : Operand) (ho : o.op = .load T x) (b i : Nat) (hx : a.eval x = .pointer (some ⟨b, i, none⟩)) (sub : List Value) (hr : w.rangeAt b i sub) (d : TypeDesc)
    (hu : P.underlying T = some d) (hd : d.isRow = true) (n : Nat) (hi : (P.info? T).map (·.size) = some n) (hn : sub.length = n)
    (h : wpList P ops Q rest (a.put o.dst (.agg sub.toArray)) w) : wpList P ops Q (o :: rest) a w := by
  subst hn
  exact wpl_want hw fun K hK => wp_load_mid T x ho b i hx sub d hr hu hd hi (hK _ _ h)
/-- one cell is read where it is known -/
theorem wpl_loadc (hw : Region.wanted o (yielded ops a.tmps) = true) (T : TypeId) (x : Operand) (ho : o.op = .load T x) (b i : Nat) (hx : a.eval x = .pointer (some ⟨b, i, none⟩)) (v : Value) (hcell : w.cell? ⟨b, i, none⟩ = some v) (d : TypeDesc)
    (hu : P.underlying T = some d) (hd : d.isRow = false)
    (h : wpList P ops Q rest (a.put o.dst v) w) : wpList P ops Q (o :: rest) a w := by
  refine wpl_want hw fun K hK => ?_
  have hagg : (isAgg T).run P w = .ok false w := by
    unfold isAgg
    rw [Sem.run_bind, run_underlying hu w]
    cases d <;> simp_all
  have hr : (Instr.loadAt T (.pointer (some ⟨b, i, none⟩))).run P w = .ok v w := by
    simp [Instr.loadAt, Instr.sureAddr, loadVar, Sem.run_bind, hagg, hcell, go_sem]
  unfold Oper.wp execOp
  simp only [ho, hx, Sem.run_bind, hr, Result.andThen_ok, Sem.run_pure]
  exact hK _ _ h
end
end Go.Proofs.YtachhbbofemfdaaDoor
namespace Go.Proofs.YtachhbbofemfdaaDoor
open Go.ChangeShapes Go.WideShapes Go.ChangeAt Go.RowKit Go.Joins
set_option linter.unusedSimpArgs false
set_option linter.unusedVariables false
set_option maxRecDepth 100000
theorem cellsU8 : Tryd.prog.cellsOf 5 = 1 := by kernel_rfl
theorem bytesU8 : Tryd.prog.bytesOf 5 = 1 := by kernel_rfl
section
variable {H : Type} {enc : TypeId × Value → H}
theorem open_bs {W : World} {base : Nat} {v : Value} {d : DataW H} {ps : List MemPlace} (hval : Value.okWide Tryd.prog W .any base 23 v) (h1 : DataW.Trod enc Tryd.prog W 0 (fun _ => true) true 23 v d ps) :
    ∃ (A : Option Addr) (n c : Nat) (l : List Int), v = .slice A n c ∧ l.length = n ∧ Bs W 0 W.heap.size A l ∧ n ≤ c ∧ (A = none → n = 0 ∧ c = 0) ∧
      (∀ {ts : List TypeId} {ds : List (DataW H)}, (DataW.weightsEach Tryd.prog ts ds).all (· ≤ reachBytes) = true → ∀ {j : Nat}, ts[j]? = some 23 → ds[j]? = some d → c ≤ 140737488351232) := by
  obtain ⟨a1, len, cap, rfl⟩ := okWide_slice Tryd.underlying23 hval
  obtain ⟨fuel, hf⟩ := h1
  rcases open_ints Tryd.underlying23 Tryd.underlying5 cellsU8 hf with ⟨hcs, hx⟩ | ⟨a, len', cap', zs, hcs, _, hl, hm, hz, hx, hcell, hwz⟩
  · simp [Value.cells] at hcs
    obtain ⟨rfl, rfl, rfl⟩ := hcs
    exact ⟨none, 0, 0, [], rfl, rfl, Bs.nil, Nat.le_refl _, fun _ => ⟨rfl, rfl⟩, fun _ _ _ _ => by omega⟩
  · simp [Value.cells] at hcs
    obtain ⟨rfl, rfl, rfl⟩ := hcs
    simp only [Prod.mk.injEq] at hx
    obtain ⟨rfl, rfl⟩ := hx
    simp only [if_true] at hz
    refine ⟨some a, len, cap, zs.take len, rfl, by rw [List.length_take]; omega, ?_, hl, (by intro h; cases h), fun {ts ds} hsz {j} ht hd => ?_⟩
    · refine ⟨fun x hx => ?_, fun hp => ?_⟩
      · exact bounds_u8 (hwz x (List.mem_of_mem_take hx))
      · rw [List.length_take] at hp
        obtain ⟨ab, ao, spot⟩ := a
        have h0 := hcell 0 (by omega)
        have hspot : spot = none := by simpa [Addr.add] using World.cell?_spot h0
        subst hspot
        refine ⟨ab, ao, rfl, Nat.zero_le _, ?_, fun k hk => ?_⟩
        · have := World.block_lt_of_cell? W _ h0
          simpa [ofAdd] using this
        · rw [List.length_take] at hk
          have hck := hcell k (by omega)
          rw [ofAdd] at hck
          rw [hck]
          have hkl : k < len := by omega
          simp [atB, List.getD_eq_getElem?_getD, List.getElem?_take, hkl]
    · have h := sized_slice hsz ht hd Tryd.underlying23
      rw [bytesU8] at h
      simp [lits, reachBytes] at h
      omega
end
end Go.Proofs.YtachhbbofemfdaaDoor
namespace Go.Proofs.YtachhbbofemfdaaDoor
open Go.ChangeShapes Go.WideShapes Go.ChangeAt Go.RowKit Go.Joins
set_option linter.unusedSimpArgs false
set_option linter.unusedVariables false
set_option maxRecDepth 100000
/-- the kind and the bytes of field k -/
def kdL (L : List (Int × List Int)) (k : Nat) : Int := (L.getD k (0, [])).1
def dtL (L : List (Int × List Int)) (k : Nat) : List Int := (L.getD k (0, [])).2
/-- a field's two cells, and its bytes in blocks below hi -/
def Xf (w : World) (hi b o : Nat) (kd : Int) (dt : List Int) : Prop :=
  ∃ A c, w.cell? ⟨b, o, none⟩ = some (.int .i64 kd) ∧ w.cell? ⟨b, o + 1, none⟩ = some (.slice A dt.length c) ∧ Bs w 0 hi A dt ∧ dt.length ≤ c ∧ c ≤ 9223372036854775807 ∧ (A = none → dt.length = 0 ∧ c = 0)
/-- a slice address of the fields L, all in blocks below hi -/
def Xs (w : World) (hi : Nat) (A : Option Addr) (L : List (Int × List Int)) : Prop :=
  0 < L.length → ∃ b o, A = some ⟨b, o, none⟩ ∧ b < hi ∧ ∀ k, k < L.length → Xf w hi b (o + k * 2) (kdL L k) (dtL L k)
section
variable {w w' : World} {hi hi' b o B : Nat} {A : Option Addr} {L : List (Int × List Int)} {kd : Int} {dt : List Int}
theorem Xf.below (h : Xf w hi b o kd dt) (hb : Below B w w') (h1 : hi ≤ B) (h2 : b < B) : Xf w' hi b o kd dt := by
  obtain ⟨A, c, c0, c1, hB, h3, h4, h5⟩ := h
  exact ⟨A, c, kept_cell hb c0 h2, kept_cell hb c1 h2, hB.below hb h1, h3, h4, h5⟩
theorem Xf.wide (h : Xf w hi b o kd dt) (h1 : hi ≤ hi') : Xf w hi' b o kd dt := by
  obtain ⟨A, c, c0, c1, hB, h3, h4, h5⟩ := h
  exact ⟨A, c, c0, c1, hB.wide (Nat.le_refl _) h1, h3, h4, h5⟩
theorem Xs.below (h : Xs w hi A L) (hb : Below B w w') (h1 : hi ≤ B) : Xs w' hi A L := fun hn => by
  obtain ⟨b, o, e, h2, hc⟩ := h hn
  exact ⟨b, o, e, h2, fun k hk => (hc k hk).below hb h1 (by omega)⟩
theorem Xs.wide (h : Xs w hi A L) (h1 : hi ≤ hi') : Xs w hi' A L := fun hn => by
  obtain ⟨b, o, e, h2, hc⟩ := h hn
  exact ⟨b, o, e, by omega, fun k hk => (hc k hk).wide h1⟩
theorem Xs.take (h : Xs w hi A L) (m : Nat) : Xs w hi A (L.take m) := fun hn => by
  rw [List.length_take] at hn
  obtain ⟨b, o, e, h2, hc⟩ := h (by omega)
  refine ⟨b, o, e, h2, fun k hk => ?_⟩
  rw [List.length_take] at hk
  have e1 : (L.take m).getD k (0, []) = L.getD k (0, []) := by
    rw [List.getD_eq_getElem?_getD, List.getD_eq_getElem?_getD, List.getElem?_take, if_pos (by omega)]
  unfold kdL dtL
  rw [e1]
  exact hc k (by omega)
theorem Xs.nil : Xs w hi A [] := fun h => by simp at h
end
theorem weights_elem {H : Type} {P : Program} {t e : TypeId} {d : DataW H} {elems spare : List (DataW H)} (hu : P.underlying t = some (.slice e)) (hd : d ∈ elems) {n : Nat} (hn : n ∈ d.weights P e) : n ∈ (DataW.slice elems spare).weights P t := by
  have all : ∀ l : List (DataW H), d ∈ l → n ∈ DataW.weightsAll P e l := fun l => by
    induction l with
    | nil => intro h; cases h
    | cons x r ih =>
      intro h
      rw [DataW.weightsAll]
      rcases List.mem_cons.1 h with rfl | h
      · exact List.mem_append_left _ hn
      · exact List.mem_append_right _ (ih h)
  rw [DataW.weights, hu]
  simp only [List.mem_cons, List.mem_append]
  exact .inr (.inl (all _ hd))
theorem cellsExt : Tryd.prog.cellsOf 62 = 2 := by kernel_rfl
theorem cellsI64 : Tryd.prog.cellsOf 3 = 1 := by kernel_rfl
theorem cellsSl8 : Tryd.prog.cellsOf 23 = 1 := by kernel_rfl
theorem sizeExt : (Tryd.prog.info? 62).map (·.size) = some 2 := by kernel_rfl
theorem zeroExt : (Tryd.prog.info? 62).map (·.zero) = some (some (.agg #[.int .i64 0, .slice none 0 0])) := by kernel_rfl
section
variable {H : Type} {enc : TypeId × Value → H}
/-- a byte slice that is a cell -/
theorem cell_bs {W : World} {base : Nat} {spare : Nat → Bool} {fuel : Nat} {v : Value} {x : DataW H × List MemPlace} (hs : ∀ b, spare b = true) (hf : DataW.trod enc Tryd.prog W base spare true fuel 23 [v] = some x) :
    ∃ (A : Option Addr) (n c : Nat) (l : List Int), v = .slice A n c ∧ l.length = n ∧ Bs W 0 W.heap.size A l ∧ n ≤ c ∧ c ≤ 9223372036854775807 ∧ (A = none → n = 0 ∧ c = 0) ∧ (0 < c → c ∈ x.1.weights Tryd.prog 23) := by
  rcases open_ints Tryd.underlying23 Tryd.underlying5 cellsU8 hf with ⟨hcs, hx⟩ | ⟨a, len', cap', zs, hcs, _, hl, hm, hz, hx, hcell, hwz⟩
  · simp at hcs
    subst hcs
    exact ⟨none, 0, 0, [], rfl, rfl, Bs.nil, Nat.le_refl _, by omega, fun _ => ⟨rfl, rfl⟩, fun h => absurd h (by omega)⟩
  · simp at hcs
    subst hcs
    rw [hs] at hz
    simp only [if_true] at hz
    refine ⟨some a, len', cap', zs.take len', rfl, by rw [List.length_take]; omega, ?_, hl, by unfold maxLen at hm; exact hm, (fun h => by cases h), fun hc => ?_⟩
    · refine ⟨fun y hy => ?_, fun hp => ?_⟩
      · exact bounds_u8 (hwz y (List.mem_of_mem_take hy))
      · rw [List.length_take] at hp
        obtain ⟨ab, ao, spot⟩ := a
        have h0 := hcell 0 (by omega)
        have hspot : spot = none := by simpa [Addr.add] using World.cell?_spot h0
        subst hspot
        refine ⟨ab, ao, rfl, Nat.zero_le _, ?_, fun k hk => ?_⟩
        · have := World.block_lt_of_cell? W _ h0
          simpa [ofAdd] using this
        · rw [List.length_take] at hk
          have hck := hcell k (by omega)
          rw [ofAdd] at hck
          rw [hck]
          have hkl : k < len' := by omega
          simp [atB, List.getD_eq_getElem?_getD, List.getElem?_take, hkl]
    · rw [hx]
      rw [DataW.weights, Tryd.underlying23]
      simp only [List.mem_cons]
      left
      rw [bytesU8]
      simp [lits]
      omega
end
end Go.Proofs.YtachhbbofemfdaaDoor
namespace Go.Proofs.YtachhbbofemfdaaDoor
open Go.RowKit
set_option linter.unusedSimpArgs false
set_option linter.unusedVariables false
set_option maxRecDepth 100000
/-- the number whose bytes are l, most significant first -/
def stepB (n x : Int) : Int := (n * 256 + x) % 18446744073709551616
def numB (l : List Int) : Int := l.foldl stepB 0
theorem take_succ' (l : List Int) (k : Nat) (h : k < l.length) : l.take (k + 1) = l.take k ++ [atB l k] := by
  rw [List.take_add_one, List.getElem?_eq_getElem h]
  unfold atB; rw [List.getD_eq_getElem?_getD, List.getElem?_eq_getElem h]; rfl
theorem numB_succ (l : List Int) (k : Nat) (h : k < l.length) : numB (l.take (k + 1)) = stepB (numB (l.take k)) (atB l k) := by
  rw [take_succ' l k h]
  unfold numB
  rw [List.foldl_append]; rfl
theorem stepB_range (n x : Int) : 0 ≤ stepB n x ∧ stepB n x < 18446744073709551616 := by unfold stepB; omega
theorem foldB_range (l : List Int) : ∀ n : Int, 0 ≤ n ∧ n < 18446744073709551616 → 0 ≤ l.foldl stepB n ∧ l.foldl stepB n < 18446744073709551616 := by
  induction l with
  | nil => intro n h; exact h
  | cons x l ih => intro n h; exact ih _ (stepB_range n x)
theorem numB_range (l : List Int) : 0 ≤ numB l ∧ numB l < 18446744073709551616 := foldB_range l 0 (by omega)
theorem shl_or (n x : Int) (h0 : 0 ≤ n) (hx : 0 ≤ x ∧ x ≤ 255) : bits .or .u64 (IntKind.u64.wrap (n * 256)) x = stepB n x := by
  unfold stepB; rw [IntKind.wrap_u64, or_u64_8 _ _ (by omega) (by omega) (by omega) hx.1 (by omega) ]
  omega
set_option maxHeartbeats 400000 in
theorem sized_any (s : Int) (w : World) :
    Calls Tryd.prog 78 #[.int .i64 s] w fun e w' => e = .returned (.bool (decide (1 ≤ s ∧ s ≤ 8))) ∧ w = w' := by
  by_cases h1 : 1 ≤ s <;> by_cases h2 : s ≤ 8
  all_goals
    go_enter Tryd.func78, Tryd.ntmps78
    go_wp2
    go_ret
    exact ⟨by simp [*], rfl⟩
set_option maxHeartbeats 1000000 in
theorem number_any (A : Option Addr) (n c lo hi : Nat) (l : List Int) (w : World) (hn : l.length = n) (h : Bs w lo hi A l) (hm : l.length ≤ 9223372036854775807) :
    Calls Tryd.prog 92 #[.slice A n c] w fun e w' => e = .returned (.int .u64 (numB l)) ∧ w = w' := by
  subst hn
  go_enter Tryd.func92, Tryd.ntmps92
  go_wp2
  go_loop [3, 7] (fun n i => ∃ k : Nat, k ≤ l.length ∧ i = .int .i64 k ∧ n = .int .u64 (numB (l.take k))) (fun _ i => l.length - (intOf i).toNat)
  case atStart => exact ⟨0, by omega, rfl, by simp [numB]⟩
  case round =>
    obtain ⟨k, hk, rfl, rfl⟩ := hrel
    by_cases hlt : k < l.length
    · obtain ⟨b, o, rfl, _, _, hc⟩ := h.at (by omega)
      have hck := hc k hlt
      have hby := h.byt.at k
      have hS := numB_succ l k hlt
      have hr := numB_range (l.take k)
      have hO := shl_or (numB (l.take k)) (atB l k) hr.1 hby
      have hw : IntKind.u64.wrap (atB l k) = atB l k := by rw [IntKind.wrap_u64]; omega
      go_wp2
      exact ⟨⟨k + 1, by omega, by go_num, by rw [hS]⟩, by simp [intOf]; omega⟩
    · obtain rfl : k = l.length := by omega
      go_wp2
      go_ret
      exact ⟨by simp, rfl⟩
/-- what Get returns -/
def getE (n at_ s : Int) : Int := if 1 ≤ s ∧ s ≤ 8 then (if 0 ≤ at_ ∧ s ≤ n - at_ then 0 else 5) else 2
def getV (l : List Int) (at_ s : Int) : Int := numB ((l.drop at_.toNat).take s.toNat)
abbrev getR (l : List Int) (at_ s : Int) : Value := .tuple #[.int .u64 (z0 (getE l.length at_ s) (getV l at_ s)), .int .i64 (getE l.length at_ s)]
theorem getE_2 {n at_ s : Int} (h : ¬(1 ≤ s ∧ s ≤ 8)) : getE n at_ s = 2 := by simp [getE, h]
theorem getE_5 {n at_ s : Int} (h : 1 ≤ s ∧ s ≤ 8) (h' : ¬(0 ≤ at_ ∧ s ≤ n - at_)) : getE n at_ s = 5 := by simp only [getE, if_pos h, if_neg h']
theorem getE_0 {n at_ s : Int} (h : 1 ≤ s ∧ s ≤ 8) (h' : 0 ≤ at_ ∧ s ≤ n - at_) : getE n at_ s = 0 := by simp only [getE, if_pos h, if_pos h']
set_option maxHeartbeats 1000000 in
theorem get_any (A : Option Addr) (n c lo hi : Nat) (l : List Int) (at_ s : Int) (w : World) (hn : l.length = n) (h : Bs w lo hi A l) (hm : n ≤ c) (hc : c ≤ 9223372036854775807) (hat : at_ ≤ 9223372036854775807) :
    Calls Tryd.prog 91 #[.slice A n c, .int .i64 at_, .int .i64 s] w fun e w' => e = .returned (getR l at_ s) ∧ w = w' := by
  subst hn
  by_cases hs : 1 ≤ s ∧ s ≤ 8
  · by_cases ha : 0 ≤ at_ ∧ s ≤ l.length - at_
    · have HR : Hid (getR l at_ s = .tuple #[.int .u64 (getV l at_ s), .int .i64 0]) := by show getR l at_ s = _; rw [getR, getE_0 hs ha, z0_zero]
      obtain ⟨a, rfl⟩ : ∃ a : Nat, at_ = a := ⟨at_.toNat, by omega⟩
      obtain ⟨m, rfl⟩ : ∃ m : Nat, s = m := ⟨s.toNat, by omega⟩
      have hq := h.cutm a m
      have hlen : ((l.drop a).take m).length = m := by simp; omega
      have hs1 := hs.1
      have hs2 := hs.2
      have ha2 := ha.2
      go_enter Tryd.func91, Tryd.ntmps91
      go_wp2_with (first | (go_at_call 78; ((with_reducible refine (sized_any _ _).mono ?_); rintro e w1 ⟨rfl, rfl⟩)) | (go_at_call 92; ((with_reducible refine (number_any _ _ _ lo hi _ _ hlen hq (by omega)).mono ?_); rintro e w1 ⟨rfl, rfl⟩)))
      go_ret2
      exact ⟨ret_val HR.out.symm, rfl⟩
    · have HR : Hid (getR l at_ s = .tuple #[.int .u64 0, .int .i64 5]) := by show getR l at_ s = _; rw [getR, getE_5 hs ha]; rfl
      have hs1 := hs.1
      have hs2 := hs.2
      by_cases h0 : 0 ≤ at_
      · have h1 : l.length - at_ < s := by omega
        clear ha
        go_enter Tryd.func91, Tryd.ntmps91
        go_wp2_with (first | (go_at_call 78; ((with_reducible refine (sized_any _ _).mono ?_); rintro e w1 ⟨rfl, rfl⟩)))
        go_ret2
        exact ⟨ret_val HR.out.symm, rfl⟩
      · clear ha
        go_enter Tryd.func91, Tryd.ntmps91
        go_wp2_with (first | (go_at_call 78; ((with_reducible refine (sized_any _ _).mono ?_); rintro e w1 ⟨rfl, rfl⟩)))
        go_ret2
        exact ⟨ret_val HR.out.symm, rfl⟩
  · have HR : Hid (getR l at_ s = .tuple #[.int .u64 0, .int .i64 2]) := by show getR l at_ s = _; rw [getR, getE_2 hs]; rfl
    go_enter Tryd.func91, Tryd.ntmps91
    go_wp2_with (first | (go_at_call 78; ((with_reducible refine (sized_any _ _).mono ?_); rintro e w1 ⟨rfl, rfl⟩)))
    go_ret2
    exact ⟨ret_val HR.out.symm, rfl⟩
theorem take_cut (l : List Int) (a k : Nat) (h : a + k < l.length) : (l.drop a).take (k + 1) = (l.drop a).take k ++ [atB l (a + k)] := by
  rw [take_succ' _ k (by rw [List.length_drop]; omega)]
  congr 2
  simp [atB, List.getD_eq_getElem?_getD]
theorem numB_cut (l : List Int) (a k : Nat) (h : a + k < l.length) : numB ((l.drop a).take (k + 1)) = stepB (numB ((l.drop a).take k)) (atB l (a + k)) := by
  rw [take_cut l a k h]
  unfold numB
  rw [List.foldl_append]; rfl
set_option maxHeartbeats 1000000 in
theorem rget_any (A : Option Addr) (n c lo hi : Nat) (l : List Int) (at_ s : Int) (w : World) (hn : l.length = n) (h : Bs w lo hi A l) (hm : n ≤ c) (hc : c ≤ 9223372036854775807) (hat : at_ ≤ 9223372036854775807) :
    Calls Tryd.prog 67 #[.slice A n c, .int .i64 at_, .int .i64 s] w fun e w' => e = .returned (getR l at_ s) ∧ w = w' := by
  subst hn
  by_cases hs : 1 ≤ s ∧ s ≤ 8
  · by_cases ha : 0 ≤ at_ ∧ s ≤ l.length - at_
    · have HR : Hid (getR l at_ s = .tuple #[.int .u64 (getV l at_ s), .int .i64 0]) := by show getR l at_ s = _; rw [getR, getE_0 hs ha, z0_zero]
      obtain ⟨a, rfl⟩ : ∃ a : Nat, at_ = a := ⟨at_.toNat, by omega⟩
      obtain ⟨m, rfl⟩ : ∃ m : Nat, s = m := ⟨s.toNat, by omega⟩
      have hs1 := hs.1
      have hs2 := hs.2
      have ha2 := ha.2
      have ha3 : ¬ (l.length : Int) < a := by omega
      have ha4 : ¬ (l.length : Int) - a < m := by omega
      obtain ⟨b, o, rfl, _, _, hc'⟩ := h.at (by omega)
      go_enter Tryd.func67, Tryd.ntmps67
      go_wp2
      go_loop [8, 9] (fun n i => ∃ k : Nat, k ≤ m ∧ i = .int .i64 k ∧ n = .int .u64 (numB ((l.drop a).take k))) (fun _ i => m - (intOf i).toNat)
      case atStart => exact ⟨0, by omega, rfl, by simp [numB]⟩
      case round =>
        obtain ⟨k, hk, rfl, rfl⟩ := hrel
        by_cases hlt : k < m
        · have hck := hc' (a + k) (by omega)
          have hby := h.byt.at (a + k)
          have hS := numB_cut l a k (by omega)
          have hr := numB_range ((l.drop a).take k)
          have hO := shl_or (numB ((l.drop a).take k)) (atB l (a + k)) hr.1 hby
          have hw : IntKind.u64.wrap (atB l (a + k)) = atB l (a + k) := by rw [IntKind.wrap_u64]; omega
          go_wp2
          exact ⟨⟨k + 1, by omega, by go_num, by rw [hS]⟩, by simp [intOf]; omega⟩
        · obtain rfl : k = m := by omega
          go_wp2
          go_ret2
          exact ⟨ret_val (by rw [HR.out]; rfl), rfl⟩
    · have HR : Hid (getR l at_ s = .tuple #[.int .u64 0, .int .i64 5]) := by show getR l at_ s = _; rw [getR, getE_5 hs ha]; rfl
      have hs1 := hs.1
      have hs2 := hs.2
      by_cases h0 : 0 ≤ at_
      · by_cases h2 : l.length < at_
        · clear ha
          go_enter Tryd.func67, Tryd.ntmps67
          go_wp2
          go_ret2
          exact ⟨ret_val HR.out.symm, rfl⟩
        · have h1 : l.length - at_ < s := by omega
          clear ha
          go_enter Tryd.func67, Tryd.ntmps67
          go_wp2
          go_ret2
          exact ⟨ret_val HR.out.symm, rfl⟩
      · clear ha
        go_enter Tryd.func67, Tryd.ntmps67
        go_wp2
        go_ret2
        exact ⟨ret_val HR.out.symm, rfl⟩
  · have HR : Hid (getR l at_ s = .tuple #[.int .u64 0, .int .i64 2]) := by show getR l at_ s = _; rw [getR, getE_2 hs]; rfl
    go_enter Tryd.func67, Tryd.ntmps67
    by_cases h1 : 1 ≤ s
    · have h2 : ¬ s ≤ 8 := by omega
      clear hs
      go_wp2
      go_ret2
      exact ⟨ret_val HR.out.symm, rfl⟩
    · clear hs
      go_wp2
      go_ret2
      exact ⟨ret_val HR.out.symm, rfl⟩
end Go.Proofs.YtachhbbofemfdaaDoor
namespace Go.Proofs.YtachhbbofemfdaaDoor
open Go.RowKit
set_option linter.unusedSimpArgs false
set_option linter.unusedVariables false
set_option maxRecDepth 100000
/-- the k lowest bytes of n, most significant first -/
def bytesB : Nat → Int → List Int
  | 0, _ => []
  | k + 1, n => bytesB k (n / 256) ++ [n % 256]
theorem bytesB_length (k : Nat) : ∀ n, (bytesB k n).length = k := by
  induction k with
  | zero => intro n; rfl
  | succ k ih => intro n; simp [bytesB, ih]
theorem bytesB_byt (k : Nat) : ∀ n, Byt (bytesB k n) := by
  induction k with
  | zero => intro n; exact Byt.nil
  | succ k ih => intro n; exact (ih _).app (Byt.nil.cons (by omega) (by omega))
theorem bytesB_at (k : Nat) : ∀ (n : Int) (i : Nat), i < k → atB (bytesB k n) i = n / 256 ^ (k - 1 - i) % 256 := by
  induction k with
  | zero => intro n i h; omega
  | succ k ih =>
    intro n i h
    unfold atB
    rw [bytesB, List.getD_eq_getElem?_getD]
    by_cases hi : i < k
    · rw [List.getElem?_append_left (by rw [bytesB_length]; exact hi), ← List.getD_eq_getElem?_getD]
      have := ih (n / 256) i hi
      unfold atB at this
      rw [this, Int.ediv_ediv_of_nonneg (by omega)]
      congr 2
      rw [show k + 1 - 1 - i = (k - 1 - i) + 1 by omega, Int.pow_succ, Int.mul_comm]
    · obtain rfl : i = k := by omega
      rw [List.getElem?_append_right (by rw [bytesB_length]; omega), bytesB_length]
      simp
theorem pow256 (k : Nat) : (2 : Int) ^ (8 * k) = 256 ^ k := by rw [Int.pow_mul]; rfl
def apE (n s : Int) : Int := if 1 ≤ s ∧ s ≤ 8 then (if n < 256 ^ s.toNat then 0 else 3) else 2
/-- the row during the loop of Append -/
def apRow (l bs : List Int) (k : Nat) : List Int := l ++ (bs.take k ++ List.replicate (bs.length - k) 0)
theorem apRow_length (l bs : List Int) (k : Nat) (hk : k ≤ bs.length) : (apRow l bs k).length = l.length + bs.length := by simp [apRow]; omega
theorem apRow_zero (l bs : List Int) : apRow l bs 0 = l ++ List.replicate bs.length 0 := by simp [apRow]
theorem apRow_all (l bs : List Int) : apRow l bs bs.length = l ++ bs := by simp [apRow]
theorem apRow_set (l bs : List Int) (k : Nat) (hk : k < bs.length) : (apRow l bs k).set (l.length + k) (atB bs k) = apRow l bs (k + 1) := by
  unfold apRow
  rw [List.set_append, if_neg (by omega), List.set_append, if_neg (by simp; omega), take_succ' bs k hk, List.append_assoc]
  congr 2
  rw [show bs.length - k = (bs.length - (k + 1)) + 1 by omega, List.replicate_succ]
  simp [show min k bs.length = k by omega]
set_option maxHeartbeats 1000000 in
theorem append_ok (A : Option Addr) (nl c lo hi : Nat) (l : List Int) (n : Int) (s : Nat) (w : World) (hnl : l.length = nl) (h : Bs w lo hi A l) (hh : hi ≤ w.heap.size) (hm : nl ≤ 140737488351232) (hn : 0 ≤ n ∧ n < 18446744073709551616) (hs1 : 1 ≤ s) (hs2 : s ≤ 8) (hf : n < 256 ^ s) :
    Calls Tryd.prog 45 #[.slice A nl c, .int .u64 n, .int .i64 s] w fun e w' => e = .returned (.tuple #[.slice (some ⟨w.heap.size, 0, none⟩) (nl + s) (nl + s), .int .i64 0]) ∧ Ow w' w.heap.size (some ⟨w.heap.size, 0, none⟩) (nl + s) (l ++ bytesB s n) ∧ w'.heap.size = w.heap.size + 1 ∧ Below w.heap.size w w' := by
  subst hnl
  have hn1 := hn.1
  have hn2 := hn.2
  have hi1 : (1 : Int) ≤ s := by omega
  have hi2 : (s : Int) ≤ 8 := by omega
  have hmk := fun W => makeU8 .i64 .i64 (l.length + s) (by omega) W
  rw [Int.natCast_add] at hmk
  have hq : (n / 2 ^ (8 * s) != 0) = false := by
    rw [pow256, Int.ediv_eq_zero_of_lt hn1 hf]; rfl
  have hO1 := Ow.made w (l.length + s) (by omega)
  have hB1 : Bs (w.alloc (.cells (madeCells #[.int .u8 0] (l.length + s)) 5)) lo hi A l := h.alloc hh _
  go_enter Tryd.func45, Tryd.ntmps45
  go_wp2_with (first | (go_at_call 78; ((with_reducible refine (sized_any _ _).mono ?_); rintro e w1 ⟨rfl, rfl⟩)) | (with_reducible refine wpList_copy_bs rfl (.tmp 27) (.tmp 28) rfl w.heap.size (l.length + s) (l.length + s) l.length c _ rfl rfl (by simp) rfl (by omega) hO1 hB1 ?_; intro w1 hO hg hz))
  all_goals
    have hO2 : Ow w1 w.heap.size (some ⟨w.heap.size, 0, none⟩) (l.length + s) (apRow l (bytesB s n) 0) := by
      rw [apRow_zero, bytesB_length]; simpa using hO
    have hb1 : Below w.heap.size w w1 := Below.trans ((Below.refl _ w).alloc (Nat.le_refl _) _) (below_of_grown hg (by simp) (by simp))
    have hz1 : w1.heap.size = w.heap.size + 1 := by simpa using hz
    clear hO hg hz hO1 hB1 hmk
    go_loopw [31] (fun i wr => ∃ k : Nat, k ≤ s ∧ i = .int .i64 k ∧ Ow wr w.heap.size (some ⟨w.heap.size, 0, none⟩) (l.length + s) (apRow l (bytesB s n) k) ∧ wr.heap.size = w.heap.size + 1 ∧ Below w.heap.size w wr) (fun i _ => s - (intOf i).toNat)
    case atStart => exact ⟨0, by omega, rfl, hO2, hz1, hb1⟩
    case round =>
      obtain ⟨k, hk, rfl, hR, hzr, hbr⟩ := hrel
      by_cases hlt : k < s
      · have hlen := apRow_length l (bytesB s n) k (by rw [bytesB_length]; omega)
        rw [bytesB_length] at hlen
        have hcell := hR.cell (k := l.length + k) (by omega)
        have hfz := hR.frozen (l.length + k)
        have hS := hR.set (l.length + k) (x := n / 2 ^ (8 * (s - 1 - k)) % 256) (by omega) (by omega)
        rw [show n / 2 ^ (8 * (s - 1 - k)) % 256 = atB (bytesB s n) k by rw [bytesB_at s n k hlt, pow256], apRow_set l (bytesB s n) k (by rw [bytesB_length]; omega)] at hS
        have hv := bytesB_at s n k hlt
        rw [← pow256] at hv
        rw [hv] at hS
        go_wp2
        exact ⟨⟨k + 1, by omega, by go_num, hS, by simpa [World.setCell] using hzr, hbr.setCell (by simp) _⟩, by simp [intOf]; omega⟩
      · obtain rfl : k = s := by omega
        go_wp2
        go_ret2
        refine ⟨rfl, ?_, hzr, hbr⟩
        have := apRow_all l (bytesB k n)
        rw [bytesB_length] at this
        rw [← this]; exact hR
theorem apE_2 {n s : Int} (h : ¬(1 ≤ s ∧ s ≤ 8)) : apE n s = 2 := by simp [apE, h]
theorem apE_3 {n : Int} {s : Nat} (h : 1 ≤ s ∧ s ≤ 8) (h' : ¬ n < 256 ^ s) : apE n s = 3 := by simp only [apE]; rw [if_pos (by omega), if_neg (by simpa using h')]
theorem apE_0 {n : Int} {s : Nat} (h : 1 ≤ s ∧ s ≤ 8) (h' : n < 256 ^ s) : apE n s = 0 := by simp only [apE]; rw [if_pos (by omega), if_pos (by simpa using h')]
theorem shr_ne (n : Int) (s : Nat) (hn : 0 ≤ n) (h : ¬ n < 256 ^ s) : (n / 2 ^ (8 * s) != 0) = true := by
  rw [pow256]
  have hp : (0 : Int) < 256 ^ s := Int.pow_pos (by omega)
  have h1 : 1 ≤ n / 256 ^ s := by rw [Int.le_ediv_iff_mul_le hp]; omega
  simp; omega
theorem pow8 (s : Nat) (h : 8 ≤ s) : (18446744073709551616 : Int) ≤ 256 ^ s := by
  rw [show s = 8 + (s - 8) by omega, Int.pow_add]
  have : (0 : Int) < 256 ^ (s - 8) := Int.pow_pos (by omega)
  have h2 : (256 : Int) ^ 8 = 18446744073709551616 := by decide
  rw [h2]; omega
set_option maxHeartbeats 1000000 in
theorem append_err (A : Option Addr) (c m : Nat) (n s : Int) (w : World) (hm : m ≤ 140737488351232) (hn : 0 ≤ n ∧ n < 18446744073709551616) (he : apE n s ≠ 0) :
    Calls Tryd.prog 45 #[.slice A m c, .int .u64 n, .int .i64 s] w fun e w' => e = .returned (.tuple #[.slice none 0 0, .int .i64 (apE n s)]) ∧ w = w' := by
  by_cases hs : 1 ≤ s ∧ s ≤ 8
  · obtain ⟨m, rfl⟩ : ∃ m : Nat, s = m := ⟨s.toNat, by omega⟩
    have hs1 := hs.1
    have hs2 := hs.2
    have hf : ¬ n < 256 ^ m := fun h => he (apE_0 (by omega) h)
    have hm8 : (m : Int) < 8 := by
      rcases Nat.lt_or_ge m 8 with h | h
      · omega
      · have := pow8 m h; omega
    have hq := shr_ne n m hn.1 hf
    have HR : Hid (apE n m = 3) := apE_3 (by omega) hf
    clear he hf
    go_enter Tryd.func45, Tryd.ntmps45
    go_wp2_with (first | (go_at_call 78; ((with_reducible refine (sized_any _ _).mono ?_); rintro e w1 ⟨rfl, rfl⟩)))
    go_ret2
    exact ⟨by rw [HR.out]; rfl, rfl⟩
  · have HR : Hid (apE n s = 2) := apE_2 hs
    clear he
    go_enter Tryd.func45, Tryd.ntmps45
    go_wp2_with (first | (go_at_call 78; ((with_reducible refine (sized_any _ _).mono ?_); rintro e w1 ⟨rfl, rfl⟩)))
    go_ret2
    exact ⟨by rw [HR.out]; rfl, rfl⟩
set_option maxHeartbeats 1000000 in
theorem fits_any (n : Int) (s : Nat) (w : World) (hn : 0 ≤ n ∧ n < 18446744073709551616) (hs : 1 ≤ s ∧ s ≤ 8) :
    Calls Tryd.prog 82 #[.int .u64 n, .int .i64 s] w fun e w' => e = .returned (.bool (decide (n < 256 ^ s))) ∧ w = w' := by
  have hs1 : (1 : Int) ≤ s := by omega
  have hs2 : (s : Int) ≤ 8 := by omega
  by_cases h8 : s = 8
  · subst h8
    have : n < 256 ^ 8 := hn.2
    go_enter Tryd.func82, Tryd.ntmps82
    go_wp2
    go_ret
    exact ⟨ret_bool (by simpa using this), rfl⟩
  · have h8' : (s : Int) < 8 := by omega
    have h9 : ((s : Int) == 8) = false := by simp; omega
    have hn1 := hn.1
    have hn2 := hn.2
    by_cases hf : n < 256 ^ s
    · have hq : (n / 2 ^ (8 * s) == 0) = true := by rw [pow256, Int.ediv_eq_zero_of_lt hn.1 hf]; rfl
      go_enter Tryd.func82, Tryd.ntmps82
      go_wp2
      go_ret
      exact ⟨ret_bool (by simpa using hf), rfl⟩
    · have hq : (n / 2 ^ (8 * s) == 0) = false := by have := shr_ne n s hn.1 hf; simpa using this
      go_enter Tryd.func82, Tryd.ntmps82
      go_wp2
      go_ret
      exact ⟨ret_bool (by simpa using hf), rfl⟩
set_option maxHeartbeats 2000000 in
theorem rappend_ok (A : Option Addr) (nl c lo hi : Nat) (l : List Int) (n : Int) (s : Nat) (w : World) (hnl : l.length = nl) (h : Bs w lo hi A l) (hh : hi ≤ w.heap.size) (hm : nl ≤ 140737488351232) (hn : 0 ≤ n ∧ n < 18446744073709551616) (hs1 : 1 ≤ s) (hs2 : s ≤ 8) (hf : n < 256 ^ s) :
    Calls Tryd.prog 50 #[.slice A nl c, .int .u64 n, .int .i64 s] w fun e w' => ∃ A' c', e = .returned (.tuple #[.slice A' (nl + s) c', .int .i64 0]) ∧ Ow w' w.heap.size A' c' (l ++ bytesB s n) ∧ w.heap.size ≤ w'.heap.size ∧ Below w.heap.size w w' := by
  subst hnl
  have hn1 := hn.1
  have hn2 := hn.2
  have hi1 : (1 : Int) ≤ s := by omega
  have hi2 : (s : Int) ≤ 8 := by omega
  have hO1 := Ow.lit w [] #[] rfl Byt.nil (by simp)
  have hB1 : Bs (w.alloc (.cells #[] 5)) lo hi A l := h.alloc hh _
  go_enter Tryd.func50, Tryd.ntmps50
  go_wp2_with (first | (go_at_call 82; ((with_reducible refine (fits_any n s w hn ⟨hs1, hs2⟩).mono ?_); rintro e w1 ⟨rfl, rfl⟩)) | (at_builtin; refine wpList_append_bs rfl (.tmp 20) (.tmp 21) rfl 0 0 l.length c (by rfl) (by rfl) rfl rfl hO1 hB1 (by omega) (by simp) ?_; intro A1 c1 w1 hO hb1 _))
  all_goals
    have hO2 : Ow w1 w.heap.size A1 c1 (l ++ (bytesB s n).take 0) := by simpa using hO
    have hb2 : Below w.heap.size w w1 := Below.trans ((Below.refl _ w).alloc (Nat.le_refl _) _) hb1
    clear hO hb1 hO1 hB1
    go_loopw [8, 9] (fun v i wr => ∃ k : Nat, k ≤ s ∧ ∃ A' c', v = .slice A' (l.length + k) c' ∧ i = .int .i64 ((s : Int) - 1 - k) ∧ Ow wr w.heap.size A' c' (l ++ (bytesB s n).take k) ∧ Below w.heap.size w wr) (fun v i _ => (intOf i + 1).toNat)
    case atStart => exact ⟨0, by omega, _, _, by simp, by simp, hO2, hb2⟩
    case round =>
      obtain ⟨k, hk, A', c', rfl, rfl, hR, hbr⟩ := hrel
      by_cases hlt : k < s
      · have hlen : (l ++ (bytesB s n).take k).length = l.length + k := by simp [bytesB_length]; omega
        have hv := bytesB_at s n k hlt
        rw [← pow256] at hv
        have hx := (bytesB_byt s n).at k
        have hO3 := hR.alloc (.cells #[.int .u8 (n / 2 ^ (8 * (s - 1 - k)) % 256)] 5)
        have hL := Ow.lit wr [atB (bytesB s n) k] #[.int .u8 (n / 2 ^ (8 * (s - 1 - k)) % 256)] (by simp [hv]) (Byt.nil.cons hx.1 hx.2) (by simp)
        have hsz := hbr.size
        have hT : l ++ (bytesB s n).take (k + 1) = (l ++ (bytesB s n).take k) ++ [atB (bytesB s n) k] := by rw [take_succ' _ k (by rw [bytesB_length]; exact hlt), List.append_assoc]
        go_wp2_with (at_builtin; refine wpList_append_bs rfl (.tmp 29) (.tmp 35) rfl (l.length + k) c' 1 1 (by rfl) (by rfl) hlen rfl hO3 hL.bs (by omega) (by simp; omega) ?_; intro A2 c2 w2 hO4 hb4 _)
        rw [← hT] at hO4
        exact ⟨⟨k + 1, by omega, A2, c2, rfl, by go_num, hO4, (hbr.alloc hsz _).trans hb4⟩, by simp [intOf]; omega⟩
      · obtain rfl : k = s := by omega
        have hsz := hbr.size
        rw [List.take_of_length_le (by rw [bytesB_length]; omega)] at hR
        go_wp2
        go_ret2
        exact ⟨A', c', rfl, hR, hsz, hbr⟩
set_option maxHeartbeats 1000000 in
theorem rappend_err (A : Option Addr) (c m : Nat) (n s : Int) (w : World) (hm : m ≤ 140737488351232) (hn : 0 ≤ n ∧ n < 18446744073709551616) (he : apE n s ≠ 0) :
    Calls Tryd.prog 50 #[.slice A m c, .int .u64 n, .int .i64 s] w fun e w' => e = .returned (.tuple #[.slice none 0 0, .int .i64 (apE n s)]) ∧ w = w' := by
  by_cases hs : 1 ≤ s ∧ s ≤ 8
  · obtain ⟨m, rfl⟩ : ∃ m : Nat, s = m := ⟨s.toNat, by omega⟩
    have hs1 := hs.1
    have hs2 := hs.2
    have hf : ¬ n < 256 ^ m := fun h => he (apE_0 (by omega) h)
    have HR : Hid (apE n m = 3) := apE_3 (by omega) hf
    have hf' : decide (n < 256 ^ m) = false := decide_eq_false hf
    clear he hf
    go_enter Tryd.func50, Tryd.ntmps50
    go_wp2_with (first | (go_at_call 82; ((with_reducible refine (fits_any n m w hn ⟨by omega, by omega⟩).mono ?_); rintro e w1 ⟨rfl, rfl⟩)))
    go_ret2
    exact ⟨by rw [HR.out]; rfl, rfl⟩
  · have HR : Hid (apE n s = 2) := apE_2 hs
    clear he
    by_cases h1 : 1 ≤ s
    · have h2 : ¬ s ≤ 8 := by omega
      clear hs
      go_enter Tryd.func50, Tryd.ntmps50
      go_wp2
      go_ret2
      exact ⟨by rw [HR.out]; rfl, rfl⟩
    · clear hs
      go_enter Tryd.func50, Tryd.ntmps50
      go_wp2
      go_ret2
      exact ⟨by rw [HR.out]; rfl, rfl⟩
end Go.Proofs.YtachhbbofemfdaaDoor
namespace Go.Proofs.YtachhbbofemfdaaDoor
open Go.RowKit
set_option linter.unusedSimpArgs false
set_option linter.unusedVariables false
set_option maxRecDepth 100000
theorem numB_app' (l : List Int) (x : Int) : numB (l ++ [x]) = stepB (numB l) x := by unfold numB; rw [List.foldl_append]; rfl
theorem numB_bytesB' (k : Nat) : ∀ n : Int, 0 ≤ n → n < 256 ^ k → n < 18446744073709551616 → numB (bytesB k n) = n := by
  induction k with
  | zero => intro n h0 h1 _; simp at h1; simp [bytesB, numB]; omega
  | succ k ih =>
    intro n h0 h1 h2
    have h3 : n / 256 < 256 ^ k := by rw [Int.pow_succ] at h1; omega
    rw [bytesB, numB_app', ih (n / 256) (by omega) h3 (by omega)]
    unfold stepB; omega
theorem numB_le_pow' {L : List Int} (h : Byt L) : numB L < 256 ^ L.length := by
  have key : ∀ k : Nat, k ≤ L.length → numB (L.take k) < 256 ^ k := fun k => by
    induction k with
    | zero => intro _; simp [numB]
    | succ k ih =>
      intro hk
      have h1 := ih (by omega)
      have hx := h.at k
      have h2 := (numB_range (L.take k)).1
      rw [numB_succ L k (by omega), Int.pow_succ]
      unfold stepB
      omega
  have := key L.length (Nat.le_refl _)
  rwa [List.take_length] at this
theorem bytes_numB' : ∀ (k : Nat) (l : List Int), Byt l → l.length = k → k ≤ 8 → bytesB k (numB l) = l := by
  intro k
  induction k with
  | zero => intro l _ h _; rw [List.eq_nil_of_length_eq_zero h]; rfl
  | succ k ih =>
    intro l hb hl h8
    obtain ⟨m, x, rfl⟩ : ∃ m x, l = m ++ [x] := ⟨l.dropLast, l.getLast (by intro h; rw [h] at hl; simp at hl), (List.dropLast_concat_getLast _).symm⟩
    have hm : m.length = k := by simpa using hl
    have hbm : Byt m := fun y hy => hb y (by simp [hy])
    have hx := hb x (by simp)
    have h1 := numB_le_pow' hbm
    have h0 := (numB_range m).1
    have h2 : (256 : Int) ^ m.length ≤ 256 ^ 7 := by
      rw [hm]
      have : (256 : Int) ^ 7 = 256 ^ k * 256 ^ (7 - k) := by rw [← Int.pow_add]; congr 1; omega
      have a : (0 : Int) < 256 ^ k := Int.pow_pos (by omega)
      have b : (0 : Int) < 256 ^ (7 - k) := Int.pow_pos (by omega)
      rw [this]
      have c : (256 : Int) ^ k * 1 ≤ 256 ^ k * 256 ^ (7 - k) := Int.mul_le_mul_of_nonneg_left (by omega) (by omega)
      omega
    have h3 : (256 : Int) ^ 7 = 72057594037927936 := by decide
    rw [numB_app', bytesB]
    have e : stepB (numB m) x = numB m * 256 + x := by unfold stepB; omega
    rw [e, show (numB m * 256 + x) / 256 = numB m by omega, show (numB m * 256 + x) % 256 = x by omega, ih m hbm hm (by omega)]
abbrev Flds := List (Int × List Int)
/-- the error of a field of this kind and so many bytes -/
def chkE (kd n : Int) : Int := if 0 ≤ kd ∧ kd ≤ 65535 then (if 12 ≤ n ∧ n ≤ 256 ∧ n % 4 = 0 then 0 else 7) else 3
/-- the first error of fields -/
def firE : Flds → Int
  | [] => 0
  | t :: r => if chkE t.1 t.2.length = 0 then firE r else chkE t.1 t.2.length
def apxE (L : Flds) : Int := if 16 < L.length then 6 else firE L
def fldB (t : Int × List Int) : List Int := bytesB 2 t.1 ++ bytesB 2 (4 + t.2.length) ++ t.2
def fldsB : Flds → List Int
  | [] => []
  | t :: r => fldB t ++ fldsB r
/-- the fields are all valid -/
def AllV (L : Flds) : Prop := ∀ t ∈ L, chkE t.1 t.2.length = 0 ∧ Byt t.2
def pkd (l : List Int) : Int := numB (l.take 2)
def psz (l : List Int) : Nat := (numB ((l.drop 2).take 2)).toNat
/-- Parse: fields so far, and the bytes that are left -/
def prs : Nat → Flds → List Int → Flds × List Int × Int
  | 0, acc, _ => (acc, [], 0)
  | f + 1, acc, l =>
    if l.length = 0 then (acc, [], 0)
    else if l.length = 12 then (acc, l, 0)
    else if l.length < 16 then ([], [], 5)
    else if psz l < 16 ∨ psz l % 4 ≠ 0 then ([], [], 7)
    else if l.length < psz l then ([], [], 5)
    else if acc.length = 16 ∨ 260 < psz l then ([], [], 6)
    else prs f (acc ++ [(pkd l, (l.take (psz l)).drop 4)]) (l.drop (psz l))
def prsL (l : List Int) : Flds := (prs l.length [] l).1
def prsA (l : List Int) : List Int := (prs l.length [] l).2.1
def prsE (l : List Int) : Int := (prs l.length [] l).2.2
theorem xchk_ok {kd n : Int} : chkE kd n = 0 ↔ (0 ≤ kd ∧ kd ≤ 65535) ∧ 12 ≤ n ∧ n ≤ 256 ∧ n % 4 = 0 := by
  unfold chkE
  split
  · split
    · omega
    · omega
  · omega
theorem chk_form {kd n : Int} (h1 : 0 ≤ kd ∧ kd ≤ 65535) (h2 : ¬(12 ≤ n ∧ n ≤ 256 ∧ n % 4 = 0)) : chkE kd n = 7 := by unfold chkE; rw [if_pos h1, if_neg h2]
theorem chk_range {kd n : Int} (h1 : ¬(0 ≤ kd ∧ kd ≤ 65535)) : chkE kd n = 3 := by unfold chkE; rw [if_neg h1]
theorem kdL_cons (t : Int × List Int) (r : Flds) (k : Nat) : kdL (t :: r) (k + 1) = kdL r k := rfl
theorem dtL_cons (t : Int × List Int) (r : Flds) (k : Nat) : dtL (t :: r) (k + 1) = dtL r k := rfl
theorem firE_at : ∀ (L : Flds) (k : Nat), (∀ j, j < k → chkE (kdL L j) (dtL L j).length = 0) → k < L.length → chkE (kdL L k) (dtL L k).length ≠ 0 → firE L = chkE (kdL L k) (dtL L k).length
  | [], k, _, h, _ => by simp at h
  | t :: r, 0, _, _, h => by
    unfold firE
    rw [if_neg (show ¬ chkE t.1 t.2.length = 0 from h)]
    rfl
  | t :: r, k + 1, h0, h1, h2 => by
    have h3 := h0 0 (by omega)
    unfold firE
    rw [if_pos (show chkE t.1 t.2.length = 0 from h3), firE_at r k (fun j hj => h0 (j + 1) (by omega)) (by simpa using h1) h2]
    rfl
theorem firE_ok : ∀ (L : Flds), (∀ j, j < L.length → chkE (kdL L j) (dtL L j).length = 0) → firE L = 0
  | [], _ => rfl
  | t :: r, h => by
    have h3 := h 0 (by simp)
    unfold firE
    rw [if_pos (show chkE t.1 t.2.length = 0 from h3)]
    exact firE_ok r fun j hj => h (j + 1) (by simpa using hj)
theorem firE_all : ∀ {L : Flds}, firE L = 0 → ∀ t ∈ L, chkE t.1 t.2.length = 0
  | [], _, _, h => by cases h
  | t :: r, h, x, hx => by
    unfold firE at h
    by_cases h0 : chkE t.1 t.2.length = 0
    · rw [if_pos h0] at h
      rcases List.mem_cons.1 hx with rfl | hx
      · exact h0
      · exact firE_all h x hx
    · rw [if_neg h0] at h
      exact absurd h h0
theorem firE_valid {L : Flds} (h : ∀ t ∈ L, chkE t.1 t.2.length = 0) : firE L = 0 := by
  induction L with
  | nil => rfl
  | cons t r ih =>
    unfold firE
    rw [if_pos (h t (by simp)), ih fun x hx => h x (by simp [hx])]
theorem kd_mem {L : Flds} {k : Nat} (h : k < L.length) : (kdL L k, dtL L k) ∈ L := by
  unfold kdL dtL
  rw [List.getD_eq_getElem?_getD, List.getElem?_eq_getElem h]
  exact List.getElem_mem h
theorem fldsB_app (L M : Flds) : fldsB (L ++ M) = fldsB L ++ fldsB M := by
  induction L with
  | nil => rfl
  | cons t r ih => simp [fldsB, ih]
theorem fldsB_snoc (L : Flds) (t : Int × List Int) : fldsB (L ++ [t]) = fldsB L ++ fldB t := by rw [fldsB_app]; simp [fldsB]
theorem fl_take {L : Flds} {k : Nat} (h : k < L.length) : L.take (k + 1) = L.take k ++ [(kdL L k, dtL L k)] := by
  rw [List.take_succ_eq_append_getElem h]
  unfold kdL dtL
  rw [List.getD_eq_getElem?_getD, List.getElem?_eq_getElem h]
  rfl
theorem fldsB_take {L : Flds} {k : Nat} (h : k < L.length) : fldsB (L.take (k + 1)) = fldsB (L.take k) ++ bytesB 2 (kdL L k) ++ bytesB 2 (4 + (dtL L k).length) ++ dtL L k := by
  rw [fl_take h, fldsB_snoc]
  unfold fldB
  simp
theorem fldB_length (t : Int × List Int) : (fldB t).length = 4 + t.2.length := by unfold fldB; simp [bytesB_length]; omega
theorem fldB_byt {t : Int × List Int} (h : Byt t.2) : Byt (fldB t) := ((bytesB_byt _ _).app (bytesB_byt _ _)).app h
theorem fldsB_byt {L : Flds} (h : ∀ t ∈ L, Byt t.2) : Byt (fldsB L) := by
  induction L with
  | nil => exact Byt.nil
  | cons t r ih => exact (fldB_byt (h t (by simp))).app (ih fun x hx => h x (by simp [hx]))
theorem fldsB_le {L : Flds} {m : Nat} (h : ∀ t ∈ L, t.2.length ≤ m) : (fldsB L).length ≤ L.length * (4 + m) := by
  induction L with
  | nil => simp [fldsB]
  | cons t r ih =>
    have h1 := ih fun x hx => h x (by simp [hx])
    have h2 := h t (by simp)
    simp only [fldsB, List.length_append, fldB_length, List.length_cons, Nat.add_mul]
    omega
theorem psz_le (l : List Int) (hb : Byt l) : psz l ≤ 65535 := by
  have h := numB_le_pow' ((hb.drop 2).take 2)
  have h1 : ((l.drop 2).take 2).length ≤ 2 := List.length_take_le _ _
  have h2 : (256 : Int) ^ ((l.drop 2).take 2).length ≤ 65536 := by
    have h3 : ((l.drop 2).take 2).length = 0 ∨ ((l.drop 2).take 2).length = 1 ∨ ((l.drop 2).take 2).length = 2 := by omega
    rcases h3 with e | e | e <;> rw [e] <;> decide
  unfold psz
  omega
theorem pkd_rng (l : List Int) (hb : Byt l) : 0 ≤ pkd l ∧ pkd l ≤ 65535 := by
  have h := numB_le_pow' (hb.take 2)
  have h0 := (numB_range (l.take 2)).1
  have h1 : (l.take 2).length ≤ 2 := List.length_take_le _ _
  have h2 : (256 : Int) ^ (l.take 2).length ≤ 65536 := by
    have h3 : (l.take 2).length = 0 ∨ (l.take 2).length = 1 ∨ (l.take 2).length = 2 := by omega
    rcases h3 with e | e | e <;> rw [e] <;> decide
  unfold pkd
  omega
/-- the bytes of the field that was read -/
theorem fldB_read {l : List Int} (hb : Byt l) (h16 : 16 ≤ psz l) (hl : psz l ≤ l.length) : fldB (pkd l, (l.take (psz l)).drop 4) = l.take (psz l) := by
  obtain ⟨n, hn⟩ : ∃ n, psz l = n := ⟨_, rfl⟩
  rw [hn] at h16 hl ⊢
  have e1 : (l.take 2).length = 2 := by rw [List.length_take]; omega
  have e2 : ((l.drop 2).take 2).length = 2 := by rw [List.length_take, List.length_drop]; omega
  have hz : (4 : Int) + ((l.take n).drop 4).length = numB ((l.drop 2).take 2) := by
    have h1 := (numB_range ((l.drop 2).take 2)).1
    have h2 : (numB ((l.drop 2).take 2)).toNat = n := hn
    rw [List.length_drop, List.length_take]
    omega
  unfold fldB pkd
  simp only
  rw [hz, bytes_numB' 2 _ (hb.take 2) e1 (by omega), bytes_numB' 2 _ ((hb.drop 2).take 2) e2 (by omega)]
  have e3 : l.take 2 ++ (l.drop 2).take 2 = l.take 4 := by
    rw [show (4 : Nat) = 2 + 2 from rfl, List.take_add]
  rw [e3]
  have e4 : l.take 4 = (l.take n).take 4 := by rw [List.take_take, Nat.min_eq_left (by omega)]
  rw [e4, List.take_append_drop]
theorem prs_inv : ∀ (f : Nat) (acc : Flds) (l : List Int), AllV acc → acc.length ≤ 16 → l.length ≤ f → Byt l →
    ((prs f acc l).2.2 = 0 → fldsB (prs f acc l).1 ++ (prs f acc l).2.1 = fldsB acc ++ l ∧ AllV (prs f acc l).1 ∧ (prs f acc l).1.length ≤ 16 ∧ ((prs f acc l).2.1 = [] ∨ (prs f acc l).2.1.length = 12)) ∧
    ((prs f acc l).2.2 ≠ 0 → (prs f acc l).1 = [] ∧ (prs f acc l).2.1 = [] ∧ 0 < (prs f acc l).2.2)
  | 0, acc, l, ha, hc, hf, hb => by
    have : l = [] := List.eq_nil_of_length_eq_zero (by omega)
    subst this
    simp [prs, ha, hc]
  | f + 1, acc, l, ha, hc, hf, hb => by
    rw [prs]
    by_cases h0 : l.length = 0
    · have : l = [] := List.eq_nil_of_length_eq_zero h0
      subst this
      simp [ha, hc]
    rw [if_neg h0]
    by_cases h1 : l.length = 12
    · simp [h1, ha, hc]
    rw [if_neg h1]
    by_cases h2 : l.length < 16
    · simp [h2]
    rw [if_neg h2]
    by_cases h3 : psz l < 16 ∨ psz l % 4 ≠ 0
    · simp [h3]
    rw [if_neg h3]
    by_cases h4 : l.length < psz l
    · simp [h4]
    rw [if_neg h4]
    by_cases h5 : acc.length = 16 ∨ 260 < psz l
    · simp [h5]
    rw [if_neg h5]
    have hr := fldB_read hb (by omega) (by omega)
    have hk := pkd_rng l hb
    have hdl : ((l.take (psz l)).drop 4).length = psz l - 4 := by rw [List.length_drop, List.length_take]; omega
    have ha' : AllV (acc ++ [(pkd l, (l.take (psz l)).drop 4)]) := by
      intro t ht
      rcases List.mem_append.1 ht with ht | ht
      · exact ha t ht
      · rw [List.mem_singleton.1 ht]
        refine ⟨xchk_ok.2 ⟨hk, ?_⟩, (hb.take _).drop _⟩
        simp only
        rw [hdl]
        omega
    have h6 := prs_inv f (acc ++ [(pkd l, (l.take (psz l)).drop 4)]) (l.drop (psz l)) ha' (by simp; omega) (by rw [List.length_drop]; omega) (hb.drop _)
    refine ⟨fun h => ?_, h6.2⟩
    obtain ⟨g1, g2⟩ := h6.1 h
    refine ⟨?_, g2⟩
    rw [g1, fldsB_snoc, hr, List.append_assoc, List.take_append_drop]
/-- what was read is written as it was; an error returns nothing -/
theorem prs_back {l : List Int} (hb : Byt l) : (prsE l = 0 → fldsB (prsL l) ++ prsA l = l ∧ AllV (prsL l) ∧ (prsL l).length ≤ 16 ∧ (prsA l = [] ∨ (prsA l).length = 12)) ∧ (prsE l ≠ 0 → prsL l = [] ∧ prsA l = [] ∧ 0 < prsE l) := by
  have h := prs_inv l.length [] l (fun t ht => by cases ht) (by simp) (Nat.le_refl _) hb
  exact h
theorem apx_valid {L : Flds} (h : AllV L) (hl : L.length ≤ 16) : apxE L = 0 := by
  unfold apxE
  rw [if_neg (by omega), firE_valid fun t ht => (h t ht).1]
/-- fields that were written are read back -/
theorem prs_flds : ∀ (L : Flds) (f : Nat) (acc : Flds) (a : List Int), AllV L → acc.length + L.length ≤ 16 → (a = [] ∨ a.length = 12) → (fldsB L ++ a).length ≤ f → prs f acc (fldsB L ++ a) = (acc ++ L, a, 0)
  | [], f, acc, a, _, hc, ha, hf => by
    simp only [fldsB, List.nil_append, List.append_nil] at hf ⊢
    cases f with
    | zero => rw [List.eq_nil_of_length_eq_zero (by omega : a.length = 0)]; rfl
    | succ f =>
      rw [prs]
      rcases ha with rfl | ha
      · simp
      · rw [if_neg (by omega), if_pos ha]
  | t :: r, f, acc, a, hv, hc, ha, hf => by
    obtain ⟨hvt, hbt⟩ := hv t (by simp)
    obtain ⟨hk, h12, h256, h4⟩ := xchk_ok.1 hvt
    have hlen : (fldsB (t :: r) ++ a).length = 4 + t.2.length + (fldsB r ++ a).length := by
      simp only [fldsB, List.length_append, fldB_length]; omega
    have hl : ∃ q, fldsB (t :: r) ++ a = bytesB 2 t.1 ++ (bytesB 2 (4 + t.2.length) ++ (t.2 ++ q)) ∧ q = fldsB r ++ a := ⟨_, by simp [fldsB, fldB], rfl⟩
    obtain ⟨q, hq, hqe⟩ := hl
    have hp2 : (bytesB 2 t.1).length = 2 := bytesB_length _ _
    have hp2' : (bytesB 2 (4 + (t.2.length : Int))).length = 2 := bytesB_length _ _
    have e2 : (256 : Int) ^ 2 = 65536 := by decide
    have hkd : pkd (fldsB (t :: r) ++ a) = t.1 := by
      unfold pkd
      rw [hq, List.take_append_of_le_length (by omega), List.take_of_length_le (by omega)]
      exact numB_bytesB' 2 _ (by omega) (by omega) (by omega)
    have hsz : psz (fldsB (t :: r) ++ a) = 4 + t.2.length := by
      unfold psz
      rw [hq, List.drop_left' hp2, List.take_append_of_le_length (by omega), List.take_of_length_le (by omega), numB_bytesB' 2 _ (by omega) (by omega) (by omega)]
      omega
    cases f with
    | zero => omega
    | succ f =>
      rw [prs, hkd, hsz, if_neg (by omega), if_neg (by omega), if_neg (by omega), if_neg (by omega), if_neg (by omega), if_neg (by simp only [List.length_cons] at hc; omega)]
      have hd : (fldsB (t :: r) ++ a).drop (4 + t.2.length) = fldsB r ++ a := by
        rw [show fldsB (t :: r) ++ a = fldB t ++ (fldsB r ++ a) by simp [fldsB]]
        exact List.drop_left' (fldB_length t)
      have ht : ((fldsB (t :: r) ++ a).take (4 + t.2.length)).drop 4 = t.2 := by
        rw [show fldsB (t :: r) ++ a = fldB t ++ (fldsB r ++ a) by simp [fldsB], List.take_left' (fldB_length t)]
        unfold fldB
        exact List.drop_left' (by simp [bytesB_length])
      rw [hd, ht, show (t.1, t.2) = t from rfl, prs_flds r f (acc ++ [t]) a (fun x hx => hv x (by simp [hx])) (by simp only [List.length_append, List.length_cons, List.length_nil] at hc ⊢; omega) ha (by omega)]
      simp
theorem prs_of {L : Flds} {a : List Int} (hv : AllV L) (hc : L.length ≤ 16) (ha : a = [] ∨ a.length = 12) : prsL (fldsB L ++ a) = L ∧ prsA (fldsB L ++ a) = a ∧ prsE (fldsB L ++ a) = 0 := by
  have h := prs_flds L (fldsB L ++ a).length [] a hv (by simpa using hc) ha (Nat.le_refl _)
  unfold prsL prsA prsE
  rw [h]
  simp
end Go.Proofs.YtachhbbofemfdaaDoor
namespace Go.Proofs.YtachhbbofemfdaaDoor
open Go.RowKit
set_option linter.unusedSimpArgs false
set_option linter.unusedVariables false
set_option maxRecDepth 100000
theorem own_form {w : World} {lo size n : Nat} {E : TypeId} {v : Value} {xs : List Value} (h : w.ownsRow lo E size v n xs) (hn : 0 < n) : ∃ g cap, v = .slice (some ⟨g, 0, none⟩) n cap ∧ lo ≤ g ∧ g < w.heap.size ∧ n ≤ cap ∧ cap ≤ 9223372036854775807 ∧ ∀ k, k < n * size → w.cell? ⟨g, k, none⟩ = xs[k]? := by
  rcases h.2 with ⟨_, h0⟩ | ⟨g, cap, cur, rfl, hlo, hg, hnc, hcm, _⟩
  · omega
  · exact ⟨g, cap, rfl, hlo, (Array.getElem?_eq_some_iff.1 hg).1, hnc, by unfold maxLen at hcm; exact hcm, fun k hk => h.cellAt k hk⟩
section
variable {ops : Array Oper} {rest : List Oper} {o : Oper} {a : Act} {w : World} {Q : Exit → Act → World → Prop}
theorem wpl_append (hw : Region.wanted o (yielded ops a.tmps) = true) (d s : Operand) (T : TypeId) (ho : o.op = .call { callee := .builtin .append, args := #[d, s], argTypes := #[T, T] }) (E : TypeId) (z : Value) (size bytes : Nat)
    (hT : Tryd.prog.underlying T = some (.slice E)) (hI : (Tryd.prog.info? E).map (fun i => (i.zero, i.size, i.bytes)) = some (some z, size, bytes)) (hz : z.cells.size = size) (h0 : 0 < size) (v : Value) (n : Nat) (xs : List Value) (lo : Nat) (hd : a.eval d = v) (hown : w.ownsRow lo E size v n xs)
    (ad : Addr) (m c' : Nat) (hs : a.eval s = .slice (some ad) m c') (news : List Value) (hn : news.length = m * size) (hc : ∀ j u, news[j]? = some u → w.cell? (ad.add j) = some u) (h1 : ∀ u ∈ news, u.oneCell' = true)
    (hsz : n + m ≤ 1000000000) (hby : (n + m) * bytes ≤ 140737488355328) (hlo : lo ≤ w.heap.size)
    (h : ∀ v' w', w'.ownsRow lo E size v' (n + m) (xs ++ news) → Below lo w w' → w.grownBy w' v.ownBlock → wpList Tryd.prog ops Q rest (a.put o.dst v') w') : wpList Tryd.prog ops Q (o :: rest) a w := by
  obtain ⟨i, hi, hz', h1', h2'⟩ := info_parts hI
  obtain ⟨v', w', hrun, r1, r2, _, _⟩ := run_append_own_at (P := Tryd.prog) w lo T o.type E i z size bytes hT hi hz' h1' h2' hz h0 v n xs hown ad m c' news hn hc h1 (by unfold maxLen; omega) hby hlo
  refine wpl_want hw fun K hK => ?_
  unfold Oper.wp execOp
  simp only [ho, resolve, invoke, builtin, Sem.run_bind, Sem.run_pure, Result.andThen_ok, List.map_toArray, List.map_cons, List.map_nil, hd, hs, hrun]
  exact hK _ _ (h v' w' r1 (below_of_grown r2 hlo fun k hk => (hown.lt k hk).1) r2)
end
end Go.Proofs.YtachhbbofemfdaaDoor
