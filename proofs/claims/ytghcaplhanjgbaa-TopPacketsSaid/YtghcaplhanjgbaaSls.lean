/- Slices of structs that came in: each element's cells; the laws of load where a range of cells is known. No function of the program occurs here. -/
import Derived.Test.YtghcaplhanjgbaaFields
import Derived.Test.YtghcaplhanjgbaaBlk2
import Derived.Deep.Slices
import Derived.SizedLaws
namespace Go.Proofs.Ytghcaplhanjgbaa
open Go.ChangeShapes Go.WideShapes Go.ChangeAt Go.RowKit Go.Joins
set_option linter.unusedSimpArgs false
set_option linter.unusedVariables false
set_option maxRecDepth 100000
/-- n rows of s cells each in a block below hi -/
def Sl (w : World) (hi : Nat) (A : Option Addr) (n s : Nat) (F : Nat → List Value) : Prop :=
  0 < n → ∃ b o, A = some ⟨b, o, none⟩ ∧ b < hi ∧ ∀ k, k < n → (F k).length = s ∧ w.rangeAt b (o + k * s) (F k)
theorem range_below {w w' : World} {b o B : Nat} {cs : List Value} (h : w.rangeAt b o cs) (hb : Below B w w') (h1 : b < B) : w'.rangeAt b o cs := fun j v hv => (hb.cell (p := ⟨b, o + j, none⟩) h1).trans (h j v hv)
theorem range_but {w w' : World} {b o g : Nat} {cs : List Value} (h : w.rangeAt b o cs) (hb : But g w w') (h1 : b ≠ g) : w'.rangeAt b o cs := fun j v hv => (World.cell?_of_block (hb.block b (World.block_lt_of_cell? w _ (h j v hv)) (by simpa using h1))).trans (h j v hv)
theorem range_cell {w : World} {b o : Nat} {cs : List Value} (h : w.rangeAt b o cs) (i : Nat) {v : Value} (hv : cs[i]? = some v) : w.cell? ⟨b, o + i, none⟩ = some v := h i v hv
theorem range_mid {w : World} {b o : Nat} {cs : List Value} (h : w.rangeAt b o cs) (i : Nat) (sub : List Value) (hs : (cs.drop i).take sub.length = sub) : w.rangeAt b (o + i) sub := fun j v hv => by
  have hj : j < sub.length := (List.getElem?_eq_some_iff.1 hv).1
  rw [← hs, List.getElem?_take, if_pos hj, List.getElem?_drop] at hv
  rw [Nat.add_assoc]
  exact h (i + j) v hv
section
variable {w w' : World} {hi n s : Nat} {A : Option Addr} {F : Nat → List Value}
theorem Sl.below {B : Nat} (h : Sl w hi A n s F) (hb : Below B w w') (h1 : hi ≤ B) : Sl w' hi A n s F := fun hn => by
  obtain ⟨b, o, e, h2, hc⟩ := h hn
  exact ⟨b, o, e, h2, fun k hk => ⟨(hc k hk).1, range_below (hc k hk).2 hb (by omega)⟩⟩
theorem Sl.less {m : Nat} (h : Sl w hi A n s F) (hm : m ≤ n) : Sl w hi A m s F := fun hn => by
  obtain ⟨b, o, e, h2, hc⟩ := h (by omega)
  exact ⟨b, o, e, h2, fun k hk => hc k (by omega)⟩
end
section
variable {H : Type} {enc : TypeId × Value → H} {P : Program}
theorem open_rows {W : World} {base : Nat} {v : Value} {d : DataW H} {ps : List MemPlace} {T E : TypeId} {s : Nat} (Pf : List Value → Prop) (ht : P.underlying T = some (.slice E)) (hc : P.cellsOf E = s) (hs : 0 < s)
    (hP : ∀ fuel cs x, DataW.trod enc P W 0 (fun _ => true) true fuel E cs = some x → Pf cs)
    (hval : Value.okWide P W .any base T v) (h1 : DataW.Trod enc P W 0 (fun _ => true) true T v d ps) :
    ∃ (A : Option Addr) (n c : Nat) (F : Nat → List Value), v = .slice A n c ∧ Sl W W.heap.size A n s F ∧ n ≤ c ∧ c ≤ 9223372036854775807 ∧ (A = none → n = 0 ∧ c = 0) ∧ (∀ k, k < n → Pf (F k)) := by
  obtain ⟨a1, len, cap, rfl⟩ := okWide_slice ht hval
  obtain ⟨fuel, hf⟩ := h1
  rcases Go.Deep.open_slice ht hf with ⟨hcs, hx⟩ | ⟨a, len', cap', m, n, D, Pl, hcs, _, hl, hm, hmm, hx, hcell⟩
  · simp [Value.cells] at hcs
    obtain ⟨rfl, rfl, rfl⟩ := hcs
    exact ⟨none, 0, 0, fun _ => [], rfl, fun h => absurd h (by omega), Nat.le_refl _, by omega, fun _ => ⟨rfl, rfl⟩, fun k hk => by omega⟩
  · simp [Value.cells] at hcs
    obtain ⟨rfl, rfl, rfl⟩ := hcs
    simp only [if_true] at hmm
    subst hmm
    rw [hc] at hcell
    obtain ⟨F, hF⟩ := Go.Deep.choose_lt (fun i hi => hcell i hi)
    refine ⟨some a, len, m, F, rfl, fun hp => ?_, hl, (by unfold maxLen at hm; exact hm), (fun h => by cases h), fun k hk => hP _ _ _ (hF k (by omega)).2⟩
    obtain ⟨ab, ao, spot⟩ := a
    obtain ⟨_, hlen, hcl⟩ := World.cells?_some (hF 0 (by omega)).1
    have h0 := hcl 0 hs
    rw [List.getElem?_eq_getElem (by omega)] at h0
    have hspot : spot = none := by simpa [Addr.add] using World.cell?_spot h0
    subst hspot
    refine ⟨ab, ao, rfl, ?_, fun k hk => ?_⟩
    · have := World.block_lt_of_cell? W _ h0
      simpa [ofAdd] using this
    · obtain ⟨_, hlen, hcl⟩ := World.cells?_some (hF k (by omega)).1
      refine ⟨hlen, fun j u hu => ?_⟩
      have hj : j < s := by rw [← hlen]; exact (List.getElem?_eq_some_iff.1 hu).1
      have := hcl j hj
      rw [ofAdd, ofAdd, hu] at this
      exact this
end
section
variable {P : Program} {ops : Array Oper} {rest : List Oper} {o : Oper} {a : Act} {w : World} {Q : Exit → Act → World → Prop}
/-- a struct is read where a range of cells is known -/
theorem wpl_loadr (hw : Region.wanted o (yielded ops a.tmps) = true) (T : TypeId) (x : Operand) (ho : o.op = .load T x) (b i : Nat) (hx : a.eval x = .pointer (some ⟨b, i, none⟩)) (sub : List Value) (hr : w.rangeAt b i sub) (d : TypeDesc)
    (hu : P.underlying T = some d) (hd : d.isRow = true) (n : Nat) (hi : (P.info? T).map (·.size) = some n) (hn : sub.length = n)
    (h : wpList P ops Q rest (a.put o.dst (.agg sub.toArray)) w) : wpList P ops Q (o :: rest) a w := by
  subst hn
  exact wpl_want hw fun K hK => wp_load_mid T x ho b i hx sub d hr hu hd hi (hK _ _ h)
/-- one cell is read where it is known -/
theorem wpl_loadc (hw : Region.wanted o (yielded ops a.tmps) = true) (T : TypeId) (x : Operand) (ho : o.op = .load T x) (b i : Nat) (hx : a.eval x = .pointer (some ⟨b, i, none⟩)) (v : Value) (hcell : w.cell? ⟨b, i, none⟩ = some v) (d : TypeDesc)
    (hu : P.underlying T = some d) (hd : d.isRow = false)
    (h : wpList P ops Q rest (a.put o.dst v) w) : wpList P ops Q (o :: rest) a w := by
  refine wpl_want hw fun K hK => ?_
  have hagg : (isAgg T).run P w = .ok false w := by
    unfold isAgg
    rw [Sem.run_bind, run_underlying hu w]
    cases d <;> simp_all
  have hr : (Instr.loadAt T (.pointer (some ⟨b, i, none⟩))).run P w = .ok v w := by
    simp [Instr.loadAt, Instr.sureAddr, loadVar, Sem.run_bind, hagg, hcell, go_sem]
  unfold Oper.wp execOp
  simp only [ho, hx, Sem.run_bind, hr, Result.andThen_ok, Sem.run_pure]
  exact hK _ _ h
end
end Go.Proofs.Ytghcaplhanjgbaa
