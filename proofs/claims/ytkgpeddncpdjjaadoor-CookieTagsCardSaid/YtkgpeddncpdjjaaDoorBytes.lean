/- Byte slices as lists of numbers: what is read in memory, how it is kept, and the laws of make, copy and append in these words. No function of the program occurs here. -/
import Derived.Test.YtkgpeddncpdjjaaDoorBits
import Derived.Maps.AppendAt
import Derived.Deep.AppendLies
import Derived.RegionTactic
import Derived.OwnWalk
import Derived.Laws.OwnMore
import Derived.Laws.CopyOwn
import Derived.Laws.AppendOwnNone
import Derived.Deep.Draws
namespace Go.Proofs.YtkgpeddncpdjjaaDoor
open Go.RowKit
set_option linter.unusedSimpArgs false
set_option linter.unusedVariables false
set_option maxRecDepth 100000
/-- the element at k, 0 outside -/
def atB (l : List Int) (k : Nat) : Int := l.getD k 0
/-- all of a list's numbers are bytes -/
def Byt (l : List Int) : Prop := ∀ x ∈ l, 0 ≤ x ∧ x ≤ 255
/-- the slice address A (of as many elements as l has) reads as the bytes l, in a block from lo on and below hi -/
def Bs (w : World) (lo hi : Nat) (A : Option Addr) (l : List Int) : Prop :=
  Byt l ∧ (0 < l.length → ∃ b o, A = some ⟨b, o, none⟩ ∧ lo ≤ b ∧ b < hi ∧ ∀ k, k < l.length → w.cell? ⟨b, o + k, none⟩ = some (.int .u8 (atB l k)))
theorem getD_mem' {l : List Int} {k : Nat} (h : k < l.length) : atB l k ∈ l := by
  unfold atB; rw [List.getD_eq_getElem?_getD, List.getElem?_eq_getElem h]; exact List.getElem_mem h
theorem Byt.at {l : List Int} (h : Byt l) (k : Nat) : 0 ≤ atB l k ∧ atB l k ≤ 255 := by
  rcases Nat.lt_or_ge k l.length with hk | hk
  · exact h _ (getD_mem' hk)
  · unfold atB; rw [List.getD_eq_getElem?_getD, List.getElem?_eq_none hk]; simp
instance (l : List Int) : Decidable (Byt l) := by unfold Byt; infer_instance
theorem Byt.nil : Byt [] := fun x h => by simp at h
theorem Byt.app {l m : List Int} (h : Byt l) (h' : Byt m) : Byt (l ++ m) := fun x hx => by
  rcases List.mem_append.1 hx with hx | hx
  · exact h x hx
  · exact h' x hx
theorem Byt.cons {x : Int} {l : List Int} (h0 : 0 ≤ x) (h1 : x ≤ 255) (h : Byt l) : Byt (x :: l) := fun y hy => by
  rcases List.mem_cons.1 hy with rfl | hy
  · exact ⟨h0, h1⟩
  · exact h y hy
theorem Byt.drop {l : List Int} (h : Byt l) (k : Nat) : Byt (l.drop k) := fun x hx => h x (List.mem_of_mem_drop hx)
theorem Byt.take {l : List Int} (h : Byt l) (k : Nat) : Byt (l.take k) := fun x hx => h x (List.mem_of_mem_take hx)
theorem Byt.set {l : List Int} (h : Byt l) (k : Nat) {x : Int} (h0 : 0 ≤ x) (h1 : x ≤ 255) : Byt (l.set k x) := fun y hy => by
  rcases List.mem_or_eq_of_mem_set hy with hy | rfl
  · exact h y hy
  · exact ⟨h0, h1⟩
theorem Byt.zeros (n : Nat) : Byt (List.replicate n 0) := fun x hx => by
  obtain ⟨_, rfl⟩ := List.mem_replicate.1 hx; simp
section
variable {w w' : World} {lo hi lo' hi' : Nat} {A : Option Addr} {l m : List Int}
theorem Bs.byt (h : Bs w lo hi A l) : Byt l := h.1
theorem Bs.nil : Bs w lo hi A [] := ⟨Byt.nil, fun h => by simp at h⟩
theorem Bs.at (h : Bs w lo hi A l) (hl : 0 < l.length) : ∃ b o, A = some ⟨b, o, none⟩ ∧ lo ≤ b ∧ b < hi ∧ ∀ k, k < l.length → w.cell? ⟨b, o + k, none⟩ = some (.int .u8 (atB l k)) := h.2 hl
theorem Bs.keep (h : Bs w lo hi A l) (hk : ∀ b o, lo ≤ b → b < hi → w'.cell? ⟨b, o, none⟩ = w.cell? ⟨b, o, none⟩) : Bs w' lo hi A l :=
  ⟨h.1, fun hl => by
    obtain ⟨b, o, e, h1, h2, hc⟩ := h.2 hl
    exact ⟨b, o, e, h1, h2, fun k hk' => (hk _ _ h1 h2).trans (hc k hk')⟩⟩
theorem Bs.wide (h : Bs w lo hi A l) (h1 : lo' ≤ lo) (h2 : hi ≤ hi') : Bs w lo' hi' A l :=
  ⟨h.1, fun hl => by
    obtain ⟨b, o, e, h3, h4, hc⟩ := h.2 hl
    exact ⟨b, o, e, by omega, by omega, hc⟩⟩
theorem Bs.below {B : Nat} (h : Bs w lo hi A l) (hb : Below B w w') (h1 : hi ≤ B) : Bs w' lo hi A l := h.keep fun b o _ h2 => hb.cell (p := ⟨b, o, none⟩) (by show b < B; omega)
theorem Bs.grown {row : Option Nat} (h : Bs w lo hi A l) (hg : w.grownBy w' row) (hh : hi ≤ w.heap.size) (hr : ∀ g, row = some g → g < lo ∨ hi ≤ g) : Bs w' lo hi A l :=
  h.keep fun b o h1 h2 => World.cell?_of_block (hg.block b (by omega) (fun e => by have := hr _ e.symm; omega))
theorem Bs.drew (h : Bs w lo hi A l) : Bs w.drew lo hi A l := h
theorem Bs.drewN (h : Bs w lo hi A l) (k : Nat) : Bs (w.drewN k) lo hi A l := h
theorem Bs.alloc (h : Bs w lo hi A l) (hh : hi ≤ w.heap.size) (o : Obj) : Bs (w.alloc o) lo hi A l := h.keep fun b _ _ h2 => World.cell?_alloc_lt w o _ (by show b < _; omega)
theorem Bs.setCell (h : Bs w lo hi A l) {p : Addr} (hp : p.block < lo ∨ hi ≤ p.block) (u : Value) : Bs (w.setCell p u) lo hi A l :=
  h.keep fun b o h1 h2 => World.cell?_setCell_other w p _ u (fun e => by subst e; simp at hp; omega)
theorem ofAdd (b o i : Nat) : (Addr.add ⟨b, o, none⟩ i) = ⟨b, o + i, none⟩ := by
  unfold Addr.add; split
  · rename_i h; have : i = 0 := by simpa using h
    subst this; rfl
  · rfl
theorem Bs.drop (h : Bs w lo hi A l) {i c : Nat} (hc : l.length ≤ c) : Bs w lo hi (if c = i then A else A.map (·.add i)) (l.drop i) := by
  refine ⟨h.1.drop i, fun hl => ?_⟩
  rw [List.length_drop] at hl
  obtain ⟨b, o, rfl, h1, h2, hcell⟩ := h.2 (by omega)
  rw [if_neg (by omega)]
  refine ⟨b, o + i, by simp [ofAdd], h1, h2, fun k hk => ?_⟩
  rw [List.length_drop] at hk
  rw [Nat.add_assoc, hcell (i + k) (by omega)]
  simp [atB, List.getD_eq_getElem?_getD]
theorem Bs.take (h : Bs w lo hi A l) (i : Nat) : Bs w lo hi A (l.take i) := by
  refine ⟨h.1.take i, fun hl => ?_⟩
  rw [List.length_take] at hl
  obtain ⟨b, o, rfl, h1, h2, hcell⟩ := h.2 (by omega)
  refine ⟨b, o, rfl, h1, h2, fun k hk => ?_⟩
  rw [List.length_take] at hk
  rw [hcell k (by omega)]
  have : k < i := by omega
  simp [atB, List.getD_eq_getElem?_getD, List.getElem?_take, this]
theorem Bs.cut (h : Bs w lo hi A l) {i c : Nat} (hc : l.length ≤ c) (n : Nat) : Bs w lo hi (if c = i then A else A.map (·.add i)) ((l.drop i).take n) := (h.drop hc).take n
theorem Bs.dropm (h : Bs w lo hi A l) (i : Nat) : Bs w lo hi (A.map (·.add i)) (l.drop i) := by
  have := h.drop (i := i) (c := l.length + i + 1) (by omega)
  rwa [if_neg (by omega)] at this
theorem Bs.cutm (h : Bs w lo hi A l) (i n : Nat) : Bs w lo hi (A.map (·.add i)) ((l.drop i).take n) := (h.dropm i).take n
/-- the call's own row of bytes -/
def Ow (w : World) (lo : Nat) (A : Option Addr) (c : Nat) (l : List Int) : Prop := Byt l ∧ w.ownsRow lo 5 1 (.slice A l.length c) l.length (l.map (Value.int .u8))
theorem Ow.mk {v : Value} {n : Nat} {xs : List Value} (h : w.ownsRow lo 5 1 v n xs) (hx : xs = l.map (Value.int .u8)) (hb : Byt l) : ∃ A c, v = .slice A l.length c ∧ Ow w lo A c l ∧ (0 < l.length → l.length ≤ c) := by
  subst hx
  have hl : n = l.length := by have := h.1; simp at this; omega
  subst hl
  rcases h.2 with ⟨rfl, h0⟩ | ⟨g, cap, cur, rfl, hg, hr⟩
  · refine ⟨none, 0, by rw [h0], ⟨hb, by rw [h0] at h ⊢; exact h⟩, by omega⟩
  · exact ⟨_, _, rfl, ⟨hb, h⟩, fun _ => hr.2.1⟩
theorem Ow.cap_le {c : Nat} (h : Ow w lo A c l) : l.length ≤ c := by
  rcases h.2.2 with ⟨h', h0⟩ | ⟨g', cap', cur, h', _, hg, h1, _⟩
  · omega
  · simp only [Value.slice.injEq] at h'; omega
theorem Ow.nil (w : World) (lo : Nat) : Ow w lo none 0 [] := ⟨Byt.nil, World.ownsRow_nil _ _ _ _⟩
theorem Ow.cap_max {c : Nat} (h : Ow w lo A c l) : c ≤ 9223372036854775807 := by
  rcases h.2.2 with ⟨h', h0⟩ | ⟨g', cap', cur, h', _, hg, h1, h2, _⟩
  · simp only [Value.slice.injEq] at h'; omega
  · simp only [Value.slice.injEq] at h'; unfold maxLen at h2; omega
theorem Ow.form {c : Nat} (h : Ow w lo A c l) : (A = none ∧ l = [] ∧ c = 0) ∨ ∃ g, A = some ⟨g, 0, none⟩ ∧ lo ≤ g ∧ g < w.heap.size := by
  rcases h.2.2 with ⟨h', h0⟩ | ⟨g', cap', cur, h', hlo, hg, h1, _⟩
  · simp only [Value.slice.injEq] at h'
    exact .inl ⟨h'.1, List.eq_nil_of_length_eq_zero h0, h'.2.2⟩
  · simp only [Value.slice.injEq] at h'
    exact .inr ⟨g', h'.1, hlo, (Array.getElem?_eq_some_iff.1 hg).1⟩
theorem Ow.cell {g c k : Nat} (h : Ow w lo (some ⟨g, 0, none⟩) c l) (hk : k < l.length) : w.cell? ⟨g, k, none⟩ = some (.int .u8 (atB l k)) := by
  rw [h.2.cellAt k (by omega)]
  simp [List.getElem?_map, List.getElem?_eq_getElem hk, atB, List.getD_eq_getElem?_getD]
theorem Ow.frozen {g c : Nat} (h : Ow w lo (some ⟨g, 0, none⟩) c l) (k : Nat) : w.frozen? ⟨g, k, none⟩ = false := h.2.frozenAt k
theorem Ow.bs {c : Nat} (h : Ow w lo A c l) : Bs w lo w.heap.size A l := by
  refine ⟨h.1, fun hl => ?_⟩
  rcases h.form with ⟨_, rfl, _⟩ | ⟨g, rfl, h1, h2⟩
  · simp at hl
  · exact ⟨g, 0, rfl, h1, h2, fun k hk => by simpa using h.cell hk⟩
theorem Ow.bs' {c g : Nat} (h : Ow w lo (some ⟨g, 0, none⟩) c l) : Bs w g (g + 1) (some ⟨g, 0, none⟩) l :=
  ⟨h.1, fun hl => ⟨g, 0, rfl, by omega, by omega, fun k hk => by simpa using h.cell hk⟩⟩
theorem Ow.grown {row : Option Nat} {c : Nat} (h : Ow w lo A c l) (hg : w.grownBy w' row) (hne : ∀ g, A = some ⟨g, 0, none⟩ → row ≠ some g) : Ow w' lo A c l := by
  refine ⟨h.1, h.2.kept hg ?_⟩
  rcases h.form with ⟨rfl, _, _⟩ | ⟨g, rfl, _, _⟩
  · exact .inl rfl
  · exact .inr (fun e => hne g rfl (by simpa [Value.ownBlock] using e.symm))
theorem Ow.below {B : Nat} {c : Nat} (h : Ow w lo A c l) (hb : Below B w w') (h1 : w.heap.size ≤ B) : Ow w' lo A c l :=
  h.grown (row := none) ⟨hb.os, hb.tape, hb.output, hb.size, fun k hk _ => hb.block k (by omega)⟩ (by simp)
theorem Ow.set {g c : Nat} (h : Ow w lo (some ⟨g, 0, none⟩) c l) (k : Nat) {x : Int} (h0 : 0 ≤ x) (h1 : x ≤ 255) :
    Ow (w.setCell ⟨g, k, none⟩ (.int .u8 x)) lo (some ⟨g, 0, none⟩) c (l.set k x) := by
  have := (h.2.stored k (.int .u8 x)).1
  refine ⟨h.1.set k h0 h1, ?_⟩
  rw [List.length_set, List.map_set]; exact this
end
theorem map_inj_u8 {l m : List Int} (h : l.map (Value.int .u8) = m.map (Value.int .u8)) : l = m := by
  induction l generalizing m with
  | nil => cases m <;> simp_all
  | cons x l ih => cases m with
    | nil => simp at h
    | cons y m => simp at h; rw [h.1, ih h.2]
theorem oneCellU8 (l : List Int) : ∀ u ∈ l.map (Value.int .u8), u.oneCell' = true := by
  intro u hu; obtain ⟨x, _, rfl⟩ := List.mem_map.1 hu; rfl
end Go.Proofs.YtkgpeddncpdjjaaDoor
