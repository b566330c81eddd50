/- Small lemmas about worlds that the other texts of this claim use: how a world that has only new blocks reads; results of several values. No function of the program occurs here. Bit operations on unsigned 64-bit numbers and on ints as arithmetic. No function of the program occurs here. Byte slices as lists of numbers: what is read in memory, how it is kept, and the laws of make, copy and append in these words. No function of the program occurs here. make, copy and append on byte slices, in the words of Bytes. No function of the program occurs here. Blocks of memory known whole (structs, arrays), and the laws of alloc, box, load and store in these words: behind each the world is a letter. No function of the program occurs here. Structs inside structs: the laws of load and store in the midst of a block that is known whole. No function of the program occurs here. What a stretch of a walk leaves alone: all blocks that stood before, but those of a list. For regions that draw their order. No function of the program occurs here. The mixing function, of the program and of the reference. -/
import Derived.Test.YtachhbbofemfdaaDoorRows
import Derived.WalkKit
import Derived.WalkSpells
import Derived.WalkLawsBesides
import Derived.ProofKit
import Derived.OpenShut
import Derived.Lib.Hide
import Derived.Deep.RegionHeld3
import Derived.Deep.DrawnRows
import Derived.BigQuiet
import Derived.Deep.QuietTactic
import Derived.Deep.DeepFit
import Derived.Deep.DeepMust
import Derived.Laws.BitsLemmas
import Derived.Laws.BitsAllLaws
import Derived.Maps.AppendAt
import Derived.Deep.AppendLies
import Derived.RegionTactic
import Derived.OwnWalk
import Derived.Laws.OwnMore
import Derived.Laws.CopyOwn
import Derived.Laws.AppendOwnNone
import Derived.Deep.Draws
import Derived.Deep.OwnRows
import Derived.Deep.MidRow
namespace Go.Proofs.YtachhbbofemfdaaDoor
open Go.RowKit
theorem kept_cell {B : Nat} {w w' : World} {p : Addr} {v : Value} (h : Below B w w') (hv : w.cell? p = some v) (hp : p.block < B) : w'.cell? p = some v := (h.cell hp).trans hv
/-- What stands in a cell that is there: for a cell that is written, whose value nobody reads. -/
@[irreducible] def cellv (w : World) (b i : Nat) : Value := (w.cell? ⟨b, i, none⟩).getD undef
theorem some_of {w : World} {b i : Nat} {v : Value} (h : w.cell? ⟨b, i, none⟩ = some v) : w.cell? ⟨b, i, none⟩ = some (cellv w b i) := by unfold cellv; simp [h]
theorem some_set {w : World} {b i : Nat} {v u : Value} {a : Addr} (h : w.cell? ⟨b, i, none⟩ = some v) : (w.setCell a u).cell? ⟨b, i, none⟩ = some (cellv (w.setCell a u) b i) := by
  by_cases e : a = ⟨b, i, none⟩
  · subst e; exact some_of (World.cell?_setCell_same w _ _ h)
  · exact some_of ((World.cell?_setCell_other w _ _ _ e).trans h)
theorem set_far {w : World} {p a : Addr} {v u : Value} (h : w.cell? p = some v) (hne : p.block ≠ a.block) : (w.setCell a u).cell? p = some v := by
  rw [World.cell?_setCell_other w _ _ _ (fun e => hne (by rw [e]))]; exact h
theorem set_frozen {w : World} {b : Nat} {a : Addr} {u : Value} (h : ∀ o, w.frozen? ⟨b, o, none⟩ = false) : ∀ o, (w.setCell a u).frozen? ⟨b, o, none⟩ = false := fun o => by rw [World.frozen?_setCell]; exact h o
theorem drew_cell {w : World} {p : Addr} {v : Value} (h : w.cell? p = some v) : w.drew.cell? p = some v := h
theorem drew_frozen {w : World} {b : Nat} (h : ∀ o, w.frozen? ⟨b, o, none⟩ = false) : ∀ o, w.drew.frozen? ⟨b, o, none⟩ = false := h
theorem ret_int {k : IntKind} {a b : Int} (h : a = b) : Ending.returned (.int k a) = .returned (.int k b) := by rw [h]
theorem ret_bool {a b : Bool} (h : a = b) : Ending.returned (.bool a) = .returned (.bool b) := by rw [h]
theorem ret_val {a b : Value} (h : a = b) : Ending.returned a = .returned b := by rw [h]
/-- a field of a result that is zero beside an error -/
def z0 (c x : Int) : Int := if c = 0 then x else 0
theorem z0_zero (x : Int) : z0 0 x = x := by simp [z0]
theorem z0_no {c x : Int} (h : c ≠ 0) : z0 c x = 0 := by simp [z0, h]
end Go.Proofs.YtachhbbofemfdaaDoor
namespace Go.Proofs.YtachhbbofemfdaaDoor
open Go.RowKit
set_option linter.unusedSimpArgs false
set_option linter.unusedVariables false
set_option maxRecDepth 100000
theorem wraps_u64 (n : Int) (h₀ : 0 ≤ n) (h₁ : n < 2 ^ 64) : IntKind.u64.wrap n = n := by rw [IntKind.wrap_u64]; omega
theorem or_u64 (i : Nat) (x y : Int) (h0 : 0 ≤ x) (hx : x % 2 ^ i = 0) (h1 : x < 18446744073709551616) (h2 : 0 ≤ y) (h3 : y < 2 ^ i) (h4 : y < 18446744073709551616) : bits .or .u64 x y = x + y :=
  bits_join .u64 64 (by decide) wraps_u64 i x y h0 hx h1 h2 h3 h4
theorem or_u64_8 (x y : Int) (h0 : 0 ≤ x) (hx : x % 256 = 0) (h1 : x < 18446744073709551616) (h2 : 0 ≤ y) (h3 : y < 256) : bits .or .u64 x y = x + y :=
  or_u64 8 x y h0 (by simpa using hx) h1 h2 (by simpa using h3) (by omega)
end Go.Proofs.YtachhbbofemfdaaDoor
namespace Go.Proofs.YtachhbbofemfdaaDoor
open Go.RowKit
set_option linter.unusedSimpArgs false
set_option linter.unusedVariables false
set_option maxRecDepth 100000
/-- the element at k, 0 outside -/
def atB (l : List Int) (k : Nat) : Int := l.getD k 0
/-- all of a list's numbers are bytes -/
def Byt (l : List Int) : Prop := ∀ x ∈ l, 0 ≤ x ∧ x ≤ 255
/-- the slice address A (of as many elements as l has) reads as the bytes l, in a block from lo on and below hi -/
def Bs (w : World) (lo hi : Nat) (A : Option Addr) (l : List Int) : Prop :=
  Byt l ∧ (0 < l.length → ∃ b o, A = some ⟨b, o, none⟩ ∧ lo ≤ b ∧ b < hi ∧ ∀ k, k < l.length → w.cell? ⟨b, o + k, none⟩ = some (.int .u8 (atB l k)))
theorem getD_mem' {l : List Int} {k : Nat} (h : k < l.length) : atB l k ∈ l := by
  unfold atB; rw [List.getD_eq_getElem?_getD, List.getElem?_eq_getElem h]; exact List.getElem_mem h
theorem Byt.at {l : List Int} (h : Byt l) (k : Nat) : 0 ≤ atB l k ∧ atB l k ≤ 255 := by
  rcases Nat.lt_or_ge k l.length with hk | hk
  · exact h _ (getD_mem' hk)
  · unfold atB; rw [List.getD_eq_getElem?_getD, List.getElem?_eq_none hk]; simp
instance (l : List Int) : Decidable (Byt l) := by unfold Byt; infer_instance
theorem Byt.nil : Byt [] := fun x h => by simp at h
theorem Byt.app {l m : List Int} (h : Byt l) (h' : Byt m) : Byt (l ++ m) := fun x hx => by
  rcases List.mem_append.1 hx with hx | hx
  · exact h x hx
  · exact h' x hx
theorem Byt.cons {x : Int} {l : List Int} (h0 : 0 ≤ x) (h1 : x ≤ 255) (h : Byt l) : Byt (x :: l) := fun y hy => by
  rcases List.mem_cons.1 hy with rfl | hy
  · exact ⟨h0, h1⟩
  · exact h y hy
theorem Byt.drop {l : List Int} (h : Byt l) (k : Nat) : Byt (l.drop k) := fun x hx => h x (List.mem_of_mem_drop hx)
theorem Byt.take {l : List Int} (h : Byt l) (k : Nat) : Byt (l.take k) := fun x hx => h x (List.mem_of_mem_take hx)
theorem Byt.set {l : List Int} (h : Byt l) (k : Nat) {x : Int} (h0 : 0 ≤ x) (h1 : x ≤ 255) : Byt (l.set k x) := fun y hy => by
  rcases List.mem_or_eq_of_mem_set hy with hy | rfl
  · exact h y hy
  · exact ⟨h0, h1⟩
theorem Byt.zeros (n : Nat) : Byt (List.replicate n 0) := fun x hx => by
  obtain ⟨_, rfl⟩ := List.mem_replicate.1 hx; simp
section
variable {w w' : World} {lo hi lo' hi' : Nat} {A : Option Addr} {l m : List Int}
theorem Bs.byt (h : Bs w lo hi A l) : Byt l := h.1
theorem Bs.nil : Bs w lo hi A [] := ⟨Byt.nil, fun h => by simp at h⟩
theorem Bs.at (h : Bs w lo hi A l) (hl : 0 < l.length) : ∃ b o, A = some ⟨b, o, none⟩ ∧ lo ≤ b ∧ b < hi ∧ ∀ k, k < l.length → w.cell? ⟨b, o + k, none⟩ = some (.int .u8 (atB l k)) := h.2 hl
theorem Bs.keep (h : Bs w lo hi A l) (hk : ∀ b o, lo ≤ b → b < hi → w'.cell? ⟨b, o, none⟩ = w.cell? ⟨b, o, none⟩) : Bs w' lo hi A l :=
  ⟨h.1, fun hl => by
    obtain ⟨b, o, e, h1, h2, hc⟩ := h.2 hl
    exact ⟨b, o, e, h1, h2, fun k hk' => (hk _ _ h1 h2).trans (hc k hk')⟩⟩
theorem Bs.wide (h : Bs w lo hi A l) (h1 : lo' ≤ lo) (h2 : hi ≤ hi') : Bs w lo' hi' A l :=
  ⟨h.1, fun hl => by
    obtain ⟨b, o, e, h3, h4, hc⟩ := h.2 hl
    exact ⟨b, o, e, by omega, by omega, hc⟩⟩
theorem Bs.below {B : Nat} (h : Bs w lo hi A l) (hb : Below B w w') (h1 : hi ≤ B) : Bs w' lo hi A l := h.keep fun b o _ h2 => hb.cell (p := ⟨b, o, none⟩) (by show b < B; omega)
theorem Bs.grown {row : Option Nat} (h : Bs w lo hi A l) (hg : w.grownBy w' row) (hh : hi ≤ w.heap.size) (hr : ∀ g, row = some g → g < lo ∨ hi ≤ g) : Bs w' lo hi A l :=
  h.keep fun b o h1 h2 => World.cell?_of_block (hg.block b (by omega) (fun e => by have := hr _ e.symm; omega))
theorem Bs.drew (h : Bs w lo hi A l) : Bs w.drew lo hi A l := h
theorem Bs.alloc (h : Bs w lo hi A l) (hh : hi ≤ w.heap.size) (o : Obj) : Bs (w.alloc o) lo hi A l := h.keep fun b _ _ h2 => World.cell?_alloc_lt w o _ (by show b < _; omega)
theorem Bs.setCell (h : Bs w lo hi A l) {p : Addr} (hp : p.block < lo ∨ hi ≤ p.block) (u : Value) : Bs (w.setCell p u) lo hi A l :=
  h.keep fun b o h1 h2 => World.cell?_setCell_other w p _ u (fun e => by subst e; simp at hp; omega)
theorem ofAdd (b o i : Nat) : (Addr.add ⟨b, o, none⟩ i) = ⟨b, o + i, none⟩ := by
  unfold Addr.add; split
  · rename_i h; have : i = 0 := by simpa using h
    subst this; rfl
  · rfl
theorem Bs.drop (h : Bs w lo hi A l) {i c : Nat} (hc : l.length ≤ c) : Bs w lo hi (if c = i then A else A.map (·.add i)) (l.drop i) := by
  refine ⟨h.1.drop i, fun hl => ?_⟩
  rw [List.length_drop] at hl
  obtain ⟨b, o, rfl, h1, h2, hcell⟩ := h.2 (by omega)
  rw [if_neg (by omega)]
  refine ⟨b, o + i, by simp [ofAdd], h1, h2, fun k hk => ?_⟩
  rw [List.length_drop] at hk
  rw [Nat.add_assoc, hcell (i + k) (by omega)]
  simp [atB, List.getD_eq_getElem?_getD]
theorem Bs.take (h : Bs w lo hi A l) (i : Nat) : Bs w lo hi A (l.take i) := by
  refine ⟨h.1.take i, fun hl => ?_⟩
  rw [List.length_take] at hl
  obtain ⟨b, o, rfl, h1, h2, hcell⟩ := h.2 (by omega)
  refine ⟨b, o, rfl, h1, h2, fun k hk => ?_⟩
  rw [List.length_take] at hk
  rw [hcell k (by omega)]
  have : k < i := by omega
  simp [atB, List.getD_eq_getElem?_getD, List.getElem?_take, this]
theorem Bs.cut (h : Bs w lo hi A l) {i c : Nat} (hc : l.length ≤ c) (n : Nat) : Bs w lo hi (if c = i then A else A.map (·.add i)) ((l.drop i).take n) := (h.drop hc).take n
theorem Bs.dropm (h : Bs w lo hi A l) (i : Nat) : Bs w lo hi (A.map (·.add i)) (l.drop i) := by
  have := h.drop (i := i) (c := l.length + i + 1) (by omega)
  rwa [if_neg (by omega)] at this
theorem Bs.cutm (h : Bs w lo hi A l) (i n : Nat) : Bs w lo hi (A.map (·.add i)) ((l.drop i).take n) := (h.dropm i).take n
/-- the call's own row of bytes -/
def Ow (w : World) (lo : Nat) (A : Option Addr) (c : Nat) (l : List Int) : Prop := Byt l ∧ w.ownsRow lo 5 1 (.slice A l.length c) l.length (l.map (Value.int .u8))
theorem Ow.mk {v : Value} {n : Nat} {xs : List Value} (h : w.ownsRow lo 5 1 v n xs) (hx : xs = l.map (Value.int .u8)) (hb : Byt l) : ∃ A c, v = .slice A l.length c ∧ Ow w lo A c l ∧ (0 < l.length → l.length ≤ c) := by
  subst hx
  have hl : n = l.length := by have := h.1; simp at this; omega
  subst hl
  rcases h.2 with ⟨rfl, h0⟩ | ⟨g, cap, cur, rfl, hg, hr⟩
  · refine ⟨none, 0, by rw [h0], ⟨hb, by rw [h0] at h ⊢; exact h⟩, by omega⟩
  · exact ⟨_, _, rfl, ⟨hb, h⟩, fun _ => hr.2.1⟩
theorem Ow.cap_le {c : Nat} (h : Ow w lo A c l) : l.length ≤ c := by
  rcases h.2.2 with ⟨h', h0⟩ | ⟨g', cap', cur, h', _, hg, h1, _⟩
  · omega
  · simp only [Value.slice.injEq] at h'; omega
theorem Ow.nil (w : World) (lo : Nat) : Ow w lo none 0 [] := ⟨Byt.nil, World.ownsRow_nil _ _ _ _⟩
theorem Ow.cap_max {c : Nat} (h : Ow w lo A c l) : c ≤ 9223372036854775807 := by
  rcases h.2.2 with ⟨h', h0⟩ | ⟨g', cap', cur, h', _, hg, h1, h2, _⟩
  · simp only [Value.slice.injEq] at h'; omega
  · simp only [Value.slice.injEq] at h'; unfold maxLen at h2; omega
theorem Ow.form {c : Nat} (h : Ow w lo A c l) : (A = none ∧ l = [] ∧ c = 0) ∨ ∃ g, A = some ⟨g, 0, none⟩ ∧ lo ≤ g ∧ g < w.heap.size := by
  rcases h.2.2 with ⟨h', h0⟩ | ⟨g', cap', cur, h', hlo, hg, h1, _⟩
  · simp only [Value.slice.injEq] at h'
    exact .inl ⟨h'.1, List.eq_nil_of_length_eq_zero h0, h'.2.2⟩
  · simp only [Value.slice.injEq] at h'
    exact .inr ⟨g', h'.1, hlo, (Array.getElem?_eq_some_iff.1 hg).1⟩
theorem Ow.cell {g c k : Nat} (h : Ow w lo (some ⟨g, 0, none⟩) c l) (hk : k < l.length) : w.cell? ⟨g, k, none⟩ = some (.int .u8 (atB l k)) := by
  rw [h.2.cellAt k (by omega)]
  simp [List.getElem?_map, List.getElem?_eq_getElem hk, atB, List.getD_eq_getElem?_getD]
theorem Ow.frozen {g c : Nat} (h : Ow w lo (some ⟨g, 0, none⟩) c l) (k : Nat) : w.frozen? ⟨g, k, none⟩ = false := h.2.frozenAt k
theorem Ow.bs {c : Nat} (h : Ow w lo A c l) : Bs w lo w.heap.size A l := by
  refine ⟨h.1, fun hl => ?_⟩
  rcases h.form with ⟨_, rfl, _⟩ | ⟨g, rfl, h1, h2⟩
  · simp at hl
  · exact ⟨g, 0, rfl, h1, h2, fun k hk => by simpa using h.cell hk⟩
theorem Ow.grown {row : Option Nat} {c : Nat} (h : Ow w lo A c l) (hg : w.grownBy w' row) (hne : ∀ g, A = some ⟨g, 0, none⟩ → row ≠ some g) : Ow w' lo A c l := by
  refine ⟨h.1, h.2.kept hg ?_⟩
  rcases h.form with ⟨rfl, _, _⟩ | ⟨g, rfl, _, _⟩
  · exact .inl rfl
  · exact .inr (fun e => hne g rfl (by simpa [Value.ownBlock] using e.symm))
theorem Ow.below {B : Nat} {c : Nat} (h : Ow w lo A c l) (hb : Below B w w') (h1 : w.heap.size ≤ B) : Ow w' lo A c l :=
  h.grown (row := none) ⟨hb.os, hb.tape, hb.output, hb.size, fun k hk _ => hb.block k (by omega)⟩ (by simp)
theorem Ow.set {g c : Nat} (h : Ow w lo (some ⟨g, 0, none⟩) c l) (k : Nat) {x : Int} (h0 : 0 ≤ x) (h1 : x ≤ 255) :
    Ow (w.setCell ⟨g, k, none⟩ (.int .u8 x)) lo (some ⟨g, 0, none⟩) c (l.set k x) := by
  have := (h.2.stored k (.int .u8 x)).1
  refine ⟨h.1.set k h0 h1, ?_⟩
  rw [List.length_set, List.map_set]; exact this
end
theorem oneCellU8 (l : List Int) : ∀ u ∈ l.map (Value.int .u8), u.oneCell' = true := by
  intro u hu; obtain ⟨x, _, rfl⟩ := List.mem_map.1 hu; rfl
end Go.Proofs.YtachhbbofemfdaaDoor
namespace Go.Proofs.YtachhbbofemfdaaDoor
open Go.RowKit
set_option linter.unusedSimpArgs false
set_option linter.unusedVariables false
set_option maxRecDepth 100000
theorem infoU8 : (Tryd.prog.info? 5).map (fun i => (i.zero, i.size, i.bytes)) = some (some (.int .u8 0), 1, 1) := by kernel_rfl
theorem sizeU8 : (Tryd.prog.info? 5).map (·.size) = some 1 := by kernel_rfl
theorem makeU8 (kl kc : IntKind) (n : Nat) (hn : n ≤ 281474976710656) (w : World) :
    (Instr.makeSlice 23 (.int kl (n : Int)) (.int kc (n : Int))).run Tryd.prog w = .ok (.slice (some ⟨w.heap.size, 0, none⟩) n n) (w.alloc (.cells (madeCells #[.int .u8 0] n) 5)) :=
  run_make_row' 23 5 (.int .u8 0) 1 Tryd.underlying23 infoU8 rfl kl kc n (by omega) (by omega) w
section
variable {w : World} {lo lo' hi' : Nat} {A B : Option Addr} {l m : List Int}
theorem Ow.made (w : World) (n : Nat) (hn : n ≤ 281474976710656) : Ow (w.alloc (.cells (madeCells #[.int .u8 0] n) 5)) w.heap.size (some ⟨w.heap.size, 0, none⟩) n (List.replicate n 0) := by
  refine ⟨Byt.zeros n, ?_⟩
  have h := World.ownsRow_lit (base := w.heap.size) (e := 5) (size := 1) w (madeCells #[.int .u8 0] n) n (Nat.le_refl _) (by unfold maxLen; omega) (by simp [madeCells])
  rw [toList_madeCells_one] at h
  rw [List.length_replicate, List.map_replicate]; exact h
theorem Ow.lit (w : World) (l : List Int) (cs : Array Value) (hc : cs.toList = l.map (Value.int .u8)) (hb : Byt l) (hl : l.length ≤ 281474976710656) :
    Ow (w.alloc (.cells cs 5)) w.heap.size (some ⟨w.heap.size, 0, none⟩) l.length l := by
  refine ⟨hb, ?_⟩
  have hs : cs.size = l.length := by rw [← Array.length_toList, hc, List.length_map]
  have h := World.ownsRow_lit (base := w.heap.size) (e := 5) (size := 1) w cs l.length (Nat.le_refl _) (by unfold maxLen; omega) (by omega)
  rw [hc] at h
  exact h
theorem Ow.blt {c : Nat} (h : Ow w lo A c l) : ∀ g, A = some ⟨g, 0, none⟩ → lo ≤ g ∧ g < w.heap.size := by
  intro g e
  rcases h.form with ⟨h', _, _⟩ | ⟨g', h', h1, h2⟩
  · rw [h'] at e; cases e
  · rw [h'] at e; injection e with e; injection e with e; subst e; exact ⟨h1, h2⟩
theorem Ow.alloc {c : Nat} (h : Ow w lo A c l) (o : Obj) : Ow (w.alloc o) lo A c l := ⟨h.1, h.2.alloc o⟩
theorem Ow.wide {c : Nat} (h : Ow w lo A c l) (hl : lo' ≤ lo) : Ow w lo' A c l := by
  refine ⟨h.1, h.2.1, ?_⟩
  rcases h.2.2 with h' | ⟨g, cap, cur, h1, h2, h3⟩
  · exact .inl h'
  · exact .inr ⟨g, cap, cur, h1, by omega, h3⟩
theorem below_of_grown {w w' : World} {row : Option Nat} {B : Nat} (hg : w.grownBy w' row) (hB : B ≤ w.heap.size) (hr : ∀ k, row = some k → B ≤ k) : Below B w w' := (Below.refl B w).grown hg hB hr
theorem cells_u8 {b o : Nat} {n : Nat} (hc : ∀ k, k < n → w.cell? ⟨b, o + k, none⟩ = some (.int .u8 (atB l k))) (hn : l.length ≤ n) :
    ∀ j v, (l.map (Value.int .u8))[j]? = some v → w.cell? ((⟨b, o, none⟩ : Addr).add j) = some v := by
  intro j v hj
  rw [ofAdd]
  rw [List.getElem?_map] at hj
  rcases Nat.lt_or_ge j l.length with h | h
  · rw [List.getElem?_eq_getElem h] at hj
    rw [hc j (by omega)]
    simp [atB, List.getD_eq_getElem?_getD, List.getElem?_eq_getElem h]
    simpa using hj
  · rw [List.getElem?_eq_none h] at hj; simp at hj
theorem only_setCell {a w : World} {g : Nat} (h : a.grownBy w (some g)) {p : Addr} (hp : p.block = g ∨ a.heap.size ≤ p.block) (u : Value) : a.grownBy (w.setCell p u) (some g) :=
  ⟨h.os, h.tape, h.output, by simpa [World.setCell] using h.size, fun i hi hne => (Below.heap_setCell w p u i (by
    rintro rfl
    rcases hp with hp | hp
    · exact hne (by rw [hp])
    · omega)).trans (h.block i hi hne)⟩
/-- copy of bytes to the front of a row of the call's own -/
theorem wpList_copy_bs {ops : Array Oper} {rest : List Oper} {o : Oper} {a : Act} {Q : Exit → Act → World → Prop} (hgd : o.guard = none) (d s : Operand)
    (ho : o.op = .call { callee := .builtin .copy, args := #[d, s], argTypes := #[23, 23] })
    (g n c m c' : Nat) (z : List Int) (hd : a.eval d = .slice (some ⟨g, 0, none⟩) n c) (hs : a.eval s = .slice A m c') (hz : z.length = n) (hm : l.length = m) (hmn : m ≤ n)
    (hown : Ow w lo (some ⟨g, 0, none⟩) c z) (hsrc : Bs w lo' hi' A l)
    (h : ∀ w', Ow w' lo (some ⟨g, 0, none⟩) c (l ++ z.drop m) → w.grownBy w' (some g) → w'.heap.size = w.heap.size → wpList Tryd.prog ops Q rest (a.put o.dst (goInt m)) w') : wpList Tryd.prog ops Q (o :: rest) a w := by
  subst hz hm
  obtain ⟨hbz, hlen, hrow⟩ := hown
  rcases hrow with ⟨he, _⟩ | ⟨g', cap, cur, he, hlo, hg, hnc, hcm, hcs, htake⟩
  · simp at he
  · simp only [Value.slice.injEq, Option.some.injEq, Addr.mk.injEq, and_true, true_and] at he
    obtain ⟨rfl, rfl⟩ := he
    by_cases h0 : l.length = 0
    · obtain rfl : l = [] := List.eq_nil_of_length_eq_zero h0
      refine wpList_copy_nothing hgd d s _ _ ho 5 Tryd.underlying23 sizeU8 _ _ _ _ _ _ hd hs (by simp) ?_
      exact h w (by simpa using ⟨hbz, hlen, .inr ⟨g, c, cur, rfl, hlo, hg, hnc, hcm, hcs, htake⟩⟩) (World.grownBy.refl w _) rfl
    · obtain ⟨b, off, rfl, _, _, hcell⟩ := hsrc.at (by omega)
      have hcur : z.length ≤ cur.size := by omega
      refine wpList_copy_own hgd d s _ _ ho 5 Tryd.underlying23 sizeU8 g 0 _ _ ⟨b, off, none⟩ _ _ hd hs cur _ hg (l.map (Value.int .u8)) (by rw [List.length_map]; exact (Nat.min_eq_left hmn).symm) (cells_u8 hcell (Nat.le_refl _)) (by simp <;> omega) (oneCellU8 l) ?_
      rw [List.length_map]
      refine h _ ⟨hsrc.byt.app (hbz.drop _), by simp, .inr ⟨g, c, _, by simp <;> omega, hlo, setRow_heap _ _ _ _ _ _ hg, by simp <;> omega, hcm, ?_, ?_⟩⟩ ?_ ?_
      · simp <;> omega
      · simp only [List.length_append, List.length_drop, List.map_append, List.map_drop, ← htake, Nat.mul_one, List.take_zero, List.nil_append, Nat.zero_add]
        rw [show l.length + (z.length - l.length) = z.length by omega]
        rw [List.take_append, List.length_map, List.take_of_length_le (by simp <;> omega), List.drop_take]
      · exact ⟨rfl, rfl, rfl, by simp, fun k _ hk => setRow_other _ _ _ _ (fun e => hk (by rw [e]))⟩
      · simp
/-- append of bytes to a row of the call's own -/
theorem wpList_append_bs {ops : Array Oper} {rest : List Oper} {o : Oper} {a : Act} {Q : Exit → Act → World → Prop} (hgd : o.guard = none) (d s : Operand)
    (ho : o.op = .call { callee := .builtin .append, args := #[d, s], argTypes := #[23, 23] })
    (n c m' c' : Nat) (hd : a.eval d = .slice A n c) (hs : a.eval s = .slice B m' c') (hn : l.length = n) (hm : m.length = m')
    (hown : Ow w lo A c l) (hsrc : Bs w lo' hi' B m) (hsz : n + m' ≤ 140737488355328) (hlo : lo ≤ w.heap.size)
    (h : ∀ A' c' w', Ow w' lo A' c' (l ++ m) → Below lo w w' → (∀ row, (∀ g, A = some ⟨g, 0, none⟩ → row ≠ g) → row < w.heap.size → w'.heap[row]? = w.heap[row]?) → wpList Tryd.prog ops Q rest (a.put o.dst (.slice A' (n + m') c')) w') : wpList Tryd.prog ops Q (o :: rest) a w := by
  obtain ⟨i, hi, hz, h1, h2⟩ := info_parts infoU8
  subst hn hm
  have done : ∀ v' w', (Builtin.append_ #[23, 23] o.type #[.slice A l.length c, .slice B m.length c']).run Tryd.prog w = .ok v' w' → w'.ownsRow lo 5 1 v' (l.length + m.length) (l.map (Value.int .u8) ++ m.map (Value.int .u8)) → w.grownBy w' (Value.slice A l.length c).ownBlock →
      wpList Tryd.prog ops Q (o :: rest) a w := by
    intro v' w' hrun r1 r2
    refine wpList_plain hgd fun K hK => ?_
    unfold Oper.wp execOp
    simp only [ho, resolve, invoke, builtin, Sem.run_bind, Sem.run_pure, Result.andThen_ok, List.map_toArray, List.map_cons, List.map_nil, hd, hs, hrun]
    obtain ⟨A', c'', rfl, hO, _⟩ := Ow.mk r1 (l := l ++ m) (by rw [List.map_append]) (hown.1.app hsrc.byt)
    rw [List.length_append] at *
    refine hK _ _ (h A' c'' w' hO (below_of_grown r2 hlo fun k hk => ?_) fun row hr1 hr2 => ?_)
    · exact (hown.2.lt k hk).1
    · refine r2.block row hr2 (fun e => ?_)
      rcases hown.form with ⟨rfl, _, _⟩ | ⟨g, rfl, _, _⟩
      · simp [Value.ownBlock] at e
      · simp [Value.ownBlock] at e; exact hr1 g rfl e
  by_cases h0 : m.length = 0
  · obtain rfl : m = [] := List.eq_nil_of_length_eq_zero h0
    rcases B with _ | ad
    · refine done (.slice A l.length c) w ?_ (by simpa using hown.2) (World.grownBy.refl w _)
      rcases hown.2.2 with ⟨he, hl0⟩ | ⟨g, cap, cur, he, _, _, hnc, _⟩
      · rw [he]; simp [Builtin.append_, run_underlying Tryd.underlying23, sizeOf, typeInfo, hi, Builtin.lenOf, Builtin.firstCells]
      · rw [he]; simp [Builtin.append_, run_underlying Tryd.underlying23, sizeOf, typeInfo, hi, Builtin.lenOf, Builtin.firstCells, hnc, storeCells]
    · obtain ⟨v', w', hrun, r1, r2, _, r3⟩ := run_append_own_at (P := Tryd.prog) w lo 23 o.type 5 i (.int .u8 0) 1 1 Tryd.underlying23 hi hz h1 h2 rfl (by omega) (.slice A l.length c) l.length _ hown.2
        ad 0 c' [] (by simp) (by simp) (by simp) (by unfold maxLen; simp at hsz; omega) (by simp at hsz; omega) hlo
      exact done v' w' hrun (by simpa using r1) r2
  · obtain ⟨b, off, rfl, _, _, hcell⟩ := hsrc.at (by omega)
    obtain ⟨v', w', hrun, r1, r2, _, r3⟩ := run_append_own_at (P := Tryd.prog) w lo 23 o.type 5 i (.int .u8 0) 1 1 Tryd.underlying23 hi hz h1 h2 rfl (by omega) (.slice A l.length c) l.length _ hown.2
      ⟨b, off, none⟩ m.length c' (m.map (Value.int .u8)) (by simp) (cells_u8 hcell (Nat.le_refl _)) (oneCellU8 m) (by unfold maxLen; omega) (by omega) hlo
    exact done v' w' hrun r1 r2
end
end Go.Proofs.YtachhbbofemfdaaDoor
namespace Go.Proofs.YtachhbbofemfdaaDoor
open Go.RowKit
set_option linter.unusedSimpArgs false
set_option linter.unusedVariables false
set_option maxRecDepth 100000
/-- block b of w holds the cells cs -/
def Blk (w : World) (b : Nat) (t : TypeId) (cs : List Value) : Prop := w.heap[b]? = some (.cells cs.toArray t (0, 0))
/-- only block g has turned, and new blocks -/
abbrev But (g : Nat) (w w' : World) : Prop := w.grownBy w' (some g)
theorem But.below {g B : Nat} {w w' : World} (h : But g w w') (h1 : B ≤ w.heap.size) (h2 : B ≤ g) : Below B w w' := below_of_grown h h1 (by simp; omega)
theorem But.trans {g : Nat} {a b c : World} (h : But g a b) (k : But g b c) : But g a c :=
  ⟨k.os.trans h.os, k.tape.trans h.tape, k.output.trans h.output, Nat.le_trans h.size k.size, fun i hi hn => (k.block i (by have := h.size; omega) hn).trans (h.block i hi hn)⟩
theorem But.of_below {g B : Nat} {a b : World} (h : Below B a b) (hB : a.heap.size ≤ B) : But g a b := ⟨h.os, h.tape, h.output, h.size, fun i hi _ => h.block i (by omega)⟩
theorem blk_set1 {w : World} {g i : Nat} {cs ds : Array Value} {t : TypeId} {fz : Nat × Nat} {u : Value} (h : w.heap[g]? = some (.cells cs t fz)) (hd : cs.setIfInBounds i u = ds) : (w.setCell ⟨g, i, none⟩ u).heap[g]? = some (.cells ds t fz) := by
  subst hd
  simp [World.setCell, Array.getElem?_modify, h]
theorem size_setCells (b : Nat) : ∀ (vs : List Value) (o : Nat) (w : World), (w.setCells b o vs).heap.size = w.heap.size
  | [], _, _ => rfl
  | v :: r, o, w => by rw [World.setCells, size_setCells b r]; simp [World.setCell]
theorem but_setCells (b : Nat) : ∀ (vs : List Value) (o : Nat) {a w : World}, But b a w → But b a (w.setCells b o vs)
  | [], _, _, _, h => h
  | v :: r, o, a, w, h => by rw [World.setCells]; exact but_setCells b r _ (only_setCell h (.inl rfl) v)
theorem heap_setCells {b : Nat} {t : TypeId} {fz : Nat × Nat} {suf : List Value} : ∀ (vs pre old : List Value) (w : World), old.length = vs.length → w.heap[b]? = some (.cells (pre ++ old ++ suf).toArray t fz) →
    (w.setCells b pre.length vs).heap[b]? = some (.cells (pre ++ vs ++ suf).toArray t fz)
  | [], pre, old, w, hl, h => by
      obtain rfl : old = [] := List.eq_nil_of_length_eq_zero hl
      exact h
  | v :: r, pre, old, w, hl, h => by
      match old, hl with
      | o :: old', hl =>
        rw [World.setCells]
        have h2 := heap_setCells (t := t) (fz := fz) (suf := suf) r (pre ++ [v]) old' (w.setCell ⟨b, pre.length, none⟩ v) (by simpa using hl) (blk_set1 h (by simp))
        rw [List.length_append, List.length_singleton] at h2
        rw [h2]; simp
section
variable {w w' : World} {b : Nat} {t : TypeId} {cs : List Value}
theorem Blk.lt (h : Blk w b t cs) : b < w.heap.size := (Array.getElem?_eq_some_iff.1 h).1
theorem Blk.below {B : Nat} (h : Blk w b t cs) (hb : Below B w w') (h1 : b < B) : Blk w' b t cs := (hb.block b h1).trans h
theorem Blk.but {g : Nat} (h : Blk w b t cs) (hb : But g w w') (h1 : b ≠ g) : Blk w' b t cs := (hb.block b h.lt (by simpa using h1)).trans h
theorem Blk.grown {row : Option Nat} (h : Blk w b t cs) (hb : w.grownBy w' row) (h1 : row ≠ some b) : Blk w' b t cs := (hb.block b h.lt (fun e => h1 e.symm)).trans h
theorem Blk.cell (h : Blk w b t cs) {i : Nat} {v : Value} (hv : cs[i]? = some v) : w.cell? ⟨b, i, none⟩ = some v := by
  unfold Blk at h
  simp [World.cell?, h, hv]
theorem Blk.range (h : Blk w b t cs) : w.rangeAt b 0 cs := fun j v hv => by rw [Nat.zero_add]; exact h.cell hv
theorem Blk.frozen (h : Blk w b t cs) : ∀ o, w.frozen? ⟨b, o, none⟩ = false := fun o => by unfold Blk at h; simp [World.frozen?, h]
theorem Blk.there (h : Blk w b t cs) : w.there b 0 cs.length := fun j hj => by
  rw [Nat.zero_add]
  refine ⟨?_, h.frozen j⟩
  rw [h.cell (List.getElem?_eq_getElem hj)]; rfl
theorem Blk.set (h : Blk w b t cs) (i : Nat) (v : Value) : Blk (w.setCell ⟨b, i, none⟩ v) b t (cs.set i v) := blk_set1 h (by simp)
theorem Blk.stored (h : Blk w b t cs) (vs : List Value) (hl : cs.length = vs.length) : Blk (w.setCells b 0 vs) b t vs := by
  unfold Blk at *
  have := heap_setCells (suf := []) vs [] cs w hl (by simpa using h)
  simpa using this
theorem Blk.new (w : World) (t : TypeId) (cs : Array Value) (l : List Value) (hl : cs = l.toArray) : Blk (w.alloc (.cells cs t)) w.heap.size t l := by subst hl; exact heap_alloc_new w _
theorem Blk.old {o : Obj} (h : Blk w b t cs) : Blk (w.alloc o) b t cs := (heap_alloc_old w o h.lt).trans h
theorem Blk.drew (h : Blk w b t cs) : Blk w.drew b t cs := h
end
theorem but_setCell (w : World) (b i : Nat) (v : Value) : But b w (w.setCell ⟨b, i, none⟩ v) := only_setCell (World.grownBy.refl w _) (.inl rfl) v
section
variable {P : Program} {ops : Array Oper} {rest : List Oper} {o : Oper} {a : Act} {w : World} {Q : Exit → Act → World → Prop}
theorem wpl_want (hw : Region.wanted o (yielded ops a.tmps) = true)
    (h : ∀ K : Act → World → Prop, (∀ a w, wpList P ops Q rest a w → K a w) → o.wp P a w K Q) : wpList P ops Q (o :: rest) a w :=
  wpList_step fun K hK => by rw [if_pos hw]; exact h K hK
/-- a new variable -/
theorem wpl_alloc (hw : Region.wanted o (yielded ops a.tmps) = true) (T : TypeId) (ho : o.op = .alloc T) (z : Value) (zs : List Value) (hi : (P.info? T).map (·.zero) = some (some z)) (hc : z.cells = zs.toArray)
    (h : ∀ w', Blk w' w.heap.size T zs → w.heap.size < w'.heap.size → Below w.heap.size w w' → wpList P ops Q rest (a.put o.dst (.pointer (some ⟨w.heap.size, 0, none⟩))) w') : wpList P ops Q (o :: rest) a w := by
  refine wpl_want hw fun K hK => ?_
  cases hq : P.info? T with
  | none => simp [hq] at hi
  | some i =>
    have hz : i.zero = z := by simpa [hq] using hi
    have hr : (Instr.alloc T true (.tuple #[])).run P w = .ok (.pointer (some ⟨w.heap.size, 0, none⟩)) (w.alloc (.cells zs.toArray T)) := by
      simp [Instr.alloc, zeroValue, typeInfo, Sem.run_bind, hq, hz, newVar, newRow, hc]
    unfold Oper.wp execOp
    simp only [ho, Sem.run_bind, hr, Result.andThen_ok, Sem.run_pure]
    exact hK _ _ (h _ (Blk.new w T _ zs rfl) (by simp) ((Below.refl _ w).alloc (Nat.le_refl _) _))
/-- a parameter that lies in memory -/
theorem wpl_box (hw : Region.wanted o (yielded ops a.tmps) = true) (T : TypeId) (x : Operand) (ho : o.op = .box T x) (v : Value) (zs : List Value) (hx : a.eval x = v) (hc : v.cells = zs.toArray)
    (h : ∀ w', Blk w' w.heap.size T zs → w.heap.size < w'.heap.size → Below w.heap.size w w' → wpList P ops Q rest (a.put o.dst (.pointer (some ⟨w.heap.size, 0, none⟩))) w') : wpList P ops Q (o :: rest) a w := by
  refine wpl_want hw fun K hK => ?_
  have hr : (Instr.box T v).run P w = .ok (.pointer (some ⟨w.heap.size, 0, none⟩)) (w.alloc (.cells zs.toArray T)) := by
    simp [Instr.box, Sem.run_bind, newVar, newRow, hc]
  unfold Oper.wp execOp
  simp only [ho, hx, Sem.run_bind, hr, Result.andThen_ok, Sem.run_pure]
  exact hK _ _ (h _ (Blk.new w T _ zs rfl) (by simp) ((Below.refl _ w).alloc (Nat.le_refl _) _))
/-- a whole block is read -/
theorem wpl_load (hw : Region.wanted o (yielded ops a.tmps) = true) (T : TypeId) (x : Operand) (ho : o.op = .load T x) (b : Nat) (hx : a.eval x = .pointer (some ⟨b, 0, none⟩)) (t : TypeId) (cs : List Value) (hB : Blk w b t cs) (d : TypeDesc)
    (hu : P.underlying T = some d) (hd : d.isRow = true) (n : Nat) (hi : (P.info? T).map (·.size) = some n) (hn : cs.length = n)
    (h : wpList P ops Q rest (a.put o.dst (.agg cs.toArray)) w) : wpList P ops Q (o :: rest) a w := by
  subst hn
  exact wpl_want hw fun K hK => wp_load_mid T x ho b 0 hx cs d hB.range hu hd hi (hK _ _ h)
/-- a whole block is written -/
theorem wpl_store (hw : Region.wanted o (yielded ops a.tmps) = true) (T : TypeId) (x y : Operand) (ho : o.op = .store T x y) (b : Nat) (hx : a.eval x = .pointer (some ⟨b, 0, none⟩)) (cells : Array Value) (hy : a.eval y = .agg cells) (cs : List Value) (hc : cells = cs.toArray) (t : TypeId) (ds : List Value) (hB : Blk w b t ds)
    (hl : ds.length = cs.length) (n : Nat) (hi : (P.info? T).map (·.size) = some n) (hn : cs.length = n) (h1 : ∀ v ∈ cs, v.oneCell' = true)
    (h : ∀ w', Blk w' b t cs → w.heap.size ≤ w'.heap.size → But b w w' → wpList P ops Q rest (a.put o.dst undef) w') : wpList P ops Q (o :: rest) a w := by
  subst hc hn
  refine wpl_want hw fun K hK => wp_store_mid T x y ho b 0 cs.toArray hx hy (by have := hB.there; rw [hl] at this; simpa using this) (by simpa using hi) (all_oneCell_toArray h1) (hK _ _ (h _ (hB.stored cs hl) (Nat.le_of_eq (size_setCells _ _ _ _).symm) (but_setCells _ _ _ (World.grownBy.refl w _))))
/-- one cell is read -/
theorem wpl_loadf (hw : Region.wanted o (yielded ops a.tmps) = true) (T : TypeId) (x : Operand) (ho : o.op = .load T x) (b i : Nat) (hx : a.eval x = .pointer (some ⟨b, i, none⟩)) (t : TypeId) (cs : List Value) (hB : Blk w b t cs) (v : Value) (hv : cs[i]? = some v) (d : TypeDesc)
    (hu : P.underlying T = some d) (hd : d.isRow = false)
    (h : wpList P ops Q rest (a.put o.dst v) w) : wpList P ops Q (o :: rest) a w := by
  refine wpl_want hw fun K hK => ?_
  have hagg : (isAgg T).run P w = .ok false w := by
    unfold isAgg
    rw [Sem.run_bind, run_underlying hu w]
    cases d <;> simp_all
  have hcell := hB.cell hv
  have hr : (Instr.loadAt T (.pointer (some ⟨b, i, none⟩))).run P w = .ok v w := by
    simp [Instr.loadAt, Instr.sureAddr, loadVar, Sem.run_bind, hagg, hcell, go_sem]
  unfold Oper.wp execOp
  simp only [ho, hx, Sem.run_bind, hr, Result.andThen_ok, Sem.run_pure]
  exact hK _ _ h
/-- one cell is written -/
theorem wpl_storef (hw : Region.wanted o (yielded ops a.tmps) = true) (T : TypeId) (x y : Operand) (ho : o.op = .store T x y) (b i : Nat) (hx : a.eval x = .pointer (some ⟨b, i, none⟩)) (v : Value) (hy : a.eval y = v) (hc : v.cells = #[v]) (h1 : v.oneCell' = true) (t : TypeId) (cs : List Value) (hB : Blk w b t cs) (hlt : i < cs.length)
    (hi : (P.info? T).map (·.size) = some 1) 
    (h : ∀ w', Blk w' b t (cs.set i v) → w.heap.size ≤ w'.heap.size → But b w w' → wpList P ops Q rest (a.put o.dst undef) w') : wpList P ops Q (o :: rest) a w := by
  refine wpl_want hw fun K hK => ?_
  have ht : w.there b i 1 := fun j hj => by
    obtain rfl : j = 0 := by omega
    have := hB.there i hlt
    rwa [Nat.zero_add] at this
  have hr : (Instr.storeAt T (.pointer (some ⟨b, i, none⟩)) v).run P w = .ok () (w.setCell ⟨b, i, none⟩ v) := by
    have h2 := run_storeVar_mid (P := P) w b i T #[v] (by simpa using ht) (by simpa using hi) (by simpa using h1)
    have e : storeVar T ⟨b, i, none⟩ v = storeVar T ⟨b, i, none⟩ (.agg #[v]) := by unfold storeVar; rw [hc]; rfl
    simp only [Instr.storeAt, Instr.sureAddr, Sem.run_bind, Sem.run_pure, Result.andThen_ok, e, h2]
    rfl
  unfold Oper.wp execOp
  simp only [ho, hx, hy, Sem.run_bind, hr, Result.andThen_ok, Sem.run_pure]
  exact hK _ _ (h _ (hB.set i v) (by simp [World.setCell]) (but_setCell w b i v))
end
end Go.Proofs.YtachhbbofemfdaaDoor
namespace Go.Proofs.YtachhbbofemfdaaDoor
open Go.RowKit
set_option linter.unusedSimpArgs false
set_option linter.unusedVariables false
set_option maxRecDepth 100000
theorem But.new {g b : Nat} {a c d : World} (h : But g a c) (k : But b c d) (hb : a.heap.size ≤ b) : But g a d :=
  ⟨k.os.trans h.os, k.tape.trans h.tape, k.output.trans h.output, Nat.le_trans h.size k.size, fun i hi hn => (k.block i (by have := h.size; omega) (by simp; omega)).trans (h.block i hi hn)⟩
theorem But.then {g B : Nat} {a c d : World} (h : But g a c) (k : Below B c d) (hb : a.heap.size ≤ B) : But g a d :=
  ⟨k.os.trans h.os, k.tape.trans h.tape, k.output.trans h.output, Nat.le_trans h.size k.size, fun i hi hn => (k.block i (by omega)).trans (h.block i hi hn)⟩
theorem But.refl (g : Nat) (w : World) : But g w w := World.grownBy.refl w _
theorem Blk.mid {w : World} {b : Nat} {t : TypeId} {cs : List Value} (h : Blk w b t cs) (o : Nat) (sub : List Value) (hs : (cs.drop o).take sub.length = sub) : w.rangeAt b o sub := fun j v hv => by
  have hj : j < sub.length := (List.getElem?_eq_some_iff.1 hv).1
  rw [← hs, List.getElem?_take, if_pos hj, List.getElem?_drop] at hv
  exact h.cell hv
section
variable {P : Program} {ops : Array Oper} {rest : List Oper} {o : Oper} {a : Act} {w : World} {Q : Exit → Act → World → Prop}
/-- a struct in the midst of a block is read -/
theorem wpl_loadm (hw : Region.wanted o (yielded ops a.tmps) = true) (T : TypeId) (x : Operand) (ho : o.op = .load T x) (b i : Nat) (hx : a.eval x = .pointer (some ⟨b, i, none⟩)) (t : TypeId) (cs : List Value) (hB : Blk w b t cs) (sub : List Value) (d : TypeDesc)
    (hu : P.underlying T = some d) (hd : d.isRow = true) (n : Nat) (hi : (P.info? T).map (·.size) = some n) (hs : (cs.drop i).take n = sub) (hn : sub.length = n)
    (h : wpList P ops Q rest (a.put o.dst (.agg sub.toArray)) w) : wpList P ops Q (o :: rest) a w := by
  subst hn
  exact wpl_want hw fun K hK => wp_load_mid T x ho b i hx sub d (hB.mid i sub hs) hu hd hi (hK _ _ h)
/-- one cell is written: what then stands there is named -/
theorem wpl_storeg (hw : Region.wanted o (yielded ops a.tmps) = true) (T : TypeId) (x y : Operand) (ho : o.op = .store T x y) (b i : Nat) (hx : a.eval x = .pointer (some ⟨b, i, none⟩)) (v : Value) (hy : a.eval y = v) (hc : v.cells = #[v]) (h1 : v.oneCell' = true) (t : TypeId) (cs cs' : List Value) (hB : Blk w b t cs) (hlt : i < cs.length)
    (hi : (P.info? T).map (·.size) = some 1) (hcs : cs.set i v = cs')
    (h : ∀ w', Blk w' b t cs' → w.heap.size ≤ w'.heap.size → But b w w' → wpList P ops Q rest (a.put o.dst undef) w') : wpList P ops Q (o :: rest) a w := by
  subst hcs
  exact wpl_storef hw T x y ho b i hx v hy hc h1 t cs hB hlt hi h
end
end Go.Proofs.YtachhbbofemfdaaDoor
namespace Go.Proofs.YtachhbbofemfdaaDoor
open Go.RowKit
set_option linter.unusedSimpArgs false
set_option linter.unusedVariables false
set_option maxRecDepth 100000
/-- y is x with new blocks, and writes to the blocks G alone -/
structure Kp (x : World) (G : List Nat) (y : World) : Prop where
  os : y.os = x.os
  tape : y.tape = x.tape
  output : y.output = x.output
  size : x.heap.size ≤ y.heap.size
  block : ∀ b, b < x.heap.size → b ∉ G → y.heap[b]? = x.heap[b]?
theorem own_kept {w w' : World} {base size n : Nat} {e : TypeId} {v : Value} {xs : List Value} (h : w.ownsRow base e size v n xs) (hk : ∀ g, v.ownBlock = some g → w'.heap[g]? = w.heap[g]?) : w'.ownsRow base e size v n xs := by
  refine ⟨h.1, ?_⟩
  rcases h.2 with hn | ⟨g, cap, cur, rfl, hb, hgg, rest⟩
  · exact .inl hn
  · exact .inr ⟨g, cap, cur, rfl, hb, (hk g (by simp [Value.ownBlock])).trans hgg, rest⟩
section
variable {x y z : World} {G : List Nat}
theorem Kp.refl (x : World) (G : List Nat) : Kp x G x := ⟨rfl, rfl, rfl, Nat.le_refl _, fun _ _ _ => rfl⟩
theorem Kp.drew (h : Kp x G y) : Kp x G y.drew := ⟨h.os, h.tape, h.output, h.size, h.block⟩
theorem Kp.alloc (o : Obj) (h : Kp x G y) : Kp x G (y.alloc o) := ⟨h.os, h.tape, h.output, by have := h.size; simp; omega, fun b hb hg => (heap_alloc_old y o (by have := h.size; omega)).trans (h.block b hb hg)⟩
theorem Kp.below {C : Nat} (hb : Below C y z) (h : Kp x G y) (hC : x.heap.size ≤ C) : Kp x G z := ⟨hb.os.trans h.os, hb.tape.trans h.tape, hb.output.trans h.output, Nat.le_trans h.size hb.size, fun b hx hg => (hb.block b (by omega)).trans (h.block b hx hg)⟩
theorem Kp.belowS (hb : Below y.heap.size y z) (h : Kp x G y) : Kp x G z := h.below hb h.size
theorem Kp.but {g : Nat} (hb : But g y z) (h : Kp x G y) (hg : x.heap.size ≤ g ∨ g ∈ G) : Kp x G z := ⟨hb.os.trans h.os, hb.tape.trans h.tape, hb.output.trans h.output, Nat.le_trans h.size hb.size, fun b hx hn => (hb.block b (by have := h.size; omega) (by
  simp only [ne_eq, Option.some.injEq]
  rintro rfl
  rcases hg with hg | hg
  · omega
  · exact hn hg)).trans (h.block b hx hn)⟩
theorem Kp.set {b i : Nat} {s : Option Nat} {v : Value} (h : Kp x G y) (hb : x.heap.size ≤ b ∨ b ∈ G) : Kp x G (y.setCell ⟨b, i, s⟩ v) := ⟨h.os, h.tape, h.output, by have := h.size; simpa [World.setCell] using this, fun c hc hn => (Below.heap_setCell y ⟨b, i, s⟩ v c (by
  show c ≠ b
  rintro rfl
  rcases hb with hb | hb
  · omega
  · exact hn hb)).trans (h.block c hc hn)⟩
theorem Kp.trans (h : Kp x G y) (k : Kp y G z) : Kp x G z := ⟨k.os.trans h.os, k.tape.trans h.tape, k.output.trans h.output, Nat.le_trans h.size k.size, fun b hb hg => (k.block b (by have := h.size; omega) hg).trans (h.block b hb hg)⟩
theorem Kp.toBelow {B : Nat} {w : World} (h : Kp x G y) (hb : Below B w x) (hB : B ≤ x.heap.size) (hG : ∀ g ∈ G, B ≤ g) : Below B w y := ⟨h.os.trans hb.os, h.tape.trans hb.tape, h.output.trans hb.output, Nat.le_trans hb.size h.size, fun b hx => (h.block b (by omega) (fun hg => by have := hG b hg; omega)).trans (hb.block b hx)⟩
theorem Kp.of_below (hb : Below x.heap.size x y) : Kp x G y := (Kp.refl x G).belowS hb
theorem Kp.of_but {g : Nat} (hb : But g x y) (hg : x.heap.size ≤ g ∨ g ∈ G) : Kp x G y := (Kp.refl x G).but hb hg
theorem Kp.less {G' : List Nat} (h : Kp x G y) (hG : ∀ g ∈ G, x.heap.size ≤ g ∨ g ∈ G') : Kp x G' y := ⟨h.os, h.tape, h.output, h.size, fun b hb hn => h.block b hb (fun hg => (hG b hg).elim (fun h1 => by omega) hn)⟩
/-- a cell, in a block that is not written -/
def Kc (x : World) (G : List Nat) (b i : Nat) (v : Value) : Prop := x.cell? ⟨b, i, none⟩ = some v ∧ b ∉ G
/-- a cell that is kept -/
theorem kp_cell {b i : Nat} {v : Value} (h : Kp x G y) (hc : Kc x G b i v) : y.cell? ⟨b, i, none⟩ = some v :=
  (World.cell?_of_block (h.block b (World.block_lt_of_cell? x _ hc.1) hc.2)).trans hc.1
theorem kp3 {b1 i1 : Nat} {v1 : Value} {b2 i2 : Nat} {v2 : Value} {b3 i3 : Nat} {v3 : Value} (h : Kp x G y) (q1 : Kc x G b1 i1 v1) (q2 : Kc x G b2 i2 v2) (q3 : Kc x G b3 i3 v3) : y.cell? ⟨b1, i1, none⟩ = some v1 ∧ y.cell? ⟨b2, i2, none⟩ = some v2 ∧ y.cell? ⟨b3, i3, none⟩ = some v3 ∧ Kp x G y := ⟨kp_cell h q1, kp_cell h q2, kp_cell h q3, h⟩
theorem Kp.blk {b : Nat} {t : TypeId} {cs : List Value} (h : Kp x G y) (hB : Blk x b t cs) (hg : b ∉ G) : Blk y b t cs := (h.block b hB.lt hg).trans hB
theorem Kp.bs {lo hi : Nat} {A : Option Addr} {l : List Int} (h : Kp x G y) (hB : Bs x lo hi A l) (hh : hi ≤ x.heap.size) (hg : ∀ g ∈ G, g < lo ∨ hi ≤ g) : Bs y lo hi A l := hB.keep fun b o h1 h2 => World.cell?_of_block (h.block b (by omega) (fun hm => by have := hg b hm; omega))
theorem Kp.range {b o : Nat} {cs : List Value} (h : Kp x G y) (hr : x.rangeAt b o cs) (hg : b ∉ G) : y.rangeAt b o cs := fun j v hv => kp_cell h ⟨hr j v hv, hg⟩
end
end Go.Proofs.YtachhbbofemfdaaDoor
namespace Go.Proofs.YtachhbbofemfdaaDoor
open Go.RowKit
set_option linter.unusedSimpArgs false
set_option linter.unusedVariables false
set_option maxRecDepth 100000
/-- one round -/
def rndF (x s m : Int) : Int := IntKind.u64.wrap (bits .xor .u64 x (x / s) * m)
def mix0 (a b : Int) : Int := IntKind.u64.wrap (a + IntKind.u64.wrap (11400714819323198485 * IntKind.u64.wrap (b + 1)))
def mixF (a b : Int) : Int := rndF (rndF (rndF (mix0 a b) 1073741824 13787848793156543929) 134217728 10723151780598845931) 2147483648 1
def U64 (x : Int) : Prop := 0 ≤ x ∧ x ≤ 18446744073709551615
theorem wrap_u64 (x : Int) : U64 (IntKind.u64.wrap x) := by rw [IntKind.wrap_u64]; unfold U64; omega
theorem rndF_u64 (x s m : Int) : U64 (rndF x s m) := wrap_u64 _
theorem mix0_u64 (a b : Int) : U64 (mix0 a b) := wrap_u64 _
theorem mixF_u64 (a b : Int) : U64 (mixF a b) := rndF_u64 _ _ _
theorem xor_u64 {x y : Int} (hx : U64 x) (hy : U64 y) : U64 (bits .xor .u64 x y) := by
  obtain ⟨x0, x1⟩ := hx
  obtain ⟨y0, y1⟩ := hy
  rw [Go.u64_xor x y x0 (by omega) y0 (by omega)]
  have h : x.toNat ^^^ y.toNat < 2 ^ 64 := Nat.xor_lt_two_pow (by omega) (by omega)
  unfold U64
  omega
theorem rndF_one {x : Int} (hx : U64 x) : rndF x 2147483648 1 = bits .xor .u64 x (x / 2147483648) := by
  have h := xor_u64 hx (y := x / 2147483648) ⟨by obtain ⟨h0, h1⟩ := hx; omega, by obtain ⟨h0, h1⟩ := hx; omega⟩
  obtain ⟨h0, h1⟩ := h
  unfold rndF
  rw [Int.mul_one, IntKind.wrap_u64]
  omega
set_option maxHeartbeats 1000000 in
theorem rmix_any (a b : Int) (w : World) (ha : U64 a) (hb : U64 b) : Calls Tryd.prog 85 #[.int .u64 a, .int .u64 b] w fun e w' => e = .returned (.int .u64 (mixF a b)) ∧ w = w' := by
  obtain ⟨a0, a1⟩ := ha
  obtain ⟨b0, b1⟩ := hb
  go_enter Tryd.func85, Tryd.ntmps85
  go_wp2
  go_ret
  refine ⟨?_, rfl⟩
  have e : mixF a b = bits .xor .u64 (rndF (rndF (mix0 a b) 1073741824 13787848793156543929) 134217728 10723151780598845931) (rndF (rndF (mix0 a b) 1073741824 13787848793156543929) 134217728 10723151780598845931 / 2147483648) := rndF_one (rndF_u64 _ _ _)
  rw [e]
  rfl
/-- the table of rounds lies in the first block -/
def Rnd (w : World) : Prop := ∃ t : TypeId, Blk w 0 t [.int .u64 30, .int .u64 13787848793156543929, .int .u64 27, .int .u64 10723151780598845931, .int .u64 31, .int .u64 1]
theorem Rnd.lt {w : World} (h : Rnd w) : 0 < w.heap.size := by obtain ⟨t, h⟩ := h; exact Blk.lt h
theorem Rnd.below {w w' : World} {B : Nat} (h : Rnd w) (hb : Below B w w') (hB : 0 < B) : Rnd w' := by obtain ⟨t, h⟩ := h; exact ⟨t, Blk.below h hb hB⟩
theorem Rnd.but {w w' : World} {g : Nat} (h : Rnd w) (hb : But g w w') (hg : 0 ≠ g) : Rnd w' := by obtain ⟨t, h⟩ := h; exact ⟨t, Blk.but h hb hg⟩
theorem Rnd.blk {w : World} (h : Rnd w) : ∃ t : TypeId, Blk w 0 t [.int .u64 30, .int .u64 13787848793156543929, .int .u64 27, .int .u64 10723151780598845931, .int .u64 31, .int .u64 1] := h
theorem Kp.rnd {x y : World} {G : List Nat} (h : Kp x G y) (hR : Rnd x) (hg : 0 ∉ G) : Rnd y := by obtain ⟨t, hR⟩ := hR; exact ⟨t, h.blk hR hg⟩
def mixK (a b : Int) : Nat → Int
  | 0 => mix0 a b
  | 1 => rndF (mix0 a b) 1073741824 13787848793156543929
  | 2 => rndF (rndF (mix0 a b) 1073741824 13787848793156543929) 134217728 10723151780598845931
  | _ => mixF a b
theorem mixK_u64 (a b : Int) (k : Nat) : U64 (mixK a b k) := by
  match k with
  | 0 => exact mix0_u64 a b
  | 1 => exact rndF_u64 _ _ _
  | 2 => exact rndF_u64 _ _ _
  | k + 3 => exact mixF_u64 a b
theorem sizeRnd : (Tryd.prog.info? 146).map (·.size) = some 2 := by kernel_rfl
theorem sizeRnds : (Tryd.prog.info? 147).map (·.size) = some 6 := by kernel_rfl
theorem zeroRnd : (Tryd.prog.info? 146).map (·.zero) = some (some (.agg #[.int .u64 0, .int .u64 0])) := by kernel_rfl
set_option maxHeartbeats 4000000 in
theorem mix_any (a b : Int) (w : World) (ha : U64 a) (hb : U64 b) (hR : Rnd w) : Calls Tryd.prog 81 #[.int .u64 a, .int .u64 b] w fun e w' => e = .returned (.int .u64 (mixF a b)) ∧ Below w.heap.size w w' := by
  obtain ⟨a0, a1⟩ := ha
  obtain ⟨b0, b1⟩ := hb
  have i0 : ∀ w, (Instr.index 147 (.agg #[.int .u64 30, .int .u64 13787848793156543929, .int .u64 27, .int .u64 10723151780598845931, .int .u64 31, .int .u64 1]) (.int .i64 0)).run Tryd.prog w = .ok (.agg #[.int .u64 30, .int .u64 13787848793156543929]) w := fun _ => by kernel_rfl
  have i1 : ∀ w, (Instr.index 147 (.agg #[.int .u64 30, .int .u64 13787848793156543929, .int .u64 27, .int .u64 10723151780598845931, .int .u64 31, .int .u64 1]) (.int .i64 1)).run Tryd.prog w = .ok (.agg #[.int .u64 27, .int .u64 10723151780598845931]) w := fun _ => by kernel_rfl
  have i2 : ∀ w, (Instr.index 147 (.agg #[.int .u64 30, .int .u64 13787848793156543929, .int .u64 27, .int .u64 10723151780598845931, .int .u64 31, .int .u64 1]) (.int .i64 2)).run Tryd.prog w = .ok (.agg #[.int .u64 31, .int .u64 1]) w := fun _ => by kernel_rfl
  have hm0 : IntKind.u64.wrap (a + IntKind.u64.wrap (11400714819323198485 * IntKind.u64.wrap (b + 1))) = mix0 a b := rfl
  obtain ⟨tR, J⟩ := hR.blk
  clear hR
  go_enter Tryd.func81, Tryd.ntmps81
  go_wp2_with (first | (refine wpl_load (by rfl) 147 _ (by rfl) 0 (by rfl) tR _ J _ Tryd.underlying147 rfl _ sizeRnds (by rfl) ?_))
  go_loopw [5, 14] (fun x i wr => ∃ k : Nat, k ≤ 3 ∧ i = .int .i64 k ∧ x = .int .u64 (mixK a b k) ∧ Below w.heap.size w wr) (fun _ i _ => 3 - (intOf i).toNat)
  case atStart => exact ⟨0, by omega, rfl, rfl, Below.refl _ _⟩
  case round =>
    obtain ⟨k, hk, rfl, rfl, hB⟩ := hrel
    obtain ⟨wo, rfl⟩ : ∃ wo : World, wo = wr := ⟨wr, rfl⟩
    clear hm0 J
    have hX := mixK_u64 a b k
    obtain ⟨x0, x1⟩ := hX
    have : k = 0 ∨ k = 1 ∨ k = 2 ∨ k = 3 := by omega
    rcases this with rfl | rfl | rfl | rfl
    · skip
      go_wp2_with (first
        | (refine wpl_alloc (by rfl) 146 (by rfl) (.agg #[.int .u64 0, .int .u64 0]) [.int .u64 0, .int .u64 0] zeroRnd rfl ?_; intro wa Ja sa ba)
        | (refine wpl_store (by rfl) 146 _ _ (by rfl) wo.heap.size (by rfl) _ (by rfl) [.int .u64 30, .int .u64 13787848793156543929] rfl 146 _ Ja (by rfl) _ sizeRnd (by rfl) (by simp [Value.oneCell']) ?_; intro wb Jb sb gb)
        | (refine wpl_loadf (by rfl) 110 _ (by rfl) wo.heap.size 0 (by rfl) _ _ Jb _ rfl _ Tryd.underlying110 rfl ?_)
        | (refine wpl_loadf (by rfl) 22 _ (by rfl) wo.heap.size 1 (by rfl) _ _ Jb _ rfl _ Tryd.underlying22 rfl ?_))
      have Bb := (hB.trans (ba.mono hB.size)).trans (gb.below (by have := hB.size; omega) hB.size)
      exact ⟨⟨1, by omega, rfl, rfl, Bb⟩, by simp [intOf] <;> decide⟩
    · skip
      go_wp2_with (first
        | (refine wpl_alloc (by rfl) 146 (by rfl) (.agg #[.int .u64 0, .int .u64 0]) [.int .u64 0, .int .u64 0] zeroRnd rfl ?_; intro wa Ja sa ba)
        | (refine wpl_store (by rfl) 146 _ _ (by rfl) wo.heap.size (by rfl) _ (by rfl) [.int .u64 27, .int .u64 10723151780598845931] rfl 146 _ Ja (by rfl) _ sizeRnd (by rfl) (by simp [Value.oneCell']) ?_; intro wb Jb sb gb)
        | (refine wpl_loadf (by rfl) 110 _ (by rfl) wo.heap.size 0 (by rfl) _ _ Jb _ rfl _ Tryd.underlying110 rfl ?_)
        | (refine wpl_loadf (by rfl) 22 _ (by rfl) wo.heap.size 1 (by rfl) _ _ Jb _ rfl _ Tryd.underlying22 rfl ?_))
      have Bb := (hB.trans (ba.mono hB.size)).trans (gb.below (by have := hB.size; omega) hB.size)
      exact ⟨⟨2, by omega, rfl, rfl, Bb⟩, by simp [intOf] <;> decide⟩
    · skip
      go_wp2_with (first
        | (refine wpl_alloc (by rfl) 146 (by rfl) (.agg #[.int .u64 0, .int .u64 0]) [.int .u64 0, .int .u64 0] zeroRnd rfl ?_; intro wa Ja sa ba)
        | (refine wpl_store (by rfl) 146 _ _ (by rfl) wo.heap.size (by rfl) _ (by rfl) [.int .u64 31, .int .u64 1] rfl 146 _ Ja (by rfl) _ sizeRnd (by rfl) (by simp [Value.oneCell']) ?_; intro wb Jb sb gb)
        | (refine wpl_loadf (by rfl) 110 _ (by rfl) wo.heap.size 0 (by rfl) _ _ Jb _ rfl _ Tryd.underlying110 rfl ?_)
        | (refine wpl_loadf (by rfl) 22 _ (by rfl) wo.heap.size 1 (by rfl) _ _ Jb _ rfl _ Tryd.underlying22 rfl ?_))
      have Bb := (hB.trans (ba.mono hB.size)).trans (gb.below (by have := hB.size; omega) hB.size)
      exact ⟨⟨3, by omega, rfl, by show _ = Value.int .u64 (rndF (mixK a b 2) 2147483648 1); unfold rndF; rw [Int.mul_one], Bb⟩, by simp [intOf] <;> decide⟩
    · skip
      go_wp2
      go_ret
      exact ⟨rfl, hB⟩
end Go.Proofs.YtachhbbofemfdaaDoor
