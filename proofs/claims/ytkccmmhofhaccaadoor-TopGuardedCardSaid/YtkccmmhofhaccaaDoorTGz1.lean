/- Small lemmas about worlds that the other texts of this claim use: how a world that has only new blocks reads; results of several values. No function of the program occurs here. Bit operations on unsigned 64-bit numbers and on ints as arithmetic. No function of the program occurs here. Byte slices as lists of numbers: what is read in memory, how it is kept, and the laws of make, copy and append in these words. No function of the program occurs here. make, copy and append on byte slices, in the words of Bytes. No function of the program occurs here. Blocks of memory known whole (structs, arrays), and the laws of alloc, box, load and store in these words: behind each the world is a letter. No function of the program occurs here. Structs inside structs: the laws of load and store in the midst of a block that is known whole. No function of the program occurs here. What a stretch of a walk leaves alone: all blocks that stood before, but those of a list. For regions that draw their order. No function of the program occurs here. -/
import Derived.Test.YtkccmmhofhaccaaDoorRows
import Derived.WalkKit
import Derived.WalkSpells
import Derived.WalkLawsBesides
import Derived.ProofKit
import Derived.OpenShut
import Derived.Lib.Hide
import Derived.Deep.RegionHeld3
import Derived.Deep.DrawnRows
import Derived.BigQuiet
import Derived.Deep.QuietTactic
import Derived.Deep.DeepFit
import Derived.Deep.DeepMust
import Derived.Laws.BitsLemmas
import Derived.Laws.BitsAllLaws
import Derived.Maps.AppendAt
import Derived.Deep.AppendLies
import Derived.RegionTactic
import Derived.OwnWalk
import Derived.Laws.OwnMore
import Derived.Laws.CopyOwn
import Derived.Laws.AppendOwnNone
import Derived.Deep.Draws
import Derived.Deep.OwnRows
import Derived.Deep.MidRow
namespace Go.Proofs.YtkccmmhofhaccaaDoor
open Go.RowKit
theorem bcell {W w1 : World} (hb : Below W.heap.size W w1) : (∀ b o, b < W.heap.size → w1.cell? ⟨b, o, none⟩ = W.cell? ⟨b, o, none⟩) ∧ (∀ b o, b < W.heap.size → w1.frozen? ⟨b, o, none⟩ = W.frozen? ⟨b, o, none⟩) :=
  ⟨fun b o h => hb.cell (p := ⟨b, o, none⟩) h, fun b o h => hb.frozen (p := ⟨b, o, none⟩) h⟩
theorem kept_cell {B : Nat} {w w' : World} {p : Addr} {v : Value} (h : Below B w w') (hv : w.cell? p = some v) (hp : p.block < B) : w'.cell? p = some v := (h.cell hp).trans hv
theorem kept_frozen {B b : Nat} {w w' : World} (h : Below B w w') (hv : ∀ o, w.frozen? ⟨b, o, none⟩ = false) (hp : b < B) : ∀ o, w'.frozen? ⟨b, o, none⟩ = false := fun o => (h.frozen (p := ⟨b, o, none⟩) hp).trans (hv o)
/-- What stands in a cell that is there: for a cell that is written, whose value nobody reads. -/
@[irreducible] def cellv (w : World) (b i : Nat) : Value := (w.cell? ⟨b, i, none⟩).getD undef
theorem some_of {w : World} {b i : Nat} {v : Value} (h : w.cell? ⟨b, i, none⟩ = some v) : w.cell? ⟨b, i, none⟩ = some (cellv w b i) := by unfold cellv; simp [h]
theorem some_kept {B b i : Nat} {w w' : World} {v : Value} (h : Below B w w') (hv : w.cell? ⟨b, i, none⟩ = some v) (hp : b < B) : w'.cell? ⟨b, i, none⟩ = some (cellv w' b i) := some_of (kept_cell h hv hp)
theorem some_set {w : World} {b i : Nat} {v u : Value} {a : Addr} (h : w.cell? ⟨b, i, none⟩ = some v) : (w.setCell a u).cell? ⟨b, i, none⟩ = some (cellv (w.setCell a u) b i) := by
  by_cases e : a = ⟨b, i, none⟩
  · subst e; exact some_of (World.cell?_setCell_same w _ _ h)
  · exact some_of ((World.cell?_setCell_other w _ _ _ e).trans h)
theorem set_far {w : World} {p a : Addr} {v u : Value} (h : w.cell? p = some v) (hne : p.block ≠ a.block) : (w.setCell a u).cell? p = some v := by
  rw [World.cell?_setCell_other w _ _ _ (fun e => hne (by rw [e]))]; exact h
theorem set_frozen {w : World} {b : Nat} {a : Addr} {u : Value} (h : ∀ o, w.frozen? ⟨b, o, none⟩ = false) : ∀ o, (w.setCell a u).frozen? ⟨b, o, none⟩ = false := fun o => by rw [World.frozen?_setCell]; exact h o
theorem drew_cell {w : World} {p : Addr} {v : Value} (h : w.cell? p = some v) : w.drew.cell? p = some v := h
theorem drew_frozen {w : World} {b : Nat} (h : ∀ o, w.frozen? ⟨b, o, none⟩ = false) : ∀ o, w.drew.frozen? ⟨b, o, none⟩ = false := h
theorem ret_int {k : IntKind} {a b : Int} (h : a = b) : Ending.returned (.int k a) = .returned (.int k b) := by rw [h]
theorem ret_bool {a b : Bool} (h : a = b) : Ending.returned (.bool a) = .returned (.bool b) := by rw [h]
theorem ret_val {a b : Value} (h : a = b) : Ending.returned a = .returned b := by rw [h]
theorem tup2 {a b c d : Value} (h : a = b) (h' : c = d) : Ending.returned (.tuple #[a, c]) = .returned (.tuple #[b, d]) := by rw [h, h']
theorem tup3 {a b c d e f : Value} (h : a = b) (h' : c = d) (h'' : e = f) : Ending.returned (.tuple #[a, c, e]) = .returned (.tuple #[b, d, f]) := by rw [h, h', h'']
theorem vint {k : IntKind} {a b : Int} (h : a = b) : Value.int k a = .int k b := by rw [h]
theorem vbool {a b : Bool} (h : a = b) : Value.bool a = .bool b := by rw [h]
theorem there_set {w : World} {a p : Addr} {u x : Value} (h : (w.setCell a u).cell? p = some x) : ∃ y, w.cell? p = some y := by
  by_cases e : a = p
  · subst e
    simp only [World.setCell, World.cell?, Array.getElem?_modify, ↓reduceIte] at h ⊢
    cases hb : w.heap[a.block]? with
    | none => simp [hb] at h
    | some o =>
      cases o <;> simp [hb] at h ⊢
      obtain ⟨h1, h2⟩ := h
      simp [h1] at h2
      have hs := (Array.getElem?_eq_some_iff.1 h2).1
      rw [Array.size_setIfInBounds] at hs
      exact ⟨h1, _, Array.getElem?_eq_getElem hs⟩
  · rw [World.cell?_setCell_other w _ _ _ e] at h; exact ⟨x, h⟩
theorem set_same {w : World} {a : Addr} {u x : Value} (h : (w.setCell a u).cell? a = some x) : (w.setCell a u).cell? a = some u := by
  obtain ⟨y, hy⟩ := there_set h
  exact World.cell?_setCell_same w _ _ hy
section
variable {w : World} {b : Nat} {v0 v1 v2 v3 : Value}
/-- the four cells of a result, read behind the store of it, where before it they were there -/
theorem cellv4_0 (h : ((((w.setCell ⟨b, 0, none⟩ v0).setCell ⟨b, 1, none⟩ v1).setCell ⟨b, 2, none⟩ v2).setCell ⟨b, 3, none⟩ v3).cell? ⟨b, 0, none⟩ = some (cellv ((((w.setCell ⟨b, 0, none⟩ v0).setCell ⟨b, 1, none⟩ v1).setCell ⟨b, 2, none⟩ v2).setCell ⟨b, 3, none⟩ v3) b 0)) :
    cellv ((((w.setCell ⟨b, 0, none⟩ v0).setCell ⟨b, 1, none⟩ v1).setCell ⟨b, 2, none⟩ v2).setCell ⟨b, 3, none⟩ v3) b 0 = v0 := by
  rw [World.cell?_setCell_other _ _ _ _ (by simp), World.cell?_setCell_other _ _ _ _ (by simp), World.cell?_setCell_other _ _ _ _ (by simp)] at h
  exact (Option.some.inj ((set_same h).symm.trans h)).symm
theorem cellv4_1 (h : ((((w.setCell ⟨b, 0, none⟩ v0).setCell ⟨b, 1, none⟩ v1).setCell ⟨b, 2, none⟩ v2).setCell ⟨b, 3, none⟩ v3).cell? ⟨b, 1, none⟩ = some (cellv ((((w.setCell ⟨b, 0, none⟩ v0).setCell ⟨b, 1, none⟩ v1).setCell ⟨b, 2, none⟩ v2).setCell ⟨b, 3, none⟩ v3) b 1)) :
    cellv ((((w.setCell ⟨b, 0, none⟩ v0).setCell ⟨b, 1, none⟩ v1).setCell ⟨b, 2, none⟩ v2).setCell ⟨b, 3, none⟩ v3) b 1 = v1 := by
  rw [World.cell?_setCell_other _ _ _ _ (by simp), World.cell?_setCell_other _ _ _ _ (by simp)] at h
  exact (Option.some.inj ((set_same h).symm.trans h)).symm
theorem cellv4_2 (h : ((((w.setCell ⟨b, 0, none⟩ v0).setCell ⟨b, 1, none⟩ v1).setCell ⟨b, 2, none⟩ v2).setCell ⟨b, 3, none⟩ v3).cell? ⟨b, 2, none⟩ = some (cellv ((((w.setCell ⟨b, 0, none⟩ v0).setCell ⟨b, 1, none⟩ v1).setCell ⟨b, 2, none⟩ v2).setCell ⟨b, 3, none⟩ v3) b 2)) :
    cellv ((((w.setCell ⟨b, 0, none⟩ v0).setCell ⟨b, 1, none⟩ v1).setCell ⟨b, 2, none⟩ v2).setCell ⟨b, 3, none⟩ v3) b 2 = v2 := by
  rw [World.cell?_setCell_other _ _ _ _ (by simp)] at h
  exact (Option.some.inj ((set_same h).symm.trans h)).symm
theorem cellv4_3 (h : ((((w.setCell ⟨b, 0, none⟩ v0).setCell ⟨b, 1, none⟩ v1).setCell ⟨b, 2, none⟩ v2).setCell ⟨b, 3, none⟩ v3).cell? ⟨b, 3, none⟩ = some (cellv ((((w.setCell ⟨b, 0, none⟩ v0).setCell ⟨b, 1, none⟩ v1).setCell ⟨b, 2, none⟩ v2).setCell ⟨b, 3, none⟩ v3) b 3)) :
    cellv ((((w.setCell ⟨b, 0, none⟩ v0).setCell ⟨b, 1, none⟩ v1).setCell ⟨b, 2, none⟩ v2).setCell ⟨b, 3, none⟩ v3) b 3 = v3 :=
  (Option.some.inj ((set_same h).symm.trans h)).symm
end
/-- a field of a result that is zero beside an error -/
def z0 (c x : Int) : Int := if c = 0 then x else 0
theorem z0_zero (x : Int) : z0 0 x = x := by simp [z0]
theorem z0_three (x : Int) : z0 3 x = 0 := by simp [z0]
theorem z0_ok {c x : Int} (h : c = 0) : z0 c x = x := by simp [z0, h]
theorem z0_no {c x : Int} (h : c ≠ 0) : z0 c x = 0 := by simp [z0, h]
end Go.Proofs.YtkccmmhofhaccaaDoor
namespace Go.Proofs.YtkccmmhofhaccaaDoor
open Go.RowKit
set_option linter.unusedSimpArgs false
set_option linter.unusedVariables false
set_option maxRecDepth 100000
theorem wraps_u64 (n : Int) (h₀ : 0 ≤ n) (h₁ : n < 2 ^ 64) : IntKind.u64.wrap n = n := by rw [IntKind.wrap_u64]; omega
theorem wraps_i64 (n : Int) (h₀ : 0 ≤ n) (h₁ : n < 2 ^ 63) : IntKind.i64.wrap n = n := by rw [IntKind.wrap_i64]; omega
theorem or_u64 (i : Nat) (x y : Int) (h0 : 0 ≤ x) (hx : x % 2 ^ i = 0) (h1 : x < 18446744073709551616) (h2 : 0 ≤ y) (h3 : y < 2 ^ i) (h4 : y < 18446744073709551616) : bits .or .u64 x y = x + y :=
  bits_join .u64 64 (by decide) wraps_u64 i x y h0 hx h1 h2 h3 h4
theorem or_u64_1 (x y : Int) (h0 : 0 ≤ x) (hx : x % 2 = 0) (h1 : x < 18446744073709551616) (h2 : 0 ≤ y) (h3 : y < 2) : bits .or .u64 x y = x + y :=
  or_u64 1 x y h0 (by simpa using hx) h1 h2 (by simpa using h3) (by omega)
theorem or_u64_8 (x y : Int) (h0 : 0 ≤ x) (hx : x % 256 = 0) (h1 : x < 18446744073709551616) (h2 : 0 ≤ y) (h3 : y < 256) : bits .or .u64 x y = x + y :=
  or_u64 8 x y h0 (by simpa using hx) h1 h2 (by simpa using h3) (by omega)
theorem i64_mask32 (n : Int) : bits .and .i64 n 4294967295 = n % 4294967296 := by
  have hm : (BitVec.ofInt 64 4294967295).toNat = 2 ^ 32 - 1 := by decide
  have key : (BitVec.ofInt 64 n &&& BitVec.ofInt 64 4294967295).toNat = (n % ((2 ^ 64 : Nat) : Int)).toNat % 2 ^ 32 := by
    rw [BitVec.toNat_and, BitVec.toNat_ofInt, hm, Nat.and_two_pow_sub_one_eq_mod]
  show IntKind.i64.wrap ((BitVec.ofInt 64 n &&& BitVec.ofInt 64 4294967295).toNat : Nat) = n % 4294967296
  rw [key, IntKind.wrap_i64]
  omega
theorem u64_mask32 (n : Int) (h0 : 0 ≤ n) (h1 : n < 18446744073709551616) : bits .and .u64 n 4294967295 = n % 4294967296 :=
  bits_mask .u64 64 (by decide) wraps_u64 32 (by decide) n h0 h1
theorem i64_or32 (x y : Int) (hx : x % 4294967296 = 0) (h0 : -9223372036854775808 ≤ x) (h1 : x < 9223372036854775808) (h2 : 0 ≤ y) (h3 : y < 4294967296) : bits .or .i64 x y = x + y := by
  have kx : (BitVec.ofInt 64 x).toNat = 2 ^ 32 * ((x % 18446744073709551616).toNat / 2 ^ 32) := by rw [BitVec.toNat_ofInt]; omega
  have ky : (BitVec.ofInt 64 y).toNat = y.toNat := by rw [BitVec.toNat_ofInt]; omega
  have key : (BitVec.ofInt 64 x ||| BitVec.ofInt 64 y).toNat = 2 ^ 32 * ((x % 18446744073709551616).toNat / 2 ^ 32) + y.toNat := by
    rw [BitVec.toNat_or, kx, ky, ← Nat.two_pow_add_eq_or_of_lt (by omega)]
  show IntKind.i64.wrap ((BitVec.ofInt 64 x ||| BitVec.ofInt 64 y).toNat : Nat) = x + y
  rw [key, IntKind.wrap_i64]
  omega
theorem or_u64_32 (x y : Int) (h0 : 0 ≤ x) (hx : x % 4294967296 = 0) (h1 : x < 18446744073709551616) (h2 : 0 ≤ y) (h3 : y < 4294967296) : bits .or .u64 x y = x + y :=
  or_u64 32 x y h0 (by simpa using hx) h1 h2 (by simpa using h3) (by omega)
theorem or_u64_4 (x y : Int) (h0 : 0 ≤ x) (hx : x % 16 = 0) (h1 : x < 18446744073709551616) (h2 : 0 ≤ y) (h3 : y < 16) : bits .or .u64 x y = x + y :=
  or_u64 4 x y h0 (by simpa using hx) h1 h2 (by simpa using h3) (by omega)
theorem u64_mask4 (n : Int) (h0 : 0 ≤ n) (h1 : n < 18446744073709551616) : bits .and .u64 n 15 = n % 16 :=
  bits_mask .u64 64 (by decide) wraps_u64 4 (by decide) n h0 h1
/-- Go's quotient and remainder (towards zero) by a number above 0, for linear arithmetic -/
theorem tdm (t c : Int) (hc : 0 < c) : t = c * t.tdiv c + t.tmod c ∧ (0 ≤ t → 0 ≤ t.tmod c) ∧ (t ≤ 0 → t.tmod c ≤ 0) ∧ t.tmod c < c ∧ -c < t.tmod c := by
  refine ⟨(Int.mul_tdiv_add_tmod t c).symm, fun h => Int.tmod_nonneg c h, fun h => ?_, Int.tmod_lt_of_pos t hc, ?_⟩
  · have := Int.tmod_nonneg (a := -t) c (by omega)
    rw [Int.neg_tmod] at this; omega
  · have := Int.tmod_lt_of_pos (-t) hc
    rw [Int.neg_tmod] at this; omega
end Go.Proofs.YtkccmmhofhaccaaDoor
namespace Go.Proofs.YtkccmmhofhaccaaDoor
open Go.RowKit
set_option linter.unusedSimpArgs false
set_option linter.unusedVariables false
set_option maxRecDepth 100000
/-- the element at k, 0 outside -/
def atB (l : List Int) (k : Nat) : Int := l.getD k 0
/-- all of a list's numbers are bytes -/
def Byt (l : List Int) : Prop := ∀ x ∈ l, 0 ≤ x ∧ x ≤ 255
/-- the slice address A (of as many elements as l has) reads as the bytes l, in a block from lo on and below hi -/
def Bs (w : World) (lo hi : Nat) (A : Option Addr) (l : List Int) : Prop :=
  Byt l ∧ (0 < l.length → ∃ b o, A = some ⟨b, o, none⟩ ∧ lo ≤ b ∧ b < hi ∧ ∀ k, k < l.length → w.cell? ⟨b, o + k, none⟩ = some (.int .u8 (atB l k)))
theorem getD_mem' {l : List Int} {k : Nat} (h : k < l.length) : atB l k ∈ l := by
  unfold atB; rw [List.getD_eq_getElem?_getD, List.getElem?_eq_getElem h]; exact List.getElem_mem h
theorem Byt.at {l : List Int} (h : Byt l) (k : Nat) : 0 ≤ atB l k ∧ atB l k ≤ 255 := by
  rcases Nat.lt_or_ge k l.length with hk | hk
  · exact h _ (getD_mem' hk)
  · unfold atB; rw [List.getD_eq_getElem?_getD, List.getElem?_eq_none hk]; simp
instance (l : List Int) : Decidable (Byt l) := by unfold Byt; infer_instance
theorem Byt.nil : Byt [] := fun x h => by simp at h
theorem Byt.app {l m : List Int} (h : Byt l) (h' : Byt m) : Byt (l ++ m) := fun x hx => by
  rcases List.mem_append.1 hx with hx | hx
  · exact h x hx
  · exact h' x hx
theorem Byt.cons {x : Int} {l : List Int} (h0 : 0 ≤ x) (h1 : x ≤ 255) (h : Byt l) : Byt (x :: l) := fun y hy => by
  rcases List.mem_cons.1 hy with rfl | hy
  · exact ⟨h0, h1⟩
  · exact h y hy
theorem Byt.drop {l : List Int} (h : Byt l) (k : Nat) : Byt (l.drop k) := fun x hx => h x (List.mem_of_mem_drop hx)
theorem Byt.take {l : List Int} (h : Byt l) (k : Nat) : Byt (l.take k) := fun x hx => h x (List.mem_of_mem_take hx)
theorem Byt.set {l : List Int} (h : Byt l) (k : Nat) {x : Int} (h0 : 0 ≤ x) (h1 : x ≤ 255) : Byt (l.set k x) := fun y hy => by
  rcases List.mem_or_eq_of_mem_set hy with hy | rfl
  · exact h y hy
  · exact ⟨h0, h1⟩
theorem Byt.zeros (n : Nat) : Byt (List.replicate n 0) := fun x hx => by
  obtain ⟨_, rfl⟩ := List.mem_replicate.1 hx; simp
section
variable {w w' : World} {lo hi lo' hi' : Nat} {A : Option Addr} {l m : List Int}
theorem Bs.byt (h : Bs w lo hi A l) : Byt l := h.1
theorem Bs.nil : Bs w lo hi A [] := ⟨Byt.nil, fun h => by simp at h⟩
theorem Bs.at (h : Bs w lo hi A l) (hl : 0 < l.length) : ∃ b o, A = some ⟨b, o, none⟩ ∧ lo ≤ b ∧ b < hi ∧ ∀ k, k < l.length → w.cell? ⟨b, o + k, none⟩ = some (.int .u8 (atB l k)) := h.2 hl
theorem Bs.keep (h : Bs w lo hi A l) (hk : ∀ b o, lo ≤ b → b < hi → w'.cell? ⟨b, o, none⟩ = w.cell? ⟨b, o, none⟩) : Bs w' lo hi A l :=
  ⟨h.1, fun hl => by
    obtain ⟨b, o, e, h1, h2, hc⟩ := h.2 hl
    exact ⟨b, o, e, h1, h2, fun k hk' => (hk _ _ h1 h2).trans (hc k hk')⟩⟩
theorem Bs.wide (h : Bs w lo hi A l) (h1 : lo' ≤ lo) (h2 : hi ≤ hi') : Bs w lo' hi' A l :=
  ⟨h.1, fun hl => by
    obtain ⟨b, o, e, h3, h4, hc⟩ := h.2 hl
    exact ⟨b, o, e, by omega, by omega, hc⟩⟩
theorem Bs.below {B : Nat} (h : Bs w lo hi A l) (hb : Below B w w') (h1 : hi ≤ B) : Bs w' lo hi A l := h.keep fun b o _ h2 => hb.cell (p := ⟨b, o, none⟩) (by show b < B; omega)
theorem Bs.grown {row : Option Nat} (h : Bs w lo hi A l) (hg : w.grownBy w' row) (hh : hi ≤ w.heap.size) (hr : ∀ g, row = some g → g < lo ∨ hi ≤ g) : Bs w' lo hi A l :=
  h.keep fun b o h1 h2 => World.cell?_of_block (hg.block b (by omega) (fun e => by have := hr _ e.symm; omega))
theorem Bs.drew (h : Bs w lo hi A l) : Bs w.drew lo hi A l := h
theorem Bs.drewN (h : Bs w lo hi A l) (k : Nat) : Bs (w.drewN k) lo hi A l := h
theorem Bs.alloc (h : Bs w lo hi A l) (hh : hi ≤ w.heap.size) (o : Obj) : Bs (w.alloc o) lo hi A l := h.keep fun b _ _ h2 => World.cell?_alloc_lt w o _ (by show b < _; omega)
theorem Bs.setCell (h : Bs w lo hi A l) {p : Addr} (hp : p.block < lo ∨ hi ≤ p.block) (u : Value) : Bs (w.setCell p u) lo hi A l :=
  h.keep fun b o h1 h2 => World.cell?_setCell_other w p _ u (fun e => by subst e; simp at hp; omega)
theorem ofAdd (b o i : Nat) : (Addr.add ⟨b, o, none⟩ i) = ⟨b, o + i, none⟩ := by
  unfold Addr.add; split
  · rename_i h; have : i = 0 := by simpa using h
    subst this; rfl
  · rfl
theorem Bs.drop (h : Bs w lo hi A l) {i c : Nat} (hc : l.length ≤ c) : Bs w lo hi (if c = i then A else A.map (·.add i)) (l.drop i) := by
  refine ⟨h.1.drop i, fun hl => ?_⟩
  rw [List.length_drop] at hl
  obtain ⟨b, o, rfl, h1, h2, hcell⟩ := h.2 (by omega)
  rw [if_neg (by omega)]
  refine ⟨b, o + i, by simp [ofAdd], h1, h2, fun k hk => ?_⟩
  rw [List.length_drop] at hk
  rw [Nat.add_assoc, hcell (i + k) (by omega)]
  simp [atB, List.getD_eq_getElem?_getD]
theorem Bs.take (h : Bs w lo hi A l) (i : Nat) : Bs w lo hi A (l.take i) := by
  refine ⟨h.1.take i, fun hl => ?_⟩
  rw [List.length_take] at hl
  obtain ⟨b, o, rfl, h1, h2, hcell⟩ := h.2 (by omega)
  refine ⟨b, o, rfl, h1, h2, fun k hk => ?_⟩
  rw [List.length_take] at hk
  rw [hcell k (by omega)]
  have : k < i := by omega
  simp [atB, List.getD_eq_getElem?_getD, List.getElem?_take, this]
theorem Bs.cut (h : Bs w lo hi A l) {i c : Nat} (hc : l.length ≤ c) (n : Nat) : Bs w lo hi (if c = i then A else A.map (·.add i)) ((l.drop i).take n) := (h.drop hc).take n
theorem Bs.dropm (h : Bs w lo hi A l) (i : Nat) : Bs w lo hi (A.map (·.add i)) (l.drop i) := by
  have := h.drop (i := i) (c := l.length + i + 1) (by omega)
  rwa [if_neg (by omega)] at this
theorem Bs.cutm (h : Bs w lo hi A l) (i n : Nat) : Bs w lo hi (A.map (·.add i)) ((l.drop i).take n) := (h.dropm i).take n
/-- the call's own row of bytes -/
def Ow (w : World) (lo : Nat) (A : Option Addr) (c : Nat) (l : List Int) : Prop := Byt l ∧ w.ownsRow lo 5 1 (.slice A l.length c) l.length (l.map (Value.int .u8))
theorem Ow.mk {v : Value} {n : Nat} {xs : List Value} (h : w.ownsRow lo 5 1 v n xs) (hx : xs = l.map (Value.int .u8)) (hb : Byt l) : ∃ A c, v = .slice A l.length c ∧ Ow w lo A c l ∧ (0 < l.length → l.length ≤ c) := by
  subst hx
  have hl : n = l.length := by have := h.1; simp at this; omega
  subst hl
  rcases h.2 with ⟨rfl, h0⟩ | ⟨g, cap, cur, rfl, hg, hr⟩
  · refine ⟨none, 0, by rw [h0], ⟨hb, by rw [h0] at h ⊢; exact h⟩, by omega⟩
  · exact ⟨_, _, rfl, ⟨hb, h⟩, fun _ => hr.2.1⟩
theorem Ow.cap_le {c : Nat} (h : Ow w lo A c l) : l.length ≤ c := by
  rcases h.2.2 with ⟨h', h0⟩ | ⟨g', cap', cur, h', _, hg, h1, _⟩
  · omega
  · simp only [Value.slice.injEq] at h'; omega
theorem Ow.nil (w : World) (lo : Nat) : Ow w lo none 0 [] := ⟨Byt.nil, World.ownsRow_nil _ _ _ _⟩
theorem Ow.cap_max {c : Nat} (h : Ow w lo A c l) : c ≤ 9223372036854775807 := by
  rcases h.2.2 with ⟨h', h0⟩ | ⟨g', cap', cur, h', _, hg, h1, h2, _⟩
  · simp only [Value.slice.injEq] at h'; omega
  · simp only [Value.slice.injEq] at h'; unfold maxLen at h2; omega
theorem Ow.form {c : Nat} (h : Ow w lo A c l) : (A = none ∧ l = [] ∧ c = 0) ∨ ∃ g, A = some ⟨g, 0, none⟩ ∧ lo ≤ g ∧ g < w.heap.size := by
  rcases h.2.2 with ⟨h', h0⟩ | ⟨g', cap', cur, h', hlo, hg, h1, _⟩
  · simp only [Value.slice.injEq] at h'
    exact .inl ⟨h'.1, List.eq_nil_of_length_eq_zero h0, h'.2.2⟩
  · simp only [Value.slice.injEq] at h'
    exact .inr ⟨g', h'.1, hlo, (Array.getElem?_eq_some_iff.1 hg).1⟩
theorem Ow.cell {g c k : Nat} (h : Ow w lo (some ⟨g, 0, none⟩) c l) (hk : k < l.length) : w.cell? ⟨g, k, none⟩ = some (.int .u8 (atB l k)) := by
  rw [h.2.cellAt k (by omega)]
  simp [List.getElem?_map, List.getElem?_eq_getElem hk, atB, List.getD_eq_getElem?_getD]
theorem Ow.frozen {g c : Nat} (h : Ow w lo (some ⟨g, 0, none⟩) c l) (k : Nat) : w.frozen? ⟨g, k, none⟩ = false := h.2.frozenAt k
theorem Ow.bs {c : Nat} (h : Ow w lo A c l) : Bs w lo w.heap.size A l := by
  refine ⟨h.1, fun hl => ?_⟩
  rcases h.form with ⟨_, rfl, _⟩ | ⟨g, rfl, h1, h2⟩
  · simp at hl
  · exact ⟨g, 0, rfl, h1, h2, fun k hk => by simpa using h.cell hk⟩
theorem Ow.bs' {c g : Nat} (h : Ow w lo (some ⟨g, 0, none⟩) c l) : Bs w g (g + 1) (some ⟨g, 0, none⟩) l :=
  ⟨h.1, fun hl => ⟨g, 0, rfl, by omega, by omega, fun k hk => by simpa using h.cell hk⟩⟩
theorem Ow.grown {row : Option Nat} {c : Nat} (h : Ow w lo A c l) (hg : w.grownBy w' row) (hne : ∀ g, A = some ⟨g, 0, none⟩ → row ≠ some g) : Ow w' lo A c l := by
  refine ⟨h.1, h.2.kept hg ?_⟩
  rcases h.form with ⟨rfl, _, _⟩ | ⟨g, rfl, _, _⟩
  · exact .inl rfl
  · exact .inr (fun e => hne g rfl (by simpa [Value.ownBlock] using e.symm))
theorem Ow.below {B : Nat} {c : Nat} (h : Ow w lo A c l) (hb : Below B w w') (h1 : w.heap.size ≤ B) : Ow w' lo A c l :=
  h.grown (row := none) ⟨hb.os, hb.tape, hb.output, hb.size, fun k hk _ => hb.block k (by omega)⟩ (by simp)
theorem Ow.set {g c : Nat} (h : Ow w lo (some ⟨g, 0, none⟩) c l) (k : Nat) {x : Int} (h0 : 0 ≤ x) (h1 : x ≤ 255) :
    Ow (w.setCell ⟨g, k, none⟩ (.int .u8 x)) lo (some ⟨g, 0, none⟩) c (l.set k x) := by
  have := (h.2.stored k (.int .u8 x)).1
  refine ⟨h.1.set k h0 h1, ?_⟩
  rw [List.length_set, List.map_set]; exact this
end
theorem map_inj_u8 {l m : List Int} (h : l.map (Value.int .u8) = m.map (Value.int .u8)) : l = m := by
  induction l generalizing m with
  | nil => cases m <;> simp_all
  | cons x l ih => cases m with
    | nil => simp at h
    | cons y m => simp at h; rw [h.1, ih h.2]
theorem oneCellU8 (l : List Int) : ∀ u ∈ l.map (Value.int .u8), u.oneCell' = true := by
  intro u hu; obtain ⟨x, _, rfl⟩ := List.mem_map.1 hu; rfl
end Go.Proofs.YtkccmmhofhaccaaDoor
namespace Go.Proofs.YtkccmmhofhaccaaDoor
open Go.RowKit
set_option linter.unusedSimpArgs false
set_option linter.unusedVariables false
set_option maxRecDepth 100000
theorem infoU8 : (Tryd.prog.info? 5).map (fun i => (i.zero, i.size, i.bytes)) = some (some (.int .u8 0), 1, 1) := by kernel_rfl
theorem sizeU8 : (Tryd.prog.info? 5).map (·.size) = some 1 := by kernel_rfl
theorem makeU8 (kl kc : IntKind) (n : Nat) (hn : n ≤ 281474976710656) (w : World) :
    (Instr.makeSlice 32 (.int kl (n : Int)) (.int kc (n : Int))).run Tryd.prog w = .ok (.slice (some ⟨w.heap.size, 0, none⟩) n n) (w.alloc (.cells (madeCells #[.int .u8 0] n) 5)) :=
  run_make_row' 32 5 (.int .u8 0) 1 Tryd.underlying32 infoU8 rfl kl kc n (by omega) (by omega) w
section
variable {w : World} {lo lo' hi' : Nat} {A B : Option Addr} {l m : List Int}
theorem Ow.made (w : World) (n : Nat) (hn : n ≤ 281474976710656) : Ow (w.alloc (.cells (madeCells #[.int .u8 0] n) 5)) w.heap.size (some ⟨w.heap.size, 0, none⟩) n (List.replicate n 0) := by
  refine ⟨Byt.zeros n, ?_⟩
  have h := World.ownsRow_lit (base := w.heap.size) (e := 5) (size := 1) w (madeCells #[.int .u8 0] n) n (Nat.le_refl _) (by unfold maxLen; omega) (by simp [madeCells])
  rw [toList_madeCells_one] at h
  rw [List.length_replicate, List.map_replicate]; exact h
theorem Ow.lit (w : World) (l : List Int) (cs : Array Value) (hc : cs.toList = l.map (Value.int .u8)) (hb : Byt l) (hl : l.length ≤ 281474976710656) :
    Ow (w.alloc (.cells cs 5)) w.heap.size (some ⟨w.heap.size, 0, none⟩) l.length l := by
  refine ⟨hb, ?_⟩
  have hs : cs.size = l.length := by rw [← Array.length_toList, hc, List.length_map]
  have h := World.ownsRow_lit (base := w.heap.size) (e := 5) (size := 1) w cs l.length (Nat.le_refl _) (by unfold maxLen; omega) (by omega)
  rw [hc] at h
  exact h
theorem Ow.blt {c : Nat} (h : Ow w lo A c l) : ∀ g, A = some ⟨g, 0, none⟩ → lo ≤ g ∧ g < w.heap.size := by
  intro g e
  rcases h.form with ⟨h', _, _⟩ | ⟨g', h', h1, h2⟩
  · rw [h'] at e; cases e
  · rw [h'] at e; injection e with e; injection e with e; subst e; exact ⟨h1, h2⟩
theorem Ow.alloc {c : Nat} (h : Ow w lo A c l) (o : Obj) : Ow (w.alloc o) lo A c l := ⟨h.1, h.2.alloc o⟩
theorem Ow.wide {c : Nat} (h : Ow w lo A c l) (hl : lo' ≤ lo) : Ow w lo' A c l := by
  refine ⟨h.1, h.2.1, ?_⟩
  rcases h.2.2 with h' | ⟨g, cap, cur, h1, h2, h3⟩
  · exact .inl h'
  · exact .inr ⟨g, cap, cur, h1, by omega, h3⟩
theorem below_of_grown {w w' : World} {row : Option Nat} {B : Nat} (hg : w.grownBy w' row) (hB : B ≤ w.heap.size) (hr : ∀ k, row = some k → B ≤ k) : Below B w w' := (Below.refl B w).grown hg hB hr
theorem cells_u8 {b o : Nat} {n : Nat} (hc : ∀ k, k < n → w.cell? ⟨b, o + k, none⟩ = some (.int .u8 (atB l k))) (hn : l.length ≤ n) :
    ∀ j v, (l.map (Value.int .u8))[j]? = some v → w.cell? ((⟨b, o, none⟩ : Addr).add j) = some v := by
  intro j v hj
  rw [ofAdd]
  rw [List.getElem?_map] at hj
  rcases Nat.lt_or_ge j l.length with h | h
  · rw [List.getElem?_eq_getElem h] at hj
    rw [hc j (by omega)]
    simp [atB, List.getD_eq_getElem?_getD, List.getElem?_eq_getElem h]
    simpa using hj
  · rw [List.getElem?_eq_none h] at hj; simp at hj
theorem only_setCell {a w : World} {g : Nat} (h : a.grownBy w (some g)) {p : Addr} (hp : p.block = g ∨ a.heap.size ≤ p.block) (u : Value) : a.grownBy (w.setCell p u) (some g) :=
  ⟨h.os, h.tape, h.output, by simpa [World.setCell] using h.size, fun i hi hne => (Below.heap_setCell w p u i (by
    rintro rfl
    rcases hp with hp | hp
    · exact hne (by rw [hp])
    · omega)).trans (h.block i hi hne)⟩
/-- copy of bytes to the front of a row of the call's own -/
theorem wpList_copy_bs {ops : Array Oper} {rest : List Oper} {o : Oper} {a : Act} {Q : Exit → Act → World → Prop} (hgd : o.guard = none) (d s : Operand)
    (ho : o.op = .call { callee := .builtin .copy, args := #[d, s], argTypes := #[32, 32] })
    (g n c m c' : Nat) (z : List Int) (hd : a.eval d = .slice (some ⟨g, 0, none⟩) n c) (hs : a.eval s = .slice A m c') (hz : z.length = n) (hm : l.length = m) (hmn : m ≤ n)
    (hown : Ow w lo (some ⟨g, 0, none⟩) c z) (hsrc : Bs w lo' hi' A l)
    (h : ∀ w', Ow w' lo (some ⟨g, 0, none⟩) c (l ++ z.drop m) → w.grownBy w' (some g) → w'.heap.size = w.heap.size → wpList Tryd.prog ops Q rest (a.put o.dst (goInt m)) w') : wpList Tryd.prog ops Q (o :: rest) a w := by
  subst hz hm
  obtain ⟨hbz, hlen, hrow⟩ := hown
  rcases hrow with ⟨he, _⟩ | ⟨g', cap, cur, he, hlo, hg, hnc, hcm, hcs, htake⟩
  · simp at he
  · simp only [Value.slice.injEq, Option.some.injEq, Addr.mk.injEq, and_true, true_and] at he
    obtain ⟨rfl, rfl⟩ := he
    by_cases h0 : l.length = 0
    · obtain rfl : l = [] := List.eq_nil_of_length_eq_zero h0
      refine wpList_copy_nothing hgd d s _ _ ho 5 Tryd.underlying32 sizeU8 _ _ _ _ _ _ hd hs (by simp) ?_
      exact h w (by simpa using ⟨hbz, hlen, .inr ⟨g, c, cur, rfl, hlo, hg, hnc, hcm, hcs, htake⟩⟩) (World.grownBy.refl w _) rfl
    · obtain ⟨b, off, rfl, _, _, hcell⟩ := hsrc.at (by omega)
      have hcur : z.length ≤ cur.size := by omega
      refine wpList_copy_own hgd d s _ _ ho 5 Tryd.underlying32 sizeU8 g 0 _ _ ⟨b, off, none⟩ _ _ hd hs cur _ hg (l.map (Value.int .u8)) (by rw [List.length_map]; exact (Nat.min_eq_left hmn).symm) (cells_u8 hcell (Nat.le_refl _)) (by simp <;> omega) (oneCellU8 l) ?_
      rw [List.length_map]
      refine h _ ⟨hsrc.byt.app (hbz.drop _), by simp, .inr ⟨g, c, _, by simp <;> omega, hlo, setRow_heap _ _ _ _ _ _ hg, by simp <;> omega, hcm, ?_, ?_⟩⟩ ?_ ?_
      · simp <;> omega
      · simp only [List.length_append, List.length_drop, List.map_append, List.map_drop, ← htake, Nat.mul_one, List.take_zero, List.nil_append, Nat.zero_add]
        rw [show l.length + (z.length - l.length) = z.length by omega]
        rw [List.take_append, List.length_map, List.take_of_length_le (by simp <;> omega), List.drop_take]
      · exact ⟨rfl, rfl, rfl, by simp, fun k _ hk => setRow_other _ _ _ _ (fun e => hk (by rw [e]))⟩
      · simp
/-- append of bytes to a row of the call's own -/
theorem wpList_append_bs {ops : Array Oper} {rest : List Oper} {o : Oper} {a : Act} {Q : Exit → Act → World → Prop} (hgd : o.guard = none) (d s : Operand)
    (ho : o.op = .call { callee := .builtin .append, args := #[d, s], argTypes := #[32, 32] })
    (n c m' c' : Nat) (hd : a.eval d = .slice A n c) (hs : a.eval s = .slice B m' c') (hn : l.length = n) (hm : m.length = m')
    (hown : Ow w lo A c l) (hsrc : Bs w lo' hi' B m) (hsz : n + m' ≤ 140737488355328) (hlo : lo ≤ w.heap.size)
    (h : ∀ A' c' w', Ow w' lo A' c' (l ++ m) → Below lo w w' → (∀ row, (∀ g, A = some ⟨g, 0, none⟩ → row ≠ g) → row < w.heap.size → w'.heap[row]? = w.heap[row]?) → wpList Tryd.prog ops Q rest (a.put o.dst (.slice A' (n + m') c')) w') : wpList Tryd.prog ops Q (o :: rest) a w := by
  obtain ⟨i, hi, hz, h1, h2⟩ := info_parts infoU8
  subst hn hm
  have done : ∀ v' w', (Builtin.append_ #[32, 32] o.type #[.slice A l.length c, .slice B m.length c']).run Tryd.prog w = .ok v' w' → w'.ownsRow lo 5 1 v' (l.length + m.length) (l.map (Value.int .u8) ++ m.map (Value.int .u8)) → w.grownBy w' (Value.slice A l.length c).ownBlock →
      wpList Tryd.prog ops Q (o :: rest) a w := by
    intro v' w' hrun r1 r2
    refine wpList_plain hgd fun K hK => ?_
    unfold Oper.wp execOp
    simp only [ho, resolve, invoke, builtin, Sem.run_bind, Sem.run_pure, Result.andThen_ok, List.map_toArray, List.map_cons, List.map_nil, hd, hs, hrun]
    obtain ⟨A', c'', rfl, hO, _⟩ := Ow.mk r1 (l := l ++ m) (by rw [List.map_append]) (hown.1.app hsrc.byt)
    rw [List.length_append] at *
    refine hK _ _ (h A' c'' w' hO (below_of_grown r2 hlo fun k hk => ?_) fun row hr1 hr2 => ?_)
    · exact (hown.2.lt k hk).1
    · refine r2.block row hr2 (fun e => ?_)
      rcases hown.form with ⟨rfl, _, _⟩ | ⟨g, rfl, _, _⟩
      · simp [Value.ownBlock] at e
      · simp [Value.ownBlock] at e; exact hr1 g rfl e
  by_cases h0 : m.length = 0
  · obtain rfl : m = [] := List.eq_nil_of_length_eq_zero h0
    rcases B with _ | ad
    · refine done (.slice A l.length c) w ?_ (by simpa using hown.2) (World.grownBy.refl w _)
      rcases hown.2.2 with ⟨he, hl0⟩ | ⟨g, cap, cur, he, _, _, hnc, _⟩
      · rw [he]; simp [Builtin.append_, run_underlying Tryd.underlying32, sizeOf, typeInfo, hi, Builtin.lenOf, Builtin.firstCells]
      · rw [he]; simp [Builtin.append_, run_underlying Tryd.underlying32, sizeOf, typeInfo, hi, Builtin.lenOf, Builtin.firstCells, hnc, storeCells]
    · obtain ⟨v', w', hrun, r1, r2, _, r3⟩ := run_append_own_at (P := Tryd.prog) w lo 32 o.type 5 i (.int .u8 0) 1 1 Tryd.underlying32 hi hz h1 h2 rfl (by omega) (.slice A l.length c) l.length _ hown.2
        ad 0 c' [] (by simp) (by simp) (by simp) (by unfold maxLen; simp at hsz; omega) (by simp at hsz; omega) hlo
      exact done v' w' hrun (by simpa using r1) r2
  · obtain ⟨b, off, rfl, _, _, hcell⟩ := hsrc.at (by omega)
    obtain ⟨v', w', hrun, r1, r2, _, r3⟩ := run_append_own_at (P := Tryd.prog) w lo 32 o.type 5 i (.int .u8 0) 1 1 Tryd.underlying32 hi hz h1 h2 rfl (by omega) (.slice A l.length c) l.length _ hown.2
      ⟨b, off, none⟩ m.length c' (m.map (Value.int .u8)) (by simp) (cells_u8 hcell (Nat.le_refl _)) (oneCellU8 m) (by unfold maxLen; omega) (by omega) hlo
    exact done v' w' hrun r1 r2
end
end Go.Proofs.YtkccmmhofhaccaaDoor
namespace Go.Proofs.YtkccmmhofhaccaaDoor
open Go.RowKit
set_option linter.unusedSimpArgs false
set_option linter.unusedVariables false
set_option maxRecDepth 100000
/-- block b of w holds the cells cs -/
def Blk (w : World) (b : Nat) (t : TypeId) (cs : List Value) : Prop := w.heap[b]? = some (.cells cs.toArray t (0, 0))
/-- only block g has turned, and new blocks -/
abbrev But (g : Nat) (w w' : World) : Prop := w.grownBy w' (some g)
theorem But.below {g B : Nat} {w w' : World} (h : But g w w') (h1 : B ≤ w.heap.size) (h2 : B ≤ g) : Below B w w' := below_of_grown h h1 (by simp; omega)
theorem But.trans {g : Nat} {a b c : World} (h : But g a b) (k : But g b c) : But g a c :=
  ⟨k.os.trans h.os, k.tape.trans h.tape, k.output.trans h.output, Nat.le_trans h.size k.size, fun i hi hn => (k.block i (by have := h.size; omega) hn).trans (h.block i hi hn)⟩
theorem But.of_below {g B : Nat} {a b : World} (h : Below B a b) (hB : a.heap.size ≤ B) : But g a b := ⟨h.os, h.tape, h.output, h.size, fun i hi _ => h.block i (by omega)⟩
theorem vstr {a b : ByteArray} (h : a = b) : Value.string a = .string b := by rw [h]
theorem blk_set1 {w : World} {g i : Nat} {cs ds : Array Value} {t : TypeId} {fz : Nat × Nat} {u : Value} (h : w.heap[g]? = some (.cells cs t fz)) (hd : cs.setIfInBounds i u = ds) : (w.setCell ⟨g, i, none⟩ u).heap[g]? = some (.cells ds t fz) := by
  subst hd
  simp [World.setCell, Array.getElem?_modify, h]
theorem size_setCells (b : Nat) : ∀ (vs : List Value) (o : Nat) (w : World), (w.setCells b o vs).heap.size = w.heap.size
  | [], _, _ => rfl
  | v :: r, o, w => by rw [World.setCells, size_setCells b r]; simp [World.setCell]
theorem but_setCells (b : Nat) : ∀ (vs : List Value) (o : Nat) {a w : World}, But b a w → But b a (w.setCells b o vs)
  | [], _, _, _, h => h
  | v :: r, o, a, w, h => by rw [World.setCells]; exact but_setCells b r _ (only_setCell h (.inl rfl) v)
theorem heap_setCells {b : Nat} {t : TypeId} {fz : Nat × Nat} {suf : List Value} : ∀ (vs pre old : List Value) (w : World), old.length = vs.length → w.heap[b]? = some (.cells (pre ++ old ++ suf).toArray t fz) →
    (w.setCells b pre.length vs).heap[b]? = some (.cells (pre ++ vs ++ suf).toArray t fz)
  | [], pre, old, w, hl, h => by
      obtain rfl : old = [] := List.eq_nil_of_length_eq_zero hl
      exact h
  | v :: r, pre, old, w, hl, h => by
      match old, hl with
      | o :: old', hl =>
        rw [World.setCells]
        have h2 := heap_setCells (t := t) (fz := fz) (suf := suf) r (pre ++ [v]) old' (w.setCell ⟨b, pre.length, none⟩ v) (by simpa using hl) (blk_set1 h (by simp))
        rw [List.length_append, List.length_singleton] at h2
        rw [h2]; simp
section
variable {w w' : World} {b : Nat} {t : TypeId} {cs : List Value}
theorem Blk.lt (h : Blk w b t cs) : b < w.heap.size := (Array.getElem?_eq_some_iff.1 h).1
theorem Blk.below {B : Nat} (h : Blk w b t cs) (hb : Below B w w') (h1 : b < B) : Blk w' b t cs := (hb.block b h1).trans h
theorem Blk.but {g : Nat} (h : Blk w b t cs) (hb : But g w w') (h1 : b ≠ g) : Blk w' b t cs := (hb.block b h.lt (by simpa using h1)).trans h
theorem Blk.grown {row : Option Nat} (h : Blk w b t cs) (hb : w.grownBy w' row) (h1 : row ≠ some b) : Blk w' b t cs := (hb.block b h.lt (fun e => h1 e.symm)).trans h
theorem Blk.cell (h : Blk w b t cs) {i : Nat} {v : Value} (hv : cs[i]? = some v) : w.cell? ⟨b, i, none⟩ = some v := by
  unfold Blk at h
  simp [World.cell?, h, hv]
theorem Blk.range (h : Blk w b t cs) : w.rangeAt b 0 cs := fun j v hv => by rw [Nat.zero_add]; exact h.cell hv
theorem Blk.frozen (h : Blk w b t cs) : ∀ o, w.frozen? ⟨b, o, none⟩ = false := fun o => by unfold Blk at h; simp [World.frozen?, h]
theorem Blk.there (h : Blk w b t cs) : w.there b 0 cs.length := fun j hj => by
  rw [Nat.zero_add]
  refine ⟨?_, h.frozen j⟩
  rw [h.cell (List.getElem?_eq_getElem hj)]; rfl
theorem Blk.set (h : Blk w b t cs) (i : Nat) (v : Value) : Blk (w.setCell ⟨b, i, none⟩ v) b t (cs.set i v) := blk_set1 h (by simp)
theorem Blk.stored (h : Blk w b t cs) (vs : List Value) (hl : cs.length = vs.length) : Blk (w.setCells b 0 vs) b t vs := by
  unfold Blk at *
  have := heap_setCells (suf := []) vs [] cs w hl (by simpa using h)
  simpa using this
theorem Blk.new (w : World) (t : TypeId) (cs : Array Value) (l : List Value) (hl : cs = l.toArray) : Blk (w.alloc (.cells cs t)) w.heap.size t l := by subst hl; exact heap_alloc_new w _
theorem Blk.old {o : Obj} (h : Blk w b t cs) : Blk (w.alloc o) b t cs := (heap_alloc_old w o h.lt).trans h
theorem Blk.drew (h : Blk w b t cs) : Blk w.drew b t cs := h
theorem Blk.drewN (h : Blk w b t cs) (n : Nat) : Blk (w.drewN n) b t cs := h
end
theorem but_setCell (w : World) (b i : Nat) (v : Value) : But b w (w.setCell ⟨b, i, none⟩ v) := only_setCell (World.grownBy.refl w _) (.inl rfl) v
section
variable {P : Program} {ops : Array Oper} {rest : List Oper} {o : Oper} {a : Act} {w : World} {Q : Exit → Act → World → Prop}
theorem wpl_want (hw : Region.wanted o (yielded ops a.tmps) = true)
    (h : ∀ K : Act → World → Prop, (∀ a w, wpList P ops Q rest a w → K a w) → o.wp P a w K Q) : wpList P ops Q (o :: rest) a w :=
  wpList_step fun K hK => by rw [if_pos hw]; exact h K hK
/-- a new variable -/
theorem wpl_alloc (hw : Region.wanted o (yielded ops a.tmps) = true) (T : TypeId) (ho : o.op = .alloc T) (z : Value) (zs : List Value) (hi : (P.info? T).map (·.zero) = some (some z)) (hc : z.cells = zs.toArray)
    (h : ∀ w', Blk w' w.heap.size T zs → w.heap.size < w'.heap.size → Below w.heap.size w w' → wpList P ops Q rest (a.put o.dst (.pointer (some ⟨w.heap.size, 0, none⟩))) w') : wpList P ops Q (o :: rest) a w := by
  refine wpl_want hw fun K hK => ?_
  cases hq : P.info? T with
  | none => simp [hq] at hi
  | some i =>
    have hz : i.zero = z := by simpa [hq] using hi
    have hr : (Instr.alloc T true (.tuple #[])).run P w = .ok (.pointer (some ⟨w.heap.size, 0, none⟩)) (w.alloc (.cells zs.toArray T)) := by
      simp [Instr.alloc, zeroValue, typeInfo, Sem.run_bind, hq, hz, newVar, newRow, hc]
    unfold Oper.wp execOp
    simp only [ho, Sem.run_bind, hr, Result.andThen_ok, Sem.run_pure]
    exact hK _ _ (h _ (Blk.new w T _ zs rfl) (by simp) ((Below.refl _ w).alloc (Nat.le_refl _) _))
/-- a parameter that lies in memory -/
theorem wpl_box (hw : Region.wanted o (yielded ops a.tmps) = true) (T : TypeId) (x : Operand) (ho : o.op = .box T x) (v : Value) (zs : List Value) (hx : a.eval x = v) (hc : v.cells = zs.toArray)
    (h : ∀ w', Blk w' w.heap.size T zs → w.heap.size < w'.heap.size → Below w.heap.size w w' → wpList P ops Q rest (a.put o.dst (.pointer (some ⟨w.heap.size, 0, none⟩))) w') : wpList P ops Q (o :: rest) a w := by
  refine wpl_want hw fun K hK => ?_
  have hr : (Instr.box T v).run P w = .ok (.pointer (some ⟨w.heap.size, 0, none⟩)) (w.alloc (.cells zs.toArray T)) := by
    simp [Instr.box, Sem.run_bind, newVar, newRow, hc]
  unfold Oper.wp execOp
  simp only [ho, hx, Sem.run_bind, hr, Result.andThen_ok, Sem.run_pure]
  exact hK _ _ (h _ (Blk.new w T _ zs rfl) (by simp) ((Below.refl _ w).alloc (Nat.le_refl _) _))
/-- a whole block is read -/
theorem wpl_load (hw : Region.wanted o (yielded ops a.tmps) = true) (T : TypeId) (x : Operand) (ho : o.op = .load T x) (b : Nat) (hx : a.eval x = .pointer (some ⟨b, 0, none⟩)) (t : TypeId) (cs : List Value) (hB : Blk w b t cs) (d : TypeDesc)
    (hu : P.underlying T = some d) (hd : d.isRow = true) (n : Nat) (hi : (P.info? T).map (·.size) = some n) (hn : cs.length = n)
    (h : wpList P ops Q rest (a.put o.dst (.agg cs.toArray)) w) : wpList P ops Q (o :: rest) a w := by
  subst hn
  exact wpl_want hw fun K hK => wp_load_mid T x ho b 0 hx cs d hB.range hu hd hi (hK _ _ h)
/-- a whole block is written -/
theorem wpl_store (hw : Region.wanted o (yielded ops a.tmps) = true) (T : TypeId) (x y : Operand) (ho : o.op = .store T x y) (b : Nat) (hx : a.eval x = .pointer (some ⟨b, 0, none⟩)) (cells : Array Value) (hy : a.eval y = .agg cells) (cs : List Value) (hc : cells = cs.toArray) (t : TypeId) (ds : List Value) (hB : Blk w b t ds)
    (hl : ds.length = cs.length) (n : Nat) (hi : (P.info? T).map (·.size) = some n) (hn : cs.length = n) (h1 : ∀ v ∈ cs, v.oneCell' = true)
    (h : ∀ w', Blk w' b t cs → w.heap.size ≤ w'.heap.size → But b w w' → wpList P ops Q rest (a.put o.dst undef) w') : wpList P ops Q (o :: rest) a w := by
  subst hc hn
  refine wpl_want hw fun K hK => wp_store_mid T x y ho b 0 cs.toArray hx hy (by have := hB.there; rw [hl] at this; simpa using this) (by simpa using hi) (all_oneCell_toArray h1) (hK _ _ (h _ (hB.stored cs hl) (Nat.le_of_eq (size_setCells _ _ _ _).symm) (but_setCells _ _ _ (World.grownBy.refl w _))))
/-- one cell is read -/
theorem wpl_loadf (hw : Region.wanted o (yielded ops a.tmps) = true) (T : TypeId) (x : Operand) (ho : o.op = .load T x) (b i : Nat) (hx : a.eval x = .pointer (some ⟨b, i, none⟩)) (t : TypeId) (cs : List Value) (hB : Blk w b t cs) (v : Value) (hv : cs[i]? = some v) (d : TypeDesc)
    (hu : P.underlying T = some d) (hd : d.isRow = false)
    (h : wpList P ops Q rest (a.put o.dst v) w) : wpList P ops Q (o :: rest) a w := by
  refine wpl_want hw fun K hK => ?_
  have hagg : (isAgg T).run P w = .ok false w := by
    unfold isAgg
    rw [Sem.run_bind, run_underlying hu w]
    cases d <;> simp_all
  have hcell := hB.cell hv
  have hr : (Instr.loadAt T (.pointer (some ⟨b, i, none⟩))).run P w = .ok v w := by
    simp [Instr.loadAt, Instr.sureAddr, loadVar, Sem.run_bind, hagg, hcell, go_sem]
  unfold Oper.wp execOp
  simp only [ho, hx, Sem.run_bind, hr, Result.andThen_ok, Sem.run_pure]
  exact hK _ _ h
/-- one cell is written -/
theorem wpl_storef (hw : Region.wanted o (yielded ops a.tmps) = true) (T : TypeId) (x y : Operand) (ho : o.op = .store T x y) (b i : Nat) (hx : a.eval x = .pointer (some ⟨b, i, none⟩)) (v : Value) (hy : a.eval y = v) (hc : v.cells = #[v]) (h1 : v.oneCell' = true) (t : TypeId) (cs : List Value) (hB : Blk w b t cs) (hlt : i < cs.length)
    (hi : (P.info? T).map (·.size) = some 1) 
    (h : ∀ w', Blk w' b t (cs.set i v) → w.heap.size ≤ w'.heap.size → But b w w' → wpList P ops Q rest (a.put o.dst undef) w') : wpList P ops Q (o :: rest) a w := by
  refine wpl_want hw fun K hK => ?_
  have ht : w.there b i 1 := fun j hj => by
    obtain rfl : j = 0 := by omega
    have := hB.there i hlt
    rwa [Nat.zero_add] at this
  have hr : (Instr.storeAt T (.pointer (some ⟨b, i, none⟩)) v).run P w = .ok () (w.setCell ⟨b, i, none⟩ v) := by
    have h2 := run_storeVar_mid (P := P) w b i T #[v] (by simpa using ht) (by simpa using hi) (by simpa using h1)
    have e : storeVar T ⟨b, i, none⟩ v = storeVar T ⟨b, i, none⟩ (.agg #[v]) := by unfold storeVar; rw [hc]; rfl
    simp only [Instr.storeAt, Instr.sureAddr, Sem.run_bind, Sem.run_pure, Result.andThen_ok, e, h2]
    rfl
  unfold Oper.wp execOp
  simp only [ho, hx, hy, Sem.run_bind, hr, Result.andThen_ok, Sem.run_pure]
  exact hK _ _ (h _ (hB.set i v) (by simp [World.setCell]) (but_setCell w b i v))
end
end Go.Proofs.YtkccmmhofhaccaaDoor
namespace Go.Proofs.YtkccmmhofhaccaaDoor
open Go.RowKit
set_option linter.unusedSimpArgs false
set_option linter.unusedVariables false
set_option maxRecDepth 100000
theorem But.new {g b : Nat} {a c d : World} (h : But g a c) (k : But b c d) (hb : a.heap.size ≤ b) : But g a d :=
  ⟨k.os.trans h.os, k.tape.trans h.tape, k.output.trans h.output, Nat.le_trans h.size k.size, fun i hi hn => (k.block i (by have := h.size; omega) (by simp; omega)).trans (h.block i hi hn)⟩
theorem But.then {g B : Nat} {a c d : World} (h : But g a c) (k : Below B c d) (hb : a.heap.size ≤ B) : But g a d :=
  ⟨k.os.trans h.os, k.tape.trans h.tape, k.output.trans h.output, Nat.le_trans h.size k.size, fun i hi hn => (k.block i (by omega)).trans (h.block i hi hn)⟩
theorem But.refl (g : Nat) (w : World) : But g w w := World.grownBy.refl w _
theorem Blk.mid {w : World} {b : Nat} {t : TypeId} {cs : List Value} (h : Blk w b t cs) (o : Nat) (sub : List Value) (hs : (cs.drop o).take sub.length = sub) : w.rangeAt b o sub := fun j v hv => by
  have hj : j < sub.length := (List.getElem?_eq_some_iff.1 hv).1
  rw [← hs, List.getElem?_take, if_pos hj, List.getElem?_drop] at hv
  exact h.cell hv
theorem Blk.thereMid {w : World} {b : Nat} {t : TypeId} {cs : List Value} (h : Blk w b t cs) (o n : Nat) (hn : o + n ≤ cs.length) : w.there b o n := fun j hj => by
  have := h.there (o + j) (by omega)
  rwa [Nat.zero_add] at this
theorem Blk.storedMid {w : World} {b : Nat} {t : TypeId} {cs cs' : List Value} (h : Blk w b t cs) (o : Nat) (vs : List Value) (hn : o + vs.length ≤ cs.length) (hc : cs.take o ++ vs ++ cs.drop (o + vs.length) = cs') : Blk (w.setCells b o vs) b t cs' := by
  have hl : (cs.take o).length = o := by rw [List.length_take]; omega
  have h0 : cs = cs.take o ++ (cs.drop o).take vs.length ++ cs.drop (o + vs.length) := by
    rw [← List.drop_drop, List.append_assoc, List.take_append_drop, List.take_append_drop]
  subst hc
  unfold Blk at *
  rw [h0] at h
  have h2 := heap_setCells (suf := cs.drop (o + vs.length)) vs (cs.take o) ((cs.drop o).take vs.length) w (by rw [List.length_take, List.length_drop]; omega) h
  rwa [hl] at h2
section
variable {P : Program} {ops : Array Oper} {rest : List Oper} {o : Oper} {a : Act} {w : World} {Q : Exit → Act → World → Prop}
/-- a struct in the midst of a block is read -/
theorem wpl_loadm (hw : Region.wanted o (yielded ops a.tmps) = true) (T : TypeId) (x : Operand) (ho : o.op = .load T x) (b i : Nat) (hx : a.eval x = .pointer (some ⟨b, i, none⟩)) (t : TypeId) (cs : List Value) (hB : Blk w b t cs) (sub : List Value) (d : TypeDesc)
    (hu : P.underlying T = some d) (hd : d.isRow = true) (n : Nat) (hi : (P.info? T).map (·.size) = some n) (hs : (cs.drop i).take n = sub) (hn : sub.length = n)
    (h : wpList P ops Q rest (a.put o.dst (.agg sub.toArray)) w) : wpList P ops Q (o :: rest) a w := by
  subst hn
  exact wpl_want hw fun K hK => wp_load_mid T x ho b i hx sub d (hB.mid i sub hs) hu hd hi (hK _ _ h)
/-- a struct in the midst of a block is written -/
theorem wpl_storem (hw : Region.wanted o (yielded ops a.tmps) = true) (T : TypeId) (x y : Operand) (ho : o.op = .store T x y) (b i : Nat) (hx : a.eval x = .pointer (some ⟨b, i, none⟩)) (cells : Array Value) (hy : a.eval y = .agg cells) (vs : List Value) (hc : cells = vs.toArray) (t : TypeId) (cs cs' : List Value) (hB : Blk w b t cs)
    (n : Nat) (hi : (P.info? T).map (·.size) = some n) (hn : vs.length = n) (hl : i + n ≤ cs.length) (hcs : cs.take i ++ vs ++ cs.drop (i + n) = cs') (h1 : ∀ v ∈ vs, v.oneCell' = true)
    (h : ∀ w', Blk w' b t cs' → w.heap.size ≤ w'.heap.size → But b w w' → wpList P ops Q rest (a.put o.dst undef) w') : wpList P ops Q (o :: rest) a w := by
  subst hc hn
  refine wpl_want hw fun K hK => wp_store_mid T x y ho b i vs.toArray hx hy (by have := hB.thereMid i vs.length hl; simpa using this) (by simpa using hi) (all_oneCell_toArray h1) (hK _ _ (h _ (hB.storedMid i vs hl hcs) (Nat.le_of_eq (size_setCells _ _ _ _).symm) (but_setCells _ _ _ (World.grownBy.refl w _))))
/-- one cell is written: what then stands there is named -/
theorem wpl_storeg (hw : Region.wanted o (yielded ops a.tmps) = true) (T : TypeId) (x y : Operand) (ho : o.op = .store T x y) (b i : Nat) (hx : a.eval x = .pointer (some ⟨b, i, none⟩)) (v : Value) (hy : a.eval y = v) (hc : v.cells = #[v]) (h1 : v.oneCell' = true) (t : TypeId) (cs cs' : List Value) (hB : Blk w b t cs) (hlt : i < cs.length)
    (hi : (P.info? T).map (·.size) = some 1) (hcs : cs.set i v = cs')
    (h : ∀ w', Blk w' b t cs' → w.heap.size ≤ w'.heap.size → But b w w' → wpList P ops Q rest (a.put o.dst undef) w') : wpList P ops Q (o :: rest) a w := by
  subst hcs
  exact wpl_storef hw T x y ho b i hx v hy hc h1 t cs hB hlt hi h
end
end Go.Proofs.YtkccmmhofhaccaaDoor
namespace Go.Proofs.YtkccmmhofhaccaaDoor
open Go.RowKit
set_option linter.unusedSimpArgs false
set_option linter.unusedVariables false
set_option maxRecDepth 100000
/-- y is x with new blocks, and writes to the blocks G alone -/
structure Kp (x : World) (G : List Nat) (y : World) : Prop where
  os : y.os = x.os
  tape : y.tape = x.tape
  output : y.output = x.output
  size : x.heap.size ≤ y.heap.size
  block : ∀ b, b < x.heap.size → b ∉ G → y.heap[b]? = x.heap[b]?
theorem own_kept {w w' : World} {base size n : Nat} {e : TypeId} {v : Value} {xs : List Value} (h : w.ownsRow base e size v n xs) (hk : ∀ g, v.ownBlock = some g → w'.heap[g]? = w.heap[g]?) : w'.ownsRow base e size v n xs := by
  refine ⟨h.1, ?_⟩
  rcases h.2 with hn | ⟨g, cap, cur, rfl, hb, hgg, rest⟩
  · exact .inl hn
  · exact .inr ⟨g, cap, cur, rfl, hb, (hk g (by simp [Value.ownBlock])).trans hgg, rest⟩
section
variable {x y z : World} {G : List Nat}
theorem Kp.refl (x : World) (G : List Nat) : Kp x G x := ⟨rfl, rfl, rfl, Nat.le_refl _, fun _ _ _ => rfl⟩
theorem Kp.drew (h : Kp x G y) : Kp x G y.drew := ⟨h.os, h.tape, h.output, h.size, h.block⟩
theorem Kp.of_drew (h : Kp x.drew G y) : Kp x G y := ⟨h.os, h.tape, h.output, h.size, h.block⟩
theorem Kp.drewN (h : Kp x G y) (n : Nat) : Kp x G (y.drewN n) := ⟨h.os, h.tape, h.output, h.size, h.block⟩
theorem Kp.alloc (o : Obj) (h : Kp x G y) : Kp x G (y.alloc o) := ⟨h.os, h.tape, h.output, by have := h.size; simp; omega, fun b hb hg => (heap_alloc_old y o (by have := h.size; omega)).trans (h.block b hb hg)⟩
theorem Kp.below {C : Nat} (hb : Below C y z) (h : Kp x G y) (hC : x.heap.size ≤ C) : Kp x G z := ⟨hb.os.trans h.os, hb.tape.trans h.tape, hb.output.trans h.output, Nat.le_trans h.size hb.size, fun b hx hg => (hb.block b (by omega)).trans (h.block b hx hg)⟩
theorem Kp.belowS (hb : Below y.heap.size y z) (h : Kp x G y) : Kp x G z := h.below hb h.size
theorem Kp.but {g : Nat} (hb : But g y z) (h : Kp x G y) (hg : x.heap.size ≤ g ∨ g ∈ G) : Kp x G z := ⟨hb.os.trans h.os, hb.tape.trans h.tape, hb.output.trans h.output, Nat.le_trans h.size hb.size, fun b hx hn => (hb.block b (by have := h.size; omega) (by
  simp only [ne_eq, Option.some.injEq]
  rintro rfl
  rcases hg with hg | hg
  · omega
  · exact hn hg)).trans (h.block b hx hn)⟩
theorem Kp.set {b i : Nat} {s : Option Nat} {v : Value} (h : Kp x G y) (hb : x.heap.size ≤ b ∨ b ∈ G) : Kp x G (y.setCell ⟨b, i, s⟩ v) := ⟨h.os, h.tape, h.output, by have := h.size; simpa [World.setCell] using this, fun c hc hn => (Below.heap_setCell y ⟨b, i, s⟩ v c (by
  show c ≠ b
  rintro rfl
  rcases hb with hb | hb
  · omega
  · exact hn hb)).trans (h.block c hc hn)⟩
theorem Kp.trans (h : Kp x G y) (k : Kp y G z) : Kp x G z := ⟨k.os.trans h.os, k.tape.trans h.tape, k.output.trans h.output, Nat.le_trans h.size k.size, fun b hb hg => (k.block b (by have := h.size; omega) hg).trans (h.block b hb hg)⟩
theorem Kp.toBelow {B : Nat} {w : World} (h : Kp x G y) (hb : Below B w x) (hB : B ≤ x.heap.size) (hG : ∀ g ∈ G, B ≤ g) : Below B w y := ⟨h.os.trans hb.os, h.tape.trans hb.tape, h.output.trans hb.output, Nat.le_trans hb.size h.size, fun b hx => (h.block b (by omega) (fun hg => by have := hG b hg; omega)).trans (hb.block b hx)⟩
theorem Kp.below1 (h : Kp x [] y) : Below x.heap.size x y := ⟨h.os, h.tape, h.output, h.size, fun b hb => h.block b hb (by simp)⟩
theorem Kp.but1 {g : Nat} (h : Kp x [g] y) : But g x y := ⟨h.os, h.tape, h.output, h.size, fun b hb hg => h.block b hb (by simp at hg ⊢; omega)⟩
theorem Kp.of_below (hb : Below x.heap.size x y) : Kp x G y := (Kp.refl x G).belowS hb
theorem Kp.of_but {g : Nat} (hb : But g x y) (hg : x.heap.size ≤ g ∨ g ∈ G) : Kp x G y := (Kp.refl x G).but hb hg
theorem Kp.less {G' : List Nat} (h : Kp x G y) (hG : ∀ g ∈ G, x.heap.size ≤ g ∨ g ∈ G') : Kp x G' y := ⟨h.os, h.tape, h.output, h.size, fun b hb hn => h.block b hb (fun hg => (hG b hg).elim (fun h1 => by omega) hn)⟩
/-- a cell, in a block that is not written -/
def Kc (x : World) (G : List Nat) (b i : Nat) (v : Value) : Prop := x.cell? ⟨b, i, none⟩ = some v ∧ b ∉ G
/-- a cell that is kept -/
theorem kp_cell {b i : Nat} {v : Value} (h : Kp x G y) (hc : Kc x G b i v) : y.cell? ⟨b, i, none⟩ = some v :=
  (World.cell?_of_block (h.block b (World.block_lt_of_cell? x _ hc.1) hc.2)).trans hc.1
theorem kp1 {b1 i1 : Nat} {v1 : Value} (h : Kp x G y) (q1 : Kc x G b1 i1 v1) : y.cell? ⟨b1, i1, none⟩ = some v1 ∧ Kp x G y := ⟨kp_cell h q1, h⟩
theorem kp2 {b1 i1 : Nat} {v1 : Value} {b2 i2 : Nat} {v2 : Value} (h : Kp x G y) (q1 : Kc x G b1 i1 v1) (q2 : Kc x G b2 i2 v2) : y.cell? ⟨b1, i1, none⟩ = some v1 ∧ y.cell? ⟨b2, i2, none⟩ = some v2 ∧ Kp x G y := ⟨kp_cell h q1, kp_cell h q2, h⟩
theorem kp3 {b1 i1 : Nat} {v1 : Value} {b2 i2 : Nat} {v2 : Value} {b3 i3 : Nat} {v3 : Value} (h : Kp x G y) (q1 : Kc x G b1 i1 v1) (q2 : Kc x G b2 i2 v2) (q3 : Kc x G b3 i3 v3) : y.cell? ⟨b1, i1, none⟩ = some v1 ∧ y.cell? ⟨b2, i2, none⟩ = some v2 ∧ y.cell? ⟨b3, i3, none⟩ = some v3 ∧ Kp x G y := ⟨kp_cell h q1, kp_cell h q2, kp_cell h q3, h⟩
theorem kp4 {b1 i1 : Nat} {v1 : Value} {b2 i2 : Nat} {v2 : Value} {b3 i3 : Nat} {v3 : Value} {b4 i4 : Nat} {v4 : Value} (h : Kp x G y) (q1 : Kc x G b1 i1 v1) (q2 : Kc x G b2 i2 v2) (q3 : Kc x G b3 i3 v3) (q4 : Kc x G b4 i4 v4) : y.cell? ⟨b1, i1, none⟩ = some v1 ∧ y.cell? ⟨b2, i2, none⟩ = some v2 ∧ y.cell? ⟨b3, i3, none⟩ = some v3 ∧ y.cell? ⟨b4, i4, none⟩ = some v4 ∧ Kp x G y := ⟨kp_cell h q1, kp_cell h q2, kp_cell h q3, kp_cell h q4, h⟩
theorem kp5 {b1 i1 : Nat} {v1 : Value} {b2 i2 : Nat} {v2 : Value} {b3 i3 : Nat} {v3 : Value} {b4 i4 : Nat} {v4 : Value} {b5 i5 : Nat} {v5 : Value} (h : Kp x G y) (q1 : Kc x G b1 i1 v1) (q2 : Kc x G b2 i2 v2) (q3 : Kc x G b3 i3 v3) (q4 : Kc x G b4 i4 v4) (q5 : Kc x G b5 i5 v5) : y.cell? ⟨b1, i1, none⟩ = some v1 ∧ y.cell? ⟨b2, i2, none⟩ = some v2 ∧ y.cell? ⟨b3, i3, none⟩ = some v3 ∧ y.cell? ⟨b4, i4, none⟩ = some v4 ∧ y.cell? ⟨b5, i5, none⟩ = some v5 ∧ Kp x G y := ⟨kp_cell h q1, kp_cell h q2, kp_cell h q3, kp_cell h q4, kp_cell h q5, h⟩
theorem kp6 {b1 i1 : Nat} {v1 : Value} {b2 i2 : Nat} {v2 : Value} {b3 i3 : Nat} {v3 : Value} {b4 i4 : Nat} {v4 : Value} {b5 i5 : Nat} {v5 : Value} {b6 i6 : Nat} {v6 : Value} (h : Kp x G y) (q1 : Kc x G b1 i1 v1) (q2 : Kc x G b2 i2 v2) (q3 : Kc x G b3 i3 v3) (q4 : Kc x G b4 i4 v4) (q5 : Kc x G b5 i5 v5) (q6 : Kc x G b6 i6 v6) : y.cell? ⟨b1, i1, none⟩ = some v1 ∧ y.cell? ⟨b2, i2, none⟩ = some v2 ∧ y.cell? ⟨b3, i3, none⟩ = some v3 ∧ y.cell? ⟨b4, i4, none⟩ = some v4 ∧ y.cell? ⟨b5, i5, none⟩ = some v5 ∧ y.cell? ⟨b6, i6, none⟩ = some v6 ∧ Kp x G y := ⟨kp_cell h q1, kp_cell h q2, kp_cell h q3, kp_cell h q4, kp_cell h q5, kp_cell h q6, h⟩
theorem kp7 {b1 i1 : Nat} {v1 : Value} {b2 i2 : Nat} {v2 : Value} {b3 i3 : Nat} {v3 : Value} {b4 i4 : Nat} {v4 : Value} {b5 i5 : Nat} {v5 : Value} {b6 i6 : Nat} {v6 : Value} {b7 i7 : Nat} {v7 : Value} (h : Kp x G y) (q1 : Kc x G b1 i1 v1) (q2 : Kc x G b2 i2 v2) (q3 : Kc x G b3 i3 v3) (q4 : Kc x G b4 i4 v4) (q5 : Kc x G b5 i5 v5) (q6 : Kc x G b6 i6 v6) (q7 : Kc x G b7 i7 v7) : y.cell? ⟨b1, i1, none⟩ = some v1 ∧ y.cell? ⟨b2, i2, none⟩ = some v2 ∧ y.cell? ⟨b3, i3, none⟩ = some v3 ∧ y.cell? ⟨b4, i4, none⟩ = some v4 ∧ y.cell? ⟨b5, i5, none⟩ = some v5 ∧ y.cell? ⟨b6, i6, none⟩ = some v6 ∧ y.cell? ⟨b7, i7, none⟩ = some v7 ∧ Kp x G y := ⟨kp_cell h q1, kp_cell h q2, kp_cell h q3, kp_cell h q4, kp_cell h q5, kp_cell h q6, kp_cell h q7, h⟩
theorem kp8 {b1 i1 : Nat} {v1 : Value} {b2 i2 : Nat} {v2 : Value} {b3 i3 : Nat} {v3 : Value} {b4 i4 : Nat} {v4 : Value} {b5 i5 : Nat} {v5 : Value} {b6 i6 : Nat} {v6 : Value} {b7 i7 : Nat} {v7 : Value} {b8 i8 : Nat} {v8 : Value} (h : Kp x G y) (q1 : Kc x G b1 i1 v1) (q2 : Kc x G b2 i2 v2) (q3 : Kc x G b3 i3 v3) (q4 : Kc x G b4 i4 v4) (q5 : Kc x G b5 i5 v5) (q6 : Kc x G b6 i6 v6) (q7 : Kc x G b7 i7 v7) (q8 : Kc x G b8 i8 v8) : y.cell? ⟨b1, i1, none⟩ = some v1 ∧ y.cell? ⟨b2, i2, none⟩ = some v2 ∧ y.cell? ⟨b3, i3, none⟩ = some v3 ∧ y.cell? ⟨b4, i4, none⟩ = some v4 ∧ y.cell? ⟨b5, i5, none⟩ = some v5 ∧ y.cell? ⟨b6, i6, none⟩ = some v6 ∧ y.cell? ⟨b7, i7, none⟩ = some v7 ∧ y.cell? ⟨b8, i8, none⟩ = some v8 ∧ Kp x G y := ⟨kp_cell h q1, kp_cell h q2, kp_cell h q3, kp_cell h q4, kp_cell h q5, kp_cell h q6, kp_cell h q7, kp_cell h q8, h⟩
theorem kp9 {b1 i1 : Nat} {v1 : Value} {b2 i2 : Nat} {v2 : Value} {b3 i3 : Nat} {v3 : Value} {b4 i4 : Nat} {v4 : Value} {b5 i5 : Nat} {v5 : Value} {b6 i6 : Nat} {v6 : Value} {b7 i7 : Nat} {v7 : Value} {b8 i8 : Nat} {v8 : Value} {b9 i9 : Nat} {v9 : Value} (h : Kp x G y) (q1 : Kc x G b1 i1 v1) (q2 : Kc x G b2 i2 v2) (q3 : Kc x G b3 i3 v3) (q4 : Kc x G b4 i4 v4) (q5 : Kc x G b5 i5 v5) (q6 : Kc x G b6 i6 v6) (q7 : Kc x G b7 i7 v7) (q8 : Kc x G b8 i8 v8) (q9 : Kc x G b9 i9 v9) : y.cell? ⟨b1, i1, none⟩ = some v1 ∧ y.cell? ⟨b2, i2, none⟩ = some v2 ∧ y.cell? ⟨b3, i3, none⟩ = some v3 ∧ y.cell? ⟨b4, i4, none⟩ = some v4 ∧ y.cell? ⟨b5, i5, none⟩ = some v5 ∧ y.cell? ⟨b6, i6, none⟩ = some v6 ∧ y.cell? ⟨b7, i7, none⟩ = some v7 ∧ y.cell? ⟨b8, i8, none⟩ = some v8 ∧ y.cell? ⟨b9, i9, none⟩ = some v9 ∧ Kp x G y := ⟨kp_cell h q1, kp_cell h q2, kp_cell h q3, kp_cell h q4, kp_cell h q5, kp_cell h q6, kp_cell h q7, kp_cell h q8, kp_cell h q9, h⟩
theorem kp10 {b1 i1 : Nat} {v1 : Value} {b2 i2 : Nat} {v2 : Value} {b3 i3 : Nat} {v3 : Value} {b4 i4 : Nat} {v4 : Value} {b5 i5 : Nat} {v5 : Value} {b6 i6 : Nat} {v6 : Value} {b7 i7 : Nat} {v7 : Value} {b8 i8 : Nat} {v8 : Value} {b9 i9 : Nat} {v9 : Value} {b10 i10 : Nat} {v10 : Value} (h : Kp x G y) (q1 : Kc x G b1 i1 v1) (q2 : Kc x G b2 i2 v2) (q3 : Kc x G b3 i3 v3) (q4 : Kc x G b4 i4 v4) (q5 : Kc x G b5 i5 v5) (q6 : Kc x G b6 i6 v6) (q7 : Kc x G b7 i7 v7) (q8 : Kc x G b8 i8 v8) (q9 : Kc x G b9 i9 v9) (q10 : Kc x G b10 i10 v10) : y.cell? ⟨b1, i1, none⟩ = some v1 ∧ y.cell? ⟨b2, i2, none⟩ = some v2 ∧ y.cell? ⟨b3, i3, none⟩ = some v3 ∧ y.cell? ⟨b4, i4, none⟩ = some v4 ∧ y.cell? ⟨b5, i5, none⟩ = some v5 ∧ y.cell? ⟨b6, i6, none⟩ = some v6 ∧ y.cell? ⟨b7, i7, none⟩ = some v7 ∧ y.cell? ⟨b8, i8, none⟩ = some v8 ∧ y.cell? ⟨b9, i9, none⟩ = some v9 ∧ y.cell? ⟨b10, i10, none⟩ = some v10 ∧ Kp x G y := ⟨kp_cell h q1, kp_cell h q2, kp_cell h q3, kp_cell h q4, kp_cell h q5, kp_cell h q6, kp_cell h q7, kp_cell h q8, kp_cell h q9, kp_cell h q10, h⟩
theorem kp11 {b1 i1 : Nat} {v1 : Value} {b2 i2 : Nat} {v2 : Value} {b3 i3 : Nat} {v3 : Value} {b4 i4 : Nat} {v4 : Value} {b5 i5 : Nat} {v5 : Value} {b6 i6 : Nat} {v6 : Value} {b7 i7 : Nat} {v7 : Value} {b8 i8 : Nat} {v8 : Value} {b9 i9 : Nat} {v9 : Value} {b10 i10 : Nat} {v10 : Value} {b11 i11 : Nat} {v11 : Value} (h : Kp x G y) (q1 : Kc x G b1 i1 v1) (q2 : Kc x G b2 i2 v2) (q3 : Kc x G b3 i3 v3) (q4 : Kc x G b4 i4 v4) (q5 : Kc x G b5 i5 v5) (q6 : Kc x G b6 i6 v6) (q7 : Kc x G b7 i7 v7) (q8 : Kc x G b8 i8 v8) (q9 : Kc x G b9 i9 v9) (q10 : Kc x G b10 i10 v10) (q11 : Kc x G b11 i11 v11) : y.cell? ⟨b1, i1, none⟩ = some v1 ∧ y.cell? ⟨b2, i2, none⟩ = some v2 ∧ y.cell? ⟨b3, i3, none⟩ = some v3 ∧ y.cell? ⟨b4, i4, none⟩ = some v4 ∧ y.cell? ⟨b5, i5, none⟩ = some v5 ∧ y.cell? ⟨b6, i6, none⟩ = some v6 ∧ y.cell? ⟨b7, i7, none⟩ = some v7 ∧ y.cell? ⟨b8, i8, none⟩ = some v8 ∧ y.cell? ⟨b9, i9, none⟩ = some v9 ∧ y.cell? ⟨b10, i10, none⟩ = some v10 ∧ y.cell? ⟨b11, i11, none⟩ = some v11 ∧ Kp x G y := ⟨kp_cell h q1, kp_cell h q2, kp_cell h q3, kp_cell h q4, kp_cell h q5, kp_cell h q6, kp_cell h q7, kp_cell h q8, kp_cell h q9, kp_cell h q10, kp_cell h q11, h⟩
theorem kp12 {b1 i1 : Nat} {v1 : Value} {b2 i2 : Nat} {v2 : Value} {b3 i3 : Nat} {v3 : Value} {b4 i4 : Nat} {v4 : Value} {b5 i5 : Nat} {v5 : Value} {b6 i6 : Nat} {v6 : Value} {b7 i7 : Nat} {v7 : Value} {b8 i8 : Nat} {v8 : Value} {b9 i9 : Nat} {v9 : Value} {b10 i10 : Nat} {v10 : Value} {b11 i11 : Nat} {v11 : Value} {b12 i12 : Nat} {v12 : Value} (h : Kp x G y) (q1 : Kc x G b1 i1 v1) (q2 : Kc x G b2 i2 v2) (q3 : Kc x G b3 i3 v3) (q4 : Kc x G b4 i4 v4) (q5 : Kc x G b5 i5 v5) (q6 : Kc x G b6 i6 v6) (q7 : Kc x G b7 i7 v7) (q8 : Kc x G b8 i8 v8) (q9 : Kc x G b9 i9 v9) (q10 : Kc x G b10 i10 v10) (q11 : Kc x G b11 i11 v11) (q12 : Kc x G b12 i12 v12) : y.cell? ⟨b1, i1, none⟩ = some v1 ∧ y.cell? ⟨b2, i2, none⟩ = some v2 ∧ y.cell? ⟨b3, i3, none⟩ = some v3 ∧ y.cell? ⟨b4, i4, none⟩ = some v4 ∧ y.cell? ⟨b5, i5, none⟩ = some v5 ∧ y.cell? ⟨b6, i6, none⟩ = some v6 ∧ y.cell? ⟨b7, i7, none⟩ = some v7 ∧ y.cell? ⟨b8, i8, none⟩ = some v8 ∧ y.cell? ⟨b9, i9, none⟩ = some v9 ∧ y.cell? ⟨b10, i10, none⟩ = some v10 ∧ y.cell? ⟨b11, i11, none⟩ = some v11 ∧ y.cell? ⟨b12, i12, none⟩ = some v12 ∧ Kp x G y := ⟨kp_cell h q1, kp_cell h q2, kp_cell h q3, kp_cell h q4, kp_cell h q5, kp_cell h q6, kp_cell h q7, kp_cell h q8, kp_cell h q9, kp_cell h q10, kp_cell h q11, kp_cell h q12, h⟩
theorem kp13 {b1 i1 : Nat} {v1 : Value} {b2 i2 : Nat} {v2 : Value} {b3 i3 : Nat} {v3 : Value} {b4 i4 : Nat} {v4 : Value} {b5 i5 : Nat} {v5 : Value} {b6 i6 : Nat} {v6 : Value} {b7 i7 : Nat} {v7 : Value} {b8 i8 : Nat} {v8 : Value} {b9 i9 : Nat} {v9 : Value} {b10 i10 : Nat} {v10 : Value} {b11 i11 : Nat} {v11 : Value} {b12 i12 : Nat} {v12 : Value} {b13 i13 : Nat} {v13 : Value} (h : Kp x G y) (q1 : Kc x G b1 i1 v1) (q2 : Kc x G b2 i2 v2) (q3 : Kc x G b3 i3 v3) (q4 : Kc x G b4 i4 v4) (q5 : Kc x G b5 i5 v5) (q6 : Kc x G b6 i6 v6) (q7 : Kc x G b7 i7 v7) (q8 : Kc x G b8 i8 v8) (q9 : Kc x G b9 i9 v9) (q10 : Kc x G b10 i10 v10) (q11 : Kc x G b11 i11 v11) (q12 : Kc x G b12 i12 v12) (q13 : Kc x G b13 i13 v13) : y.cell? ⟨b1, i1, none⟩ = some v1 ∧ y.cell? ⟨b2, i2, none⟩ = some v2 ∧ y.cell? ⟨b3, i3, none⟩ = some v3 ∧ y.cell? ⟨b4, i4, none⟩ = some v4 ∧ y.cell? ⟨b5, i5, none⟩ = some v5 ∧ y.cell? ⟨b6, i6, none⟩ = some v6 ∧ y.cell? ⟨b7, i7, none⟩ = some v7 ∧ y.cell? ⟨b8, i8, none⟩ = some v8 ∧ y.cell? ⟨b9, i9, none⟩ = some v9 ∧ y.cell? ⟨b10, i10, none⟩ = some v10 ∧ y.cell? ⟨b11, i11, none⟩ = some v11 ∧ y.cell? ⟨b12, i12, none⟩ = some v12 ∧ y.cell? ⟨b13, i13, none⟩ = some v13 ∧ Kp x G y := ⟨kp_cell h q1, kp_cell h q2, kp_cell h q3, kp_cell h q4, kp_cell h q5, kp_cell h q6, kp_cell h q7, kp_cell h q8, kp_cell h q9, kp_cell h q10, kp_cell h q11, kp_cell h q12, kp_cell h q13, h⟩
theorem kp14 {b1 i1 : Nat} {v1 : Value} {b2 i2 : Nat} {v2 : Value} {b3 i3 : Nat} {v3 : Value} {b4 i4 : Nat} {v4 : Value} {b5 i5 : Nat} {v5 : Value} {b6 i6 : Nat} {v6 : Value} {b7 i7 : Nat} {v7 : Value} {b8 i8 : Nat} {v8 : Value} {b9 i9 : Nat} {v9 : Value} {b10 i10 : Nat} {v10 : Value} {b11 i11 : Nat} {v11 : Value} {b12 i12 : Nat} {v12 : Value} {b13 i13 : Nat} {v13 : Value} {b14 i14 : Nat} {v14 : Value} (h : Kp x G y) (q1 : Kc x G b1 i1 v1) (q2 : Kc x G b2 i2 v2) (q3 : Kc x G b3 i3 v3) (q4 : Kc x G b4 i4 v4) (q5 : Kc x G b5 i5 v5) (q6 : Kc x G b6 i6 v6) (q7 : Kc x G b7 i7 v7) (q8 : Kc x G b8 i8 v8) (q9 : Kc x G b9 i9 v9) (q10 : Kc x G b10 i10 v10) (q11 : Kc x G b11 i11 v11) (q12 : Kc x G b12 i12 v12) (q13 : Kc x G b13 i13 v13) (q14 : Kc x G b14 i14 v14) : y.cell? ⟨b1, i1, none⟩ = some v1 ∧ y.cell? ⟨b2, i2, none⟩ = some v2 ∧ y.cell? ⟨b3, i3, none⟩ = some v3 ∧ y.cell? ⟨b4, i4, none⟩ = some v4 ∧ y.cell? ⟨b5, i5, none⟩ = some v5 ∧ y.cell? ⟨b6, i6, none⟩ = some v6 ∧ y.cell? ⟨b7, i7, none⟩ = some v7 ∧ y.cell? ⟨b8, i8, none⟩ = some v8 ∧ y.cell? ⟨b9, i9, none⟩ = some v9 ∧ y.cell? ⟨b10, i10, none⟩ = some v10 ∧ y.cell? ⟨b11, i11, none⟩ = some v11 ∧ y.cell? ⟨b12, i12, none⟩ = some v12 ∧ y.cell? ⟨b13, i13, none⟩ = some v13 ∧ y.cell? ⟨b14, i14, none⟩ = some v14 ∧ Kp x G y := ⟨kp_cell h q1, kp_cell h q2, kp_cell h q3, kp_cell h q4, kp_cell h q5, kp_cell h q6, kp_cell h q7, kp_cell h q8, kp_cell h q9, kp_cell h q10, kp_cell h q11, kp_cell h q12, kp_cell h q13, kp_cell h q14, h⟩
theorem kp15 {b1 i1 : Nat} {v1 : Value} {b2 i2 : Nat} {v2 : Value} {b3 i3 : Nat} {v3 : Value} {b4 i4 : Nat} {v4 : Value} {b5 i5 : Nat} {v5 : Value} {b6 i6 : Nat} {v6 : Value} {b7 i7 : Nat} {v7 : Value} {b8 i8 : Nat} {v8 : Value} {b9 i9 : Nat} {v9 : Value} {b10 i10 : Nat} {v10 : Value} {b11 i11 : Nat} {v11 : Value} {b12 i12 : Nat} {v12 : Value} {b13 i13 : Nat} {v13 : Value} {b14 i14 : Nat} {v14 : Value} {b15 i15 : Nat} {v15 : Value} (h : Kp x G y) (q1 : Kc x G b1 i1 v1) (q2 : Kc x G b2 i2 v2) (q3 : Kc x G b3 i3 v3) (q4 : Kc x G b4 i4 v4) (q5 : Kc x G b5 i5 v5) (q6 : Kc x G b6 i6 v6) (q7 : Kc x G b7 i7 v7) (q8 : Kc x G b8 i8 v8) (q9 : Kc x G b9 i9 v9) (q10 : Kc x G b10 i10 v10) (q11 : Kc x G b11 i11 v11) (q12 : Kc x G b12 i12 v12) (q13 : Kc x G b13 i13 v13) (q14 : Kc x G b14 i14 v14) (q15 : Kc x G b15 i15 v15) : y.cell? ⟨b1, i1, none⟩ = some v1 ∧ y.cell? ⟨b2, i2, none⟩ = some v2 ∧ y.cell? ⟨b3, i3, none⟩ = some v3 ∧ y.cell? ⟨b4, i4, none⟩ = some v4 ∧ y.cell? ⟨b5, i5, none⟩ = some v5 ∧ y.cell? ⟨b6, i6, none⟩ = some v6 ∧ y.cell? ⟨b7, i7, none⟩ = some v7 ∧ y.cell? ⟨b8, i8, none⟩ = some v8 ∧ y.cell? ⟨b9, i9, none⟩ = some v9 ∧ y.cell? ⟨b10, i10, none⟩ = some v10 ∧ y.cell? ⟨b11, i11, none⟩ = some v11 ∧ y.cell? ⟨b12, i12, none⟩ = some v12 ∧ y.cell? ⟨b13, i13, none⟩ = some v13 ∧ y.cell? ⟨b14, i14, none⟩ = some v14 ∧ y.cell? ⟨b15, i15, none⟩ = some v15 ∧ Kp x G y := ⟨kp_cell h q1, kp_cell h q2, kp_cell h q3, kp_cell h q4, kp_cell h q5, kp_cell h q6, kp_cell h q7, kp_cell h q8, kp_cell h q9, kp_cell h q10, kp_cell h q11, kp_cell h q12, kp_cell h q13, kp_cell h q14, kp_cell h q15, h⟩
theorem kp16 {b1 i1 : Nat} {v1 : Value} {b2 i2 : Nat} {v2 : Value} {b3 i3 : Nat} {v3 : Value} {b4 i4 : Nat} {v4 : Value} {b5 i5 : Nat} {v5 : Value} {b6 i6 : Nat} {v6 : Value} {b7 i7 : Nat} {v7 : Value} {b8 i8 : Nat} {v8 : Value} {b9 i9 : Nat} {v9 : Value} {b10 i10 : Nat} {v10 : Value} {b11 i11 : Nat} {v11 : Value} {b12 i12 : Nat} {v12 : Value} {b13 i13 : Nat} {v13 : Value} {b14 i14 : Nat} {v14 : Value} {b15 i15 : Nat} {v15 : Value} {b16 i16 : Nat} {v16 : Value} (h : Kp x G y) (q1 : Kc x G b1 i1 v1) (q2 : Kc x G b2 i2 v2) (q3 : Kc x G b3 i3 v3) (q4 : Kc x G b4 i4 v4) (q5 : Kc x G b5 i5 v5) (q6 : Kc x G b6 i6 v6) (q7 : Kc x G b7 i7 v7) (q8 : Kc x G b8 i8 v8) (q9 : Kc x G b9 i9 v9) (q10 : Kc x G b10 i10 v10) (q11 : Kc x G b11 i11 v11) (q12 : Kc x G b12 i12 v12) (q13 : Kc x G b13 i13 v13) (q14 : Kc x G b14 i14 v14) (q15 : Kc x G b15 i15 v15) (q16 : Kc x G b16 i16 v16) : y.cell? ⟨b1, i1, none⟩ = some v1 ∧ y.cell? ⟨b2, i2, none⟩ = some v2 ∧ y.cell? ⟨b3, i3, none⟩ = some v3 ∧ y.cell? ⟨b4, i4, none⟩ = some v4 ∧ y.cell? ⟨b5, i5, none⟩ = some v5 ∧ y.cell? ⟨b6, i6, none⟩ = some v6 ∧ y.cell? ⟨b7, i7, none⟩ = some v7 ∧ y.cell? ⟨b8, i8, none⟩ = some v8 ∧ y.cell? ⟨b9, i9, none⟩ = some v9 ∧ y.cell? ⟨b10, i10, none⟩ = some v10 ∧ y.cell? ⟨b11, i11, none⟩ = some v11 ∧ y.cell? ⟨b12, i12, none⟩ = some v12 ∧ y.cell? ⟨b13, i13, none⟩ = some v13 ∧ y.cell? ⟨b14, i14, none⟩ = some v14 ∧ y.cell? ⟨b15, i15, none⟩ = some v15 ∧ y.cell? ⟨b16, i16, none⟩ = some v16 ∧ Kp x G y := ⟨kp_cell h q1, kp_cell h q2, kp_cell h q3, kp_cell h q4, kp_cell h q5, kp_cell h q6, kp_cell h q7, kp_cell h q8, kp_cell h q9, kp_cell h q10, kp_cell h q11, kp_cell h q12, kp_cell h q13, kp_cell h q14, kp_cell h q15, kp_cell h q16, h⟩
theorem Kp.blk {b : Nat} {t : TypeId} {cs : List Value} (h : Kp x G y) (hB : Blk x b t cs) (hg : b ∉ G) : Blk y b t cs := (h.block b hB.lt hg).trans hB
theorem Kp.bs {lo hi : Nat} {A : Option Addr} {l : List Int} (h : Kp x G y) (hB : Bs x lo hi A l) (hh : hi ≤ x.heap.size) (hg : ∀ g ∈ G, g < lo ∨ hi ≤ g) : Bs y lo hi A l := hB.keep fun b o h1 h2 => World.cell?_of_block (h.block b (by omega) (fun hm => by have := hg b hm; omega))
theorem Kp.ow {lo c : Nat} {A : Option Addr} {l : List Int} (h : Kp x G y) (hO : Ow x lo A c l) (hg : ∀ g ∈ G, g < lo) : Ow y lo A c l := ⟨hO.1, own_kept hO.2 fun k hk => h.block k (hO.2.lt k hk).2 (fun hm => by have := hg k hm; have := (hO.2.lt k hk).1; omega)⟩
theorem Kp.range {b o : Nat} {cs : List Value} (h : Kp x G y) (hr : x.rangeAt b o cs) (hg : b ∉ G) : y.rangeAt b o cs := fun j v hv => kp_cell h ⟨hr j v hv, hg⟩
end
section
variable {x y : World} {G : List Nat} {b g : Nat} {t t' : TypeId} {c0 c1 c2 c3 c4 c5 v0 v1 v2 v3 v4 v5 : Value} {cs : List Value}
theorem set6_blk (h : Blk x b t [c0, c1, c2, c3, c4, c5]) : Blk ((((((x.setCell ⟨b, 0, none⟩ v0).setCell ⟨b, 1, none⟩ v1).setCell ⟨b, 2, none⟩ v2).setCell ⟨b, 3, none⟩ v3).setCell ⟨b, 4, none⟩ v4).setCell ⟨b, 5, none⟩ v5) b t [v0, v1, v2, v3, v4, v5] := (((((h.set 0 v0).set 1 v1).set 2 v2).set 3 v3).set 4 v4).set 5 v5
theorem set6_kp (h : Kp x G y) (hb : x.heap.size ≤ b) : Kp x G ((((((y.setCell ⟨b, 0, none⟩ v0).setCell ⟨b, 1, none⟩ v1).setCell ⟨b, 2, none⟩ v2).setCell ⟨b, 3, none⟩ v3).setCell ⟨b, 4, none⟩ v4).setCell ⟨b, 5, none⟩ v5) := (((((h.set (.inl hb)).set (.inl hb)).set (.inl hb)).set (.inl hb)).set (.inl hb)).set (.inl hb)
theorem set6_all (h : Blk y b t [c0, c1, c2, c3, c4, c5]) (hR : Blk y g t' cs) (hK : Kp x G y) (hb : x.heap.size ≤ b) (hne : g ≠ b) : ∃ W, (((((y.setCell ⟨b, 0, none⟩ v0).setCell ⟨b, 1, none⟩ v1).setCell ⟨b, 2, none⟩ v2).setCell ⟨b, 3, none⟩ v3).setCell ⟨b, 4, none⟩ v4).setCell ⟨b, 5, none⟩ v5 = W ∧ Blk W b t [v0, v1, v2, v3, v4, v5] ∧ Blk W g t' cs ∧ Kp x G W :=
  ⟨_, rfl, set6_blk h, ((((((hR.but (but_setCell _ b 0 v0) hne).but (but_setCell _ b 1 v1) hne).but (but_setCell _ b 2 v2) hne).but (but_setCell _ b 3 v3) hne).but (but_setCell _ b 4 v4) hne).but (but_setCell _ b 5 v5) hne), set6_kp hK hb⟩
theorem set6_but (x : World) (b : Nat) (v0 v1 v2 v3 v4 v5 : Value) : But b x ((((((x.setCell ⟨b, 0, none⟩ v0).setCell ⟨b, 1, none⟩ v1).setCell ⟨b, 2, none⟩ v2).setCell ⟨b, 3, none⟩ v3).setCell ⟨b, 4, none⟩ v4).setCell ⟨b, 5, none⟩ v5) := (((((but_setCell x b 0 v0).trans (but_setCell _ b 1 v1)).trans (but_setCell _ b 2 v2)).trans (but_setCell _ b 3 v3)).trans (but_setCell _ b 4 v4)).trans (but_setCell _ b 5 v5)
end
theorem set13_all {x y : World} {G : List Nat} {b g : Nat} {t t' : TypeId} {c0 c1 c2 c3 c4 c5 c6 c7 c8 c9 c10 c11 c12 v0 v1 v2 v3 v4 v5 v6 v7 v8 v9 v10 v11 v12 : Value} {cs : List Value} (h : Blk y b t [c0, c1, c2, c3, c4, c5, c6, c7, c8, c9, c10, c11, c12]) (hR : Blk y g t' cs) (hK : Kp x G y) (hb : x.heap.size ≤ b) (hne : g ≠ b) : ∃ W, (((((((((((((y.setCell ⟨b, 0, none⟩ v0).setCell ⟨b, 1, none⟩ v1).setCell ⟨b, 2, none⟩ v2).setCell ⟨b, 3, none⟩ v3).setCell ⟨b, 4, none⟩ v4).setCell ⟨b, 5, none⟩ v5).setCell ⟨b, 6, none⟩ v6).setCell ⟨b, 7, none⟩ v7).setCell ⟨b, 8, none⟩ v8).setCell ⟨b, 9, none⟩ v9).setCell ⟨b, 10, none⟩ v10).setCell ⟨b, 11, none⟩ v11).setCell ⟨b, 12, none⟩ v12) = W ∧ Blk W b t [v0, v1, v2, v3, v4, v5, v6, v7, v8, v9, v10, v11, v12] ∧ Blk W g t' cs ∧ Kp x G W :=
  ⟨_, rfl, (((((((((((((h.set 0 v0).set 1 v1).set 2 v2).set 3 v3).set 4 v4).set 5 v5).set 6 v6).set 7 v7).set 8 v8).set 9 v9).set 10 v10).set 11 v11).set 12 v12), (((((((((((((hR.but (but_setCell _ b 0 v0) hne).but (but_setCell _ b 1 v1) hne).but (but_setCell _ b 2 v2) hne).but (but_setCell _ b 3 v3) hne).but (but_setCell _ b 4 v4) hne).but (but_setCell _ b 5 v5) hne).but (but_setCell _ b 6 v6) hne).but (but_setCell _ b 7 v7) hne).but (but_setCell _ b 8 v8) hne).but (but_setCell _ b 9 v9) hne).but (but_setCell _ b 10 v10) hne).but (but_setCell _ b 11 v11) hne).but (but_setCell _ b 12 v12) hne), (((((((((((((hK.set (.inl hb)).set (.inl hb)).set (.inl hb)).set (.inl hb)).set (.inl hb)).set (.inl hb)).set (.inl hb)).set (.inl hb)).set (.inl hb)).set (.inl hb)).set (.inl hb)).set (.inl hb)).set (.inl hb))⟩
theorem alloc_all {x y : World} {G : List Nat} {g : Nat} {t t' : TypeId} {cs : List Value} {C : Array Value} {L : List Value} (hC : C = L.toArray) (hR : Blk y g t' cs) (hK : Kp x G y) : ∃ W, y.alloc (.cells C t) = W ∧ Blk W y.heap.size t L ∧ Blk W g t' cs ∧ Kp x G W :=
  ⟨_, rfl, Blk.new y t C L hC, hR.old, hK.alloc _⟩
theorem blk_firstD {w w' : World} {t : TypeId} {cs : List Value} (hb : Below (w.alloc (.cells cs.toArray t)).drew.heap.size (w.alloc (.cells cs.toArray t)).drew w') : Blk w' w.heap.size t cs := Blk.below (w := (w.alloc (.cells cs.toArray t)).drew) (Blk.new w t cs.toArray cs rfl) hb (by show w.heap.size < (w.alloc _).heap.size; simp)
theorem blk_firstBD {w w' : World} {g : Nat} {t : TypeId} {cs : List Value} (hb : But g (w.alloc (.cells cs.toArray t)).drew w') (hne : w.heap.size ≠ g) : Blk w' w.heap.size t cs := Blk.but (w := (w.alloc (.cells cs.toArray t)).drew) (Blk.new w t cs.toArray cs rfl) hb hne
end Go.Proofs.YtkccmmhofhaccaaDoor
