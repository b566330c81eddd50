/- Small lemmas about worlds that the other texts of this claim use: how a world that has only new blocks reads; results of several values. No function of the program occurs here. Bit operations on unsigned 64-bit numbers and on ints as arithmetic. No function of the program occurs here. What the functions of package stamp, of package fixed below it, and of stamp's reference compute with numbers. What stamp.Units, Short and Long, and stamp's reference of Time, Units, Short and Long compute. Byte slices as lists of numbers: what is read in memory, how it is kept, and the laws of make, copy and append in these words. No function of the program occurs here. make, copy and append on byte slices, in the words of Bytes. No function of the program occurs here. What stamp.Short, Long, and their references compute; the index of a hexadecimal digit; the text of a timestamp. -/
import Derived.Test.YtdnmjeapihjabaaRows
import Derived.WalkKit
import Derived.WalkSpells
import Derived.WalkLawsBesides
import Derived.ProofKit
import Derived.OpenShut
import Derived.Lib.Hide
import Derived.Deep.RegionHeld3
import Derived.Deep.DrawnRows
import Derived.BigQuiet
import Derived.Deep.QuietTactic
import Derived.Deep.DeepFit
import Derived.Deep.DeepMust
import Derived.Laws.BitsLemmas
import Derived.Laws.BitsAllLaws
import Derived.Maps.AppendAt
import Derived.Deep.AppendLies
import Derived.RegionTactic
import Derived.OwnWalk
import Derived.Laws.OwnMore
import Derived.Laws.CopyOwn
import Derived.Laws.AppendOwnNone
import Derived.Deep.Draws
import Derived.Deep.OwnRows
import Derived.Lib.Strings
import Derived.Lib.Slices
import Derived.Lib.Walk
import Derived.Lib.Bytealg
import Derived.Laws.IdiomStrings
namespace Go.Proofs.Ytdnmjeapihjabaa
open Go.RowKit
theorem bcell {W w1 : World} (hb : Below W.heap.size W w1) : (∀ b o, b < W.heap.size → w1.cell? ⟨b, o, none⟩ = W.cell? ⟨b, o, none⟩) ∧ (∀ b o, b < W.heap.size → w1.frozen? ⟨b, o, none⟩ = W.frozen? ⟨b, o, none⟩) :=
  ⟨fun b o h => hb.cell (p := ⟨b, o, none⟩) h, fun b o h => hb.frozen (p := ⟨b, o, none⟩) h⟩
theorem kept_cell {B : Nat} {w w' : World} {p : Addr} {v : Value} (h : Below B w w') (hv : w.cell? p = some v) (hp : p.block < B) : w'.cell? p = some v := (h.cell hp).trans hv
theorem kept_frozen {B b : Nat} {w w' : World} (h : Below B w w') (hv : ∀ o, w.frozen? ⟨b, o, none⟩ = false) (hp : b < B) : ∀ o, w'.frozen? ⟨b, o, none⟩ = false := fun o => (h.frozen (p := ⟨b, o, none⟩) hp).trans (hv o)
/-- What stands in a cell that is there: for a cell that is written, whose value nobody reads. -/
@[irreducible] def cellv (w : World) (b i : Nat) : Value := (w.cell? ⟨b, i, none⟩).getD undef
theorem some_of {w : World} {b i : Nat} {v : Value} (h : w.cell? ⟨b, i, none⟩ = some v) : w.cell? ⟨b, i, none⟩ = some (cellv w b i) := by unfold cellv; simp [h]
theorem some_kept {B b i : Nat} {w w' : World} {v : Value} (h : Below B w w') (hv : w.cell? ⟨b, i, none⟩ = some v) (hp : b < B) : w'.cell? ⟨b, i, none⟩ = some (cellv w' b i) := some_of (kept_cell h hv hp)
theorem some_set {w : World} {b i : Nat} {v u : Value} {a : Addr} (h : w.cell? ⟨b, i, none⟩ = some v) : (w.setCell a u).cell? ⟨b, i, none⟩ = some (cellv (w.setCell a u) b i) := by
  by_cases e : a = ⟨b, i, none⟩
  · subst e; exact some_of (World.cell?_setCell_same w _ _ h)
  · exact some_of ((World.cell?_setCell_other w _ _ _ e).trans h)
theorem set_far {w : World} {p a : Addr} {v u : Value} (h : w.cell? p = some v) (hne : p.block ≠ a.block) : (w.setCell a u).cell? p = some v := by
  rw [World.cell?_setCell_other w _ _ _ (fun e => hne (by rw [e]))]; exact h
theorem set_frozen {w : World} {b : Nat} {a : Addr} {u : Value} (h : ∀ o, w.frozen? ⟨b, o, none⟩ = false) : ∀ o, (w.setCell a u).frozen? ⟨b, o, none⟩ = false := fun o => by rw [World.frozen?_setCell]; exact h o
theorem drew_cell {w : World} {p : Addr} {v : Value} (h : w.cell? p = some v) : w.drew.cell? p = some v := h
theorem drew_frozen {w : World} {b : Nat} (h : ∀ o, w.frozen? ⟨b, o, none⟩ = false) : ∀ o, w.drew.frozen? ⟨b, o, none⟩ = false := h
theorem ret_int {k : IntKind} {a b : Int} (h : a = b) : Ending.returned (.int k a) = .returned (.int k b) := by rw [h]
theorem ret_bool {a b : Bool} (h : a = b) : Ending.returned (.bool a) = .returned (.bool b) := by rw [h]
theorem ret_val {a b : Value} (h : a = b) : Ending.returned a = .returned b := by rw [h]
theorem tup2 {a b c d : Value} (h : a = b) (h' : c = d) : Ending.returned (.tuple #[a, c]) = .returned (.tuple #[b, d]) := by rw [h, h']
theorem tup3 {a b c d e f : Value} (h : a = b) (h' : c = d) (h'' : e = f) : Ending.returned (.tuple #[a, c, e]) = .returned (.tuple #[b, d, f]) := by rw [h, h', h'']
theorem vint {k : IntKind} {a b : Int} (h : a = b) : Value.int k a = .int k b := by rw [h]
theorem vbool {a b : Bool} (h : a = b) : Value.bool a = .bool b := by rw [h]
theorem there_set {w : World} {a p : Addr} {u x : Value} (h : (w.setCell a u).cell? p = some x) : ∃ y, w.cell? p = some y := by
  by_cases e : a = p
  · subst e
    simp only [World.setCell, World.cell?, Array.getElem?_modify, ↓reduceIte] at h ⊢
    cases hb : w.heap[a.block]? with
    | none => simp [hb] at h
    | some o =>
      cases o <;> simp [hb] at h ⊢
      obtain ⟨h1, h2⟩ := h
      simp [h1] at h2
      have hs := (Array.getElem?_eq_some_iff.1 h2).1
      rw [Array.size_setIfInBounds] at hs
      exact ⟨h1, _, Array.getElem?_eq_getElem hs⟩
  · rw [World.cell?_setCell_other w _ _ _ e] at h; exact ⟨x, h⟩
theorem set_same {w : World} {a : Addr} {u x : Value} (h : (w.setCell a u).cell? a = some x) : (w.setCell a u).cell? a = some u := by
  obtain ⟨y, hy⟩ := there_set h
  exact World.cell?_setCell_same w _ _ hy
section
variable {w : World} {b : Nat} {v0 v1 v2 v3 : Value}
/-- the four cells of a result, read behind the store of it, where before it they were there -/
theorem cellv4_0 (h : ((((w.setCell ⟨b, 0, none⟩ v0).setCell ⟨b, 1, none⟩ v1).setCell ⟨b, 2, none⟩ v2).setCell ⟨b, 3, none⟩ v3).cell? ⟨b, 0, none⟩ = some (cellv ((((w.setCell ⟨b, 0, none⟩ v0).setCell ⟨b, 1, none⟩ v1).setCell ⟨b, 2, none⟩ v2).setCell ⟨b, 3, none⟩ v3) b 0)) :
    cellv ((((w.setCell ⟨b, 0, none⟩ v0).setCell ⟨b, 1, none⟩ v1).setCell ⟨b, 2, none⟩ v2).setCell ⟨b, 3, none⟩ v3) b 0 = v0 := by
  rw [World.cell?_setCell_other _ _ _ _ (by simp), World.cell?_setCell_other _ _ _ _ (by simp), World.cell?_setCell_other _ _ _ _ (by simp)] at h
  exact (Option.some.inj ((set_same h).symm.trans h)).symm
theorem cellv4_1 (h : ((((w.setCell ⟨b, 0, none⟩ v0).setCell ⟨b, 1, none⟩ v1).setCell ⟨b, 2, none⟩ v2).setCell ⟨b, 3, none⟩ v3).cell? ⟨b, 1, none⟩ = some (cellv ((((w.setCell ⟨b, 0, none⟩ v0).setCell ⟨b, 1, none⟩ v1).setCell ⟨b, 2, none⟩ v2).setCell ⟨b, 3, none⟩ v3) b 1)) :
    cellv ((((w.setCell ⟨b, 0, none⟩ v0).setCell ⟨b, 1, none⟩ v1).setCell ⟨b, 2, none⟩ v2).setCell ⟨b, 3, none⟩ v3) b 1 = v1 := by
  rw [World.cell?_setCell_other _ _ _ _ (by simp), World.cell?_setCell_other _ _ _ _ (by simp)] at h
  exact (Option.some.inj ((set_same h).symm.trans h)).symm
theorem cellv4_2 (h : ((((w.setCell ⟨b, 0, none⟩ v0).setCell ⟨b, 1, none⟩ v1).setCell ⟨b, 2, none⟩ v2).setCell ⟨b, 3, none⟩ v3).cell? ⟨b, 2, none⟩ = some (cellv ((((w.setCell ⟨b, 0, none⟩ v0).setCell ⟨b, 1, none⟩ v1).setCell ⟨b, 2, none⟩ v2).setCell ⟨b, 3, none⟩ v3) b 2)) :
    cellv ((((w.setCell ⟨b, 0, none⟩ v0).setCell ⟨b, 1, none⟩ v1).setCell ⟨b, 2, none⟩ v2).setCell ⟨b, 3, none⟩ v3) b 2 = v2 := by
  rw [World.cell?_setCell_other _ _ _ _ (by simp)] at h
  exact (Option.some.inj ((set_same h).symm.trans h)).symm
theorem cellv4_3 (h : ((((w.setCell ⟨b, 0, none⟩ v0).setCell ⟨b, 1, none⟩ v1).setCell ⟨b, 2, none⟩ v2).setCell ⟨b, 3, none⟩ v3).cell? ⟨b, 3, none⟩ = some (cellv ((((w.setCell ⟨b, 0, none⟩ v0).setCell ⟨b, 1, none⟩ v1).setCell ⟨b, 2, none⟩ v2).setCell ⟨b, 3, none⟩ v3) b 3)) :
    cellv ((((w.setCell ⟨b, 0, none⟩ v0).setCell ⟨b, 1, none⟩ v1).setCell ⟨b, 2, none⟩ v2).setCell ⟨b, 3, none⟩ v3) b 3 = v3 :=
  (Option.some.inj ((set_same h).symm.trans h)).symm
end
/-- a field of a result that is zero beside an error -/
def z0 (c x : Int) : Int := if c = 0 then x else 0
theorem z0_zero (x : Int) : z0 0 x = x := by simp [z0]
theorem z0_three (x : Int) : z0 3 x = 0 := by simp [z0]
theorem z0_ok {c x : Int} (h : c = 0) : z0 c x = x := by simp [z0, h]
theorem z0_no {c x : Int} (h : c ≠ 0) : z0 c x = 0 := by simp [z0, h]
end Go.Proofs.Ytdnmjeapihjabaa
namespace Go.Proofs.Ytdnmjeapihjabaa
open Go.RowKit
set_option linter.unusedSimpArgs false
set_option linter.unusedVariables false
set_option maxRecDepth 100000
theorem wraps_u64 (n : Int) (h₀ : 0 ≤ n) (h₁ : n < 2 ^ 64) : IntKind.u64.wrap n = n := by rw [IntKind.wrap_u64]; omega
theorem wraps_i64 (n : Int) (h₀ : 0 ≤ n) (h₁ : n < 2 ^ 63) : IntKind.i64.wrap n = n := by rw [IntKind.wrap_i64]; omega
theorem or_u64 (i : Nat) (x y : Int) (h0 : 0 ≤ x) (hx : x % 2 ^ i = 0) (h1 : x < 18446744073709551616) (h2 : 0 ≤ y) (h3 : y < 2 ^ i) (h4 : y < 18446744073709551616) : bits .or .u64 x y = x + y :=
  bits_join .u64 64 (by decide) wraps_u64 i x y h0 hx h1 h2 h3 h4
theorem or_u64_1 (x y : Int) (h0 : 0 ≤ x) (hx : x % 2 = 0) (h1 : x < 18446744073709551616) (h2 : 0 ≤ y) (h3 : y < 2) : bits .or .u64 x y = x + y :=
  or_u64 1 x y h0 (by simpa using hx) h1 h2 (by simpa using h3) (by omega)
theorem or_u64_8 (x y : Int) (h0 : 0 ≤ x) (hx : x % 256 = 0) (h1 : x < 18446744073709551616) (h2 : 0 ≤ y) (h3 : y < 256) : bits .or .u64 x y = x + y :=
  or_u64 8 x y h0 (by simpa using hx) h1 h2 (by simpa using h3) (by omega)
theorem i64_mask32 (n : Int) : bits .and .i64 n 4294967295 = n % 4294967296 := by
  have hm : (BitVec.ofInt 64 4294967295).toNat = 2 ^ 32 - 1 := by decide
  have key : (BitVec.ofInt 64 n &&& BitVec.ofInt 64 4294967295).toNat = (n % ((2 ^ 64 : Nat) : Int)).toNat % 2 ^ 32 := by
    rw [BitVec.toNat_and, BitVec.toNat_ofInt, hm, Nat.and_two_pow_sub_one_eq_mod]
  show IntKind.i64.wrap ((BitVec.ofInt 64 n &&& BitVec.ofInt 64 4294967295).toNat : Nat) = n % 4294967296
  rw [key, IntKind.wrap_i64]
  omega
theorem u64_mask32 (n : Int) (h0 : 0 ≤ n) (h1 : n < 18446744073709551616) : bits .and .u64 n 4294967295 = n % 4294967296 :=
  bits_mask .u64 64 (by decide) wraps_u64 32 (by decide) n h0 h1
theorem i64_or32 (x y : Int) (hx : x % 4294967296 = 0) (h0 : -9223372036854775808 ≤ x) (h1 : x < 9223372036854775808) (h2 : 0 ≤ y) (h3 : y < 4294967296) : bits .or .i64 x y = x + y := by
  have kx : (BitVec.ofInt 64 x).toNat = 2 ^ 32 * ((x % 18446744073709551616).toNat / 2 ^ 32) := by rw [BitVec.toNat_ofInt]; omega
  have ky : (BitVec.ofInt 64 y).toNat = y.toNat := by rw [BitVec.toNat_ofInt]; omega
  have key : (BitVec.ofInt 64 x ||| BitVec.ofInt 64 y).toNat = 2 ^ 32 * ((x % 18446744073709551616).toNat / 2 ^ 32) + y.toNat := by
    rw [BitVec.toNat_or, kx, ky, ← Nat.two_pow_add_eq_or_of_lt (by omega)]
  show IntKind.i64.wrap ((BitVec.ofInt 64 x ||| BitVec.ofInt 64 y).toNat : Nat) = x + y
  rw [key, IntKind.wrap_i64]
  omega
theorem or_u64_32 (x y : Int) (h0 : 0 ≤ x) (hx : x % 4294967296 = 0) (h1 : x < 18446744073709551616) (h2 : 0 ≤ y) (h3 : y < 4294967296) : bits .or .u64 x y = x + y :=
  or_u64 32 x y h0 (by simpa using hx) h1 h2 (by simpa using h3) (by omega)
theorem or_u64_4 (x y : Int) (h0 : 0 ≤ x) (hx : x % 16 = 0) (h1 : x < 18446744073709551616) (h2 : 0 ≤ y) (h3 : y < 16) : bits .or .u64 x y = x + y :=
  or_u64 4 x y h0 (by simpa using hx) h1 h2 (by simpa using h3) (by omega)
theorem u64_mask4 (n : Int) (h0 : 0 ≤ n) (h1 : n < 18446744073709551616) : bits .and .u64 n 15 = n % 16 :=
  bits_mask .u64 64 (by decide) wraps_u64 4 (by decide) n h0 h1
/-- Go's quotient and remainder (towards zero) by a number above 0, for linear arithmetic -/
theorem tdm (t c : Int) (hc : 0 < c) : t = c * t.tdiv c + t.tmod c ∧ (0 ≤ t → 0 ≤ t.tmod c) ∧ (t ≤ 0 → t.tmod c ≤ 0) ∧ t.tmod c < c ∧ -c < t.tmod c := by
  refine ⟨(Int.mul_tdiv_add_tmod t c).symm, fun h => Int.tmod_nonneg c h, fun h => ?_, Int.tmod_lt_of_pos t hc, ?_⟩
  · have := Int.tmod_nonneg (a := -t) c (by omega)
    rw [Int.neg_tmod] at this; omega
  · have := Int.tmod_lt_of_pos (-t) hc
    rw [Int.neg_tmod] at this; omega
end Go.Proofs.Ytdnmjeapihjabaa
namespace Go.Proofs.Ytdnmjeapihjabaa
open Go.RowKit
set_option linter.unusedSimpArgs false
set_option linter.unusedVariables false
set_option maxRecDepth 100000
/-- the two numbers that stamp divides by -/
def Secs (b : Int) : Prop := b = 1000000000 ∨ b = 4294967296000000000
set_option maxHeartbeats 400000 in
theorem divide_any (a b : Int) (w : World) (h1 : -9223372036854775808 ≤ a) (h2 : a ≤ 9223372036854775807) (hb : Secs b) :
    Calls Try.prog 59 #[.int .i64 a, .int .i64 b] w fun e w' => e = .returned (.tuple #[.int .i64 (a.tdiv b), .int .i64 (a.tmod b), .bool true]) ∧ Below w.heap.size w w' := by
  have hd := tdm a b (by rcases hb with rfl | rfl <;> decide)
  have hw : a ≠ -9223372036854775808 → IntKind.i64.wrap (a.tdiv b) = a.tdiv b := fun ha => by
    rw [IntKind.wrap_i64]
    rcases hb with rfl | rfl <;> (obtain ⟨d1, d2, d3, d4, d5⟩ := hd; omega)
  by_cases ha : a = -9223372036854775808
  · subst ha
    clear hd hw
    rcases hb with rfl | rfl
    all_goals
      go_enter Try.func59, Try.ntmps59
      go_wp2
      go_region_held3 (fun w' => Below w.heap.size w w') ((repeat (first | assumption | exact Below.refl _ _ | refine Below.drew ?_ | refine below_drewN ?_ _ | refine Below.setCell ?_ (by first | omega | (simp; done) | (simp <;> omega)) _ | refine Below.alloc ?_ (by first | omega | (simp; done) | (simp <;> omega)) _ | refine Below.trans ?_ (Below.mono (by assumption) (by first | omega | (simp; done) | (simp <;> omega)))))) (fail)
      go_wp2
      go_ret3
      exact ⟨tup3 (vint (by decide)) (vint (by decide)) rfl, by assumption⟩
  · have ha' : (a == -9223372036854775808) = false := by simpa using ha
    rcases hb with rfl | rfl
    all_goals
      obtain ⟨d1, d2, d3, d4, d5⟩ := hd
      have hw := hw ha
      clear d1 ha
      go_enter Try.func59, Try.ntmps59
      go_wp2
      go_region_held3 (fun w' => Below w.heap.size w w') ((repeat (first | assumption | exact Below.refl _ _ | refine Below.drew ?_ | refine below_drewN ?_ _ | refine Below.setCell ?_ (by first | omega | (simp; done) | (simp <;> omega)) _ | refine Below.alloc ?_ (by first | omega | (simp; done) | (simp <;> omega)) _ | refine Below.trans ?_ (Below.mono (by assumption) (by first | omega | (simp; done) | (simp <;> omega)))))) (fail)
      go_wp2
      go_ret3
      exact ⟨rfl, by assumption⟩
set_option maxHeartbeats 400000 in
theorem floor_any (a b : Int) (w : World) (h1 : -9223372036854775808 ≤ a) (h2 : a ≤ 9223372036854775807) (hb : Secs b) :
    Calls Try.prog 40 #[.int .i64 a, .int .i64 b] w fun e w' => e = .returned (.tuple #[.int .i64 (a / b), .bool true]) ∧ Below w.heap.size w w' := by
  have hd := tdm a b (by rcases hb with rfl | rfl <;> decide)
  have hc := divide_any a b w h1 h2 hb
  rcases hb with rfl | rfl
  all_goals
    obtain ⟨d1, d2, d3, d4, d5⟩ := hd
    have D1 := Lib.hid d1
    clear d1
    go_enter Try.func40, Try.ntmps40
    go_wp2_with (first | (go_at_call 59; ((with_reducible refine hc.mono ?_); rintro e w1 ⟨rfl, hb⟩)))
  all_goals
    have d1 := D1.out
    go_ret2
    refine ⟨tup2 (vint ?_) rfl, hb⟩
    try unfold wrap64
    first | omega | (simp at *; omega)
def spQ (t : Int) : Int := t / 1000000000
def spR (t : Int) : Int := t % 1000000000
/-- the units of the nanoseconds of t -/
def spF (t : Int) : Int := t % 1000000000 * 4294967296 / 1000000000
theorem spF_rng (t : Int) : 0 ≤ spF t ∧ spF t ≤ 4294967295 := by unfold spF; omega
theorem spR_rng (t : Int) : 0 ≤ spR t ∧ spR t ≤ 999999999 := by unfold spR; omega
theorem spQ_rng {t : Int} (h1 : -9223372036854775808 ≤ t) (h2 : t ≤ 9223372036854775807) : -9223372037 ≤ spQ t ∧ spQ t ≤ 9223372036 := by unfold spQ; omega
theorem spQR (t : Int) : t = spQ t * 1000000000 + spR t := by unfold spQ spR; omega
theorem spFR (t : Int) : spR t * 4294967296 / 1000000000 = spF t := rfl
theorem tdiv_pos {a b : Int} (h : 0 ≤ a) : a.tdiv b = a / b := Int.tdiv_eq_ediv_of_nonneg h
set_option maxHeartbeats 400000 in
theorem split_any (t : Int) (w : World) (h1 : -9223372036854775808 ≤ t) (h2 : t ≤ 9223372036854775807) :
    Calls Try.prog 24 #[.int .i64 t] w fun e w' => e = .returned (.tuple #[.int .i64 (spQ t), .int .i64 (spF t)]) ∧ Below w.heap.size w w' := by
  have hc := floor_any t 1000000000 w h1 h2 (.inl rfl)
  go_enter Try.func24, Try.ntmps24
  go_wp2_with (first | (go_at_call 40; ((with_reducible refine hc.mono ?_); rintro e w1 ⟨rfl, hb⟩)))
  go_ret2
  refine ⟨tup2 (vint ?_) (vint ?_), hb⟩
  · unfold spQ; first | rfl | omega
  · have a2 : wrap64 (t - wrap64 (t / 1000000000 * 1000000000)) = t % 1000000000 := by unfold wrap64; omega
    have a3 : wrap64 (t % 1000000000 * 4294967296) = t % 1000000000 * 4294967296 := by unfold wrap64; omega
    rw [a2, a3, tdiv_pos (by omega)]
    unfold spF wrap64; omega
/-- the timestamp of an instant -/
def ofN (t : Int) : Int := (spQ t * 4294967296 + spF t) % 18446744073709551616
theorem ofN_rng (t : Int) : 0 ≤ ofN t ∧ ofN t < 18446744073709551616 := by unfold ofN; omega
def eraN (t : Int) : Int := t / 4294967296000000000
def diffN (a b : Int) : Int := wrap64 (a - b)
theorem diffN_rng (a b : Int) : -9223372036854775808 ≤ diffN a b ∧ diffN a b ≤ 9223372036854775807 := by unfold diffN wrap64; omega
/-- units below a second in nanoseconds, rounded up -/
def nanoN (f : Int) : Int := (f * 1000000000 + 4294967295) / 4294967296
theorem nanoN_rng {f : Int} (h0 : 0 ≤ f) (h1 : f ≤ 4294967295) : 0 ≤ nanoN f ∧ nanoN f ≤ 1000000000 := by unfold nanoN; omega
def nanosN (u : Int) : Int := u / 4294967296 * 1000000000 + nanoN (u % 4294967296)
set_option maxHeartbeats 400000 in
theorem of_any (t : Int) (w : World) (h1 : -9223372036854775808 ≤ t) (h2 : t ≤ 9223372036854775807) :
    Calls Try.prog 8 #[.int .i64 t] w fun e w' => e = .returned (.int .u64 (ofN t)) ∧ Below w.heap.size w w' := by
  have hc := split_any t w h1 h2
  have hf := spF_rng t
  have hw : IntKind.u64.wrap (spF t) = spF t := by rw [IntKind.wrap_u64]; omega
  have ho : bits .or .u64 (IntKind.u64.wrap (IntKind.u64.wrap (spQ t) * 4294967296)) (spF t) = ofN t := by
    rw [or_u64_32 _ _ (by rw [IntKind.wrap_u64]; omega) (by rw [IntKind.wrap_u64, IntKind.wrap_u64]; omega) (by rw [IntKind.wrap_u64]; omega) hf.1 (by omega), IntKind.wrap_u64, IntKind.wrap_u64]
    unfold ofN; omega
  go_enter Try.func8, Try.ntmps8
  go_wp2_with (first | (go_at_call 24; ((with_reducible refine hc.mono ?_); rintro e w1 ⟨rfl, hb⟩)))
  go_ret
  exact ⟨rfl, hb⟩
set_option maxHeartbeats 400000 in
theorem diff_any (a b : Int) (w : World) : Calls Try.prog 73 #[.int .u64 a, .int .u64 b] w fun e w' => e = .returned (.int .i64 (diffN a b)) ∧ w = w' := by
  go_enter Try.func73, Try.ntmps73
  go_wp2
  go_ret
  refine ⟨ret_int ?_, rfl⟩
  rw [IntKind.wrap_u64]; unfold diffN wrap64; omega
set_option maxHeartbeats 400000 in
theorem nano_any (f : Int) (w : World) (h0 : 0 ≤ f) (h1 : f ≤ 4294967295) : Calls Try.prog 76 #[.int .i64 f] w fun e w' => e = .returned (.int .i64 (nanoN f)) ∧ w = w' := by
  go_enter Try.func76, Try.ntmps76
  go_wp2
  go_ret
  refine ⟨ret_int ?_, rfl⟩
  first | rfl | (unfold nanoN; omega)
/-- a product as a 128-bit number: its low half, where the high half is 0 -/
theorem mul64_lo (a b : Int) (w : World) (h0 : 0 ≤ a) (h1 : a ≤ 11000000000) (hb : b = 1000000000) :
    Calls Try.prog 67 #[.int .u64 a, .int .u64 b] w fun e w' => e = .returned (.tuple #[.int .u64 0, .int .u64 (a * 1000000000)]) ∧ w = w' := by
  subst hb
  have m1 : bits .and .u64 a 4294967295 = a % 4294967296 := u64_mask32 a h0 (by omega)
  have m2 : bits .and .u64 1000000000 4294967295 = 1000000000 := by decide
  have m3 : bits .and .u64 (a / 4294967296 * 1000000000 + a % 4294967296 * 1000000000 / 4294967296) 4294967295 = (a / 4294967296 * 1000000000 + a % 4294967296 * 1000000000 / 4294967296) % 4294967296 := u64_mask32 _ (by omega) (by omega)
  go_enter Try.func67, Try.ntmps67
  go_wp2
  go_ret2
  refine ⟨tup2 (vint ?_) rfl, rfl⟩
  omega
def sizeN (n : Int) : Int := if n < 0 then -n else n
set_option maxHeartbeats 400000 in
theorem size_any (n : Int) (w : World) (h1 : -9223372036854775808 ≤ n) (h2 : n ≤ 9223372036854775807) :
    Calls Try.prog 68 #[.int .i64 n] w fun e w' => e = .returned (.int .u64 (sizeN n)) ∧ w = w' := by
  have HD : Hid (sizeN n = if n < 0 then -n else n) := rfl
  go_enter Try.func68, Try.ntmps68
  go_wp2
  all_goals
    go_ret
    refine ⟨ret_int ?_, rfl⟩
    rw [HD.out]
    first | (rw [IntKind.wrap_u64, IntKind.wrap_u64]; split <;> omega) | (rw [IntKind.wrap_u64]; split <;> omega) | (split <;> omega)
def sgnOk (m : Int) (neg : Bool) : Bool := if neg then decide (m ≤ 9223372036854775808) else decide (m ≤ 9223372036854775807)
def sgnV (m : Int) (neg : Bool) : Int := if sgnOk m neg then (if neg then -m else m) else 0
set_option maxHeartbeats 400000 in
theorem signed_any (m : Int) (neg : Bool) (w : World) (h1 : 0 ≤ m) (h2 : m ≤ 18446744073709551615) :
    Calls Try.prog 70 #[.int .u64 m, .bool neg] w fun e w' => e = .returned (.tuple #[.int .i64 (sgnV m neg), .bool (sgnOk m neg)]) ∧ w = w' := by
  have HV : Hid (sgnV m neg = if sgnOk m neg then (if neg then -m else m) else 0) := rfl
  have HO : Hid (sgnOk m neg = if neg then decide (m ≤ 9223372036854775808) else decide (m ≤ 9223372036854775807)) := rfl
  cases neg
  all_goals
    go_enter Try.func70, Try.ntmps70
    go_wp2
  all_goals
    go_ret2
    refine ⟨tup2 (vint ?_) (vbool ?_), rfl⟩
    · unfold sgnV sgnOk
      simp only [if_true, Bool.false_eq_true, if_false, decide_eq_true_eq]
      split <;> first | omega | (rw [IntKind.wrap_u64]; unfold wrap64; omega) | (unfold wrap64; omega)
    · unfold sgnOk
      simp only [if_true, Bool.false_eq_true, if_false]
      symm
      first | (apply decide_eq_true; omega) | (apply decide_eq_false; omega)
/-- whether a number is an int -/
def inI (n : Int) : Bool := decide (-9223372036854775808 ≤ n ∧ n ≤ 9223372036854775807)
def orI (n : Int) : Int := if inI n then n else 0
theorem sgn_mul (a : Int) : sgnV (sizeN a * 1000000000) (decide (a < 0)) = orI (a * 1000000000) ∧ sgnOk (sizeN a * 1000000000) (decide (a < 0)) = inI (a * 1000000000) := by
  have hO : sgnOk (sizeN a * 1000000000) (decide (a < 0)) = inI (a * 1000000000) := by
    unfold sgnOk inI sizeN
    by_cases h : a < 0
    · simp only [h, decide_true, if_true]; congr 1; apply propext; constructor <;> omega
    · simp only [h, decide_false, if_false, Bool.false_eq_true]; congr 1; apply propext; constructor <;> omega
  refine ⟨?_, hO⟩
  unfold sgnV orI
  rw [hO]
  unfold sizeN
  by_cases h : a < 0
  · simp only [h, decide_true, if_true]; split <;> omega
  · simp only [h, decide_false, if_false, Bool.false_eq_true]
set_option maxHeartbeats 400000 in
theorem mul_any (a : Int) (w : World) (h1 : -11000000000 ≤ a) (h2 : a ≤ 11000000000) :
    Calls Try.prog 74 #[.int .i64 a, .int .i64 1000000000] w fun e w' => e = .returned (.tuple #[.int .i64 (orI (a * 1000000000)), .bool (inI (a * 1000000000))]) ∧ w = w' := by
  have hs : 0 ≤ sizeN a ∧ sizeN a ≤ 11000000000 := by unfold sizeN; split <;> omega
  have h9 : sizeN 1000000000 = 1000000000 := rfl
  have hc1 := fun W => size_any a W (by omega) (by omega)
  have hc2 := fun W => size_any 1000000000 W (by omega) (by omega)
  rw [h9] at hc2
  have hc3 := fun W => mul64_lo (sizeN a) 1000000000 W hs.1 hs.2 rfl
  have hc4 := fun W => signed_any (sizeN a * 1000000000) (decide (a < 0)) W (by omega) (by omega)
  rw [(sgn_mul a).1, (sgn_mul a).2] at hc4
  have hd : (decide (a < 0) != false) = decide (a < 0) := by simp
  go_enter Try.func74, Try.ntmps74
  go_wp2_with (first | (go_at_call 68; ((with_reducible refine (hc1 _).mono ?_); rintro e w1 ⟨rfl, rfl⟩)) | (go_at_call 68; ((with_reducible refine (hc2 _).mono ?_); rintro e w1 ⟨rfl, rfl⟩)) | (go_at_call 67; ((with_reducible refine (hc3 _).mono ?_); rintro e w1 ⟨rfl, rfl⟩)) | (go_at_call 70; ((with_reducible refine (hc4 _).mono ?_); rintro e w1 ⟨rfl, rfl⟩)))
  go_ret2
  exact ⟨rfl, rfl⟩
set_option maxHeartbeats 400000 in
theorem add_any (a b : Int) (w : World) (h1 : -9223372036854775808 ≤ a) (h2 : a ≤ 9223372036854775807) (h3 : 0 ≤ b) (h4 : b ≤ 1000000000) :
    Calls Try.prog 75 #[.int .i64 a, .int .i64 b] w fun e w' => e = .returned (.tuple #[.int .i64 (orI (a + b)), .bool (inI (a + b))]) ∧ w = w' := by
  by_cases hi : a + b ≤ 9223372036854775807
  · have HO : Hid (inI (a + b) = true) := decide_eq_true (by omega)
    have HV : Hid (orI (a + b) = a + b) := by show orI (a + b) = _; unfold orI; rw [HO.out]; rfl
    have db : decide (b < 0) = false := decide_eq_false (by omega)
    by_cases ha : a < 0
    · have da : decide (a < 0) = true := decide_eq_true ha
      go_enter Try.func75, Try.ntmps75
      go_wp2
      all_goals
        go_ret2
        refine ⟨tup2 (vint ?_) (vbool ?_), rfl⟩
        · rw [HV.out]
        · rw [HO.out]
    · have da : decide (a < 0) = false := decide_eq_false ha
      have ds : decide (a + b < 0) = false := decide_eq_false (by omega)
      go_enter Try.func75, Try.ntmps75
      go_wp2
      all_goals
        go_ret2
        refine ⟨tup2 (vint ?_) (vbool ?_), rfl⟩
        · rw [HV.out]
        · rw [HO.out]
  · have HO : Hid (inI (a + b) = false) := decide_eq_false (by omega)
    have HV : Hid (orI (a + b) = 0) := by show orI (a + b) = _; unfold orI; rw [HO.out]; rfl
    have hw : wrap64 (a + b) = a + b - 18446744073709551616 := by unfold wrap64; omega
    have db : decide (b < 0) = false := decide_eq_false (by omega)
    have da : decide (a < 0) = false := decide_eq_false (by omega)
    have ds : decide (a + b - 18446744073709551616 < 0) = true := decide_eq_true (by omega)
    go_enter Try.func75, Try.ntmps75
    go_wp2
    go_ret2
    refine ⟨tup2 (vint ?_) (vbool ?_), rfl⟩
    · rw [HV.out]
    · rw [HO.out]
/-- the instant of a timestamp near a pivot: the units of the pivot and the difference, added -/
def tmLow (s p : Int) : Int := spF p + diffN s (ofN p) % 4294967296
def tmHi (s p : Int) : Int := spQ p + (diffN s (ofN p) / 4294967296 + tmLow s p / 4294967296)
def tmV (s p : Int) : Int := tmHi s p * 1000000000 + nanoN (tmLow s p % 4294967296)
def maxT (t : Int) : Prop := -8000000000000000000 ≤ t ∧ t ≤ 8000000000000000000
instance (t : Int) : Decidable (maxT t) := by unfold maxT; infer_instance
def tmE (s p : Int) : Int := if maxT p then (if maxT (tmV s p) then 0 else 3) else 2
theorem tmLow_rng (s p : Int) : 0 ≤ tmLow s p ∧ tmLow s p ≤ 8589934590 := by have := spF_rng p; unfold tmLow; omega
theorem tmHi_rng {s p : Int} (h : maxT p) : -10147483648 ≤ tmHi s p ∧ tmHi s p ≤ 10147483648 := by
  have h1 := tmLow_rng s p
  have h2 := diffN_rng s (ofN p)
  unfold maxT at h
  have h3 : -8000000000 ≤ spQ p ∧ spQ p ≤ 8000000000 := by unfold spQ; omega
  unfold tmHi
  omega
set_option maxHeartbeats 4000000 in
theorem time_any (s p : Int) (w : World) (h1 : -9223372036854775808 ≤ p) (h2 : p ≤ 9223372036854775807) :
    Calls Try.prog 66 #[.int .u64 s, .int .i64 p] w fun e w' => e = .returned (.tuple #[.int .i64 (z0 (tmE s p) (tmV s p)), .int .i64 (tmE s p)]) ∧ Below w.heap.size w w' := by
  by_cases hp : maxT p
  · have hp1 := hp.1
    have hp2 := hp.2
    have hc1 := split_any p w h1 h2
    have hc2 := fun W => of_any p W h1 h2
    have hl := tmLow_rng s p
    have hh := tmHi_rng (s := s) hp
    have hd := diffN_rng s (ofN p)
    have hm := i64_mask32 (diffN s (ofN p))
    have hm2 := i64_mask32 (tmLow s p)
    have eL : spF p + diffN s (ofN p) % 4294967296 = tmLow s p := rfl
    have hw1 : wrap64 (spF p + diffN s (ofN p) % 4294967296) = tmLow s p := by rw [eL]; unfold wrap64; omega
    have hw2 : wrap64 (spQ p + wrap64 (diffN s (ofN p) / 4294967296 + tmLow s p / 4294967296)) = tmHi s p := by
      have e : tmHi s p = spQ p + (diffN s (ofN p) / 4294967296 + tmLow s p / 4294967296) := rfl
      rw [e] at hh ⊢
      unfold wrap64; omega
    have hn := nanoN_rng (f := tmLow s p % 4294967296) (by omega) (by omega)
    have hw3 : wrap64 (spQ p + (diffN s (ofN p) / 4294967296 + tmLow s p / 4294967296)) = tmHi s p := by
      have e : tmHi s p = spQ p + (diffN s (ofN p) / 4294967296 + tmLow s p / 4294967296) := rfl
      rw [e] at hh ⊢
      unfold wrap64; omega
    have hc5 := fun W => nano_any (tmLow s p % 4294967296) W (by omega) (by omega)
    have eV : tmV s p = tmHi s p * 1000000000 + nanoN (tmLow s p % 4294967296) := rfl
    by_cases hM : -9223372036854775808 ≤ tmHi s p * 1000000000 ∧ tmHi s p * 1000000000 ≤ 9223372036854775807
    · have hMi : inI (tmHi s p * 1000000000) = true := decide_eq_true hM
      have hMv : orI (tmHi s p * 1000000000) = tmHi s p * 1000000000 := by unfold orI; rw [hMi]; rfl
      have hc6 := fun W => add_any (tmHi s p * 1000000000) (nanoN (tmLow s p % 4294967296)) W hM.1 hM.2 hn.1 hn.2
      rw [← eV] at hc6
      by_cases hV : maxT (tmV s p)
      · have hVi : inI (tmV s p) = true := decide_eq_true (by unfold maxT at hV; omega)
        have hVv : orI (tmV s p) = tmV s p := by unfold orI; rw [hVi]; rfl
        have HE : Hid (tmE s p = 0) := by show tmE s p = 0; unfold tmE; rw [if_pos hp, if_pos hV]
        have HZ : Hid (z0 (tmE s p) (tmV s p) = tmV s p) := by show z0 _ _ = _; rw [HE.out]; rfl
        have hV1 := hV.1
        have hV2 := hV.2
        clear hM hV eV
        go_enter Try.func66, Try.ntmps66
        go_wp2_with (first | (go_at_call 24; ((with_reducible refine hc1.mono ?_); rintro e w1 ⟨rfl, hb1⟩)) | (go_at_call 8; ((with_reducible refine (hc2 _).mono ?_); rintro e w2 ⟨rfl, hb2⟩)) | (go_at_call 73; ((with_reducible refine (diff_any s (ofN p) _).mono ?_); rintro e w3 ⟨rfl, rfl⟩)) | (go_at_call 74; ((with_reducible refine (mul_any (tmHi s p) _ (by omega) (by omega)).mono ?_); rintro e w4 ⟨rfl, rfl⟩)) | (go_at_call 76; ((with_reducible refine (hc5 _).mono ?_); rintro e w5 ⟨rfl, rfl⟩)) | (go_at_call 75; ((with_reducible refine (hc6 _).mono ?_); rintro e w6 ⟨rfl, rfl⟩)))
        go_ret2
        exact ⟨tup2 (vint HZ.out.symm) (vint HE.out.symm), hb1.trans (hb2.mono hb1.size)⟩
      · have HE : Hid (tmE s p = 3) := by show tmE s p = 3; unfold tmE; rw [if_pos hp, if_neg hV]
        have HZ : Hid (z0 (tmE s p) (tmV s p) = 0) := by show z0 _ _ = _; rw [HE.out]; rfl
        by_cases hI : -9223372036854775808 ≤ tmV s p ∧ tmV s p ≤ 9223372036854775807
        · have hVi : inI (tmV s p) = true := decide_eq_true hI
          have hVv : orI (tmV s p) = tmV s p := by unfold orI; rw [hVi]; rfl
          unfold maxT at hV
          by_cases hlo : -8000000000000000000 ≤ tmV s p
          · have hhi : 8000000000000000000 < tmV s p := by omega
            clear hM hV eV hI
            go_enter Try.func66, Try.ntmps66
            go_wp2_with (first | (go_at_call 24; ((with_reducible refine hc1.mono ?_); rintro e w1 ⟨rfl, hb1⟩)) | (go_at_call 8; ((with_reducible refine (hc2 _).mono ?_); rintro e w2 ⟨rfl, hb2⟩)) | (go_at_call 73; ((with_reducible refine (diff_any s (ofN p) _).mono ?_); rintro e w3 ⟨rfl, rfl⟩)) | (go_at_call 74; ((with_reducible refine (mul_any (tmHi s p) _ (by omega) (by omega)).mono ?_); rintro e w4 ⟨rfl, rfl⟩)) | (go_at_call 76; ((with_reducible refine (hc5 _).mono ?_); rintro e w5 ⟨rfl, rfl⟩)) | (go_at_call 75; ((with_reducible refine (hc6 _).mono ?_); rintro e w6 ⟨rfl, rfl⟩)))
            go_ret2
            exact ⟨tup2 (vint HZ.out.symm) (vint HE.out.symm), hb1.trans (hb2.mono hb1.size)⟩
          · clear hM hV eV hI
            go_enter Try.func66, Try.ntmps66
            go_wp2_with (first | (go_at_call 24; ((with_reducible refine hc1.mono ?_); rintro e w1 ⟨rfl, hb1⟩)) | (go_at_call 8; ((with_reducible refine (hc2 _).mono ?_); rintro e w2 ⟨rfl, hb2⟩)) | (go_at_call 73; ((with_reducible refine (diff_any s (ofN p) _).mono ?_); rintro e w3 ⟨rfl, rfl⟩)) | (go_at_call 74; ((with_reducible refine (mul_any (tmHi s p) _ (by omega) (by omega)).mono ?_); rintro e w4 ⟨rfl, rfl⟩)) | (go_at_call 76; ((with_reducible refine (hc5 _).mono ?_); rintro e w5 ⟨rfl, rfl⟩)) | (go_at_call 75; ((with_reducible refine (hc6 _).mono ?_); rintro e w6 ⟨rfl, rfl⟩)))
            go_ret2
            exact ⟨tup2 (vint HZ.out.symm) (vint HE.out.symm), hb1.trans (hb2.mono hb1.size)⟩
        · have hVi : inI (tmV s p) = false := decide_eq_false hI
          clear hM hV eV hI
          go_enter Try.func66, Try.ntmps66
          go_wp2_with (first | (go_at_call 24; ((with_reducible refine hc1.mono ?_); rintro e w1 ⟨rfl, hb1⟩)) | (go_at_call 8; ((with_reducible refine (hc2 _).mono ?_); rintro e w2 ⟨rfl, hb2⟩)) | (go_at_call 73; ((with_reducible refine (diff_any s (ofN p) _).mono ?_); rintro e w3 ⟨rfl, rfl⟩)) | (go_at_call 74; ((with_reducible refine (mul_any (tmHi s p) _ (by omega) (by omega)).mono ?_); rintro e w4 ⟨rfl, rfl⟩)) | (go_at_call 76; ((with_reducible refine (hc5 _).mono ?_); rintro e w5 ⟨rfl, rfl⟩)) | (go_at_call 75; ((with_reducible refine (hc6 _).mono ?_); rintro e w6 ⟨rfl, rfl⟩)))
          go_ret2
          exact ⟨tup2 (vint HZ.out.symm) (vint HE.out.symm), hb1.trans (hb2.mono hb1.size)⟩
    · have hMi : inI (tmHi s p * 1000000000) = false := decide_eq_false hM
      have hV : ¬ maxT (tmV s p) := by unfold maxT; omega
      have HE : Hid (tmE s p = 3) := by show tmE s p = 3; unfold tmE; rw [if_pos hp, if_neg hV]
      have HZ : Hid (z0 (tmE s p) (tmV s p) = 0) := by show z0 _ _ = _; rw [HE.out]; rfl
      clear hM hV eV
      go_enter Try.func66, Try.ntmps66
      go_wp2_with (first | (go_at_call 24; ((with_reducible refine hc1.mono ?_); rintro e w1 ⟨rfl, hb1⟩)) | (go_at_call 8; ((with_reducible refine (hc2 _).mono ?_); rintro e w2 ⟨rfl, hb2⟩)) | (go_at_call 73; ((with_reducible refine (diff_any s (ofN p) _).mono ?_); rintro e w3 ⟨rfl, rfl⟩)) | (go_at_call 74; ((with_reducible refine (mul_any (tmHi s p) _ (by omega) (by omega)).mono ?_); rintro e w4 ⟨rfl, rfl⟩)) | (go_at_call 76; ((with_reducible refine (hc5 _).mono ?_); rintro e w5 ⟨rfl, rfl⟩)) | (go_at_call 75; ((with_reducible refine (hc6 _).mono ?_); rintro e w6 ⟨rfl, rfl⟩)))
      go_ret2
      exact ⟨tup2 (vint HZ.out.symm) (vint HE.out.symm), hb1.trans (hb2.mono hb1.size)⟩
  · have HE : Hid (tmE s p = 2) := by show tmE s p = 2; unfold tmE; rw [if_neg hp]
    have HZ : Hid (z0 (tmE s p) (tmV s p) = 0) := by show z0 _ _ = 0; rw [HE.out]; rfl
    unfold maxT at hp
    by_cases hp1 : -8000000000000000000 ≤ p
    · have hp2 : 8000000000000000000 < p := by omega
      clear hp
      go_enter Try.func66, Try.ntmps66
      go_wp2
      go_ret2
      exact ⟨tup2 (vint HZ.out.symm) (vint HE.out.symm), Below.refl _ _⟩
    · clear hp
      go_enter Try.func66, Try.ntmps66
      go_wp2
      go_ret2
      exact ⟨tup2 (vint HZ.out.symm) (vint HE.out.symm), Below.refl _ _⟩
end Go.Proofs.Ytdnmjeapihjabaa
namespace Go.Proofs.Ytdnmjeapihjabaa
open Go.RowKit
set_option linter.unusedSimpArgs false
set_option linter.unusedVariables false
set_option maxRecDepth 100000
end Go.Proofs.Ytdnmjeapihjabaa
namespace Go.Proofs.Ytdnmjeapihjabaa
open Go.RowKit
set_option linter.unusedSimpArgs false
set_option linter.unusedVariables false
set_option maxRecDepth 100000
/-- the element at k, 0 outside -/
def atB (l : List Int) (k : Nat) : Int := l.getD k 0
/-- all of a list's numbers are bytes -/
def Byt (l : List Int) : Prop := ∀ x ∈ l, 0 ≤ x ∧ x ≤ 255
/-- the slice address A (of as many elements as l has) reads as the bytes l, in a block from lo on and below hi -/
def Bs (w : World) (lo hi : Nat) (A : Option Addr) (l : List Int) : Prop :=
  Byt l ∧ (0 < l.length → ∃ b o, A = some ⟨b, o, none⟩ ∧ lo ≤ b ∧ b < hi ∧ ∀ k, k < l.length → w.cell? ⟨b, o + k, none⟩ = some (.int .u8 (atB l k)))
theorem getD_mem' {l : List Int} {k : Nat} (h : k < l.length) : atB l k ∈ l := by
  unfold atB; rw [List.getD_eq_getElem?_getD, List.getElem?_eq_getElem h]; exact List.getElem_mem h
theorem Byt.at {l : List Int} (h : Byt l) (k : Nat) : 0 ≤ atB l k ∧ atB l k ≤ 255 := by
  rcases Nat.lt_or_ge k l.length with hk | hk
  · exact h _ (getD_mem' hk)
  · unfold atB; rw [List.getD_eq_getElem?_getD, List.getElem?_eq_none hk]; simp
instance (l : List Int) : Decidable (Byt l) := by unfold Byt; infer_instance
theorem Byt.nil : Byt [] := fun x h => by simp at h
theorem Byt.app {l m : List Int} (h : Byt l) (h' : Byt m) : Byt (l ++ m) := fun x hx => by
  rcases List.mem_append.1 hx with hx | hx
  · exact h x hx
  · exact h' x hx
theorem Byt.cons {x : Int} {l : List Int} (h0 : 0 ≤ x) (h1 : x ≤ 255) (h : Byt l) : Byt (x :: l) := fun y hy => by
  rcases List.mem_cons.1 hy with rfl | hy
  · exact ⟨h0, h1⟩
  · exact h y hy
theorem Byt.drop {l : List Int} (h : Byt l) (k : Nat) : Byt (l.drop k) := fun x hx => h x (List.mem_of_mem_drop hx)
theorem Byt.take {l : List Int} (h : Byt l) (k : Nat) : Byt (l.take k) := fun x hx => h x (List.mem_of_mem_take hx)
theorem Byt.set {l : List Int} (h : Byt l) (k : Nat) {x : Int} (h0 : 0 ≤ x) (h1 : x ≤ 255) : Byt (l.set k x) := fun y hy => by
  rcases List.mem_or_eq_of_mem_set hy with hy | rfl
  · exact h y hy
  · exact ⟨h0, h1⟩
theorem Byt.zeros (n : Nat) : Byt (List.replicate n 0) := fun x hx => by
  obtain ⟨_, rfl⟩ := List.mem_replicate.1 hx; simp
section
variable {w w' : World} {lo hi lo' hi' : Nat} {A : Option Addr} {l m : List Int}
theorem Bs.byt (h : Bs w lo hi A l) : Byt l := h.1
theorem Bs.nil : Bs w lo hi A [] := ⟨Byt.nil, fun h => by simp at h⟩
theorem Bs.at (h : Bs w lo hi A l) (hl : 0 < l.length) : ∃ b o, A = some ⟨b, o, none⟩ ∧ lo ≤ b ∧ b < hi ∧ ∀ k, k < l.length → w.cell? ⟨b, o + k, none⟩ = some (.int .u8 (atB l k)) := h.2 hl
theorem Bs.keep (h : Bs w lo hi A l) (hk : ∀ b o, lo ≤ b → b < hi → w'.cell? ⟨b, o, none⟩ = w.cell? ⟨b, o, none⟩) : Bs w' lo hi A l :=
  ⟨h.1, fun hl => by
    obtain ⟨b, o, e, h1, h2, hc⟩ := h.2 hl
    exact ⟨b, o, e, h1, h2, fun k hk' => (hk _ _ h1 h2).trans (hc k hk')⟩⟩
theorem Bs.wide (h : Bs w lo hi A l) (h1 : lo' ≤ lo) (h2 : hi ≤ hi') : Bs w lo' hi' A l :=
  ⟨h.1, fun hl => by
    obtain ⟨b, o, e, h3, h4, hc⟩ := h.2 hl
    exact ⟨b, o, e, by omega, by omega, hc⟩⟩
theorem Bs.below {B : Nat} (h : Bs w lo hi A l) (hb : Below B w w') (h1 : hi ≤ B) : Bs w' lo hi A l := h.keep fun b o _ h2 => hb.cell (p := ⟨b, o, none⟩) (by show b < B; omega)
theorem Bs.grown {row : Option Nat} (h : Bs w lo hi A l) (hg : w.grownBy w' row) (hh : hi ≤ w.heap.size) (hr : ∀ g, row = some g → g < lo ∨ hi ≤ g) : Bs w' lo hi A l :=
  h.keep fun b o h1 h2 => World.cell?_of_block (hg.block b (by omega) (fun e => by have := hr _ e.symm; omega))
theorem Bs.drew (h : Bs w lo hi A l) : Bs w.drew lo hi A l := h
theorem Bs.drewN (h : Bs w lo hi A l) (k : Nat) : Bs (w.drewN k) lo hi A l := h
theorem Bs.alloc (h : Bs w lo hi A l) (hh : hi ≤ w.heap.size) (o : Obj) : Bs (w.alloc o) lo hi A l := h.keep fun b _ _ h2 => World.cell?_alloc_lt w o _ (by show b < _; omega)
theorem Bs.setCell (h : Bs w lo hi A l) {p : Addr} (hp : p.block < lo ∨ hi ≤ p.block) (u : Value) : Bs (w.setCell p u) lo hi A l :=
  h.keep fun b o h1 h2 => World.cell?_setCell_other w p _ u (fun e => by subst e; simp at hp; omega)
theorem ofAdd (b o i : Nat) : (Addr.add ⟨b, o, none⟩ i) = ⟨b, o + i, none⟩ := by
  unfold Addr.add; split
  · rename_i h; have : i = 0 := by simpa using h
    subst this; rfl
  · rfl
theorem Bs.drop (h : Bs w lo hi A l) {i c : Nat} (hc : l.length ≤ c) : Bs w lo hi (if c = i then A else A.map (·.add i)) (l.drop i) := by
  refine ⟨h.1.drop i, fun hl => ?_⟩
  rw [List.length_drop] at hl
  obtain ⟨b, o, rfl, h1, h2, hcell⟩ := h.2 (by omega)
  rw [if_neg (by omega)]
  refine ⟨b, o + i, by simp [ofAdd], h1, h2, fun k hk => ?_⟩
  rw [List.length_drop] at hk
  rw [Nat.add_assoc, hcell (i + k) (by omega)]
  simp [atB, List.getD_eq_getElem?_getD]
theorem Bs.take (h : Bs w lo hi A l) (i : Nat) : Bs w lo hi A (l.take i) := by
  refine ⟨h.1.take i, fun hl => ?_⟩
  rw [List.length_take] at hl
  obtain ⟨b, o, rfl, h1, h2, hcell⟩ := h.2 (by omega)
  refine ⟨b, o, rfl, h1, h2, fun k hk => ?_⟩
  rw [List.length_take] at hk
  rw [hcell k (by omega)]
  have : k < i := by omega
  simp [atB, List.getD_eq_getElem?_getD, List.getElem?_take, this]
theorem Bs.cut (h : Bs w lo hi A l) {i c : Nat} (hc : l.length ≤ c) (n : Nat) : Bs w lo hi (if c = i then A else A.map (·.add i)) ((l.drop i).take n) := (h.drop hc).take n
theorem Bs.dropm (h : Bs w lo hi A l) (i : Nat) : Bs w lo hi (A.map (·.add i)) (l.drop i) := by
  have := h.drop (i := i) (c := l.length + i + 1) (by omega)
  rwa [if_neg (by omega)] at this
theorem Bs.cutm (h : Bs w lo hi A l) (i n : Nat) : Bs w lo hi (A.map (·.add i)) ((l.drop i).take n) := (h.dropm i).take n
/-- the call's own row of bytes -/
def Ow (w : World) (lo : Nat) (A : Option Addr) (c : Nat) (l : List Int) : Prop := Byt l ∧ w.ownsRow lo 5 1 (.slice A l.length c) l.length (l.map (Value.int .u8))
theorem Ow.mk {v : Value} {n : Nat} {xs : List Value} (h : w.ownsRow lo 5 1 v n xs) (hx : xs = l.map (Value.int .u8)) (hb : Byt l) : ∃ A c, v = .slice A l.length c ∧ Ow w lo A c l ∧ (0 < l.length → l.length ≤ c) := by
  subst hx
  have hl : n = l.length := by have := h.1; simp at this; omega
  subst hl
  rcases h.2 with ⟨rfl, h0⟩ | ⟨g, cap, cur, rfl, hg, hr⟩
  · refine ⟨none, 0, by rw [h0], ⟨hb, by rw [h0] at h ⊢; exact h⟩, by omega⟩
  · exact ⟨_, _, rfl, ⟨hb, h⟩, fun _ => hr.2.1⟩
theorem Ow.cap_le {c : Nat} (h : Ow w lo A c l) : l.length ≤ c := by
  rcases h.2.2 with ⟨h', h0⟩ | ⟨g', cap', cur, h', _, hg, h1, _⟩
  · omega
  · simp only [Value.slice.injEq] at h'; omega
theorem Ow.nil (w : World) (lo : Nat) : Ow w lo none 0 [] := ⟨Byt.nil, World.ownsRow_nil _ _ _ _⟩
theorem Ow.cap_max {c : Nat} (h : Ow w lo A c l) : c ≤ 9223372036854775807 := by
  rcases h.2.2 with ⟨h', h0⟩ | ⟨g', cap', cur, h', _, hg, h1, h2, _⟩
  · simp only [Value.slice.injEq] at h'; omega
  · simp only [Value.slice.injEq] at h'; unfold maxLen at h2; omega
theorem Ow.form {c : Nat} (h : Ow w lo A c l) : (A = none ∧ l = [] ∧ c = 0) ∨ ∃ g, A = some ⟨g, 0, none⟩ ∧ lo ≤ g ∧ g < w.heap.size := by
  rcases h.2.2 with ⟨h', h0⟩ | ⟨g', cap', cur, h', hlo, hg, h1, _⟩
  · simp only [Value.slice.injEq] at h'
    exact .inl ⟨h'.1, List.eq_nil_of_length_eq_zero h0, h'.2.2⟩
  · simp only [Value.slice.injEq] at h'
    exact .inr ⟨g', h'.1, hlo, (Array.getElem?_eq_some_iff.1 hg).1⟩
theorem Ow.cell {g c k : Nat} (h : Ow w lo (some ⟨g, 0, none⟩) c l) (hk : k < l.length) : w.cell? ⟨g, k, none⟩ = some (.int .u8 (atB l k)) := by
  rw [h.2.cellAt k (by omega)]
  simp [List.getElem?_map, List.getElem?_eq_getElem hk, atB, List.getD_eq_getElem?_getD]
theorem Ow.frozen {g c : Nat} (h : Ow w lo (some ⟨g, 0, none⟩) c l) (k : Nat) : w.frozen? ⟨g, k, none⟩ = false := h.2.frozenAt k
theorem Ow.bs {c : Nat} (h : Ow w lo A c l) : Bs w lo w.heap.size A l := by
  refine ⟨h.1, fun hl => ?_⟩
  rcases h.form with ⟨_, rfl, _⟩ | ⟨g, rfl, h1, h2⟩
  · simp at hl
  · exact ⟨g, 0, rfl, h1, h2, fun k hk => by simpa using h.cell hk⟩
theorem Ow.bs' {c g : Nat} (h : Ow w lo (some ⟨g, 0, none⟩) c l) : Bs w g (g + 1) (some ⟨g, 0, none⟩) l :=
  ⟨h.1, fun hl => ⟨g, 0, rfl, by omega, by omega, fun k hk => by simpa using h.cell hk⟩⟩
theorem Ow.grown {row : Option Nat} {c : Nat} (h : Ow w lo A c l) (hg : w.grownBy w' row) (hne : ∀ g, A = some ⟨g, 0, none⟩ → row ≠ some g) : Ow w' lo A c l := by
  refine ⟨h.1, h.2.kept hg ?_⟩
  rcases h.form with ⟨rfl, _, _⟩ | ⟨g, rfl, _, _⟩
  · exact .inl rfl
  · exact .inr (fun e => hne g rfl (by simpa [Value.ownBlock] using e.symm))
theorem Ow.below {B : Nat} {c : Nat} (h : Ow w lo A c l) (hb : Below B w w') (h1 : w.heap.size ≤ B) : Ow w' lo A c l :=
  h.grown (row := none) ⟨hb.os, hb.tape, hb.output, hb.size, fun k hk _ => hb.block k (by omega)⟩ (by simp)
theorem Ow.set {g c : Nat} (h : Ow w lo (some ⟨g, 0, none⟩) c l) (k : Nat) {x : Int} (h0 : 0 ≤ x) (h1 : x ≤ 255) :
    Ow (w.setCell ⟨g, k, none⟩ (.int .u8 x)) lo (some ⟨g, 0, none⟩) c (l.set k x) := by
  have := (h.2.stored k (.int .u8 x)).1
  refine ⟨h.1.set k h0 h1, ?_⟩
  rw [List.length_set, List.map_set]; exact this
end
theorem map_inj_u8 {l m : List Int} (h : l.map (Value.int .u8) = m.map (Value.int .u8)) : l = m := by
  induction l generalizing m with
  | nil => cases m <;> simp_all
  | cons x l ih => cases m with
    | nil => simp at h
    | cons y m => simp at h; rw [h.1, ih h.2]
theorem oneCellU8 (l : List Int) : ∀ u ∈ l.map (Value.int .u8), u.oneCell' = true := by
  intro u hu; obtain ⟨x, _, rfl⟩ := List.mem_map.1 hu; rfl
end Go.Proofs.Ytdnmjeapihjabaa
namespace Go.Proofs.Ytdnmjeapihjabaa
open Go.RowKit
set_option linter.unusedSimpArgs false
set_option linter.unusedVariables false
set_option maxRecDepth 100000
theorem infoU8 : (Try.prog.info? 5).map (fun i => (i.zero, i.size, i.bytes)) = some (some (.int .u8 0), 1, 1) := by kernel_rfl
theorem sizeU8 : (Try.prog.info? 5).map (·.size) = some 1 := by kernel_rfl
theorem makeU8 (kl kc : IntKind) (n : Nat) (hn : n ≤ 281474976710656) (w : World) :
    (Instr.makeSlice 39 (.int kl (n : Int)) (.int kc (n : Int))).run Try.prog w = .ok (.slice (some ⟨w.heap.size, 0, none⟩) n n) (w.alloc (.cells (madeCells #[.int .u8 0] n) 5)) :=
  run_make_row' 39 5 (.int .u8 0) 1 Try.underlying39 infoU8 rfl kl kc n (by omega) (by omega) w
section
variable {w : World} {lo lo' hi' : Nat} {A B : Option Addr} {l m : List Int}
theorem Ow.made (w : World) (n : Nat) (hn : n ≤ 281474976710656) : Ow (w.alloc (.cells (madeCells #[.int .u8 0] n) 5)) w.heap.size (some ⟨w.heap.size, 0, none⟩) n (List.replicate n 0) := by
  refine ⟨Byt.zeros n, ?_⟩
  have h := World.ownsRow_lit (base := w.heap.size) (e := 5) (size := 1) w (madeCells #[.int .u8 0] n) n (Nat.le_refl _) (by unfold maxLen; omega) (by simp [madeCells])
  rw [toList_madeCells_one] at h
  rw [List.length_replicate, List.map_replicate]; exact h
theorem Ow.lit (w : World) (l : List Int) (cs : Array Value) (hc : cs.toList = l.map (Value.int .u8)) (hb : Byt l) (hl : l.length ≤ 281474976710656) :
    Ow (w.alloc (.cells cs 5)) w.heap.size (some ⟨w.heap.size, 0, none⟩) l.length l := by
  refine ⟨hb, ?_⟩
  have hs : cs.size = l.length := by rw [← Array.length_toList, hc, List.length_map]
  have h := World.ownsRow_lit (base := w.heap.size) (e := 5) (size := 1) w cs l.length (Nat.le_refl _) (by unfold maxLen; omega) (by omega)
  rw [hc] at h
  exact h
theorem Ow.blt {c : Nat} (h : Ow w lo A c l) : ∀ g, A = some ⟨g, 0, none⟩ → lo ≤ g ∧ g < w.heap.size := by
  intro g e
  rcases h.form with ⟨h', _, _⟩ | ⟨g', h', h1, h2⟩
  · rw [h'] at e; cases e
  · rw [h'] at e; injection e with e; injection e with e; subst e; exact ⟨h1, h2⟩
theorem Ow.alloc {c : Nat} (h : Ow w lo A c l) (o : Obj) : Ow (w.alloc o) lo A c l := ⟨h.1, h.2.alloc o⟩
theorem Ow.wide {c : Nat} (h : Ow w lo A c l) (hl : lo' ≤ lo) : Ow w lo' A c l := by
  refine ⟨h.1, h.2.1, ?_⟩
  rcases h.2.2 with h' | ⟨g, cap, cur, h1, h2, h3⟩
  · exact .inl h'
  · exact .inr ⟨g, cap, cur, h1, by omega, h3⟩
theorem below_of_grown {w w' : World} {row : Option Nat} {B : Nat} (hg : w.grownBy w' row) (hB : B ≤ w.heap.size) (hr : ∀ k, row = some k → B ≤ k) : Below B w w' := (Below.refl B w).grown hg hB hr
theorem cells_u8 {b o : Nat} {n : Nat} (hc : ∀ k, k < n → w.cell? ⟨b, o + k, none⟩ = some (.int .u8 (atB l k))) (hn : l.length ≤ n) :
    ∀ j v, (l.map (Value.int .u8))[j]? = some v → w.cell? ((⟨b, o, none⟩ : Addr).add j) = some v := by
  intro j v hj
  rw [ofAdd]
  rw [List.getElem?_map] at hj
  rcases Nat.lt_or_ge j l.length with h | h
  · rw [List.getElem?_eq_getElem h] at hj
    rw [hc j (by omega)]
    simp [atB, List.getD_eq_getElem?_getD, List.getElem?_eq_getElem h]
    simpa using hj
  · rw [List.getElem?_eq_none h] at hj; simp at hj
theorem only_setCell {a w : World} {g : Nat} (h : a.grownBy w (some g)) {p : Addr} (hp : p.block = g ∨ a.heap.size ≤ p.block) (u : Value) : a.grownBy (w.setCell p u) (some g) :=
  ⟨h.os, h.tape, h.output, by simpa [World.setCell] using h.size, fun i hi hne => (Below.heap_setCell w p u i (by
    rintro rfl
    rcases hp with hp | hp
    · exact hne (by rw [hp])
    · omega)).trans (h.block i hi hne)⟩
/-- copy of bytes to the front of a row of the call's own -/
theorem wpList_copy_bs {ops : Array Oper} {rest : List Oper} {o : Oper} {a : Act} {Q : Exit → Act → World → Prop} (hgd : o.guard = none) (d s : Operand)
    (ho : o.op = .call { callee := .builtin .copy, args := #[d, s], argTypes := #[39, 39] })
    (g n c m c' : Nat) (z : List Int) (hd : a.eval d = .slice (some ⟨g, 0, none⟩) n c) (hs : a.eval s = .slice A m c') (hz : z.length = n) (hm : l.length = m) (hmn : m ≤ n)
    (hown : Ow w lo (some ⟨g, 0, none⟩) c z) (hsrc : Bs w lo' hi' A l)
    (h : ∀ w', Ow w' lo (some ⟨g, 0, none⟩) c (l ++ z.drop m) → w.grownBy w' (some g) → w'.heap.size = w.heap.size → wpList Try.prog ops Q rest (a.put o.dst (goInt m)) w') : wpList Try.prog ops Q (o :: rest) a w := by
  subst hz hm
  obtain ⟨hbz, hlen, hrow⟩ := hown
  rcases hrow with ⟨he, _⟩ | ⟨g', cap, cur, he, hlo, hg, hnc, hcm, hcs, htake⟩
  · simp at he
  · simp only [Value.slice.injEq, Option.some.injEq, Addr.mk.injEq, and_true, true_and] at he
    obtain ⟨rfl, rfl⟩ := he
    by_cases h0 : l.length = 0
    · obtain rfl : l = [] := List.eq_nil_of_length_eq_zero h0
      refine wpList_copy_nothing hgd d s _ _ ho 5 Try.underlying39 sizeU8 _ _ _ _ _ _ hd hs (by simp) ?_
      exact h w (by simpa using ⟨hbz, hlen, .inr ⟨g, c, cur, rfl, hlo, hg, hnc, hcm, hcs, htake⟩⟩) (World.grownBy.refl w _) rfl
    · obtain ⟨b, off, rfl, _, _, hcell⟩ := hsrc.at (by omega)
      have hcur : z.length ≤ cur.size := by omega
      refine wpList_copy_own hgd d s _ _ ho 5 Try.underlying39 sizeU8 g 0 _ _ ⟨b, off, none⟩ _ _ hd hs cur _ hg (l.map (Value.int .u8)) (by rw [List.length_map]; exact (Nat.min_eq_left hmn).symm) (cells_u8 hcell (Nat.le_refl _)) (by simp <;> omega) (oneCellU8 l) ?_
      rw [List.length_map]
      refine h _ ⟨hsrc.byt.app (hbz.drop _), by simp, .inr ⟨g, c, _, by simp <;> omega, hlo, setRow_heap _ _ _ _ _ _ hg, by simp <;> omega, hcm, ?_, ?_⟩⟩ ?_ ?_
      · simp <;> omega
      · simp only [List.length_append, List.length_drop, List.map_append, List.map_drop, ← htake, Nat.mul_one, List.take_zero, List.nil_append, Nat.zero_add]
        rw [show l.length + (z.length - l.length) = z.length by omega]
        rw [List.take_append, List.length_map, List.take_of_length_le (by simp <;> omega), List.drop_take]
      · exact ⟨rfl, rfl, rfl, by simp, fun k _ hk => setRow_other _ _ _ _ (fun e => hk (by rw [e]))⟩
      · simp
/-- append of bytes to a row of the call's own -/
theorem wpList_append_bs {ops : Array Oper} {rest : List Oper} {o : Oper} {a : Act} {Q : Exit → Act → World → Prop} (hgd : o.guard = none) (d s : Operand)
    (ho : o.op = .call { callee := .builtin .append, args := #[d, s], argTypes := #[39, 39] })
    (n c m' c' : Nat) (hd : a.eval d = .slice A n c) (hs : a.eval s = .slice B m' c') (hn : l.length = n) (hm : m.length = m')
    (hown : Ow w lo A c l) (hsrc : Bs w lo' hi' B m) (hsz : n + m' ≤ 140737488355328) (hlo : lo ≤ w.heap.size)
    (h : ∀ A' c' w', Ow w' lo A' c' (l ++ m) → Below lo w w' → (∀ row, (∀ g, A = some ⟨g, 0, none⟩ → row ≠ g) → row < w.heap.size → w'.heap[row]? = w.heap[row]?) → wpList Try.prog ops Q rest (a.put o.dst (.slice A' (n + m') c')) w') : wpList Try.prog ops Q (o :: rest) a w := by
  obtain ⟨i, hi, hz, h1, h2⟩ := info_parts infoU8
  subst hn hm
  have done : ∀ v' w', (Builtin.append_ #[39, 39] o.type #[.slice A l.length c, .slice B m.length c']).run Try.prog w = .ok v' w' → w'.ownsRow lo 5 1 v' (l.length + m.length) (l.map (Value.int .u8) ++ m.map (Value.int .u8)) → w.grownBy w' (Value.slice A l.length c).ownBlock →
      wpList Try.prog ops Q (o :: rest) a w := by
    intro v' w' hrun r1 r2
    refine wpList_plain hgd fun K hK => ?_
    unfold Oper.wp execOp
    simp only [ho, resolve, invoke, builtin, Sem.run_bind, Sem.run_pure, Result.andThen_ok, List.map_toArray, List.map_cons, List.map_nil, hd, hs, hrun]
    obtain ⟨A', c'', rfl, hO, _⟩ := Ow.mk r1 (l := l ++ m) (by rw [List.map_append]) (hown.1.app hsrc.byt)
    rw [List.length_append] at *
    refine hK _ _ (h A' c'' w' hO (below_of_grown r2 hlo fun k hk => ?_) fun row hr1 hr2 => ?_)
    · exact (hown.2.lt k hk).1
    · refine r2.block row hr2 (fun e => ?_)
      rcases hown.form with ⟨rfl, _, _⟩ | ⟨g, rfl, _, _⟩
      · simp [Value.ownBlock] at e
      · simp [Value.ownBlock] at e; exact hr1 g rfl e
  by_cases h0 : m.length = 0
  · obtain rfl : m = [] := List.eq_nil_of_length_eq_zero h0
    rcases B with _ | ad
    · refine done (.slice A l.length c) w ?_ (by simpa using hown.2) (World.grownBy.refl w _)
      rcases hown.2.2 with ⟨he, hl0⟩ | ⟨g, cap, cur, he, _, _, hnc, _⟩
      · rw [he]; simp [Builtin.append_, run_underlying Try.underlying39, sizeOf, typeInfo, hi, Builtin.lenOf, Builtin.firstCells]
      · rw [he]; simp [Builtin.append_, run_underlying Try.underlying39, sizeOf, typeInfo, hi, Builtin.lenOf, Builtin.firstCells, hnc, storeCells]
    · obtain ⟨v', w', hrun, r1, r2, _, r3⟩ := run_append_own_at (P := Try.prog) w lo 39 o.type 5 i (.int .u8 0) 1 1 Try.underlying39 hi hz h1 h2 rfl (by omega) (.slice A l.length c) l.length _ hown.2
        ad 0 c' [] (by simp) (by simp) (by simp) (by unfold maxLen; simp at hsz; omega) (by simp at hsz; omega) hlo
      exact done v' w' hrun (by simpa using r1) r2
  · obtain ⟨b, off, rfl, _, _, hcell⟩ := hsrc.at (by omega)
    obtain ⟨v', w', hrun, r1, r2, _, r3⟩ := run_append_own_at (P := Try.prog) w lo 39 o.type 5 i (.int .u8 0) 1 1 Try.underlying39 hi hz h1 h2 rfl (by omega) (.slice A l.length c) l.length _ hown.2
      ⟨b, off, none⟩ m.length c' (m.map (Value.int .u8)) (by simp) (cells_u8 hcell (Nat.le_refl _)) (oneCellU8 m) (by unfold maxLen; omega) (by omega) hlo
    exact done v' w' hrun r1 r2
end
end Go.Proofs.Ytdnmjeapihjabaa
namespace Go.Proofs.Ytdnmjeapihjabaa
open Go.RowKit
set_option linter.unusedSimpArgs false
set_option linter.unusedVariables false
set_option maxRecDepth 100000
def longN (s : Int) : Int := (s * 1000000000 + 65535) / 65536
set_option maxHeartbeats 400000 in
theorem long_any (s : Int) (w : World) (h1 : 0 ≤ s) (h2 : s ≤ 4294967295) :
    Calls Try.prog 45 #[.int .u32 s] w fun e w' => e = .returned (.int .i64 (longN s)) ∧ w = w' := by
  go_enter Try.func45, Try.ntmps45
  go_wp2
  go_ret
  exact ⟨ret_int (by unfold longN; omega), rfl⟩
def shortN (ns : Int) : Int := ns / 1000000000 * 65536 + (ns % 1000000000 * 65536 + 999999999) / 1000000000
def shortErr (ns : Int) : Int := if ns < 0 ∨ 4294967295 < shortN ns then 3 else 0
set_option maxHeartbeats 400000 in
theorem short_any (ns : Int) (w : World) (h1 : -9223372036854775808 ≤ ns) (h2 : ns ≤ 9223372036854775807) :
    Calls Try.prog 64 #[.int .i64 ns] w fun e w' => e = .returned (.tuple #[.int .u32 (z0 (shortErr ns) (shortN ns)), .int .i64 (shortErr ns)]) ∧ w = w' := by
  rcases (by omega : ns < 0 ∨ 0 ≤ ns) with h | h
  · have HE : Hid (shortErr ns = 3) := by show shortErr ns = 3; simp [shortErr, h]
    have HZ : Hid (z0 (shortErr ns) (shortN ns) = 0) := by show z0 _ _ = 0; rw [HE.out]; rfl
    go_enter Try.func64, Try.ntmps64
    go_wp2
    go_ret2
    exact ⟨tup2 (vint HZ.out.symm) (vint HE.out.symm), rfl⟩
  · have HN : Hid (shortN ns = ns / 1000000000 * 65536 + (ns % 1000000000 * 65536 + 999999999) / 1000000000) := rfl
    have HE : Hid (shortErr ns = if ns < 0 ∨ 4294967295 < shortN ns then 3 else 0) := rfl
    go_enter Try.func64, Try.ntmps64
    go_wp2
    all_goals
      go_ret2
      refine ⟨tup2 (vint ?_) (vint ?_), rfl⟩
      · unfold z0; rw [HE.out, HN.out]; split <;> simp_all <;> omega
      · rw [HE.out, HN.out]; split <;> omega
end Go.Proofs.Ytdnmjeapihjabaa
