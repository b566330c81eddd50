/- What ntpmsg.Decode computes: the header's fields, and what stands behind it. -/
import Derived.Test.YtkgpeddncpdjjaaDoorNtp3
import Derived.Test.YtkgpeddncpdjjaaDoorReader
namespace Go.Proofs.YtkgpeddncpdjjaaDoor
open Go.RowKit
set_option linter.unusedSimpArgs false
set_option linter.unusedVariables false
set_option maxRecDepth 100000
/-- the number in s bytes from o on; the same in two's complement -/
def fB (l : List Int) (o s : Nat) : Int := numB ((l.drop o).take s)
def iB (l : List Int) (o s : Nat) : Int := intB ((l.drop o).take s)
theorem fB_rng {l : List Int} (h : Byt l) (o s : Nat) : 0 ≤ fB l o s ∧ fB l o s < 256 ^ s := by
  refine ⟨(numB_range _).1, ?_⟩
  have h1 := numB_le_pow ((h.drop o).take s)
  rw [List.length_take] at h1
  have h2 : (256 : Int) ^ (min s (l.drop o).length) ≤ 256 ^ s := by
    rw [show s = min s (l.drop o).length + (s - min s (l.drop o).length) by omega, Int.pow_add]
    have a : (0 : Int) < 256 ^ (min s (l.drop o).length) := Int.pow_pos (by omega)
    have b : (0 : Int) < 256 ^ (s - min s (l.drop o).length) := Int.pow_pos (by omega)
    rw [show min (min s (l.drop o).length + (s - min s (l.drop o).length)) (l.drop o).length = min s (l.drop o).length by omega]
    have c : (256 : Int) ^ (min s (l.drop o).length) * 1 ≤ 256 ^ (min s (l.drop o).length) * 256 ^ (s - min s (l.drop o).length) := Int.mul_le_mul_of_nonneg_left (by omega) (by omega)
    omega
  unfold fB; omega
theorem tk_s (m : List Int) (s : Nat) (h1 : 1 ≤ s) (h8 : s ≤ 8) (hl : s ≤ m.length) : tkL m 0 s (szB s) = m.take s ∧ tkR m 0 s (szB s) = m.drop s ∧ tkE m 0 s (szB s) = 0 := by
  have hz : szB (s : Int) = true := decide_eq_true (by omega)
  have hk : tkOk m 0 s (szB s) = true := by rw [hz]; simp [tkOk]; omega
  refine ⟨(tk_yes hk).1, (tk_yes hk).2, ?_⟩
  rw [hz]; simp [tkE]; omega
theorem uint_at (lo g : Nat) (l : List Int) (o s o2 : Nat) (si : Int) (w : World) (hR : Rd w lo g (l.drop o) 0) (h1 : 1 ≤ s) (h8 : s ≤ 8) (hl : o + s ≤ l.length) (hsi : ((s : Nat) : Int) = si) (ho2 : o + s = o2) :
    Calls Tryd.prog 30 #[rp g, .int .i64 si] w (RPost (.int .u64 (fB l o s)) lo g (l.drop o2) 0 w) := by
  subst hsi ho2
  have hE := uint_any lo g (l.drop o) 0 s w hR
  obtain ⟨e1, e2, e3⟩ := tk_s (l.drop o) s h1 h8 (by rw [List.length_drop]; omega)
  rw [e1, e2, e3, List.drop_drop] at hE
  exact hE
theorem but_below {g B : Nat} {w w' : World} (h : But g w w') (h1 : B ≤ w.heap.size) (h2 : B ≤ g) : Below B w w' := below_of_grown h h1 (by simp; omega)
theorem i64_and7 (n : Int) : bits .and .i64 n 7 = n % 8 := by
  have hm : (BitVec.ofInt 64 7).toNat = 2 ^ 3 - 1 := by decide
  have key : (BitVec.ofInt 64 n &&& BitVec.ofInt 64 7).toNat = (n % ((2 ^ 64 : Nat) : Int)).toNat % 2 ^ 3 := by
    rw [BitVec.toNat_and, BitVec.toNat_ofInt, hm, Nat.and_two_pow_sub_one_eq_mod]
  show IntKind.i64.wrap ((BitVec.ofInt 64 n &&& BitVec.ofInt 64 7).toNat : Nat) = n % 8
  rw [key, IntKind.wrap_i64]
  omega
theorem Rd.setfar {w : World} {lo g : Nat} {l : List Int} {e : Int} (h : Rd w lo g l e) {p : Addr} (hp : g < p.block) (u : Value) : Rd (w.setCell p u) lo g l e :=
  h.keep (fun b _ h2 => Below.heap_setCell _ _ _ _ (by omega)) (by simp [World.setCell])
theorem Rd.setlow {w : World} {lo g : Nat} {l : List Int} {e : Int} (h : Rd w lo g l e) {p : Addr} (hp : p.block < lo) (u : Value) : Rd (w.setCell p u) lo g l e :=
  h.keep (fun b h1 _ => Below.heap_setCell _ _ _ _ (by omega)) (by simp [World.setCell])
theorem Rd.drew {w : World} {lo g : Nat} {l : List Int} {e : Int} (h : Rd w lo g l e) : Rd w.drew lo g l e := h
theorem cellv_eq {w : World} {b i : Nat} {v : Value} (h : w.cell? ⟨b, i, none⟩ = some v) : cellv w b i = v := by unfold cellv; simp [h]
theorem blk_set {w : World} {g i : Nat} {cs ds : Array Value} {t : TypeId} {u : Value} (h : w.heap[g]? = some (.cells cs t (0, 0))) (hd : cs.setIfInBounds i u = ds) : (w.setCell ⟨g, i, none⟩ u).heap[g]? = some (.cells ds t (0, 0)) := by
  subst hd
  simp [World.setCell, Array.getElem?_modify, h]
theorem blk_far {w : World} {g : Nat} {o : Obj} {p : Addr} (h : w.heap[g]? = some o) (hp : g ≠ p.block) (u : Value) : (w.setCell p u).heap[g]? = some o := (Below.heap_setCell w p u g hp).trans h
theorem blk_but {w w' : World} {g r : Nat} {o : Obj} (h : w.heap[r]? = some o) (hb : But g w w') (hg : r < w.heap.size) (hne : r ≠ g) : w'.heap[r]? = some o := (hb.block r hg (by simp; omega)).trans h
theorem blk_frozen {w : World} {g : Nat} {cs : Array Value} {t : TypeId} (h : w.heap[g]? = some (.cells cs t (0, 0))) : ∀ o, w.frozen? ⟨g, o, none⟩ = false := fun o => by simp [World.frozen?, h]
abbrev zeros13 : Array Value := #[.int .i64 0, .int .i64 0, .int .i64 0, .int .i64 0, .int .i64 0, .int .i64 0, .int .u32 0, .int .u32 0, .int .u32 0, .int .u64 0, .int .u64 0, .int .u64 0, .int .u64 0]
theorem set13_heap {w : World} {b : Nat} {t : TypeId} {a0 a1 a2 a3 a4 a5 a6 a7 a8 a9 a10 a11 a12 v0 v1 v2 v3 v4 v5 v6 v7 v8 v9 v10 v11 v12 : Value} (h : w.heap[b]? = some (.cells #[a0, a1, a2, a3, a4, a5, a6, a7, a8, a9, a10, a11, a12] t (0, 0))) :
    (((((((((((((w.setCell ⟨b, 0, none⟩ v0).setCell ⟨b, 1, none⟩ v1).setCell ⟨b, 2, none⟩ v2).setCell ⟨b, 3, none⟩ v3).setCell ⟨b, 4, none⟩ v4).setCell ⟨b, 5, none⟩ v5).setCell ⟨b, 6, none⟩ v6).setCell ⟨b, 7, none⟩ v7).setCell ⟨b, 8, none⟩ v8).setCell ⟨b, 9, none⟩ v9).setCell ⟨b, 10, none⟩ v10).setCell ⟨b, 11, none⟩ v11).setCell ⟨b, 12, none⟩ v12).heap[b]? = some (.cells #[v0, v1, v2, v3, v4, v5, v6, v7, v8, v9, v10, v11, v12] t (0, 0)) := by
  have h0 := blk_set (i := 0) (u := v0) (ds := #[v0, a1, a2, a3, a4, a5, a6, a7, a8, a9, a10, a11, a12]) h (by simp)
  have h1 := blk_set (i := 1) (u := v1) (ds := #[v0, v1, a2, a3, a4, a5, a6, a7, a8, a9, a10, a11, a12]) h0 (by simp)
  have h2 := blk_set (i := 2) (u := v2) (ds := #[v0, v1, v2, a3, a4, a5, a6, a7, a8, a9, a10, a11, a12]) h1 (by simp)
  have h3 := blk_set (i := 3) (u := v3) (ds := #[v0, v1, v2, v3, a4, a5, a6, a7, a8, a9, a10, a11, a12]) h2 (by simp)
  have h4 := blk_set (i := 4) (u := v4) (ds := #[v0, v1, v2, v3, v4, a5, a6, a7, a8, a9, a10, a11, a12]) h3 (by simp)
  have h5 := blk_set (i := 5) (u := v5) (ds := #[v0, v1, v2, v3, v4, v5, a6, a7, a8, a9, a10, a11, a12]) h4 (by simp)
  have h6 := blk_set (i := 6) (u := v6) (ds := #[v0, v1, v2, v3, v4, v5, v6, a7, a8, a9, a10, a11, a12]) h5 (by simp)
  have h7 := blk_set (i := 7) (u := v7) (ds := #[v0, v1, v2, v3, v4, v5, v6, v7, a8, a9, a10, a11, a12]) h6 (by simp)
  have h8 := blk_set (i := 8) (u := v8) (ds := #[v0, v1, v2, v3, v4, v5, v6, v7, v8, a9, a10, a11, a12]) h7 (by simp)
  have h9 := blk_set (i := 9) (u := v9) (ds := #[v0, v1, v2, v3, v4, v5, v6, v7, v8, v9, a10, a11, a12]) h8 (by simp)
  have h10 := blk_set (i := 10) (u := v10) (ds := #[v0, v1, v2, v3, v4, v5, v6, v7, v8, v9, v10, a11, a12]) h9 (by simp)
  have h11 := blk_set (i := 11) (u := v11) (ds := #[v0, v1, v2, v3, v4, v5, v6, v7, v8, v9, v10, v11, a12]) h10 (by simp)
  have h12 := blk_set (i := 12) (u := v12) (ds := #[v0, v1, v2, v3, v4, v5, v6, v7, v8, v9, v10, v11, v12]) h11 (by simp)
  exact h12
theorem set13_far {w : World} {lo g b : Nat} {l : List Int} {e : Int} {v0 v1 v2 v3 v4 v5 v6 v7 v8 v9 v10 v11 v12 : Value} (hp : g < b) (h : Rd w lo g l e) : Rd (((((((((((((w.setCell ⟨b, 0, none⟩ v0).setCell ⟨b, 1, none⟩ v1).setCell ⟨b, 2, none⟩ v2).setCell ⟨b, 3, none⟩ v3).setCell ⟨b, 4, none⟩ v4).setCell ⟨b, 5, none⟩ v5).setCell ⟨b, 6, none⟩ v6).setCell ⟨b, 7, none⟩ v7).setCell ⟨b, 8, none⟩ v8).setCell ⟨b, 9, none⟩ v9).setCell ⟨b, 10, none⟩ v10).setCell ⟨b, 11, none⟩ v11).setCell ⟨b, 12, none⟩ v12) lo g l e := by
  repeat refine Rd.setfar ?_ hp _
  exact h
theorem set13_low {w : World} {lo g b : Nat} {l : List Int} {e : Int} {v0 v1 v2 v3 v4 v5 v6 v7 v8 v9 v10 v11 v12 : Value} (hp : b < lo) (h : Rd w lo g l e) : Rd (((((((((((((w.setCell ⟨b, 0, none⟩ v0).setCell ⟨b, 1, none⟩ v1).setCell ⟨b, 2, none⟩ v2).setCell ⟨b, 3, none⟩ v3).setCell ⟨b, 4, none⟩ v4).setCell ⟨b, 5, none⟩ v5).setCell ⟨b, 6, none⟩ v6).setCell ⟨b, 7, none⟩ v7).setCell ⟨b, 8, none⟩ v8).setCell ⟨b, 9, none⟩ v9).setCell ⟨b, 10, none⟩ v10).setCell ⟨b, 11, none⟩ v11).setCell ⟨b, 12, none⟩ v12) lo g l e := by
  repeat refine Rd.setlow ?_ hp _
  exact h
theorem set13_blk {w : World} {r b : Nat} {o : Obj} {v0 v1 v2 v3 v4 v5 v6 v7 v8 v9 v10 v11 v12 : Value} (hp : r ≠ b) (h : w.heap[r]? = some o) : (((((((((((((w.setCell ⟨b, 0, none⟩ v0).setCell ⟨b, 1, none⟩ v1).setCell ⟨b, 2, none⟩ v2).setCell ⟨b, 3, none⟩ v3).setCell ⟨b, 4, none⟩ v4).setCell ⟨b, 5, none⟩ v5).setCell ⟨b, 6, none⟩ v6).setCell ⟨b, 7, none⟩ v7).setCell ⟨b, 8, none⟩ v8).setCell ⟨b, 9, none⟩ v9).setCell ⟨b, 10, none⟩ v10).setCell ⟨b, 11, none⟩ v11).setCell ⟨b, 12, none⟩ v12).heap[r]? = some o := by
  repeat refine blk_far ?_ hp _
  exact h
theorem set13_below {w0 w : World} {B b : Nat} {v0 v1 v2 v3 v4 v5 v6 v7 v8 v9 v10 v11 v12 : Value} (hp : B ≤ b) (h : Below B w0 w) : Below B w0 (((((((((((((w.setCell ⟨b, 0, none⟩ v0).setCell ⟨b, 1, none⟩ v1).setCell ⟨b, 2, none⟩ v2).setCell ⟨b, 3, none⟩ v3).setCell ⟨b, 4, none⟩ v4).setCell ⟨b, 5, none⟩ v5).setCell ⟨b, 6, none⟩ v6).setCell ⟨b, 7, none⟩ v7).setCell ⟨b, 8, none⟩ v8).setCell ⟨b, 9, none⟩ v9).setCell ⟨b, 10, none⟩ v10).setCell ⟨b, 11, none⟩ v11).setCell ⟨b, 12, none⟩ v12) := by
  repeat refine Below.setCell ?_ hp _
  exact h
theorem set13_ow {w : World} {lo b c : Nat} {A : Option Addr} {l : List Int} {v0 v1 v2 v3 v4 v5 v6 v7 v8 v9 v10 v11 v12 : Value} (hp : b < lo) (h : Ow w lo A c l) : Ow (((((((((((((w.setCell ⟨b, 0, none⟩ v0).setCell ⟨b, 1, none⟩ v1).setCell ⟨b, 2, none⟩ v2).setCell ⟨b, 3, none⟩ v3).setCell ⟨b, 4, none⟩ v4).setCell ⟨b, 5, none⟩ v5).setCell ⟨b, 6, none⟩ v6).setCell ⟨b, 7, none⟩ v7).setCell ⟨b, 8, none⟩ v8).setCell ⟨b, 9, none⟩ v9).setCell ⟨b, 10, none⟩ v10).setCell ⟨b, 11, none⟩ v11).setCell ⟨b, 12, none⟩ v12) lo A c l := by
  repeat refine Ow.setlow ?_ hp _
  exact h
end Go.Proofs.YtkgpeddncpdjjaaDoor
