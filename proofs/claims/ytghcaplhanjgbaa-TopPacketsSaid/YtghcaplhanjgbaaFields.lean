/- Structs by value, opened field by field, whatever their fields; a header opened. -/
import Derived.Test.YtghcaplhanjgbaaRow
import Derived.Test.YtghcaplhanjgbaaNtpT
import Derived.Deep.Fields
import Derived.OpenShut
namespace Go.Proofs.Ytghcaplhanjgbaa
open Go.ChangeShapes Go.WideShapes Go.ChangeAt Go.RowKit Go.Joins Go.Deep
set_option linter.unusedSimpArgs false
set_option linter.unusedVariables false
set_option maxRecDepth 100000
theorem drew_size {w : World} {N : Nat} (h : N ≤ w.heap.size) : N ≤ w.drew.heap.size := h
section
variable {H : Type} {enc : TypeId × Value → H} {P : Program} {w : World} {base : Nat} {spare : Nat → Bool} {held : Bool}
theorem trod_fields {t : TypeId} {fs : Array Field} {fuel : Nat} {cs : List Value} {x : DataW H × List MemPlace} (ht : P.underlying t = some (.struct fs)) (h : DataW.trod enc P w base spare held fuel t cs = some x) :
    cs.length = P.cellsOf t ∧ ∀ (i : Nat) (f : Field), fs[i]? = some f → ∃ y n, DataW.trod enc P w base spare held n f.type ((cs.drop f.offset).take (P.cellsOf f.type)) = some y := by
  obtain ⟨xs, n, _, _, hl, hxl, hg⟩ := DataW.trod_struct ht h
  refine ⟨hl, fun i f hf => ?_⟩
  have hi : i < xs.length := by rw [hxl]; exact (Array.getElem?_eq_some_iff.1 hf).1
  exact ⟨xs[i], n, (hg i f hf).trans (List.getElem?_eq_getElem hi)⟩
/-- a struct by value: its cells -/
theorem open_struct {r : Reach} {b0 : Nat} {t : TypeId} {fs : Array Field} {v : Value} {d : DataW H} {p : List MemPlace} (hs : P.underlying t = some (.struct fs)) (hv : Value.okWide P w r b0 t v) (h : DataW.Trod enc P w base spare held t v d p) :
    ∃ (cs : List Value) (fuel : Nat) (x : DataW H × List MemPlace), v = .agg cs.toArray ∧ DataW.trod enc P w base spare held fuel t cs = some x := by
  obtain ⟨cs, rfl, hsz⟩ := okWide_struct hs hv
  obtain ⟨fuel, hf⟩ := h
  exact ⟨cs.toList, fuel, _, by simp, by simpa [Value.cells] using hf⟩
end
theorem cellsNtp : Try.prog.cellsOf 25 = 13 := by kernel_rfl
set_option maxRecDepth 100000 in
theorem ntp_cells {H : Type} {enc : TypeId × Value → H} {w : World} {base : Nat} {spare : Nat → Bool} {held : Bool} {fuel : Nat} {cs : List Value} {x : DataW H × List MemPlace} (h : DataW.trod enc Try.prog w base spare held fuel 25 cs = some x) :
    ∃ l v m st po pr rd rp id ref org rec xmt : Int, cs = [.int .i64 l, .int .i64 v, .int .i64 m, .int .i64 st, .int .i64 po, .int .i64 pr, .int .u32 rd, .int .u32 rp, .int .u32 id, .int .u64 ref, .int .u64 org, .int .u64 rec, .int .u64 xmt] ∧ (-9223372036854775808 ≤ l ∧ l ≤ 9223372036854775807) ∧ (-9223372036854775808 ≤ v ∧ v ≤ 9223372036854775807) ∧ (-9223372036854775808 ≤ m ∧ m ≤ 9223372036854775807) ∧ (-9223372036854775808 ≤ st ∧ st ≤ 9223372036854775807) ∧ (-9223372036854775808 ≤ po ∧ po ≤ 9223372036854775807) ∧ (-9223372036854775808 ≤ pr ∧ pr ≤ 9223372036854775807) ∧ (0 ≤ rd ∧ rd ≤ 4294967295) ∧ (0 ≤ rp ∧ rp ≤ 4294967295) ∧ (0 ≤ id ∧ id ≤ 4294967295) ∧ (0 ≤ ref ∧ ref ≤ 18446744073709551615) ∧ (0 ≤ org ∧ org ≤ 18446744073709551615) ∧ (0 ≤ rec ∧ rec ≤ 18446744073709551615) ∧ (0 ≤ xmt ∧ xmt ≤ 18446744073709551615) := by
  obtain ⟨hl, hf⟩ := trod_fields Try.underlying25 h
  rw [cellsNtp] at hl
  match cs, hl with
  | [c0, c1, c2, c3, c4, c5, c6, c7, c8, c9, c10, c11, c12], _ =>
    obtain ⟨y0, n0, h0⟩ := hf 0 _ rfl
    obtain ⟨l, e0, _, wf0⟩ := DataW.trod_int Try.underlying3 h0
    obtain ⟨y1, n1, h1⟩ := hf 1 _ rfl
    obtain ⟨v, e1, _, wf1⟩ := DataW.trod_int Try.underlying3 h1
    obtain ⟨y2, n2, h2⟩ := hf 2 _ rfl
    obtain ⟨m, e2, _, wf2⟩ := DataW.trod_int Try.underlying3 h2
    obtain ⟨y3, n3, h3⟩ := hf 3 _ rfl
    obtain ⟨st, e3, _, wf3⟩ := DataW.trod_int Try.underlying3 h3
    obtain ⟨y4, n4, h4⟩ := hf 4 _ rfl
    obtain ⟨po, e4, _, wf4⟩ := DataW.trod_int Try.underlying3 h4
    obtain ⟨y5, n5, h5⟩ := hf 5 _ rfl
    obtain ⟨pr, e5, _, wf5⟩ := DataW.trod_int Try.underlying3 h5
    obtain ⟨y6, n6, h6⟩ := hf 6 _ rfl
    obtain ⟨rd, e6, _, wf6⟩ := DataW.trod_int Try.underlying22 h6
    obtain ⟨y7, n7, h7⟩ := hf 7 _ rfl
    obtain ⟨rp, e7, _, wf7⟩ := DataW.trod_int Try.underlying22 h7
    obtain ⟨y8, n8, h8⟩ := hf 8 _ rfl
    obtain ⟨id, e8, _, wf8⟩ := DataW.trod_int Try.underlying22 h8
    obtain ⟨y9, n9, h9⟩ := hf 9 _ rfl
    obtain ⟨ref, e9, _, wf9⟩ := DataW.trod_int Try.underlying23 h9
    obtain ⟨y10, n10, h10⟩ := hf 10 _ rfl
    obtain ⟨org, e10, _, wf10⟩ := DataW.trod_int Try.underlying23 h10
    obtain ⟨y11, n11, h11⟩ := hf 11 _ rfl
    obtain ⟨rec, e11, _, wf11⟩ := DataW.trod_int Try.underlying23 h11
    obtain ⟨y12, n12, h12⟩ := hf 12 _ rfl
    obtain ⟨xmt, e12, _, wf12⟩ := DataW.trod_int Try.underlying23 h12
    have k1 : Try.prog.cellsOf 3 = 1 := by kernel_rfl
    have k2 : Try.prog.cellsOf 22 = 1 := by kernel_rfl
    have k3 : Try.prog.cellsOf 23 = 1 := by kernel_rfl
    simp [k1, k2, k3] at e0 e1 e2 e3 e4 e5 e6 e7 e8 e9 e10 e11 e12
    subst e0 e1 e2 e3 e4 e5 e6 e7 e8 e9 e10 e11 e12
    exact ⟨_, _, _, _, _, _, _, _, _, _, _, _, _, rfl, bounds_i64 wf0, bounds_i64 wf1, bounds_i64 wf2, bounds_i64 wf3, bounds_i64 wf4, bounds_i64 wf5, bounds_u32 wf6, bounds_u32 wf7, bounds_u32 wf8, bounds_u64 wf9, bounds_u64 wf10, bounds_u64 wf11, bounds_u64 wf12⟩
set_option maxRecDepth 100000 in
theorem open_ntp {H : Type} {enc : TypeId × Value → H} {w : World} {base b0 : Nat} {spare : Nat → Bool} {held : Bool} {r : Reach} {v : Value} {d : DataW H} {p : List MemPlace} (hv : Value.okWide Try.prog w r b0 25 v) (h : DataW.Trod enc Try.prog w base spare held 25 v d p) :
    ∃ l vv m st po pr rd rp id ref org rec xmt : Int, v = .agg #[.int .i64 l, .int .i64 vv, .int .i64 m, .int .i64 st, .int .i64 po, .int .i64 pr, .int .u32 rd, .int .u32 rp, .int .u32 id, .int .u64 ref, .int .u64 org, .int .u64 rec, .int .u64 xmt] ∧ (-9223372036854775808 ≤ l ∧ l ≤ 9223372036854775807) ∧ (-9223372036854775808 ≤ vv ∧ vv ≤ 9223372036854775807) ∧ (-9223372036854775808 ≤ m ∧ m ≤ 9223372036854775807) ∧ (-9223372036854775808 ≤ st ∧ st ≤ 9223372036854775807) ∧ (-9223372036854775808 ≤ po ∧ po ≤ 9223372036854775807) ∧ (-9223372036854775808 ≤ pr ∧ pr ≤ 9223372036854775807) ∧ (0 ≤ rd ∧ rd ≤ 4294967295) ∧ (0 ≤ rp ∧ rp ≤ 4294967295) ∧ (0 ≤ id ∧ id ≤ 4294967295) ∧ (0 ≤ ref ∧ ref ≤ 18446744073709551615) ∧ (0 ≤ org ∧ org ≤ 18446744073709551615) ∧ (0 ≤ rec ∧ rec ≤ 18446744073709551615) ∧ (0 ≤ xmt ∧ xmt ≤ 18446744073709551615) := by
  obtain ⟨cs, fuel, x, rfl, hx⟩ := open_struct Try.underlying25 hv h
  obtain ⟨a0, a1, a2, a3, a4, a5, a6, a7, a8, a9, a10, a11, a12, rfl, hb⟩ := ntp_cells hx
  exact ⟨a0, a1, a2, a3, a4, a5, a6, a7, a8, a9, a10, a11, a12, rfl, hb⟩
end Go.Proofs.Ytghcaplhanjgbaa
