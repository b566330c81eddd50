/- What ntpmsg.Check, put, Encode and their references compute. -/
import Derived.Test.YtkgpeddncpdjjaaDoorWireMem
namespace Go.Proofs.YtkgpeddncpdjjaaDoor
open Go.RowKit
set_option linter.unusedSimpArgs false
set_option linter.unusedVariables false
set_option maxRecDepth 100000
abbrev ntp (l v m st po pr rd rp id ref org rec xmt : Int) : Value := .agg #[.int .i64 l, .int .i64 v, .int .i64 m, .int .i64 st, .int .i64 po, .int .i64 pr, .int .u32 rd, .int .u32 rp, .int .u32 id, .int .u64 ref, .int .u64 org, .int .u64 rec, .int .u64 xmt]
def nchk (l v m st po pr : Int) : Int := if 0 ≤ l ∧ l ≤ 3 ∧ 1 ≤ v ∧ v ≤ 4 ∧ 0 ≤ m ∧ m ≤ 7 ∧ 0 ≤ st ∧ st ≤ 255 ∧ -128 ≤ po ∧ po ≤ 127 ∧ -128 ≤ pr ∧ pr ≤ 127 then 0 else 3
/-- numbers and their sizes, as put takes them -/
def flatC : List (Int × Nat) → List Value
  | [] => []
  | p :: ps => .int .u64 p.1 :: .int .u64 p.2 :: flatC ps
theorem flatC_len (ps : List (Int × Nat)) : (flatC ps).length = 2 * ps.length := by induction ps with
  | nil => rfl
  | cons p ps ih => simp [flatC, ih]; omega
theorem flatC_at (ps : List (Int × Nat)) : ∀ k (h : k < ps.length), (flatC ps)[2 * k]? = some (.int .u64 (ps[k]'h).1) ∧ (flatC ps)[2 * k + 1]? = some (.int .u64 (ps[k]'h).2) := by
  induction ps with
  | nil => intro k h; simp at h
  | cons p ps ih =>
    intro k h
    cases k with
    | zero => exact ⟨rfl, rfl⟩
    | succ k =>
      have := ih k (by simpa using h)
      rw [show 2 * (k + 1) = 2 * k + 1 + 1 by omega]
      simpa [flatC] using this
/-- the bytes of numbers -/
def encB (ps : List (Int × Nat)) : List Int := ps.flatMap fun p => bytesB p.2 p.1
/-- each number fits its size -/
def Fits (ps : List (Int × Nat)) : Prop := ∀ p ∈ ps, 0 ≤ p.1 ∧ p.1 < 18446744073709551616 ∧ 1 ≤ p.2 ∧ p.2 ≤ 8 ∧ p.1 < 256 ^ p.2
theorem encB_len (ps : List (Int × Nat)) (h : Fits ps) : (encB ps).length ≤ 8 * ps.length := by
  induction ps with
  | nil => simp [encB]
  | cons p ps ih =>
    have h1 := h p (by simp)
    have h2 := ih (fun q hq => h q (by simp [hq]))
    simp only [encB, List.flatMap_cons, List.length_append, bytesB_length, List.length_cons] at *
    omega
theorem encB_succ (ps : List (Int × Nat)) (k : Nat) (h : k < ps.length) : encB (ps.take (k + 1)) = encB (ps.take k) ++ bytesB (ps[k]'h).2 (ps[k]'h).1 := by
  have e : ps.take (k + 1) = ps.take k ++ [ps[k]'h] := by rw [List.take_add_one, List.getElem?_eq_getElem h]; rfl
  rw [e]
  unfold encB
  rw [List.flatMap_append]; simp
theorem Fits.take {ps : List (Int × Nat)} (h : Fits ps) (k : Nat) : Fits (ps.take k) := fun p hp => h p (List.mem_of_mem_take hp)
theorem i64_or2 (l v m : Int) (hl : 0 ≤ l ∧ l ≤ 3) (hv : 1 ≤ v ∧ v ≤ 4) (hm : 0 ≤ m ∧ m ≤ 7) : bits .or .i64 (bits .or .i64 (l * 64) (v * 8)) m = l * 64 + v * 8 + m := by
  have hl' : l = 0 ∨ l = 1 ∨ l = 2 ∨ l = 3 := by omega
  have hv' : v = 1 ∨ v = 2 ∨ v = 3 ∨ v = 4 := by omega
  have hm' : m = 0 ∨ m = 1 ∨ m = 2 ∨ m = 3 ∨ m = 4 ∨ m = 5 ∨ m = 6 ∨ m = 7 := by omega
  rcases hl' with rfl | rfl | rfl | rfl <;> rcases hv' with rfl | rfl | rfl | rfl <;> rcases hm' with rfl | rfl | rfl | rfl | rfl | rfl | rfl | rfl <;> decide
/-- the fields of a header as numbers and sizes -/
def ntpPairs (l v m st po pr rd rp id ref org rec xmt : Int) : List (Int × Nat) :=
  [(l * 64 + v * 8 + m, 1), (st, 1), (po % 256, 1), (pr % 256, 1), (rd, 4), (rp, 4), (id, 4), (ref, 8), (org, 8), (rec, 8), (xmt, 8)]
def encH (l v m st po pr rd rp id ref org rec xmt : Int) : List Int := encB (ntpPairs l v m st po pr rd rp id ref org rec xmt)
theorem encH_len (l v m st po pr rd rp id ref org rec xmt : Int) : (encH l v m st po pr rd rp id ref org rec xmt).length = 48 := by simp [encH, ntpPairs, encB, bytesB_length]
theorem nchk_ok {l v m st po pr : Int} (h : nchk l v m st po pr = 0) : (0 ≤ l ∧ l ≤ 3) ∧ (1 ≤ v ∧ v ≤ 4) ∧ (0 ≤ m ∧ m ≤ 7) ∧ (0 ≤ st ∧ st ≤ 255) ∧ (-128 ≤ po ∧ po ≤ 127) ∧ (-128 ≤ pr ∧ pr ≤ 127) := by
  unfold nchk at h; split at h <;> omega
theorem kept13 {w w1 : World} {t : TypeId} {cs : Array Value} (hb : Below (w.alloc (.cells cs t)).heap.size (w.alloc (.cells cs t)) w1) : w1.heap[w.heap.size]? = some (.cells cs t (0, 0)) :=
  (hb.block _ (by simp)).trans (heap_alloc_new w _)
theorem cells13 {w : World} {g : Nat} {t : TypeId} {a0 a1 a2 a3 a4 a5 a6 a7 a8 a9 a10 a11 a12 : Value} (h : w.heap[g]? = some (.cells #[a0, a1, a2, a3, a4, a5, a6, a7, a8, a9, a10, a11, a12] t (0, 0))) :
    w.cell? ⟨g, 0, none⟩ = some a0 ∧ w.cell? ⟨g, 1, none⟩ = some a1 ∧ w.cell? ⟨g, 2, none⟩ = some a2 ∧ w.cell? ⟨g, 3, none⟩ = some a3 ∧ w.cell? ⟨g, 4, none⟩ = some a4 ∧ w.cell? ⟨g, 5, none⟩ = some a5 ∧ w.cell? ⟨g, 6, none⟩ = some a6 ∧ w.cell? ⟨g, 7, none⟩ = some a7 ∧ w.cell? ⟨g, 8, none⟩ = some a8 ∧ w.cell? ⟨g, 9, none⟩ = some a9 ∧ w.cell? ⟨g, 10, none⟩ = some a10 ∧ w.cell? ⟨g, 11, none⟩ = some a11 ∧ w.cell? ⟨g, 12, none⟩ = some a12 :=
  ⟨cell_of_row _ _ 0 _ _ _ h, cell_of_row _ _ 1 _ _ _ h, cell_of_row _ _ 2 _ _ _ h, cell_of_row _ _ 3 _ _ _ h, cell_of_row _ _ 4 _ _ _ h, cell_of_row _ _ 5 _ _ _ h, cell_of_row _ _ 6 _ _ _ h, cell_of_row _ _ 7 _ _ _ h, cell_of_row _ _ 8 _ _ _ h, cell_of_row _ _ 9 _ _ _ h, cell_of_row _ _ 10 _ _ _ h, cell_of_row _ _ 11 _ _ _ h, cell_of_row _ _ 12 _ _ _ h⟩
end Go.Proofs.YtkgpeddncpdjjaaDoor
