/- What ntpmsg.Check, put, Encode and their references compute. -/
import Derived.Test.YtghcaplhanjgbaaWireMem
namespace Go.Proofs.Ytghcaplhanjgbaa
open Go.RowKit
set_option linter.unusedSimpArgs false
set_option linter.unusedVariables false
set_option maxRecDepth 100000
abbrev ntp (l v m st po pr rd rp id ref org rec xmt : Int) : Value := .agg #[.int .i64 l, .int .i64 v, .int .i64 m, .int .i64 st, .int .i64 po, .int .i64 pr, .int .u32 rd, .int .u32 rp, .int .u32 id, .int .u64 ref, .int .u64 org, .int .u64 rec, .int .u64 xmt]
def nchk (l v m st po pr : Int) : Int := if 0 ≤ l ∧ l ≤ 3 ∧ 1 ≤ v ∧ v ≤ 4 ∧ 0 ≤ m ∧ m ≤ 7 ∧ 0 ≤ st ∧ st ≤ 255 ∧ -128 ≤ po ∧ po ≤ 127 ∧ -128 ≤ pr ∧ pr ≤ 127 then 0 else 3
set_option maxHeartbeats 400000 in
theorem within_any (n lo hi : Int) (w : World) :
    Calls Try.prog 14 #[.int .i64 n, .int .i64 lo, .int .i64 hi] w fun e w' => e = .returned (.bool (decide (lo ≤ n ∧ n ≤ hi))) ∧ w = w' := by
  by_cases h1 : lo ≤ n <;> by_cases h2 : n ≤ hi
  all_goals
    go_enter Try.func14, Try.ntmps14
    go_wp2
    go_ret
    exact ⟨by simp [*], rfl⟩
set_option maxHeartbeats 1000000 in
theorem nchk_any (l v m st po pr rd rp id ref org rec xmt : Int) (w : World) :
    Calls Try.prog 5 #[ntp l v m st po pr rd rp id ref org rec xmt] w fun e w' => e = .returned (.int .i64 (nchk l v m st po pr)) ∧ Below w.heap.size w w' := by
  go_enter Try.func5, Try.ntmps5
  go_wp2_with (first | (go_at_call 14; ((with_reducible refine (within_any _ _ _ _).mono ?_); rintro e w1 ⟨rfl, rfl⟩)))
  all_goals
    go_ret
    refine ⟨ret_int ?_, by (repeat (first | assumption | exact Below.refl _ _ | refine Below.drew ?_ | refine below_drewN ?_ _ | refine Below.setCell ?_ (by first | omega | (simp; done) | (simp <;> omega)) _ | refine Below.alloc ?_ (by first | omega | (simp; done) | (simp <;> omega)) _ | refine Below.trans ?_ (Below.mono (by assumption) (by first | omega | (simp; done) | (simp <;> omega)))))⟩
    unfold nchk
    simp_all <;> omega
/-- numbers and their sizes, as put takes them -/
def flatC : List (Int × Nat) → List Value
  | [] => []
  | p :: ps => .int .u64 p.1 :: .int .u64 p.2 :: flatC ps
theorem flatC_len (ps : List (Int × Nat)) : (flatC ps).length = 2 * ps.length := by induction ps with
  | nil => rfl
  | cons p ps ih => simp [flatC, ih]; omega
theorem flatC_at (ps : List (Int × Nat)) : ∀ k (h : k < ps.length), (flatC ps)[2 * k]? = some (.int .u64 (ps[k]'h).1) ∧ (flatC ps)[2 * k + 1]? = some (.int .u64 (ps[k]'h).2) := by
  induction ps with
  | nil => intro k h; simp at h
  | cons p ps ih =>
    intro k h
    cases k with
    | zero => exact ⟨rfl, rfl⟩
    | succ k =>
      have := ih k (by simpa using h)
      rw [show 2 * (k + 1) = 2 * k + 1 + 1 by omega]
      simpa [flatC] using this
/-- the bytes of numbers -/
def encB (ps : List (Int × Nat)) : List Int := ps.flatMap fun p => bytesB p.2 p.1
/-- each number fits its size -/
def Fits (ps : List (Int × Nat)) : Prop := ∀ p ∈ ps, 0 ≤ p.1 ∧ p.1 < 18446744073709551616 ∧ 1 ≤ p.2 ∧ p.2 ≤ 8 ∧ p.1 < 256 ^ p.2
theorem encB_len (ps : List (Int × Nat)) (h : Fits ps) : (encB ps).length ≤ 8 * ps.length := by
  induction ps with
  | nil => simp [encB]
  | cons p ps ih =>
    have h1 := h p (by simp)
    have h2 := ih (fun q hq => h q (by simp [hq]))
    simp only [encB, List.flatMap_cons, List.length_append, bytesB_length, List.length_cons] at *
    omega
theorem encB_succ (ps : List (Int × Nat)) (k : Nat) (h : k < ps.length) : encB (ps.take (k + 1)) = encB (ps.take k) ++ bytesB (ps[k]'h).2 (ps[k]'h).1 := by
  have e : ps.take (k + 1) = ps.take k ++ [ps[k]'h] := by rw [List.take_add_one, List.getElem?_eq_getElem h]; rfl
  rw [e]
  unfold encB
  rw [List.flatMap_append]; simp
theorem Fits.take {ps : List (Int × Nat)} (h : Fits ps) (k : Nat) : Fits (ps.take k) := fun p hp => h p (List.mem_of_mem_take hp)
set_option maxHeartbeats 2000000 in
theorem put_any (g : Nat) (ps : List (Int × Nat)) (n c : Nat) (t : TypeId) (w : World) (hg : w.heap[g]? = some (.cells (flatC ps).toArray t (0, 0))) (hn : n = 2 * ps.length) (hf : Fits ps) (hm : ps.length ≤ 1000) :
    Calls Try.prog 13 #[.slice (some ⟨g, 0, none⟩) n c] w fun e w' => ∃ A c', e = .returned (.slice A (encB ps).length c') ∧ Bs w' w.heap.size w'.heap.size A (encB ps) ∧ (encB ps).length ≤ c' ∧ c' ≤ 9223372036854775807 ∧ Below w.heap.size w w' := by
  subst hn
  have hgl : g < w.heap.size := by
    rcases Nat.lt_or_ge g w.heap.size with h | h
    · exact h
    · rw [Array.getElem?_eq_none h] at hg; cases hg
  have hlen := flatC_len ps
  have hm2 : (2 * ps.length : Nat) ≤ 2000 := by omega
  obtain ⟨n2, hn2⟩ : ∃ n2, n2 = 2 * ps.length := ⟨_, rfl⟩
  rw [← hn2]
  have HN := Lib.hid hn2
  have hn3 : n2 ≤ 2000 := by omega
  clear hn2 hm2
  go_enter Try.func13, Try.ntmps13
  go_wp2
  go_loopw [3, 4] (fun v i wr => ∃ k j : Nat, k ≤ ps.length ∧ Hid (j = 2 * k) ∧ i = .int .i64 j ∧ ∃ A c' L, v = .slice A (List.length L) c' ∧ Hid (L = encB (ps.take k)) ∧ L.length ≤ c' ∧ c' ≤ 9223372036854775807 ∧ Bs wr w.heap.size wr.heap.size A L ∧ Below w.heap.size w wr) (fun _ i _ => 2 * ps.length - (intOf i).toNat)
  case atStart => exact ⟨0, 0, by omega, rfl, rfl, none, 0, [], rfl, rfl, by simp, by omega, Bs.nil, Below.refl _ _⟩
  case round =>
    obtain ⟨k, j, hk, HJ, rfl, A, c', L, rfl, HL, hLc, hcm, hB, hb⟩ := hrel
    have hsz := hb.size
    by_cases hlt : k < ps.length
    · have hL8 : L.length ≤ 8 * k := by
        rw [HL.out]
        have := encB_len (ps.take k) (hf.take k)
        rw [List.length_take] at this; omega
      have hgr := (hb.block g hgl).trans hg
      have hat := flatC_at ps k hlt
      have hfit := hf _ (List.getElem_mem hlt)
      have hT : encB (ps.take (k + 1)) = L ++ bytesB (ps[k]'hlt).2 (ps[k]'hlt).1 := by rw [encB_succ ps k hlt, HL.out]
      generalize (ps[k]'hlt).1 = N at hat hfit hT
      generalize (ps[k]'hlt).2 = S at hat hfit hT
      have hj0 := HJ.out
      have hc0 : wr.cell? ⟨g, j, none⟩ = some (.int .u64 N) := by rw [cell_of_row _ _ _ _ _ _ hgr, hj0]; simpa using hat.1
      have hc1 : wr.cell? ⟨g, j + 1, none⟩ = some (.int .u64 S) := by rw [cell_of_row _ _ _ _ _ _ hgr, hj0]; simpa using hat.2
      have hjn : j + 1 < n2 := by have := HN.out; omega
      have hjI : ((j : Nat) : Int) + 1 < n2 := by omega
      have hi0 : (0 : Int) ≤ j := by omega
      have hi1 : (j : Int) < n2 := by omega
      have hi2 : (0 : Int) ≤ (j : Int) + 1 := by omega
      have hwj : IntKind.i64.wrap ((j : Int) + 1) = (j : Int) + 1 := by rw [IntKind.wrap_i64]; omega
      have hwS : IntKind.i64.wrap (S : Int) = (S : Int) := by rw [IntKind.wrap_i64]; omega
      have HT := Lib.hid hT
      have hE := append_ok A L.length c' w.heap.size wr.heap.size L N S wr.drew rfl (hB.drew) (Nat.le_refl _) (by omega) ⟨hfit.1, hfit.2.1⟩ hfit.2.2.1 hfit.2.2.2.1 hfit.2.2.2.2
      clear hT hat hgr hj0 hg
      go_wp2_with fail
      go_region_held3 (fun w' => w'.cell? ⟨g, j, none⟩ = some (.int .u64 N) ∧ w'.cell? ⟨g, j + 1, none⟩ = some (.int .u64 S) ∧ Below w.heap.size w w') (refine ⟨?_, ?_, ?_⟩ <;> first | assumption | exact Below.drew (by assumption) | exact drew_cell (by assumption)) (first
        | (go_at_call 16; ((with_reducible refine hE.mono ?_); rintro e w5 ⟨rfl, hO5, z5, hb5⟩; (have b5 : Below w.heap.size w w5 := (Below.drew hb).trans (hb5.mono hsz)); (have q0 := kept_cell hb5 (drew_cell hc0) (by show g < _; exact Nat.lt_of_lt_of_le hgl hsz)); (have q1 := kept_cell hb5 (drew_cell hc1) (by show g < _; exact Nat.lt_of_lt_of_le hgl hsz)))))
      have hO5' : Ow w5 wr.heap.size (some ⟨wr.heap.size, 0, none⟩) (L.length + S) (L ++ bytesB S N) := hO5
      have hlenT : (encB (ps.take (k + 1))).length = L.length + S := by rw [HT.out, List.length_append, bytesB_length]
      rw [← HT.out] at hO5'
      have z5' : wr.heap.size < w5.heap.size := by have : w5.heap.size = wr.heap.size + 1 := z5; omega
      clear hO5 hE hc0 hc1 q0 q1
      go_wp2
      exact ⟨⟨k + 1, j + 2, by omega, (show j + 2 = 2 * (k + 1) by have := HJ.out; omega), by go_num, _, _, encB (ps.take (k + 1)), by rw [hlenT], rfl, by rw [hlenT]; exact Nat.le_refl _, by omega, hO5'.bs.wide (by omega) (Nat.le_refl _), b5⟩, by have := HJ.out; simp [intOf]; omega⟩
    · obtain rfl : k = ps.length := by omega
      rw [List.take_length] at HL
      obtain rfl : j = n2 := by have := HJ.out; have := HN.out; omega
      have hjn : ¬ ((j : Int) + 1 < j) := by omega
      have hjb : (j : Int) ≤ 2000 := by omega
      have hL' : L = encB ps := HL.out
      subst hL'
      clear hg
      go_wp2
      go_ret
      exact ⟨A, c', rfl, hB, hLc, hcm, hb⟩
theorem i64_or2 (l v m : Int) (hl : 0 ≤ l ∧ l ≤ 3) (hv : 1 ≤ v ∧ v ≤ 4) (hm : 0 ≤ m ∧ m ≤ 7) : bits .or .i64 (bits .or .i64 (l * 64) (v * 8)) m = l * 64 + v * 8 + m := by
  have hl' : l = 0 ∨ l = 1 ∨ l = 2 ∨ l = 3 := by omega
  have hv' : v = 1 ∨ v = 2 ∨ v = 3 ∨ v = 4 := by omega
  have hm' : m = 0 ∨ m = 1 ∨ m = 2 ∨ m = 3 ∨ m = 4 ∨ m = 5 ∨ m = 6 ∨ m = 7 := by omega
  rcases hl' with rfl | rfl | rfl | rfl <;> rcases hv' with rfl | rfl | rfl | rfl <;> rcases hm' with rfl | rfl | rfl | rfl | rfl | rfl | rfl | rfl <;> decide
/-- the fields of a header as numbers and sizes -/
def ntpPairs (l v m st po pr rd rp id ref org rec xmt : Int) : List (Int × Nat) :=
  [(l * 64 + v * 8 + m, 1), (st, 1), (po % 256, 1), (pr % 256, 1), (rd, 4), (rp, 4), (id, 4), (ref, 8), (org, 8), (rec, 8), (xmt, 8)]
def encH (l v m st po pr rd rp id ref org rec xmt : Int) : List Int := encB (ntpPairs l v m st po pr rd rp id ref org rec xmt)
theorem encH_len (l v m st po pr rd rp id ref org rec xmt : Int) : (encH l v m st po pr rd rp id ref org rec xmt).length = 48 := by simp [encH, ntpPairs, encB, bytesB_length]
theorem nchk_ok {l v m st po pr : Int} (h : nchk l v m st po pr = 0) : (0 ≤ l ∧ l ≤ 3) ∧ (1 ≤ v ∧ v ≤ 4) ∧ (0 ≤ m ∧ m ≤ 7) ∧ (0 ≤ st ∧ st ≤ 255) ∧ (-128 ≤ po ∧ po ≤ 127) ∧ (-128 ≤ pr ∧ pr ≤ 127) := by
  unfold nchk at h; split at h <;> omega
theorem kept13 {w w1 : World} {t : TypeId} {cs : Array Value} (hb : Below (w.alloc (.cells cs t)).heap.size (w.alloc (.cells cs t)) w1) : w1.heap[w.heap.size]? = some (.cells cs t (0, 0)) :=
  (hb.block _ (by simp)).trans (heap_alloc_new w _)
theorem cells13 {w : World} {g : Nat} {t : TypeId} {a0 a1 a2 a3 a4 a5 a6 a7 a8 a9 a10 a11 a12 : Value} (h : w.heap[g]? = some (.cells #[a0, a1, a2, a3, a4, a5, a6, a7, a8, a9, a10, a11, a12] t (0, 0))) :
    w.cell? ⟨g, 0, none⟩ = some a0 ∧ w.cell? ⟨g, 1, none⟩ = some a1 ∧ w.cell? ⟨g, 2, none⟩ = some a2 ∧ w.cell? ⟨g, 3, none⟩ = some a3 ∧ w.cell? ⟨g, 4, none⟩ = some a4 ∧ w.cell? ⟨g, 5, none⟩ = some a5 ∧ w.cell? ⟨g, 6, none⟩ = some a6 ∧ w.cell? ⟨g, 7, none⟩ = some a7 ∧ w.cell? ⟨g, 8, none⟩ = some a8 ∧ w.cell? ⟨g, 9, none⟩ = some a9 ∧ w.cell? ⟨g, 10, none⟩ = some a10 ∧ w.cell? ⟨g, 11, none⟩ = some a11 ∧ w.cell? ⟨g, 12, none⟩ = some a12 :=
  ⟨cell_of_row _ _ 0 _ _ _ h, cell_of_row _ _ 1 _ _ _ h, cell_of_row _ _ 2 _ _ _ h, cell_of_row _ _ 3 _ _ _ h, cell_of_row _ _ 4 _ _ _ h, cell_of_row _ _ 5 _ _ _ h, cell_of_row _ _ 6 _ _ _ h, cell_of_row _ _ 7 _ _ _ h, cell_of_row _ _ 8 _ _ _ h, cell_of_row _ _ 9 _ _ _ h, cell_of_row _ _ 10 _ _ _ h, cell_of_row _ _ 11 _ _ _ h, cell_of_row _ _ 12 _ _ _ h⟩
end Go.Proofs.Ytghcaplhanjgbaa
