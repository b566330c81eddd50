/- What ntpmsg.Check, put, Encode and their references compute. What ntpmsg.Encode and its reference compute. What ntpmsg.Code, Kiss and Synced compute, and the law's own comparison of bytes; stamp of small readings of the reference. What the readers of package wire, and those of its reference, do. -/
import Derived.Test.YtachhbbofemfdaaDoorGZ2
import Derived.Test.YtachhbbofemfdaaDoorGZ4
import Derived.Test.YtachhbbofemfdaaDoorGZ1
namespace Go.Proofs.YtachhbbofemfdaaDoor
open Go.RowKit
set_option linter.unusedSimpArgs false
set_option linter.unusedVariables false
set_option maxRecDepth 100000
abbrev ntp (l v m st po pr rd rp id ref org rec xmt : Int) : Value := .agg #[.int .i64 l, .int .i64 v, .int .i64 m, .int .i64 st, .int .i64 po, .int .i64 pr, .int .u32 rd, .int .u32 rp, .int .u32 id, .int .u64 ref, .int .u64 org, .int .u64 rec, .int .u64 xmt]
def nchk (l v m st po pr : Int) : Int := if 0 ≤ l ∧ l ≤ 3 ∧ 1 ≤ v ∧ v ≤ 4 ∧ 0 ≤ m ∧ m ≤ 7 ∧ 0 ≤ st ∧ st ≤ 255 ∧ -128 ≤ po ∧ po ≤ 127 ∧ -128 ≤ pr ∧ pr ≤ 127 then 0 else 3
set_option maxHeartbeats 400000 in
theorem within_any (n lo hi : Int) (w : World) :
    Calls Tryd.prog 70 #[.int .i64 n, .int .i64 lo, .int .i64 hi] w fun e w' => e = .returned (.bool (decide (lo ≤ n ∧ n ≤ hi))) ∧ w = w' := by
  by_cases h1 : lo ≤ n <;> by_cases h2 : n ≤ hi
  all_goals
    go_enter Tryd.func70, Tryd.ntmps70
    go_wp2
    go_ret
    exact ⟨by simp [*], rfl⟩
set_option maxHeartbeats 1000000 in
theorem nchk_any (l v m st po pr rd rp id ref org rec xmt : Int) (w : World) :
    Calls Tryd.prog 39 #[ntp l v m st po pr rd rp id ref org rec xmt] w fun e w' => e = .returned (.int .i64 (nchk l v m st po pr)) ∧ Below w.heap.size w w' := by
  go_enter Tryd.func39, Tryd.ntmps39
  go_wp2_with (first | (go_at_call 70; ((with_reducible refine (within_any _ _ _ _).mono ?_); rintro e w1 ⟨rfl, rfl⟩)))
  all_goals
    go_ret
    refine ⟨ret_int ?_, by (repeat (first | assumption | exact Below.refl _ _ | refine Below.drew ?_ | refine below_drewN ?_ _ | refine Below.setCell ?_ (by first | omega | (simp; done) | (simp <;> omega)) _ | refine Below.alloc ?_ (by first | omega | (simp; done) | (simp <;> omega)) _ | refine Below.trans ?_ (Below.mono (by assumption) (by first | omega | (simp; done) | (simp <;> omega)))))⟩
    unfold nchk
    simp_all <;> omega
set_option maxHeartbeats 1000000 in
theorem rnchk_any (l v m st po pr rd rp id ref org rec xmt : Int) (w : World) :
    Calls Tryd.prog 42 #[ntp l v m st po pr rd rp id ref org rec xmt] w fun e w' => e = .returned (.int .i64 (nchk l v m st po pr)) ∧ Below w.heap.size w w' := by
  go_enter Tryd.func42, Tryd.ntmps42
  go_wp2
  all_goals
    go_ret
    refine ⟨ret_int ?_, by (repeat (first | assumption | exact Below.refl _ _ | refine Below.drew ?_ | refine below_drewN ?_ _ | refine Below.setCell ?_ (by first | omega | (simp; done) | (simp <;> omega)) _ | refine Below.alloc ?_ (by first | omega | (simp; done) | (simp <;> omega)) _ | refine Below.trans ?_ (Below.mono (by assumption) (by first | omega | (simp; done) | (simp <;> omega)))))⟩
    unfold nchk
    simp_all <;> omega
/-- numbers and their sizes, as put takes them -/
def flatC : List (Int × Nat) → List Value
  | [] => []
  | p :: ps => .int .u64 p.1 :: .int .u64 p.2 :: flatC ps
theorem flatC_len (ps : List (Int × Nat)) : (flatC ps).length = 2 * ps.length := by induction ps with
  | nil => rfl
  | cons p ps ih => simp [flatC, ih]; omega
theorem flatC_at (ps : List (Int × Nat)) : ∀ k (h : k < ps.length), (flatC ps)[2 * k]? = some (.int .u64 (ps[k]'h).1) ∧ (flatC ps)[2 * k + 1]? = some (.int .u64 (ps[k]'h).2) := by
  induction ps with
  | nil => intro k h; simp at h
  | cons p ps ih =>
    intro k h
    cases k with
    | zero => exact ⟨rfl, rfl⟩
    | succ k =>
      have := ih k (by simpa using h)
      rw [show 2 * (k + 1) = 2 * k + 1 + 1 by omega]
      simpa [flatC] using this
/-- the bytes of numbers -/
def encB (ps : List (Int × Nat)) : List Int := ps.flatMap fun p => bytesB p.2 p.1
/-- each number fits its size -/
def Fits (ps : List (Int × Nat)) : Prop := ∀ p ∈ ps, 0 ≤ p.1 ∧ p.1 < 18446744073709551616 ∧ 1 ≤ p.2 ∧ p.2 ≤ 8 ∧ p.1 < 256 ^ p.2
theorem encB_len (ps : List (Int × Nat)) (h : Fits ps) : (encB ps).length ≤ 8 * ps.length := by
  induction ps with
  | nil => simp [encB]
  | cons p ps ih =>
    have h1 := h p (by simp)
    have h2 := ih (fun q hq => h q (by simp [hq]))
    simp only [encB, List.flatMap_cons, List.length_append, bytesB_length, List.length_cons] at *
    omega
theorem encB_succ (ps : List (Int × Nat)) (k : Nat) (h : k < ps.length) : encB (ps.take (k + 1)) = encB (ps.take k) ++ bytesB (ps[k]'h).2 (ps[k]'h).1 := by
  have e : ps.take (k + 1) = ps.take k ++ [ps[k]'h] := by rw [List.take_add_one, List.getElem?_eq_getElem h]; rfl
  rw [e]
  unfold encB
  rw [List.flatMap_append]; simp
theorem Fits.take {ps : List (Int × Nat)} (h : Fits ps) (k : Nat) : Fits (ps.take k) := fun p hp => h p (List.mem_of_mem_take hp)
set_option maxHeartbeats 2000000 in
theorem put_any (g : Nat) (ps : List (Int × Nat)) (n c : Nat) (t : TypeId) (w : World) (hg : w.heap[g]? = some (.cells (flatC ps).toArray t (0, 0))) (hn : n = 2 * ps.length) (hf : Fits ps) (hm : ps.length ≤ 1000) :
    Calls Tryd.prog 96 #[.slice (some ⟨g, 0, none⟩) n c] w fun e w' => ∃ A c', e = .returned (.slice A (encB ps).length c') ∧ Bs w' w.heap.size w'.heap.size A (encB ps) ∧ (encB ps).length ≤ c' ∧ c' ≤ 9223372036854775807 ∧ Below w.heap.size w w' := by
  subst hn
  have hgl : g < w.heap.size := by
    rcases Nat.lt_or_ge g w.heap.size with h | h
    · exact h
    · rw [Array.getElem?_eq_none h] at hg; cases hg
  have hlen := flatC_len ps
  have hm2 : (2 * ps.length : Nat) ≤ 2000 := by omega
  obtain ⟨n2, hn2⟩ : ∃ n2, n2 = 2 * ps.length := ⟨_, rfl⟩
  rw [← hn2]
  have HN := Lib.hid hn2
  have hn3 : n2 ≤ 2000 := by omega
  clear hn2 hm2
  go_enter Tryd.func96, Tryd.ntmps96
  go_wp2
  go_loopw [3, 4] (fun v i wr => ∃ k j : Nat, k ≤ ps.length ∧ Hid (j = 2 * k) ∧ i = .int .i64 j ∧ ∃ A c' L, v = .slice A (List.length L) c' ∧ Hid (L = encB (ps.take k)) ∧ L.length ≤ c' ∧ c' ≤ 9223372036854775807 ∧ Bs wr w.heap.size wr.heap.size A L ∧ Below w.heap.size w wr) (fun _ i _ => 2 * ps.length - (intOf i).toNat)
  case atStart => exact ⟨0, 0, by omega, rfl, rfl, none, 0, [], rfl, rfl, by simp, by omega, Bs.nil, Below.refl _ _⟩
  case round =>
    obtain ⟨k, j, hk, HJ, rfl, A, c', L, rfl, HL, hLc, hcm, hB, hb⟩ := hrel
    have hsz := hb.size
    by_cases hlt : k < ps.length
    · have hL8 : L.length ≤ 8 * k := by
        rw [HL.out]
        have := encB_len (ps.take k) (hf.take k)
        rw [List.length_take] at this; omega
      have hgr := (hb.block g hgl).trans hg
      have hat := flatC_at ps k hlt
      have hfit := hf _ (List.getElem_mem hlt)
      have hT : encB (ps.take (k + 1)) = L ++ bytesB (ps[k]'hlt).2 (ps[k]'hlt).1 := by rw [encB_succ ps k hlt, HL.out]
      generalize (ps[k]'hlt).1 = N at hat hfit hT
      generalize (ps[k]'hlt).2 = S at hat hfit hT
      have hj0 := HJ.out
      have hc0 : wr.cell? ⟨g, j, none⟩ = some (.int .u64 N) := by rw [cell_of_row _ _ _ _ _ _ hgr, hj0]; simpa using hat.1
      have hc1 : wr.cell? ⟨g, j + 1, none⟩ = some (.int .u64 S) := by rw [cell_of_row _ _ _ _ _ _ hgr, hj0]; simpa using hat.2
      have hjn : j + 1 < n2 := by have := HN.out; omega
      have hjI : ((j : Nat) : Int) + 1 < n2 := by omega
      have hi0 : (0 : Int) ≤ j := by omega
      have hi1 : (j : Int) < n2 := by omega
      have hi2 : (0 : Int) ≤ (j : Int) + 1 := by omega
      have hwj : IntKind.i64.wrap ((j : Int) + 1) = (j : Int) + 1 := by rw [IntKind.wrap_i64]; omega
      have hwS : IntKind.i64.wrap (S : Int) = (S : Int) := by rw [IntKind.wrap_i64]; omega
      have HT := Lib.hid hT
      have hE := append_ok A L.length c' w.heap.size wr.heap.size L N S wr.drew rfl (hB.drew) (Nat.le_refl _) (by omega) ⟨hfit.1, hfit.2.1⟩ hfit.2.2.1 hfit.2.2.2.1 hfit.2.2.2.2
      clear hT hat hgr hj0 hg
      go_wp2_with fail
      go_region_held3 (fun w' => w'.cell? ⟨g, j, none⟩ = some (.int .u64 N) ∧ w'.cell? ⟨g, j + 1, none⟩ = some (.int .u64 S) ∧ Below w.heap.size w w') (refine ⟨?_, ?_, ?_⟩ <;> first | assumption | exact Below.drew (by assumption) | exact drew_cell (by assumption)) (first
        | (go_at_call 45; ((with_reducible refine hE.mono ?_); rintro e w5 ⟨rfl, hO5, z5, hb5⟩; (have b5 : Below w.heap.size w w5 := (Below.drew hb).trans (hb5.mono hsz)); (have q0 := kept_cell hb5 (drew_cell hc0) (by show g < _; exact Nat.lt_of_lt_of_le hgl hsz)); (have q1 := kept_cell hb5 (drew_cell hc1) (by show g < _; exact Nat.lt_of_lt_of_le hgl hsz)))))
      have hO5' : Ow w5 wr.heap.size (some ⟨wr.heap.size, 0, none⟩) (L.length + S) (L ++ bytesB S N) := hO5
      have hlenT : (encB (ps.take (k + 1))).length = L.length + S := by rw [HT.out, List.length_append, bytesB_length]
      rw [← HT.out] at hO5'
      have z5' : wr.heap.size < w5.heap.size := by have : w5.heap.size = wr.heap.size + 1 := z5; omega
      clear hO5 hE hc0 hc1 q0 q1
      go_wp2
      exact ⟨⟨k + 1, j + 2, by omega, (show j + 2 = 2 * (k + 1) by have := HJ.out; omega), by go_num, _, _, encB (ps.take (k + 1)), by rw [hlenT], rfl, by rw [hlenT]; exact Nat.le_refl _, by omega, hO5'.bs.wide (by omega) (Nat.le_refl _), b5⟩, by have := HJ.out; simp [intOf]; omega⟩
    · obtain rfl : k = ps.length := by omega
      rw [List.take_length] at HL
      obtain rfl : j = n2 := by have := HJ.out; have := HN.out; omega
      have hjn : ¬ ((j : Int) + 1 < j) := by omega
      have hjb : (j : Int) ≤ 2000 := by omega
      have hL' : L = encB ps := HL.out
      subst hL'
      clear hg
      go_wp2
      go_ret
      exact ⟨A, c', rfl, hB, hLc, hcm, hb⟩
set_option maxHeartbeats 2000000 in
theorem rput_any (A : Option Addr) (nl c lo : Nat) (l : List Int) (n : Int) (s : Nat) (w : World) (hnl : l.length = nl) (h : Ow w lo A c l) (hlo : lo ≤ w.heap.size) (hm : nl ≤ 1000) (hn : 0 ≤ n ∧ n < 18446744073709551616) (hs1 : 1 ≤ s) (hs2 : s ≤ 8) :
    Calls Tryd.prog 99 #[.slice A nl c, .int .u64 n, .int .i64 s] w fun e w' => ∃ A' c', e = .returned (.slice A' (nl + s) c') ∧ Ow w' lo A' c' (l ++ bytesB s n) ∧ Below lo w w' := by
  subst hnl
  have hn1 := hn.1
  have hn2 := hn.2
  have hi1 : (1 : Int) ≤ s := by omega
  have hi2 : (s : Int) ≤ 8 := by omega
  have hO2 : Ow w lo A c (l ++ (bytesB s n).take 0) := by simpa using h
  have hb2 : Below lo w w := Below.refl _ _
  go_enter Tryd.func99, Tryd.ntmps99
  go_wp2
  go_loopw [0, 7] (fun v i wr => ∃ k : Nat, k ≤ s ∧ ∃ A' c', v = .slice A' (l.length + k) c' ∧ i = .int .i64 ((s : Int) - 1 - k) ∧ Ow wr lo A' c' (l ++ (bytesB s n).take k) ∧ Below lo w wr) (fun v i _ => (intOf i + 1).toNat)
  case atStart => exact ⟨0, by omega, _, _, by simp, by simp, hO2, hb2⟩
  case round =>
    obtain ⟨k, hk, A', c', rfl, rfl, hR, hbr⟩ := hrel
    clear hO2 hb2
    by_cases hlt : k < s
    · have hlen : (l ++ (bytesB s n).take k).length = l.length + k := by simp [bytesB_length]; omega
      have hv := bytesB_at s n k hlt
      rw [← pow256] at hv
      have hx := (bytesB_byt s n).at k
      have hO3 := hR.alloc (.cells #[.int .u8 (n / 2 ^ (8 * (s - 1 - k)) % 256)] 5)
      have hL := Ow.lit wr [atB (bytesB s n) k] #[.int .u8 (n / 2 ^ (8 * (s - 1 - k)) % 256)] (by simp [hv]) (Byt.nil.cons hx.1 hx.2) (by simp)
      have hsz := hbr.size
      have hT : l ++ (bytesB s n).take (k + 1) = (l ++ (bytesB s n).take k) ++ [atB (bytesB s n) k] := by rw [take_succ' _ k (by rw [bytesB_length]; exact hlt), List.append_assoc]
      go_wp2_with (at_builtin; refine wpList_append_bs rfl (.tmp 14) (.tmp 20) rfl (l.length + k) c' 1 1 (by rfl) (by rfl) hlen rfl hO3 hL.bs (by omega) (by simp; omega) ?_; intro A2 c2 w2 hO4 hb4 _)
      rw [← hT] at hO4
      exact ⟨⟨k + 1, by omega, A2, c2, rfl, by go_num, hO4, (hbr.alloc (by omega) _).trans hb4⟩, by simp [intOf]; omega⟩
    · obtain rfl : k = s := by omega
      rw [List.take_of_length_le (by rw [bytesB_length]; omega)] at hR
      go_wp2
      go_ret
      exact ⟨A', c', rfl, hR, hbr⟩
theorem i64_or2 (l v m : Int) (hl : 0 ≤ l ∧ l ≤ 3) (hv : 1 ≤ v ∧ v ≤ 4) (hm : 0 ≤ m ∧ m ≤ 7) : bits .or .i64 (bits .or .i64 (l * 64) (v * 8)) m = l * 64 + v * 8 + m := by
  have hl' : l = 0 ∨ l = 1 ∨ l = 2 ∨ l = 3 := by omega
  have hv' : v = 1 ∨ v = 2 ∨ v = 3 ∨ v = 4 := by omega
  have hm' : m = 0 ∨ m = 1 ∨ m = 2 ∨ m = 3 ∨ m = 4 ∨ m = 5 ∨ m = 6 ∨ m = 7 := by omega
  rcases hl' with rfl | rfl | rfl | rfl <;> rcases hv' with rfl | rfl | rfl | rfl <;> rcases hm' with rfl | rfl | rfl | rfl | rfl | rfl | rfl | rfl <;> decide
/-- the fields of a header as numbers and sizes -/
def ntpPairs (l v m st po pr rd rp id ref org rec xmt : Int) : List (Int × Nat) :=
  [(l * 64 + v * 8 + m, 1), (st, 1), (po % 256, 1), (pr % 256, 1), (rd, 4), (rp, 4), (id, 4), (ref, 8), (org, 8), (rec, 8), (xmt, 8)]
def encH (l v m st po pr rd rp id ref org rec xmt : Int) : List Int := encB (ntpPairs l v m st po pr rd rp id ref org rec xmt)
theorem encH_len (l v m st po pr rd rp id ref org rec xmt : Int) : (encH l v m st po pr rd rp id ref org rec xmt).length = 48 := by simp [encH, ntpPairs, encB, bytesB_length]
theorem nchk_ok {l v m st po pr : Int} (h : nchk l v m st po pr = 0) : (0 ≤ l ∧ l ≤ 3) ∧ (1 ≤ v ∧ v ≤ 4) ∧ (0 ≤ m ∧ m ≤ 7) ∧ (0 ≤ st ∧ st ≤ 255) ∧ (-128 ≤ po ∧ po ≤ 127) ∧ (-128 ≤ pr ∧ pr ≤ 127) := by
  unfold nchk at h; split at h <;> omega
theorem kept13 {w w1 : World} {t : TypeId} {cs : Array Value} (hb : Below (w.alloc (.cells cs t)).heap.size (w.alloc (.cells cs t)) w1) : w1.heap[w.heap.size]? = some (.cells cs t (0, 0)) :=
  (hb.block _ (by simp)).trans (heap_alloc_new w _)
theorem cells13 {w : World} {g : Nat} {t : TypeId} {a0 a1 a2 a3 a4 a5 a6 a7 a8 a9 a10 a11 a12 : Value} (h : w.heap[g]? = some (.cells #[a0, a1, a2, a3, a4, a5, a6, a7, a8, a9, a10, a11, a12] t (0, 0))) :
    w.cell? ⟨g, 0, none⟩ = some a0 ∧ w.cell? ⟨g, 1, none⟩ = some a1 ∧ w.cell? ⟨g, 2, none⟩ = some a2 ∧ w.cell? ⟨g, 3, none⟩ = some a3 ∧ w.cell? ⟨g, 4, none⟩ = some a4 ∧ w.cell? ⟨g, 5, none⟩ = some a5 ∧ w.cell? ⟨g, 6, none⟩ = some a6 ∧ w.cell? ⟨g, 7, none⟩ = some a7 ∧ w.cell? ⟨g, 8, none⟩ = some a8 ∧ w.cell? ⟨g, 9, none⟩ = some a9 ∧ w.cell? ⟨g, 10, none⟩ = some a10 ∧ w.cell? ⟨g, 11, none⟩ = some a11 ∧ w.cell? ⟨g, 12, none⟩ = some a12 :=
  ⟨cell_of_row _ _ 0 _ _ _ h, cell_of_row _ _ 1 _ _ _ h, cell_of_row _ _ 2 _ _ _ h, cell_of_row _ _ 3 _ _ _ h, cell_of_row _ _ 4 _ _ _ h, cell_of_row _ _ 5 _ _ _ h, cell_of_row _ _ 6 _ _ _ h, cell_of_row _ _ 7 _ _ _ h, cell_of_row _ _ 8 _ _ _ h, cell_of_row _ _ 9 _ _ _ h, cell_of_row _ _ 10 _ _ _ h, cell_of_row _ _ 11 _ _ _ h, cell_of_row _ _ 12 _ _ _ h⟩
end Go.Proofs.YtachhbbofemfdaaDoor
namespace Go.Proofs.YtachhbbofemfdaaDoor
open Go.RowKit
set_option linter.unusedSimpArgs false
set_option linter.unusedVariables false
set_option maxRecDepth 100000
set_option maxHeartbeats 2000000 in
theorem encode_ok (l v m st po pr rd rp id ref org rec xmt : Int) (w : World) (hk : nchk l v m st po pr = 0) (h6 : 0 ≤ rd ∧ rd ≤ 4294967295) (h7 : 0 ≤ rp ∧ rp ≤ 4294967295) (h8 : 0 ≤ id ∧ id ≤ 4294967295)
    (h9 : 0 ≤ ref ∧ ref ≤ 18446744073709551615) (h10 : 0 ≤ org ∧ org ≤ 18446744073709551615) (h11 : 0 ≤ rec ∧ rec ≤ 18446744073709551615) (h12 : 0 ≤ xmt ∧ xmt ≤ 18446744073709551615) :
    Calls Tryd.prog 71 #[ntp l v m st po pr rd rp id ref org rec xmt] w fun e w' => ∃ A c, e = .returned (.tuple #[.slice A 48 c, .int .i64 0]) ∧ Bs w' w.heap.size w'.heap.size A (encH l v m st po pr rd rp id ref org rec xmt) ∧ 48 ≤ c ∧ c ≤ 9223372036854775807 ∧ Below w.heap.size w w' := by
  obtain ⟨kl, kv, km, kst, kpo, kpr⟩ := nchk_ok hk
  have ho := i64_or2 l v m kl kv km
  have hw1 : IntKind.u64.wrap (l * 64 + v * 8 + m) = l * 64 + v * 8 + m := by rw [IntKind.wrap_u64]; omega
  have hw2 : IntKind.u64.wrap st = st := by rw [IntKind.wrap_u64]; omega
  have hw3 : IntKind.u64.wrap (po % 256) = po % 256 := by rw [IntKind.wrap_u64]; omega
  have hw4 : IntKind.u64.wrap (pr % 256) = pr % 256 := by rw [IntKind.wrap_u64]; omega
  have hw5 : IntKind.u64.wrap rd = rd := by rw [IntKind.wrap_u64]; omega
  have hw6 : IntKind.u64.wrap rp = rp := by rw [IntKind.wrap_u64]; omega
  have hw7 : IntKind.u64.wrap id = id := by rw [IntKind.wrap_u64]; omega
  have hw8 : IntKind.u8.wrap po = po % 256 := IntKind.wrap_u8 _
  have hw9 : IntKind.u8.wrap pr = pr % 256 := IntKind.wrap_u8 _
  have hf : Fits (ntpPairs l v m st po pr rd rp id ref org rec xmt) := by
    intro p hp
    simp only [ntpPairs, List.mem_cons, List.not_mem_nil, or_false] at hp
    rcases hp with rfl | rfl | rfl | rfl | rfl | rfl | rfl | rfl | rfl | rfl | rfl <;> simp <;> omega
  have hc := nchk_any l v m st po pr rd rp id ref org rec xmt
  simp only [hk] at hc
  go_enter Tryd.func71, Tryd.ntmps71
  go_wp2_with (first | (go_at_call 39; ((with_reducible refine (hc _).mono ?_); rintro e w1 ⟨rfl, hb1⟩; (have q := cells13 (kept13 hb1)); (obtain ⟨q0, q1, q2, q3, q4, q5, q6, q7, q8, q9, q10, q11, q12⟩ := q))))
  have hP := put_any w1.heap.size (ntpPairs l v m st po pr rd rp id ref org rec xmt) 22 22 22 (w1.alloc (.cells #[.int .u64 (l * 64 + v * 8 + m), .int .u64 1, .int .u64 st, .int .u64 1, .int .u64 (po % 256), .int .u64 1, .int .u64 (pr % 256), .int .u64 1, .int .u64 rd, .int .u64 4, .int .u64 rp, .int .u64 4, .int .u64 id, .int .u64 4, .int .u64 ref, .int .u64 8, .int .u64 org, .int .u64 8, .int .u64 rec, .int .u64 8, .int .u64 xmt, .int .u64 8] 22)) (heap_alloc_new w1 _) rfl hf (by simp [ntpPairs])
  have hl48 : (encB (ntpPairs l v m st po pr rd rp id ref org rec xmt)).length = 48 := encH_len l v m st po pr rd rp id ref org rec xmt
  rw [hl48] at hP
  with_reducible refine hP.mono ?_
  rintro e w2 ⟨A, c, rfl, hB, hc48, hcm, hb2⟩
  have b1 : Below w.heap.size w w1 := ((Below.refl w.heap.size w).alloc (Nat.le_refl _) _).trans (hb1.mono (by simp))
  have b2 : Below w.heap.size w w2 := (b1.alloc b1.size _).trans (hb2.mono (by have := b1.size; simp; omega))
  clear q0 q1 q2 q3 q4 q5 q6 q7 q8 q9 q10 q11 q12 hP hb1
  go_wp2
  go_ret2
  exact ⟨A, c, rfl, hB.wide (by have := b1.size; simp; omega) (Nat.le_refl _), hc48, hcm, b2⟩
theorem nchk_3 {l v m st po pr : Int} (h : nchk l v m st po pr ≠ 0) : nchk l v m st po pr = 3 := by unfold nchk at *; split <;> simp_all
set_option maxHeartbeats 1000000 in
theorem encode_err (l v m st po pr rd rp id ref org rec xmt : Int) (w : World) (hk : nchk l v m st po pr = 3) :
    Calls Tryd.prog 71 #[ntp l v m st po pr rd rp id ref org rec xmt] w fun e w' => e = .returned (.tuple #[.slice none 0 0, .int .i64 3]) ∧ Below w.heap.size w w' := by
  have hc := nchk_any l v m st po pr rd rp id ref org rec xmt
  simp only [hk] at hc
  go_enter Tryd.func71, Tryd.ntmps71
  go_wp2_with (first | (go_at_call 39; ((with_reducible refine (hc _).mono ?_); rintro e w1 ⟨rfl, hb1⟩)))
  have b1 : Below w.heap.size w w1 := ((Below.refl w.heap.size w).alloc (Nat.le_refl _) _).trans (hb1.mono (by simp))
  go_ret2
  exact ⟨rfl, b1⟩
theorem i64_and255 (n : Int) : bits .and .i64 n 255 = n % 256 := by
  have hm : (BitVec.ofInt 64 255).toNat = 2 ^ 8 - 1 := by decide
  have key : (BitVec.ofInt 64 n &&& BitVec.ofInt 64 255).toNat = (n % ((2 ^ 64 : Nat) : Int)).toNat % 2 ^ 8 := by
    rw [BitVec.toNat_and, BitVec.toNat_ofInt, hm, Nat.and_two_pow_sub_one_eq_mod]
  show IntKind.i64.wrap ((BitVec.ofInt 64 n &&& BitVec.ofInt 64 255).toNat : Nat) = n % 256
  rw [key, IntKind.wrap_i64]
  omega
set_option maxHeartbeats 1000000 in
theorem rencode_err (l v m st po pr rd rp id ref org rec xmt : Int) (w : World) (hk : nchk l v m st po pr = 3) :
    Calls Tryd.prog 75 #[ntp l v m st po pr rd rp id ref org rec xmt] w fun e w' => e = .returned (.tuple #[.slice none 0 0, .int .i64 3]) ∧ Below w.heap.size w w' := by
  have hc := rnchk_any l v m st po pr rd rp id ref org rec xmt
  simp only [hk] at hc
  go_enter Tryd.func75, Tryd.ntmps75
  go_wp2_with (first | (go_at_call 42; ((with_reducible refine (hc _).mono ?_); rintro e w1 ⟨rfl, hb1⟩)))
  have b1 : Below w.heap.size w w1 := ((Below.refl w.heap.size w).alloc (Nat.le_refl _) _).trans (hb1.mono (by simp))
  go_ret2
  exact ⟨rfl, b1⟩
theorem rput_lit (A : Option Addr) (nl c lo : Nat) (l : List Int) (n : Int) (s : Nat) (si : Int) (w : World) (hsi : ((s : Nat) : Int) = si) (hnl : l.length = nl) (h : Ow w lo A c l) (hlo : lo ≤ w.heap.size) (hm : nl ≤ 1000) (hn : 0 ≤ n ∧ n < 18446744073709551616) (hs1 : 1 ≤ s) (hs2 : s ≤ 8) :
    Calls Tryd.prog 99 #[.slice A nl c, .int .u64 n, .int .i64 si] w fun e w' => ∃ A' c', e = .returned (.slice A' (nl + s) c') ∧ Ow w' lo A' c' (l ++ bytesB s n) ∧ Below lo w w' := by
  subst hsi
  exact rput_any A nl c lo l n s w hnl h hlo hm hn hs1 hs2
theorem encH_split (l v m st po pr rd rp id ref org rec xmt : Int) (h0 : 0 ≤ l * 64 + v * 8 + m ∧ l * 64 + v * 8 + m ≤ 255) (hst : 0 ≤ st ∧ st ≤ 255) :
    encH l v m st po pr rd rp id ref org rec xmt = [l * 64 + v * 8 + m, st, po % 256, pr % 256] ++ bytesB 4 rd ++ bytesB 4 rp ++ bytesB 4 id ++ bytesB 8 ref ++ bytesB 8 org ++ bytesB 8 rec ++ bytesB 8 xmt := by
  have e1 : bytesB 1 (l * 64 + v * 8 + m) = [l * 64 + v * 8 + m] := by simp [bytesB]; omega
  have e2 : bytesB 1 st = [st] := by simp [bytesB]; omega
  have e3 : bytesB 1 (po % 256) = [po % 256] := by simp [bytesB]
  have e4 : bytesB 1 (pr % 256) = [pr % 256] := by simp [bytesB]
  simp only [encH, ntpPairs, encB, List.flatMap_cons, List.flatMap_nil, e1, e2, e3, e4, List.append_nil, List.append_assoc, List.cons_append, List.nil_append]
set_option maxHeartbeats 4000000 in
theorem rencode_ok (l v m st po pr rd rp id ref org rec xmt : Int) (w : World) (hk : nchk l v m st po pr = 0) (h6 : 0 ≤ rd ∧ rd ≤ 4294967295) (h7 : 0 ≤ rp ∧ rp ≤ 4294967295) (h8 : 0 ≤ id ∧ id ≤ 4294967295)
    (h9 : 0 ≤ ref ∧ ref ≤ 18446744073709551615) (h10 : 0 ≤ org ∧ org ≤ 18446744073709551615) (h11 : 0 ≤ rec ∧ rec ≤ 18446744073709551615) (h12 : 0 ≤ xmt ∧ xmt ≤ 18446744073709551615) :
    Calls Tryd.prog 75 #[ntp l v m st po pr rd rp id ref org rec xmt] w fun e w' => ∃ A c, e = .returned (.tuple #[.slice A 48 c, .int .i64 0]) ∧ Bs w' w.heap.size w'.heap.size A (encH l v m st po pr rd rp id ref org rec xmt) ∧ Below w.heap.size w w' := by
  obtain ⟨kl, kv, km, kst, kpo, kpr⟩ := nchk_ok hk
  have hw1 : IntKind.u8.wrap (l * 64 + v * 8 + m) = l * 64 + v * 8 + m := by rw [IntKind.wrap_u8]; omega
  have hw2 : IntKind.u8.wrap st = st := by rw [IntKind.wrap_u8]; omega
  have ha1 := i64_and255 po
  have ha2 := i64_and255 pr
  have hw3 : IntKind.u8.wrap (po % 256) = po % 256 := by rw [IntKind.wrap_u8]; omega
  have hw4 : IntKind.u8.wrap (pr % 256) = pr % 256 := by rw [IntKind.wrap_u8]; omega
  have hw5 : IntKind.u64.wrap rd = rd := by rw [IntKind.wrap_u64]; omega
  have hw6 : IntKind.u64.wrap rp = rp := by rw [IntKind.wrap_u64]; omega
  have hw7 : IntKind.u64.wrap id = id := by rw [IntKind.wrap_u64]; omega
  have hS := encH_split l v m st po pr rd rp id ref org rec xmt (by omega) kst
  obtain ⟨l0, hl0⟩ : ∃ l0, l0 = [l * 64 + v * 8 + m, st, po % 256, pr % 256] := ⟨_, rfl⟩
  have hy0 : Byt l0 := by
    rw [hl0]; intro x hx
    simp only [List.mem_cons, List.not_mem_nil, or_false] at hx
    rcases hx with rfl | rfl | rfl | rfl <;> omega
  have hlen0 : l0.length = 4 := by rw [hl0]; rfl
  rw [← hl0] at hS
  have hc := rnchk_any l v m st po pr rd rp id ref org rec xmt
  simp only [hk] at hc
  go_enter Tryd.func75, Tryd.ntmps75
  go_wp2_with (first | (go_at_call 42; ((with_reducible refine (hc _).mono ?_); rintro e w1 ⟨rfl, hb1⟩; (have z1 : w.heap.size < w1.heap.size := by have := hb1.size; simp at this; omega); (have qb := kept13 hb1); (have q := cells13 qb); (obtain ⟨q0, q1, q2, q3, q4, q5, q6, q7, q8, q9, q10, q11, q12⟩ := q))))
  have b1 : Below w.heap.size w w1 := ((Below.refl w.heap.size w).alloc (Nat.le_refl _) _).trans (hb1.mono (by simp))
  clear q0 q1 q2 q3 q4 q5 q6 q7 q8 q9 q10 q11 q12 hb1 hc
  have hL : Ow (w1.alloc (.cells #[.int .u8 (l * 64 + v * 8 + m), .int .u8 st, .int .u8 (po % 256), .int .u8 (pr % 256)] 5)) w1.heap.size (some ⟨w1.heap.size, 0, none⟩) l0.length l0 :=
    Ow.lit w1 l0 #[.int .u8 (l * 64 + v * 8 + m), .int .u8 st, .int .u8 (po % 256), .int .u8 (pr % 256)] (by rw [hl0]; rfl) hy0 (by rw [hlen0]; omega)
  rw [hlen0] at hL
  have qb2 := (Below.heap_alloc w1 (.cells #[.int .u8 (l * 64 + v * 8 + m), .int .u8 st, .int .u8 (po % 256), .int .u8 (pr % 256)] 5) w.heap.size z1).trans qb
  have b2 : Below w.heap.size w (w1.alloc (.cells #[.int .u8 (l * 64 + v * 8 + m), .int .u8 st, .int .u8 (po % 256), .int .u8 (pr % 256)] 5)) := b1.alloc b1.size _
  have z2 : w1.heap.size ≤ (w1.alloc (.cells #[.int .u8 (l * 64 + v * 8 + m), .int .u8 st, .int .u8 (po % 256), .int .u8 (pr % 256)] 5)).heap.size := by simp
  obtain ⟨wa, hwa⟩ : ∃ wa, wa = w1.alloc (.cells #[.int .u8 (l * 64 + v * 8 + m), .int .u8 st, .int .u8 (po % 256), .int .u8 (pr % 256)] 5) := ⟨_, rfl⟩
  rw [← hwa] at hL qb2 b2 z2
  have hwa' := hwa.symm
  clear hwa
  rw [hwa']
  have qc := cells13 qb2
  obtain ⟨q0, q1, q2, q3, q4, q5, q6, q7, q8, q9, q10, q11, q12⟩ := qc
  go_wp2_with fail
  have hE := rput_lit _ 4 _ w1.heap.size l0 rd 4 4 _ rfl hlen0 hL z2 (by omega) (by omega) (by omega) (by omega)
  with_reducible refine hE.mono ?_
  rintro e w3 ⟨A', c', rfl, hO3, hb⟩
  obtain ⟨l3, hl2e⟩ : ∃ z, z = l0 ++ bytesB 4 rd := ⟨_, rfl⟩
  rw [← hl2e] at hO3
  have hl3 : (l3).length = 4 + 4 := by rw [hl2e, List.length_append, hlen0, bytesB_length]
  rw [← hl2e] at hS
  have qb3 := (hb.block w.heap.size z1).trans qb2
  have b3 := (b2).trans (hb.mono (by omega))
  have z3 := Nat.le_trans z2 hb.size
  clear q0 q1 q2 q3 q4 q5 q6 q7 q8 q9 q10 q11 q12 hE hb hL qb2 hl2e
  have qc := cells13 qb3
  obtain ⟨q0, q1, q2, q3, q4, q5, q6, q7, q8, q9, q10, q11, q12⟩ := qc
  go_wp2_with fail
  have hE := rput_lit _ 8 _ w1.heap.size l3 rp 4 4 _ rfl hl3 hO3 z3 (by omega) (by omega) (by omega) (by omega)
  with_reducible refine hE.mono ?_
  rintro e w4 ⟨A', c', rfl, hO4, hb⟩
  obtain ⟨l4, hl2e⟩ : ∃ z, z = l3 ++ bytesB 4 rp := ⟨_, rfl⟩
  rw [← hl2e] at hO4
  have hl4 : (l4).length = 8 + 4 := by rw [hl2e, List.length_append, hl3, bytesB_length]
  rw [← hl2e] at hS
  have qb4 := (hb.block w.heap.size z1).trans qb3
  have b4 := (b3).trans (hb.mono (by omega))
  have z4 := Nat.le_trans z3 hb.size
  clear q0 q1 q2 q3 q4 q5 q6 q7 q8 q9 q10 q11 q12 hE hb hO3 qb3 hl2e
  have qc := cells13 qb4
  obtain ⟨q0, q1, q2, q3, q4, q5, q6, q7, q8, q9, q10, q11, q12⟩ := qc
  go_wp2_with fail
  have hE := rput_lit _ 12 _ w1.heap.size l4 id 4 4 _ rfl hl4 hO4 z4 (by omega) (by omega) (by omega) (by omega)
  with_reducible refine hE.mono ?_
  rintro e w5 ⟨A', c', rfl, hO5, hb⟩
  obtain ⟨l5, hl2e⟩ : ∃ z, z = l4 ++ bytesB 4 id := ⟨_, rfl⟩
  rw [← hl2e] at hO5
  have hl5 : (l5).length = 12 + 4 := by rw [hl2e, List.length_append, hl4, bytesB_length]
  rw [← hl2e] at hS
  have qb5 := (hb.block w.heap.size z1).trans qb4
  have b5 := (b4).trans (hb.mono (by omega))
  have z5 := Nat.le_trans z4 hb.size
  clear q0 q1 q2 q3 q4 q5 q6 q7 q8 q9 q10 q11 q12 hE hb hO4 qb4 hl2e
  have qc := cells13 qb5
  obtain ⟨q0, q1, q2, q3, q4, q5, q6, q7, q8, q9, q10, q11, q12⟩ := qc
  go_wp2_with fail
  have hE := rput_lit _ 16 _ w1.heap.size l5 ref 8 8 _ rfl hl5 hO5 z5 (by omega) (by omega) (by omega) (by omega)
  with_reducible refine hE.mono ?_
  rintro e w6 ⟨A', c', rfl, hO6, hb⟩
  obtain ⟨l6, hl2e⟩ : ∃ z, z = l5 ++ bytesB 8 ref := ⟨_, rfl⟩
  rw [← hl2e] at hO6
  have hl6 : (l6).length = 16 + 8 := by rw [hl2e, List.length_append, hl5, bytesB_length]
  rw [← hl2e] at hS
  have qb6 := (hb.block w.heap.size z1).trans qb5
  have b6 := (b5).trans (hb.mono (by omega))
  have z6 := Nat.le_trans z5 hb.size
  clear q0 q1 q2 q3 q4 q5 q6 q7 q8 q9 q10 q11 q12 hE hb hO5 qb5 hl2e
  have qc := cells13 qb6
  obtain ⟨q0, q1, q2, q3, q4, q5, q6, q7, q8, q9, q10, q11, q12⟩ := qc
  go_wp2_with fail
  have hE := rput_lit _ 24 _ w1.heap.size l6 org 8 8 _ rfl hl6 hO6 z6 (by omega) (by omega) (by omega) (by omega)
  with_reducible refine hE.mono ?_
  rintro e w7 ⟨A', c', rfl, hO7, hb⟩
  obtain ⟨l7, hl2e⟩ : ∃ z, z = l6 ++ bytesB 8 org := ⟨_, rfl⟩
  rw [← hl2e] at hO7
  have hl7 : (l7).length = 24 + 8 := by rw [hl2e, List.length_append, hl6, bytesB_length]
  rw [← hl2e] at hS
  have qb7 := (hb.block w.heap.size z1).trans qb6
  have b7 := (b6).trans (hb.mono (by omega))
  have z7 := Nat.le_trans z6 hb.size
  clear q0 q1 q2 q3 q4 q5 q6 q7 q8 q9 q10 q11 q12 hE hb hO6 qb6 hl2e
  have qc := cells13 qb7
  obtain ⟨q0, q1, q2, q3, q4, q5, q6, q7, q8, q9, q10, q11, q12⟩ := qc
  go_wp2_with fail
  have hE := rput_lit _ 32 _ w1.heap.size l7 rec 8 8 _ rfl hl7 hO7 z7 (by omega) (by omega) (by omega) (by omega)
  with_reducible refine hE.mono ?_
  rintro e w8 ⟨A', c', rfl, hO8, hb⟩
  obtain ⟨l8, hl2e⟩ : ∃ z, z = l7 ++ bytesB 8 rec := ⟨_, rfl⟩
  rw [← hl2e] at hO8
  have hl8 : (l8).length = 32 + 8 := by rw [hl2e, List.length_append, hl7, bytesB_length]
  rw [← hl2e] at hS
  have qb8 := (hb.block w.heap.size z1).trans qb7
  have b8 := (b7).trans (hb.mono (by omega))
  have z8 := Nat.le_trans z7 hb.size
  clear q0 q1 q2 q3 q4 q5 q6 q7 q8 q9 q10 q11 q12 hE hb hO7 qb7 hl2e
  have qc := cells13 qb8
  obtain ⟨q0, q1, q2, q3, q4, q5, q6, q7, q8, q9, q10, q11, q12⟩ := qc
  go_wp2_with fail
  have hE := rput_lit _ 40 _ w1.heap.size l8 xmt 8 8 _ rfl hl8 hO8 z8 (by omega) (by omega) (by omega) (by omega)
  with_reducible refine hE.mono ?_
  rintro e w9 ⟨A', c', rfl, hO9, hb⟩
  obtain ⟨l9, hl2e⟩ : ∃ z, z = l8 ++ bytesB 8 xmt := ⟨_, rfl⟩
  rw [← hl2e] at hO9
  have hl9 : (l9).length = 40 + 8 := by rw [hl2e, List.length_append, hl8, bytesB_length]
  rw [← hl2e] at hS
  have qb9 := (hb.block w.heap.size z1).trans qb8
  have b9 := (b8).trans (hb.mono (by omega))
  have z9 := Nat.le_trans z8 hb.size
  clear q0 q1 q2 q3 q4 q5 q6 q7 q8 q9 q10 q11 q12 hE hb hO8 qb8 hl2e
  go_wp2
  go_ret2
  exact ⟨_, _, rfl, by rw [hS]; exact hO9.bs.wide (by omega) (Nat.le_refl _), b9⟩
end Go.Proofs.YtachhbbofemfdaaDoor
namespace Go.Proofs.YtachhbbofemfdaaDoor
open Go.RowKit
set_option linter.unusedSimpArgs false
set_option linter.unusedVariables false
set_option maxRecDepth 100000
theorem numB_le_pow {L : List Int} (h : Byt L) : numB L < 256 ^ L.length := by
  have aux : ∀ k : Nat, k ≤ L.length → numB (L.take k) < 256 ^ k := by
    intro k
    induction k with
    | zero => intro _; simp [numB]
    | succ k ih =>
      intro hk
      have h1 := ih (by omega)
      have h2 := h.at k
      have h3 := (numB_range (L.take k)).1
      rw [numB_succ L k (by omega), Int.pow_succ]
      have : stepB (numB (L.take k)) (atB L k) ≤ numB (L.take k) * 256 + atB L k := by unfold stepB; omega
      omega
  have := aux L.length (Nat.le_refl _)
  rwa [List.take_length] at this
end Go.Proofs.YtachhbbofemfdaaDoor
namespace Go.Proofs.YtachhbbofemfdaaDoor
open Go.RowKit
set_option linter.unusedSimpArgs false
set_option linter.unusedVariables false
set_option maxRecDepth 100000
/-- a reader: its struct is block g, its bytes lie from lo on and below g -/
def Rd (w : World) (lo g : Nat) (l : List Int) (e : Int) : Prop :=
  ∃ A c, w.cell? ⟨g, 0, none⟩ = some (.slice A l.length c) ∧ w.cell? ⟨g, 1, none⟩ = some (.int .i64 e) ∧ (∀ o, w.frozen? ⟨g, o, none⟩ = false) ∧ Bs w lo g A l ∧ l.length ≤ c ∧ c ≤ 9223372036854775807 ∧ lo ≤ g ∧ g < w.heap.size
section
variable {w w' : World} {lo g : Nat} {l : List Int} {e : Int}
theorem Rd.lt (h : Rd w lo g l e) : g < w.heap.size := by obtain ⟨_, _, _, _, _, _, _, _, _, h⟩ := h; exact h
theorem Rd.len (h : Rd w lo g l e) : l.length ≤ 9223372036854775807 := by obtain ⟨_, _, _, _, _, _, h1, h2, _⟩ := h; omega
theorem Rd.byt (h : Rd w lo g l e) : Byt l := by obtain ⟨_, _, _, _, _, h, _⟩ := h; exact h.byt
theorem Rd.keep (h : Rd w lo g l e) (hk : ∀ b, lo ≤ b → b ≤ g → w'.heap[b]? = w.heap[b]?) (hs : w.heap.size ≤ w'.heap.size) : Rd w' lo g l e := by
  obtain ⟨A, c, h0, h1, hf, hB, hlc, hcm, hlo, hg⟩ := h
  have hg' := hk g hlo (Nat.le_refl _)
  refine ⟨A, c, (World.cell?_of_block hg').trans h0, (World.cell?_of_block hg').trans h1, fun o => (World.frozen?_of_block hg').trans (hf o), hB.keep fun b o h1 h2 => World.cell?_of_block (hk b h1 (by omega)), hlc, hcm, hlo, by omega⟩
theorem Rd.below {B : Nat} (h : Rd w lo g l e) (hb : Below B w w') (hg : g < B) : Rd w' lo g l e := h.keep (fun b _ h2 => hb.block b (by omega)) hb.size
theorem Rd.grown {row : Option Nat} (h : Rd w lo g l e) (hb : w.grownBy w' row) (hr : ∀ r, row = some r → r < lo ∨ g < r) : Rd w' lo g l e :=
  h.keep (fun b h1 h2 => hb.block b (by have := h.lt; omega) (fun e => by have := hr _ e.symm; omega)) hb.size
end
theorem Rd.new (w : World) {lo c : Nat} {A : Option Addr} {l : List Int} (t : TypeId) (h : Bs w lo w.heap.size A l) (hlc : l.length ≤ c) (hcm : c ≤ 9223372036854775807) (hlo : lo ≤ w.heap.size) :
    Rd (w.alloc (.cells #[.slice A l.length c, .int .i64 0] t)) lo w.heap.size l 0 := by
  have hb := heap_alloc_new w (.cells #[.slice A l.length c, .int .i64 0] t)
  refine ⟨A, c, cell_of_row _ _ 0 _ _ _ hb, cell_of_row _ _ 1 _ _ _ hb, fun o => by unfold World.frozen?; rw [hb]; simp, h.alloc (Nat.le_refl _) _, hlc, hcm, hlo, by simp⟩
theorem Ow.setlow {w : World} {lo c : Nat} {A : Option Addr} {l : List Int} (h : Ow w lo A c l) {p : Addr} (hp : p.block < lo) (u : Value) : Ow (w.setCell p u) lo A c l := ⟨h.1, ownsRow_setCell_below h.2 hp u⟩
def tkOk (l : List Int) (e n : Int) (v : Bool) : Bool := decide (e = 0) && v && decide (n ≤ l.length)
def tkL (l : List Int) (e n : Int) (v : Bool) : List Int := if tkOk l e n v then l.take n.toNat else []
def tkR (l : List Int) (e n : Int) (v : Bool) : List Int := if tkOk l e n v then l.drop n.toNat else l
def tkE (l : List Int) (e n : Int) (v : Bool) : Int := if e ≠ 0 then e else if v then (if l.length < n then 5 else 0) else 2
set_option maxHeartbeats 1000000 in
theorem newReader_any (A : Option Addr) (nl c lo hi : Nat) (l : List Int) (w : World) (hnl : l.length = nl) (h : Bs w lo hi A l) (hh : hi ≤ w.heap.size) (hm : nl ≤ 140737488355328) :
    Calls Tryd.prog 61 #[.slice A nl c] w fun r w' => ∃ g, r = .returned (.pointer (some ⟨g, 0, none⟩)) ∧ Rd w' w.heap.size g l 0 ∧ g + 1 = w'.heap.size ∧ Below w.heap.size w w' := by
  subst hnl
  have hmk := fun W => makeU8 .i64 .i64 l.length (by omega) W
  have hO1 := Ow.made w l.length (by omega)
  have hB1 : Bs (w.alloc (.cells (madeCells #[.int .u8 0] l.length) 5)) lo hi A l := h.alloc hh _
  go_enter Tryd.func61, Tryd.ntmps61
  go_wp2_with (first | (with_reducible refine wpList_copy_bs rfl (.tmp 7) (.tmp 8) rfl w.heap.size l.length l.length l.length c _ rfl rfl (by simp) rfl (by omega) hO1 hB1 ?_; intro w1 hO hg hz))
  simp only [List.drop_replicate, Nat.sub_self, List.replicate_zero, List.append_nil] at hO
  simp only [World.size_alloc] at hz
  have hR := Rd.new w1 137 (hO.bs.wide (Nat.le_refl _) (Nat.le_refl _)) (Nat.le_refl _) (by omega) (by omega)
  rw [hz] at hR
  go_ret
  refine ⟨_, rfl, hR, by simp [hz], Below.alloc (Below.trans ((Below.refl _ w).alloc (Nat.le_refl _) _) (below_of_grown hg (by simp) (by simp))) (by omega) _⟩
theorem tk_no {l : List Int} {e n : Int} {v : Bool} (h : tkOk l e n v = false) : tkL l e n v = [] ∧ tkR l e n v = l := by simp [tkL, tkR, h]
theorem tk_yes {l : List Int} {e n : Int} {v : Bool} (h : tkOk l e n v = true) : tkL l e n v = l.take n.toNat ∧ tkR l e n v = l.drop n.toNat := by simp [tkL, tkR, h]
theorem Rd.err {w : World} {lo g : Nat} {l : List Int} {e : Int} (h : Rd w lo g l e) (e' : Int) : Rd (w.setCell ⟨g, 1, none⟩ (.int .i64 e')) lo g l e' := by
  obtain ⟨A, c, h0, h1, hf, hB, hlc, hcm, hlo, hg⟩ := h
  refine ⟨A, c, (World.cell?_setCell_other w _ _ _ (by simp)).trans h0, World.cell?_setCell_same w _ _ h1, fun o => by rw [World.frozen?_setCell]; exact hf o, hB.setCell (by simp) _, hlc, hcm, hlo, by simpa [World.setCell] using hg⟩
theorem Rd.rest {w : World} {lo g : Nat} {l l' : List Int} {e : Int} (h : Rd w lo g l e) {A : Option Addr} {n c : Nat} (hB : Bs w lo g A l') (hn : l'.length = n) (hlc : n ≤ c) (hcm : c ≤ 9223372036854775807) : Rd (w.setCell ⟨g, 0, none⟩ (.slice A n c)) lo g l' e := by
  subst hn
  obtain ⟨A', c', h0, h1, hf, _, _, _, hlo, hg⟩ := h
  refine ⟨A, c, World.cell?_setCell_same w _ _ h0, (World.cell?_setCell_other w _ _ _ (by simp)).trans h1, fun o => by rw [World.frozen?_setCell]; exact hf o, hB.setCell (by simp) _, hlc, hcm, hlo, by simpa [World.setCell] using hg⟩
theorem but_set {w : World} {g i : Nat} (u : Value) : w.grownBy (w.setCell ⟨g, i, none⟩ u) (some g) := ⟨rfl, rfl, rfl, by simp [World.setCell], fun k _ hk => Below.heap_setCell _ _ _ _ (fun e => hk (by rw [e]))⟩
abbrev rp (g : Nat) : Value := .pointer (some ⟨g, 0, none⟩)
/-- what a call of take leaves -/
def TkPost (lo g : Nat) (L R : List Int) (E : Int) (w : World) (r : Ending) (w' : World) : Prop :=
  ∃ A c, r = .returned (.slice A L.length c) ∧ Bs w' lo g A L ∧ L.length ≤ c ∧ Rd w' lo g R E ∧ But g w w' ∧ w'.heap.size = w.heap.size
set_option maxHeartbeats 2000000 in
theorem take_any (lo g : Nat) (l : List Int) (e n : Int) (v : Bool) (w : World) (hR : Rd w lo g l e) (hv : v = true → 0 ≤ n) :
    Calls Tryd.prog 93 #[rp g, .int .i64 n, .bool v] w (TkPost lo g (tkL l e n v) (tkR l e n v) (tkE l e n v) w) := by
  obtain ⟨A, c, h0, h1, hf, hB, hlc, hcm, hlo, hg⟩ := id hR
  by_cases he : e = 0
  · subst he
    cases v with
    | true =>
      have h2 := hv rfl
      by_cases hn : n ≤ l.length
      · have hok : tkOk l 0 n true = true := by simp [tkOk, hn]
        have hE : tkE l 0 n true = 0 := by simp [tkE]; omega
        obtain ⟨m, rfl⟩ : ∃ m : Nat, n = m := ⟨n.toNat, by omega⟩
        rw [(tk_yes hok).1, (tk_yes hok).2, hE, Int.toNat_natCast]
        clear hok hE
        go_enter Tryd.func93, Tryd.ntmps93
        have hlen : (l.take m).length = m := by rw [List.length_take]; omega
        go_wp2
        · obtain hm : l.length = m := by omega
          go_ret
          refine ⟨A, m, by rw [hlen]; rfl, (hB.take m).setCell (by simp) _, by omega, hR.rest ?_ (by rw [List.length_drop]) (by omega) (by omega), but_set _, by simp [World.setCell]⟩
          rw [List.drop_eq_nil_of_le (by omega)]; exact Bs.nil
        · go_ret
          exact ⟨A, c, by rw [hlen]; rfl, (hB.take m).setCell (by simp) _, by omega, hR.rest (hB.dropm m) (by rw [List.length_drop]) (by omega) (by omega), but_set _, by simp [World.setCell]⟩
      · have hok : tkOk l 0 n true = false := by simp [tkOk, hn]
        have hE : tkE l 0 n true = 5 := by simp [tkE]; omega
        rw [(tk_no hok).1, (tk_no hok).2, hE]
        clear hok hE
        go_enter Tryd.func93, Tryd.ntmps93
        go_wp2
        go_ret
        exact ⟨none, 0, rfl, Bs.nil, by simp, hR.err 5, but_set _, by simp [World.setCell]⟩
    | false =>
      have hok : tkOk l 0 n false = false := by simp [tkOk]
      have hE : tkE l 0 n false = 2 := by simp [tkE]
      rw [(tk_no hok).1, (tk_no hok).2, hE]
      clear hok hE
      go_enter Tryd.func93, Tryd.ntmps93
      go_wp2
      go_ret
      exact ⟨none, 0, rfl, Bs.nil, by simp, hR.err 2, but_set _, by simp [World.setCell]⟩
  · have hok : tkOk l e n v = false := by simp [tkOk, he]
    have hE : tkE l e n v = e := by simp [tkE, he]
    have he' : (e != 0) = true := by simpa using he
    rw [(tk_no hok).1, (tk_no hok).2, hE]
    clear hok hE
    go_enter Tryd.func93, Tryd.ntmps93
    go_wp2
    go_ret
    exact ⟨none, 0, rfl, Bs.nil, by simp, hR, World.grownBy.refl w _, rfl⟩
def szB (s : Int) : Bool := decide (1 ≤ s ∧ s ≤ 8)
def nnB (s : Int) : Bool := decide (0 ≤ s)
theorem szB_nn {s : Int} (h : szB s = true) : 0 ≤ s := by simp [szB] at h; omega
theorem nnB_nn {s : Int} (h : nnB s = true) : 0 ≤ s := by simpa [nnB] using h
theorem sz_cases (s : Int) : (1 ≤ s ∧ s ≤ 8 ∧ szB s = true ∧ decide (1 ≤ s) = true ∧ decide (s ≤ 8) = true) ∨ (1 ≤ s ∧ 8 < s ∧ szB s = false ∧ decide (1 ≤ s) = true ∧ decide (s ≤ 8) = false) ∨ (s < 1 ∧ s ≤ 8 ∧ szB s = false ∧ decide (1 ≤ s) = false ∧ decide (s ≤ 8) = true) := by
  unfold szB
  by_cases h1 : 1 ≤ s
  · by_cases h2 : s ≤ 8
    · exact .inl ⟨h1, h2, decide_eq_true ⟨h1, h2⟩, decide_eq_true h1, decide_eq_true h2⟩
    · exact .inr (.inl ⟨h1, by omega, decide_eq_false (by omega), decide_eq_true h1, decide_eq_false h2⟩)
  · exact .inr (.inr ⟨by omega, by omega, decide_eq_false (by omega), decide_eq_false h1, decide_eq_true (by omega)⟩)
theorem sized_b (s : Int) (w : World) : Calls Tryd.prog 78 #[.int .i64 s] w fun e w' => e = .returned (.bool (szB s)) ∧ w = w' := sized_any s w
/-- what a call of a reader leaves that returns v -/
def RPost (v : Value) (lo g : Nat) (R : List Int) (E : Int) (w : World) (r : Ending) (w' : World) : Prop :=
  r = .returned v ∧ Rd w' lo g R E ∧ But g w w' ∧ w.heap.size ≤ w'.heap.size
/-- what a call of a reader leaves that returns the bytes L in new memory -/
def BPost (L : List Int) (lo g : Nat) (R : List Int) (E : Int) (w : World) (r : Ending) (w' : World) : Prop :=
  ∃ A c, r = .returned (.slice A L.length c) ∧ Ow w' w.heap.size A c L ∧ Rd w' lo g R E ∧ But g w w' ∧ w.heap.size ≤ w'.heap.size
theorem tkL_len (l : List Int) (e n : Int) (v : Bool) : (tkL l e n v).length ≤ l.length := by unfold tkL; split <;> simp <;> omega
theorem tkL_byt {l : List Int} (h : Byt l) (e n : Int) (v : Bool) : Byt (tkL l e n v) := by unfold tkL; split; exact h.take _; exact Byt.nil
theorem tkR_byt {l : List Int} (h : Byt l) (e n : Int) (v : Bool) : Byt (tkR l e n v) := by unfold tkR; split; exact h.drop _; exact h
/-- the signed number whose bytes are L, two's complement -/
def intB (L : List Int) : Int := if L.length = 0 then 0 else if 2 * numB L < 256 ^ L.length then numB L else numB L - 256 ^ L.length
theorem tkL_sz (l : List Int) (e s : Int) : (tkL l e s (szB s)).length = 0 ∨ (1 ≤ (tkL l e s (szB s)).length ∧ (tkL l e s (szB s)).length ≤ 8) := by
  unfold tkL tkOk szB; split <;> simp_all <;> omega
set_option maxHeartbeats 1000000 in
theorem uint_any (lo g : Nat) (l : List Int) (e s : Int) (w : World) (hR : Rd w lo g l e) :
    Calls Tryd.prog 62 #[rp g, .int .i64 s] w (RPost (.int .u64 (numB (tkL l e s (szB s)))) lo g (tkR l e s (szB s)) (tkE l e s (szB s)) w) := by
  have hlen := tkL_len l e s (szB s)
  have hm := hR.len
  go_enter Tryd.func62, Tryd.ntmps62
  go_wp2_with (first | (go_at_call 78; ((with_reducible refine (sized_b _ _).mono ?_); rintro e w1 ⟨rfl, rfl⟩)) | (go_at_call 93; ((with_reducible refine (take_any lo g l e s _ _ hR szB_nn).mono ?_); rintro e w1 ⟨A, c, rfl, hB, hc, hR', hg, hz⟩)) | (go_at_call 92; ((with_reducible refine (number_any _ _ _ lo g _ _ rfl hB (by omega)).mono ?_); rintro e w2 ⟨rfl, rfl⟩)))
  go_ret
  exact ⟨rfl, hR', hg, by omega⟩
set_option maxHeartbeats 1000000 in
theorem bytes_any (lo g : Nat) (l : List Int) (e n : Int) (w : World) (hR : Rd w lo g l e) (hl : l.length ≤ 140737488355328) :
    Calls Tryd.prog 89 #[rp g, .int .i64 n] w (BPost (tkL l e n (nnB n)) lo g (tkR l e n (nnB n)) (tkE l e n (nnB n)) w) := by
  have hD : decide (0 ≤ n) = nnB n := rfl
  have hlen := tkL_len l e n (nnB n)
  have hmk := fun W => makeU8 .i64 .i64 (tkL l e n (nnB n)).length (by omega) W
  go_enter Tryd.func89, Tryd.ntmps89
  go_wp2_with (first | (go_at_call 93; ((with_reducible refine (take_any lo g l e n _ _ hR nnB_nn).mono ?_); rintro e w1 ⟨A, c, rfl, hB, hc, hR', hg, hz⟩; (have hO1 := Ow.made w1 (tkL l e n (nnB n)).length (by omega)); rw [hz] at hO1; (have hB1 := hB.alloc (show g ≤ w1.heap.size by have := hR'.lt; omega) (.cells (madeCells #[.int .u8 0] (tkL l e n (nnB n)).length) 5)))) | (with_reducible refine wpList_copy_bs rfl (.tmp 15) (.tmp 16) rfl w.heap.size (tkL l e n (nnB n)).length (tkL l e n (nnB n)).length (tkL l e n (nnB n)).length c _ rfl rfl (by simp) rfl (by omega) hO1 hB1 ?_; intro w2 hO hg2 hz2))
  simp only [List.drop_replicate, Nat.sub_self, List.replicate_zero, List.append_nil] at hO
  simp only [World.size_alloc] at hz2
  have hlt := hR'.lt
  go_ret
  refine ⟨_, _, rfl, hO, Rd.grown (hR'.below ((Below.refl _ w1).alloc (Nat.le_refl _) _) hlt) hg2 (by simp; omega), ?_, by omega⟩
  exact ⟨hg2.os.trans hg.os, hg2.tape.trans hg.tape, hg2.output.trans hg.output, by omega, fun k hk hne => ((hg2.block k (by simp; omega) (by simp; omega)).trans (Below.heap_alloc _ _ _ (by omega))).trans (hg.block k hk hne)⟩
set_option maxHeartbeats 1000000 in
theorem left_any (lo g : Nat) (l : List Int) (e : Int) (w : World) (hR : Rd w lo g l e) :
    Calls Tryd.prog 90 #[rp g] w fun r w' => r = .returned (.int .i64 l.length) ∧ w = w' := by
  obtain ⟨A, c, h0, h1, hf, hB, hlc, hcm, hlo, hg⟩ := id hR
  go_enter Tryd.func90, Tryd.ntmps90
  go_wp2
  go_ret
  exact ⟨rfl, rfl⟩
theorem numB_app (L : List Int) (x : Int) : numB (L ++ [x]) = stepB (numB L) x := by unfold numB; rw [List.foldl_append]; rfl
theorem numB_take_lt {L : List Int} (h : Byt L) : ∀ k : Nat, k ≤ L.length → numB (L.take k) < 256 ^ k := by
  intro k
  induction k with
  | zero => intro _; simp [numB]
  | succ k ih =>
    intro hk
    have h1 := ih (by omega)
    have h2 := h.at k
    have h3 := (numB_range (L.take k)).1
    rw [numB_succ L k (by omega), Int.pow_succ]
    have : stepB (numB (L.take k)) (atB L k) ≤ numB (L.take k) * 256 + atB L k := by unfold stepB; omega
    omega
theorem numB_lt {L : List Int} (h : Byt L) : numB L < 256 ^ L.length := by
  have := numB_take_lt h L.length (Nat.le_refl _)
  rwa [List.take_length] at this
theorem sgn_eq (n : Int) (k : Nat) (h1 : 1 ≤ k) (h8 : k ≤ 8) (h0 : 0 ≤ n) (hn : n < 256 ^ k) :
    wrap64 (IntKind.u64.wrap (n * 2 ^ (64 - 8 * k))) / 2 ^ (64 - 8 * k) = if 2 * n < 256 ^ k then n else n - 256 ^ k := by
  rw [IntKind.wrap_u64]
  unfold wrap64
  have : k = 1 ∨ k = 2 ∨ k = 3 ∨ k = 4 ∨ k = 5 ∨ k = 6 ∨ k = 7 ∨ k = 8 := by omega
  rcases this with rfl | rfl | rfl | rfl | rfl | rfl | rfl | rfl <;> simp at hn ⊢ <;> split <;> omega
set_option maxHeartbeats 1000000 in
theorem int_any (lo g : Nat) (l : List Int) (e s : Int) (w : World) (hR : Rd w lo g l e) :
    Calls Tryd.prog 88 #[rp g, .int .i64 s] w (RPost (.int .i64 (intB (tkL l e s (szB s)))) lo g (tkR l e s (szB s)) (tkE l e s (szB s)) w) := by
  have hlen := tkL_len l e s (szB s)
  have hm := hR.len
  rcases tkL_sz l e s with h0 | ⟨h1, h8⟩
  · have HI : Hid (intB (tkL l e s (szB s)) = 0) := by show intB _ = 0; simp [intB, h0]
    go_enter Tryd.func88, Tryd.ntmps88
    go_wp2_with (first | (go_at_call 78; ((with_reducible refine (sized_b _ _).mono ?_); rintro e w1 ⟨rfl, rfl⟩)) | (go_at_call 93; ((with_reducible refine (take_any lo g l e s _ _ hR szB_nn).mono ?_); rintro e w1 ⟨A, c, rfl, hB, hc, hR', hg, hz⟩)))
    go_ret
    exact ⟨by rw [HI.out]; rfl, hR', hg, by omega⟩
  · have h1' : (1 : Int) ≤ (tkL l e s (szB s)).length := by omega
    have h8' : ((tkL l e s (szB s)).length : Int) ≤ 8 := by omega
    have hr := numB_range (tkL l e s (szB s))
    have hr1 := hr.1
    have hr2 := hr.2
    go_enter Tryd.func88, Tryd.ntmps88
    go_wp2_with (first | (go_at_call 78; ((with_reducible refine (sized_b _ _).mono ?_); rintro e w1 ⟨rfl, rfl⟩)) | (go_at_call 93; ((with_reducible refine (take_any lo g l e s _ _ hR szB_nn).mono ?_); rintro e w1 ⟨A, c, rfl, hB, hc, hR', hg, hz⟩)) | (go_at_call 92; ((with_reducible refine (number_any _ _ _ lo g _ _ rfl hB (by omega)).mono ?_); rintro e w2 ⟨rfl, rfl⟩)))
    have HI : intB (tkL l e s (szB s)) = _ := (show intB (tkL l e s (szB s)) = if 2 * numB (tkL l e s (szB s)) < 256 ^ (tkL l e s (szB s)).length then numB (tkL l e s (szB s)) else numB (tkL l e s (szB s)) - 256 ^ (tkL l e s (szB s)).length by unfold intB; rw [if_neg (by omega)]).trans (sgn_eq _ _ h1 h8 hr1 (numB_lt hB.byt)).symm
    go_ret
    exact ⟨by rw [HI]; rfl, hR', hg, by omega⟩
end Go.Proofs.YtachhbbofemfdaaDoor
