/- What ntpmsg.Encode and its reference compute. What ntpmsg.Code, Kiss and Synced compute, and the law's own comparison of bytes; stamp of small readings of the reference. What the readers of package wire, and those of its reference, do. What ntpmsg.Decode computes: the header's fields, and what stands behind it. -/
import Derived.Test.YtachhbbofemfdaaDoorGXz4
import Derived.Test.YtachhbbofemfdaaDoorGXz3
import Derived.Test.YtachhbbofemfdaaDoorGXz1
namespace Go.Proofs.YtachhbbofemfdaaDoor
open Go.RowKit
set_option linter.unusedSimpArgs false
set_option linter.unusedVariables false
set_option maxRecDepth 100000
set_option maxHeartbeats 2000000 in
theorem encode_ok (l v m st po pr rd rp id ref org rec xmt : Int) (w : World) (hk : nchk l v m st po pr = 0) (h6 : 0 ≤ rd ∧ rd ≤ 4294967295) (h7 : 0 ≤ rp ∧ rp ≤ 4294967295) (h8 : 0 ≤ id ∧ id ≤ 4294967295)
    (h9 : 0 ≤ ref ∧ ref ≤ 18446744073709551615) (h10 : 0 ≤ org ∧ org ≤ 18446744073709551615) (h11 : 0 ≤ rec ∧ rec ≤ 18446744073709551615) (h12 : 0 ≤ xmt ∧ xmt ≤ 18446744073709551615) :
    Calls Tryd.prog 71 #[ntp l v m st po pr rd rp id ref org rec xmt] w fun e w' => ∃ A c, e = .returned (.tuple #[.slice A 48 c, .int .i64 0]) ∧ Bs w' w.heap.size w'.heap.size A (encH l v m st po pr rd rp id ref org rec xmt) ∧ 48 ≤ c ∧ c ≤ 9223372036854775807 ∧ Below w.heap.size w w' := by
  obtain ⟨kl, kv, km, kst, kpo, kpr⟩ := nchk_ok hk
  have ho := i64_or2 l v m kl kv km
  have hw1 : IntKind.u64.wrap (l * 64 + v * 8 + m) = l * 64 + v * 8 + m := by rw [IntKind.wrap_u64]; omega
  have hw2 : IntKind.u64.wrap st = st := by rw [IntKind.wrap_u64]; omega
  have hw3 : IntKind.u64.wrap (po % 256) = po % 256 := by rw [IntKind.wrap_u64]; omega
  have hw4 : IntKind.u64.wrap (pr % 256) = pr % 256 := by rw [IntKind.wrap_u64]; omega
  have hw5 : IntKind.u64.wrap rd = rd := by rw [IntKind.wrap_u64]; omega
  have hw6 : IntKind.u64.wrap rp = rp := by rw [IntKind.wrap_u64]; omega
  have hw7 : IntKind.u64.wrap id = id := by rw [IntKind.wrap_u64]; omega
  have hw8 : IntKind.u8.wrap po = po % 256 := IntKind.wrap_u8 _
  have hw9 : IntKind.u8.wrap pr = pr % 256 := IntKind.wrap_u8 _
  have hf : Fits (ntpPairs l v m st po pr rd rp id ref org rec xmt) := by
    intro p hp
    simp only [ntpPairs, List.mem_cons, List.not_mem_nil, or_false] at hp
    rcases hp with rfl | rfl | rfl | rfl | rfl | rfl | rfl | rfl | rfl | rfl | rfl <;> simp <;> omega
  have hc := nchk_any l v m st po pr rd rp id ref org rec xmt
  simp only [hk] at hc
  go_enter Tryd.func71, Tryd.ntmps71
  go_wp2_with (first | (go_at_call 39; ((with_reducible refine (hc _).mono ?_); rintro e w1 ⟨rfl, hb1⟩; (have q := cells13 (kept13 hb1)); (obtain ⟨q0, q1, q2, q3, q4, q5, q6, q7, q8, q9, q10, q11, q12⟩ := q))))
  have hP := put_any w1.heap.size (ntpPairs l v m st po pr rd rp id ref org rec xmt) 22 22 22 (w1.alloc (.cells #[.int .u64 (l * 64 + v * 8 + m), .int .u64 1, .int .u64 st, .int .u64 1, .int .u64 (po % 256), .int .u64 1, .int .u64 (pr % 256), .int .u64 1, .int .u64 rd, .int .u64 4, .int .u64 rp, .int .u64 4, .int .u64 id, .int .u64 4, .int .u64 ref, .int .u64 8, .int .u64 org, .int .u64 8, .int .u64 rec, .int .u64 8, .int .u64 xmt, .int .u64 8] 22)) (heap_alloc_new w1 _) rfl hf (by simp [ntpPairs])
  have hl48 : (encB (ntpPairs l v m st po pr rd rp id ref org rec xmt)).length = 48 := encH_len l v m st po pr rd rp id ref org rec xmt
  rw [hl48] at hP
  with_reducible refine hP.mono ?_
  rintro e w2 ⟨A, c, rfl, hB, hc48, hcm, hb2⟩
  have b1 : Below w.heap.size w w1 := ((Below.refl w.heap.size w).alloc (Nat.le_refl _) _).trans (hb1.mono (by simp))
  have b2 : Below w.heap.size w w2 := (b1.alloc b1.size _).trans (hb2.mono (by have := b1.size; simp; omega))
  clear q0 q1 q2 q3 q4 q5 q6 q7 q8 q9 q10 q11 q12 hP hb1
  go_wp2
  go_ret2
  exact ⟨A, c, rfl, hB.wide (by have := b1.size; simp; omega) (Nat.le_refl _), hc48, hcm, b2⟩
theorem i64_and255 (n : Int) : bits .and .i64 n 255 = n % 256 := by
  have hm : (BitVec.ofInt 64 255).toNat = 2 ^ 8 - 1 := by decide
  have key : (BitVec.ofInt 64 n &&& BitVec.ofInt 64 255).toNat = (n % ((2 ^ 64 : Nat) : Int)).toNat % 2 ^ 8 := by
    rw [BitVec.toNat_and, BitVec.toNat_ofInt, hm, Nat.and_two_pow_sub_one_eq_mod]
  show IntKind.i64.wrap ((BitVec.ofInt 64 n &&& BitVec.ofInt 64 255).toNat : Nat) = n % 256
  rw [key, IntKind.wrap_i64]
  omega
theorem rput_lit (A : Option Addr) (nl c lo : Nat) (l : List Int) (n : Int) (s : Nat) (si : Int) (w : World) (hsi : ((s : Nat) : Int) = si) (hnl : l.length = nl) (h : Ow w lo A c l) (hlo : lo ≤ w.heap.size) (hm : nl ≤ 1000) (hn : 0 ≤ n ∧ n < 18446744073709551616) (hs1 : 1 ≤ s) (hs2 : s ≤ 8) :
    Calls Tryd.prog 99 #[.slice A nl c, .int .u64 n, .int .i64 si] w fun e w' => ∃ A' c', e = .returned (.slice A' (nl + s) c') ∧ Ow w' lo A' c' (l ++ bytesB s n) ∧ Below lo w w' := by
  subst hsi
  exact rput_any A nl c lo l n s w hnl h hlo hm hn hs1 hs2
theorem encH_split (l v m st po pr rd rp id ref org rec xmt : Int) (h0 : 0 ≤ l * 64 + v * 8 + m ∧ l * 64 + v * 8 + m ≤ 255) (hst : 0 ≤ st ∧ st ≤ 255) :
    encH l v m st po pr rd rp id ref org rec xmt = [l * 64 + v * 8 + m, st, po % 256, pr % 256] ++ bytesB 4 rd ++ bytesB 4 rp ++ bytesB 4 id ++ bytesB 8 ref ++ bytesB 8 org ++ bytesB 8 rec ++ bytesB 8 xmt := by
  have e1 : bytesB 1 (l * 64 + v * 8 + m) = [l * 64 + v * 8 + m] := by simp [bytesB]; omega
  have e2 : bytesB 1 st = [st] := by simp [bytesB]; omega
  have e3 : bytesB 1 (po % 256) = [po % 256] := by simp [bytesB]
  have e4 : bytesB 1 (pr % 256) = [pr % 256] := by simp [bytesB]
  simp only [encH, ntpPairs, encB, List.flatMap_cons, List.flatMap_nil, e1, e2, e3, e4, List.append_nil, List.append_assoc, List.cons_append, List.nil_append]
set_option maxHeartbeats 4000000 in
theorem rencode_ok (l v m st po pr rd rp id ref org rec xmt : Int) (w : World) (hk : nchk l v m st po pr = 0) (h6 : 0 ≤ rd ∧ rd ≤ 4294967295) (h7 : 0 ≤ rp ∧ rp ≤ 4294967295) (h8 : 0 ≤ id ∧ id ≤ 4294967295)
    (h9 : 0 ≤ ref ∧ ref ≤ 18446744073709551615) (h10 : 0 ≤ org ∧ org ≤ 18446744073709551615) (h11 : 0 ≤ rec ∧ rec ≤ 18446744073709551615) (h12 : 0 ≤ xmt ∧ xmt ≤ 18446744073709551615) :
    Calls Tryd.prog 75 #[ntp l v m st po pr rd rp id ref org rec xmt] w fun e w' => ∃ A c, e = .returned (.tuple #[.slice A 48 c, .int .i64 0]) ∧ Bs w' w.heap.size w'.heap.size A (encH l v m st po pr rd rp id ref org rec xmt) ∧ Below w.heap.size w w' := by
  obtain ⟨kl, kv, km, kst, kpo, kpr⟩ := nchk_ok hk
  have hw1 : IntKind.u8.wrap (l * 64 + v * 8 + m) = l * 64 + v * 8 + m := by rw [IntKind.wrap_u8]; omega
  have hw2 : IntKind.u8.wrap st = st := by rw [IntKind.wrap_u8]; omega
  have ha1 := i64_and255 po
  have ha2 := i64_and255 pr
  have hw3 : IntKind.u8.wrap (po % 256) = po % 256 := by rw [IntKind.wrap_u8]; omega
  have hw4 : IntKind.u8.wrap (pr % 256) = pr % 256 := by rw [IntKind.wrap_u8]; omega
  have hw5 : IntKind.u64.wrap rd = rd := by rw [IntKind.wrap_u64]; omega
  have hw6 : IntKind.u64.wrap rp = rp := by rw [IntKind.wrap_u64]; omega
  have hw7 : IntKind.u64.wrap id = id := by rw [IntKind.wrap_u64]; omega
  have hS := encH_split l v m st po pr rd rp id ref org rec xmt (by omega) kst
  obtain ⟨l0, hl0⟩ : ∃ l0, l0 = [l * 64 + v * 8 + m, st, po % 256, pr % 256] := ⟨_, rfl⟩
  have hy0 : Byt l0 := by
    rw [hl0]; intro x hx
    simp only [List.mem_cons, List.not_mem_nil, or_false] at hx
    rcases hx with rfl | rfl | rfl | rfl <;> omega
  have hlen0 : l0.length = 4 := by rw [hl0]; rfl
  rw [← hl0] at hS
  have hc := rnchk_any l v m st po pr rd rp id ref org rec xmt
  simp only [hk] at hc
  go_enter Tryd.func75, Tryd.ntmps75
  go_wp2_with (first | (go_at_call 42; ((with_reducible refine (hc _).mono ?_); rintro e w1 ⟨rfl, hb1⟩; (have z1 : w.heap.size < w1.heap.size := by have := hb1.size; simp at this; omega); (have qb := kept13 hb1); (have q := cells13 qb); (obtain ⟨q0, q1, q2, q3, q4, q5, q6, q7, q8, q9, q10, q11, q12⟩ := q))))
  have b1 : Below w.heap.size w w1 := ((Below.refl w.heap.size w).alloc (Nat.le_refl _) _).trans (hb1.mono (by simp))
  clear q0 q1 q2 q3 q4 q5 q6 q7 q8 q9 q10 q11 q12 hb1 hc
  have hL : Ow (w1.alloc (.cells #[.int .u8 (l * 64 + v * 8 + m), .int .u8 st, .int .u8 (po % 256), .int .u8 (pr % 256)] 5)) w1.heap.size (some ⟨w1.heap.size, 0, none⟩) l0.length l0 :=
    Ow.lit w1 l0 #[.int .u8 (l * 64 + v * 8 + m), .int .u8 st, .int .u8 (po % 256), .int .u8 (pr % 256)] (by rw [hl0]; rfl) hy0 (by rw [hlen0]; omega)
  rw [hlen0] at hL
  have qb2 := (Below.heap_alloc w1 (.cells #[.int .u8 (l * 64 + v * 8 + m), .int .u8 st, .int .u8 (po % 256), .int .u8 (pr % 256)] 5) w.heap.size z1).trans qb
  have b2 : Below w.heap.size w (w1.alloc (.cells #[.int .u8 (l * 64 + v * 8 + m), .int .u8 st, .int .u8 (po % 256), .int .u8 (pr % 256)] 5)) := b1.alloc b1.size _
  have z2 : w1.heap.size ≤ (w1.alloc (.cells #[.int .u8 (l * 64 + v * 8 + m), .int .u8 st, .int .u8 (po % 256), .int .u8 (pr % 256)] 5)).heap.size := by simp
  obtain ⟨wa, hwa⟩ : ∃ wa, wa = w1.alloc (.cells #[.int .u8 (l * 64 + v * 8 + m), .int .u8 st, .int .u8 (po % 256), .int .u8 (pr % 256)] 5) := ⟨_, rfl⟩
  rw [← hwa] at hL qb2 b2 z2
  have hwa' := hwa.symm
  clear hwa
  rw [hwa']
  have qc := cells13 qb2
  obtain ⟨q0, q1, q2, q3, q4, q5, q6, q7, q8, q9, q10, q11, q12⟩ := qc
  go_wp2_with fail
  have hE := rput_lit _ 4 _ w1.heap.size l0 rd 4 4 _ rfl hlen0 hL z2 (by omega) (by omega) (by omega) (by omega)
  with_reducible refine hE.mono ?_
  rintro e w3 ⟨A', c', rfl, hO3, hb⟩
  obtain ⟨l3, hl2e⟩ : ∃ z, z = l0 ++ bytesB 4 rd := ⟨_, rfl⟩
  rw [← hl2e] at hO3
  have hl3 : (l3).length = 4 + 4 := by rw [hl2e, List.length_append, hlen0, bytesB_length]
  rw [← hl2e] at hS
  have qb3 := (hb.block w.heap.size z1).trans qb2
  have b3 := (b2).trans (hb.mono (by omega))
  have z3 := Nat.le_trans z2 hb.size
  clear q0 q1 q2 q3 q4 q5 q6 q7 q8 q9 q10 q11 q12 hE hb hL qb2 hl2e
  have qc := cells13 qb3
  obtain ⟨q0, q1, q2, q3, q4, q5, q6, q7, q8, q9, q10, q11, q12⟩ := qc
  go_wp2_with fail
  have hE := rput_lit _ 8 _ w1.heap.size l3 rp 4 4 _ rfl hl3 hO3 z3 (by omega) (by omega) (by omega) (by omega)
  with_reducible refine hE.mono ?_
  rintro e w4 ⟨A', c', rfl, hO4, hb⟩
  obtain ⟨l4, hl2e⟩ : ∃ z, z = l3 ++ bytesB 4 rp := ⟨_, rfl⟩
  rw [← hl2e] at hO4
  have hl4 : (l4).length = 8 + 4 := by rw [hl2e, List.length_append, hl3, bytesB_length]
  rw [← hl2e] at hS
  have qb4 := (hb.block w.heap.size z1).trans qb3
  have b4 := (b3).trans (hb.mono (by omega))
  have z4 := Nat.le_trans z3 hb.size
  clear q0 q1 q2 q3 q4 q5 q6 q7 q8 q9 q10 q11 q12 hE hb hO3 qb3 hl2e
  have qc := cells13 qb4
  obtain ⟨q0, q1, q2, q3, q4, q5, q6, q7, q8, q9, q10, q11, q12⟩ := qc
  go_wp2_with fail
  have hE := rput_lit _ 12 _ w1.heap.size l4 id 4 4 _ rfl hl4 hO4 z4 (by omega) (by omega) (by omega) (by omega)
  with_reducible refine hE.mono ?_
  rintro e w5 ⟨A', c', rfl, hO5, hb⟩
  obtain ⟨l5, hl2e⟩ : ∃ z, z = l4 ++ bytesB 4 id := ⟨_, rfl⟩
  rw [← hl2e] at hO5
  have hl5 : (l5).length = 12 + 4 := by rw [hl2e, List.length_append, hl4, bytesB_length]
  rw [← hl2e] at hS
  have qb5 := (hb.block w.heap.size z1).trans qb4
  have b5 := (b4).trans (hb.mono (by omega))
  have z5 := Nat.le_trans z4 hb.size
  clear q0 q1 q2 q3 q4 q5 q6 q7 q8 q9 q10 q11 q12 hE hb hO4 qb4 hl2e
  have qc := cells13 qb5
  obtain ⟨q0, q1, q2, q3, q4, q5, q6, q7, q8, q9, q10, q11, q12⟩ := qc
  go_wp2_with fail
  have hE := rput_lit _ 16 _ w1.heap.size l5 ref 8 8 _ rfl hl5 hO5 z5 (by omega) (by omega) (by omega) (by omega)
  with_reducible refine hE.mono ?_
  rintro e w6 ⟨A', c', rfl, hO6, hb⟩
  obtain ⟨l6, hl2e⟩ : ∃ z, z = l5 ++ bytesB 8 ref := ⟨_, rfl⟩
  rw [← hl2e] at hO6
  have hl6 : (l6).length = 16 + 8 := by rw [hl2e, List.length_append, hl5, bytesB_length]
  rw [← hl2e] at hS
  have qb6 := (hb.block w.heap.size z1).trans qb5
  have b6 := (b5).trans (hb.mono (by omega))
  have z6 := Nat.le_trans z5 hb.size
  clear q0 q1 q2 q3 q4 q5 q6 q7 q8 q9 q10 q11 q12 hE hb hO5 qb5 hl2e
  have qc := cells13 qb6
  obtain ⟨q0, q1, q2, q3, q4, q5, q6, q7, q8, q9, q10, q11, q12⟩ := qc
  go_wp2_with fail
  have hE := rput_lit _ 24 _ w1.heap.size l6 org 8 8 _ rfl hl6 hO6 z6 (by omega) (by omega) (by omega) (by omega)
  with_reducible refine hE.mono ?_
  rintro e w7 ⟨A', c', rfl, hO7, hb⟩
  obtain ⟨l7, hl2e⟩ : ∃ z, z = l6 ++ bytesB 8 org := ⟨_, rfl⟩
  rw [← hl2e] at hO7
  have hl7 : (l7).length = 24 + 8 := by rw [hl2e, List.length_append, hl6, bytesB_length]
  rw [← hl2e] at hS
  have qb7 := (hb.block w.heap.size z1).trans qb6
  have b7 := (b6).trans (hb.mono (by omega))
  have z7 := Nat.le_trans z6 hb.size
  clear q0 q1 q2 q3 q4 q5 q6 q7 q8 q9 q10 q11 q12 hE hb hO6 qb6 hl2e
  have qc := cells13 qb7
  obtain ⟨q0, q1, q2, q3, q4, q5, q6, q7, q8, q9, q10, q11, q12⟩ := qc
  go_wp2_with fail
  have hE := rput_lit _ 32 _ w1.heap.size l7 rec 8 8 _ rfl hl7 hO7 z7 (by omega) (by omega) (by omega) (by omega)
  with_reducible refine hE.mono ?_
  rintro e w8 ⟨A', c', rfl, hO8, hb⟩
  obtain ⟨l8, hl2e⟩ : ∃ z, z = l7 ++ bytesB 8 rec := ⟨_, rfl⟩
  rw [← hl2e] at hO8
  have hl8 : (l8).length = 32 + 8 := by rw [hl2e, List.length_append, hl7, bytesB_length]
  rw [← hl2e] at hS
  have qb8 := (hb.block w.heap.size z1).trans qb7
  have b8 := (b7).trans (hb.mono (by omega))
  have z8 := Nat.le_trans z7 hb.size
  clear q0 q1 q2 q3 q4 q5 q6 q7 q8 q9 q10 q11 q12 hE hb hO7 qb7 hl2e
  have qc := cells13 qb8
  obtain ⟨q0, q1, q2, q3, q4, q5, q6, q7, q8, q9, q10, q11, q12⟩ := qc
  go_wp2_with fail
  have hE := rput_lit _ 40 _ w1.heap.size l8 xmt 8 8 _ rfl hl8 hO8 z8 (by omega) (by omega) (by omega) (by omega)
  with_reducible refine hE.mono ?_
  rintro e w9 ⟨A', c', rfl, hO9, hb⟩
  obtain ⟨l9, hl2e⟩ : ∃ z, z = l8 ++ bytesB 8 xmt := ⟨_, rfl⟩
  rw [← hl2e] at hO9
  have hl9 : (l9).length = 40 + 8 := by rw [hl2e, List.length_append, hl8, bytesB_length]
  rw [← hl2e] at hS
  have qb9 := (hb.block w.heap.size z1).trans qb8
  have b9 := (b8).trans (hb.mono (by omega))
  have z9 := Nat.le_trans z8 hb.size
  clear q0 q1 q2 q3 q4 q5 q6 q7 q8 q9 q10 q11 q12 hE hb hO8 qb8 hl2e
  go_wp2
  go_ret2
  exact ⟨_, _, rfl, by rw [hS]; exact hO9.bs.wide (by omega) (Nat.le_refl _), b9⟩
end Go.Proofs.YtachhbbofemfdaaDoor
namespace Go.Proofs.YtachhbbofemfdaaDoor
open Go.RowKit
set_option linter.unusedSimpArgs false
set_option linter.unusedVariables false
set_option maxRecDepth 100000
theorem numB_le_pow {L : List Int} (h : Byt L) : numB L < 256 ^ L.length := by
  have aux : ∀ k : Nat, k ≤ L.length → numB (L.take k) < 256 ^ k := by
    intro k
    induction k with
    | zero => intro _; simp [numB]
    | succ k ih =>
      intro hk
      have h1 := ih (by omega)
      have h2 := h.at k
      have h3 := (numB_range (L.take k)).1
      rw [numB_succ L k (by omega), Int.pow_succ]
      have : stepB (numB (L.take k)) (atB L k) ≤ numB (L.take k) * 256 + atB L k := by unfold stepB; omega
      omega
  have := aux L.length (Nat.le_refl _)
  rwa [List.take_length] at this
end Go.Proofs.YtachhbbofemfdaaDoor
namespace Go.Proofs.YtachhbbofemfdaaDoor
open Go.RowKit
set_option linter.unusedSimpArgs false
set_option linter.unusedVariables false
set_option maxRecDepth 100000
/-- a reader: its struct is block g, its bytes lie from lo on and below g -/
def Rd (w : World) (lo g : Nat) (l : List Int) (e : Int) : Prop :=
  ∃ A c, w.cell? ⟨g, 0, none⟩ = some (.slice A l.length c) ∧ w.cell? ⟨g, 1, none⟩ = some (.int .i64 e) ∧ (∀ o, w.frozen? ⟨g, o, none⟩ = false) ∧ Bs w lo g A l ∧ l.length ≤ c ∧ c ≤ 9223372036854775807 ∧ lo ≤ g ∧ g < w.heap.size
section
variable {w w' : World} {lo g : Nat} {l : List Int} {e : Int}
theorem Rd.lt (h : Rd w lo g l e) : g < w.heap.size := by obtain ⟨_, _, _, _, _, _, _, _, _, h⟩ := h; exact h
theorem Rd.len (h : Rd w lo g l e) : l.length ≤ 9223372036854775807 := by obtain ⟨_, _, _, _, _, _, h1, h2, _⟩ := h; omega
theorem Rd.byt (h : Rd w lo g l e) : Byt l := by obtain ⟨_, _, _, _, _, h, _⟩ := h; exact h.byt
theorem Rd.keep (h : Rd w lo g l e) (hk : ∀ b, lo ≤ b → b ≤ g → w'.heap[b]? = w.heap[b]?) (hs : w.heap.size ≤ w'.heap.size) : Rd w' lo g l e := by
  obtain ⟨A, c, h0, h1, hf, hB, hlc, hcm, hlo, hg⟩ := h
  have hg' := hk g hlo (Nat.le_refl _)
  refine ⟨A, c, (World.cell?_of_block hg').trans h0, (World.cell?_of_block hg').trans h1, fun o => (World.frozen?_of_block hg').trans (hf o), hB.keep fun b o h1 h2 => World.cell?_of_block (hk b h1 (by omega)), hlc, hcm, hlo, by omega⟩
theorem Rd.below {B : Nat} (h : Rd w lo g l e) (hb : Below B w w') (hg : g < B) : Rd w' lo g l e := h.keep (fun b _ h2 => hb.block b (by omega)) hb.size
theorem Rd.grown {row : Option Nat} (h : Rd w lo g l e) (hb : w.grownBy w' row) (hr : ∀ r, row = some r → r < lo ∨ g < r) : Rd w' lo g l e :=
  h.keep (fun b h1 h2 => hb.block b (by have := h.lt; omega) (fun e => by have := hr _ e.symm; omega)) hb.size
end
theorem Rd.new (w : World) {lo c : Nat} {A : Option Addr} {l : List Int} (t : TypeId) (h : Bs w lo w.heap.size A l) (hlc : l.length ≤ c) (hcm : c ≤ 9223372036854775807) (hlo : lo ≤ w.heap.size) :
    Rd (w.alloc (.cells #[.slice A l.length c, .int .i64 0] t)) lo w.heap.size l 0 := by
  have hb := heap_alloc_new w (.cells #[.slice A l.length c, .int .i64 0] t)
  refine ⟨A, c, cell_of_row _ _ 0 _ _ _ hb, cell_of_row _ _ 1 _ _ _ hb, fun o => by unfold World.frozen?; rw [hb]; simp, h.alloc (Nat.le_refl _) _, hlc, hcm, hlo, by simp⟩
theorem Ow.setlow {w : World} {lo c : Nat} {A : Option Addr} {l : List Int} (h : Ow w lo A c l) {p : Addr} (hp : p.block < lo) (u : Value) : Ow (w.setCell p u) lo A c l := ⟨h.1, ownsRow_setCell_below h.2 hp u⟩
def tkOk (l : List Int) (e n : Int) (v : Bool) : Bool := decide (e = 0) && v && decide (n ≤ l.length)
def tkL (l : List Int) (e n : Int) (v : Bool) : List Int := if tkOk l e n v then l.take n.toNat else []
def tkR (l : List Int) (e n : Int) (v : Bool) : List Int := if tkOk l e n v then l.drop n.toNat else l
def tkE (l : List Int) (e n : Int) (v : Bool) : Int := if e ≠ 0 then e else if v then (if l.length < n then 5 else 0) else 2
set_option maxHeartbeats 1000000 in
theorem newReader_any (A : Option Addr) (nl c lo hi : Nat) (l : List Int) (w : World) (hnl : l.length = nl) (h : Bs w lo hi A l) (hh : hi ≤ w.heap.size) (hm : nl ≤ 140737488355328) :
    Calls Tryd.prog 61 #[.slice A nl c] w fun r w' => ∃ g, r = .returned (.pointer (some ⟨g, 0, none⟩)) ∧ Rd w' w.heap.size g l 0 ∧ g + 1 = w'.heap.size ∧ Below w.heap.size w w' := by
  subst hnl
  have hmk := fun W => makeU8 .i64 .i64 l.length (by omega) W
  have hO1 := Ow.made w l.length (by omega)
  have hB1 : Bs (w.alloc (.cells (madeCells #[.int .u8 0] l.length) 5)) lo hi A l := h.alloc hh _
  go_enter Tryd.func61, Tryd.ntmps61
  go_wp2_with (first | (with_reducible refine wpList_copy_bs rfl (.tmp 7) (.tmp 8) rfl w.heap.size l.length l.length l.length c _ rfl rfl (by simp) rfl (by omega) hO1 hB1 ?_; intro w1 hO hg hz))
  simp only [List.drop_replicate, Nat.sub_self, List.replicate_zero, List.append_nil] at hO
  simp only [World.size_alloc] at hz
  have hR := Rd.new w1 137 (hO.bs.wide (Nat.le_refl _) (Nat.le_refl _)) (Nat.le_refl _) (by omega) (by omega)
  rw [hz] at hR
  go_ret
  refine ⟨_, rfl, hR, by simp [hz], Below.alloc (Below.trans ((Below.refl _ w).alloc (Nat.le_refl _) _) (below_of_grown hg (by simp) (by simp))) (by omega) _⟩
theorem tk_no {l : List Int} {e n : Int} {v : Bool} (h : tkOk l e n v = false) : tkL l e n v = [] ∧ tkR l e n v = l := by simp [tkL, tkR, h]
theorem tk_yes {l : List Int} {e n : Int} {v : Bool} (h : tkOk l e n v = true) : tkL l e n v = l.take n.toNat ∧ tkR l e n v = l.drop n.toNat := by simp [tkL, tkR, h]
theorem Rd.err {w : World} {lo g : Nat} {l : List Int} {e : Int} (h : Rd w lo g l e) (e' : Int) : Rd (w.setCell ⟨g, 1, none⟩ (.int .i64 e')) lo g l e' := by
  obtain ⟨A, c, h0, h1, hf, hB, hlc, hcm, hlo, hg⟩ := h
  refine ⟨A, c, (World.cell?_setCell_other w _ _ _ (by simp)).trans h0, World.cell?_setCell_same w _ _ h1, fun o => by rw [World.frozen?_setCell]; exact hf o, hB.setCell (by simp) _, hlc, hcm, hlo, by simpa [World.setCell] using hg⟩
theorem Rd.rest {w : World} {lo g : Nat} {l l' : List Int} {e : Int} (h : Rd w lo g l e) {A : Option Addr} {n c : Nat} (hB : Bs w lo g A l') (hn : l'.length = n) (hlc : n ≤ c) (hcm : c ≤ 9223372036854775807) : Rd (w.setCell ⟨g, 0, none⟩ (.slice A n c)) lo g l' e := by
  subst hn
  obtain ⟨A', c', h0, h1, hf, _, _, _, hlo, hg⟩ := h
  refine ⟨A, c, World.cell?_setCell_same w _ _ h0, (World.cell?_setCell_other w _ _ _ (by simp)).trans h1, fun o => by rw [World.frozen?_setCell]; exact hf o, hB.setCell (by simp) _, hlc, hcm, hlo, by simpa [World.setCell] using hg⟩
theorem but_set {w : World} {g i : Nat} (u : Value) : w.grownBy (w.setCell ⟨g, i, none⟩ u) (some g) := ⟨rfl, rfl, rfl, by simp [World.setCell], fun k _ hk => Below.heap_setCell _ _ _ _ (fun e => hk (by rw [e]))⟩
abbrev rp (g : Nat) : Value := .pointer (some ⟨g, 0, none⟩)
/-- what a call of take leaves -/
def TkPost (lo g : Nat) (L R : List Int) (E : Int) (w : World) (r : Ending) (w' : World) : Prop :=
  ∃ A c, r = .returned (.slice A L.length c) ∧ Bs w' lo g A L ∧ L.length ≤ c ∧ Rd w' lo g R E ∧ But g w w' ∧ w'.heap.size = w.heap.size
set_option maxHeartbeats 2000000 in
theorem take_any (lo g : Nat) (l : List Int) (e n : Int) (v : Bool) (w : World) (hR : Rd w lo g l e) (hv : v = true → 0 ≤ n) :
    Calls Tryd.prog 93 #[rp g, .int .i64 n, .bool v] w (TkPost lo g (tkL l e n v) (tkR l e n v) (tkE l e n v) w) := by
  obtain ⟨A, c, h0, h1, hf, hB, hlc, hcm, hlo, hg⟩ := id hR
  by_cases he : e = 0
  · subst he
    cases v with
    | true =>
      have h2 := hv rfl
      by_cases hn : n ≤ l.length
      · have hok : tkOk l 0 n true = true := by simp [tkOk, hn]
        have hE : tkE l 0 n true = 0 := by simp [tkE]; omega
        obtain ⟨m, rfl⟩ : ∃ m : Nat, n = m := ⟨n.toNat, by omega⟩
        rw [(tk_yes hok).1, (tk_yes hok).2, hE, Int.toNat_natCast]
        clear hok hE
        go_enter Tryd.func93, Tryd.ntmps93
        have hlen : (l.take m).length = m := by rw [List.length_take]; omega
        go_wp2
        · obtain hm : l.length = m := by omega
          go_ret
          refine ⟨A, m, by rw [hlen]; rfl, (hB.take m).setCell (by simp) _, by omega, hR.rest ?_ (by rw [List.length_drop]) (by omega) (by omega), but_set _, by simp [World.setCell]⟩
          rw [List.drop_eq_nil_of_le (by omega)]; exact Bs.nil
        · go_ret
          exact ⟨A, c, by rw [hlen]; rfl, (hB.take m).setCell (by simp) _, by omega, hR.rest (hB.dropm m) (by rw [List.length_drop]) (by omega) (by omega), but_set _, by simp [World.setCell]⟩
      · have hok : tkOk l 0 n true = false := by simp [tkOk, hn]
        have hE : tkE l 0 n true = 5 := by simp [tkE]; omega
        rw [(tk_no hok).1, (tk_no hok).2, hE]
        clear hok hE
        go_enter Tryd.func93, Tryd.ntmps93
        go_wp2
        go_ret
        exact ⟨none, 0, rfl, Bs.nil, by simp, hR.err 5, but_set _, by simp [World.setCell]⟩
    | false =>
      have hok : tkOk l 0 n false = false := by simp [tkOk]
      have hE : tkE l 0 n false = 2 := by simp [tkE]
      rw [(tk_no hok).1, (tk_no hok).2, hE]
      clear hok hE
      go_enter Tryd.func93, Tryd.ntmps93
      go_wp2
      go_ret
      exact ⟨none, 0, rfl, Bs.nil, by simp, hR.err 2, but_set _, by simp [World.setCell]⟩
  · have hok : tkOk l e n v = false := by simp [tkOk, he]
    have hE : tkE l e n v = e := by simp [tkE, he]
    have he' : (e != 0) = true := by simpa using he
    rw [(tk_no hok).1, (tk_no hok).2, hE]
    clear hok hE
    go_enter Tryd.func93, Tryd.ntmps93
    go_wp2
    go_ret
    exact ⟨none, 0, rfl, Bs.nil, by simp, hR, World.grownBy.refl w _, rfl⟩
def szB (s : Int) : Bool := decide (1 ≤ s ∧ s ≤ 8)
def nnB (s : Int) : Bool := decide (0 ≤ s)
theorem szB_nn {s : Int} (h : szB s = true) : 0 ≤ s := by simp [szB] at h; omega
theorem nnB_nn {s : Int} (h : nnB s = true) : 0 ≤ s := by simpa [nnB] using h
theorem sized_b (s : Int) (w : World) : Calls Tryd.prog 78 #[.int .i64 s] w fun e w' => e = .returned (.bool (szB s)) ∧ w = w' := sized_any s w
/-- what a call of a reader leaves that returns v -/
def RPost (v : Value) (lo g : Nat) (R : List Int) (E : Int) (w : World) (r : Ending) (w' : World) : Prop :=
  r = .returned v ∧ Rd w' lo g R E ∧ But g w w' ∧ w.heap.size ≤ w'.heap.size
/-- what a call of a reader leaves that returns the bytes L in new memory -/
def BPost (L : List Int) (lo g : Nat) (R : List Int) (E : Int) (w : World) (r : Ending) (w' : World) : Prop :=
  ∃ A c, r = .returned (.slice A L.length c) ∧ Ow w' w.heap.size A c L ∧ Rd w' lo g R E ∧ But g w w' ∧ w.heap.size ≤ w'.heap.size
theorem tkL_len (l : List Int) (e n : Int) (v : Bool) : (tkL l e n v).length ≤ l.length := by unfold tkL; split <;> simp <;> omega
/-- the signed number whose bytes are L, two's complement -/
def intB (L : List Int) : Int := if L.length = 0 then 0 else if 2 * numB L < 256 ^ L.length then numB L else numB L - 256 ^ L.length
theorem tkL_sz (l : List Int) (e s : Int) : (tkL l e s (szB s)).length = 0 ∨ (1 ≤ (tkL l e s (szB s)).length ∧ (tkL l e s (szB s)).length ≤ 8) := by
  unfold tkL tkOk szB; split <;> simp_all <;> omega
set_option maxHeartbeats 1000000 in
theorem uint_any (lo g : Nat) (l : List Int) (e s : Int) (w : World) (hR : Rd w lo g l e) :
    Calls Tryd.prog 62 #[rp g, .int .i64 s] w (RPost (.int .u64 (numB (tkL l e s (szB s)))) lo g (tkR l e s (szB s)) (tkE l e s (szB s)) w) := by
  have hlen := tkL_len l e s (szB s)
  have hm := hR.len
  go_enter Tryd.func62, Tryd.ntmps62
  go_wp2_with (first | (go_at_call 78; ((with_reducible refine (sized_b _ _).mono ?_); rintro e w1 ⟨rfl, rfl⟩)) | (go_at_call 93; ((with_reducible refine (take_any lo g l e s _ _ hR szB_nn).mono ?_); rintro e w1 ⟨A, c, rfl, hB, hc, hR', hg, hz⟩)) | (go_at_call 92; ((with_reducible refine (number_any _ _ _ lo g _ _ rfl hB (by omega)).mono ?_); rintro e w2 ⟨rfl, rfl⟩)))
  go_ret
  exact ⟨rfl, hR', hg, by omega⟩
set_option maxHeartbeats 1000000 in
theorem bytes_any (lo g : Nat) (l : List Int) (e n : Int) (w : World) (hR : Rd w lo g l e) (hl : l.length ≤ 140737488355328) :
    Calls Tryd.prog 89 #[rp g, .int .i64 n] w (BPost (tkL l e n (nnB n)) lo g (tkR l e n (nnB n)) (tkE l e n (nnB n)) w) := by
  have hD : decide (0 ≤ n) = nnB n := rfl
  have hlen := tkL_len l e n (nnB n)
  have hmk := fun W => makeU8 .i64 .i64 (tkL l e n (nnB n)).length (by omega) W
  go_enter Tryd.func89, Tryd.ntmps89
  go_wp2_with (first | (go_at_call 93; ((with_reducible refine (take_any lo g l e n _ _ hR nnB_nn).mono ?_); rintro e w1 ⟨A, c, rfl, hB, hc, hR', hg, hz⟩; (have hO1 := Ow.made w1 (tkL l e n (nnB n)).length (by omega)); rw [hz] at hO1; (have hB1 := hB.alloc (show g ≤ w1.heap.size by have := hR'.lt; omega) (.cells (madeCells #[.int .u8 0] (tkL l e n (nnB n)).length) 5)))) | (with_reducible refine wpList_copy_bs rfl (.tmp 15) (.tmp 16) rfl w.heap.size (tkL l e n (nnB n)).length (tkL l e n (nnB n)).length (tkL l e n (nnB n)).length c _ rfl rfl (by simp) rfl (by omega) hO1 hB1 ?_; intro w2 hO hg2 hz2))
  simp only [List.drop_replicate, Nat.sub_self, List.replicate_zero, List.append_nil] at hO
  simp only [World.size_alloc] at hz2
  have hlt := hR'.lt
  go_ret
  refine ⟨_, _, rfl, hO, Rd.grown (hR'.below ((Below.refl _ w1).alloc (Nat.le_refl _) _) hlt) hg2 (by simp; omega), ?_, by omega⟩
  exact ⟨hg2.os.trans hg.os, hg2.tape.trans hg.tape, hg2.output.trans hg.output, by omega, fun k hk hne => ((hg2.block k (by simp; omega) (by simp; omega)).trans (Below.heap_alloc _ _ _ (by omega))).trans (hg.block k hk hne)⟩
set_option maxHeartbeats 1000000 in
theorem left_any (lo g : Nat) (l : List Int) (e : Int) (w : World) (hR : Rd w lo g l e) :
    Calls Tryd.prog 90 #[rp g] w fun r w' => r = .returned (.int .i64 l.length) ∧ w = w' := by
  obtain ⟨A, c, h0, h1, hf, hB, hlc, hcm, hlo, hg⟩ := id hR
  go_enter Tryd.func90, Tryd.ntmps90
  go_wp2
  go_ret
  exact ⟨rfl, rfl⟩
theorem numB_take_lt {L : List Int} (h : Byt L) : ∀ k : Nat, k ≤ L.length → numB (L.take k) < 256 ^ k := by
  intro k
  induction k with
  | zero => intro _; simp [numB]
  | succ k ih =>
    intro hk
    have h1 := ih (by omega)
    have h2 := h.at k
    have h3 := (numB_range (L.take k)).1
    rw [numB_succ L k (by omega), Int.pow_succ]
    have : stepB (numB (L.take k)) (atB L k) ≤ numB (L.take k) * 256 + atB L k := by unfold stepB; omega
    omega
theorem numB_lt {L : List Int} (h : Byt L) : numB L < 256 ^ L.length := by
  have := numB_take_lt h L.length (Nat.le_refl _)
  rwa [List.take_length] at this
theorem sgn_eq (n : Int) (k : Nat) (h1 : 1 ≤ k) (h8 : k ≤ 8) (h0 : 0 ≤ n) (hn : n < 256 ^ k) :
    wrap64 (IntKind.u64.wrap (n * 2 ^ (64 - 8 * k))) / 2 ^ (64 - 8 * k) = if 2 * n < 256 ^ k then n else n - 256 ^ k := by
  rw [IntKind.wrap_u64]
  unfold wrap64
  have : k = 1 ∨ k = 2 ∨ k = 3 ∨ k = 4 ∨ k = 5 ∨ k = 6 ∨ k = 7 ∨ k = 8 := by omega
  rcases this with rfl | rfl | rfl | rfl | rfl | rfl | rfl | rfl <;> simp at hn ⊢ <;> split <;> omega
set_option maxHeartbeats 1000000 in
theorem int_any (lo g : Nat) (l : List Int) (e s : Int) (w : World) (hR : Rd w lo g l e) :
    Calls Tryd.prog 88 #[rp g, .int .i64 s] w (RPost (.int .i64 (intB (tkL l e s (szB s)))) lo g (tkR l e s (szB s)) (tkE l e s (szB s)) w) := by
  have hlen := tkL_len l e s (szB s)
  have hm := hR.len
  rcases tkL_sz l e s with h0 | ⟨h1, h8⟩
  · have HI : Hid (intB (tkL l e s (szB s)) = 0) := by show intB _ = 0; simp [intB, h0]
    go_enter Tryd.func88, Tryd.ntmps88
    go_wp2_with (first | (go_at_call 78; ((with_reducible refine (sized_b _ _).mono ?_); rintro e w1 ⟨rfl, rfl⟩)) | (go_at_call 93; ((with_reducible refine (take_any lo g l e s _ _ hR szB_nn).mono ?_); rintro e w1 ⟨A, c, rfl, hB, hc, hR', hg, hz⟩)))
    go_ret
    exact ⟨by rw [HI.out]; rfl, hR', hg, by omega⟩
  · have h1' : (1 : Int) ≤ (tkL l e s (szB s)).length := by omega
    have h8' : ((tkL l e s (szB s)).length : Int) ≤ 8 := by omega
    have hr := numB_range (tkL l e s (szB s))
    have hr1 := hr.1
    have hr2 := hr.2
    go_enter Tryd.func88, Tryd.ntmps88
    go_wp2_with (first | (go_at_call 78; ((with_reducible refine (sized_b _ _).mono ?_); rintro e w1 ⟨rfl, rfl⟩)) | (go_at_call 93; ((with_reducible refine (take_any lo g l e s _ _ hR szB_nn).mono ?_); rintro e w1 ⟨A, c, rfl, hB, hc, hR', hg, hz⟩)) | (go_at_call 92; ((with_reducible refine (number_any _ _ _ lo g _ _ rfl hB (by omega)).mono ?_); rintro e w2 ⟨rfl, rfl⟩)))
    have HI : intB (tkL l e s (szB s)) = _ := (show intB (tkL l e s (szB s)) = if 2 * numB (tkL l e s (szB s)) < 256 ^ (tkL l e s (szB s)).length then numB (tkL l e s (szB s)) else numB (tkL l e s (szB s)) - 256 ^ (tkL l e s (szB s)).length by unfold intB; rw [if_neg (by omega)]).trans (sgn_eq _ _ h1 h8 hr1 (numB_lt hB.byt)).symm
    go_ret
    exact ⟨by rw [HI]; rfl, hR', hg, by omega⟩
end Go.Proofs.YtachhbbofemfdaaDoor
namespace Go.Proofs.YtachhbbofemfdaaDoor
open Go.RowKit
set_option linter.unusedSimpArgs false
set_option linter.unusedVariables false
set_option maxRecDepth 100000
/-- the number in s bytes from o on; the same in two's complement -/
def fB (l : List Int) (o s : Nat) : Int := numB ((l.drop o).take s)
def iB (l : List Int) (o s : Nat) : Int := intB ((l.drop o).take s)
theorem fB_rng {l : List Int} (h : Byt l) (o s : Nat) : 0 ≤ fB l o s ∧ fB l o s < 256 ^ s := by
  refine ⟨(numB_range _).1, ?_⟩
  have h1 := numB_le_pow ((h.drop o).take s)
  rw [List.length_take] at h1
  have h2 : (256 : Int) ^ (min s (l.drop o).length) ≤ 256 ^ s := by
    rw [show s = min s (l.drop o).length + (s - min s (l.drop o).length) by omega, Int.pow_add]
    have a : (0 : Int) < 256 ^ (min s (l.drop o).length) := Int.pow_pos (by omega)
    have b : (0 : Int) < 256 ^ (s - min s (l.drop o).length) := Int.pow_pos (by omega)
    rw [show min (min s (l.drop o).length + (s - min s (l.drop o).length)) (l.drop o).length = min s (l.drop o).length by omega]
    have c : (256 : Int) ^ (min s (l.drop o).length) * 1 ≤ 256 ^ (min s (l.drop o).length) * 256 ^ (s - min s (l.drop o).length) := Int.mul_le_mul_of_nonneg_left (by omega) (by omega)
    omega
  unfold fB; omega
theorem tk_s (m : List Int) (s : Nat) (h1 : 1 ≤ s) (h8 : s ≤ 8) (hl : s ≤ m.length) : tkL m 0 s (szB s) = m.take s ∧ tkR m 0 s (szB s) = m.drop s ∧ tkE m 0 s (szB s) = 0 := by
  have hz : szB (s : Int) = true := decide_eq_true (by omega)
  have hk : tkOk m 0 s (szB s) = true := by rw [hz]; simp [tkOk]; omega
  refine ⟨(tk_yes hk).1, (tk_yes hk).2, ?_⟩
  rw [hz]; simp [tkE]; omega
theorem uint_at (lo g : Nat) (l : List Int) (o s o2 : Nat) (si : Int) (w : World) (hR : Rd w lo g (l.drop o) 0) (h1 : 1 ≤ s) (h8 : s ≤ 8) (hl : o + s ≤ l.length) (hsi : ((s : Nat) : Int) = si) (ho2 : o + s = o2) :
    Calls Tryd.prog 62 #[rp g, .int .i64 si] w (RPost (.int .u64 (fB l o s)) lo g (l.drop o2) 0 w) := by
  subst hsi ho2
  have hE := uint_any lo g (l.drop o) 0 s w hR
  obtain ⟨e1, e2, e3⟩ := tk_s (l.drop o) s h1 h8 (by rw [List.length_drop]; omega)
  rw [e1, e2, e3, List.drop_drop] at hE
  exact hE
theorem int_at (lo g : Nat) (l : List Int) (o s o2 : Nat) (si : Int) (w : World) (hR : Rd w lo g (l.drop o) 0) (h1 : 1 ≤ s) (h8 : s ≤ 8) (hl : o + s ≤ l.length) (hsi : ((s : Nat) : Int) = si) (ho2 : o + s = o2) :
    Calls Tryd.prog 88 #[rp g, .int .i64 si] w (RPost (.int .i64 (iB l o s)) lo g (l.drop o2) 0 w) := by
  subst hsi ho2
  have hE := int_any lo g (l.drop o) 0 s w hR
  obtain ⟨e1, e2, e3⟩ := tk_s (l.drop o) s h1 h8 (by rw [List.length_drop]; omega)
  rw [e1, e2, e3, List.drop_drop] at hE
  exact hE
theorem but_below {g B : Nat} {w w' : World} (h : But g w w') (h1 : B ≤ w.heap.size) (h2 : B ≤ g) : Below B w w' := below_of_grown h h1 (by simp; omega)
theorem i64_and7 (n : Int) : bits .and .i64 n 7 = n % 8 := by
  have hm : (BitVec.ofInt 64 7).toNat = 2 ^ 3 - 1 := by decide
  have key : (BitVec.ofInt 64 n &&& BitVec.ofInt 64 7).toNat = (n % ((2 ^ 64 : Nat) : Int)).toNat % 2 ^ 3 := by
    rw [BitVec.toNat_and, BitVec.toNat_ofInt, hm, Nat.and_two_pow_sub_one_eq_mod]
  show IntKind.i64.wrap ((BitVec.ofInt 64 n &&& BitVec.ofInt 64 7).toNat : Nat) = n % 8
  rw [key, IntKind.wrap_i64]
  omega
theorem Rd.setfar {w : World} {lo g : Nat} {l : List Int} {e : Int} (h : Rd w lo g l e) {p : Addr} (hp : g < p.block) (u : Value) : Rd (w.setCell p u) lo g l e :=
  h.keep (fun b _ h2 => Below.heap_setCell _ _ _ _ (by omega)) (by simp [World.setCell])
theorem Rd.setlow {w : World} {lo g : Nat} {l : List Int} {e : Int} (h : Rd w lo g l e) {p : Addr} (hp : p.block < lo) (u : Value) : Rd (w.setCell p u) lo g l e :=
  h.keep (fun b h1 _ => Below.heap_setCell _ _ _ _ (by omega)) (by simp [World.setCell])
theorem Rd.drew {w : World} {lo g : Nat} {l : List Int} {e : Int} (h : Rd w lo g l e) : Rd w.drew lo g l e := h
theorem cellv_eq {w : World} {b i : Nat} {v : Value} (h : w.cell? ⟨b, i, none⟩ = some v) : cellv w b i = v := by unfold cellv; simp [h]
theorem blk_set {w : World} {g i : Nat} {cs ds : Array Value} {t : TypeId} {u : Value} (h : w.heap[g]? = some (.cells cs t (0, 0))) (hd : cs.setIfInBounds i u = ds) : (w.setCell ⟨g, i, none⟩ u).heap[g]? = some (.cells ds t (0, 0)) := by
  subst hd
  simp [World.setCell, Array.getElem?_modify, h]
theorem blk_far {w : World} {g : Nat} {o : Obj} {p : Addr} (h : w.heap[g]? = some o) (hp : g ≠ p.block) (u : Value) : (w.setCell p u).heap[g]? = some o := (Below.heap_setCell w p u g hp).trans h
theorem blk_but {w w' : World} {g r : Nat} {o : Obj} (h : w.heap[r]? = some o) (hb : But g w w') (hg : r < w.heap.size) (hne : r ≠ g) : w'.heap[r]? = some o := (hb.block r hg (by simp; omega)).trans h
theorem blk_frozen {w : World} {g : Nat} {cs : Array Value} {t : TypeId} (h : w.heap[g]? = some (.cells cs t (0, 0))) : ∀ o, w.frozen? ⟨g, o, none⟩ = false := fun o => by simp [World.frozen?, h]
abbrev zeros13 : Array Value := #[.int .i64 0, .int .i64 0, .int .i64 0, .int .i64 0, .int .i64 0, .int .i64 0, .int .u32 0, .int .u32 0, .int .u32 0, .int .u64 0, .int .u64 0, .int .u64 0, .int .u64 0]
theorem set13_heap {w : World} {b : Nat} {t : TypeId} {a0 a1 a2 a3 a4 a5 a6 a7 a8 a9 a10 a11 a12 v0 v1 v2 v3 v4 v5 v6 v7 v8 v9 v10 v11 v12 : Value} (h : w.heap[b]? = some (.cells #[a0, a1, a2, a3, a4, a5, a6, a7, a8, a9, a10, a11, a12] t (0, 0))) :
    (((((((((((((w.setCell ⟨b, 0, none⟩ v0).setCell ⟨b, 1, none⟩ v1).setCell ⟨b, 2, none⟩ v2).setCell ⟨b, 3, none⟩ v3).setCell ⟨b, 4, none⟩ v4).setCell ⟨b, 5, none⟩ v5).setCell ⟨b, 6, none⟩ v6).setCell ⟨b, 7, none⟩ v7).setCell ⟨b, 8, none⟩ v8).setCell ⟨b, 9, none⟩ v9).setCell ⟨b, 10, none⟩ v10).setCell ⟨b, 11, none⟩ v11).setCell ⟨b, 12, none⟩ v12).heap[b]? = some (.cells #[v0, v1, v2, v3, v4, v5, v6, v7, v8, v9, v10, v11, v12] t (0, 0)) := by
  have h0 := blk_set (i := 0) (u := v0) (ds := #[v0, a1, a2, a3, a4, a5, a6, a7, a8, a9, a10, a11, a12]) h (by simp)
  have h1 := blk_set (i := 1) (u := v1) (ds := #[v0, v1, a2, a3, a4, a5, a6, a7, a8, a9, a10, a11, a12]) h0 (by simp)
  have h2 := blk_set (i := 2) (u := v2) (ds := #[v0, v1, v2, a3, a4, a5, a6, a7, a8, a9, a10, a11, a12]) h1 (by simp)
  have h3 := blk_set (i := 3) (u := v3) (ds := #[v0, v1, v2, v3, a4, a5, a6, a7, a8, a9, a10, a11, a12]) h2 (by simp)
  have h4 := blk_set (i := 4) (u := v4) (ds := #[v0, v1, v2, v3, v4, a5, a6, a7, a8, a9, a10, a11, a12]) h3 (by simp)
  have h5 := blk_set (i := 5) (u := v5) (ds := #[v0, v1, v2, v3, v4, v5, a6, a7, a8, a9, a10, a11, a12]) h4 (by simp)
  have h6 := blk_set (i := 6) (u := v6) (ds := #[v0, v1, v2, v3, v4, v5, v6, a7, a8, a9, a10, a11, a12]) h5 (by simp)
  have h7 := blk_set (i := 7) (u := v7) (ds := #[v0, v1, v2, v3, v4, v5, v6, v7, a8, a9, a10, a11, a12]) h6 (by simp)
  have h8 := blk_set (i := 8) (u := v8) (ds := #[v0, v1, v2, v3, v4, v5, v6, v7, v8, a9, a10, a11, a12]) h7 (by simp)
  have h9 := blk_set (i := 9) (u := v9) (ds := #[v0, v1, v2, v3, v4, v5, v6, v7, v8, v9, a10, a11, a12]) h8 (by simp)
  have h10 := blk_set (i := 10) (u := v10) (ds := #[v0, v1, v2, v3, v4, v5, v6, v7, v8, v9, v10, a11, a12]) h9 (by simp)
  have h11 := blk_set (i := 11) (u := v11) (ds := #[v0, v1, v2, v3, v4, v5, v6, v7, v8, v9, v10, v11, a12]) h10 (by simp)
  have h12 := blk_set (i := 12) (u := v12) (ds := #[v0, v1, v2, v3, v4, v5, v6, v7, v8, v9, v10, v11, v12]) h11 (by simp)
  exact h12
theorem set13_far {w : World} {lo g b : Nat} {l : List Int} {e : Int} {v0 v1 v2 v3 v4 v5 v6 v7 v8 v9 v10 v11 v12 : Value} (hp : g < b) (h : Rd w lo g l e) : Rd (((((((((((((w.setCell ⟨b, 0, none⟩ v0).setCell ⟨b, 1, none⟩ v1).setCell ⟨b, 2, none⟩ v2).setCell ⟨b, 3, none⟩ v3).setCell ⟨b, 4, none⟩ v4).setCell ⟨b, 5, none⟩ v5).setCell ⟨b, 6, none⟩ v6).setCell ⟨b, 7, none⟩ v7).setCell ⟨b, 8, none⟩ v8).setCell ⟨b, 9, none⟩ v9).setCell ⟨b, 10, none⟩ v10).setCell ⟨b, 11, none⟩ v11).setCell ⟨b, 12, none⟩ v12) lo g l e := by
  repeat refine Rd.setfar ?_ hp _
  exact h
theorem set13_blk {w : World} {r b : Nat} {o : Obj} {v0 v1 v2 v3 v4 v5 v6 v7 v8 v9 v10 v11 v12 : Value} (hp : r ≠ b) (h : w.heap[r]? = some o) : (((((((((((((w.setCell ⟨b, 0, none⟩ v0).setCell ⟨b, 1, none⟩ v1).setCell ⟨b, 2, none⟩ v2).setCell ⟨b, 3, none⟩ v3).setCell ⟨b, 4, none⟩ v4).setCell ⟨b, 5, none⟩ v5).setCell ⟨b, 6, none⟩ v6).setCell ⟨b, 7, none⟩ v7).setCell ⟨b, 8, none⟩ v8).setCell ⟨b, 9, none⟩ v9).setCell ⟨b, 10, none⟩ v10).setCell ⟨b, 11, none⟩ v11).setCell ⟨b, 12, none⟩ v12).heap[r]? = some o := by
  repeat refine blk_far ?_ hp _
  exact h
theorem set13_below {w0 w : World} {B b : Nat} {v0 v1 v2 v3 v4 v5 v6 v7 v8 v9 v10 v11 v12 : Value} (hp : B ≤ b) (h : Below B w0 w) : Below B w0 (((((((((((((w.setCell ⟨b, 0, none⟩ v0).setCell ⟨b, 1, none⟩ v1).setCell ⟨b, 2, none⟩ v2).setCell ⟨b, 3, none⟩ v3).setCell ⟨b, 4, none⟩ v4).setCell ⟨b, 5, none⟩ v5).setCell ⟨b, 6, none⟩ v6).setCell ⟨b, 7, none⟩ v7).setCell ⟨b, 8, none⟩ v8).setCell ⟨b, 9, none⟩ v9).setCell ⟨b, 10, none⟩ v10).setCell ⟨b, 11, none⟩ v11).setCell ⟨b, 12, none⟩ v12) := by
  repeat refine Below.setCell ?_ hp _
  exact h
theorem set13_ow {w : World} {lo b c : Nat} {A : Option Addr} {l : List Int} {v0 v1 v2 v3 v4 v5 v6 v7 v8 v9 v10 v11 v12 : Value} (hp : b < lo) (h : Ow w lo A c l) : Ow (((((((((((((w.setCell ⟨b, 0, none⟩ v0).setCell ⟨b, 1, none⟩ v1).setCell ⟨b, 2, none⟩ v2).setCell ⟨b, 3, none⟩ v3).setCell ⟨b, 4, none⟩ v4).setCell ⟨b, 5, none⟩ v5).setCell ⟨b, 6, none⟩ v6).setCell ⟨b, 7, none⟩ v7).setCell ⟨b, 8, none⟩ v8).setCell ⟨b, 9, none⟩ v9).setCell ⟨b, 10, none⟩ v10).setCell ⟨b, 11, none⟩ v11).setCell ⟨b, 12, none⟩ v12) lo A c l := by
  repeat refine Ow.setlow ?_ hp _
  exact h
set_option maxRecDepth 100000 in
set_option maxHeartbeats 4000000 in
theorem decode_ok (A : Option Addr) (n c : Nat) (l : List Int) (w : World) (hn : l.length = n) (h : Bs w 0 w.heap.size A l) (h48 : 48 ≤ n) (hm : n ≤ 140737488355328) (F : Int) (hF : fB l 0 1 = F) (hv : 1 ≤ F / 8 % 8 ∧ F / 8 % 8 ≤ 4) :
    Calls Tryd.prog 58 #[.slice A n c] w fun e w' => ∃ A' c', e = .returned (.tuple #[ntp (F / 64) (F / 8 % 8) (F % 8) (fB l 1 1) (iB l 2 1) (iB l 3 1) (fB l 4 4) (fB l 8 4) (fB l 12 4) (fB l 16 8) (fB l 24 8) (fB l 32 8) (fB l 40 8), .slice A' (n - 48) c', .int .i64 0]) ∧ Ow w' w.heap.size A' c' (l.drop 48) ∧ Below w.heap.size w w' := by
  have hbl := h.byt
  have hFr := fB_rng hbl 0 1
  rw [hF] at hFr
  have hF0 := hFr.1
  have hF1 : F ≤ 255 := by omega
  have ha1 := i64_and7 (F / 8)
  have ha2 := i64_and7 F
  have hwF : wrap64 F = F := by unfold wrap64; omega
  have hwF' : IntKind.i64.wrap F = F := by rw [IntKind.wrap_i64]; omega
  have hv1 := hv.1
  have hv2 := hv.2
  have hd : decide (1 ≤ F / 8 % 8 ∧ F / 8 % 8 ≤ 4) = true := decide_eq_true hv
  have h48' : (48 : Int) ≤ n := by omega
  have r3 := fB_rng hbl 1 1
  have w3_ : wrap64 (fB l 1 1) = fB l 1 1 := by unfold wrap64; omega
  have r6 := fB_rng hbl 4 4
  have w6_ : IntKind.u32.wrap (fB l 4 4) = fB l 4 4 := by rw [IntKind.wrap_u32]; omega
  have r7 := fB_rng hbl 8 4
  have w7_ : IntKind.u32.wrap (fB l 8 4) = fB l 8 4 := by rw [IntKind.wrap_u32]; omega
  have r8 := fB_rng hbl 12 4
  have w8_ : IntKind.u32.wrap (fB l 12 4) = fB l 12 4 := by rw [IntKind.wrap_u32]; omega
  obtain ⟨wz, hwz⟩ : ∃ wz, wz = w.alloc (.cells zeros13 27) := ⟨_, rfl⟩
  have hRz : wz.heap[w.heap.size]? = some (.cells zeros13 27 (0, 0)) := by rw [hwz]; exact heap_alloc_new w _
  have Bz : Below w.heap.size w wz := by rw [hwz]; exact (Below.refl _ w).alloc (Nat.le_refl _) _
  have sz : w.heap.size < wz.heap.size := by rw [hwz]; simp
  have hwz' := hwz.symm
  clear hwz
  go_enter Tryd.func58, Tryd.ntmps58
  go_wp2_with fail
  have hE := newReader_any A n c 0 w.heap.size l wz hn (h.below Bz (Nat.le_refl _)) (by omega) hm
  with_reducible refine hE.mono ?_
  rintro e w1 ⟨g, rfl, hR1, hgz, hb1⟩
  have hlo : wz.heap.size ≤ g := by obtain ⟨_, _, _, _, _, _, _, _, h, _⟩ := hR1; omega
  have hR1r := (hb1.block w.heap.size sz).trans hRz
  have B1 := Bz.trans (hb1.mono (by omega))
  have hg1 := hR1.lt
  clear hE hgz hb1 hRz hwz'
  have hE := uint_at _ g l 0 1 1 1 w1 (by simpa using hR1) (by omega) (by omega) (by omega) rfl rfl
  rw [hF] at hE
  go_wp2_with fail
  with_reducible refine hE.mono ?_
  rintro e w2 ⟨rfl, hR2, hg2, s2⟩
  have hR2r := blk_but hR1r hg2 (by omega) (by omega)
  have B2 := B1.trans (but_below hg2 (by omega) (by omega))
  clear hE hR1 hR1r B1 hg2
  obtain ⟨z0, hz0⟩ : ∃ z0, z0 = w2.alloc (.cells zeros13 27) := ⟨_, rfl⟩
  have hz0' := hz0.symm
  have ez : z0.heap[w2.heap.size]? = some (.cells zeros13 27 (0, 0)) := by rw [hz0]; exact heap_alloc_new w2 _
  have gz : Rd z0 wz.heap.size g (l.drop 1) 0 := by rw [hz0]; exact hR2.below ((Below.refl w2.heap.size w2).alloc (Nat.le_refl _) _) hR2.lt
  have hgP : g < w2.heap.size := hR2.lt
  have hrP : w.heap.size < w2.heap.size := by omega
  have fz_ : z0.heap[w.heap.size]? = some (.cells zeros13 27 (0, 0)) := by rw [hz0]; exact (Below.heap_alloc w2 _ _ (by omega)).trans hR2r
  have bz : Below w.heap.size w z0 := by rw [hz0]; exact B2.alloc B2.size _
  have sz0 : w2.heap.size < z0.heap.size := by rw [hz0]; simp
  obtain ⟨x0, hx0⟩ : ∃ x0, x0 = (((((((((((((z0.setCell ⟨w2.heap.size, 0, none⟩ (.int .i64 (F / 64))).setCell ⟨w2.heap.size, 1, none⟩ (.int .i64 (F / 8 % 8))).setCell ⟨w2.heap.size, 2, none⟩ (.int .i64 (F % 8))).setCell ⟨w2.heap.size, 3, none⟩ (.int .i64 0)).setCell ⟨w2.heap.size, 4, none⟩ (.int .i64 0)).setCell ⟨w2.heap.size, 5, none⟩ (.int .i64 0)).setCell ⟨w2.heap.size, 6, none⟩ (.int .u32 0)).setCell ⟨w2.heap.size, 7, none⟩ (.int .u32 0)).setCell ⟨w2.heap.size, 8, none⟩ (.int .u32 0)).setCell ⟨w2.heap.size, 9, none⟩ (.int .u64 0)).setCell ⟨w2.heap.size, 10, none⟩ (.int .u64 0)).setCell ⟨w2.heap.size, 11, none⟩ (.int .u64 0)).setCell ⟨w2.heap.size, 12, none⟩ (.int .u64 0)) := ⟨_, rfl⟩
  have hx0' := hx0.symm
  have e0 : x0.heap[w2.heap.size]? = some (.cells #[.int .i64 (F / 64), .int .i64 (F / 8 % 8), .int .i64 (F % 8), .int .i64 0, .int .i64 0, .int .i64 0, .int .u32 0, .int .u32 0, .int .u32 0, .int .u64 0, .int .u64 0, .int .u64 0, .int .u64 0] 27 (0, 0)) := by rw [hx0]; exact set13_heap ez
  have g0 : Rd x0 wz.heap.size g (l.drop 1) 0 := by rw [hx0]; exact set13_far (by exact hgP) gz
  have f0 : x0.heap[w.heap.size]? = some (.cells zeros13 27 (0, 0)) := by rw [hx0]; exact set13_blk (by omega) fz_
  have b0 : Below w.heap.size w x0 := by rw [hx0]; exact set13_below (by omega) bz
  have s0 : w2.heap.size < x0.heap.size := by rw [hx0]; simpa [World.setCell] using sz0
  obtain ⟨p0, p1, p2, p3, p4, p5, p6, p7, p8, p9, p10, p11, p12⟩ := cells13 ez
  have fzz := blk_frozen ez
  clear hz0 ez gz fz_ bz sz0
  clear hx0 hR2 hR2r B2 s2
  obtain ⟨q0, q1, q2, q3, q4, q5, q6, q7, q8, q9, q10, q11, q12⟩ := cells13 e0
  have fz0 := blk_frozen e0
  go_wp2_with (first | (go_at_call 70; ((with_reducible refine (within_any _ _ _ _).mono ?_); rintro e w1 ⟨rfl, rfl⟩)))
  clear fz0 q0 q1 q2 q3 q4 q5 q6 q7 q8 q9 q10 q11 q12 hx0' hz0' fzz p0 p1 p2 p3 p4 p5 p6 p7 p8 p9 p10 p11 p12
  generalize w2.heap.size = P at *
  have hE := uint_at _ g l 1 1 2 1 x0 g0 (by omega) (by omega) (by omega) rfl rfl
  with_reducible refine hE.mono ?_
  rintro e y0 ⟨rfl, gy, hg, sy⟩
  have ey := blk_but e0 hg s0 (by omega)
  have fy := blk_but f0 hg (by omega) (by omega)
  have by_ := b0.trans (but_below hg b0.size (by omega))
  obtain ⟨x1, hx⟩ : ∃ z, z = y0.setCell ⟨P, 3, none⟩ (.int .i64 (fB l 1 1)) := ⟨_, rfl⟩
  have hx' := hx.symm
  have e1 : x1.heap[P]? = some (.cells #[.int .i64 (F / 64), .int .i64 (F / 8 % 8), .int .i64 (F % 8), .int .i64 (fB l 1 1), .int .i64 0, .int .i64 0, .int .u32 0, .int .u32 0, .int .u32 0, .int .u64 0, .int .u64 0, .int .u64 0, .int .u64 0] 27 (0, 0)) := by rw [hx]; exact blk_set ey rfl
  have g1 : Rd x1 wz.heap.size g (l.drop 2) 0 := by rw [hx]; exact gy.setfar (by exact hgP) _
  have f1 : x1.heap[w.heap.size]? = some (.cells zeros13 27 (0, 0)) := by rw [hx]; exact blk_far fy (by show w.heap.size ≠ P; omega) _
  have b1 : Below w.heap.size w x1 := by rw [hx]; exact by_.setCell (by show w.heap.size ≤ P; omega) _
  have s1 : P < x1.heap.size := by rw [hx]; simp [World.setCell]; omega
  have hz1 : x1.heap.size = y0.heap.size := by rw [hx]; simp [World.setCell]
  obtain ⟨q0, q1, q2, q3, q4, q5, q6, q7, q8, q9, q10, q11, q12⟩ := cells13 ey
  have fz := blk_frozen ey
  clear hE hx hg e0 g0 f0 b0 gy fy by_ ey hz1
  go_wp2_with fail
  clear q0 q1 q2 q3 q4 q5 q6 q7 q8 q9 q10 q11 q12 fz hx'
  have hE := int_at _ g l 2 1 3 1 x1 g1 (by omega) (by omega) (by omega) rfl rfl
  with_reducible refine hE.mono ?_
  rintro e y1 ⟨rfl, gy, hg, sy⟩
  have ey := blk_but e1 hg s1 (by omega)
  have fy := blk_but f1 hg (by omega) (by omega)
  have by_ := b1.trans (but_below hg b1.size (by omega))
  obtain ⟨x2, hx⟩ : ∃ z, z = y1.setCell ⟨P, 4, none⟩ (.int .i64 (iB l 2 1)) := ⟨_, rfl⟩
  have hx' := hx.symm
  have e2 : x2.heap[P]? = some (.cells #[.int .i64 (F / 64), .int .i64 (F / 8 % 8), .int .i64 (F % 8), .int .i64 (fB l 1 1), .int .i64 (iB l 2 1), .int .i64 0, .int .u32 0, .int .u32 0, .int .u32 0, .int .u64 0, .int .u64 0, .int .u64 0, .int .u64 0] 27 (0, 0)) := by rw [hx]; exact blk_set ey rfl
  have g2 : Rd x2 wz.heap.size g (l.drop 3) 0 := by rw [hx]; exact gy.setfar (by exact hgP) _
  have f2 : x2.heap[w.heap.size]? = some (.cells zeros13 27 (0, 0)) := by rw [hx]; exact blk_far fy (by show w.heap.size ≠ P; omega) _
  have b2 : Below w.heap.size w x2 := by rw [hx]; exact by_.setCell (by show w.heap.size ≤ P; omega) _
  have s2 : P < x2.heap.size := by rw [hx]; simp [World.setCell]; omega
  have hz2 : x2.heap.size = y1.heap.size := by rw [hx]; simp [World.setCell]
  obtain ⟨q0, q1, q2, q3, q4, q5, q6, q7, q8, q9, q10, q11, q12⟩ := cells13 ey
  have fz := blk_frozen ey
  clear hE hx hg e1 g1 f1 b1 gy fy by_ ey hz2
  go_wp2_with fail
  clear q0 q1 q2 q3 q4 q5 q6 q7 q8 q9 q10 q11 q12 fz hx'
  have hE := int_at _ g l 3 1 4 1 x2 g2 (by omega) (by omega) (by omega) rfl rfl
  with_reducible refine hE.mono ?_
  rintro e y2 ⟨rfl, gy, hg, sy⟩
  have ey := blk_but e2 hg s2 (by omega)
  have fy := blk_but f2 hg (by omega) (by omega)
  have by_ := b2.trans (but_below hg b2.size (by omega))
  obtain ⟨x3, hx⟩ : ∃ z, z = y2.setCell ⟨P, 5, none⟩ (.int .i64 (iB l 3 1)) := ⟨_, rfl⟩
  have hx' := hx.symm
  have e3 : x3.heap[P]? = some (.cells #[.int .i64 (F / 64), .int .i64 (F / 8 % 8), .int .i64 (F % 8), .int .i64 (fB l 1 1), .int .i64 (iB l 2 1), .int .i64 (iB l 3 1), .int .u32 0, .int .u32 0, .int .u32 0, .int .u64 0, .int .u64 0, .int .u64 0, .int .u64 0] 27 (0, 0)) := by rw [hx]; exact blk_set ey rfl
  have g3 : Rd x3 wz.heap.size g (l.drop 4) 0 := by rw [hx]; exact gy.setfar (by exact hgP) _
  have f3 : x3.heap[w.heap.size]? = some (.cells zeros13 27 (0, 0)) := by rw [hx]; exact blk_far fy (by show w.heap.size ≠ P; omega) _
  have b3 : Below w.heap.size w x3 := by rw [hx]; exact by_.setCell (by show w.heap.size ≤ P; omega) _
  have s3 : P < x3.heap.size := by rw [hx]; simp [World.setCell]; omega
  have hz3 : x3.heap.size = y2.heap.size := by rw [hx]; simp [World.setCell]
  obtain ⟨q0, q1, q2, q3, q4, q5, q6, q7, q8, q9, q10, q11, q12⟩ := cells13 ey
  have fz := blk_frozen ey
  clear hE hx hg e2 g2 f2 b2 gy fy by_ ey hz3
  go_wp2_with fail
  clear q0 q1 q2 q3 q4 q5 q6 q7 q8 q9 q10 q11 q12 fz hx'
  have hE := uint_at _ g l 4 4 8 4 x3 g3 (by omega) (by omega) (by omega) rfl rfl
  with_reducible refine hE.mono ?_
  rintro e y3 ⟨rfl, gy, hg, sy⟩
  have ey := blk_but e3 hg s3 (by omega)
  have fy := blk_but f3 hg (by omega) (by omega)
  have by_ := b3.trans (but_below hg b3.size (by omega))
  obtain ⟨x4, hx⟩ : ∃ z, z = y3.setCell ⟨P, 6, none⟩ (.int .u32 (fB l 4 4)) := ⟨_, rfl⟩
  have hx' := hx.symm
  have e4 : x4.heap[P]? = some (.cells #[.int .i64 (F / 64), .int .i64 (F / 8 % 8), .int .i64 (F % 8), .int .i64 (fB l 1 1), .int .i64 (iB l 2 1), .int .i64 (iB l 3 1), .int .u32 (fB l 4 4), .int .u32 0, .int .u32 0, .int .u64 0, .int .u64 0, .int .u64 0, .int .u64 0] 27 (0, 0)) := by rw [hx]; exact blk_set ey rfl
  have g4 : Rd x4 wz.heap.size g (l.drop 8) 0 := by rw [hx]; exact gy.setfar (by exact hgP) _
  have f4 : x4.heap[w.heap.size]? = some (.cells zeros13 27 (0, 0)) := by rw [hx]; exact blk_far fy (by show w.heap.size ≠ P; omega) _
  have b4 : Below w.heap.size w x4 := by rw [hx]; exact by_.setCell (by show w.heap.size ≤ P; omega) _
  have s4 : P < x4.heap.size := by rw [hx]; simp [World.setCell]; omega
  have hz4 : x4.heap.size = y3.heap.size := by rw [hx]; simp [World.setCell]
  obtain ⟨q0, q1, q2, q3, q4, q5, q6, q7, q8, q9, q10, q11, q12⟩ := cells13 ey
  have fz := blk_frozen ey
  clear hE hx hg e3 g3 f3 b3 gy fy by_ ey hz4
  go_wp2_with fail
  clear q0 q1 q2 q3 q4 q5 q6 q7 q8 q9 q10 q11 q12 fz hx'
  have hE := uint_at _ g l 8 4 12 4 x4 g4 (by omega) (by omega) (by omega) rfl rfl
  with_reducible refine hE.mono ?_
  rintro e y4 ⟨rfl, gy, hg, sy⟩
  have ey := blk_but e4 hg s4 (by omega)
  have fy := blk_but f4 hg (by omega) (by omega)
  have by_ := b4.trans (but_below hg b4.size (by omega))
  obtain ⟨x5, hx⟩ : ∃ z, z = y4.setCell ⟨P, 7, none⟩ (.int .u32 (fB l 8 4)) := ⟨_, rfl⟩
  have hx' := hx.symm
  have e5 : x5.heap[P]? = some (.cells #[.int .i64 (F / 64), .int .i64 (F / 8 % 8), .int .i64 (F % 8), .int .i64 (fB l 1 1), .int .i64 (iB l 2 1), .int .i64 (iB l 3 1), .int .u32 (fB l 4 4), .int .u32 (fB l 8 4), .int .u32 0, .int .u64 0, .int .u64 0, .int .u64 0, .int .u64 0] 27 (0, 0)) := by rw [hx]; exact blk_set ey rfl
  have g5 : Rd x5 wz.heap.size g (l.drop 12) 0 := by rw [hx]; exact gy.setfar (by exact hgP) _
  have f5 : x5.heap[w.heap.size]? = some (.cells zeros13 27 (0, 0)) := by rw [hx]; exact blk_far fy (by show w.heap.size ≠ P; omega) _
  have b5 : Below w.heap.size w x5 := by rw [hx]; exact by_.setCell (by show w.heap.size ≤ P; omega) _
  have s5 : P < x5.heap.size := by rw [hx]; simp [World.setCell]; omega
  have hz5 : x5.heap.size = y4.heap.size := by rw [hx]; simp [World.setCell]
  obtain ⟨q0, q1, q2, q3, q4, q5, q6, q7, q8, q9, q10, q11, q12⟩ := cells13 ey
  have fz := blk_frozen ey
  clear hE hx hg e4 g4 f4 b4 gy fy by_ ey hz5
  go_wp2_with fail
  clear q0 q1 q2 q3 q4 q5 q6 q7 q8 q9 q10 q11 q12 fz hx'
  have hE := uint_at _ g l 12 4 16 4 x5 g5 (by omega) (by omega) (by omega) rfl rfl
  with_reducible refine hE.mono ?_
  rintro e y5 ⟨rfl, gy, hg, sy⟩
  have ey := blk_but e5 hg s5 (by omega)
  have fy := blk_but f5 hg (by omega) (by omega)
  have by_ := b5.trans (but_below hg b5.size (by omega))
  obtain ⟨x6, hx⟩ : ∃ z, z = y5.setCell ⟨P, 8, none⟩ (.int .u32 (fB l 12 4)) := ⟨_, rfl⟩
  have hx' := hx.symm
  have e6 : x6.heap[P]? = some (.cells #[.int .i64 (F / 64), .int .i64 (F / 8 % 8), .int .i64 (F % 8), .int .i64 (fB l 1 1), .int .i64 (iB l 2 1), .int .i64 (iB l 3 1), .int .u32 (fB l 4 4), .int .u32 (fB l 8 4), .int .u32 (fB l 12 4), .int .u64 0, .int .u64 0, .int .u64 0, .int .u64 0] 27 (0, 0)) := by rw [hx]; exact blk_set ey rfl
  have g6 : Rd x6 wz.heap.size g (l.drop 16) 0 := by rw [hx]; exact gy.setfar (by exact hgP) _
  have f6 : x6.heap[w.heap.size]? = some (.cells zeros13 27 (0, 0)) := by rw [hx]; exact blk_far fy (by show w.heap.size ≠ P; omega) _
  have b6 : Below w.heap.size w x6 := by rw [hx]; exact by_.setCell (by show w.heap.size ≤ P; omega) _
  have s6 : P < x6.heap.size := by rw [hx]; simp [World.setCell]; omega
  have hz6 : x6.heap.size = y5.heap.size := by rw [hx]; simp [World.setCell]
  obtain ⟨q0, q1, q2, q3, q4, q5, q6, q7, q8, q9, q10, q11, q12⟩ := cells13 ey
  have fz := blk_frozen ey
  clear hE hx hg e5 g5 f5 b5 gy fy by_ ey hz6
  go_wp2_with fail
  clear q0 q1 q2 q3 q4 q5 q6 q7 q8 q9 q10 q11 q12 fz hx'
  have hE := uint_at _ g l 16 8 24 8 x6 g6 (by omega) (by omega) (by omega) rfl rfl
  with_reducible refine hE.mono ?_
  rintro e y6 ⟨rfl, gy, hg, sy⟩
  have ey := blk_but e6 hg s6 (by omega)
  have fy := blk_but f6 hg (by omega) (by omega)
  have by_ := b6.trans (but_below hg b6.size (by omega))
  obtain ⟨x7, hx⟩ : ∃ z, z = y6.setCell ⟨P, 9, none⟩ (.int .u64 (fB l 16 8)) := ⟨_, rfl⟩
  have hx' := hx.symm
  have e7 : x7.heap[P]? = some (.cells #[.int .i64 (F / 64), .int .i64 (F / 8 % 8), .int .i64 (F % 8), .int .i64 (fB l 1 1), .int .i64 (iB l 2 1), .int .i64 (iB l 3 1), .int .u32 (fB l 4 4), .int .u32 (fB l 8 4), .int .u32 (fB l 12 4), .int .u64 (fB l 16 8), .int .u64 0, .int .u64 0, .int .u64 0] 27 (0, 0)) := by rw [hx]; exact blk_set ey rfl
  have g7 : Rd x7 wz.heap.size g (l.drop 24) 0 := by rw [hx]; exact gy.setfar (by exact hgP) _
  have f7 : x7.heap[w.heap.size]? = some (.cells zeros13 27 (0, 0)) := by rw [hx]; exact blk_far fy (by show w.heap.size ≠ P; omega) _
  have b7 : Below w.heap.size w x7 := by rw [hx]; exact by_.setCell (by show w.heap.size ≤ P; omega) _
  have s7 : P < x7.heap.size := by rw [hx]; simp [World.setCell]; omega
  have hz7 : x7.heap.size = y6.heap.size := by rw [hx]; simp [World.setCell]
  obtain ⟨q0, q1, q2, q3, q4, q5, q6, q7, q8, q9, q10, q11, q12⟩ := cells13 ey
  have fz := blk_frozen ey
  clear hE hx hg e6 g6 f6 b6 gy fy by_ ey hz7
  go_wp2_with fail
  clear q0 q1 q2 q3 q4 q5 q6 q7 q8 q9 q10 q11 q12 fz hx'
  have hE := uint_at _ g l 24 8 32 8 x7 g7 (by omega) (by omega) (by omega) rfl rfl
  with_reducible refine hE.mono ?_
  rintro e y7 ⟨rfl, gy, hg, sy⟩
  have ey := blk_but e7 hg s7 (by omega)
  have fy := blk_but f7 hg (by omega) (by omega)
  have by_ := b7.trans (but_below hg b7.size (by omega))
  obtain ⟨x8, hx⟩ : ∃ z, z = y7.setCell ⟨P, 10, none⟩ (.int .u64 (fB l 24 8)) := ⟨_, rfl⟩
  have hx' := hx.symm
  have e8 : x8.heap[P]? = some (.cells #[.int .i64 (F / 64), .int .i64 (F / 8 % 8), .int .i64 (F % 8), .int .i64 (fB l 1 1), .int .i64 (iB l 2 1), .int .i64 (iB l 3 1), .int .u32 (fB l 4 4), .int .u32 (fB l 8 4), .int .u32 (fB l 12 4), .int .u64 (fB l 16 8), .int .u64 (fB l 24 8), .int .u64 0, .int .u64 0] 27 (0, 0)) := by rw [hx]; exact blk_set ey rfl
  have g8 : Rd x8 wz.heap.size g (l.drop 32) 0 := by rw [hx]; exact gy.setfar (by exact hgP) _
  have f8 : x8.heap[w.heap.size]? = some (.cells zeros13 27 (0, 0)) := by rw [hx]; exact blk_far fy (by show w.heap.size ≠ P; omega) _
  have b8 : Below w.heap.size w x8 := by rw [hx]; exact by_.setCell (by show w.heap.size ≤ P; omega) _
  have s8 : P < x8.heap.size := by rw [hx]; simp [World.setCell]; omega
  have hz8 : x8.heap.size = y7.heap.size := by rw [hx]; simp [World.setCell]
  obtain ⟨q0, q1, q2, q3, q4, q5, q6, q7, q8, q9, q10, q11, q12⟩ := cells13 ey
  have fz := blk_frozen ey
  clear hE hx hg e7 g7 f7 b7 gy fy by_ ey hz8
  go_wp2_with fail
  clear q0 q1 q2 q3 q4 q5 q6 q7 q8 q9 q10 q11 q12 fz hx'
  have hE := uint_at _ g l 32 8 40 8 x8 g8 (by omega) (by omega) (by omega) rfl rfl
  with_reducible refine hE.mono ?_
  rintro e y8 ⟨rfl, gy, hg, sy⟩
  have ey := blk_but e8 hg s8 (by omega)
  have fy := blk_but f8 hg (by omega) (by omega)
  have by_ := b8.trans (but_below hg b8.size (by omega))
  obtain ⟨x9, hx⟩ : ∃ z, z = y8.setCell ⟨P, 11, none⟩ (.int .u64 (fB l 32 8)) := ⟨_, rfl⟩
  have hx' := hx.symm
  have e9 : x9.heap[P]? = some (.cells #[.int .i64 (F / 64), .int .i64 (F / 8 % 8), .int .i64 (F % 8), .int .i64 (fB l 1 1), .int .i64 (iB l 2 1), .int .i64 (iB l 3 1), .int .u32 (fB l 4 4), .int .u32 (fB l 8 4), .int .u32 (fB l 12 4), .int .u64 (fB l 16 8), .int .u64 (fB l 24 8), .int .u64 (fB l 32 8), .int .u64 0] 27 (0, 0)) := by rw [hx]; exact blk_set ey rfl
  have g9 : Rd x9 wz.heap.size g (l.drop 40) 0 := by rw [hx]; exact gy.setfar (by exact hgP) _
  have f9 : x9.heap[w.heap.size]? = some (.cells zeros13 27 (0, 0)) := by rw [hx]; exact blk_far fy (by show w.heap.size ≠ P; omega) _
  have b9 : Below w.heap.size w x9 := by rw [hx]; exact by_.setCell (by show w.heap.size ≤ P; omega) _
  have s9 : P < x9.heap.size := by rw [hx]; simp [World.setCell]; omega
  have hz9 : x9.heap.size = y8.heap.size := by rw [hx]; simp [World.setCell]
  obtain ⟨q0, q1, q2, q3, q4, q5, q6, q7, q8, q9, q10, q11, q12⟩ := cells13 ey
  have fz := blk_frozen ey
  clear hE hx hg e8 g8 f8 b8 gy fy by_ ey hz9
  go_wp2_with fail
  clear q0 q1 q2 q3 q4 q5 q6 q7 q8 q9 q10 q11 q12 fz hx'
  have hE := uint_at _ g l 40 8 48 8 x9 g9 (by omega) (by omega) (by omega) rfl rfl
  with_reducible refine hE.mono ?_
  rintro e y9 ⟨rfl, gy, hg, sy⟩
  have ey := blk_but e9 hg s9 (by omega)
  have fy := blk_but f9 hg (by omega) (by omega)
  have by_ := b9.trans (but_below hg b9.size (by omega))
  obtain ⟨x10, hx⟩ : ∃ z, z = y9.setCell ⟨P, 12, none⟩ (.int .u64 (fB l 40 8)) := ⟨_, rfl⟩
  have hx' := hx.symm
  have e10 : x10.heap[P]? = some (.cells #[.int .i64 (F / 64), .int .i64 (F / 8 % 8), .int .i64 (F % 8), .int .i64 (fB l 1 1), .int .i64 (iB l 2 1), .int .i64 (iB l 3 1), .int .u32 (fB l 4 4), .int .u32 (fB l 8 4), .int .u32 (fB l 12 4), .int .u64 (fB l 16 8), .int .u64 (fB l 24 8), .int .u64 (fB l 32 8), .int .u64 (fB l 40 8)] 27 (0, 0)) := by rw [hx]; exact blk_set ey rfl
  have g10 : Rd x10 wz.heap.size g (l.drop 48) 0 := by rw [hx]; exact gy.setfar (by exact hgP) _
  have f10 : x10.heap[w.heap.size]? = some (.cells zeros13 27 (0, 0)) := by rw [hx]; exact blk_far fy (by show w.heap.size ≠ P; omega) _
  have b10 : Below w.heap.size w x10 := by rw [hx]; exact by_.setCell (by show w.heap.size ≤ P; omega) _
  have s10 : P < x10.heap.size := by rw [hx]; simp [World.setCell]; omega
  have hz10 : x10.heap.size = y9.heap.size := by rw [hx]; simp [World.setCell]
  obtain ⟨q0, q1, q2, q3, q4, q5, q6, q7, q8, q9, q10, q11, q12⟩ := cells13 ey
  have fz := blk_frozen ey
  clear hE hx hg e9 g9 f9 b9 gy fy by_ ey hz10
  go_wp2_with fail
  clear q0 q1 q2 q3 q4 q5 q6 q7 q8 q9 q10 q11 q12 fz hx'
  obtain ⟨q0, q1, q2, q3, q4, q5, q6, q7, q8, q9, q10, q11, q12⟩ := cells13 e10
  have fz := blk_frozen e10
  obtain ⟨p0, p1, p2, p3, p4, p5, p6, p7, p8, p9, p10, p11, p12⟩ := cells13 f10
  have fr := blk_frozen f10
  have c0 := some_of p0
  have c1 := some_of p1
  have c2 := some_of p2
  have c3 := some_of p3
  have c4 := some_of p4
  have c5 := some_of p5
  have c6 := some_of p6
  have c7 := some_of p7
  have c8 := some_of p8
  have c9 := some_of p9
  have c10 := some_of p10
  have c11 := some_of p11
  have c12 := some_of p12
  clear p0 p1 p2 p3 p4 p5 p6 p7 p8 p9 p10 p11 p12
  obtain ⟨K, hK⟩ : ∃ K, n - 48 = K := ⟨_, rfl⟩
  have hKl : (l.drop 48).length = K := by rw [List.length_drop]; omega
  have hKm : K ≤ 140737488355328 := by omega
  have hgR : some w.heap.size ≠ some g := by simp; omega
  have hgQ : some P ≠ some g := by simp; omega
  have hPR : P ≠ w.heap.size := by omega
  have hPg : P ≠ g := by omega
  have hrs : w.heap.size < x10.heap.size := by omega
  have hlow : w.heap.size < wz.heap.size := sz
  have hrg : w.heap.size ≠ g := by omega
  have hrg' : w.heap.size ≤ g := by omega
  have hL : ∀ W : World, Rd W wz.heap.size g (l.drop 48) 0 → Calls Tryd.prog 90 #[rp g] W (fun e W' => e = .returned (.int .i64 K) ∧ W = W') := fun W hW => by
    have h := left_any _ g _ _ W hW
    rw [hKl] at h
    exact h
  have hT : ∀ W : World, Rd W wz.heap.size g (l.drop 48) 0 → Calls Tryd.prog 89 #[rp g, .int .i64 K] W (fun e W' => ∃ A' c', e = .returned (.slice A' K c') ∧ Ow W' W.heap.size A' c' (l.drop 48) ∧ But g W W' ∧ W.heap.size ≤ W'.heap.size) := fun W hW => by
    have h := bytes_any _ g _ 0 (K : Int) W hW (by omega)
    refine h.mono ?_
    rintro e W' ⟨A', c', rfl, hO, hR, hg, hs⟩
    have hk : tkL (l.drop 48) 0 K (nnB K) = l.drop 48 := by
      have hz : nnB (K : Int) = true := decide_eq_true (by omega)
      have hk : tkOk (l.drop 48) 0 K (nnB K) = true := by rw [hz]; simp [tkOk, -List.length_drop]; omega
      rw [(tk_yes hk).1]
      exact List.take_of_length_le (by omega)
    rw [hk] at hO ⊢
    rw [hKl]
    exact ⟨A', c', rfl, hO, hg, hs⟩
  obtain ⟨xd, hxd⟩ : ∃ x, x = x10.drew := ⟨_, rfl⟩
  have gd : Rd xd wz.heap.size g (l.drop 48) 0 := by rw [hxd]; exact g10
  have fd : xd.heap[w.heap.size]? = some (.cells zeros13 27 (0, 0)) := by rw [hxd]; exact f10
  have bd : Below w.heap.size w xd := by rw [hxd]; exact Below.drew b10
  have hsd : w.heap.size < xd.heap.size := by rw [hxd]; exact hrs
  have hLd := hL xd gd
  have hTd := hT xd gd
  rw [hxd] at hLd hTd
  clear hL hT
  go_region_held3 (fun w' => ((w').cell? ⟨P, 0, none⟩ = some (.int .i64 (F / 64)) ∧ (w').cell? ⟨P, 1, none⟩ = some (.int .i64 (F / 8 % 8)) ∧ (w').cell? ⟨P, 2, none⟩ = some (.int .i64 (F % 8)) ∧ (w').cell? ⟨P, 3, none⟩ = some (.int .i64 (fB l 1 1)) ∧ (w').cell? ⟨P, 4, none⟩ = some (.int .i64 (iB l 2 1)) ∧ (w').cell? ⟨P, 5, none⟩ = some (.int .i64 (iB l 3 1)) ∧ (w').cell? ⟨P, 6, none⟩ = some (.int .u32 (fB l 4 4)) ∧ (w').cell? ⟨P, 7, none⟩ = some (.int .u32 (fB l 8 4)) ∧ (w').cell? ⟨P, 8, none⟩ = some (.int .u32 (fB l 12 4)) ∧ (w').cell? ⟨P, 9, none⟩ = some (.int .u64 (fB l 16 8)) ∧ (w').cell? ⟨P, 10, none⟩ = some (.int .u64 (fB l 24 8)) ∧ (w').cell? ⟨P, 11, none⟩ = some (.int .u64 (fB l 32 8)) ∧ (w').cell? ⟨P, 12, none⟩ = some (.int .u64 (fB l 40 8)) ∧ (∀ o, (w').frozen? ⟨P, o, none⟩ = false) ∧ (w').cell? ⟨w.heap.size, 0, none⟩ = some (cellv (w') (w.heap.size) 0) ∧ (w').cell? ⟨w.heap.size, 1, none⟩ = some (cellv (w') (w.heap.size) 1) ∧ (w').cell? ⟨w.heap.size, 2, none⟩ = some (cellv (w') (w.heap.size) 2) ∧ (w').cell? ⟨w.heap.size, 3, none⟩ = some (cellv (w') (w.heap.size) 3) ∧ (w').cell? ⟨w.heap.size, 4, none⟩ = some (cellv (w') (w.heap.size) 4) ∧ (w').cell? ⟨w.heap.size, 5, none⟩ = some (cellv (w') (w.heap.size) 5) ∧ (w').cell? ⟨w.heap.size, 6, none⟩ = some (cellv (w') (w.heap.size) 6) ∧ (w').cell? ⟨w.heap.size, 7, none⟩ = some (cellv (w') (w.heap.size) 7) ∧ (w').cell? ⟨w.heap.size, 8, none⟩ = some (cellv (w') (w.heap.size) 8) ∧ (w').cell? ⟨w.heap.size, 9, none⟩ = some (cellv (w') (w.heap.size) 9) ∧ (w').cell? ⟨w.heap.size, 10, none⟩ = some (cellv (w') (w.heap.size) 10) ∧ (w').cell? ⟨w.heap.size, 11, none⟩ = some (cellv (w') (w.heap.size) 11) ∧ (w').cell? ⟨w.heap.size, 12, none⟩ = some (cellv (w') (w.heap.size) 12) ∧ (∀ o, (w').frozen? ⟨w.heap.size, o, none⟩ = false) ∧ Below w.heap.size w (w'))) ((go_split_ands; (repeat' apply And.intro) <;> with_reducible first | assumption | (refine drew_cell ?_; assumption) | (refine hg8.cell ?_ ?_ <;> first | assumption) | (exact some_of (hg8.cell (by assumption) hgR)) | (apply some_of; assumption) | (apply some_of; apply drew_cell; assumption) | ((iterate 13 (apply some_set)); assumption) | ((repeat (refine set_far ?_ hPR)); assumption) | (refine drew_frozen ?_; assumption) | (exact fun o => (hg8.frozen (by assumption) (by assumption) o)) | (exact but_frozen hg8 (by assumption) (by assumption) (by assumption)) | ((repeat (refine set_frozen ?_)); assumption) | ((repeat (first | assumption | exact Below.refl _ _ | refine Below.drew ?_ | refine below_drewN ?_ _ | refine Below.setCell ?_ (by first | omega | (simp; done) | (simp <;> omega)) _ | refine Below.alloc ?_ (by first | omega | (simp; done) | (simp <;> omega)) _ | refine Below.trans ?_ (Below.mono (by assumption) (by first | omega | (simp; done) | (simp <;> omega))))); done))) (first
    | (go_at_call 90; ((with_reducible refine hLd.mono ?_); rintro e w9 ⟨rfl, rfl⟩))
    | (go_at_call 89; ((with_reducible refine hTd.mono ?_); rintro e w8 ⟨A8, c8, rfl, hO8, hg8, s8⟩; (have f8 := blk_but fd (hxd ▸ hg8) hsd hrg); (have B8 := bd.trans (but_below (hxd ▸ hg8) bd.size hrg')); (have e8 := blk_but e10 (show But g x10 w8 from ⟨hg8.os, hg8.tape, hg8.output, hg8.size, hg8.block⟩) s10 hPg); (obtain ⟨t0, t1, t2, t3, t4, t5, t6, t7, t8, t9, t10, t11, t12⟩ := cells13 e8); (have fz8 := blk_frozen e8); (obtain ⟨u0, u1, u2, u3, u4, u5, u6, u7, u8, u9, u10, u11, u12⟩ := cells13 f8); (have fr8 := blk_frozen f8))))
  all_goals go_split_ands
  all_goals go_wp2
  have h9 : (((((((((((((w8.setCell ⟨w.heap.size, 0, none⟩ (.int .i64 (F / 64))).setCell ⟨w.heap.size, 1, none⟩ (.int .i64 (F / 8 % 8))).setCell ⟨w.heap.size, 2, none⟩ (.int .i64 (F % 8))).setCell ⟨w.heap.size, 3, none⟩ (.int .i64 (fB l 1 1))).setCell ⟨w.heap.size, 4, none⟩ (.int .i64 (iB l 2 1))).setCell ⟨w.heap.size, 5, none⟩ (.int .i64 (iB l 3 1))).setCell ⟨w.heap.size, 6, none⟩ (.int .u32 (fB l 4 4))).setCell ⟨w.heap.size, 7, none⟩ (.int .u32 (fB l 8 4))).setCell ⟨w.heap.size, 8, none⟩ (.int .u32 (fB l 12 4))).setCell ⟨w.heap.size, 9, none⟩ (.int .u64 (fB l 16 8))).setCell ⟨w.heap.size, 10, none⟩ (.int .u64 (fB l 24 8))).setCell ⟨w.heap.size, 11, none⟩ (.int .u64 (fB l 32 8))).setCell ⟨w.heap.size, 12, none⟩ (.int .u64 (fB l 40 8))).heap[w.heap.size]? = some (.cells #[.int .i64 (F / 64), .int .i64 (F / 8 % 8), .int .i64 (F % 8), .int .i64 (fB l 1 1), .int .i64 (iB l 2 1), .int .i64 (iB l 3 1), .int .u32 (fB l 4 4), .int .u32 (fB l 8 4), .int .u32 (fB l 12 4), .int .u64 (fB l 16 8), .int .u64 (fB l 24 8), .int .u64 (fB l 32 8), .int .u64 (fB l 40 8)] 27 (0, 0)) := set13_heap f8
  obtain ⟨k0, k1, k2, k3, k4, k5, k6, k7, k8, k9, k10, k11, k12⟩ := cells13 h9
  have j0 := cellv_eq k0
  have j1 := cellv_eq k1
  have j2 := cellv_eq k2
  have j3 := cellv_eq k3
  have j4 := cellv_eq k4
  have j5 := cellv_eq k5
  have j6 := cellv_eq k6
  have j7 := cellv_eq k7
  have j8 := cellv_eq k8
  have j9 := cellv_eq k9
  have j10 := cellv_eq k10
  have j11 := cellv_eq k11
  have j12 := cellv_eq k12
  have B9 : Below w.heap.size w (((((((((((((w8.setCell ⟨w.heap.size, 0, none⟩ (.int .i64 (F / 64))).setCell ⟨w.heap.size, 1, none⟩ (.int .i64 (F / 8 % 8))).setCell ⟨w.heap.size, 2, none⟩ (.int .i64 (F % 8))).setCell ⟨w.heap.size, 3, none⟩ (.int .i64 (fB l 1 1))).setCell ⟨w.heap.size, 4, none⟩ (.int .i64 (iB l 2 1))).setCell ⟨w.heap.size, 5, none⟩ (.int .i64 (iB l 3 1))).setCell ⟨w.heap.size, 6, none⟩ (.int .u32 (fB l 4 4))).setCell ⟨w.heap.size, 7, none⟩ (.int .u32 (fB l 8 4))).setCell ⟨w.heap.size, 8, none⟩ (.int .u32 (fB l 12 4))).setCell ⟨w.heap.size, 9, none⟩ (.int .u64 (fB l 16 8))).setCell ⟨w.heap.size, 10, none⟩ (.int .u64 (fB l 24 8))).setCell ⟨w.heap.size, 11, none⟩ (.int .u64 (fB l 32 8))).setCell ⟨w.heap.size, 12, none⟩ (.int .u64 (fB l 40 8))) := set13_below (Nat.le_refl _) B8
  have O9 : Ow (((((((((((((w8.setCell ⟨w.heap.size, 0, none⟩ (.int .i64 (F / 64))).setCell ⟨w.heap.size, 1, none⟩ (.int .i64 (F / 8 % 8))).setCell ⟨w.heap.size, 2, none⟩ (.int .i64 (F % 8))).setCell ⟨w.heap.size, 3, none⟩ (.int .i64 (fB l 1 1))).setCell ⟨w.heap.size, 4, none⟩ (.int .i64 (iB l 2 1))).setCell ⟨w.heap.size, 5, none⟩ (.int .i64 (iB l 3 1))).setCell ⟨w.heap.size, 6, none⟩ (.int .u32 (fB l 4 4))).setCell ⟨w.heap.size, 7, none⟩ (.int .u32 (fB l 8 4))).setCell ⟨w.heap.size, 8, none⟩ (.int .u32 (fB l 12 4))).setCell ⟨w.heap.size, 9, none⟩ (.int .u64 (fB l 16 8))).setCell ⟨w.heap.size, 10, none⟩ (.int .u64 (fB l 24 8))).setCell ⟨w.heap.size, 11, none⟩ (.int .u64 (fB l 32 8))).setCell ⟨w.heap.size, 12, none⟩ (.int .u64 (fB l 40 8))) x10.drew.heap.size A8 c8 (l.drop 48) := set13_ow (by show w.heap.size < x10.heap.size; exact hrs) hO8
  have hlast : w.heap.size ≤ x10.drew.heap.size := by show w.heap.size ≤ x10.heap.size; omega
  refine bodyPost_ret (v := .tuple #[ntp (F / 64) (F / 8 % 8) (F % 8) (fB l 1 1) (iB l 2 1) (iB l 3 1) (fB l 4 4) (fB l 8 4) (fB l 12 4) (fB l 16 8) (fB l 24 8) (fB l 32 8) (fB l 40 8), .slice A8 K c8, .int .i64 0]) (by simp [results, Tryd.results58, go_sem, k0, k1, k2, k3, k4, k5, k6, k7, k8, k9, k10, k11, k12]) rfl ⟨A8, c8, by rw [hK], O9.wide hlast, B9⟩
end Go.Proofs.YtachhbbofemfdaaDoor
