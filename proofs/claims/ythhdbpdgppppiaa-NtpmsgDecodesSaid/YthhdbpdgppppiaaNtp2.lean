/- What ntpmsg.Encode and its reference compute. -/
import Derived.Test.YthhdbpdgppppiaaNtp
namespace Go.Proofs.Ythhdbpdgppppiaa
open Go.RowKit
set_option linter.unusedSimpArgs false
set_option linter.unusedVariables false
set_option maxHeartbeats 2000000 in
theorem encode_ok (l v m st po pr rd rp id ref org rec xmt : Int) (w : World) (hk : nchk l v m st po pr = 0) (h6 : 0 ≤ rd ∧ rd ≤ 4294967295) (h7 : 0 ≤ rp ∧ rp ≤ 4294967295) (h8 : 0 ≤ id ∧ id ≤ 4294967295)
    (h9 : 0 ≤ ref ∧ ref ≤ 18446744073709551615) (h10 : 0 ≤ org ∧ org ≤ 18446744073709551615) (h11 : 0 ≤ rec ∧ rec ≤ 18446744073709551615) (h12 : 0 ≤ xmt ∧ xmt ≤ 18446744073709551615) :
    Calls Try.prog 8 #[ntp l v m st po pr rd rp id ref org rec xmt] w fun e w' => ∃ A c, e = .returned (.tuple #[.slice A 48 c, .int .i64 0]) ∧ Bs w' w.heap.size w'.heap.size A (encH l v m st po pr rd rp id ref org rec xmt) ∧ 48 ≤ c ∧ c ≤ 9223372036854775807 ∧ Below w.heap.size w w' := by
  obtain ⟨kl, kv, km, kst, kpo, kpr⟩ := nchk_ok hk
  have ho := i64_or2 l v m kl kv km
  have hw1 : IntKind.u64.wrap (l * 64 + v * 8 + m) = l * 64 + v * 8 + m := by rw [IntKind.wrap_u64]; omega
  have hw2 : IntKind.u64.wrap st = st := by rw [IntKind.wrap_u64]; omega
  have hw3 : IntKind.u64.wrap (po % 256) = po % 256 := by rw [IntKind.wrap_u64]; omega
  have hw4 : IntKind.u64.wrap (pr % 256) = pr % 256 := by rw [IntKind.wrap_u64]; omega
  have hw5 : IntKind.u64.wrap rd = rd := by rw [IntKind.wrap_u64]; omega
  have hw6 : IntKind.u64.wrap rp = rp := by rw [IntKind.wrap_u64]; omega
  have hw7 : IntKind.u64.wrap id = id := by rw [IntKind.wrap_u64]; omega
  have hw8 : IntKind.u8.wrap po = po % 256 := IntKind.wrap_u8 _
  have hw9 : IntKind.u8.wrap pr = pr % 256 := IntKind.wrap_u8 _
  have hf : Fits (ntpPairs l v m st po pr rd rp id ref org rec xmt) := by
    intro p hp
    simp only [ntpPairs, List.mem_cons, List.not_mem_nil, or_false] at hp
    rcases hp with rfl | rfl | rfl | rfl | rfl | rfl | rfl | rfl | rfl | rfl | rfl <;> simp <;> omega
  have hc := nchk_any l v m st po pr rd rp id ref org rec xmt
  simp only [hk] at hc
  go_enter Try.func8, Try.ntmps8
  go_wp2_with (first | (go_at_call 10; ((with_reducible refine (hc _).mono ?_); rintro e w1 ⟨rfl, hb1⟩; (have q := cells13 (kept13 hb1)); (obtain ⟨q0, q1, q2, q3, q4, q5, q6, q7, q8, q9, q10, q11, q12⟩ := q))))
  have hP := put_any w1.heap.size (ntpPairs l v m st po pr rd rp id ref org rec xmt) 22 22 23 (w1.alloc (.cells #[.int .u64 (l * 64 + v * 8 + m), .int .u64 1, .int .u64 st, .int .u64 1, .int .u64 (po % 256), .int .u64 1, .int .u64 (pr % 256), .int .u64 1, .int .u64 rd, .int .u64 4, .int .u64 rp, .int .u64 4, .int .u64 id, .int .u64 4, .int .u64 ref, .int .u64 8, .int .u64 org, .int .u64 8, .int .u64 rec, .int .u64 8, .int .u64 xmt, .int .u64 8] 23)) (heap_alloc_new w1 _) rfl hf (by simp [ntpPairs])
  have hl48 : (encB (ntpPairs l v m st po pr rd rp id ref org rec xmt)).length = 48 := encH_len l v m st po pr rd rp id ref org rec xmt
  rw [hl48] at hP
  with_reducible refine hP.mono ?_
  rintro e w2 ⟨A, c, rfl, hB, hc48, hcm, hb2⟩
  have b1 : Below w.heap.size w w1 := ((Below.refl w.heap.size w).alloc (Nat.le_refl _) _).trans (hb1.mono (by simp))
  have b2 : Below w.heap.size w w2 := (b1.alloc b1.size _).trans (hb2.mono (by have := b1.size; simp; omega))
  clear q0 q1 q2 q3 q4 q5 q6 q7 q8 q9 q10 q11 q12 hP hb1
  go_wp2
  go_ret2
  exact ⟨A, c, rfl, hB.wide (by have := b1.size; simp; omega) (Nat.le_refl _), hc48, hcm, b2⟩
theorem nchk_3 {l v m st po pr : Int} (h : nchk l v m st po pr ≠ 0) : nchk l v m st po pr = 3 := by unfold nchk at *; split <;> simp_all
set_option maxHeartbeats 1000000 in
theorem encode_err (l v m st po pr rd rp id ref org rec xmt : Int) (w : World) (hk : nchk l v m st po pr = 3) :
    Calls Try.prog 8 #[ntp l v m st po pr rd rp id ref org rec xmt] w fun e w' => e = .returned (.tuple #[.slice none 0 0, .int .i64 3]) ∧ Below w.heap.size w w' := by
  have hc := nchk_any l v m st po pr rd rp id ref org rec xmt
  simp only [hk] at hc
  go_enter Try.func8, Try.ntmps8
  go_wp2_with (first | (go_at_call 10; ((with_reducible refine (hc _).mono ?_); rintro e w1 ⟨rfl, hb1⟩)))
  have b1 : Below w.heap.size w w1 := ((Below.refl w.heap.size w).alloc (Nat.le_refl _) _).trans (hb1.mono (by simp))
  go_ret2
  exact ⟨rfl, b1⟩
theorem i64_and255 (n : Int) : bits .and .i64 n 255 = n % 256 := by
  have hm : (BitVec.ofInt 64 255).toNat = 2 ^ 8 - 1 := by decide
  have key : (BitVec.ofInt 64 n &&& BitVec.ofInt 64 255).toNat = (n % ((2 ^ 64 : Nat) : Int)).toNat % 2 ^ 8 := by
    rw [BitVec.toNat_and, BitVec.toNat_ofInt, hm, Nat.and_two_pow_sub_one_eq_mod]
  show IntKind.i64.wrap ((BitVec.ofInt 64 n &&& BitVec.ofInt 64 255).toNat : Nat) = n % 256
  rw [key, IntKind.wrap_i64]
  omega
set_option maxHeartbeats 1000000 in
theorem rencode_err (l v m st po pr rd rp id ref org rec xmt : Int) (w : World) (hk : nchk l v m st po pr = 3) :
    Calls Try.prog 9 #[ntp l v m st po pr rd rp id ref org rec xmt] w fun e w' => e = .returned (.tuple #[.slice none 0 0, .int .i64 3]) ∧ Below w.heap.size w w' := by
  have hc := rnchk_any l v m st po pr rd rp id ref org rec xmt
  simp only [hk] at hc
  go_enter Try.func9, Try.ntmps9
  go_wp2_with (first | (go_at_call 11; ((with_reducible refine (hc _).mono ?_); rintro e w1 ⟨rfl, hb1⟩)))
  have b1 : Below w.heap.size w w1 := ((Below.refl w.heap.size w).alloc (Nat.le_refl _) _).trans (hb1.mono (by simp))
  go_ret2
  exact ⟨rfl, b1⟩
theorem rput_lit (A : Option Addr) (nl c lo : Nat) (l : List Int) (n : Int) (s : Nat) (si : Int) (w : World) (hsi : ((s : Nat) : Int) = si) (hnl : l.length = nl) (h : Ow w lo A c l) (hlo : lo ≤ w.heap.size) (hm : nl ≤ 1000) (hn : 0 ≤ n ∧ n < 18446744073709551616) (hs1 : 1 ≤ s) (hs2 : s ≤ 8) :
    Calls Try.prog 23 #[.slice A nl c, .int .u64 n, .int .i64 si] w fun e w' => ∃ A' c', e = .returned (.slice A' (nl + s) c') ∧ Ow w' lo A' c' (l ++ bytesB s n) ∧ Below lo w w' := by
  subst hsi
  exact rput_any A nl c lo l n s w hnl h hlo hm hn hs1 hs2
theorem encH_split (l v m st po pr rd rp id ref org rec xmt : Int) (h0 : 0 ≤ l * 64 + v * 8 + m ∧ l * 64 + v * 8 + m ≤ 255) (hst : 0 ≤ st ∧ st ≤ 255) :
    encH l v m st po pr rd rp id ref org rec xmt = [l * 64 + v * 8 + m, st, po % 256, pr % 256] ++ bytesB 4 rd ++ bytesB 4 rp ++ bytesB 4 id ++ bytesB 8 ref ++ bytesB 8 org ++ bytesB 8 rec ++ bytesB 8 xmt := by
  have e1 : bytesB 1 (l * 64 + v * 8 + m) = [l * 64 + v * 8 + m] := by simp [bytesB]; omega
  have e2 : bytesB 1 st = [st] := by simp [bytesB]; omega
  have e3 : bytesB 1 (po % 256) = [po % 256] := by simp [bytesB]
  have e4 : bytesB 1 (pr % 256) = [pr % 256] := by simp [bytesB]
  simp only [encH, ntpPairs, encB, List.flatMap_cons, List.flatMap_nil, e1, e2, e3, e4, List.append_nil, List.append_assoc, List.cons_append, List.nil_append]
set_option maxHeartbeats 4000000 in
theorem rencode_ok (l v m st po pr rd rp id ref org rec xmt : Int) (w : World) (hk : nchk l v m st po pr = 0) (h6 : 0 ≤ rd ∧ rd ≤ 4294967295) (h7 : 0 ≤ rp ∧ rp ≤ 4294967295) (h8 : 0 ≤ id ∧ id ≤ 4294967295)
    (h9 : 0 ≤ ref ∧ ref ≤ 18446744073709551615) (h10 : 0 ≤ org ∧ org ≤ 18446744073709551615) (h11 : 0 ≤ rec ∧ rec ≤ 18446744073709551615) (h12 : 0 ≤ xmt ∧ xmt ≤ 18446744073709551615) :
    Calls Try.prog 9 #[ntp l v m st po pr rd rp id ref org rec xmt] w fun e w' => ∃ A c, e = .returned (.tuple #[.slice A 48 c, .int .i64 0]) ∧ Bs w' w.heap.size w'.heap.size A (encH l v m st po pr rd rp id ref org rec xmt) ∧ Below w.heap.size w w' := by
  obtain ⟨kl, kv, km, kst, kpo, kpr⟩ := nchk_ok hk
  have hw1 : IntKind.u8.wrap (l * 64 + v * 8 + m) = l * 64 + v * 8 + m := by rw [IntKind.wrap_u8]; omega
  have hw2 : IntKind.u8.wrap st = st := by rw [IntKind.wrap_u8]; omega
  have ha1 := i64_and255 po
  have ha2 := i64_and255 pr
  have hw3 : IntKind.u8.wrap (po % 256) = po % 256 := by rw [IntKind.wrap_u8]; omega
  have hw4 : IntKind.u8.wrap (pr % 256) = pr % 256 := by rw [IntKind.wrap_u8]; omega
  have hw5 : IntKind.u64.wrap rd = rd := by rw [IntKind.wrap_u64]; omega
  have hw6 : IntKind.u64.wrap rp = rp := by rw [IntKind.wrap_u64]; omega
  have hw7 : IntKind.u64.wrap id = id := by rw [IntKind.wrap_u64]; omega
  have hS := encH_split l v m st po pr rd rp id ref org rec xmt (by omega) kst
  obtain ⟨l0, hl0⟩ : ∃ l0, l0 = [l * 64 + v * 8 + m, st, po % 256, pr % 256] := ⟨_, rfl⟩
  have hy0 : Byt l0 := by
    rw [hl0]; intro x hx
    simp only [List.mem_cons, List.not_mem_nil, or_false] at hx
    rcases hx with rfl | rfl | rfl | rfl <;> omega
  have hlen0 : l0.length = 4 := by rw [hl0]; rfl
  rw [← hl0] at hS
  have hc := rnchk_any l v m st po pr rd rp id ref org rec xmt
  simp only [hk] at hc
  go_enter Try.func9, Try.ntmps9
  go_wp2_with (first | (go_at_call 11; ((with_reducible refine (hc _).mono ?_); rintro e w1 ⟨rfl, hb1⟩; (have z1 : w.heap.size < w1.heap.size := by have := hb1.size; simp at this; omega); (have qb := kept13 hb1); (have q := cells13 qb); (obtain ⟨q0, q1, q2, q3, q4, q5, q6, q7, q8, q9, q10, q11, q12⟩ := q))))
  have b1 : Below w.heap.size w w1 := ((Below.refl w.heap.size w).alloc (Nat.le_refl _) _).trans (hb1.mono (by simp))
  clear q0 q1 q2 q3 q4 q5 q6 q7 q8 q9 q10 q11 q12 hb1 hc
  have hL : Ow (w1.alloc (.cells #[.int .u8 (l * 64 + v * 8 + m), .int .u8 st, .int .u8 (po % 256), .int .u8 (pr % 256)] 5)) w1.heap.size (some ⟨w1.heap.size, 0, none⟩) l0.length l0 :=
    Ow.lit w1 l0 #[.int .u8 (l * 64 + v * 8 + m), .int .u8 st, .int .u8 (po % 256), .int .u8 (pr % 256)] (by rw [hl0]; rfl) hy0 (by rw [hlen0]; omega)
  rw [hlen0] at hL
  have qb2 := (Below.heap_alloc w1 (.cells #[.int .u8 (l * 64 + v * 8 + m), .int .u8 st, .int .u8 (po % 256), .int .u8 (pr % 256)] 5) w.heap.size z1).trans qb
  have b2 : Below w.heap.size w (w1.alloc (.cells #[.int .u8 (l * 64 + v * 8 + m), .int .u8 st, .int .u8 (po % 256), .int .u8 (pr % 256)] 5)) := b1.alloc b1.size _
  have z2 : w1.heap.size ≤ (w1.alloc (.cells #[.int .u8 (l * 64 + v * 8 + m), .int .u8 st, .int .u8 (po % 256), .int .u8 (pr % 256)] 5)).heap.size := by simp
  obtain ⟨wa, hwa⟩ : ∃ wa, wa = w1.alloc (.cells #[.int .u8 (l * 64 + v * 8 + m), .int .u8 st, .int .u8 (po % 256), .int .u8 (pr % 256)] 5) := ⟨_, rfl⟩
  rw [← hwa] at hL qb2 b2 z2
  have hwa' := hwa.symm
  clear hwa
  rw [hwa']
  have qc := cells13 qb2
  obtain ⟨q0, q1, q2, q3, q4, q5, q6, q7, q8, q9, q10, q11, q12⟩ := qc
  go_wp2_with fail
  have hE := rput_lit _ 4 _ w1.heap.size l0 rd 4 4 _ rfl hlen0 hL z2 (by omega) (by omega) (by omega) (by omega)
  with_reducible refine hE.mono ?_
  rintro e w3 ⟨A', c', rfl, hO3, hb⟩
  obtain ⟨l3, hl2e⟩ : ∃ z, z = l0 ++ bytesB 4 rd := ⟨_, rfl⟩
  rw [← hl2e] at hO3
  have hl3 : (l3).length = 4 + 4 := by rw [hl2e, List.length_append, hlen0, bytesB_length]
  rw [← hl2e] at hS
  have qb3 := (hb.block w.heap.size z1).trans qb2
  have b3 := (b2).trans (hb.mono (by omega))
  have z3 := Nat.le_trans z2 hb.size
  clear q0 q1 q2 q3 q4 q5 q6 q7 q8 q9 q10 q11 q12 hE hb hL qb2 hl2e
  have qc := cells13 qb3
  obtain ⟨q0, q1, q2, q3, q4, q5, q6, q7, q8, q9, q10, q11, q12⟩ := qc
  go_wp2_with fail
  have hE := rput_lit _ 8 _ w1.heap.size l3 rp 4 4 _ rfl hl3 hO3 z3 (by omega) (by omega) (by omega) (by omega)
  with_reducible refine hE.mono ?_
  rintro e w4 ⟨A', c', rfl, hO4, hb⟩
  obtain ⟨l4, hl2e⟩ : ∃ z, z = l3 ++ bytesB 4 rp := ⟨_, rfl⟩
  rw [← hl2e] at hO4
  have hl4 : (l4).length = 8 + 4 := by rw [hl2e, List.length_append, hl3, bytesB_length]
  rw [← hl2e] at hS
  have qb4 := (hb.block w.heap.size z1).trans qb3
  have b4 := (b3).trans (hb.mono (by omega))
  have z4 := Nat.le_trans z3 hb.size
  clear q0 q1 q2 q3 q4 q5 q6 q7 q8 q9 q10 q11 q12 hE hb hO3 qb3 hl2e
  have qc := cells13 qb4
  obtain ⟨q0, q1, q2, q3, q4, q5, q6, q7, q8, q9, q10, q11, q12⟩ := qc
  go_wp2_with fail
  have hE := rput_lit _ 12 _ w1.heap.size l4 id 4 4 _ rfl hl4 hO4 z4 (by omega) (by omega) (by omega) (by omega)
  with_reducible refine hE.mono ?_
  rintro e w5 ⟨A', c', rfl, hO5, hb⟩
  obtain ⟨l5, hl2e⟩ : ∃ z, z = l4 ++ bytesB 4 id := ⟨_, rfl⟩
  rw [← hl2e] at hO5
  have hl5 : (l5).length = 12 + 4 := by rw [hl2e, List.length_append, hl4, bytesB_length]
  rw [← hl2e] at hS
  have qb5 := (hb.block w.heap.size z1).trans qb4
  have b5 := (b4).trans (hb.mono (by omega))
  have z5 := Nat.le_trans z4 hb.size
  clear q0 q1 q2 q3 q4 q5 q6 q7 q8 q9 q10 q11 q12 hE hb hO4 qb4 hl2e
  have qc := cells13 qb5
  obtain ⟨q0, q1, q2, q3, q4, q5, q6, q7, q8, q9, q10, q11, q12⟩ := qc
  go_wp2_with fail
  have hE := rput_lit _ 16 _ w1.heap.size l5 ref 8 8 _ rfl hl5 hO5 z5 (by omega) (by omega) (by omega) (by omega)
  with_reducible refine hE.mono ?_
  rintro e w6 ⟨A', c', rfl, hO6, hb⟩
  obtain ⟨l6, hl2e⟩ : ∃ z, z = l5 ++ bytesB 8 ref := ⟨_, rfl⟩
  rw [← hl2e] at hO6
  have hl6 : (l6).length = 16 + 8 := by rw [hl2e, List.length_append, hl5, bytesB_length]
  rw [← hl2e] at hS
  have qb6 := (hb.block w.heap.size z1).trans qb5
  have b6 := (b5).trans (hb.mono (by omega))
  have z6 := Nat.le_trans z5 hb.size
  clear q0 q1 q2 q3 q4 q5 q6 q7 q8 q9 q10 q11 q12 hE hb hO5 qb5 hl2e
  have qc := cells13 qb6
  obtain ⟨q0, q1, q2, q3, q4, q5, q6, q7, q8, q9, q10, q11, q12⟩ := qc
  go_wp2_with fail
  have hE := rput_lit _ 24 _ w1.heap.size l6 org 8 8 _ rfl hl6 hO6 z6 (by omega) (by omega) (by omega) (by omega)
  with_reducible refine hE.mono ?_
  rintro e w7 ⟨A', c', rfl, hO7, hb⟩
  obtain ⟨l7, hl2e⟩ : ∃ z, z = l6 ++ bytesB 8 org := ⟨_, rfl⟩
  rw [← hl2e] at hO7
  have hl7 : (l7).length = 24 + 8 := by rw [hl2e, List.length_append, hl6, bytesB_length]
  rw [← hl2e] at hS
  have qb7 := (hb.block w.heap.size z1).trans qb6
  have b7 := (b6).trans (hb.mono (by omega))
  have z7 := Nat.le_trans z6 hb.size
  clear q0 q1 q2 q3 q4 q5 q6 q7 q8 q9 q10 q11 q12 hE hb hO6 qb6 hl2e
  have qc := cells13 qb7
  obtain ⟨q0, q1, q2, q3, q4, q5, q6, q7, q8, q9, q10, q11, q12⟩ := qc
  go_wp2_with fail
  have hE := rput_lit _ 32 _ w1.heap.size l7 rec 8 8 _ rfl hl7 hO7 z7 (by omega) (by omega) (by omega) (by omega)
  with_reducible refine hE.mono ?_
  rintro e w8 ⟨A', c', rfl, hO8, hb⟩
  obtain ⟨l8, hl2e⟩ : ∃ z, z = l7 ++ bytesB 8 rec := ⟨_, rfl⟩
  rw [← hl2e] at hO8
  have hl8 : (l8).length = 32 + 8 := by rw [hl2e, List.length_append, hl7, bytesB_length]
  rw [← hl2e] at hS
  have qb8 := (hb.block w.heap.size z1).trans qb7
  have b8 := (b7).trans (hb.mono (by omega))
  have z8 := Nat.le_trans z7 hb.size
  clear q0 q1 q2 q3 q4 q5 q6 q7 q8 q9 q10 q11 q12 hE hb hO7 qb7 hl2e
  have qc := cells13 qb8
  obtain ⟨q0, q1, q2, q3, q4, q5, q6, q7, q8, q9, q10, q11, q12⟩ := qc
  go_wp2_with fail
  have hE := rput_lit _ 40 _ w1.heap.size l8 xmt 8 8 _ rfl hl8 hO8 z8 (by omega) (by omega) (by omega) (by omega)
  with_reducible refine hE.mono ?_
  rintro e w9 ⟨A', c', rfl, hO9, hb⟩
  obtain ⟨l9, hl2e⟩ : ∃ z, z = l8 ++ bytesB 8 xmt := ⟨_, rfl⟩
  rw [← hl2e] at hO9
  have hl9 : (l9).length = 40 + 8 := by rw [hl2e, List.length_append, hl8, bytesB_length]
  rw [← hl2e] at hS
  have qb9 := (hb.block w.heap.size z1).trans qb8
  have b9 := (b8).trans (hb.mono (by omega))
  have z9 := Nat.le_trans z8 hb.size
  clear q0 q1 q2 q3 q4 q5 q6 q7 q8 q9 q10 q11 q12 hE hb hO8 qb8 hl2e
  go_wp2
  go_ret2
  exact ⟨_, _, rfl, by rw [hS]; exact hO9.bs.wide (by omega) (Nat.le_refl _), b9⟩
end Go.Proofs.Ythhdbpdgppppiaa
