/- What ntpmsg.Encode and its reference compute. -/
import Derived.Test.YtghcaplhanjgbaaNtp
namespace Go.Proofs.Ytghcaplhanjgbaa
open Go.RowKit
set_option linter.unusedSimpArgs false
set_option linter.unusedVariables false
set_option maxRecDepth 100000
set_option maxHeartbeats 2000000 in
theorem encode_ok (l v m st po pr rd rp id ref org rec xmt : Int) (w : World) (hk : nchk l v m st po pr = 0) (h6 : 0 ≤ rd ∧ rd ≤ 4294967295) (h7 : 0 ≤ rp ∧ rp ≤ 4294967295) (h8 : 0 ≤ id ∧ id ≤ 4294967295)
    (h9 : 0 ≤ ref ∧ ref ≤ 18446744073709551615) (h10 : 0 ≤ org ∧ org ≤ 18446744073709551615) (h11 : 0 ≤ rec ∧ rec ≤ 18446744073709551615) (h12 : 0 ≤ xmt ∧ xmt ≤ 18446744073709551615) :
    Calls Try.prog 4 #[ntp l v m st po pr rd rp id ref org rec xmt] w fun e w' => ∃ A c, e = .returned (.tuple #[.slice A 48 c, .int .i64 0]) ∧ Bs w' w.heap.size w'.heap.size A (encH l v m st po pr rd rp id ref org rec xmt) ∧ 48 ≤ c ∧ c ≤ 9223372036854775807 ∧ Below w.heap.size w w' := by
  obtain ⟨kl, kv, km, kst, kpo, kpr⟩ := nchk_ok hk
  have ho := i64_or2 l v m kl kv km
  have hw1 : IntKind.u64.wrap (l * 64 + v * 8 + m) = l * 64 + v * 8 + m := by rw [IntKind.wrap_u64]; omega
  have hw2 : IntKind.u64.wrap st = st := by rw [IntKind.wrap_u64]; omega
  have hw3 : IntKind.u64.wrap (po % 256) = po % 256 := by rw [IntKind.wrap_u64]; omega
  have hw4 : IntKind.u64.wrap (pr % 256) = pr % 256 := by rw [IntKind.wrap_u64]; omega
  have hw5 : IntKind.u64.wrap rd = rd := by rw [IntKind.wrap_u64]; omega
  have hw6 : IntKind.u64.wrap rp = rp := by rw [IntKind.wrap_u64]; omega
  have hw7 : IntKind.u64.wrap id = id := by rw [IntKind.wrap_u64]; omega
  have hw8 : IntKind.u8.wrap po = po % 256 := IntKind.wrap_u8 _
  have hw9 : IntKind.u8.wrap pr = pr % 256 := IntKind.wrap_u8 _
  have hf : Fits (ntpPairs l v m st po pr rd rp id ref org rec xmt) := by
    intro p hp
    simp only [ntpPairs, List.mem_cons, List.not_mem_nil, or_false] at hp
    rcases hp with rfl | rfl | rfl | rfl | rfl | rfl | rfl | rfl | rfl | rfl | rfl <;> simp <;> omega
  have hc := nchk_any l v m st po pr rd rp id ref org rec xmt
  simp only [hk] at hc
  go_enter Try.func4, Try.ntmps4
  go_wp2_with (first | (go_at_call 5; ((with_reducible refine (hc _).mono ?_); rintro e w1 ⟨rfl, hb1⟩; (have q := cells13 (kept13 hb1)); (obtain ⟨q0, q1, q2, q3, q4, q5, q6, q7, q8, q9, q10, q11, q12⟩ := q))))
  have hP := put_any w1.heap.size (ntpPairs l v m st po pr rd rp id ref org rec xmt) 22 22 23 (w1.alloc (.cells #[.int .u64 (l * 64 + v * 8 + m), .int .u64 1, .int .u64 st, .int .u64 1, .int .u64 (po % 256), .int .u64 1, .int .u64 (pr % 256), .int .u64 1, .int .u64 rd, .int .u64 4, .int .u64 rp, .int .u64 4, .int .u64 id, .int .u64 4, .int .u64 ref, .int .u64 8, .int .u64 org, .int .u64 8, .int .u64 rec, .int .u64 8, .int .u64 xmt, .int .u64 8] 23)) (heap_alloc_new w1 _) rfl hf (by simp [ntpPairs])
  have hl48 : (encB (ntpPairs l v m st po pr rd rp id ref org rec xmt)).length = 48 := encH_len l v m st po pr rd rp id ref org rec xmt
  rw [hl48] at hP
  with_reducible refine hP.mono ?_
  rintro e w2 ⟨A, c, rfl, hB, hc48, hcm, hb2⟩
  have b1 : Below w.heap.size w w1 := ((Below.refl w.heap.size w).alloc (Nat.le_refl _) _).trans (hb1.mono (by simp))
  have b2 : Below w.heap.size w w2 := (b1.alloc b1.size _).trans (hb2.mono (by have := b1.size; simp; omega))
  clear q0 q1 q2 q3 q4 q5 q6 q7 q8 q9 q10 q11 q12 hP hb1
  go_wp2
  go_ret2
  exact ⟨A, c, rfl, hB.wide (by have := b1.size; simp; omega) (Nat.le_refl _), hc48, hcm, b2⟩
theorem nchk_3 {l v m st po pr : Int} (h : nchk l v m st po pr ≠ 0) : nchk l v m st po pr = 3 := by unfold nchk at *; split <;> simp_all
set_option maxHeartbeats 1000000 in
theorem encode_err (l v m st po pr rd rp id ref org rec xmt : Int) (w : World) (hk : nchk l v m st po pr = 3) :
    Calls Try.prog 4 #[ntp l v m st po pr rd rp id ref org rec xmt] w fun e w' => e = .returned (.tuple #[.slice none 0 0, .int .i64 3]) ∧ Below w.heap.size w w' := by
  have hc := nchk_any l v m st po pr rd rp id ref org rec xmt
  simp only [hk] at hc
  go_enter Try.func4, Try.ntmps4
  go_wp2_with (first | (go_at_call 5; ((with_reducible refine (hc _).mono ?_); rintro e w1 ⟨rfl, hb1⟩)))
  have b1 : Below w.heap.size w w1 := ((Below.refl w.heap.size w).alloc (Nat.le_refl _) _).trans (hb1.mono (by simp))
  go_ret2
  exact ⟨rfl, b1⟩
end Go.Proofs.Ytghcaplhanjgbaa
