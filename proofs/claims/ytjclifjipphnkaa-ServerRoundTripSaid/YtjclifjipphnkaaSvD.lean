/- What server.KissReply and its reference compute. -/
import Derived.Test.YtjclifjipphnkaaSvB
namespace Go.Proofs.Ytjclifjipphnkaa
open Go.RowKit
set_option linter.unusedSimpArgs false
set_option linter.unusedVariables false
set_option maxRecDepth 100000
theorem numB_ltB {L : List Int} (h : Byt L) {k : Nat} (hk : L.length = k) : numB L < 256 ^ k := hk ▸ numB_le_pow h
set_option maxHeartbeats 1000000 in
theorem rcode_any (s : ByteArray) (w : World) (hs : s.size ≤ 9223372036854775807) :
    Calls Try.prog 37 #[.string s] w fun e w' => e = .returned (.tuple #[.int .u32 (cdV s), .int .i64 (cdE s)]) ∧ w = w' := by
  by_cases h4 : s.size = 4
  · go_enter Try.func37, Try.ntmps37
    go_wp2
    go_loop [4, 5] (fun n i => ∃ k : Nat, k ≤ 4 ∧ i = .int .i64 k ∧ n = .int .u32 (numB ((bl s).take k)) ∧ Hid (∀ j, j < k → 65 ≤ sb s j ∧ sb s j ≤ 90)) (fun _ i => 4 - (intOf i).toNat)
    case atStart => exact ⟨0, by omega, rfl, rfl, fun j hj => by omega⟩
    case round =>
      obtain ⟨k, hk, rfl, rfl, HK⟩ := hrel
      by_cases hlt : k < 4
      · have ek := sb_get s k (by omega)
        have hrk := sb_rng s k
        have hltI : (k : Int) < 4 := by omega
        have hltS : (k : Int) < s.size := by omega
        have hi0 : (0 : Int) ≤ k := by omega
        by_cases hx : 65 ≤ sb s k
        · by_cases hy : sb s k ≤ 90
          · have hS : Hid (numB ((bl s).take (k + 1)) = stepB (numB ((bl s).take k)) (sb s k)) := by
              show numB ((bl s).take (k + 1)) = _
              rw [numB_succ (bl s) k (by rw [bl_len]; omega), bl_at]
            have hl : ((bl s).take k).length = k := by rw [List.length_take, bl_len]; omega
            have hn := numB_ltB ((bl_byt s).take k) hl
            have hn0 := (numB_range ((bl s).take k)).1
            have hn1 : numB ((bl s).take k) < 16777216 := by
              have : k = 0 ∨ k = 1 ∨ k = 2 ∨ k = 3 := by omega
              rcases this with rfl | rfl | rfl | rfl <;> simp [numB] at hn ⊢ <;> omega
            generalize numB ((bl s).take k) = M at hn hn0 hn1 hS ⊢
            have hO : IntKind.u32.wrap (IntKind.u32.wrap (M * 256) + sb s k) = stepB M (sb s k) := by
              rw [IntKind.wrap_u32, IntKind.wrap_u32]; unfold stepB; omega
            have hw : IntKind.u32.wrap (sb s k) = sb s k := by rw [IntKind.wrap_u32]; omega
            clear hn hl
            go_wp2
            exact ⟨⟨k + 1, by omega, by go_num, vint (by rw [hS.out]; unfold stepB; omega), fun j hj => (Nat.lt_or_ge j k).elim (fun h => HK.out j h) (fun h => (by omega : j = k) ▸ ⟨hx, hy⟩)⟩, by simp [intOf]; omega⟩
          · have HR := decide_eq_false (p := s.size = 4 ∧ ∀ k : Fin 4, 65 ≤ sb s k ∧ sb s k ≤ 90) (fun h => hy (h.2 ⟨k, hlt⟩).2)
            have HV : Hid (cdV s = 0) := by show cdV s = 0; unfold cdV icB; rw [HR]; rfl
            have HE : Hid (cdE s = 19) := by show cdE s = 19; unfold cdE icB; rw [HR]; rfl
            clear HR
            go_wp2
            go_ret2
            exact ⟨tup2 (vint HV.out.symm) (vint HE.out.symm), rfl⟩
        · have HR := decide_eq_false (p := s.size = 4 ∧ ∀ k : Fin 4, 65 ≤ sb s k ∧ sb s k ≤ 90) (fun h => hx (h.2 ⟨k, hlt⟩).1)
          have HV : Hid (cdV s = 0) := by show cdV s = 0; unfold cdV icB; rw [HR]; rfl
          have HE : Hid (cdE s = 19) := by show cdE s = 19; unfold cdE icB; rw [HR]; rfl
          clear HR
          go_wp2
          go_ret2
          exact ⟨tup2 (vint HV.out.symm) (vint HE.out.symm), rfl⟩
      · obtain rfl : k = 4 := by omega
        have HR := decide_eq_true (p := s.size = 4 ∧ ∀ k : Fin 4, 65 ≤ sb s k ∧ sb s k ≤ 90) ⟨h4, fun j => HK.out j j.2⟩
        have HV : Hid (cdV s = numB ((bl s).take 4)) := by show cdV s = _; unfold cdV icB; rw [HR, List.take_of_length_le (by rw [bl_len]; omega)]; rfl
        have HE : Hid (cdE s = 0) := by show cdE s = 0; unfold cdE icB; rw [HR]; rfl
        clear HR
        go_wp2
        go_ret2
        exact ⟨tup2 (vint HV.out.symm) (vint HE.out.symm), rfl⟩
  · have hne : ((s.size : Int) != 4) = true := by simp; omega
    have HR := decide_eq_false (p := s.size = 4 ∧ ∀ k : Fin 4, 65 ≤ sb s k ∧ sb s k ≤ 90) (fun h => h4 h.1)
    have HV : Hid (cdV s = 0) := by show cdV s = 0; unfold cdV icB; rw [HR]; rfl
    have HE : Hid (cdE s = 19) := by show cdE s = 19; unfold cdE icB; rw [HR]; rfl
    clear HR
    go_enter Try.func37, Try.ntmps37
    go_wp2
    go_ret2
    exact ⟨tup2 (vint HV.out.symm) (vint HE.out.symm), rfl⟩
/-! ### KissReply -/
set_option maxHeartbeats 2000000 in
theorem kreply_err (l v m st po pr rd rp id ref org rec xmt : Int) (c : ByteArray) (w : World) (h : rqE (nchk l v m st po pr) m ≠ 0) : Calls Try.prog 14 #[ntp l v m st po pr rd rp id ref org rec xmt, .string c] w fun e w' => e = .returned (.tuple #[ntp0, .int .i64 (rqE (nchk l v m st po pr) m)]) ∧ Below w.heap.size w w' := by
  have hQ := fun W => checkRequest_any l v m st po pr rd rp id ref org rec xmt W
  generalize rqE (nchk l v m st po pr) m = E at hQ h ⊢
  have h' : (E != 0) = true := by simpa using h
  clear h
  go_enter Try.func14, Try.ntmps14
  go_wp2_with (first
    | (refine wpl_box (by rfl) 25 _ (by rfl) _ ([.int .i64 l, .int .i64 v, .int .i64 m, .int .i64 st, .int .i64 po, .int .i64 pr, .int .u32 rd, .int .u32 rp, .int .u32 id, .int .u64 ref, .int .u64 org, .int .u64 rec, .int .u64 xmt]) (by rfl) rfl ?_; intro w1 P1 s1 b1)
    | ((refine wpl_alloc (by rfl) 25 (by rfl) (.agg (zN).toArray) (zN) zeroNtp rfl ?_; intro w2 J2 s2 b2); (have P2 := P1.below b2 (by omega)))
    | (refine wpl_load (by rfl) 25 _ (by rfl) w.heap.size (by rfl) 25 _ P2 _ Try.underlying25 rfl _ sizeNtp (by rfl) ?_)
    | (go_at_call 35; ((with_reducible refine (hQ _).mono ?_); rintro e w3 ⟨rfl, b3⟩; (have P3 := P2.below b3 (by omega)); (have J3 := J2.below b3 (by omega)); (have z3 := b3.size)))
    | (refine wpl_store (by rfl) 25 _ _ (by rfl) w1.heap.size (by rfl) _ (by rfl) _ rfl 25 _ J3 (by rfl) _ sizeNtp (by rfl) (by simp [Value.oneCell']) ?_; intro w5 J5 s5 g5))
  obtain ⟨k0, k1, k2, k3, k4, k5, k6, k7, k8, k9, k10, k11, k12⟩ := cells13 J5
  refine bodyPost_ret (v := .tuple #[ntp0, .int .i64 E]) (by simp [results, Try.results14, go_sem, k0, k1, k2, k3, k4, k5, k6, k7, k8, k9, k10, k11, k12]) rfl ?_
  exact ⟨rfl, ((b1.trans (b2.mono (by omega))).trans (b3.mono (by omega))).trans (g5.below (by omega) (by omega))⟩
set_option maxHeartbeats 2000000 in
theorem kreply_code (l v m st po pr rd rp id ref org rec xmt : Int) (c : ByteArray) (w : World) (hc : c.size ≤ 9223372036854775807) (h : rqE (nchk l v m st po pr) m = 0) (he : cdE c = 19) : Calls Try.prog 14 #[ntp l v m st po pr rd rp id ref org rec xmt, .string c] w fun e w' => e = .returned (.tuple #[ntp0, .int .i64 19]) ∧ Below w.heap.size w w' := by
  have hQ := fun W => checkRequest_any l v m st po pr rd rp id ref org rec xmt W
  have hD := fun W => code_any c W hc
  simp only [h] at hQ
  simp only [he] at hD
  generalize cdV c = V at hD
  clear h he
  go_enter Try.func14, Try.ntmps14
  go_wp2_with (first
    | (refine wpl_box (by rfl) 25 _ (by rfl) _ ([.int .i64 l, .int .i64 v, .int .i64 m, .int .i64 st, .int .i64 po, .int .i64 pr, .int .u32 rd, .int .u32 rp, .int .u32 id, .int .u64 ref, .int .u64 org, .int .u64 rec, .int .u64 xmt]) (by rfl) rfl ?_; intro w1 P1 s1 b1)
    | ((refine wpl_alloc (by rfl) 25 (by rfl) (.agg (zN).toArray) (zN) zeroNtp rfl ?_; intro w2 J2 s2 b2); (have P2 := P1.below b2 (by omega)))
    | (refine wpl_load (by rfl) 25 _ (by rfl) w.heap.size (by rfl) 25 _ P2 _ Try.underlying25 rfl _ sizeNtp (by rfl) ?_)
    | (go_at_call 35; ((with_reducible refine (hQ _).mono ?_); rintro e w3 ⟨rfl, b3⟩; (have P3 := P2.below b3 (by omega)); (have J3 := J2.below b3 (by omega)); (have z3 := b3.size)))
    | (go_at_call 36; ((with_reducible refine (hD _).mono ?_); rintro e w4 ⟨rfl, b4⟩; (have P4 := P3.below b4 (by omega)); (have J4 := J3.below b4 (by omega)); (have z4 := b4.size)))
    | (refine wpl_loadf (by rfl) 3 _ (by rfl) w.heap.size 1 (by rfl) _ _ P4 _ rfl _ Try.underlying3 rfl ?_) | (refine wpl_loadf (by rfl) 3 _ (by rfl) w.heap.size 4 (by rfl) _ _ P4 _ rfl _ Try.underlying3 rfl ?_) | (refine wpl_loadf (by rfl) 23 _ (by rfl) w.heap.size 12 (by rfl) _ _ P4 _ rfl _ Try.underlying23 rfl ?_)
    | (refine wpl_store (by rfl) 25 _ _ (by rfl) w1.heap.size (by rfl) _ (by rfl) _ rfl 25 _ J4 (by rfl) _ sizeNtp (by rfl) (by simp [Value.oneCell']) ?_; intro w5 J5 s5 g5))
  obtain ⟨k0, k1, k2, k3, k4, k5, k6, k7, k8, k9, k10, k11, k12⟩ := cells13 J5
  refine bodyPost_ret (v := .tuple #[ntp0, .int .i64 19]) (by simp [results, Try.results14, go_sem, k0, k1, k2, k3, k4, k5, k6, k7, k8, k9, k10, k11, k12]) rfl ?_
  exact ⟨rfl, (((b1.trans (b2.mono (by omega))).trans (b3.mono (by omega))).trans (b4.mono (by omega))).trans (g5.below (by omega) (by omega))⟩
abbrev krN (v po V xmt : Int) : Value := ntp 3 v 4 0 po 0 0 0 V 0 xmt xmt xmt
set_option maxHeartbeats 2000000 in
theorem kreply_ok (l v m st po pr rd rp id ref org rec xmt : Int) (c : ByteArray) (w : World) (hc : c.size ≤ 9223372036854775807) (h : rqE (nchk l v m st po pr) m = 0) (he : cdE c = 0) : Calls Try.prog 14 #[ntp l v m st po pr rd rp id ref org rec xmt, .string c] w fun e w' => e = .returned (.tuple #[krN v po (cdV c) xmt, .int .i64 0]) ∧ Below w.heap.size w w' := by
  have hQ := fun W => checkRequest_any l v m st po pr rd rp id ref org rec xmt W
  have hD := fun W => code_any c W hc
  simp only [h] at hQ
  simp only [he] at hD
  simp only [krN]
  generalize cdV c = V at hD ⊢
  clear h he
  go_enter Try.func14, Try.ntmps14
  go_wp2_with (first
    | (refine wpl_box (by rfl) 25 _ (by rfl) _ ([.int .i64 l, .int .i64 v, .int .i64 m, .int .i64 st, .int .i64 po, .int .i64 pr, .int .u32 rd, .int .u32 rp, .int .u32 id, .int .u64 ref, .int .u64 org, .int .u64 rec, .int .u64 xmt]) (by rfl) rfl ?_; intro w1 P1 s1 b1)
    | ((refine wpl_alloc (by rfl) 25 (by rfl) (.agg (zN).toArray) (zN) zeroNtp rfl ?_; intro w2 J2 s2 b2); (have P2 := P1.below b2 (by omega)))
    | (refine wpl_load (by rfl) 25 _ (by rfl) w.heap.size (by rfl) 25 _ P2 _ Try.underlying25 rfl _ sizeNtp (by rfl) ?_)
    | (go_at_call 35; ((with_reducible refine (hQ _).mono ?_); rintro e w3 ⟨rfl, b3⟩; (have P3 := P2.below b3 (by omega)); (have J3 := J2.below b3 (by omega)); (have z3 := b3.size)))
    | (go_at_call 36; ((with_reducible refine (hD _).mono ?_); rintro e w4 ⟨rfl, b4⟩; (have P4 := P3.below b4 (by omega)); (have J4 := J3.below b4 (by omega)); (have z4 := b4.size)))
    | (refine wpl_loadf (by rfl) 3 _ (by rfl) w.heap.size 1 (by rfl) _ _ P4 _ rfl _ Try.underlying3 rfl ?_) | (refine wpl_loadf (by rfl) 3 _ (by rfl) w.heap.size 4 (by rfl) _ _ P4 _ rfl _ Try.underlying3 rfl ?_) | (refine wpl_loadf (by rfl) 23 _ (by rfl) w.heap.size 12 (by rfl) _ _ P4 _ rfl _ Try.underlying23 rfl ?_)
    | (refine wpl_store (by rfl) 25 _ _ (by rfl) w1.heap.size (by rfl) _ (by rfl) _ rfl 25 _ J4 (by rfl) _ sizeNtp (by rfl) (by simp [Value.oneCell']) ?_; intro w5 J5 s5 g5))
  obtain ⟨k0, k1, k2, k3, k4, k5, k6, k7, k8, k9, k10, k11, k12⟩ := cells13 J5
  refine bodyPost_ret (v := .tuple #[ntp 3 v 4 0 po 0 0 0 V 0 xmt xmt xmt, .int .i64 0]) (by simp [results, Try.results14, go_sem, k0, k1, k2, k3, k4, k5, k6, k7, k8, k9, k10, k11, k12]) rfl ?_
  exact ⟨rfl, (((b1.trans (b2.mono (by omega))).trans (b3.mono (by omega))).trans (b4.mono (by omega))).trans (g5.below (by omega) (by omega))⟩
/-! ### the reference -/
set_option maxHeartbeats 2000000 in
theorem rkreply_bad (l v m st po pr rd rp id ref org rec xmt : Int) (c : ByteArray) (w : World) (h : nchk l v m st po pr = 3) : Calls Try.prog 15 #[ntp l v m st po pr rd rp id ref org rec xmt, .string c] w fun e w' => e = .returned (.tuple #[ntp0, .int .i64 2]) ∧ Below w.heap.size w w' := by
  have hQ := fun W => rnchk_any l v m st po pr rd rp id ref org rec xmt W
  have hD : True := trivial
  simp only [h] at hQ
  clear h
  go_enter Try.func15, Try.ntmps15
  go_wp2_with (first
    | (refine wpl_box (by rfl) 25 _ (by rfl) _ ([.int .i64 l, .int .i64 v, .int .i64 m, .int .i64 st, .int .i64 po, .int .i64 pr, .int .u32 rd, .int .u32 rp, .int .u32 id, .int .u64 ref, .int .u64 org, .int .u64 rec, .int .u64 xmt]) (by rfl) rfl ?_; intro w1 P1 s1 b1)
    | ((refine wpl_alloc (by rfl) 25 (by rfl) (.agg (zN).toArray) (zN) zeroNtp rfl ?_; intro w2 J2 s2 b2); (have P2 := P1.below b2 (by omega)))
    | (refine wpl_load (by rfl) 25 _ (by rfl) w.heap.size (by rfl) 25 _ P2 _ Try.underlying25 rfl _ sizeNtp (by rfl) ?_)
    | (go_at_call 29; ((with_reducible refine (hQ _).mono ?_); rintro e w3 ⟨rfl, b3⟩; (have P3 := P2.below b3 (by omega)); (have J3 := J2.below b3 (by omega)); (have z3 := b3.size)))
    | (refine wpl_loadf (by rfl) 3 _ (by rfl) w.heap.size 2 (by rfl) _ _ P3 _ rfl _ Try.underlying3 rfl ?_)
    | (go_at_call 37; ((with_reducible refine (hD _).mono ?_); rintro e w4 ⟨rfl, rfl⟩))
    | (refine wpl_loadf (by rfl) 3 _ (by rfl) w.heap.size 1 (by rfl) _ _ P3 _ rfl _ Try.underlying3 rfl ?_) | (refine wpl_loadf (by rfl) 3 _ (by rfl) w.heap.size 4 (by rfl) _ _ P3 _ rfl _ Try.underlying3 rfl ?_) | (refine wpl_loadf (by rfl) 23 _ (by rfl) w.heap.size 12 (by rfl) _ _ P3 _ rfl _ Try.underlying23 rfl ?_)
    | (refine wpl_store (by rfl) 25 _ _ (by rfl) w1.heap.size (by rfl) _ (by rfl) _ rfl 25 _ J3 (by rfl) _ sizeNtp (by rfl) (by simp [Value.oneCell']) ?_; intro w5 J5 s5 g5))
  obtain ⟨k0, k1, k2, k3, k4, k5, k6, k7, k8, k9, k10, k11, k12⟩ := cells13 J5
  refine bodyPost_ret (v := .tuple #[ntp0, .int .i64 2]) (by simp [results, Try.results15, go_sem, k0, k1, k2, k3, k4, k5, k6, k7, k8, k9, k10, k11, k12]) rfl ?_
  exact ⟨rfl, ((b1.trans (b2.mono (by omega))).trans (b3.mono (by omega))).trans (g5.below (by omega) (by omega))⟩
set_option maxHeartbeats 2000000 in
theorem rkreply_kind (l v m st po pr rd rp id ref org rec xmt : Int) (c : ByteArray) (w : World) (h : nchk l v m st po pr = 0) (hm : (m != 3) = true) : Calls Try.prog 15 #[ntp l v m st po pr rd rp id ref org rec xmt, .string c] w fun e w' => e = .returned (.tuple #[ntp0, .int .i64 8]) ∧ Below w.heap.size w w' := by
  have hQ := fun W => rnchk_any l v m st po pr rd rp id ref org rec xmt W
  have hD : True := trivial
  simp only [h] at hQ
  clear h
  go_enter Try.func15, Try.ntmps15
  go_wp2_with (first
    | (refine wpl_box (by rfl) 25 _ (by rfl) _ ([.int .i64 l, .int .i64 v, .int .i64 m, .int .i64 st, .int .i64 po, .int .i64 pr, .int .u32 rd, .int .u32 rp, .int .u32 id, .int .u64 ref, .int .u64 org, .int .u64 rec, .int .u64 xmt]) (by rfl) rfl ?_; intro w1 P1 s1 b1)
    | ((refine wpl_alloc (by rfl) 25 (by rfl) (.agg (zN).toArray) (zN) zeroNtp rfl ?_; intro w2 J2 s2 b2); (have P2 := P1.below b2 (by omega)))
    | (refine wpl_load (by rfl) 25 _ (by rfl) w.heap.size (by rfl) 25 _ P2 _ Try.underlying25 rfl _ sizeNtp (by rfl) ?_)
    | (go_at_call 29; ((with_reducible refine (hQ _).mono ?_); rintro e w3 ⟨rfl, b3⟩; (have P3 := P2.below b3 (by omega)); (have J3 := J2.below b3 (by omega)); (have z3 := b3.size)))
    | (refine wpl_loadf (by rfl) 3 _ (by rfl) w.heap.size 2 (by rfl) _ _ P3 _ rfl _ Try.underlying3 rfl ?_)
    | (go_at_call 37; ((with_reducible refine (hD _).mono ?_); rintro e w4 ⟨rfl, rfl⟩))
    | (refine wpl_loadf (by rfl) 3 _ (by rfl) w.heap.size 1 (by rfl) _ _ P3 _ rfl _ Try.underlying3 rfl ?_) | (refine wpl_loadf (by rfl) 3 _ (by rfl) w.heap.size 4 (by rfl) _ _ P3 _ rfl _ Try.underlying3 rfl ?_) | (refine wpl_loadf (by rfl) 23 _ (by rfl) w.heap.size 12 (by rfl) _ _ P3 _ rfl _ Try.underlying23 rfl ?_)
    | (refine wpl_store (by rfl) 25 _ _ (by rfl) w1.heap.size (by rfl) _ (by rfl) _ rfl 25 _ J3 (by rfl) _ sizeNtp (by rfl) (by simp [Value.oneCell']) ?_; intro w5 J5 s5 g5))
  obtain ⟨k0, k1, k2, k3, k4, k5, k6, k7, k8, k9, k10, k11, k12⟩ := cells13 J5
  refine bodyPost_ret (v := .tuple #[ntp0, .int .i64 8]) (by simp [results, Try.results15, go_sem, k0, k1, k2, k3, k4, k5, k6, k7, k8, k9, k10, k11, k12]) rfl ?_
  exact ⟨rfl, ((b1.trans (b2.mono (by omega))).trans (b3.mono (by omega))).trans (g5.below (by omega) (by omega))⟩
set_option maxHeartbeats 2000000 in
theorem rkreply_code (l v m st po pr rd rp id ref org rec xmt : Int) (c : ByteArray) (w : World) (hc : c.size ≤ 9223372036854775807) (h : nchk l v m st po pr = 0) (hm : (m != 3) = false) (he : cdE c = 19) : Calls Try.prog 15 #[ntp l v m st po pr rd rp id ref org rec xmt, .string c] w fun e w' => e = .returned (.tuple #[ntp0, .int .i64 19]) ∧ Below w.heap.size w w' := by
  have hQ := fun W => rnchk_any l v m st po pr rd rp id ref org rec xmt W
  have hD := fun W => rcode_any c W hc
  simp only [h] at hQ
  simp only [he] at hD
  generalize cdV c = V at hD
  clear h he
  go_enter Try.func15, Try.ntmps15
  go_wp2_with (first
    | (refine wpl_box (by rfl) 25 _ (by rfl) _ ([.int .i64 l, .int .i64 v, .int .i64 m, .int .i64 st, .int .i64 po, .int .i64 pr, .int .u32 rd, .int .u32 rp, .int .u32 id, .int .u64 ref, .int .u64 org, .int .u64 rec, .int .u64 xmt]) (by rfl) rfl ?_; intro w1 P1 s1 b1)
    | ((refine wpl_alloc (by rfl) 25 (by rfl) (.agg (zN).toArray) (zN) zeroNtp rfl ?_; intro w2 J2 s2 b2); (have P2 := P1.below b2 (by omega)))
    | (refine wpl_load (by rfl) 25 _ (by rfl) w.heap.size (by rfl) 25 _ P2 _ Try.underlying25 rfl _ sizeNtp (by rfl) ?_)
    | (go_at_call 29; ((with_reducible refine (hQ _).mono ?_); rintro e w3 ⟨rfl, b3⟩; (have P3 := P2.below b3 (by omega)); (have J3 := J2.below b3 (by omega)); (have z3 := b3.size)))
    | (refine wpl_loadf (by rfl) 3 _ (by rfl) w.heap.size 2 (by rfl) _ _ P3 _ rfl _ Try.underlying3 rfl ?_)
    | (go_at_call 37; ((with_reducible refine (hD _).mono ?_); rintro e w4 ⟨rfl, rfl⟩))
    | (refine wpl_loadf (by rfl) 3 _ (by rfl) w.heap.size 1 (by rfl) _ _ P3 _ rfl _ Try.underlying3 rfl ?_) | (refine wpl_loadf (by rfl) 3 _ (by rfl) w.heap.size 4 (by rfl) _ _ P3 _ rfl _ Try.underlying3 rfl ?_) | (refine wpl_loadf (by rfl) 23 _ (by rfl) w.heap.size 12 (by rfl) _ _ P3 _ rfl _ Try.underlying23 rfl ?_)
    | (refine wpl_store (by rfl) 25 _ _ (by rfl) w1.heap.size (by rfl) _ (by rfl) _ rfl 25 _ J3 (by rfl) _ sizeNtp (by rfl) (by simp [Value.oneCell']) ?_; intro w5 J5 s5 g5))
  obtain ⟨k0, k1, k2, k3, k4, k5, k6, k7, k8, k9, k10, k11, k12⟩ := cells13 J5
  refine bodyPost_ret (v := .tuple #[ntp0, .int .i64 19]) (by simp [results, Try.results15, go_sem, k0, k1, k2, k3, k4, k5, k6, k7, k8, k9, k10, k11, k12]) rfl ?_
  exact ⟨rfl, ((b1.trans (b2.mono (by omega))).trans (b3.mono (by omega))).trans (g5.below (by omega) (by omega))⟩
set_option maxHeartbeats 2000000 in
theorem rkreply_ok (l v m st po pr rd rp id ref org rec xmt : Int) (c : ByteArray) (w : World) (hc : c.size ≤ 9223372036854775807) (h : nchk l v m st po pr = 0) (hm : (m != 3) = false) (he : cdE c = 0) : Calls Try.prog 15 #[ntp l v m st po pr rd rp id ref org rec xmt, .string c] w fun e w' => e = .returned (.tuple #[krN v po (cdV c) xmt, .int .i64 0]) ∧ Below w.heap.size w w' := by
  have hQ := fun W => rnchk_any l v m st po pr rd rp id ref org rec xmt W
  have hD := fun W => rcode_any c W hc
  simp only [h] at hQ
  simp only [he] at hD
  simp only [krN]
  generalize cdV c = V at hD ⊢
  clear h he
  go_enter Try.func15, Try.ntmps15
  go_wp2_with (first
    | (refine wpl_box (by rfl) 25 _ (by rfl) _ ([.int .i64 l, .int .i64 v, .int .i64 m, .int .i64 st, .int .i64 po, .int .i64 pr, .int .u32 rd, .int .u32 rp, .int .u32 id, .int .u64 ref, .int .u64 org, .int .u64 rec, .int .u64 xmt]) (by rfl) rfl ?_; intro w1 P1 s1 b1)
    | ((refine wpl_alloc (by rfl) 25 (by rfl) (.agg (zN).toArray) (zN) zeroNtp rfl ?_; intro w2 J2 s2 b2); (have P2 := P1.below b2 (by omega)))
    | (refine wpl_load (by rfl) 25 _ (by rfl) w.heap.size (by rfl) 25 _ P2 _ Try.underlying25 rfl _ sizeNtp (by rfl) ?_)
    | (go_at_call 29; ((with_reducible refine (hQ _).mono ?_); rintro e w3 ⟨rfl, b3⟩; (have P3 := P2.below b3 (by omega)); (have J3 := J2.below b3 (by omega)); (have z3 := b3.size)))
    | (refine wpl_loadf (by rfl) 3 _ (by rfl) w.heap.size 2 (by rfl) _ _ P3 _ rfl _ Try.underlying3 rfl ?_)
    | (go_at_call 37; ((with_reducible refine (hD _).mono ?_); rintro e w4 ⟨rfl, rfl⟩))
    | (refine wpl_loadf (by rfl) 3 _ (by rfl) w.heap.size 1 (by rfl) _ _ P3 _ rfl _ Try.underlying3 rfl ?_) | (refine wpl_loadf (by rfl) 3 _ (by rfl) w.heap.size 4 (by rfl) _ _ P3 _ rfl _ Try.underlying3 rfl ?_) | (refine wpl_loadf (by rfl) 23 _ (by rfl) w.heap.size 12 (by rfl) _ _ P3 _ rfl _ Try.underlying23 rfl ?_)
    | (refine wpl_store (by rfl) 25 _ _ (by rfl) w1.heap.size (by rfl) _ (by rfl) _ rfl 25 _ J3 (by rfl) _ sizeNtp (by rfl) (by simp [Value.oneCell']) ?_; intro w5 J5 s5 g5))
  obtain ⟨k0, k1, k2, k3, k4, k5, k6, k7, k8, k9, k10, k11, k12⟩ := cells13 J5
  refine bodyPost_ret (v := .tuple #[ntp 3 v 4 0 po 0 0 0 V 0 xmt xmt xmt, .int .i64 0]) (by simp [results, Try.results15, go_sem, k0, k1, k2, k3, k4, k5, k6, k7, k8, k9, k10, k11, k12]) rfl ?_
  exact ⟨rfl, ((b1.trans (b2.mono (by omega))).trans (b3.mono (by omega))).trans (g5.below (by omega) (by omega))⟩
theorem cdV_rng (c : ByteArray) : 0 ≤ cdV c ∧ cdV c ≤ 4294967295 := by
  unfold cdV
  split
  · rename_i h
    have h4 : c.size = 4 := (of_decide_eq_true h).1
    have := numB_ltB (bl_byt c) (show (bl c).length = 4 by rw [bl_len]; exact h4)
    have := (numB_range (bl c)).1
    omega
  · omega
theorem cdE_cases (c : ByteArray) : cdE c = 0 ∨ cdE c = 19 := by unfold cdE; split <;> simp
/-- both replies in one sentence -/
def kiE (K m : Int) (c : ByteArray) : Int := if rqE K m = 0 then cdE c else rqE K m
theorem kiss_both (l v m st po pr rd rp id ref org rec xmt : Int) (c : ByteArray) (hc : c.size ≤ 9223372036854775807) : ∃ (x0 x1 x2 x3 x4 x5 x6 x7 x8 x9 x10 x11 x12 k : Int),
    (∀ w : World, Calls Try.prog 14 #[ntp l v m st po pr rd rp id ref org rec xmt, .string c] w fun e w' => e = .returned (.tuple #[ntp x0 x1 x2 x3 x4 x5 x6 x7 x8 x9 x10 x11 x12, .int .i64 k]) ∧ Below w.heap.size w w') ∧
    (∀ w : World, Calls Try.prog 15 #[ntp l v m st po pr rd rp id ref org rec xmt, .string c] w fun e w' => e = .returned (.tuple #[ntp x0 x1 x2 x3 x4 x5 x6 x7 x8 x9 x10 x11 x12, .int .i64 k]) ∧ Below w.heap.size w w') ∧
    (k = 0 → x0 = 3 ∧ x3 = 0 ∧ x8 = cdV c ∧ cdE c = 0) ∧ 0 ≤ x8 ∧ x8 ≤ 4294967295 := by
  rcases nchk_03 l v m st po pr with hk | hk
  · by_cases hm : m = 3
    · have hE : rqE (nchk l v m st po pr) m = 0 := by unfold rqE; rw [if_pos hk, if_pos hm]
      have hm' : (m != 3) = false := by simpa using hm
      rcases cdE_cases c with he | he
      · exact ⟨_, _, _, _, _, _, _, _, _, _, _, _, _, _, fun w => kreply_ok l v m st po pr rd rp id ref org rec xmt c w hc hE he, fun w => rkreply_ok l v m st po pr rd rp id ref org rec xmt c w hc hk hm' he, fun _ => ⟨rfl, rfl, rfl, he⟩, cdV_rng c⟩
      · exact ⟨_, _, _, _, _, _, _, _, _, _, _, _, _, _, fun w => kreply_code l v m st po pr rd rp id ref org rec xmt c w hc hE he, fun w => rkreply_code l v m st po pr rd rp id ref org rec xmt c w hc hk hm' he, fun h => by omega, by omega, by omega⟩
    · have hE : rqE (nchk l v m st po pr) m = 8 := by unfold rqE; rw [if_pos hk, if_neg hm]
      refine ⟨0, 0, 0, 0, 0, 0, 0, 0, 0, 0, 0, 0, 0, 8, fun w => ?_, fun w => rkreply_kind l v m st po pr rd rp id ref org rec xmt c w hk (by simpa using hm), fun h => by omega, by omega, by omega⟩
      have := kreply_err l v m st po pr rd rp id ref org rec xmt c w (by omega)
      rwa [hE] at this
  · have hE : rqE (nchk l v m st po pr) m = 2 := by unfold rqE; rw [if_neg (by omega)]
    refine ⟨0, 0, 0, 0, 0, 0, 0, 0, 0, 0, 0, 0, 0, 2, fun w => ?_, fun w => rkreply_bad l v m st po pr rd rp id ref org rec xmt c w hk, fun h => by omega, by omega, by omega⟩
    have := kreply_err l v m st po pr rd rp id ref org rec xmt c w (by omega)
    rwa [hE] at this
end Go.Proofs.Ytjclifjipphnkaa
