/- TopGuarded (G8): the walk. -/
import Derived.Test.YtkccmmhofhaccaaDoorTGz16
import Derived.Test.YtkccmmhofhaccaaDoorTGz15
namespace Go.Proofs.YtkccmmhofhaccaaDoor
open Go.RowKit
set_option linter.unusedSimpArgs false
set_option linter.unusedVariables false
set_option maxRecDepth 100000
theorem fg_of {k0 k1 : Int} {b : List Int} (hb : Byt b) (hE : spE b = 0) (hP : prvB k0 k1 (spB b) (spA b) = true) : fgB k0 k1 b = true := by
  obtain ⟨h12, hA⟩ := spA_drop hb hE
  unfold prvB at hP
  rw [Bool.and_eq_true] at hP
  unfold fgB
  rw [if_neg (by omega), Bool.or_eq_true]
  right
  have e : (spA b).drop 4 = b.drop (b.length - 8) := by
    rw [hA, List.drop_drop]
    congr 1
    omega
  have e2 := hP.2
  rw [e, List.take_of_length_le (by rw [List.length_drop]; omega)] at e2
  exact e2
abbrev tlkL (s k0 k1 k2 k3 l v m st po pr rd rp id ref org rec xmt kp ro bq br no : Int) : List Value := [.int .u64 s, .int .u64 k0, .int .u64 k1, .int .u64 k2, .int .u64 k3, .int .i64 l, .int .i64 v, .int .i64 m, .int .i64 st, .int .i64 po, .int .i64 pr, .int .u32 rd, .int .u32 rp, .int .u32 id, .int .u64 ref, .int .u64 org, .int .u64 rec, .int .u64 xmt, .int .i64 kp, .int .i64 ro, .int .i64 bq, .int .i64 br, .int .u64 no]
theorem sizeTlk : (Tryd.prog.info? 29).map (·.size) = some 23 := by kernel_rfl
set_option maxRecDepth 100000 in
set_option maxHeartbeats 8000000 in
theorem top_early (s k0 k1 k2 k3 l v m st po pr rd rp id ref org rec xmt kp ro bq br no : Int) (w : World) (hX : ¬(1 ≤ kp ∧ kp ≤ 8 ∧ 0 ≤ ro ∧ ro ≤ 20 ∧ 1 ≤ v)) :
    Calls Tryd.prog 3 #[.agg (tlkL s k0 k1 k2 k3 l v m st po pr rd rp id ref org rec xmt kp ro bq br no).toArray] w fun e w' => e = .returned (.bool true) ∧ Below w.heap.size w w' := by
  by_cases c1 : 1 ≤ kp
  · have d1 : decide (kp < 1) = false := decide_eq_false (by omega)
    by_cases c2 : kp ≤ 8
    · have d2 : decide (8 < kp) = false := decide_eq_false (by omega)
      by_cases c3 : 0 ≤ ro
      · have d3 : decide (ro < 0) = false := decide_eq_false (by omega)
        by_cases c4 : ro ≤ 20
        · have d4 : decide (20 < ro) = false := decide_eq_false (by omega)
          have d5 : decide (v < 1) = true := decide_eq_true (by omega)
          clear c1 c2 c3 c4 hX
          go_enter Tryd.func3, Tryd.ntmps3
          go_wp2_with (first
            | (refine wpl_box (by rfl) 29 _ (by rfl) _ (tlkL s k0 k1 k2 k3 l v m st po pr rd rp id ref org rec xmt kp ro bq br no) (by rfl) rfl ?_; intro w1 T1 s1 b1)
            | (refine wpl_loadf (by rfl) 3 _ (by rfl) w.heap.size 18 (by rfl) _ _ T1 _ rfl _ Tryd.underlying3 rfl ?_)
            | (refine wpl_loadf (by rfl) 3 _ (by rfl) w.heap.size 19 (by rfl) _ _ T1 _ rfl _ Tryd.underlying3 rfl ?_)
            | (refine wpl_loadf (by rfl) 3 _ (by rfl) w.heap.size 6 (by rfl) _ _ T1 _ rfl _ Tryd.underlying3 rfl ?_)
            )
          go_ret
          exact ⟨rfl, b1⟩
        · have d4 : decide (20 < ro) = true := decide_eq_true (by omega)
          clear c1 c2 c3 c4 hX
          go_enter Tryd.func3, Tryd.ntmps3
          go_wp2_with (first
            | (refine wpl_box (by rfl) 29 _ (by rfl) _ (tlkL s k0 k1 k2 k3 l v m st po pr rd rp id ref org rec xmt kp ro bq br no) (by rfl) rfl ?_; intro w1 T1 s1 b1)
            | (refine wpl_loadf (by rfl) 3 _ (by rfl) w.heap.size 18 (by rfl) _ _ T1 _ rfl _ Tryd.underlying3 rfl ?_)
            | (refine wpl_loadf (by rfl) 3 _ (by rfl) w.heap.size 19 (by rfl) _ _ T1 _ rfl _ Tryd.underlying3 rfl ?_)
            | (refine wpl_loadf (by rfl) 3 _ (by rfl) w.heap.size 6 (by rfl) _ _ T1 _ rfl _ Tryd.underlying3 rfl ?_)
            )
          go_ret
          exact ⟨rfl, b1⟩
      · have d3 : decide (ro < 0) = true := decide_eq_true (by omega)
        clear c1 c2 c3 hX
        go_enter Tryd.func3, Tryd.ntmps3
        go_wp2_with (first
          | (refine wpl_box (by rfl) 29 _ (by rfl) _ (tlkL s k0 k1 k2 k3 l v m st po pr rd rp id ref org rec xmt kp ro bq br no) (by rfl) rfl ?_; intro w1 T1 s1 b1)
          | (refine wpl_loadf (by rfl) 3 _ (by rfl) w.heap.size 18 (by rfl) _ _ T1 _ rfl _ Tryd.underlying3 rfl ?_)
          | (refine wpl_loadf (by rfl) 3 _ (by rfl) w.heap.size 19 (by rfl) _ _ T1 _ rfl _ Tryd.underlying3 rfl ?_)
          | (refine wpl_loadf (by rfl) 3 _ (by rfl) w.heap.size 6 (by rfl) _ _ T1 _ rfl _ Tryd.underlying3 rfl ?_)
          )
        go_ret
        exact ⟨rfl, b1⟩
    · have d2 : decide (8 < kp) = true := decide_eq_true (by omega)
      clear c1 c2 hX
      go_enter Tryd.func3, Tryd.ntmps3
      go_wp2_with (first
        | (refine wpl_box (by rfl) 29 _ (by rfl) _ (tlkL s k0 k1 k2 k3 l v m st po pr rd rp id ref org rec xmt kp ro bq br no) (by rfl) rfl ?_; intro w1 T1 s1 b1)
        | (refine wpl_loadf (by rfl) 3 _ (by rfl) w.heap.size 18 (by rfl) _ _ T1 _ rfl _ Tryd.underlying3 rfl ?_)
        | (refine wpl_loadf (by rfl) 3 _ (by rfl) w.heap.size 19 (by rfl) _ _ T1 _ rfl _ Tryd.underlying3 rfl ?_)
        | (refine wpl_loadf (by rfl) 3 _ (by rfl) w.heap.size 6 (by rfl) _ _ T1 _ rfl _ Tryd.underlying3 rfl ?_)
        )
      go_ret
      exact ⟨rfl, b1⟩
  · have d1 : decide (kp < 1) = true := decide_eq_true (by omega)
    clear c1 hX
    go_enter Tryd.func3, Tryd.ntmps3
    go_wp2_with (first
      | (refine wpl_box (by rfl) 29 _ (by rfl) _ (tlkL s k0 k1 k2 k3 l v m st po pr rd rp id ref org rec xmt kp ro bq br no) (by rfl) rfl ?_; intro w1 T1 s1 b1)
      | (refine wpl_loadf (by rfl) 3 _ (by rfl) w.heap.size 18 (by rfl) _ _ T1 _ rfl _ Tryd.underlying3 rfl ?_)
      | (refine wpl_loadf (by rfl) 3 _ (by rfl) w.heap.size 19 (by rfl) _ _ T1 _ rfl _ Tryd.underlying3 rfl ?_)
      | (refine wpl_loadf (by rfl) 3 _ (by rfl) w.heap.size 6 (by rfl) _ _ T1 _ rfl _ Tryd.underlying3 rfl ?_)
      )
    go_ret
    exact ⟨rfl, b1⟩
set_option maxRecDepth 100000 in
set_option maxHeartbeats 32000000 in
theorem top_main (s k0 k1 k2 k3 l v m st po pr rd rp id ref org rec xmt kp ro bq br no : Int) (w : World) (hs : U64 s) (hk0 : U64 k0) (hk1 : U64 k1) (hk2 : U64 k2) (hk3 : U64 k3) (h6 : 0 ≤ rd ∧ rd ≤ 4294967295) (h7 : 0 ≤ rp ∧ rp ≤ 4294967295) (h8 : 0 ≤ id ∧ id ≤ 4294967295) (h9 : 0 ≤ ref ∧ ref ≤ 18446744073709551615) (h10 : 0 ≤ org ∧ org ≤ 18446744073709551615) (h11 : 0 ≤ rec ∧ rec ≤ 18446744073709551615) (h12 : 0 ≤ xmt ∧ xmt ≤ 18446744073709551615) (hno : U64 no) (hbq : -9223372036854775808 ≤ bq ∧ bq ≤ 9223372036854775807) (hbr : -9223372036854775808 ≤ br ∧ br ≤ 9223372036854775807) (hX : 1 ≤ kp ∧ kp ≤ 8 ∧ 0 ≤ ro ∧ ro ≤ 20 ∧ 1 ≤ v) (hR : Rnd w) :
    Calls Tryd.prog 3 #[.agg (tlkL s k0 k1 k2 k3 l v m st po pr rd rp id ref org rec xmt kp ro bq br no).toArray] w fun e w' => e = .returned (.bool true) ∧ Below w.heap.size w w' := by
  have hw0 := hR.lt
  obtain ⟨c1, c2, c3, c4, c5⟩ := hX
  have d1 : decide (kp < 1) = false := decide_eq_false (by omega)
  have d2 : decide (8 < kp) = false := decide_eq_false (by omega)
  have d3 : decide (ro < 0) = false := decide_eq_false (by omega)
  have d4 : decide (20 < ro) = false := decide_eq_false (by omega)
  have d5 : decide (v < 1) = false := decide_eq_false (by omega)
  obtain ⟨ro, rfl⟩ : ∃ r : Nat, ro = r := ⟨ro.toNat, by omega⟩
  obtain ⟨CK, hCK⟩ : ∃ CK, CK = ckB s 1 no k0 k1 k2 k3 := ⟨_, rfl⟩
  have hg : Gn 1 := ⟨by omega, by omega⟩
  have h52 : (ckB s 1 no k0 k1 k2 k3).length = 52 := ckB_len _ _ _ _ _ _ _
  have hcb : Byt (ckB s 1 no k0 k1 k2 k3) := ckB_byt _ _ _ _ _ _ _
  have hSe := fun bj W hJ hR => seal_any bj s kp 1 k0 k1 k2 k3 no W hs hg hno hk0 hk1 hk2 hk3 hJ hR
  rw [← hCK] at h52 hcb hSe
  have HCK := Lib.hid hCK
  clear hCK
  have hnew := fun W => new_some s kp W c1 c2
  go_enter Tryd.func3, Tryd.ntmps3
  go_wp2_with (first
    | (refine wpl_box (by rfl) 29 _ (by rfl) _ (tlkL s k0 k1 k2 k3 l v m st po pr rd rp id ref org rec xmt kp ro bq br no) (by rfl) rfl ?_; intro w1 T1 s1 b1)
    | (refine wpl_loadf (by rfl) 3 _ (by rfl) w.heap.size 18 (by rfl) _ _ T1 _ rfl _ Tryd.underlying3 rfl ?_)
    | (refine wpl_loadf (by rfl) 3 _ (by rfl) w.heap.size 19 (by rfl) _ _ T1 _ rfl _ Tryd.underlying3 rfl ?_)
    | (refine wpl_loadf (by rfl) 3 _ (by rfl) w.heap.size 6 (by rfl) _ _ T1 _ rfl _ Tryd.underlying3 rfl ?_)
    | (refine wpl_loadf (by rfl) 22 _ (by rfl) w.heap.size 0 (by rfl) _ _ T1 _ rfl _ Tryd.underlying22 rfl ?_)
    | (go_at_call 4; ((with_reducible refine (hnew _).mono ?_); rintro e w2 ⟨rfl, J2, b2⟩; (have T2 := T1.below b2 T1.lt); (have B2 := b1.trans (b2.mono b1.size)); (have R2 := hR.below B2 hw0)))
    | ((refine wpl_loadm (by rfl) 24 _ (by rfl) w.heap.size 1 (by rfl) _ _ T2 _ _ Tryd.underlying24 rfl _ sizeKey (by rfl) (by rfl) ?_))
    | ((refine wpl_loadm (by rfl) 24 _ (by rfl) w.heap.size 3 (by rfl) _ _ T2 _ _ Tryd.underlying24 rfl _ sizeKey (by rfl) (by rfl) ?_))
    | (refine wpl_loadf (by rfl) 22 _ (by rfl) w.heap.size 22 (by rfl) _ _ T2 _ rfl _ Tryd.underlying22 rfl ?_)
    | (go_at_call 5; ((with_reducible refine (hSe _ _ J2 R2).mono ?_); rintro e w3 ⟨A3, c3, rfl, O3, b3⟩; (have T3 := T2.below b3 T2.lt); (have J3 := J2.below b3 J2.lt); (have R3 := R2.below b3 R2.lt); (have B3 := B2.trans (b3.mono B2.size))))
    | ((refine wpl_loadm (by rfl) 24 _ (by rfl) w.heap.size 1 (by rfl) _ _ T3 _ _ Tryd.underlying24 rfl _ sizeKey (by rfl) (by rfl) ?_))
    | ((refine wpl_loadm (by rfl) 24 _ (by rfl) w.heap.size 3 (by rfl) _ _ T3 _ _ Tryd.underlying24 rfl _ sizeKey (by rfl) (by rfl) ?_)))
  obtain ⟨w4, hw4⟩ : ∃ w4, w4 = w3.alloc (.cells #[.slice A3 52 c3] 32) := ⟨_, rfl⟩
  rw [← hw4]
  have b4 : Below w3.heap.size w3 w4 := by rw [hw4]; exact (Below.refl _ w3).alloc (Nat.le_refl _) _
  have N4 : Blk w4 w3.heap.size 32 [.slice A3 52 c3] := by rw [hw4]; exact Blk.new w3 _ _ _ rfl
  clear hw4
  have T4 := T3.below b4 T3.lt
  have J4 := J3.below b4 J3.lt
  have R4 := R3.below b4 R3.lt
  have B4 := B3.trans (b4.mono B3.size)
  have L4 := ls_one N4 N4.lt h52 ((O3.bs.wide (Nat.zero_le _) (Nat.le_refl _)).below b4 (Nat.le_refl _) |>.wide (Nat.le_refl _) b4.size)
  have hNC := cnew k0 k1 k2 k3 (some ⟨w3.heap.size, 0, none⟩) 1 1 [CK] w4 (by omega) rfl L4 (Nat.le_refl _) (fun l hl => by rw [List.mem_singleton.1 hl]; exact h52)
  with_reducible refine hNC.mono ?_
  rintro e w5 ⟨bc, G, rfl, C5, b5⟩
  have T5 : BlG w5 G w.heap.size 29 (tlkL s k0 k1 k2 k3 l v m st po pr rd rp id ref org rec xmt kp ro bq br no) := ⟨T4.below b5 T4.lt, C5.low T4.lt⟩
  have J5 : BlG w5 G w1.heap.size 56 (jarL s kp 1) := ⟨J4.below b5 J4.lt, C5.low J4.lt⟩
  have R5 := R4.below b5 R4.lt
  have B5 := B4.trans (b5.mono B4.size)
  have hlo : 0 < w4.heap.size := R4.lt
  have hlow : w.heap.size ≤ w4.heap.size := B4.size
  have hlj : w1.heap.size < w4.heap.size := J4.lt
  have hwj : w.heap.size < w1.heap.size := s1
  have z45 := b5.size
  clear T1 T2 T3 T4 J2 J3 J4 R2 R3 R4 B2 B3 B4 b1 b2 b3 b4 b5 N4 L4 O3 hNC hSe hnew s1
  generalize w4.heap.size = lo at *
  generalize w1.heap.size = bj at *
  by_cases hk : nchk l v m st po pr = 0
  · have hRQ := creq l v m st po pr rd rp id ref org rec xmt no C5 hk h6 h7 h8 h9 h10 h11 h12 hk0 hk1 (by omega) hno R5 hlo (by simp) (by simp)
    go_wp2_with (first
      | ((refine wpl_loadm (by rfl) 27 _ (by rfl) w.heap.size 5 (by rfl) _ _ T5.1 _ _ Tryd.underlying27 rfl _ sizeNtp (by rfl) (by rfl) ?_))
      | (refine wpl_loadf (by rfl) 22 _ (by rfl) w.heap.size 22 (by rfl) _ _ T5.1 _ rfl _ Tryd.underlying22 rfl ?_))
    with_reducible refine hRQ.mono ?_
    rintro e w6 ⟨r, cr, Nn, G6, rfl, hNn, M6, C6, K6, n6⟩
    rw [show wtN [] (idB (0 + 1) no) = [idB (0 + 1) no] from rfl] at C6
    have T6 := T5.go K6 n6
    have J6 := J5.go K6 n6
    have R6 := R5.go K6 (C5.low hlo)
    have hrlt := M6.lt.1
    have hrj : r ≠ bj := by omega
    have B6 : Below w.heap.size w w6 := K6.toBelow B5 B5.size (fun g hg => by have := (C5.rng g hg).1; omega)
    clear T5 J5 R5 B5 C5 K6 n6 hRQ
    have hRE := creq_empty l v m st po pr rd rp id ref org rec xmt no C6 hk
    go_wp2_with (first
      | ((refine wpl_loadm (by rfl) 27 _ (by rfl) w.heap.size 5 (by rfl) _ _ T6.1 _ _ Tryd.underlying27 rfl _ sizeNtp (by rfl) (by rfl) ?_))
      | (refine wpl_loadf (by rfl) 22 _ (by rfl) w.heap.size 22 (by rfl) _ _ T6.1 _ rfl _ Tryd.underlying22 rfl ?_)
      | (go_at_call 7; ((with_reducible refine hRE.mono ?_); rintro e w7 ⟨rfl, b7⟩; (have T7 := T6.below b7); (have J7 := J6.below b7); (have C7 := C6.below b7); (have R7 := R6.below b7 R6.lt); (have B7 := B6.trans (b7.mono B6.size)); (have M7 := M6.below b7)))
      | (go_at_call 8; (have hCC := ccount C7); ((with_reducible refine hCC.mono ?_); rintro e' y1 ⟨rfl, rfl⟩))
      | (refine wpl_loadf (by rfl) 3 _ (by rfl) w.heap.size 19 (by rfl) _ _ T7.1 _ rfl _ Tryd.underlying3 rfl ?_))
    have hl136 : (msgB l v m st po pr rd rp id ref org rec xmt (rqF (0 + 1) no CK) k0 k1).length = 136 := by
      rw [msgB_len]
      have hi := idB_len (0 + 1) no
      simp only [rqF, fldsB, fldB, List.length_append, List.flatMap_cons, List.flatMap_nil, List.map_cons, List.map_nil, List.flatten_cons, List.flatten_nil, bytesB_length, hi, h52, List.length_nil]
    obtain rfl : 136 = Nn := hl136.symm.trans hNn
    clear T6 J6 R6 B6 C6 M6 hRE hCC b7 hNn
    go_loopw [116] (fun i wr => ∃ k : Nat, k ≤ ro ∧ i = .int .i64 k ∧ BlG wr G6 w.heap.size 29 (tlkL s k0 k1 k2 k3 l v m st po pr rd rp id ref org rec xmt kp ro bq br no) ∧ BlG wr G6 bj 56 (jarL s kp (1 + k)) ∧ Cli wr lo bc G6 k0 k1 k2 k3 [] (0 + 1) [idB (0 + 1) no] ∧ Rnd wr ∧ Below w.heap.size w wr ∧ Ck wr w5.heap.size G6 (r, cr, msgB l v m st po pr rd rp id ref org rec xmt (rqF (0 + 1) no CK) k0 k1)) (fun i _ => ro - (intOf i).toNat)
    case atStart => exact ⟨0, by omega, rfl, T7, by simpa using J7, C7, R7, B7, M7⟩
    case round =>
      clear T7 J7 R7 B7 C7 M7
      obtain ⟨k, hkr, rfl, T7, J7, C7, R7, B7, M7⟩ := hrel
      by_cases hlt : k < ro
      · have hlt' : (k : Int) < ro := by omega
        have hRO := rot_ok bj s kp (1 + k) wr J7.1 (by omega) (by omega)
        go_wp2_with (first
          | (go_at_call 10; ((with_reducible refine hRO.mono ?_); rintro e w8 ⟨rfl, J8, g8⟩)))
        exact ⟨⟨k + 1, by omega, by go_num, T7.but g8 (by omega), ⟨by rw [show (1 : Int) + ((k + 1 : Nat) : Int) = 1 + k + 1 by omega]; exact J8, J7.2⟩, C7.kpl (H := [bj]) (Kp.of_but g8 (.inr (by simp))) (fun x hx => by have e := List.mem_singleton.1 hx; omega), R7.but g8 (by omega), B7.trans (g8.below B7.size (by omega)), M7.but g8 hrj⟩, by simp [intOf]; omega⟩
      · obtain rfl : k = ro := by omega
        have hFL := flip_any (some ⟨r, 0, none⟩) 136 cr _ bq wr hl136 (M7.1.bs.wide (Nat.zero_le _) (Nat.le_refl _)) (by omega) hbq.1 hbq.2
        go_wp2_with (first
          | (refine wpl_loadf (by rfl) 3 _ (by rfl) w.heap.size 20 (by rfl) _ _ T7.1 _ rfl _ Tryd.underlying3 rfl ?_))
        with_reducible refine hFL.mono ?_
        rintro e w9 ⟨A9, c9, Mx, ch, rfl, hMl, hMe, O9, b9⟩
        have T9 := T7.below b9
        have J9 := J7.below b9
        have C9 := C7.below b9
        have R9 := R7.below b9 R7.lt
        have B9 := B7.trans (b9.mono B7.size)
        have M9 := M7.below b9
        have hc9 := O9.cap_le
        have hc9' := O9.cap_max
        rw [hMl] at hc9
        have hgk : Gn (1 + (k : Int)) := ⟨by omega, by omega⟩
        clear T7 J7 R7 B7 C7 M7 hFL b9
        cases ch with
        | true =>
          obtain ⟨l', v', m', st', po', pr', rd', rp', id', ref', org', rec', xmt', K0, K1, K2, K3, E, ID, hOP, hOE⟩ := open_p s kp (1 + k) Mx hs hgk ⟨c1, c2⟩ O9.1
          have hO := hOP bj A9 136 c9 w9 J9.1 R9 hMl (O9.bs.wide (Nat.zero_le _) (Nat.le_refl _)) hc9 hc9' (by omega)
          have hfg := fun hE => fg_of O9.1 (hOE hE).1 (hOE hE).2
          have hFG := fun W hB hR => forged_any k0 k1 A9 136 c9 Mx W hk0 hk1 hMl hB hc9 hc9' (by omega) hR
          have hke := key_eq
          clear hOP hOE hMe
          by_cases hE : E = 0
          · have hE' : (E != 0) = false := by rw [hE]; rfl
            have hfg' := hfg hE
            clear hfg
            by_cases hKK : K0 = k0 ∧ K1 = k1
            · obtain ⟨rfl, rfl⟩ := hKK
              rw [hfg'] at hFG
              clear hE hfg'
              go_wp2_with (first
                | (go_at_call 12; ((with_reducible refine hO.mono ?_); rintro e w10 ⟨Ai, ci, rfl, I10, b10⟩; (have T10 := T9.below b10); (have B10 := B9.trans (b10.mono B9.size))))
                | ((refine wpl_alloc (by rfl) 27 (by rfl) (.agg (zN).toArray) (zN) zeroNtp rfl ?_; intro w11 P11 s11 b11); (have T11 := T10.below b11); (have B11 := B10.trans (b11.mono B10.size)))
                | ((refine wpl_alloc (by rfl) 46 (by rfl) (.agg (tktL none 0 0 0 0 0 0).toArray) (tktL none 0 0 0 0 0 0) zeroTk rfl ?_; intro w12 Q12 s12 b12); (have T12 := T11.below b12); (have P12 := P11.below b12 P11.lt); (have B12 := B11.trans (b12.mono B11.size)))
                | ((refine wpl_store (by rfl) 27 _ _ (by rfl) w10.heap.size (by rfl) _ (by rfl) _ rfl 27 _ P12 (by rfl) _ sizeNtp (by rfl) (by simp [Value.oneCell']) ?_; intro w13 P13 s13 g13); (have T13 := T12.but g13 (Nat.ne_of_lt T10.1.lt)); (have Q13 := Q12.but g13 (Nat.ne_of_gt P11.lt)); (have B13 := B12.trans (g13.below B12.size B10.size)))
                | ((refine wpl_store (by rfl) 46 _ _ (by rfl) w11.heap.size (by rfl) _ (by rfl) _ rfl 46 _ Q13 (by rfl) _ sizeTk (by rfl) (by simp [Value.oneCell']) ?_; intro w15 Q15 s15 g15); (have T15 := T13.but g15 (Nat.ne_of_lt T11.1.lt)); (have P15 := P13.but g15 (Nat.ne_of_lt P11.lt)); (have B15 := B13.trans (g15.below B13.size B11.size)))
                | ((refine wpl_loadm (by rfl) 24 _ (by rfl) w.heap.size 1 (by rfl) _ _ T15.1 _ _ Tryd.underlying24 rfl _ sizeKey (by rfl) (by rfl) ?_))
                | ((refine wpl_loadm (by rfl) 24 _ (by rfl) w11.heap.size 1 (by rfl) _ _ Q15 _ _ Tryd.underlying24 rfl _ sizeKey (by rfl) (by rfl) ?_))
                | (go_at_call 13; ((with_reducible refine (hFG _ (((((O9.below b10 (Nat.le_refl _)).below ((b11.trans (b12.mono b11.size)).trans ((But.below (g := w10.heap.size) g13 (Nat.le_trans b11.size b12.size) (Nat.le_refl _)).trans (But.below (g := w11.heap.size) g15 (Nat.le_trans (Nat.le_trans b11.size b12.size) s13) b11.size))) (Nat.le_refl _)).bs).wide (Nat.zero_le _) (Nat.le_refl _))) (hR.below B15 hw0)).mono ?_); rintro e w16 ⟨rfl, b16⟩; (have T16 := T15.below b16); (have Q16 := Q15.below b16 Q15.lt)))
                | ((refine wpl_loadm (by rfl) 24 _ (by rfl) w.heap.size 1 (by rfl) _ _ T16.1 _ _ Tryd.underlying24 rfl _ sizeKey (by rfl) (by rfl) ?_))
                | ((refine wpl_loadm (by rfl) 24 _ (by rfl) w11.heap.size 1 (by rfl) _ _ Q16 _ _ Tryd.underlying24 rfl _ sizeKey (by rfl) (by rfl) ?_)))
              go_ret
              exact ⟨rfl, B15.trans (b16.mono B15.size)⟩
            · have hKd : (decide (K0 = k0) && decide (K1 = k1)) = false := by
                rw [Bool.and_eq_false_iff, decide_eq_false_iff_not, decide_eq_false_iff_not]
                by_cases h0 : K0 = k0
                · exact .inr fun h1 => hKK ⟨h0, h1⟩
                · exact .inl h0
              generalize fgB k0 k1 Mx = FB at hFG
              clear hE hfg' hKK
              cases FB with
              | true =>
                go_wp2_with (first
                  | (go_at_call 12; ((with_reducible refine hO.mono ?_); rintro e w10 ⟨Ai, ci, rfl, I10, b10⟩; (have T10 := T9.below b10); (have B10 := B9.trans (b10.mono B9.size))))
                  | ((refine wpl_alloc (by rfl) 27 (by rfl) (.agg (zN).toArray) (zN) zeroNtp rfl ?_; intro w11 P11 s11 b11); (have T11 := T10.below b11); (have B11 := B10.trans (b11.mono B10.size)))
                  | ((refine wpl_alloc (by rfl) 46 (by rfl) (.agg (tktL none 0 0 0 0 0 0).toArray) (tktL none 0 0 0 0 0 0) zeroTk rfl ?_; intro w12 Q12 s12 b12); (have T12 := T11.below b12); (have P12 := P11.below b12 P11.lt); (have B12 := B11.trans (b12.mono B11.size)))
                  | ((refine wpl_store (by rfl) 27 _ _ (by rfl) w10.heap.size (by rfl) _ (by rfl) _ rfl 27 _ P12 (by rfl) _ sizeNtp (by rfl) (by simp [Value.oneCell']) ?_; intro w13 P13 s13 g13); (have T13 := T12.but g13 (Nat.ne_of_lt T10.1.lt)); (have Q13 := Q12.but g13 (Nat.ne_of_gt P11.lt)); (have B13 := B12.trans (g13.below B12.size B10.size)))
                  | ((refine wpl_store (by rfl) 46 _ _ (by rfl) w11.heap.size (by rfl) _ (by rfl) _ rfl 46 _ Q13 (by rfl) _ sizeTk (by rfl) (by simp [Value.oneCell']) ?_; intro w15 Q15 s15 g15); (have T15 := T13.but g15 (Nat.ne_of_lt T11.1.lt)); (have P15 := P13.but g15 (Nat.ne_of_lt P11.lt)); (have B15 := B13.trans (g15.below B13.size B11.size)))
                  | ((refine wpl_loadm (by rfl) 24 _ (by rfl) w.heap.size 1 (by rfl) _ _ T15.1 _ _ Tryd.underlying24 rfl _ sizeKey (by rfl) (by rfl) ?_))
                  | ((refine wpl_loadm (by rfl) 24 _ (by rfl) w11.heap.size 1 (by rfl) _ _ Q15 _ _ Tryd.underlying24 rfl _ sizeKey (by rfl) (by rfl) ?_))
                  | (go_at_call 13; ((with_reducible refine (hFG _ (((((O9.below b10 (Nat.le_refl _)).below ((b11.trans (b12.mono b11.size)).trans ((But.below (g := w10.heap.size) g13 (Nat.le_trans b11.size b12.size) (Nat.le_refl _)).trans (But.below (g := w11.heap.size) g15 (Nat.le_trans (Nat.le_trans b11.size b12.size) s13) b11.size))) (Nat.le_refl _)).bs).wide (Nat.zero_le _) (Nat.le_refl _))) (hR.below B15 hw0)).mono ?_); rintro e w16 ⟨rfl, b16⟩; (have T16 := T15.below b16); (have Q16 := Q15.below b16 Q15.lt)))
                  | ((refine wpl_loadm (by rfl) 24 _ (by rfl) w.heap.size 1 (by rfl) _ _ T16.1 _ _ Tryd.underlying24 rfl _ sizeKey (by rfl) (by rfl) ?_))
                  | ((refine wpl_loadm (by rfl) 24 _ (by rfl) w11.heap.size 1 (by rfl) _ _ Q16 _ _ Tryd.underlying24 rfl _ sizeKey (by rfl) (by rfl) ?_)))
                go_ret
                exact ⟨rfl, B15.trans (b16.mono B15.size)⟩
              | false =>
                go_wp2_with (first
                  | (go_at_call 12; ((with_reducible refine hO.mono ?_); rintro e w10 ⟨Ai, ci, rfl, I10, b10⟩; (have T10 := T9.below b10); (have B10 := B9.trans (b10.mono B9.size))))
                  | ((refine wpl_alloc (by rfl) 27 (by rfl) (.agg (zN).toArray) (zN) zeroNtp rfl ?_; intro w11 P11 s11 b11); (have T11 := T10.below b11); (have B11 := B10.trans (b11.mono B10.size)))
                  | ((refine wpl_alloc (by rfl) 46 (by rfl) (.agg (tktL none 0 0 0 0 0 0).toArray) (tktL none 0 0 0 0 0 0) zeroTk rfl ?_; intro w12 Q12 s12 b12); (have T12 := T11.below b12); (have P12 := P11.below b12 P11.lt); (have B12 := B11.trans (b12.mono B11.size)))
                  | ((refine wpl_store (by rfl) 27 _ _ (by rfl) w10.heap.size (by rfl) _ (by rfl) _ rfl 27 _ P12 (by rfl) _ sizeNtp (by rfl) (by simp [Value.oneCell']) ?_; intro w13 P13 s13 g13); (have T13 := T12.but g13 (Nat.ne_of_lt T10.1.lt)); (have Q13 := Q12.but g13 (Nat.ne_of_gt P11.lt)); (have B13 := B12.trans (g13.below B12.size B10.size)))
                  | ((refine wpl_store (by rfl) 46 _ _ (by rfl) w11.heap.size (by rfl) _ (by rfl) _ rfl 46 _ Q13 (by rfl) _ sizeTk (by rfl) (by simp [Value.oneCell']) ?_; intro w15 Q15 s15 g15); (have T15 := T13.but g15 (Nat.ne_of_lt T11.1.lt)); (have P15 := P13.but g15 (Nat.ne_of_lt P11.lt)); (have B15 := B13.trans (g15.below B13.size B11.size)))
                  | ((refine wpl_loadm (by rfl) 24 _ (by rfl) w.heap.size 1 (by rfl) _ _ T15.1 _ _ Tryd.underlying24 rfl _ sizeKey (by rfl) (by rfl) ?_))
                  | ((refine wpl_loadm (by rfl) 24 _ (by rfl) w11.heap.size 1 (by rfl) _ _ Q15 _ _ Tryd.underlying24 rfl _ sizeKey (by rfl) (by rfl) ?_))
                  | (go_at_call 13; ((with_reducible refine (hFG _ (((((O9.below b10 (Nat.le_refl _)).below ((b11.trans (b12.mono b11.size)).trans ((But.below (g := w10.heap.size) g13 (Nat.le_trans b11.size b12.size) (Nat.le_refl _)).trans (But.below (g := w11.heap.size) g15 (Nat.le_trans (Nat.le_trans b11.size b12.size) s13) b11.size))) (Nat.le_refl _)).bs).wide (Nat.zero_le _) (Nat.le_refl _))) (hR.below B15 hw0)).mono ?_); rintro e w16 ⟨rfl, b16⟩; (have T16 := T15.below b16); (have Q16 := Q15.below b16 Q15.lt)))
                  | ((refine wpl_loadm (by rfl) 24 _ (by rfl) w.heap.size 1 (by rfl) _ _ T16.1 _ _ Tryd.underlying24 rfl _ sizeKey (by rfl) (by rfl) ?_))
                  | ((refine wpl_loadm (by rfl) 24 _ (by rfl) w11.heap.size 1 (by rfl) _ _ Q16 _ _ Tryd.underlying24 rfl _ sizeKey (by rfl) (by rfl) ?_)))
                go_ret
                exact ⟨rfl, B15.trans (b16.mono B15.size)⟩
          · have hE' : (E != 0) = true := by simpa using hE
            clear hFG hfg hE
            go_wp2_with (first
              | (go_at_call 12; ((with_reducible refine hO.mono ?_); rintro e w10 ⟨Ai, ci, rfl, I10, b10⟩; (have T10 := T9.below b10); (have B10 := B9.trans (b10.mono B9.size))))
              | ((refine wpl_alloc (by rfl) 27 (by rfl) (.agg (zN).toArray) (zN) zeroNtp rfl ?_; intro w11 P11 s11 b11); (have T11 := T10.below b11); (have B11 := B10.trans (b11.mono B10.size)))
              | ((refine wpl_alloc (by rfl) 46 (by rfl) (.agg (tktL none 0 0 0 0 0 0).toArray) (tktL none 0 0 0 0 0 0) zeroTk rfl ?_; intro w12 Q12 s12 b12); (have T12 := T11.below b12); (have P12 := P11.below b12 P11.lt); (have B12 := B11.trans (b12.mono B11.size)))
              | ((refine wpl_store (by rfl) 27 _ _ (by rfl) w10.heap.size (by rfl) _ (by rfl) _ rfl 27 _ P12 (by rfl) _ sizeNtp (by rfl) (by simp [Value.oneCell']) ?_; intro w13 P13 s13 g13); (have T13 := T12.but g13 (Nat.ne_of_lt T10.1.lt)); (have Q13 := Q12.but g13 (Nat.ne_of_gt P11.lt)); (have B13 := B12.trans (g13.below B12.size B10.size)))
              | ((refine wpl_store (by rfl) 46 _ _ (by rfl) w11.heap.size (by rfl) _ (by rfl) _ rfl 46 _ Q13 (by rfl) _ sizeTk (by rfl) (by simp [Value.oneCell']) ?_; intro w15 Q15 s15 g15); (have T15 := T13.but g15 (Nat.ne_of_lt T11.1.lt)); (have P15 := P13.but g15 (Nat.ne_of_lt P11.lt)); (have B15 := B13.trans (g15.below B13.size B11.size)))
              | ((refine wpl_loadm (by rfl) 24 _ (by rfl) w.heap.size 1 (by rfl) _ _ T15.1 _ _ Tryd.underlying24 rfl _ sizeKey (by rfl) (by rfl) ?_))
              | ((refine wpl_loadm (by rfl) 24 _ (by rfl) w11.heap.size 1 (by rfl) _ _ Q15 _ _ Tryd.underlying24 rfl _ sizeKey (by rfl) (by rfl) ?_))
              | (go_at_call 13; ((with_reducible refine (hFG _ (((((O9.below b10 (Nat.le_refl _)).below ((b11.trans (b12.mono b11.size)).trans ((But.below (g := w10.heap.size) g13 (Nat.le_trans b11.size b12.size) (Nat.le_refl _)).trans (But.below (g := w11.heap.size) g15 (Nat.le_trans (Nat.le_trans b11.size b12.size) s13) b11.size))) (Nat.le_refl _)).bs).wide (Nat.zero_le _) (Nat.le_refl _))) (hR.below B15 hw0)).mono ?_); rintro e w16 ⟨rfl, b16⟩; (have T16 := T15.below b16); (have Q16 := Q15.below b16 Q15.lt)))
              | ((refine wpl_loadm (by rfl) 24 _ (by rfl) w.heap.size 1 (by rfl) _ _ T16.1 _ _ Tryd.underlying24 rfl _ sizeKey (by rfl) (by rfl) ?_))
              | ((refine wpl_loadm (by rfl) 24 _ (by rfl) w11.heap.size 1 (by rfl) _ _ Q16 _ _ Tryd.underlying24 rfl _ sizeKey (by rfl) (by rfl) ?_)))
            go_ret
            exact ⟨rfl, B15⟩
        | false =>
          obtain rfl := hMe rfl
          clear hMe hMl
          have hst := ck_open (s := s) (k := kp) (g' := 1 + k) (g := 1) (n := no) (c0 := k0) (c1 := k1) (s0 := k2) (s1 := k3) hg hno hk0 hk1 hk2 hk3
          rw [← HCK.out] at hst
          by_cases hro : kp ≤ k
          · have hsb : staleB kp (1 + k) 1 = true := by unfold staleB; simp; omega
            rw [hsb, if_pos rfl] at hst
            have hro' : decide (kp ≤ (k : Int)) = true := decide_eq_true hro
            have hO := sopen_stale l v m st po pr rd rp id ref org rec xmt (0 + 1) no CK k0 k1 s kp (1 + k) bj A9 136 c9 w9 J9.1 hs hgk ⟨c1, c2⟩ R9 hk h6 h7 h8 h9 h10 h11 h12 h52 hcb hst hl136 (O9.bs.wide (Nat.zero_le _) (Nat.le_refl _)) hc9 hc9' (by omega)
            clear hst hsb hro
            go_wp2_with (first
              | (go_at_call 12; ((with_reducible refine hO.mono ?_); rintro e w10 ⟨rfl, b10⟩; (have T10 := T9.below b10); (have B10 := B9.trans (b10.mono B9.size))))
              | ((refine wpl_alloc (by rfl) 27 (by rfl) (.agg (zN).toArray) (zN) zeroNtp rfl ?_; intro w11 P11 s11 b11); (have T11 := T10.below b11); (have B11 := B10.trans (b11.mono B10.size)))
              | ((refine wpl_alloc (by rfl) 46 (by rfl) (.agg (tktL none 0 0 0 0 0 0).toArray) (tktL none 0 0 0 0 0 0) zeroTk rfl ?_; intro w12 Q12 s12 b12); (have T12 := T11.below b12); (have P12 := P11.below b12 P11.lt); (have B12 := B11.trans (b12.mono B11.size)))
              | ((refine wpl_store (by rfl) 27 _ _ (by rfl) w10.heap.size (by rfl) _ (by rfl) _ rfl 27 _ P12 (by rfl) _ sizeNtp (by rfl) (by simp [Value.oneCell']) ?_; intro w13 P13 s13 g13); (have T13 := T12.but g13 (Nat.ne_of_lt T10.1.lt)); (have Q13 := Q12.but g13 (Nat.ne_of_gt P11.lt)); (have B13 := B12.trans (g13.below B12.size B10.size)))
              | ((refine wpl_store (by rfl) 46 _ _ (by rfl) w11.heap.size (by rfl) _ (by rfl) _ rfl 46 _ Q13 (by rfl) _ sizeTk (by rfl) (by simp [Value.oneCell']) ?_; intro w15 Q15 s15 g15); (have T15 := T13.but g15 (Nat.ne_of_lt T11.1.lt)); (have B15 := B13.trans (g15.below B13.size B11.size)))
              | (refine wpl_loadf (by rfl) 3 _ (by rfl) w.heap.size 19 (by rfl) _ _ T15.1 _ rfl _ Tryd.underlying3 rfl ?_)
              | (refine wpl_loadf (by rfl) 3 _ (by rfl) w.heap.size 18 (by rfl) _ _ T15.1 _ rfl _ Tryd.underlying3 rfl ?_))
            go_ret
            exact ⟨rfl, B15⟩
          · have hsb : staleB kp (1 + k) 1 = false := by unfold staleB; simp; omega
            rw [hsb, if_neg (by simp)] at hst
            have hro' : decide (kp ≤ (k : Int)) = false := decide_eq_false hro
            have hO := sopen l v m st po pr rd rp id ref org rec xmt (0 + 1) no CK k0 k1 k2 k3 s kp (1 + k) bj A9 136 c9 w9 J9.1 hs hgk ⟨c1, c2⟩ R9 hk h6 h7 h8 h9 h10 h11 h12 h52 hcb hst hl136 (O9.bs.wide (Nat.zero_le _) (Nat.le_refl _)) hc9 hc9' (by omega)
            have hke := key_eq
            clear hst hsb hro
            go_wp2_with (first
              | (go_at_call 12; ((with_reducible refine hO.mono ?_); rintro e w10 ⟨ri, ci, rfl, I10, b10⟩; (have T10 := T9.below b10); (have J10 := J9.below b10); (have C10 := C9.below b10); (have R10 := R9.below b10 R9.lt); (have B10 := B9.trans (b10.mono B9.size))))
              | ((refine wpl_alloc (by rfl) 27 (by rfl) (.agg (zN).toArray) (zN) zeroNtp rfl ?_; intro w11 P11 s11 b11); (have T11 := T10.below b11); (have B11 := B10.trans (b11.mono B10.size)))
              | ((refine wpl_alloc (by rfl) 46 (by rfl) (.agg (tktL none 0 0 0 0 0 0).toArray) (tktL none 0 0 0 0 0 0) zeroTk rfl ?_; intro w12 Q12 s12 b12); (have T12 := T11.below b12); (have P12 := P11.below b12 P11.lt); (have B12 := B11.trans (b12.mono B11.size)))
              | ((refine wpl_store (by rfl) 27 _ _ (by rfl) w10.heap.size (by rfl) _ (by rfl) _ rfl 27 _ P12 (by rfl) _ sizeNtp (by rfl) (by simp [Value.oneCell']) ?_; intro w13 P13 s13 g13); (have T13 := T12.but g13 (Nat.ne_of_lt T10.1.lt)); (have Q13 := Q12.but g13 (Nat.ne_of_gt P11.lt)); (have B13 := B12.trans (g13.below B12.size B10.size)))
              | ((refine wpl_store (by rfl) 46 _ _ (by rfl) w11.heap.size (by rfl) _ (by rfl) _ rfl 46 _ Q13 (by rfl) _ sizeTk (by rfl) (by simp [Value.oneCell']) ?_; intro w15 Q15 s15 g15); (have P15 := P13.but g15 (Nat.ne_of_lt P11.lt)); (have T15 := T13.but g15 (Nat.ne_of_lt T11.1.lt)); (have B15 := B13.trans (g15.below B13.size B11.size)))
              | (refine wpl_loadf (by rfl) 3 _ (by rfl) w.heap.size 19 (by rfl) _ _ T15.1 _ rfl _ Tryd.underlying3 rfl ?_)
              | (refine wpl_loadf (by rfl) 3 _ (by rfl) w.heap.size 18 (by rfl) _ _ T15.1 _ rfl _ Tryd.underlying3 rfl ?_)
              | (refine wpl_load (by rfl) 27 _ (by rfl) w10.heap.size (by rfl) 27 _ P15 _ Tryd.underlying27 rfl _ sizeNtp (by rfl) ?_)
              | ((refine wpl_loadm (by rfl) 27 _ (by rfl) w.heap.size 5 (by rfl) _ _ T15.1 _ _ Tryd.underlying27 rfl _ sizeNtp (by rfl) (by rfl) ?_))
              | ((refine wpl_loadm (by rfl) 24 _ (by rfl) w11.heap.size 1 (by rfl) _ _ Q15 _ _ Tryd.underlying24 rfl _ sizeKey (by rfl) (by rfl) ?_))
              | ((refine wpl_loadm (by rfl) 24 _ (by rfl) w.heap.size 1 (by rfl) _ _ T15.1 _ _ Tryd.underlying24 rfl _ sizeKey (by rfl) (by rfl) ?_))
              | ((refine wpl_loadm (by rfl) 24 _ (by rfl) w11.heap.size 3 (by rfl) _ _ Q15 _ _ Tryd.underlying24 rfl _ sizeKey (by rfl) (by rfl) ?_))
              | ((refine wpl_loadm (by rfl) 24 _ (by rfl) w.heap.size 3 (by rfl) _ _ T15.1 _ _ Tryd.underlying24 rfl _ sizeKey (by rfl) (by rfl) ?_))
              | (refine wpl_load (by rfl) 46 _ (by rfl) w11.heap.size (by rfl) 46 _ Q15 _ Tryd.underlying46 rfl _ sizeTk (by rfl) ?_)
              | (refine wpl_loadf (by rfl) 22 _ (by rfl) w.heap.size 22 (by rfl) _ _ T15.1 _ rfl _ Tryd.underlying22 rfl ?_))
            have b1015 : Below w10.heap.size w10 w15 := (b11.trans (b12.mono b11.size)).trans ((But.below (g := w10.heap.size) g13 (Nat.le_trans b11.size b12.size) (Nat.le_refl _)).trans (But.below (g := w11.heap.size) g15 (Nat.le_trans (Nat.le_trans b11.size b12.size) s13) b11.size))
            have J15 := J10.below b1015
            have C15 := C10.below b1015
            have R15 := R10.below b1015 R10.lt
            have I15 := I10.below b1015 (Nat.le_refl _)
            have hil := idB_len (0 + 1) no
            have hib := idB_byt (0 + 1) no
            have hci := I15.cap_le
            rw [hil] at hci
            have hRP := sreply l v m st po pr rd rp id ref org rec xmt no (idB (0 + 1) no) k0 k1 k2 k3 s kp (1 + k) bj ri ci w15 J15.1 hs hgk R15 hk h6 h7 h8 h9 h10 h11 h12 hno hk0 hk1 hk2 hk3 hil (I15.bs.wide (Nat.zero_le _) (Nat.le_refl _)) hci I15.cap_max
            have hcl2 : (ckB s (1 + k) no k0 k1 k2 k3).length = 52 := ckB_len _ _ _ _ _ _ _
            have hcb2 : Byt (ckB s (1 + k) no k0 k1 k2 k3) := ckB_byt _ _ _ _ _ _ _
            generalize ckB s (1 + k) no k0 k1 k2 k3 = CK2 at hRP hcl2 hcb2
            have hrpl := rp_len136 l v m st po pr rd rp id ref org rec xmt k2 k3 hil hcl2
            with_reducible refine hRP.mono ?_
            rintro e w16 ⟨A16, c16, n16, rfl, h16, O16, b16⟩
            obtain rfl : 136 = n16 := hrpl.symm.trans h16
            have hc16 := O16.cap_le
            have hc16' := O16.cap_max
            rw [hrpl] at hc16
            obtain ⟨r16, rfl, hr16⟩ : ∃ r16, A16 = some ⟨r16, 0, none⟩ ∧ r16 ∉ G6 := by
              rcases O16.form with ⟨_, e, _⟩ | ⟨rr, e1, e2, e3⟩
              · rw [e] at hrpl; cases hrpl
              · exact ⟨rr, e1, fun hm => by have := (C15.rng _ hm).2; omega⟩
            have T16 := T15.below b16
            have J16 := J15.below b16
            have C16 := C15.below b16
            have R16 := R15.below b16 R15.lt
            have B16 := B15.trans (b16.mono B15.size)
            have Z16 : Ck w16 w15.heap.size G6 (r16, c16, msgB l v m st po pr rd rp id ref org rec xmt (rpF (idB (0 + 1) no) CK2 []) k2 k3) := ⟨O16, hr16⟩
            have hFL := flip_any (some ⟨r16, 0, none⟩) 136 c16 _ br w16 hrpl (Z16.1.bs.wide (Nat.zero_le _) (Nat.le_refl _)) (by omega) hbr.1 hbr.2
            clear T9 J9 C9 R9 B9 M9 O9 T10 J10 C10 R10 B10 I10 T11 B11 P11 T12 P12 Q12 B12 T13 Q13 B13 P13 P15 Q15 T15 J15 C15 R15 B15 I15 b10 b11 b12 g13 g15 b16 b1015 hO hRP O16 hr16 s11 s12 s13 s15
            go_wp2_with (first
              | (refine wpl_loadf (by rfl) 3 _ (by rfl) w.heap.size 21 (by rfl) _ _ T16.1 _ rfl _ Tryd.underlying3 rfl ?_))
            with_reducible refine hFL.mono ?_
            rintro e w17 ⟨A17, c17, Ry, ch2, rfl, hRl, hRe, O17, b17⟩
            have hw16 := C16.rng
            have T17 := T16.below b17
            have J17 := J16.below b17
            have C17 := C16.below b17
            have R17 := R16.below b17 R16.lt
            have B17 := B16.trans (b17.mono B16.size)
            have Z17 := Z16.below b17
            have hc17 := O17.cap_le
            have hc17' := O17.cap_max
            rw [hRl] at hc17
            clear T16 J16 C16 R16 B16 Z16 hFL b17
            cases ch2 with
            | true =>
              obtain ⟨ry, rfl, hry⟩ : ∃ ry, A17 = some ⟨ry, 0, none⟩ ∧ ry ∉ G6 := by
                rcases O17.form with ⟨_, e, _⟩ | ⟨rr, e1, e2, e3⟩
                · rw [e] at hRl; cases hRl
                · exact ⟨rr, e1, fun hm => by have := (hw16 _ hm).2; omega⟩
              have Y17 : Ck w17 w16.heap.size G6 (ry, c17, Ry) := ⟨O17, hry⟩
              obtain ⟨l', v', m', st', po', pr', rd', rp', id', ref', org', rec', xmt', hv'⟩ := accV_form k2 k3 [idB (0 + 1) no] Ry
              have hFG := fun W hB hR => forged_any k2 k3 (some ⟨ry, 0, none⟩) 136 c17 Ry W hk2 hk3 hRl hB hc17 hc17' (by omega) hR
              have hAC := cacc_all (some ⟨ry, 0, none⟩) 136 c17 Ry C17 hk2 hk3 R17 (by simp) (by simp) hRl (Y17.1.bs.wide (Nat.zero_le _) (Nat.le_refl _)) hc17 hc17' (by omega)
              rw [hv'] at hAC
              clear O17 hry hRe hw16
              by_cases hE2 : accE k2 k3 [idB (0 + 1) no] Ry = 0
              · have hfg : fgB k2 k3 Ry = true := by
                  rcases accE_cases k2 k3 [idB (0 + 1) no] Ry with ⟨h1, h2⟩ | ⟨h1, h2, h3⟩ | ⟨h1, h2, h3, h4⟩ | ⟨h1, h2, h3, h4, h5⟩ | ⟨h1, h2, h3, h4, h5⟩
                  · exact absurd (h2.symm.trans hE2) h1
                  · rw [h3] at hE2; cases hE2
                  · rw [h4] at hE2; cases hE2
                  · rw [h5] at hE2; cases hE2
                  · exact fg_of Y17.1.1 h1 h2
                rw [hfg] at hFG
                rw [hE2] at hAC
                clear hE2
                go_wp2_with (first
                  | (go_at_call 15; ((with_reducible refine hAC.mono ?_); rintro e w18 ⟨P18, p18, q18, G18, rfl, _, _, C18, K18, n18⟩; (have T18 := T17.go K18 n18); (have R18 := R17.go K18 (C17.low hlo)); (have B18 : Below w.heap.size w w18 := K18.toBelow B17 B17.size (fun g hg => by have := (C17.rng g hg).1; omega)); (have Z18 := Z17.go K18 n18); (have Y18 := Y17.go K18 n18)))
                  | ((refine wpl_alloc (by rfl) 27 (by rfl) (.agg (zN).toArray) (zN) zeroNtp rfl ?_; intro w19 P19 s19 b19); (have B19 := B18.trans (b19.mono B18.size)))
                  | ((refine wpl_store (by rfl) 27 _ _ (by rfl) w18.heap.size (by rfl) _ (by rfl) _ rfl 27 _ P19 (by rfl) _ sizeNtp (by rfl) (by simp [Value.oneCell']) ?_; intro w20 P20 s20 g20); (have B20 := B19.trans (g20.below B19.size B18.size)); (have b1820 : Below w18.heap.size w18 w20 := b19.trans (But.below (g := w18.heap.size) g20 b19.size (Nat.le_refl _))); (have T20 := T18.below b1820); (have R20 := R18.below b1820 R18.lt); (have Y20 := Y18.below b1820))
                  | ((refine wpl_loadm (by rfl) 24 _ (by rfl) w.heap.size 3 (by rfl) _ _ T20.1 _ _ Tryd.underlying24 rfl _ sizeKey (by rfl) (by rfl) ?_))
                                | (go_at_call 13; (have hF9 := hFG w20 (Y20.1.bs.wide (Nat.zero_le _) (Nat.le_refl _)) R20); ((with_reducible refine hF9.mono ?_); rintro e w21 ⟨rfl, b21⟩)))
                go_ret
                exact ⟨rfl, B20.trans (b21.mono B20.size)⟩
              · have hE2' : (accE k2 k3 [idB (0 + 1) no] Ry == 0) = false := by simpa using hE2
                have hI2 : accI k2 k3 [idB (0 + 1) no] Ry = [idB (0 + 1) no] := by unfold accI; rw [if_neg hE2]
                have hC2 : accC k2 k3 [idB (0 + 1) no] Ry [] = [] := by unfold accC; rw [if_neg hE2]
                generalize accE k2 k3 [idB (0 + 1) no] Ry = E2 at hE2 hE2' hAC
                clear hE2
                go_wp2_with (first
                  | (go_at_call 15; ((with_reducible refine hAC.mono ?_); rintro e w18 ⟨P18, p18, q18, G18, rfl, _, _, C18, K18, n18⟩; (have T18 := T17.go K18 n18); (have R18 := R17.go K18 (C17.low hlo)); (have B18 : Below w.heap.size w w18 := K18.toBelow B17 B17.size (fun g hg => by have := (C17.rng g hg).1; omega)); (have Z18 := Z17.go K18 n18); (have Y18 := Y17.go K18 n18)))
                  | ((refine wpl_alloc (by rfl) 27 (by rfl) (.agg (zN).toArray) (zN) zeroNtp rfl ?_; intro w19 P19 s19 b19); (have B19 := B18.trans (b19.mono B18.size)))
                  | ((refine wpl_store (by rfl) 27 _ _ (by rfl) w18.heap.size (by rfl) _ (by rfl) _ rfl 27 _ P19 (by rfl) _ sizeNtp (by rfl) (by simp [Value.oneCell']) ?_; intro w20 P20 s20 g20); (have B20 := B19.trans (g20.below B19.size B18.size)); (have b1820 : Below w18.heap.size w18 w20 := b19.trans (But.below (g := w18.heap.size) g20 b19.size (Nat.le_refl _))); (have T20 := T18.below b1820); (have R20 := R18.below b1820 R18.lt); (have Y20 := Y18.below b1820))
                  )
                rw [hI2, hC2] at C18
                have C20 := C18.below b1820
                have Z20 := Z18.below b1820
                have hAc := g_acc (A := some ⟨r16, 0, none⟩) (c := c16) l v m st po pr rd rp id ref org rec xmt hk h6 h7 h8 h9 h10 h11 h12 C20 hk2 hk3 R20 hil hcl2 hib hcb2 (Z20.1.bs.wide (Nat.zero_le _) (Nat.le_refl _)) hc16 hc16'
                go_wp2_with (first
                  | (go_at_call 15; ((with_reducible refine hAc.mono ?_); rintro e w21 ⟨P21, q21, G21, rfl, C21, K21, n21⟩; (have T21 := T20.go K21 n21); (have R21 := R20.go K21 (C20.low hlo)); (have B21 : Below w.heap.size w w21 := K21.toBelow B20 B20.size (fun g hg => by have := (C20.rng g hg).1; omega)); (have Z21 := Z20.go K21 n21)))
                  | ((refine wpl_alloc (by rfl) 27 (by rfl) (.agg (zN).toArray) (zN) zeroNtp rfl ?_; intro w22 P22 s22 b22); (have B22 := B21.trans (b22.mono B21.size)))
                  | ((refine wpl_store (by rfl) 27 _ _ (by rfl) w21.heap.size (by rfl) _ (by rfl) _ rfl 27 _ P22 (by rfl) _ sizeNtp (by rfl) (by simp [Value.oneCell']) ?_; intro w23 P23 s23 g23); (have B23 := B22.trans (g23.below B22.size B21.size))))
                have b2123 : Below w21.heap.size w21 w23 := b22.trans (But.below (g := w21.heap.size) g23 b22.size (Nat.le_refl _))
                have T23 := T21.below b2123
                have C23 := C21.below b2123
                have R23 := R21.below b2123 R21.lt
                have Z23 := Z21.below b2123
                have hNo := g_none (A := some ⟨r16, 0, none⟩) (c := c16) l v m st po pr rd rp id ref org rec xmt hk h6 h7 h8 h9 h10 h11 h12 C23 (by simp) hk2 hk3 R23 hil hcl2 hib hcb2 (Z23.1.bs.wide (Nat.zero_le _) (Nat.le_refl _)) hc16 hc16'
                clear hAc T21 C21 R21 Z21 B21 B22 b22 g23
                go_wp2_with (first
                  | (go_at_call 15; ((with_reducible refine hNo.mono ?_); rintro e w24 ⟨rfl, b24⟩; (have T24 := T23.below b24); (have C24 := C23.below b24); (have P24 := P23.below b24 P23.lt); (have B24 := B23.trans (b24.mono B23.size))))
                  | ((refine wpl_alloc (by rfl) 27 (by rfl) (.agg (zN).toArray) (zN) zeroNtp rfl ?_; intro w25 Q25 s25 b25); (have B25 := B24.trans (b25.mono B24.size)))
                  | ((refine wpl_store (by rfl) 27 _ _ (by rfl) w24.heap.size (by rfl) _ (by rfl) _ rfl 27 _ Q25 (by rfl) _ sizeNtp (by rfl) (by simp [Value.oneCell']) ?_; intro w26 Q26 s26 g26); (have B26 := B25.trans (g26.below B25.size B24.size)); (have b2426 : Below w24.heap.size w24 w26 := b25.trans (But.below (g := w24.heap.size) g26 b25.size (Nat.le_refl _))); (have T26 := T24.below b2426); (have C26 := C24.below b2426); (have P26 := P24.below b2426 P24.lt))
                  | (refine wpl_load (by rfl) 27 _ (by rfl) w21.heap.size (by rfl) 27 _ P26 _ Tryd.underlying27 rfl _ sizeNtp (by rfl) ?_)
                  | ((refine wpl_loadm (by rfl) 27 _ (by rfl) w.heap.size 5 (by rfl) _ _ T26.1 _ _ Tryd.underlying27 rfl _ sizeNtp (by rfl) (by rfl) ?_))
                  | (go_at_call 8; (have hCC := ccount C26); ((with_reducible refine hCC.mono ?_); rintro e' y1 ⟨rfl, rfl⟩)))
                go_ret
                exact ⟨rfl, B26⟩
            | false =>
              clear hRe hRl O17 hw16
              have hAc := g_acc (A := some ⟨r16, 0, none⟩) (c := c16) l v m st po pr rd rp id ref org rec xmt hk h6 h7 h8 h9 h10 h11 h12 C17 hk2 hk3 R17 hil hcl2 hib hcb2 (Z17.1.bs.wide (Nat.zero_le _) (Nat.le_refl _)) hc16 hc16'
              go_wp2_with (first
                | (go_at_call 15; ((with_reducible refine hAc.mono ?_); rintro e w21 ⟨P21, q21, G21, rfl, C21, K21, n21⟩; (have T21 := T17.go K21 n21); (have R21 := R17.go K21 (C17.low hlo)); (have B21 : Below w.heap.size w w21 := K21.toBelow B17 B17.size (fun g hg => by have := (C17.rng g hg).1; omega)); (have Z21 := Z17.go K21 n21)))
                | ((refine wpl_alloc (by rfl) 27 (by rfl) (.agg (zN).toArray) (zN) zeroNtp rfl ?_; intro w22 P22 s22 b22); (have B22 := B21.trans (b22.mono B21.size)))
                | ((refine wpl_store (by rfl) 27 _ _ (by rfl) w21.heap.size (by rfl) _ (by rfl) _ rfl 27 _ P22 (by rfl) _ sizeNtp (by rfl) (by simp [Value.oneCell']) ?_; intro w23 P23 s23 g23); (have B23 := B22.trans (g23.below B22.size B21.size))))
              have b2123 : Below w21.heap.size w21 w23 := b22.trans (But.below (g := w21.heap.size) g23 b22.size (Nat.le_refl _))
              have T23 := T21.below b2123
              have C23 := C21.below b2123
              have R23 := R21.below b2123 R21.lt
              have Z23 := Z21.below b2123
              have hNo := g_none (A := some ⟨r16, 0, none⟩) (c := c16) l v m st po pr rd rp id ref org rec xmt hk h6 h7 h8 h9 h10 h11 h12 C23 (by simp) hk2 hk3 R23 hil hcl2 hib hcb2 (Z23.1.bs.wide (Nat.zero_le _) (Nat.le_refl _)) hc16 hc16'
              clear hAc T21 C21 R21 Z21 B21 B22 b22 g23
              go_wp2_with (first
                | (go_at_call 15; ((with_reducible refine hNo.mono ?_); rintro e w24 ⟨rfl, b24⟩; (have T24 := T23.below b24); (have C24 := C23.below b24); (have P24 := P23.below b24 P23.lt); (have B24 := B23.trans (b24.mono B23.size))))
                | ((refine wpl_alloc (by rfl) 27 (by rfl) (.agg (zN).toArray) (zN) zeroNtp rfl ?_; intro w25 Q25 s25 b25); (have B25 := B24.trans (b25.mono B24.size)))
                | ((refine wpl_store (by rfl) 27 _ _ (by rfl) w24.heap.size (by rfl) _ (by rfl) _ rfl 27 _ Q25 (by rfl) _ sizeNtp (by rfl) (by simp [Value.oneCell']) ?_; intro w26 Q26 s26 g26); (have B26 := B25.trans (g26.below B25.size B24.size)); (have b2426 : Below w24.heap.size w24 w26 := b25.trans (But.below (g := w24.heap.size) g26 b25.size (Nat.le_refl _))); (have T26 := T24.below b2426); (have C26 := C24.below b2426); (have P26 := P24.below b2426 P24.lt))
                | (refine wpl_load (by rfl) 27 _ (by rfl) w21.heap.size (by rfl) 27 _ P26 _ Tryd.underlying27 rfl _ sizeNtp (by rfl) ?_)
                | ((refine wpl_loadm (by rfl) 27 _ (by rfl) w.heap.size 5 (by rfl) _ _ T26.1 _ _ Tryd.underlying27 rfl _ sizeNtp (by rfl) (by rfl) ?_))
                | (go_at_call 8; (have hCC := ccount C26); ((with_reducible refine hCC.mono ?_); rintro e' y1 ⟨rfl, rfl⟩)))
              go_ret
              exact ⟨rfl, B26⟩
  · have hQ := creq_arg l v m st po pr rd rp id ref org rec xmt no C5 hk
    have hK := fun W => nchk_any l v m st po pr rd rp id ref org rec xmt W
    have hk' : (nchk l v m st po pr != 0) = true := by simpa using hk
    generalize nchk l v m st po pr = E at hK hk'
    clear hk
    go_wp2_with (first
      | ((refine wpl_loadm (by rfl) 27 _ (by rfl) w.heap.size 5 (by rfl) _ _ T5.1 _ _ Tryd.underlying27 rfl _ sizeNtp (by rfl) (by rfl) ?_))
      | (refine wpl_loadf (by rfl) 22 _ (by rfl) w.heap.size 22 (by rfl) _ _ T5.1 _ rfl _ Tryd.underlying22 rfl ?_)
      | (go_at_call 7; ((with_reducible refine hQ.mono ?_); rintro e w6 ⟨rfl, b6⟩; (have T6 := T5.below b6); (have C6 := C5.below b6); (have B6 := B5.trans (b6.mono B5.size))))
      | (go_at_call 8; (have hCC := ccount C6); ((with_reducible refine hCC.mono ?_); rintro e' y1 ⟨rfl, rfl⟩))
      | ((refine wpl_loadm (by rfl) 27 _ (by rfl) w.heap.size 5 (by rfl) _ _ T6.1 _ _ Tryd.underlying27 rfl _ sizeNtp (by rfl) (by rfl) ?_))
      | (go_at_call 9; ((with_reducible refine (hK _).mono ?_); rintro e w7 ⟨rfl, b7⟩)))
    go_ret
    exact ⟨rfl, B6.trans (b7.mono B6.size)⟩
end Go.Proofs.YtkccmmhofhaccaaDoor
