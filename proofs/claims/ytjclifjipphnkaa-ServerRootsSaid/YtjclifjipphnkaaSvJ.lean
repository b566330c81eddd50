/- ServerEchoes (P30.1, P30.5): for every input the law returns true, and its arguments read afterwards as before. No condition. -/
import Derived.Test.YtjclifjipphnkaaSvH
import Derived.Test.YtjclifjipphnkaaNtpP
namespace Go.Proofs.Ytjclifjipphnkaa
open Go.ChangeShapes Go.WideShapes Go.ChangeAt Go.RowKit Go.Joins
set_option linter.unusedSimpArgs false
set_option linter.unusedVariables false
set_option maxRecDepth 100000
theorem decode_enc (l v m st po pr rd rp id ref org rec xmt : Int) (A : Option Addr) (c : Nat) (w : World) (h : Bs w 0 w.heap.size A (encH l v m st po pr rd rp id ref org rec xmt)) (hk : nchk l v m st po pr = 0) (h6 : 0 ≤ rd ∧ rd ≤ 4294967295) (h7 : 0 ≤ rp ∧ rp ≤ 4294967295) (h8 : 0 ≤ id ∧ id ≤ 4294967295) (h9 : 0 ≤ ref ∧ ref ≤ 18446744073709551615) (h10 : 0 ≤ org ∧ org ≤ 18446744073709551615) (h11 : 0 ≤ rec ∧ rec ≤ 18446744073709551615) (h12 : 0 ≤ xmt ∧ xmt ≤ 18446744073709551615) :
    Calls Try.prog 26 #[.slice A 48 c] w fun e w' => ∃ A' c', e = .returned (.tuple #[ntp l v m st po pr rd rp id ref org rec xmt, .slice A' 0 c', .int .i64 0]) ∧ Below w.heap.size w w' := by
  obtain ⟨L, hL, f0, f1, f2, f3, f4, f5, f6, f7, f8, f9, f10, fd⟩ := encH_back l v m st po pr rd rp id ref org rec xmt [] hk h6 h7 h8 h9 h10 h11 h12
  rw [List.append_nil] at hL
  obtain ⟨kl, kv, km, kst, kpo, kpr⟩ := nchk_ok hk
  have hl48 := encH_len l v m st po pr rd rp id ref org rec xmt
  rw [← hL] at h hl48
  have hE := decode_ok A 48 c L w hl48 h (by omega) (by omega) (l * 64 + v * 8 + m) f0 (by omega)
  rw [f1, f2, f3, f4, f5, f6, f7, f8, f9, f10, show (l * 64 + v * 8 + m) / 64 = l by omega, show (l * 64 + v * 8 + m) / 8 % 8 = v by omega, show (l * 64 + v * 8 + m) % 8 = m by omega] at hE
  exact hE.mono fun e w' ⟨A', c', h1, _, h3⟩ => ⟨A', c', h1, h3⟩
set_option maxHeartbeats 4000000 in
theorem echo_err (l v m st po pr rd rp id ref org rec xmt tr tx tf s d p r lp pc k : Int) (w : World) (hk : (k != 0) = true) (hk3 : k = 2 ∨ k = 8 ∨ k = 3)
    (hP : ∀ w : World, Calls Try.prog 9 #[ntp l v m st po pr rd rp id ref org rec xmt, .int .u64 tr, .int .u64 tx, .int .u64 tf, root s d p r, .int .i64 lp, .int .i64 pc] w fun e w' => e = .returned (.tuple #[ntp0, .int .i64 k]) ∧ Below w.heap.size w w') :
    Calls Try.prog 8 #[ntp l v m st po pr rd rp id ref org rec xmt, .agg (spL tr tx tf).toArray, root s d p r, .int .i64 lp, .int .i64 pc] w fun e w' => e = .returned (.bool true) ∧ Below w.heap.size w w' := by
  rcases hk3 with rfl | rfl | rfl
  all_goals
    go_enter Try.func8, Try.ntmps8
    go_wp2_with (first
      | (refine wpl_box (by rfl) 25 _ (by rfl) _ ([.int .i64 l, .int .i64 v, .int .i64 m, .int .i64 st, .int .i64 po, .int .i64 pr, .int .u32 rd, .int .u32 rp, .int .u32 id, .int .u64 ref, .int .u64 org, .int .u64 rec, .int .u64 xmt]) (by rfl) rfl ?_; intro w1 P1 s1 b1)
      | ((refine wpl_box (by rfl) 27 _ (by rfl) _ (spL tr tx tf) (by rfl) rfl ?_; intro w2 T2 s2 b2); (have P2 := P1.below b2 (by omega)))
      | ((refine wpl_box (by rfl) 29 _ (by rfl) _ (rtL s d p r) (by rfl) rfl ?_; intro w3 R3 s3 b3); (have P3 := P2.below b3 (by omega)); (have T3 := T2.below b3 (by omega)))
      | (refine wpl_load (by rfl) 25 _ (by rfl) w.heap.size (by rfl) 25 _ P3 _ Try.underlying25 rfl _ sizeNtp (by rfl) ?_) | (refine wpl_loadf (by rfl) 23 _ (by rfl) w1.heap.size 0 (by rfl) _ _ T3 _ rfl _ Try.underlying23 rfl ?_) | (refine wpl_loadf (by rfl) 23 _ (by rfl) w1.heap.size 1 (by rfl) _ _ T3 _ rfl _ Try.underlying23 rfl ?_) | (refine wpl_loadf (by rfl) 23 _ (by rfl) w1.heap.size 2 (by rfl) _ _ T3 _ rfl _ Try.underlying23 rfl ?_) | (refine wpl_load (by rfl) 29 _ (by rfl) w2.heap.size (by rfl) 29 _ R3 _ Try.underlying29 rfl _ sizeRoot (by rfl) ?_))
    have B3 := (b1.trans (b2.mono (by omega))).trans (b3.mono (by omega))
    clear P1 P2 T2 b1 b2 b3
    with_reducible refine (hP w3).mono ?_
    rintro e w4 ⟨rfl, b4⟩
    have P4 := P3.below b4 (by omega)
    have T4 := T3.below b4 (by omega)
    have R4 := R3.below b4 (by omega)
    have B4 := B3.trans (b4.mono B3.size)
    have z4 := b4.size
    clear P3 T3 R3 B3 b4
    go_wp2_with (first
      | (refine wpl_alloc (by rfl) 25 (by rfl) (.agg (zN).toArray) (zN) zeroNtp rfl ?_; intro w5 J5 s5 b5)
      | (refine wpl_store (by rfl) 25 _ _ (by rfl) w4.heap.size (by rfl) _ (by rfl) _ rfl 25 _ J5 (by rfl) _ sizeNtp (by rfl) (by simp [Value.oneCell']) ?_; intro w6 J6 s6 g6)
      | (refine wpl_load (by rfl) 25 _ (by rfl) w4.heap.size (by rfl) 25 _ J6 _ Try.underlying25 rfl _ sizeNtp (by rfl) ?_))
    have B6 := (B4.trans (b5.mono (by omega))).trans (g6.below (by omega) (by omega))
    clear P4 T4 R4 B4 b5 g6 J5 J6 hP
    with_reducible refine (awake_any _).mono ?_
    rintro e wa ⟨rfl, ba⟩
    have Ba := (B6).trans (ba.mono (B6).size)
    go_wp2
    go_ret
    exact ⟨rfl, Ba⟩
set_option maxHeartbeats 8000000 in
theorem echo_ok (l v m st po pr rd rp id ref org rec xmt tr tx tf s d p r lp pc L S D Q : Int) (T : Bool) (w : World) (hm : m = 3) (hk : nchk L v 4 S po pc = 0) (hD : 0 ≤ D ∧ D ≤ 4294967295) (hQ : 0 ≤ Q ∧ Q ≤ 4294967295) (hr : 0 ≤ r ∧ r ≤ 4294967295) (h1 : 0 ≤ tf ∧ tf ≤ 18446744073709551615) (h2 : 0 ≤ xmt ∧ xmt ≤ 18446744073709551615) (h3 : 0 ≤ tr ∧ tr ≤ 18446744073709551615) (h4 : 0 ≤ tx ∧ tx ≤ 18446744073709551615) (hT : syncB L S = T)
    (ht : (T = false ∧ (lp != 3) = false) ∨ (T = false ∧ (lp != 3) = true ∧ decide (s ≤ 15) = false) ∨ (T = true ∧ (lp != 3) = true ∧ decide (s ≤ 15) = true))
    (hP : ∀ w : World, Calls Try.prog 9 #[ntp l v m st po pr rd rp id ref org rec xmt, .int .u64 tr, .int .u64 tx, .int .u64 tf, root s d p r, .int .i64 lp, .int .i64 pc] w fun e w' => e = .returned (.tuple #[ntp L v 4 S po pc D Q r tf xmt tr tx, .int .i64 0]) ∧ Below w.heap.size w w') :
    Calls Try.prog 8 #[ntp l v m st po pr rd rp id ref org rec xmt, .agg (spL tr tx tf).toArray, root s d p r, .int .i64 lp, .int .i64 pc] w fun e w' => e = .returned (.bool true) ∧ Below w.heap.size w w' := by
  have hEn := fun W => encode_ok L v 4 S po pc D Q r tf xmt tr tx W hk hD hQ hr h1 h2 h3 h4
  have hDe := fun A c W H => decode_enc L v 4 S po pc D Q r tf xmt tr tx A c W H hk hD hQ hr h1 h2 h3 h4
  have hCh := fun W => nchk_any L v 4 S po pc D Q r tf xmt tr tx W
  have hSy := fun W => synced_any L v 4 S po pc D Q r tf xmt tr tx W
  rw [hk] at hCh
  rw [hT] at hSy
  have hm3 : (m == 3) = true := by simpa using hm
  clear hm hk hT hD hQ hr h1 h2 h3 h4
  rcases ht with ⟨rfl, t1⟩ | ⟨rfl, t1, t2⟩ | ⟨rfl, t1, t2⟩
  all_goals
    go_enter Try.func8, Try.ntmps8
    go_wp2_with (first
      | (refine wpl_box (by rfl) 25 _ (by rfl) _ ([.int .i64 l, .int .i64 v, .int .i64 m, .int .i64 st, .int .i64 po, .int .i64 pr, .int .u32 rd, .int .u32 rp, .int .u32 id, .int .u64 ref, .int .u64 org, .int .u64 rec, .int .u64 xmt]) (by rfl) rfl ?_; intro w1 P1 s1 b1)
      | ((refine wpl_box (by rfl) 27 _ (by rfl) _ (spL tr tx tf) (by rfl) rfl ?_; intro w2 T2 s2 b2); (have P2 := P1.below b2 (by omega)))
      | ((refine wpl_box (by rfl) 29 _ (by rfl) _ (rtL s d p r) (by rfl) rfl ?_; intro w3 R3 s3 b3); (have P3 := P2.below b3 (by omega)); (have T3 := T2.below b3 (by omega)))
      | (refine wpl_load (by rfl) 25 _ (by rfl) w.heap.size (by rfl) 25 _ P3 _ Try.underlying25 rfl _ sizeNtp (by rfl) ?_) | (refine wpl_loadf (by rfl) 23 _ (by rfl) w1.heap.size 0 (by rfl) _ _ T3 _ rfl _ Try.underlying23 rfl ?_) | (refine wpl_loadf (by rfl) 23 _ (by rfl) w1.heap.size 1 (by rfl) _ _ T3 _ rfl _ Try.underlying23 rfl ?_) | (refine wpl_loadf (by rfl) 23 _ (by rfl) w1.heap.size 2 (by rfl) _ _ T3 _ rfl _ Try.underlying23 rfl ?_) | (refine wpl_load (by rfl) 29 _ (by rfl) w2.heap.size (by rfl) 29 _ R3 _ Try.underlying29 rfl _ sizeRoot (by rfl) ?_))
    have B3 := (b1.trans (b2.mono (by omega))).trans (b3.mono (by omega))
    clear P1 P2 T2 b1 b2 b3
    with_reducible refine (hP w3).mono ?_
    rintro e w4 ⟨rfl, b4⟩
    have P4 := P3.below b4 (by omega)
    have T4 := T3.below b4 (by omega)
    have R4 := R3.below b4 (by omega)
    have B4 := B3.trans (b4.mono B3.size)
    have z4 := b4.size
    clear P3 T3 R3 B3 b4
    go_wp2_with (first
      | (refine wpl_alloc (by rfl) 25 (by rfl) (.agg (zN).toArray) (zN) zeroNtp rfl ?_; intro w5 J5 s5 b5)
      | ((refine wpl_store (by rfl) 25 _ _ (by rfl) w4.heap.size (by rfl) _ (by rfl) _ rfl 25 _ J5 (by rfl) _ sizeNtp (by rfl) (by simp [Value.oneCell']) ?_; intro w6 J6 s6 g6); (have P6 := (P4.below b5 (by omega)).but g6 (by omega)); (have T6 := (T4.below b5 (by omega)).but g6 (by omega)); (have R6 := (R4.below b5 (by omega)).but g6 (by omega)))
      | (refine wpl_load (by rfl) 25 _ (by rfl) w4.heap.size (by rfl) 25 _ J6 _ Try.underlying25 rfl _ sizeNtp (by rfl) ?_))
    have B6 := (B4.trans (b5.mono (by omega))).trans (g6.below (by omega) (by omega))
    have z6 := J6.lt
    clear P4 T4 R4 B4 b5 g6 J5 hP
    with_reducible refine (hEn w6).mono ?_
    rintro e w7 ⟨A7, c7, rfl, hB7, _, _, b7⟩
    have J7 := J6.below b7 z6
    have P7 := P6.below b7 (by omega)
    have T7 := T6.below b7 (by omega)
    have R7 := R6.below b7 (by omega)
    have B7 := B6.trans (b7.mono B6.size)
    have z7 := b7.size
    clear J6 P6 T6 R6 B6 b7 hEn
    go_wp2_with fail
    with_reducible refine (hDe A7 c7 w7 (hB7.wide (Nat.zero_le _) (Nat.le_refl _))).mono ?_
    rintro e w8 ⟨A8, c8, rfl, b8⟩
    have J8 := J7.below b8 (by omega)
    have P8 := P7.below b8 (by omega)
    have T8 := T7.below b8 (by omega)
    have R8 := R7.below b8 (by omega)
    have B8 := B7.trans (b8.mono B7.size)
    have z8 := b8.size
    clear J7 P7 T7 R7 B7 b8 hB7 hDe
    go_wp2_with (first
      | (refine wpl_alloc (by rfl) 25 (by rfl) (.agg (zN).toArray) (zN) zeroNtp rfl ?_; intro w9 K9 s9 b9)
      | ((refine wpl_store (by rfl) 25 _ _ (by rfl) w8.heap.size (by rfl) _ (by rfl) _ rfl 25 _ K9 (by rfl) _ sizeNtp (by rfl) (by simp [Value.oneCell']) ?_; intro w10 K10 s10 g10); (have J10 := (J8.below b9 (by omega)).but g10 (by omega)); (have P10 := (P8.below b9 (by omega)).but g10 (by omega)); (have T10 := (T8.below b9 (by omega)).but g10 (by omega)); (have R10 := (R8.below b9 (by omega)).but g10 (by omega)))
      | (refine wpl_load (by rfl) 25 _ (by rfl) w4.heap.size (by rfl) 25 _ J10 _ Try.underlying25 rfl _ sizeNtp (by rfl) ?_))
    have B10 := (B8.trans (b9.mono (by omega))).trans (g10.below (by omega) (by omega))
    have z10 := K10.lt
    clear J8 P8 T8 R8 B8 b9 g10 K9
    with_reducible refine (hCh w10).mono ?_
    rintro e w11 ⟨rfl, b11⟩
    have J11 := J10.below b11 (by omega)
    have K11 := K10.below b11 (by omega)
    have P11 := P10.below b11 (by omega)
    have T11 := T10.below b11 (by omega)
    have R11 := R10.below b11 (by omega)
    have B11 := B10.trans (b11.mono B10.size)
    have z11 := b11.size
    clear J10 K10 P10 T10 R10 B10 b11 hCh
    go_wp2_with (first
      | (refine wpl_load (by rfl) 25 _ (by rfl) w4.heap.size (by rfl) 25 _ J11 _ Try.underlying25 rfl _ sizeNtp (by rfl) ?_) | (refine wpl_load (by rfl) 25 _ (by rfl) w8.heap.size (by rfl) 25 _ K11 _ Try.underlying25 rfl _ sizeNtp (by rfl) ?_)
      | (refine wpl_loadf (by rfl) 23 _ (by rfl) w4.heap.size 10 (by rfl) _ _ J11 _ rfl _ Try.underlying23 rfl ?_) | (refine wpl_loadf (by rfl) 23 _ (by rfl) w4.heap.size 11 (by rfl) _ _ J11 _ rfl _ Try.underlying23 rfl ?_) | (refine wpl_loadf (by rfl) 23 _ (by rfl) w4.heap.size 12 (by rfl) _ _ J11 _ rfl _ Try.underlying23 rfl ?_) | (refine wpl_loadf (by rfl) 3 _ (by rfl) w4.heap.size 1 (by rfl) _ _ J11 _ rfl _ Try.underlying3 rfl ?_) | (refine wpl_loadf (by rfl) 3 _ (by rfl) w4.heap.size 4 (by rfl) _ _ J11 _ rfl _ Try.underlying3 rfl ?_) | (refine wpl_loadf (by rfl) 3 _ (by rfl) w4.heap.size 2 (by rfl) _ _ J11 _ rfl _ Try.underlying3 rfl ?_)
      | (refine wpl_loadf (by rfl) 23 _ (by rfl) w.heap.size 12 (by rfl) _ _ P11 _ rfl _ Try.underlying23 rfl ?_) | (refine wpl_loadf (by rfl) 3 _ (by rfl) w.heap.size 1 (by rfl) _ _ P11 _ rfl _ Try.underlying3 rfl ?_) | (refine wpl_loadf (by rfl) 3 _ (by rfl) w.heap.size 4 (by rfl) _ _ P11 _ rfl _ Try.underlying3 rfl ?_) | (refine wpl_loadf (by rfl) 3 _ (by rfl) w.heap.size 2 (by rfl) _ _ P11 _ rfl _ Try.underlying3 rfl ?_)
      | (refine wpl_loadf (by rfl) 23 _ (by rfl) w1.heap.size 0 (by rfl) _ _ T11 _ rfl _ Try.underlying23 rfl ?_) | (refine wpl_loadf (by rfl) 23 _ (by rfl) w1.heap.size 1 (by rfl) _ _ T11 _ rfl _ Try.underlying23 rfl ?_))
    with_reducible refine (hSy w11).mono ?_
    rintro e w12 ⟨rfl, b12⟩
    have R12 := R11.below b12 (by omega)
    have B12 := B11.trans (b12.mono B11.size)
    clear J11 K11 P11 T11 R11 B11 b12 hSy
    go_wp2_with (first | (refine wpl_loadf (by rfl) 3 _ (by rfl) w2.heap.size 0 (by rfl) _ _ R12 _ rfl _ Try.underlying3 rfl ?_))
    with_reducible refine (awake_any _).mono ?_
    rintro e wa ⟨rfl, ba⟩
    have Ba := (B12).trans (ba.mono (B12).size)
    go_wp2
    go_ret
    exact ⟨rfl, Ba⟩
theorem fieldsErr_03 (s d p : Int) : fieldsErr s d p = 0 ∨ fieldsErr s d p = 3 := by
  unfold fieldsErr
  split
  · exact shortErr_03 p
  · exact .inr rfl
theorem fields_parts {s d p : Int} (h : fieldsErr s d p = 0) : chk s d p = 0 ∧ shortErr d = 0 ∧ shortErr p = 0 := by
  unfold fieldsErr at h
  split at h
  · rename_i hh; exact ⟨hh.1, hh.2, h⟩
  · omega
theorem short_rng {n : Int} (h : shortErr n = 0) : 0 ≤ shortN n ∧ shortN n ≤ 4294967295 := by
  unfold shortErr at h
  split at h
  · omega
  · unfold shortN at *; omega
theorem rpE_cases (K m s d p lp pc : Int) (hK : K = 0 ∨ K = 3) : rpE K m s d p lp pc = 2 ∨ (K = 0 ∧ m ≠ 3 ∧ rpE K m s d p lp pc = 8) ∨ (K = 0 ∧ m = 3 ∧ rgB lp pc s d p = true ∧ rpE K m s d p lp pc = 0) := by
  unfold rpE rqE
  cases hg : rgB lp pc s d p with
  | false => left; simp
  | true =>
    rcases hK with rfl | rfl
    · by_cases hm : m = 3
      · right; right; exact ⟨rfl, hm, rfl, by simp [hm]⟩
      · right; left; exact ⟨rfl, hm, by simp [hm]⟩
    · left; simp
theorem echoesLaw (l v m st po pr rd rp id ref org rec xmt tr tx tf s d p r lp pc : Int) (w : World) (hr : 0 ≤ r ∧ r ≤ 4294967295) (h1 : 0 ≤ tf ∧ tf ≤ 18446744073709551615) (h2 : 0 ≤ xmt ∧ xmt ≤ 18446744073709551615) (h3 : 0 ≤ tr ∧ tr ≤ 18446744073709551615) (h4 : 0 ≤ tx ∧ tx ≤ 18446744073709551615) :
    Calls Try.prog 8 #[ntp l v m st po pr rd rp id ref org rec xmt, .agg (spL tr tx tf).toArray, root s d p r, .int .i64 lp, .int .i64 pc] w fun e w' => e = .returned (.bool true) ∧ Below w.heap.size w w' := by
  have key := rpE_cases (nchk l v m st po pr) m s d p lp pc (nchk_03 l v m st po pr)
  rcases key with he | ⟨_, _, he⟩ | ⟨hk, hm, hg, he⟩
  · have hP := fun W => reply_err l v m st po pr rd rp id ref org rec xmt tr tx tf s d p r lp pc W (by omega)
    rw [he] at hP
    exact echo_err l v m st po pr rd rp id ref org rec xmt tr tx tf s d p r lp pc 2 w (by decide) (.inl rfl) hP
  · have hP := fun W => reply_err l v m st po pr rd rp id ref org rec xmt tr tx tf s d p r lp pc W (by omega)
    rw [he] at hP
    exact echo_err l v m st po pr rd rp id ref org rec xmt tr tx tf s d p r lp pc 8 w (by decide) (.inr (.inl rfl)) hP
  · rcases fieldsErr_03 s d p with hf | hf
    · obtain ⟨hc, hd, hp⟩ := fields_parts hf
      obtain ⟨c1, c2, _, _, _, _⟩ := chk_ok hc
      obtain ⟨g1, g2, g3, g4, _⟩ := of_decide_eq_true hg
      obtain ⟨kl, kv, km, kst, kpo, kpr⟩ := nchk_ok hk
      have hL : 0 ≤ ryL s lp ∧ ryL s lp ≤ 3 := by unfold ryL; split <;> omega
      have hS : 0 ≤ ryS s ∧ ryS s ≤ 15 := by unfold ryS; split <;> omega
      have hn : nchk (ryL s lp) v 4 (ryS s) po pc = 0 := by unfold nchk; rw [if_pos (by omega)]
      refine echo_ok l v m st po pr rd rp id ref org rec xmt tr tx tf s d p r lp pc (ryL s lp) (ryS s) (shortN d) (shortN p) (syncB (ryL s lp) (ryS s)) w hm hn (short_rng hd) (short_rng hp) hr h1 h2 h3 h4 rfl ?_ (fun W => reply_ok l v m st po pr rd rp id ref org rec xmt tr tx tf s d p r lp pc W he hf)
      by_cases hl3 : lp = 3
      · exact .inl ⟨decide_eq_false (by unfold ryL; split <;> omega), by simp [hl3]⟩
      · by_cases hs : s = 16
        · exact .inr (.inl ⟨decide_eq_false (by unfold ryL; rw [if_pos hs]; omega), by simpa using hl3, by simp; omega⟩)
        · exact .inr (.inr ⟨decide_eq_true (by unfold ryL ryS; rw [if_neg hs, if_neg hs]; omega), by simpa using hl3, by simp; omega⟩)
    · exact echo_err l v m st po pr rd rp id ref org rec xmt tr tx tf s d p r lp pc 3 w (by decide) (.inr (.inr rfl)) (fun W => reply_fe l v m st po pr rd rp id ref org rec xmt tr tx tf s d p r lp pc W he hf)
namespace lawEchoes
set_option maxRecDepth 100000 in
theorem lifted (os : Os) (started : os.Started) (H : Type) (enc : TypeId × Value → H) :
    ReturnsInHanded {} Try.checked os 8 .any (Rows.serverEchoesSpec.pre6 enc Try.prog Try.f8 Rows.serverEchoesRow.domain false) (Rows.serverEchoesSpec.post enc Try.prog Try.f8 false true false false) := by
  refine returnsInHanded_of_change (C := Try.checked) own started (by kernel_rfl) Try.func8
    (ChangeSpec.witness6 (enc := enc) (C := Try.checked) false ⟨#[], #[ntp 0 0 0 0 0 0 0 0 0 0 0 0 0, .agg #[.int .u64 0, .int .u64 0, .int .u64 0], root 0 0 0 0, .int .i64 0, .int .i64 0], []⟩ 8 (by kernel_rfl) (by kernel_rfl) (by kernel_rfl) (by kernel_rfl)) ?_
  intro W base args ds gs before hval0 hW hcnd _
  have hval : ∀ (j : Nat) t v, Try.f8.params[j]? = some t → args[j]? = some v → Value.okWide Try.prog W .any base t v := hval0
  have hW' := hW
  obtain ⟨p, q, hA0, hV, rfl, hfz, hnd⟩ := hW
  have hA : DataW.TrodAll enc Try.prog W 0 (fun _ => true) true Try.f8.params.toList args.toList ds p := hA0
  rw [Try.params8] at hA hval
  obtain ⟨rfl, rfl⟩ := trodVars_none hV
  obtain ⟨v0, v1, v2, v3, v4, d0, d1, d2, d3, d4, p0, p1, p2, p3, p4, ea, rfl, h0, h1, h2, h3, h4⟩ := trodAll_fives hA
  obtain ⟨args⟩ := args
  obtain rfl : args = [v0, v1, v2, v3, v4] := ea
  obtain ⟨l, v, m, st, po, pr, rd, rp, id, ref, org, rec, xmt, rfl, b0, b1, b2, b3, b4, b5, b6, b7, b8, b9, b10, b11, b12⟩ := open_ntp (hval 0 25 v0 rfl rfl) h0
  obtain ⟨cs1, fuel1, x1, rfl, hx1⟩ := open_struct Try.underlying27 (hval 1 27 v1 rfl rfl) h1
  obtain ⟨tr, tx, tf, rfl, htr, htx, htf⟩ := stamps_cells hx1
  obtain ⟨cs2, fuel2, x2, rfl, hx2⟩ := open_struct Try.underlying29 (hval 2 29 v2 rfl rfl) h2
  obtain ⟨s, dd, p, r, rfl, hr1, hr2⟩ := root_cells hx2
  obtain ⟨lp, rfl, rfl, rfl, wf_lp⟩ := open_int Try.underlying3 (hval 3 3 v3 rfl rfl) h3
  obtain ⟨pc, rfl, rfl, rfl, wf_pc⟩ := open_int Try.underlying3 (hval 4 3 v4 rfl rfl) h4
  refine (echoesLaw l v m st po pr rd rp id ref org rec xmt tr tx tf s dd p r lp pc W ⟨hr1, hr2⟩ htf b12 htr htx).mono fun e W' ⟨he, hb⟩ => ?_
  subst he
  revert hb
  simp only [List.append_nil] at hW'
  intro hb
  exact ⟨_, rfl, law_post (tb := 4) laidOut Try.underlying4 rfl (by rw [Try.params8]; intro t ht; revert ht; revert t; exact of_decide_eq_true (by kernel_rfl)) rfl rfl rfl rfl hW' hb⟩
theorem over : Rows.serverEchoesRow.holds Try.pinned (OpenSpec.ofChange Rows.serverEchoesSpec) :=
  OpenClaim.holds_of_wide 8 Try.f8 rfl rfl rfl rfl rfl rfl rfl ⟨rfl, rfl, rfl, rfl, rfl⟩ rfl rfl rfl rfl rfl (by kernel_rfl) Try.func8 (by kernel_rfl)
    (of_decide_eq_true (by kernel_rfl)) (by unfold Func.isWrapper; first | (rw [if_pos (by decide +kernel)]; kernel_rfl) | (rw [if_neg (by decide +kernel)]; exact ⟨rfl, rfl⟩))
    (fun os started H enc _ => lifted os started H enc)
theorem proved : Rows.ServerEchoesSaid :=
  over
#print axioms proved
end lawEchoes
end Go.Proofs.Ytjclifjipphnkaa
