/- AssocReplays (P31.3, P31.5): for every input the law returns true, and its arguments read afterwards as before. No condition. -/
import Derived.Test.YtickoncgnjgciaaAsK
import Derived.Test.YtickoncgnjgciaaHeld
namespace Go.Proofs.Ytickoncgnjgciaa
open Go.ChangeShapes Go.WideShapes Go.ChangeAt Go.RowKit Go.Joins
set_option linter.unusedSimpArgs false
set_option linter.unusedVariables false
theorem inc_cb {K j c : Int} (h0 : 0 ≤ c) (h1 : c ≤ 999999) : CB (incK K j c) := by unfold incK; split <;> omega
set_option maxRecDepth 100000 in
set_option maxHeartbeats 4000000 in
theorem rep_skip (n l v m st po pr rd rp id ref org rec xmt now : Int) (w : World) (h : n = 0 ∨ n = 1 ∨ rdB now = false) :
    Calls Try.prog 6 #[.int .u64 n, ntp l v m st po pr rd rp id ref org rec xmt, .int .i64 now] w fun e' w' => e' = .returned (.bool true) ∧ Below w.heap.size w w' := by
  by_cases h0 : n = 0
  · subst h0
    clear h
    go_enter Try.func6, Try.ntmps6
    go_wp2_with (first
      | (refine wpl_box (by rfl) 31 _ (by rfl) _ ([.int .i64 l, .int .i64 v, .int .i64 m, .int .i64 st, .int .i64 po, .int .i64 pr, .int .u32 rd, .int .u32 rp, .int .u32 id, .int .u64 ref, .int .u64 org, .int .u64 rec, .int .u64 xmt]) (by rfl) rfl ?_; intro w1 P1 s1 b1)
      | (go_at_call 9; ((with_reducible refine (new_ok 4 _ (by omega) (by omega)).mono ?_); rintro e' w2 ⟨rfl, H2, b2⟩; (have P2 := P1.below b2 (by omega)); (have z2 := H2.lt)))
      | (go_at_call 21; ((with_reducible refine (lin_any _ _).mono ?_); rintro e w1 ⟨rfl, rfl⟩)))
    have B2 := b1.trans (b2.mono b1.size)
    clear P1 b1 b2 H2
    with_reducible refine (awake_any _).mono ?_
    rintro e wa ⟨rfl, ba⟩
    have Ba := (B2).trans (ba.mono (B2).size)
    go_wp2
    go_ret
    exact ⟨rfl, Ba⟩
  · have h0' : (n == 0) = false := by simpa using h0
    by_cases h1 : n = 1
    · subst h1
      clear h h0
      go_enter Try.func6, Try.ntmps6
      go_wp2_with (first
        | (refine wpl_box (by rfl) 31 _ (by rfl) _ ([.int .i64 l, .int .i64 v, .int .i64 m, .int .i64 st, .int .i64 po, .int .i64 pr, .int .u32 rd, .int .u32 rp, .int .u32 id, .int .u64 ref, .int .u64 org, .int .u64 rec, .int .u64 xmt]) (by rfl) rfl ?_; intro w1 P1 s1 b1)
        | (go_at_call 9; ((with_reducible refine (new_ok 4 _ (by omega) (by omega)).mono ?_); rintro e' w2 ⟨rfl, H2, b2⟩; (have P2 := P1.below b2 (by omega)); (have z2 := H2.lt)))
        | (go_at_call 21; ((with_reducible refine (lin_any _ _).mono ?_); rintro e w1 ⟨rfl, rfl⟩)))
      have B2 := b1.trans (b2.mono b1.size)
      clear P1 b1 b2 H2
      with_reducible refine (awake_any _).mono ?_
      rintro e wa ⟨rfl, ba⟩
      have Ba := (B2).trans (ba.mono (B2).size)
      go_wp2
      go_ret
      exact ⟨rfl, Ba⟩
    · have h1' : (n == 1) = false := by simpa using h1
      have h2 : rdB now = false := by rcases h with h | h | h <;> first | omega | exact h
      clear h h0 h1
      go_enter Try.func6, Try.ntmps6
      go_wp2_with (first
        | (refine wpl_box (by rfl) 31 _ (by rfl) _ ([.int .i64 l, .int .i64 v, .int .i64 m, .int .i64 st, .int .i64 po, .int .i64 pr, .int .u32 rd, .int .u32 rp, .int .u32 id, .int .u64 ref, .int .u64 org, .int .u64 rec, .int .u64 xmt]) (by rfl) rfl ?_; intro w1 P1 s1 b1)
        | (go_at_call 9; ((with_reducible refine (new_ok 4 _ (by omega) (by omega)).mono ?_); rintro e' w2 ⟨rfl, H2, b2⟩; (have P2 := P1.below b2 (by omega)); (have z2 := H2.lt)))
        | (go_at_call 21; ((with_reducible refine (lin_any _ _).mono ?_); rintro e w1 ⟨rfl, rfl⟩)))
      have B2 := b1.trans (b2.mono b1.size)
      clear P1 b1 b2 H2
      with_reducible refine (awake_any _).mono ?_
      rintro e wa ⟨rfl, ba⟩
      have Ba := (B2).trans (ba.mono (B2).size)
      go_wp2
      go_ret
      exact ⟨rfl, Ba⟩
set_option maxRecDepth 100000 in
set_option maxHeartbeats 4000000 in
theorem rep_bad (n l v m st po pr rd rp id ref org rec xmt now : Int) (w : World) (h0 : (n == 0) = false) (h1 : (n == 1) = false) (h2 : rdB now = true) (hS1 : sendE now 1 0 = 0)
    (hRc1 : ∀ (g : Nat) (W : World), Blk W g 57 (asL 4 now 1 true 0 0 0 0 0 0 0 0 0) → Calls Try.prog 14 #[.pointer (some ⟨g, 0, none⟩), ntp l v m st po pr rd rp id ref 1 rec xmt, .int .i64 now] W fun e' w' => e' = .returned (.agg (hdL 0 ⟨#[]⟩ 0 0 0 0).toArray) ∧ Blk w' g 57 (asL 4 now 1 true 0 1 0 0 0 0 0 0 0) ∧ But g W w') :
    Calls Try.prog 6 #[.int .u64 n, ntp l v m st po pr rd rp id ref org rec xmt, .int .i64 now] w fun e' w' => e' = .returned (.bool true) ∧ Below w.heap.size w w' := by
  go_enter Try.func6, Try.ntmps6
  go_wp2_with (first
    | (refine wpl_box (by rfl) 31 _ (by rfl) _ ([.int .i64 l, .int .i64 v, .int .i64 m, .int .i64 st, .int .i64 po, .int .i64 pr, .int .u32 rd, .int .u32 rp, .int .u32 id, .int .u64 ref, .int .u64 org, .int .u64 rec, .int .u64 xmt]) (by rfl) rfl ?_; intro w1 P1 s1 b1)
    | (go_at_call 9; ((with_reducible refine (new_ok 4 _ (by omega) (by omega)).mono ?_); rintro e' w2 ⟨rfl, H2, b2⟩; (have P2 := P1.below b2 (by omega)); (have z2 := H2.lt)))
    | (go_at_call 21; ((with_reducible refine (lin_any _ _).mono ?_); rintro e w1 ⟨rfl, rfl⟩)))
  have B2 := b1.trans (b2.mono b1.size)
  clear P1 b1 b2
  with_reducible refine (send_ok w1.heap.size 4 0 0 false 0 0 0 0 0 0 0 0 0 now 1 w2 H2 hS1).mono ?_
  rintro e' w3 ⟨rfl, H3, g3⟩
  have P3 := P2.but g3 (by omega)
  have B3 := B2.trans (g3.below B2.size (by omega))
  have z3 := g3.size
  clear H2 P2 B2 g3
  go_wp2_with (first
    | (refine wpl_alloc (by rfl) 31 (by rfl) (.agg (zN).toArray) (zN) zeroNtp rfl ?_; intro w4 J4 s4 b4)
    | (refine wpl_store (by rfl) 31 _ _ (by rfl) w3.heap.size (by rfl) _ (by rfl) _ rfl 31 _ J4 (by rfl) _ sizeNtp (by rfl) (by simp [Value.oneCell']) ?_; intro w5 J5 s5 g5)
    | (refine wpl_storeg (by rfl) 28 _ _ (by rfl) w.heap.size 10 (by rfl) (.int .u64 1) (by rfl) (by rfl) (by simp [Value.oneCell']) _ _ ([.int .i64 l, .int .i64 v, .int .i64 m, .int .i64 st, .int .i64 po, .int .i64 pr, .int .u32 rd, .int .u32 rp, .int .u32 id, .int .u64 ref, .int .u64 1, .int .u64 rec, .int .u64 xmt]) ((P3.below b4 (by omega)).but g5 (by omega)) (by simp) sizeU64 (by rfl) ?_; intro w6 P6 s6 g6)
    | (refine wpl_load (by rfl) 31 _ (by rfl) w.heap.size (by rfl) 31 _ P6 _ Try.underlying31 rfl _ sizeNtp (by rfl) ?_))
  have H6 := ((H3.below b4 (by omega)).but g5 (by omega)).but g6 (by omega)
  have B6 := ((B3.trans (b4.mono B3.size)).trans (g5.below (by omega) (by omega))).trans (g6.below (by omega) (by omega))
  clear H3 P3 B3 b4 g5 g6 J4 J5
  with_reducible refine (hRc1 _ _ H6).mono ?_
  rintro e' w7 ⟨rfl, H7, g7⟩
  have P7 := P6.but g7 (by omega)
  have B7 := B6.trans (g7.below B6.size (by omega))
  have z7 := g7.size
  clear H6 P6 B6 g7 hRc1
  go_wp2_with (first
    | (refine wpl_alloc (by rfl) 40 (by rfl) (.agg (zH).toArray) (zH) zeroHeard rfl ?_; intro w8 J8 s8 b8)
    | (refine wpl_store (by rfl) 40 _ _ (by rfl) w7.heap.size (by rfl) _ (by rfl) _ rfl 40 _ J8 (by rfl) _ sizeHeard (by rfl) (by simp [Value.oneCell']) ?_; intro w9 J9 s9 g9)
    | (refine wpl_load (by rfl) 40 _ (by rfl) w7.heap.size (by rfl) 40 _ J9 _ Try.underlying40 rfl _ sizeHeard (by rfl) ?_) | (refine wpl_loadf (by rfl) 3 _ (by rfl) w7.heap.size 0 (by rfl) _ _ J9 _ rfl _ Try.underlying3 rfl ?_)
    | (go_at_call 18; ((with_reducible refine (pending_any _ _ _ _ _ _ _ _ _ _ _ _ _ _ _ ((H7.below b8 (by omega)).but g9 (by omega))).mono ?_); rintro e w1 ⟨rfl, rfl⟩)))
  have B9 := (B7.trans (b8.mono B7.size)).trans (g9.below (by omega) (by omega))
  clear H7 P7 B7 b8 g9 J8 J9
  with_reducible refine (awake_any _).mono ?_
  rintro e wa ⟨rfl, ba⟩
  have Ba := (B9).trans (ba.mono (B9).size)
  go_wp2
  go_ret
  exact ⟨rfl, Ba⟩
set_option maxRecDepth 100000 in
set_option maxHeartbeats 8000000 in
theorem rep_dup (n A l v m st po pr rd rp id ref org rec xmt now : Int) (s : ByteArray) (qa qb qd qe : Int) (e0 e1 e2 e3 e4 e5 e6 e7 d0 d1 d2 d3 d4 d5 d6 d7 : Int) (w : World) (h0 : (n == 0) = false) (h1 : (n == 1) = false) (h2 : rdB now = true) (hS1 : sendE now 1 0 = 0) (hA4 : decide (A < 4) = false)
    (hRc1 : ∀ (g : Nat) (W : World), Blk W g 57 (asL 4 now 1 true 0 0 0 0 0 0 0 0 0) → Calls Try.prog 14 #[.pointer (some ⟨g, 0, none⟩), ntp l v m st po pr rd rp id ref 1 rec xmt, .int .i64 now] W fun e' w' => e' = .returned (.agg (hdL A s qa qb qd qe).toArray) ∧ Blk w' g 57 (asL 4 now 1 false xmt e0 e1 e2 e3 e4 e5 e6 e7) ∧ But g W w')
    (hRc2 : ∀ (g : Nat) (W : World), Blk W g 57 (asL 4 now 1 false xmt e0 e1 e2 e3 e4 e5 e6 e7) → Calls Try.prog 14 #[.pointer (some ⟨g, 0, none⟩), ntp l v m st po pr rd rp id ref 1 rec xmt, .int .i64 now] W fun e' w' => e' = .returned (.agg (hdL 1 ⟨#[]⟩ 0 0 0 0).toArray) ∧ Blk w' g 57 (asL 4 now 1 false xmt e0 (e1 + 1) e2 e3 e4 e5 e6 e7) ∧ But g W w')
    (hSn : ∀ (g : Nat) (W : World), Blk W g 57 (asL 4 now 1 false xmt e0 (e1 + 1) e2 e3 e4 e5 e6 e7) → Calls Try.prog 12 #[.pointer (some ⟨g, 0, none⟩), .int .i64 now, .int .u64 n] W fun e' w' => e' = .returned (.tuple #[ntp 0 4 3 0 0 0 0 0 0 0 0 0 n, .int .i64 0]) ∧ Blk w' g 57 (asL 4 now n true xmt e0 (e1 + 1) e2 e3 e4 e5 e6 e7) ∧ But g W w')
    (hRc3 : ∀ (g : Nat) (W : World), Blk W g 57 (asL 4 now n true xmt e0 (e1 + 1) e2 e3 e4 e5 e6 e7) → Calls Try.prog 14 #[.pointer (some ⟨g, 0, none⟩), ntp l v m st po pr rd rp id ref 1 rec xmt, .int .i64 now] W fun e' w' => e' = .returned (.agg (hdL 2 ⟨#[]⟩ 0 0 0 0).toArray) ∧ Blk w' g 57 (asL 4 now n true xmt e0 (e1 + 1) (e2 + 1) e3 e4 e5 e6 e7) ∧ But g W w')
    (hRc4 : ∀ (g : Nat) (W : World), Blk W g 57 (asL 4 now n true xmt e0 (e1 + 1) (e2 + 1) e3 e4 e5 e6 e7) → Calls Try.prog 14 #[.pointer (some ⟨g, 0, none⟩), ntp l v m st po pr rd rp id ref n rec xmt, .int .i64 now] W fun e' w' => e' = .returned (.agg (hdL 3 ⟨#[]⟩ 0 0 0 0).toArray) ∧ Blk w' g 57 (asL 4 now n true xmt d0 d1 d2 d3 d4 d5 d6 d7) ∧ But g W w')
    (hx : (xmt == 0) = false) :
    Calls Try.prog 6 #[.int .u64 n, ntp l v m st po pr rd rp id ref org rec xmt, .int .i64 now] w fun e' w' => e' = .returned (.bool true) ∧ Below w.heap.size w w' := by
  go_enter Try.func6, Try.ntmps6
  go_wp2_with (first
    | (refine wpl_box (by rfl) 31 _ (by rfl) _ ([.int .i64 l, .int .i64 v, .int .i64 m, .int .i64 st, .int .i64 po, .int .i64 pr, .int .u32 rd, .int .u32 rp, .int .u32 id, .int .u64 ref, .int .u64 org, .int .u64 rec, .int .u64 xmt]) (by rfl) rfl ?_; intro w1 P1 s1 b1)
    | (go_at_call 9; ((with_reducible refine (new_ok 4 _ (by omega) (by omega)).mono ?_); rintro e' w2 ⟨rfl, H2, b2⟩; (have P2 := P1.below b2 (by omega)); (have z2 := H2.lt)))
    | (go_at_call 21; ((with_reducible refine (lin_any _ _).mono ?_); rintro e w1 ⟨rfl, rfl⟩)))
  have B2 := b1.trans (b2.mono b1.size)
  clear P1 b1 b2
  with_reducible refine (send_ok w1.heap.size 4 0 0 false 0 0 0 0 0 0 0 0 0 now 1 w2 H2 hS1).mono ?_
  rintro e' w3 ⟨rfl, H3, g3⟩
  have P3 := P2.but g3 (by omega)
  have B3 := B2.trans (g3.below B2.size (by omega))
  have z3 := g3.size
  clear H2 P2 B2 g3
  go_wp2_with (first
    | (refine wpl_alloc (by rfl) 31 (by rfl) (.agg (zN).toArray) (zN) zeroNtp rfl ?_; intro w4 J4 s4 b4)
    | (refine wpl_store (by rfl) 31 _ _ (by rfl) w3.heap.size (by rfl) _ (by rfl) _ rfl 31 _ J4 (by rfl) _ sizeNtp (by rfl) (by simp [Value.oneCell']) ?_; intro w5 J5 s5 g5)
    | (refine wpl_storeg (by rfl) 28 _ _ (by rfl) w.heap.size 10 (by rfl) (.int .u64 1) (by rfl) (by rfl) (by simp [Value.oneCell']) _ _ ([.int .i64 l, .int .i64 v, .int .i64 m, .int .i64 st, .int .i64 po, .int .i64 pr, .int .u32 rd, .int .u32 rp, .int .u32 id, .int .u64 ref, .int .u64 1, .int .u64 rec, .int .u64 xmt]) ((P3.below b4 (by omega)).but g5 (by omega)) (by simp) sizeU64 (by rfl) ?_; intro w6 P6 s6 g6)
    | (refine wpl_load (by rfl) 31 _ (by rfl) w.heap.size (by rfl) 31 _ P6 _ Try.underlying31 rfl _ sizeNtp (by rfl) ?_))
  have H6 := ((H3.below b4 (by omega)).but g5 (by omega)).but g6 (by omega)
  have B6 := ((B3.trans (b4.mono B3.size)).trans (g5.below (by omega) (by omega))).trans (g6.below (by omega) (by omega))
  clear H3 P3 B3 b4 g5 g6 J4 J5
  with_reducible refine (hRc1 _ _ H6).mono ?_
  rintro e' w7 ⟨rfl, H7, g7⟩
  have P7 := P6.but g7 (by omega)
  have B7 := B6.trans (g7.below B6.size (by omega))
  have z7 := g7.size
  clear H6 P6 B6 g7 hRc1
  go_wp2_with (first
    | (refine wpl_alloc (by rfl) 40 (by rfl) (.agg (zH).toArray) (zH) zeroHeard rfl ?_; intro w8 J8 s8 b8)
    | (refine wpl_store (by rfl) 40 _ _ (by rfl) w7.heap.size (by rfl) _ (by rfl) _ rfl 40 _ J8 (by rfl) _ sizeHeard (by rfl) (by simp [Value.oneCell']) ?_; intro w9 J9 s9 g9)
    | (refine wpl_loadf (by rfl) 3 _ (by rfl) w7.heap.size 0 (by rfl) _ _ J9 _ rfl _ Try.underlying3 rfl ?_)
    | (refine wpl_load (by rfl) 31 _ (by rfl) w.heap.size (by rfl) 31 _ ((P7.below b8 (by omega)).but g9 (by omega)) _ Try.underlying31 rfl _ sizeNtp (by rfl) ?_))
  have H9 := (H7.below b8 (by omega)).but g9 (by omega)
  have P9 := (P7.below b8 (by omega)).but g9 (by omega)
  have B9 := (B7.trans (b8.mono B7.size)).trans (g9.below (by omega) (by omega))
  clear H7 P7 B7 b8 g9 J8 J9
  with_reducible refine (hRc2 _ _ H9).mono ?_
  rintro e' w10 ⟨rfl, H10, g10⟩
  have P10 := P9.but g10 (by omega)
  have B10 := B9.trans (g10.below B9.size (by omega))
  have z10 := g10.size
  clear H9 P9 B9 g10 hRc2
  go_wp2_with (first
    | (refine wpl_alloc (by rfl) 40 (by rfl) (.agg (zH).toArray) (zH) zeroHeard rfl ?_; intro w11 X11 s11 b11)
    | (refine wpl_store (by rfl) 40 _ _ (by rfl) w10.heap.size (by rfl) _ (by rfl) _ rfl 40 _ X11 (by rfl) _ sizeHeard (by rfl) (by simp [Value.oneCell']) ?_; intro w12 X12 s12 g12))
  have H12 := (H10.below b11 (by omega)).but g12 (by omega)
  have P12 := (P10.below b11 (by omega)).but g12 (by omega)
  have B12 := (B10.trans (b11.mono B10.size)).trans (g12.below (by omega) (by omega))
  have zX := X12.lt
  clear H10 P10 B10 b11 g12 X11
  with_reducible refine (hSn _ _ H12).mono ?_
  rintro e' w13 ⟨rfl, H13, g13⟩
  have P13 := P12.but g13 (by omega)
  have X13 := X12.but g13 (by omega)
  have B13 := B12.trans (g13.below B12.size (by omega))
  have z13 := g13.size
  clear H12 P12 B12 g13 X12 hSn
  go_wp2_with (first
    | (refine wpl_alloc (by rfl) 31 (by rfl) (.agg (zN).toArray) (zN) zeroNtp rfl ?_; intro w14 J14 s14 b14)
    | (refine wpl_store (by rfl) 31 _ _ (by rfl) w13.heap.size (by rfl) _ (by rfl) _ rfl 31 _ J14 (by rfl) _ sizeNtp (by rfl) (by simp [Value.oneCell']) ?_; intro w15 J15 s15 g15)
    | (refine wpl_load (by rfl) 31 _ (by rfl) w.heap.size (by rfl) 31 _ ((P13.below b14 (by omega)).but g15 (by omega)) _ Try.underlying31 rfl _ sizeNtp (by rfl) ?_))
  have H15 := (H13.below b14 (by omega)).but g15 (by omega)
  have P15 := (P13.below b14 (by omega)).but g15 (by omega)
  have X15 := (X13.below b14 (by omega)).but g15 (by omega)
  have B15 := (B13.trans (b14.mono B13.size)).trans (g15.below (by omega) (by omega))
  clear H13 P13 B13 b14 g15 X13 J14 J15
  with_reducible refine (hRc3 _ _ H15).mono ?_
  rintro e' w16 ⟨rfl, H16, g16⟩
  have P16 := P15.but g16 (by omega)
  have X16 := X15.but g16 (by omega)
  have B16 := B15.trans (g16.below B15.size (by omega))
  have z16 := g16.size
  clear H15 P15 B15 g16 X15 hRc3
  go_wp2_with (first
    | (refine wpl_alloc (by rfl) 40 (by rfl) (.agg (zH).toArray) (zH) zeroHeard rfl ?_; intro w17 Y17 s17 b17)
    | (refine wpl_store (by rfl) 40 _ _ (by rfl) w16.heap.size (by rfl) _ (by rfl) _ rfl 40 _ Y17 (by rfl) _ sizeHeard (by rfl) (by simp [Value.oneCell']) ?_; intro w18 Y18 s18 g18)
    | (refine wpl_storeg (by rfl) 28 _ _ (by rfl) w.heap.size 10 (by rfl) (.int .u64 n) (by rfl) (by rfl) (by simp [Value.oneCell']) _ _ ([.int .i64 l, .int .i64 v, .int .i64 m, .int .i64 st, .int .i64 po, .int .i64 pr, .int .u32 rd, .int .u32 rp, .int .u32 id, .int .u64 ref, .int .u64 n, .int .u64 rec, .int .u64 xmt]) ((P16.below b17 (by omega)).but g18 (by omega)) (by simp) sizeU64 (by rfl) ?_; intro w19 P19 s19 g19)
    | (refine wpl_load (by rfl) 31 _ (by rfl) w.heap.size (by rfl) 31 _ P19 _ Try.underlying31 rfl _ sizeNtp (by rfl) ?_))
  have H19 := ((H16.below b17 (by omega)).but g18 (by omega)).but g19 (by omega)
  have X19 := ((X16.below b17 (by omega)).but g18 (by omega)).but g19 (by omega)
  have Y19 := Y18.but g19 (by omega)
  have B19 := ((B16.trans (b17.mono B16.size)).trans (g18.below (by omega) (by omega))).trans (g19.below (by omega) (by omega))
  have zY := Y19.lt
  clear H16 P16 B16 b17 g18 g19 X16 Y17 Y18
  with_reducible refine (hRc4 _ _ H19).mono ?_
  rintro e' w20 ⟨rfl, H20, g20⟩
  have P20 := P19.but g20 (by omega)
  have X20 := X19.but g20 (by omega)
  have Y20 := Y19.but g20 (by omega)
  have B20 := B19.trans (g20.below B19.size (by omega))
  have z20 := g20.size
  clear H19 P19 B19 g20 X19 Y19 hRc4
  go_wp2_with (first
    | (refine wpl_alloc (by rfl) 40 (by rfl) (.agg (zH).toArray) (zH) zeroHeard rfl ?_; intro w21 V21 s21 b21)
    | (refine wpl_store (by rfl) 40 _ _ (by rfl) w20.heap.size (by rfl) _ (by rfl) _ rfl 40 _ V21 (by rfl) _ sizeHeard (by rfl) (by simp [Value.oneCell']) ?_; intro w22 V22 s22 g22)
    | (refine wpl_loadf (by rfl) 3 _ (by rfl) w10.heap.size 0 (by rfl) _ _ ((X20.below b21 (by omega)).but g22 (by omega)) _ rfl _ Try.underlying3 rfl ?_)
    | (refine wpl_loadf (by rfl) 3 _ (by rfl) w16.heap.size 0 (by rfl) _ _ ((Y20.below b21 (by omega)).but g22 (by omega)) _ rfl _ Try.underlying3 rfl ?_))
  have H22 := (H20.below b21 (by omega)).but g22 (by omega)
  have P22 := (P20.below b21 (by omega)).but g22 (by omega)
  have B22 := (B20.trans (b21.mono B20.size)).trans (g22.below (by omega) (by omega))
  have q1 := P22.cell (i := 12) rfl
  have q2 := V22.cell (i := 0) rfl
  have hPd := fun W HW => pending_any w1.heap.size 4 now n true xmt d0 d1 d2 d3 d4 d5 d6 d7 W HW
  obtain ⟨N, hN⟩ : ∃ N, N = w22.heap.size := ⟨_, rfl⟩
  have hN1 : N ≤ w22.heap.size := by omega
  have hN2 : w20.heap.size < N := by have := V22.lt; omega
  have hN3 : w.heap.size < w20.heap.size := by omega
  have hN4 : w1.heap.size < N := by omega
  clear H20 P20 B20 b21 g22 X20 Y20 V21 P22 V22 hN z3 z7 z10 z13 z16 z20 s4 s5 s6 s8 s9 s11 s12 s14 s15 s17 s18 s19 s21 s22 zX zY
  go_region_held3 (fun w' => w'.cell? ⟨w.heap.size, 12, none⟩ = some (.int .u64 xmt) ∧ w'.cell? ⟨w20.heap.size, 0, none⟩ = some (.int .i64 3) ∧ Blk w' w1.heap.size 57 (asL 4 now n true xmt d0 d1 d2 d3 d4 d5 d6 d7) ∧ N ≤ w'.heap.size ∧ Below w.heap.size w w') (((try dsimp only); (repeat' (with_reducible apply And.intro)) <;> (go_split_ands; with_reducible first | assumption | (refine drew_cell ?_; assumption) | (refine drew_size ?_; assumption) | (refine Blk.drew ?_; assumption) | (refine Below.drew ?_; assumption) | (refine kept_cell hb (by assumption) ?_; (try dsimp only); omega) | (refine Nat.le_trans ?_ hb.size; assumption) | (refine Blk.below (by assumption) hb ?_; omega) | (refine Below.trans (by assumption) (hb.mono ?_); omega) | (refine Blk.old ?_; assumption) | (refine alloc_cell ?_; assumption) | (refine alloc_size ?_; assumption) | (refine Below.alloc (by assumption) ?_ _; omega) | (refine but_cell hg (by assumption) ?_; omega) | (refine Nat.le_trans ?_ hg.size; assumption) | (refine Below.trans (by assumption) (hg.below ?_ ?_) <;> omega) | (refine Blk.but (by assumption) hg ?_; omega) | (refine Blk.far ?_ ?_; assumption; (try dsimp only); omega) | (refine far_cell ?_ ?_; assumption; (try dsimp only); omega) | (refine far_size ?_; assumption) | (refine Below.setCell (by assumption) ?_ _; (try dsimp only); omega) | (exact realloc_size (by assumption)) | (refine realloc_cell (by assumption) ?_; have hq : N ≤ _ := (by assumption); simp only [World.size_alloc] at hq; omega) | (refine realloc_below (by assumption) ?_; have hq : N ≤ _ := (by assumption); simp only [World.size_alloc] at hq; omega)))) (first
    | (go_at_call 18; (try dsimp only at *); go_split_ands; ((with_reducible refine (hPd _ (by assumption)).mono ?_); rintro e' x1 ⟨rfl, rfl⟩))
    | (go_at_call 11; ((with_reducible refine (awake_any _).mono ?_); rintro e' x2 ⟨rfl, hb⟩)))
  go_split_ands
  go_wp2
  go_ret
  exact ⟨rfl, by assumption⟩
set_option maxRecDepth 100000 in
set_option maxHeartbeats 8000000 in
theorem rep_new (n A l v m st po pr rd rp id ref org rec xmt now : Int) (s : ByteArray) (qa qb qd qe : Int) (e0 e1 e2 e3 e4 e5 e6 e7 d0 d1 d2 d3 d4 d5 d6 d7 : Int) (w : World) (h0 : (n == 0) = false) (h1 : (n == 1) = false) (h2 : rdB now = true) (hS1 : sendE now 1 0 = 0) (hA4 : decide (A < 4) = false)
    (hRc1 : ∀ (g : Nat) (W : World), Blk W g 57 (asL 4 now 1 true 0 0 0 0 0 0 0 0 0) → Calls Try.prog 14 #[.pointer (some ⟨g, 0, none⟩), ntp l v m st po pr rd rp id ref 1 rec xmt, .int .i64 now] W fun e' w' => e' = .returned (.agg (hdL A s qa qb qd qe).toArray) ∧ Blk w' g 57 (asL 4 now 1 false xmt e0 e1 e2 e3 e4 e5 e6 e7) ∧ But g W w')
    (hRc2 : ∀ (g : Nat) (W : World), Blk W g 57 (asL 4 now 1 false xmt e0 e1 e2 e3 e4 e5 e6 e7) → Calls Try.prog 14 #[.pointer (some ⟨g, 0, none⟩), ntp l v m st po pr rd rp id ref 1 rec xmt, .int .i64 now] W fun e' w' => e' = .returned (.agg (hdL 1 ⟨#[]⟩ 0 0 0 0).toArray) ∧ Blk w' g 57 (asL 4 now 1 false xmt e0 (e1 + 1) e2 e3 e4 e5 e6 e7) ∧ But g W w')
    (hSn : ∀ (g : Nat) (W : World), Blk W g 57 (asL 4 now 1 false xmt e0 (e1 + 1) e2 e3 e4 e5 e6 e7) → Calls Try.prog 12 #[.pointer (some ⟨g, 0, none⟩), .int .i64 now, .int .u64 n] W fun e' w' => e' = .returned (.tuple #[ntp 0 4 3 0 0 0 0 0 0 0 0 0 n, .int .i64 0]) ∧ Blk w' g 57 (asL 4 now n true xmt e0 (e1 + 1) e2 e3 e4 e5 e6 e7) ∧ But g W w')
    (hRc3 : ∀ (g : Nat) (W : World), Blk W g 57 (asL 4 now n true xmt e0 (e1 + 1) e2 e3 e4 e5 e6 e7) → Calls Try.prog 14 #[.pointer (some ⟨g, 0, none⟩), ntp l v m st po pr rd rp id ref 1 rec xmt, .int .i64 now] W fun e' w' => e' = .returned (.agg (hdL 2 ⟨#[]⟩ 0 0 0 0).toArray) ∧ Blk w' g 57 (asL 4 now n true xmt e0 (e1 + 1) (e2 + 1) e3 e4 e5 e6 e7) ∧ But g W w')
    (hRc4 : ∀ (g : Nat) (W : World), Blk W g 57 (asL 4 now n true xmt e0 (e1 + 1) (e2 + 1) e3 e4 e5 e6 e7) → Calls Try.prog 14 #[.pointer (some ⟨g, 0, none⟩), ntp l v m st po pr rd rp id ref n rec xmt, .int .i64 now] W fun e' w' => e' = .returned (.agg (hdL A s qa qb qd qe).toArray) ∧ Blk w' g 57 (asL 4 now n false xmt d0 d1 d2 d3 d4 d5 d6 d7) ∧ But g W w')
    (hx : (xmt == 0) = true) (hA3 : (A != 3) = true) (hA3' : (A == 3) = false) :
    Calls Try.prog 6 #[.int .u64 n, ntp l v m st po pr rd rp id ref org rec xmt, .int .i64 now] w fun e' w' => e' = .returned (.bool true) ∧ Below w.heap.size w w' := by
  go_enter Try.func6, Try.ntmps6
  go_wp2_with (first
    | (refine wpl_box (by rfl) 31 _ (by rfl) _ ([.int .i64 l, .int .i64 v, .int .i64 m, .int .i64 st, .int .i64 po, .int .i64 pr, .int .u32 rd, .int .u32 rp, .int .u32 id, .int .u64 ref, .int .u64 org, .int .u64 rec, .int .u64 xmt]) (by rfl) rfl ?_; intro w1 P1 s1 b1)
    | (go_at_call 9; ((with_reducible refine (new_ok 4 _ (by omega) (by omega)).mono ?_); rintro e' w2 ⟨rfl, H2, b2⟩; (have P2 := P1.below b2 (by omega)); (have z2 := H2.lt)))
    | (go_at_call 21; ((with_reducible refine (lin_any _ _).mono ?_); rintro e w1 ⟨rfl, rfl⟩)))
  have B2 := b1.trans (b2.mono b1.size)
  clear P1 b1 b2
  with_reducible refine (send_ok w1.heap.size 4 0 0 false 0 0 0 0 0 0 0 0 0 now 1 w2 H2 hS1).mono ?_
  rintro e' w3 ⟨rfl, H3, g3⟩
  have P3 := P2.but g3 (by omega)
  have B3 := B2.trans (g3.below B2.size (by omega))
  have z3 := g3.size
  clear H2 P2 B2 g3
  go_wp2_with (first
    | (refine wpl_alloc (by rfl) 31 (by rfl) (.agg (zN).toArray) (zN) zeroNtp rfl ?_; intro w4 J4 s4 b4)
    | (refine wpl_store (by rfl) 31 _ _ (by rfl) w3.heap.size (by rfl) _ (by rfl) _ rfl 31 _ J4 (by rfl) _ sizeNtp (by rfl) (by simp [Value.oneCell']) ?_; intro w5 J5 s5 g5)
    | (refine wpl_storeg (by rfl) 28 _ _ (by rfl) w.heap.size 10 (by rfl) (.int .u64 1) (by rfl) (by rfl) (by simp [Value.oneCell']) _ _ ([.int .i64 l, .int .i64 v, .int .i64 m, .int .i64 st, .int .i64 po, .int .i64 pr, .int .u32 rd, .int .u32 rp, .int .u32 id, .int .u64 ref, .int .u64 1, .int .u64 rec, .int .u64 xmt]) ((P3.below b4 (by omega)).but g5 (by omega)) (by simp) sizeU64 (by rfl) ?_; intro w6 P6 s6 g6)
    | (refine wpl_load (by rfl) 31 _ (by rfl) w.heap.size (by rfl) 31 _ P6 _ Try.underlying31 rfl _ sizeNtp (by rfl) ?_))
  have H6 := ((H3.below b4 (by omega)).but g5 (by omega)).but g6 (by omega)
  have B6 := ((B3.trans (b4.mono B3.size)).trans (g5.below (by omega) (by omega))).trans (g6.below (by omega) (by omega))
  clear H3 P3 B3 b4 g5 g6 J4 J5
  with_reducible refine (hRc1 _ _ H6).mono ?_
  rintro e' w7 ⟨rfl, H7, g7⟩
  have P7 := P6.but g7 (by omega)
  have B7 := B6.trans (g7.below B6.size (by omega))
  have z7 := g7.size
  clear H6 P6 B6 g7 hRc1
  go_wp2_with (first
    | (refine wpl_alloc (by rfl) 40 (by rfl) (.agg (zH).toArray) (zH) zeroHeard rfl ?_; intro w8 J8 s8 b8)
    | (refine wpl_store (by rfl) 40 _ _ (by rfl) w7.heap.size (by rfl) _ (by rfl) _ rfl 40 _ J8 (by rfl) _ sizeHeard (by rfl) (by simp [Value.oneCell']) ?_; intro w9 J9 s9 g9)
    | (refine wpl_loadf (by rfl) 3 _ (by rfl) w7.heap.size 0 (by rfl) _ _ J9 _ rfl _ Try.underlying3 rfl ?_)
    | (refine wpl_load (by rfl) 31 _ (by rfl) w.heap.size (by rfl) 31 _ ((P7.below b8 (by omega)).but g9 (by omega)) _ Try.underlying31 rfl _ sizeNtp (by rfl) ?_))
  have H9 := (H7.below b8 (by omega)).but g9 (by omega)
  have P9 := (P7.below b8 (by omega)).but g9 (by omega)
  have B9 := (B7.trans (b8.mono B7.size)).trans (g9.below (by omega) (by omega))
  clear H7 P7 B7 b8 g9 J8 J9
  with_reducible refine (hRc2 _ _ H9).mono ?_
  rintro e' w10 ⟨rfl, H10, g10⟩
  have P10 := P9.but g10 (by omega)
  have B10 := B9.trans (g10.below B9.size (by omega))
  have z10 := g10.size
  clear H9 P9 B9 g10 hRc2
  go_wp2_with (first
    | (refine wpl_alloc (by rfl) 40 (by rfl) (.agg (zH).toArray) (zH) zeroHeard rfl ?_; intro w11 X11 s11 b11)
    | (refine wpl_store (by rfl) 40 _ _ (by rfl) w10.heap.size (by rfl) _ (by rfl) _ rfl 40 _ X11 (by rfl) _ sizeHeard (by rfl) (by simp [Value.oneCell']) ?_; intro w12 X12 s12 g12))
  have H12 := (H10.below b11 (by omega)).but g12 (by omega)
  have P12 := (P10.below b11 (by omega)).but g12 (by omega)
  have B12 := (B10.trans (b11.mono B10.size)).trans (g12.below (by omega) (by omega))
  have zX := X12.lt
  clear H10 P10 B10 b11 g12 X11
  with_reducible refine (hSn _ _ H12).mono ?_
  rintro e' w13 ⟨rfl, H13, g13⟩
  have P13 := P12.but g13 (by omega)
  have X13 := X12.but g13 (by omega)
  have B13 := B12.trans (g13.below B12.size (by omega))
  have z13 := g13.size
  clear H12 P12 B12 g13 X12 hSn
  go_wp2_with (first
    | (refine wpl_alloc (by rfl) 31 (by rfl) (.agg (zN).toArray) (zN) zeroNtp rfl ?_; intro w14 J14 s14 b14)
    | (refine wpl_store (by rfl) 31 _ _ (by rfl) w13.heap.size (by rfl) _ (by rfl) _ rfl 31 _ J14 (by rfl) _ sizeNtp (by rfl) (by simp [Value.oneCell']) ?_; intro w15 J15 s15 g15)
    | (refine wpl_load (by rfl) 31 _ (by rfl) w.heap.size (by rfl) 31 _ ((P13.below b14 (by omega)).but g15 (by omega)) _ Try.underlying31 rfl _ sizeNtp (by rfl) ?_))
  have H15 := (H13.below b14 (by omega)).but g15 (by omega)
  have P15 := (P13.below b14 (by omega)).but g15 (by omega)
  have X15 := (X13.below b14 (by omega)).but g15 (by omega)
  have B15 := (B13.trans (b14.mono B13.size)).trans (g15.below (by omega) (by omega))
  clear H13 P13 B13 b14 g15 X13 J14 J15
  with_reducible refine (hRc3 _ _ H15).mono ?_
  rintro e' w16 ⟨rfl, H16, g16⟩
  have P16 := P15.but g16 (by omega)
  have X16 := X15.but g16 (by omega)
  have B16 := B15.trans (g16.below B15.size (by omega))
  have z16 := g16.size
  clear H15 P15 B15 g16 X15 hRc3
  go_wp2_with (first
    | (refine wpl_alloc (by rfl) 40 (by rfl) (.agg (zH).toArray) (zH) zeroHeard rfl ?_; intro w17 Y17 s17 b17)
    | (refine wpl_store (by rfl) 40 _ _ (by rfl) w16.heap.size (by rfl) _ (by rfl) _ rfl 40 _ Y17 (by rfl) _ sizeHeard (by rfl) (by simp [Value.oneCell']) ?_; intro w18 Y18 s18 g18)
    | (refine wpl_storeg (by rfl) 28 _ _ (by rfl) w.heap.size 10 (by rfl) (.int .u64 n) (by rfl) (by rfl) (by simp [Value.oneCell']) _ _ ([.int .i64 l, .int .i64 v, .int .i64 m, .int .i64 st, .int .i64 po, .int .i64 pr, .int .u32 rd, .int .u32 rp, .int .u32 id, .int .u64 ref, .int .u64 n, .int .u64 rec, .int .u64 xmt]) ((P16.below b17 (by omega)).but g18 (by omega)) (by simp) sizeU64 (by rfl) ?_; intro w19 P19 s19 g19)
    | (refine wpl_load (by rfl) 31 _ (by rfl) w.heap.size (by rfl) 31 _ P19 _ Try.underlying31 rfl _ sizeNtp (by rfl) ?_))
  have H19 := ((H16.below b17 (by omega)).but g18 (by omega)).but g19 (by omega)
  have X19 := ((X16.below b17 (by omega)).but g18 (by omega)).but g19 (by omega)
  have Y19 := Y18.but g19 (by omega)
  have B19 := ((B16.trans (b17.mono B16.size)).trans (g18.below (by omega) (by omega))).trans (g19.below (by omega) (by omega))
  have zY := Y19.lt
  clear H16 P16 B16 b17 g18 g19 X16 Y17 Y18
  with_reducible refine (hRc4 _ _ H19).mono ?_
  rintro e' w20 ⟨rfl, H20, g20⟩
  have P20 := P19.but g20 (by omega)
  have X20 := X19.but g20 (by omega)
  have Y20 := Y19.but g20 (by omega)
  have B20 := B19.trans (g20.below B19.size (by omega))
  have z20 := g20.size
  clear H19 P19 B19 g20 X19 Y19 hRc4
  go_wp2_with (first
    | (refine wpl_alloc (by rfl) 40 (by rfl) (.agg (zH).toArray) (zH) zeroHeard rfl ?_; intro w21 V21 s21 b21)
    | (refine wpl_store (by rfl) 40 _ _ (by rfl) w20.heap.size (by rfl) _ (by rfl) _ rfl 40 _ V21 (by rfl) _ sizeHeard (by rfl) (by simp [Value.oneCell']) ?_; intro w22 V22 s22 g22)
    | (refine wpl_loadf (by rfl) 3 _ (by rfl) w10.heap.size 0 (by rfl) _ _ ((X20.below b21 (by omega)).but g22 (by omega)) _ rfl _ Try.underlying3 rfl ?_)
    | (refine wpl_loadf (by rfl) 3 _ (by rfl) w16.heap.size 0 (by rfl) _ _ ((Y20.below b21 (by omega)).but g22 (by omega)) _ rfl _ Try.underlying3 rfl ?_))
  have H22 := (H20.below b21 (by omega)).but g22 (by omega)
  have P22 := (P20.below b21 (by omega)).but g22 (by omega)
  have B22 := (B20.trans (b21.mono B20.size)).trans (g22.below (by omega) (by omega))
  have q1 := P22.cell (i := 12) rfl
  have q2 := V22.cell (i := 0) rfl
  have hPd := fun W HW => pending_any w1.heap.size 4 now n false xmt d0 d1 d2 d3 d4 d5 d6 d7 W HW
  obtain ⟨N, hN⟩ : ∃ N, N = w22.heap.size := ⟨_, rfl⟩
  have hN1 : N ≤ w22.heap.size := by omega
  have hN2 : w20.heap.size < N := by have := V22.lt; omega
  have hN3 : w.heap.size < w20.heap.size := by omega
  have hN4 : w1.heap.size < N := by omega
  clear H20 P20 B20 b21 g22 X20 Y20 V21 P22 V22 hN z3 z7 z10 z13 z16 z20 s4 s5 s6 s8 s9 s11 s12 s14 s15 s17 s18 s19 s21 s22 zX zY
  go_region_held3 (fun w' => w'.cell? ⟨w.heap.size, 12, none⟩ = some (.int .u64 xmt) ∧ w'.cell? ⟨w20.heap.size, 0, none⟩ = some (.int .i64 A) ∧ Blk w' w1.heap.size 57 (asL 4 now n false xmt d0 d1 d2 d3 d4 d5 d6 d7) ∧ N ≤ w'.heap.size ∧ Below w.heap.size w w') (((try dsimp only); (repeat' (with_reducible apply And.intro)) <;> (go_split_ands; with_reducible first | assumption | (refine drew_cell ?_; assumption) | (refine drew_size ?_; assumption) | (refine Blk.drew ?_; assumption) | (refine Below.drew ?_; assumption) | (refine kept_cell hb (by assumption) ?_; (try dsimp only); omega) | (refine Nat.le_trans ?_ hb.size; assumption) | (refine Blk.below (by assumption) hb ?_; omega) | (refine Below.trans (by assumption) (hb.mono ?_); omega) | (refine Blk.old ?_; assumption) | (refine alloc_cell ?_; assumption) | (refine alloc_size ?_; assumption) | (refine Below.alloc (by assumption) ?_ _; omega) | (refine but_cell hg (by assumption) ?_; omega) | (refine Nat.le_trans ?_ hg.size; assumption) | (refine Below.trans (by assumption) (hg.below ?_ ?_) <;> omega) | (refine Blk.but (by assumption) hg ?_; omega) | (refine Blk.far ?_ ?_; assumption; (try dsimp only); omega) | (refine far_cell ?_ ?_; assumption; (try dsimp only); omega) | (refine far_size ?_; assumption) | (refine Below.setCell (by assumption) ?_ _; (try dsimp only); omega) | (exact realloc_size (by assumption)) | (refine realloc_cell (by assumption) ?_; have hq : N ≤ _ := (by assumption); simp only [World.size_alloc] at hq; omega) | (refine realloc_below (by assumption) ?_; have hq : N ≤ _ := (by assumption); simp only [World.size_alloc] at hq; omega)))) (first
    | (go_at_call 18; (try dsimp only at *); go_split_ands; ((with_reducible refine (hPd _ (by assumption)).mono ?_); rintro e' x1 ⟨rfl, rfl⟩))
    | (go_at_call 11; ((with_reducible refine (awake_any _).mono ?_); rintro e' x2 ⟨rfl, hb⟩)))
  go_split_ands
  go_wp2
  go_ret
  exact ⟨rfl, by assumption⟩
theorem send_any0 (g : Nat) (ver t1 nc : Int) (pd : Bool) (lx c0 c1 c2 c3 c4 c5 c6 c7 now n : Int) (h1 : rdB now = true) (h2 : n ≠ 0) (h3 : n ≠ nc) : sendE now n nc = 0 := by
  rcases sendE_cases now n nc with ⟨g1, g⟩ | ⟨g1, g2, g⟩ | ⟨g1, g2, g3, g⟩ | ⟨g1, g2, g3, g⟩
  · rw [h1] at g1; cases g1
  · omega
  · omega
  · exact g
theorem repLaw (n l v m st po pr rd rp id ref org rec xmt now : Int) (w : World) (hid : 0 ≤ id ∧ id ≤ 4294967295) :
    Calls Try.prog 6 #[.int .u64 n, ntp l v m st po pr rd rp id ref org rec xmt, .int .i64 now] w fun e' w' => e' = .returned (.bool true) ∧ Below w.heap.size w w' := by
  by_cases h0 : n = 0
  · exact rep_skip n l v m st po pr rd rp id ref org rec xmt now w (.inl h0)
  by_cases h1 : n = 1
  · exact rep_skip n l v m st po pr rd rp id ref org rec xmt now w (.inr (.inl h1))
  cases h2 : rdB now with
  | false => exact rep_skip n l v m st po pr rd rp id ref org rec xmt now w (.inr (.inr h2))
  | true =>
    have h0' : (n == 0) = false := by simpa using h0
    have h1' : (n == 1) = false := by simpa using h1
    have hS1 : sendE now 1 0 = 0 := send_any0 0 0 0 0 false 0 0 0 0 0 0 0 0 0 now 1 h2 (by omega) (by omega)
    cases hb : badB (nchk l v m st po pr) m now 1 now with
    | true =>
      have hR : rfK (nchk l v m st po pr) m now 1 now true 1 xmt 0 = 0 := by unfold rfK; rw [if_pos hb]
      exact rep_bad n l v m st po pr rd rp id ref org rec xmt now w h0' h1' h2 hS1 (fun g W HW => receive_any g 4 now 1 true 0 0 0 0 0 0 0 0 0 now l v m st po pr rd rp id ref 1 rec xmt 0 _ W HW (fun h => by omega) hid cb0 cb0 cb0 cb0 cb0 cb0 cb0 cb0 hR rfl)
    | false =>
      have hb2 : badB (nchk l v m st po pr) m now n now = false := by
        obtain ⟨a1, a2, a3, _⟩ := good_parts (fun h => by omega) hb
        unfold badB
        rw [a1, a3]
        simp [a2]
      obtain ⟨A, hA⟩ : ∃ A, A = acK st l id rec xmt now := ⟨_, rfl⟩
      have hAk := ac_k st l id rec xmt now
      rw [← hA] at hAk
      have hR1 : rfK (nchk l v m st po pr) m now 1 now true 1 xmt 0 = 9 := by
        rcases rf_cases (nchk l v m st po pr) m now 1 now true 1 xmt 0 with ⟨g1, g⟩ | ⟨g1, g2, g⟩ | ⟨g1, g2, g3, g⟩ | ⟨g1, g2, g3, g4, g5, g⟩ | ⟨g1, g2, g3, g4, g⟩
        · rw [hb] at g1; cases g1
        · cases g2
        · exact absurd rfl g3
        · omega
        · exact g
      have hR2 : rfK (nchk l v m st po pr) m now 1 now false 1 xmt xmt = 1 := by unfold rfK; rw [if_neg (by rw [hb]; simp), if_pos rfl]
      have hR3 : rfK (nchk l v m st po pr) m now n now true 1 xmt xmt = 2 := by unfold rfK; rw [if_neg (by rw [hb2]; simp), if_neg (by simp), if_pos (by omega)]
      have hRc1 := fun (g : Nat) (W : World) (HW : Blk W g 57 (asL 4 now 1 true 0 0 0 0 0 0 0 0 0)) => receive_any g 4 now 1 true 0 0 0 0 0 0 0 0 0 now l v m st po pr rd rp id ref 1 rec xmt 9 A W HW (fun h => by omega) hid cb0 cb0 cb0 cb0 cb0 cb0 cb0 cb0 hR1 hA.symm
      have hc := fun j => inc_cb (K := A) (j := j) (c := 0) (by omega) (by omega)
      have hc' : ∀ j, CB (incK A j 0 + 1) := fun j => by
        have h1 : incK A j 0 ≤ 1 := by unfold incK; split <;> omega
        have h2 : 0 ≤ incK A j 0 := (hc j).1
        exact ⟨by omega, by omega⟩
      have hRc2 := fun (g : Nat) (W : World) (HW : Blk W g 57 (asL 4 now 1 false xmt (incK A 0 0) (incK A 1 0) (incK A 2 0) (incK A 3 0) (incK A 4 0) (incK A 5 0) (incK A 6 0) (incK A 7 0))) => receive_any g 4 now 1 false xmt _ _ _ _ _ _ _ _ now l v m st po pr rd rp id ref 1 rec xmt 1 A W HW (fun h => by omega) hid (hc 0) (hc 1) (hc 2) (hc 3) (hc 4) (hc 5) (hc 6) (hc 7) hR2 hA.symm
      have hSn := fun (g : Nat) (W : World) (HW : Blk W g 57 (asL 4 now 1 false xmt (incK A 0 0) (incK A 1 0 + 1) (incK A 2 0) (incK A 3 0) (incK A 4 0) (incK A 5 0) (incK A 6 0) (incK A 7 0))) => send_ok g 4 now 1 false xmt _ _ _ _ _ _ _ _ now n W HW (send_any0 0 0 0 1 false 0 0 0 0 0 0 0 0 0 now n h2 h0 h1)
      have hRc3 := fun (g : Nat) (W : World) (HW : Blk W g 57 (asL 4 now n true xmt (incK A 0 0) (incK A 1 0 + 1) (incK A 2 0) (incK A 3 0) (incK A 4 0) (incK A 5 0) (incK A 6 0) (incK A 7 0))) => receive_any g 4 now n true xmt _ _ _ _ _ _ _ _ now l v m st po pr rd rp id ref 1 rec xmt 2 A W HW (fun h => absurd h h0) hid (hc 0) (hc' 1) (hc 2) (hc 3) (hc 4) (hc 5) (hc 6) (hc 7) hR3 hA.symm
      by_cases hx : xmt = 0
      · have hR4 : rfK (nchk l v m st po pr) m now n now true n xmt xmt = 9 := by unfold rfK; rw [if_neg (by rw [hb2]; simp), if_neg (by simp), if_neg (by omega), if_neg (by omega)]
        have hRc4 := fun (g : Nat) (W : World) (HW : Blk W g 57 (asL 4 now n true xmt (incK A 0 0) (incK A 1 0 + 1) (incK A 2 0 + 1) (incK A 3 0) (incK A 4 0) (incK A 5 0) (incK A 6 0) (incK A 7 0))) => receive_any g 4 now n true xmt _ _ _ _ _ _ _ _ now l v m st po pr rd rp id ref n rec xmt 9 A W HW (fun h => absurd h h0) hid (hc 0) (hc' 1) (hc' 2) (hc 3) (hc 4) (hc 5) (hc 6) (hc 7) hR4 hA.symm
        exact rep_new n A l v m st po pr rd rp id ref org rec xmt now _ _ _ _ _ _ _ _ _ _ _ _ _ _ _ _ _ _ _ _ _ w h0' h1' h2 hS1 (decide_eq_false (by omega)) hRc1 hRc2 hSn hRc3 hRc4 (by simpa using hx) (by simp; omega) (by simp; omega)
      · have hR4 : rfK (nchk l v m st po pr) m now n now true n xmt xmt = 3 := by unfold rfK; rw [if_neg (by rw [hb2]; simp), if_neg (by simp), if_neg (by omega), if_pos ⟨hx, rfl⟩]
        have hRc4 := fun (g : Nat) (W : World) (HW : Blk W g 57 (asL 4 now n true xmt (incK A 0 0) (incK A 1 0 + 1) (incK A 2 0 + 1) (incK A 3 0) (incK A 4 0) (incK A 5 0) (incK A 6 0) (incK A 7 0))) => receive_any g 4 now n true xmt _ _ _ _ _ _ _ _ now l v m st po pr rd rp id ref n rec xmt 3 A W HW (fun h => absurd h h0) hid (hc 0) (hc' 1) (hc' 2) (hc 3) (hc 4) (hc 5) (hc 6) (hc 7) hR4 hA.symm
        exact rep_dup n A l v m st po pr rd rp id ref org rec xmt now _ _ _ _ _ _ _ _ _ _ _ _ _ _ _ _ _ _ _ _ _ w h0' h1' h2 hS1 (decide_eq_false (by omega)) hRc1 hRc2 hSn hRc3 hRc4 (by simpa using hx)
namespace lawReplays
set_option maxRecDepth 100000 in
theorem lifted (os : Os) (started : os.Started) (H : Type) (enc : TypeId × Value → H) :
    ReturnsInHanded {} Try.checked os 6 .any (Rows.assocReplaysSpec.pre6 enc Try.prog Try.f6 Rows.assocReplaysRow.domain false) (Rows.assocReplaysSpec.post enc Try.prog Try.f6 false true false false) := by
  refine returnsInHanded_of_change (C := Try.checked) own started (by kernel_rfl) Try.func6
    (ChangeSpec.witness6 (enc := enc) (C := Try.checked) false ⟨#[], #[.int .u64 0, ntp 0 0 0 0 0 0 0 0 0 0 0 0 0, .int .i64 0], []⟩ 8 (by kernel_rfl) (by kernel_rfl) (by kernel_rfl) (by kernel_rfl)) ?_
  intro W base args ds gs before hval0 hW hcnd _
  have hval : ∀ (j : Nat) t v, Try.f6.params[j]? = some t → args[j]? = some v → Value.okWide Try.prog W .any base t v := hval0
  have hW' := hW
  obtain ⟨p, q, hA0, hV, rfl, hfz, hnd⟩ := hW
  have hA : DataW.TrodAll enc Try.prog W 0 (fun _ => true) true Try.f6.params.toList args.toList ds p := hA0
  rw [Try.params6] at hA hval
  obtain ⟨rfl, rfl⟩ := trodVars_none hV
  obtain ⟨v0, v1, v2, d0, d1, d2, p0, p1, p2, rfl, rfl, rfl, h0, h1, h2⟩ := trodAll_three hA
  obtain ⟨n, rfl, rfl, rfl, wf_n⟩ := open_int Try.underlying28 (hval 0 28 v0 rfl rfl) h0
  obtain ⟨l, v, m, st, po, pr, rd, rp, id, ref, org, rec, xmt, rfl, b0, b1, b2, b3, b4, b5, b6, b7, b8, b9, b10, b11, b12⟩ := open_ntp (hval 1 31 v1 rfl rfl) h1
  obtain ⟨now, rfl, rfl, rfl, wf_now⟩ := open_int Try.underlying3 (hval 2 3 v2 rfl rfl) h2
  refine (repLaw n l v m st po pr rd rp id ref org rec xmt now W b8).mono fun e W' ⟨he, hb⟩ => ?_
  subst he
  revert hb
  simp only [List.append_nil] at hW'
  intro hb
  exact ⟨_, rfl, law_post (tb := 4) laidOut Try.underlying4 rfl (by rw [Try.params6]; intro t ht; revert ht; revert t; exact of_decide_eq_true (by kernel_rfl)) rfl rfl rfl rfl hW' hb⟩
theorem over : Rows.assocReplaysRow.holds Try.pinned (OpenSpec.ofChange Rows.assocReplaysSpec) :=
  OpenClaim.holds_of_wide 6 Try.f6 rfl rfl rfl rfl rfl rfl rfl ⟨rfl, rfl, rfl, rfl, rfl⟩ rfl rfl rfl rfl rfl (by kernel_rfl) Try.func6 (by kernel_rfl)
    (of_decide_eq_true (by kernel_rfl)) (by unfold Func.isWrapper; first | (rw [if_pos (by decide +kernel)]; kernel_rfl) | (rw [if_neg (by decide +kernel)]; exact ⟨rfl, rfl⟩))
    (fun os started H enc _ => lifted os started H enc)
theorem proved : Rows.AssocReplaysSaid :=
  over
#print axioms proved
end lawReplays
end Go.Proofs.Ytickoncgnjgciaa
