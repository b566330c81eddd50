/- AssocInstants (P31.3): for every input the law returns true, and its arguments read afterwards as before. No condition. -/
import Derived.Test.YtickoncgnjgciaaAsK
import Derived.Test.YtickoncgnjgciaaHeld
namespace Go.Proofs.Ytickoncgnjgciaa
open Go.ChangeShapes Go.WideShapes Go.ChangeAt Go.RowKit Go.Joins
set_option linter.unusedSimpArgs false
set_option linter.unusedVariables false
theorem sizeQuad' : (Try.prog.info? 38).map (·.size) = some 4 := by kernel_rfl
abbrev qL (a b d e : Int) : List Value := [.int .i64 a, .int .i64 b, .int .i64 d, .int .i64 e]
theorem zeroQuad : (Try.prog.info? 38).map (·.zero) = some (some (.agg (qL 0 0 0 0).toArray)) := by kernel_rfl
set_option maxRecDepth 100000 in
set_option maxHeartbeats 4000000 in
theorem ins_skip (l v m st po pr rd rp id ref org rec xmt sent now : Int) (w : World) (h : rdB sent = false ∨ rdB now = false) :
    Calls Try.prog 7 #[ntp l v m st po pr rd rp id ref org rec xmt, .int .i64 sent, .int .i64 now] w fun e' w' => e' = .returned (.bool true) ∧ Below w.heap.size w w' := by
  cases h0 : rdB sent with
  | false =>
    clear h
    go_enter Try.func7, Try.ntmps7
    go_wp2_with (first
      | (refine wpl_box (by rfl) 31 _ (by rfl) _ ([.int .i64 l, .int .i64 v, .int .i64 m, .int .i64 st, .int .i64 po, .int .i64 pr, .int .u32 rd, .int .u32 rp, .int .u32 id, .int .u64 ref, .int .u64 org, .int .u64 rec, .int .u64 xmt]) (by rfl) rfl ?_; intro w1 P1 s1 b1)
      | (go_at_call 9; ((with_reducible refine (new_ok 4 _ (by omega) (by omega)).mono ?_); rintro e' w2 ⟨rfl, H2, b2⟩; (have P2 := P1.below b2 (by omega)); (have z2 := H2.lt)))
      | (go_at_call 21; ((with_reducible refine (lin_any _ _).mono ?_); rintro e w1 ⟨rfl, rfl⟩)))
    have B2 := b1.trans (b2.mono b1.size)
    clear P1 b1 b2 H2
    with_reducible refine (awake_any _).mono ?_
    rintro e wa ⟨rfl, ba⟩
    have Ba := (B2).trans (ba.mono (B2).size)
    go_wp2
    go_ret
    exact ⟨rfl, Ba⟩
  | true =>
    have h1 : rdB now = false := by rcases h with h | h; rw [h0] at h; cases h; exact h
    clear h
    go_enter Try.func7, Try.ntmps7
    go_wp2_with (first
      | (refine wpl_box (by rfl) 31 _ (by rfl) _ ([.int .i64 l, .int .i64 v, .int .i64 m, .int .i64 st, .int .i64 po, .int .i64 pr, .int .u32 rd, .int .u32 rp, .int .u32 id, .int .u64 ref, .int .u64 org, .int .u64 rec, .int .u64 xmt]) (by rfl) rfl ?_; intro w1 P1 s1 b1)
      | (go_at_call 9; ((with_reducible refine (new_ok 4 _ (by omega) (by omega)).mono ?_); rintro e' w2 ⟨rfl, H2, b2⟩; (have P2 := P1.below b2 (by omega)); (have z2 := H2.lt)))
      | (go_at_call 21; ((with_reducible refine (lin_any _ _).mono ?_); rintro e w1 ⟨rfl, rfl⟩)))
    have B2 := b1.trans (b2.mono b1.size)
    clear P1 b1 b2 H2
    with_reducible refine (awake_any _).mono ?_
    rintro e wa ⟨rfl, ba⟩
    have Ba := (B2).trans (ba.mono (B2).size)
    go_wp2
    go_ret
    exact ⟨rfl, Ba⟩
set_option maxRecDepth 100000 in
set_option maxHeartbeats 4000000 in
theorem ins_not (l v m st po pr rd rp id ref org rec xmt sent now K : Int) (s : ByteArray) (w : World) (h1 : rdB sent = true) (h2 : rdB now = true) (hS1 : sendE sent 1 0 = 0) (hK : (K != 7) = true)
    (hRc1 : ∀ (g : Nat) (W : World), Blk W g 57 (asL 4 sent 1 true 0 0 0 0 0 0 0 0 0) → Calls Try.prog 14 #[.pointer (some ⟨g, 0, none⟩), ntp l v m st po pr rd rp id ref 1 rec xmt, .int .i64 now] W fun e' w' => e' = .returned (.agg (hdL K s 0 0 0 0).toArray) ∧ But g W w') :
    Calls Try.prog 7 #[ntp l v m st po pr rd rp id ref org rec xmt, .int .i64 sent, .int .i64 now] w fun e' w' => e' = .returned (.bool true) ∧ Below w.heap.size w w' := by
  go_enter Try.func7, Try.ntmps7
  go_wp2_with (first
    | (refine wpl_box (by rfl) 31 _ (by rfl) _ ([.int .i64 l, .int .i64 v, .int .i64 m, .int .i64 st, .int .i64 po, .int .i64 pr, .int .u32 rd, .int .u32 rp, .int .u32 id, .int .u64 ref, .int .u64 org, .int .u64 rec, .int .u64 xmt]) (by rfl) rfl ?_; intro w1 P1 s1 b1)
    | (go_at_call 9; ((with_reducible refine (new_ok 4 _ (by omega) (by omega)).mono ?_); rintro e' w2 ⟨rfl, H2, b2⟩; (have P2 := P1.below b2 (by omega)); (have z2 := H2.lt)))
    | (go_at_call 21; ((with_reducible refine (lin_any _ _).mono ?_); rintro e w1 ⟨rfl, rfl⟩)))
  have B2 := b1.trans (b2.mono b1.size)
  clear P1 b1 b2
  with_reducible refine (send_ok w1.heap.size 4 0 0 false 0 0 0 0 0 0 0 0 0 sent 1 w2 H2 hS1).mono ?_
  rintro e' w3 ⟨rfl, H3, g3⟩
  have P3 := P2.but g3 (by omega)
  have B3 := B2.trans (g3.below B2.size (by omega))
  have z3 := g3.size
  clear H2 P2 B2 g3
  go_wp2_with (first
    | (refine wpl_alloc (by rfl) 31 (by rfl) (.agg (zN).toArray) (zN) zeroNtp rfl ?_; intro w4 J4 s4 b4)
    | (refine wpl_store (by rfl) 31 _ _ (by rfl) w3.heap.size (by rfl) _ (by rfl) _ rfl 31 _ J4 (by rfl) _ sizeNtp (by rfl) (by simp [Value.oneCell']) ?_; intro w5 J5 s5 g5)
    | (refine wpl_storeg (by rfl) 28 _ _ (by rfl) w.heap.size 10 (by rfl) (.int .u64 1) (by rfl) (by rfl) (by simp [Value.oneCell']) _ _ ([.int .i64 l, .int .i64 v, .int .i64 m, .int .i64 st, .int .i64 po, .int .i64 pr, .int .u32 rd, .int .u32 rp, .int .u32 id, .int .u64 ref, .int .u64 1, .int .u64 rec, .int .u64 xmt]) ((P3.below b4 (by omega)).but g5 (by omega)) (by simp) sizeU64 (by rfl) ?_; intro w6 P6 s6 g6)
    | (refine wpl_load (by rfl) 31 _ (by rfl) w.heap.size (by rfl) 31 _ P6 _ Try.underlying31 rfl _ sizeNtp (by rfl) ?_))
  have H6 := ((H3.below b4 (by omega)).but g5 (by omega)).but g6 (by omega)
  have B6 := ((B3.trans (b4.mono B3.size)).trans (g5.below (by omega) (by omega))).trans (g6.below (by omega) (by omega))
  clear H3 P3 B3 b4 g5 g6 J4 J5
  with_reducible refine (hRc1 _ _ H6).mono ?_
  rintro e' w7 ⟨rfl, g7⟩
  have P7 := P6.but g7 (by omega)
  have B7 := B6.trans (g7.below B6.size (by omega))
  have z7 := g7.size
  clear H6 P6 B6 g7 hRc1
  go_wp2_with (first
    | (refine wpl_alloc (by rfl) 40 (by rfl) (.agg (zH).toArray) (zH) zeroHeard rfl ?_; intro w8 J8 s8 b8)
    | (refine wpl_store (by rfl) 40 _ _ (by rfl) w7.heap.size (by rfl) _ (by rfl) _ rfl 40 _ J8 (by rfl) _ sizeHeard (by rfl) (by simp [Value.oneCell']) ?_; intro w9 J9 s9 g9)
    | (refine wpl_loadf (by rfl) 3 _ (by rfl) w7.heap.size 0 (by rfl) _ _ J9 _ rfl _ Try.underlying3 rfl ?_)
    | (refine wpl_loadm (by rfl) 38 _ (by rfl) w7.heap.size 2 (by rfl) _ _ J9 _ _ Try.underlying38 rfl _ sizeQuad' (by rfl) (by rfl) ?_))
  have B9 := (B7.trans (b8.mono B7.size)).trans (g9.below (by omega) (by omega))
  clear P7 B7 b8 g9 J8 J9
  with_reducible refine (awake_any _).mono ?_
  rintro e wa ⟨rfl, ba⟩
  have Ba := (B9).trans (ba.mono (B9).size)
  go_wp2
  go_ret
  exact ⟨rfl, Ba⟩
theorem ins_diff {s now : Int} (h0 : 0 ≤ s) (h1 : s ≤ 18446744073709551615) (hn : rdB now = true) : 0 ≤ diffN (ofN (3900000000000000000 + insT s now)) s ∧ diffN (ofN (3900000000000000000 + insT s now)) s ≤ 4 := by
  have e : 3900000000000000000 + insT s now = tmV s (3900000000000000000 + now) := by unfold insT; omega
  rw [e]
  obtain ⟨a, b, c⟩ := near_diff (p := 3900000000000000000 + now) h0 h1
  omega
set_option maxRecDepth 100000 in
set_option maxHeartbeats 8000000 in
theorem ins_yes (l v m st po pr rd rp id ref org rec xmt sent now a b : Int) (w : World) (h1 : rdB sent = true) (h2 : rdB now = true) (hS1 : sendE sent 1 0 = 0) (ha : rdB a = true) (hb0 : rdB b = true) (hab : a ≤ b) (hsn : ¬ now < sent)
    (hD1 : 0 ≤ diffN (ofN (3900000000000000000 + a)) rec ∧ diffN (ofN (3900000000000000000 + a)) rec ≤ 4) (hD2 : 0 ≤ diffN (ofN (3900000000000000000 + b)) xmt ∧ diffN (ofN (3900000000000000000 + b)) xmt ≤ 4)
    (hRc1 : ∀ (g : Nat) (W : World), Blk W g 57 (asL 4 sent 1 true 0 0 0 0 0 0 0 0 0) → Calls Try.prog 14 #[.pointer (some ⟨g, 0, none⟩), ntp l v m st po pr rd rp id ref 1 rec xmt, .int .i64 now] W fun e' w' => e' = .returned (.agg (hdL 7 ⟨#[]⟩ sent a b now).toArray) ∧ But g W w') :
    Calls Try.prog 7 #[ntp l v m st po pr rd rp id ref org rec xmt, .int .i64 sent, .int .i64 now] w fun e' w' => e' = .returned (.bool true) ∧ Below w.heap.size w w' := by
  have hd1 : decide (now < sent) = false := decide_eq_false hsn
  have hd2 : decide (b < a) = false := decide_eq_false (by omega)
  have hw1 : IntKind.i64.wrap (3900000000000000000 + a) = 3900000000000000000 + a := by have := rdB_iff.1 ha; rw [IntKind.wrap_i64]; omega
  have hw2 : IntKind.i64.wrap (3900000000000000000 + b) = 3900000000000000000 + b := by have := rdB_iff.1 hb0; rw [IntKind.wrap_i64]; omega
  have hX := fun W => of_any (3900000000000000000 + a) W (by have := rdB_iff.1 ha; omega) (by have := rdB_iff.1 ha; omega)
  have hY := fun W => of_any (3900000000000000000 + b) W (by have := rdB_iff.1 hb0; omega) (by have := rdB_iff.1 hb0; omega)
  obtain ⟨X, hXe⟩ : ∃ X, X = ofN (3900000000000000000 + a) := ⟨_, rfl⟩
  obtain ⟨Y, hYe⟩ : ∃ Y, Y = ofN (3900000000000000000 + b) := ⟨_, rfl⟩
  rw [← hXe] at hX hD1
  rw [← hYe] at hY hD2
  have hU := fun W => diff_any X rec W
  have hV := fun W => diff_any Y xmt W
  generalize diffN X rec = U at hU hD1
  generalize diffN Y xmt = V at hV hD2
  obtain ⟨u1, u2⟩ := hD1
  obtain ⟨v1, v2⟩ := hD2
  clear hXe hYe hab hsn
  go_enter Try.func7, Try.ntmps7
  go_wp2_with (first
    | (refine wpl_box (by rfl) 31 _ (by rfl) _ ([.int .i64 l, .int .i64 v, .int .i64 m, .int .i64 st, .int .i64 po, .int .i64 pr, .int .u32 rd, .int .u32 rp, .int .u32 id, .int .u64 ref, .int .u64 org, .int .u64 rec, .int .u64 xmt]) (by rfl) rfl ?_; intro w1 P1 s1 b1)
    | (go_at_call 9; ((with_reducible refine (new_ok 4 _ (by omega) (by omega)).mono ?_); rintro e' w2 ⟨rfl, H2, b2⟩; (have P2 := P1.below b2 (by omega)); (have z2 := H2.lt)))
    | (go_at_call 21; ((with_reducible refine (lin_any _ _).mono ?_); rintro e w1 ⟨rfl, rfl⟩)))
  have B2 := b1.trans (b2.mono b1.size)
  clear P1 b1 b2
  with_reducible refine (send_ok w1.heap.size 4 0 0 false 0 0 0 0 0 0 0 0 0 sent 1 w2 H2 hS1).mono ?_
  rintro e' w3 ⟨rfl, H3, g3⟩
  have P3 := P2.but g3 (by omega)
  have B3 := B2.trans (g3.below B2.size (by omega))
  have z3 := g3.size
  clear H2 P2 B2 g3
  go_wp2_with (first
    | (refine wpl_alloc (by rfl) 31 (by rfl) (.agg (zN).toArray) (zN) zeroNtp rfl ?_; intro w4 J4 s4 b4)
    | (refine wpl_store (by rfl) 31 _ _ (by rfl) w3.heap.size (by rfl) _ (by rfl) _ rfl 31 _ J4 (by rfl) _ sizeNtp (by rfl) (by simp [Value.oneCell']) ?_; intro w5 J5 s5 g5)
    | (refine wpl_storeg (by rfl) 28 _ _ (by rfl) w.heap.size 10 (by rfl) (.int .u64 1) (by rfl) (by rfl) (by simp [Value.oneCell']) _ _ ([.int .i64 l, .int .i64 v, .int .i64 m, .int .i64 st, .int .i64 po, .int .i64 pr, .int .u32 rd, .int .u32 rp, .int .u32 id, .int .u64 ref, .int .u64 1, .int .u64 rec, .int .u64 xmt]) ((P3.below b4 (by omega)).but g5 (by omega)) (by simp) sizeU64 (by rfl) ?_; intro w6 P6 s6 g6)
    | (refine wpl_load (by rfl) 31 _ (by rfl) w.heap.size (by rfl) 31 _ P6 _ Try.underlying31 rfl _ sizeNtp (by rfl) ?_))
  have H6 := ((H3.below b4 (by omega)).but g5 (by omega)).but g6 (by omega)
  have B6 := ((B3.trans (b4.mono B3.size)).trans (g5.below (by omega) (by omega))).trans (g6.below (by omega) (by omega))
  clear H3 P3 B3 b4 g5 g6 J4 J5
  with_reducible refine (hRc1 _ _ H6).mono ?_
  rintro e' w7 ⟨rfl, g7⟩
  have P7 := P6.but g7 (by omega)
  have B7 := B6.trans (g7.below B6.size (by omega))
  have z7 := g7.size
  clear H6 P6 B6 g7 hRc1
  go_wp2_with (first
    | (refine wpl_alloc (by rfl) 38 (by rfl) (.agg (qL 0 0 0 0).toArray) (qL 0 0 0 0) zeroQuad rfl ?_; intro w10 K10 s10 b10)
    | (refine wpl_store (by rfl) 38 _ _ (by rfl) w9.heap.size (by rfl) _ (by rfl) _ rfl 38 _ K10 (by rfl) _ sizeQuad' (by rfl) (by simp [Value.oneCell']) ?_; intro w11 K11 s11 g11)
    | (refine wpl_alloc (by rfl) 40 (by rfl) (.agg (zH).toArray) (zH) zeroHeard rfl ?_; intro w8 J8 s8 b8)
    | (refine wpl_store (by rfl) 40 _ _ (by rfl) w7.heap.size (by rfl) _ (by rfl) _ rfl 40 _ J8 (by rfl) _ sizeHeard (by rfl) (by simp [Value.oneCell']) ?_; intro w9 J9 s9 g9)
    | (refine wpl_loadf (by rfl) 3 _ (by rfl) w7.heap.size 0 (by rfl) _ _ J9 _ rfl _ Try.underlying3 rfl ?_)
    | (refine wpl_loadm (by rfl) 38 _ (by rfl) w7.heap.size 2 (by rfl) _ _ J9 _ _ Try.underlying38 rfl _ sizeQuad' (by rfl) (by rfl) ?_)
    | (refine wpl_loadf (by rfl) 3 _ (by rfl) w9.heap.size 0 (by rfl) _ _ K11 _ rfl _ Try.underlying3 rfl ?_) | (refine wpl_loadf (by rfl) 3 _ (by rfl) w9.heap.size 1 (by rfl) _ _ K11 _ rfl _ Try.underlying3 rfl ?_) | (refine wpl_loadf (by rfl) 3 _ (by rfl) w9.heap.size 2 (by rfl) _ _ K11 _ rfl _ Try.underlying3 rfl ?_) | (refine wpl_loadf (by rfl) 3 _ (by rfl) w9.heap.size 3 (by rfl) _ _ K11 _ rfl _ Try.underlying3 rfl ?_)
    | (go_at_call 21; ((with_reducible refine (lin_any _ _).mono ?_); rintro e w1 ⟨rfl, rfl⟩)))
  have B11 := (((B7.trans (b8.mono B7.size)).trans (g9.below (by omega) (by omega))).trans (b10.mono (by omega))).trans (g11.below (by omega) (by omega))
  have P11 := (((P7.below b8 (by omega)).but g9 (by omega)).below b10 (by omega)).but g11 (by omega)
  have q1 := P11.cell (i := 11) rfl
  have q2 := P11.cell (i := 12) rfl
  have q3 := K11.cell (i := 1) rfl
  have q4 := K11.cell (i := 2) rfl
  obtain ⟨N, hN⟩ : ∃ N, N = w11.heap.size := ⟨_, rfl⟩
  have hN1 : N ≤ w11.heap.size := by omega
  have hN2 : w9.heap.size < N := by have := K11.lt; omega
  have hN3 : w.heap.size < w9.heap.size := by omega
  clear P7 B7 b8 g9 b10 g11 J8 J9 K10 K11 P11 hN z3 z7 s4 s5 s6 s8 s9 s10 s11
  go_region_held3 (fun w' => w'.cell? ⟨w.heap.size, 11, none⟩ = some (.int .u64 rec) ∧ w'.cell? ⟨w.heap.size, 12, none⟩ = some (.int .u64 xmt) ∧ w'.cell? ⟨w9.heap.size, 1, none⟩ = some (.int .i64 a) ∧ w'.cell? ⟨w9.heap.size, 2, none⟩ = some (.int .i64 b) ∧ N ≤ w'.heap.size ∧ Below w.heap.size w w') (((try dsimp only); (repeat' (with_reducible apply And.intro)) <;> (go_split_ands; with_reducible first | assumption | (refine drew_cell ?_; assumption) | (refine drew_size ?_; assumption) | (refine Blk.drew ?_; assumption) | (refine Below.drew ?_; assumption) | (refine kept_cell hb (by assumption) ?_; (try dsimp only); omega) | (refine Nat.le_trans ?_ hb.size; assumption) | (refine Blk.below (by assumption) hb ?_; omega) | (refine Below.trans (by assumption) (hb.mono ?_); omega) | (refine Blk.old ?_; assumption) | (refine alloc_cell ?_; assumption) | (refine alloc_size ?_; assumption) | (refine Below.alloc (by assumption) ?_ _; omega) | (refine but_cell hg (by assumption) ?_; omega) | (refine Nat.le_trans ?_ hg.size; assumption) | (refine Below.trans (by assumption) (hg.below ?_ ?_) <;> omega) | (refine Blk.but (by assumption) hg ?_; omega) | (refine Blk.far ?_ ?_; assumption; (try dsimp only); omega) | (refine far_cell ?_ ?_; assumption; (try dsimp only); omega) | (refine far_size ?_; assumption) | (refine Below.setCell (by assumption) ?_ _; (try dsimp only); omega) | (exact realloc_size (by assumption)) | (refine realloc_cell (by assumption) ?_; have hq : N ≤ _ := (by assumption); simp only [World.size_alloc] at hq; omega) | (refine realloc_below (by assumption) ?_; have hq : N ≤ _ := (by assumption); simp only [World.size_alloc] at hq; omega)))) (first
    | (go_at_call 22; ((with_reducible refine (hX _).mono ?_); rintro e' x1 ⟨rfl, hb⟩))
    | (go_at_call 22; ((with_reducible refine (hY _).mono ?_); rintro e' x2 ⟨rfl, hb⟩))
    | (go_at_call 23; ((with_reducible refine (hU _).mono ?_); rintro e' x3 ⟨rfl, rfl⟩))
    | (go_at_call 23; ((with_reducible refine (hV _).mono ?_); rintro e' x4 ⟨rfl, rfl⟩)))
  all_goals
    go_split_ands
    clear B11
    go_wp2_with fail
    with_reducible refine (awake_any _).mono ?_
    rintro e' wa ⟨rfl, ba⟩
    go_wp2
    go_ret
    exact ⟨rfl, Below.trans (by assumption) (ba.mono (Below.size (B := w.heap.size) (w := w) (by assumption)))⟩
theorem insLaw (l v m st po pr rd rp id ref org rec xmt sent now : Int) (w : World) (hid : 0 ≤ id ∧ id ≤ 4294967295) (hrec : 0 ≤ rec ∧ rec ≤ 18446744073709551615) (hxmt : 0 ≤ xmt ∧ xmt ≤ 18446744073709551615) :
    Calls Try.prog 7 #[ntp l v m st po pr rd rp id ref org rec xmt, .int .i64 sent, .int .i64 now] w fun e' w' => e' = .returned (.bool true) ∧ Below w.heap.size w w' := by
  cases h1 : rdB sent with
  | false => exact ins_skip l v m st po pr rd rp id ref org rec xmt sent now w (.inl h1)
  | true =>
    cases h2 : rdB now with
    | false => exact ins_skip l v m st po pr rd rp id ref org rec xmt sent now w (.inr h2)
    | true =>
      have hS1 : sendE sent 1 0 = 0 := by
        rcases sendE_cases sent 1 0 with ⟨g1, g⟩ | ⟨g1, g2, g⟩ | ⟨g1, g2, g3, g⟩ | ⟨g1, g2, g3, g⟩
        · rw [h1] at g1; cases g1
        · omega
        · omega
        · exact g
      obtain ⟨R, hR⟩ : ∃ R, R = rfK (nchk l v m st po pr) m now 1 sent true 1 xmt 0 := ⟨_, rfl⟩
      obtain ⟨A, hA⟩ : ∃ A, A = acK st l id rec xmt now := ⟨_, rfl⟩
      have hRc := fun (g : Nat) (W : World) (HW : Blk W g 57 (asL 4 sent 1 true 0 0 0 0 0 0 0 0 0)) => receive_any g 4 sent 1 true 0 0 0 0 0 0 0 0 0 now l v m st po pr rd rp id ref 1 rec xmt R A W HW (fun h => by omega) hid cb0 cb0 cb0 cb0 cb0 cb0 cb0 cb0 hR.symm hA.symm
      by_cases h7 : R = 9 ∧ A = 7
      · obtain ⟨rfl, rfl⟩ := h7
        have hac := ac_cases st l id rec xmt now
        rw [← hA] at hac
        obtain ⟨g1, g2, g3, g4, g5⟩ : ksB st id = false ∧ syncB l st = true ∧ insB rec now = true ∧ insB xmt now = true ∧ insV rec now ≤ insV xmt now := by
          rcases hac with ⟨g1, g⟩ | ⟨g1, g2, g⟩ | ⟨g1, g2, g3, g⟩ | ⟨g1, g2, g3, g4, g⟩ | ⟨g1, g2, g3, g4, g5, g⟩ | ⟨g1, g2, g3, g4, g5, g⟩
          · omega
          · omega
          · omega
          · omega
          · omega
          · exact ⟨g1, g2, g3, g4, g5⟩
        have e1 : insV rec now = insT rec now := by unfold insV; rw [g3]; rfl
        have e2 : insV xmt now = insT xmt now := by unfold insV; rw [g4]; rfl
        have hns : ¬ now < sent := by
          have hb : badB (nchk l v m st po pr) m now 1 sent = false := by
            rcases rf_cases (nchk l v m st po pr) m now 1 sent true 1 xmt 0 with ⟨a1, a⟩ | ⟨a1, a2, a⟩ | ⟨a1, a2, a3, a⟩ | ⟨a1, a2, a3, a4, a5, a⟩ | ⟨a1, a2, a3, a4, a⟩ <;> first | exact a1 | omega
          obtain ⟨_, _, _, a | ⟨_, _, a⟩⟩ := good_parts (fun h => by omega) hb
          · omega
          · exact of_decide_eq_false a
        rw [ksS_no g1] at hRc
        refine ins_yes l v m st po pr rd rp id ref org rec xmt sent now (insV rec now) (insV xmt now) w h1 h2 hS1 (by rw [e1]; exact g3) (by rw [e2]; exact g4) g5 hns (by rw [e1]; exact ins_diff hrec.1 hrec.2 h2) (by rw [e2]; exact ins_diff hxmt.1 hxmt.2 h2) ?_
        exact fun g W HW => (hRc g W HW).mono fun e w' ⟨a1, _, a3⟩ => ⟨a1, a3⟩
      · have hq : ∀ x, kQ R A x = 0 := fun x => by
          unfold kQ
          by_cases a1 : R = 9
          · rw [if_pos a1, if_neg (fun a2 => h7 ⟨a1, a2⟩)]
          · rw [if_neg a1]
        have hk : kK R A ≠ 7 := by
          unfold kK
          by_cases a1 : R = 9
          · rw [if_pos a1]; exact fun a2 => h7 ⟨a1, a2⟩
          · rw [if_neg a1]
            rcases rf_cases (nchk l v m st po pr) m now 1 sent true 1 xmt 0 with ⟨_, a⟩ | ⟨_, _, a⟩ | ⟨_, _, _, a⟩ | ⟨_, _, _, _, _, a⟩ | ⟨_, _, _, _, a⟩ <;> omega
        simp only [rcL, hq] at hRc
        exact ins_not l v m st po pr rd rp id ref org rec xmt sent now (kK R A) _ w h1 h2 hS1 (by simpa using hk) fun g W HW => (hRc g W HW).mono fun e w' ⟨a1, _, a3⟩ => ⟨a1, a3⟩
namespace lawInstants
set_option maxRecDepth 100000 in
theorem lifted (os : Os) (started : os.Started) (H : Type) (enc : TypeId × Value → H) :
    ReturnsInHanded {} Try.checked os 7 .any (Rows.assocInstantsSpec.pre6 enc Try.prog Try.f7 Rows.assocInstantsRow.domain false) (Rows.assocInstantsSpec.post enc Try.prog Try.f7 false true false false) := by
  refine returnsInHanded_of_change (C := Try.checked) own started (by kernel_rfl) Try.func7
    (ChangeSpec.witness6 (enc := enc) (C := Try.checked) false ⟨#[], #[ntp 0 0 0 0 0 0 0 0 0 0 0 0 0, .int .i64 0, .int .i64 0], []⟩ 8 (by kernel_rfl) (by kernel_rfl) (by kernel_rfl) (by kernel_rfl)) ?_
  intro W base args ds gs before hval0 hW hcnd _
  have hval : ∀ (j : Nat) t v, Try.f7.params[j]? = some t → args[j]? = some v → Value.okWide Try.prog W .any base t v := hval0
  have hW' := hW
  obtain ⟨p, q, hA0, hV, rfl, hfz, hnd⟩ := hW
  have hA : DataW.TrodAll enc Try.prog W 0 (fun _ => true) true Try.f7.params.toList args.toList ds p := hA0
  rw [Try.params7] at hA hval
  obtain ⟨rfl, rfl⟩ := trodVars_none hV
  obtain ⟨v0, v1, v2, d0, d1, d2, p0, p1, p2, rfl, rfl, rfl, h0, h1, h2⟩ := trodAll_three hA
  obtain ⟨l, v, m, st, po, pr, rd, rp, id, ref, org, rec, xmt, rfl, b0, b1, b2, b3, b4, b5, b6, b7, b8, b9, b10, b11, b12⟩ := open_ntp (hval 0 31 v0 rfl rfl) h0
  obtain ⟨sent, rfl, rfl, rfl, wf_sent⟩ := open_int Try.underlying3 (hval 1 3 v1 rfl rfl) h1
  obtain ⟨now, rfl, rfl, rfl, wf_now⟩ := open_int Try.underlying3 (hval 2 3 v2 rfl rfl) h2
  refine (insLaw l v m st po pr rd rp id ref org rec xmt sent now W b8 b11 b12).mono fun e W' ⟨he, hb⟩ => ?_
  subst he
  revert hb
  simp only [List.append_nil] at hW'
  intro hb
  exact ⟨_, rfl, law_post (tb := 4) laidOut Try.underlying4 rfl (by rw [Try.params7]; intro t ht; revert ht; revert t; exact of_decide_eq_true (by kernel_rfl)) rfl rfl rfl rfl hW' hb⟩
theorem over : Rows.assocInstantsRow.holds Try.pinned (OpenSpec.ofChange Rows.assocInstantsSpec) :=
  OpenClaim.holds_of_wide 7 Try.f7 rfl rfl rfl rfl rfl rfl rfl ⟨rfl, rfl, rfl, rfl, rfl⟩ rfl rfl rfl rfl rfl (by kernel_rfl) Try.func7 (by kernel_rfl)
    (of_decide_eq_true (by kernel_rfl)) (by unfold Func.isWrapper; first | (rw [if_pos (by decide +kernel)]; kernel_rfl) | (rw [if_neg (by decide +kernel)]; exact ⟨rfl, rfl⟩))
    (fun os started H enc _ => lifted os started H enc)
theorem proved : Rows.AssocInstantsSaid :=
  over
#print axioms proved
end lawInstants
end Go.Proofs.Ytickoncgnjgciaa
